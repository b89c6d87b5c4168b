/- What a call may turn in memory; rules that serve for all functions. -/
import Derived.Test.YtielnpmnnifjcaaClone
import Derived.Test.YtielnpmnnifjcaaRegC
import Derived.Test.YtielnpmnnifjcaaRegH
namespace Go.Proofs.Ytielnpmnnifjcaa.By
open Go.RowKit Go.Proofs.Ytielnpmnnifjcaa.Reg Go.Proofs.YtielnpmnnifjcaaW.PrintWords Go.Proofs.YtielnpmnnifjcaaW.PrintLast Go.Proofs.YtielnpmnnifjcaaW.PrintMore
set_option linter.unusedVariables false
set_option linter.unusedSimpArgs false

/-- All but the blocks of S, and what has come, lies as it lay. -/
structure Chg (w w' : World) (S : Nat → Prop) : Prop where
  os : w'.os = w.os
  tape : w'.tape = w.tape
  output : w'.output = w.output
  size : w.heap.size ≤ w'.heap.size
  block : ∀ k, k < w.heap.size → ¬ S k → w'.heap[k]? = w.heap[k]?
section
variable {w w' w'' : World} {S S' : Nat → Prop}
theorem Chg.of_ext (h : Ext w w') (S : Nat → Prop) : Chg w w' S := ⟨h.os, h.tape, h.output, h.size, fun k hk _ => h.block k hk⟩
theorem Chg.refl (w : World) (S : Nat → Prop) : Chg w w S := Chg.of_ext (Ext.refl w) S
theorem Chg.mono (h : Chg w w' S) (hs : ∀ k, S k → S' k) : Chg w w' S' := ⟨h.os, h.tape, h.output, h.size, fun k hk hn => h.block k hk (fun e => hn (hs k e))⟩
theorem Chg.trans (h : Chg w w' S) (k : Chg w' w'' S) : Chg w w'' S :=
  ⟨k.os.trans h.os, k.tape.trans h.tape, k.output.trans h.output, Nat.le_trans h.size k.size, fun j hj hn => (k.block j (Nat.lt_of_lt_of_le hj h.size) hn).trans (h.block j hj hn)⟩
/-- The second may turn what is new since the first. -/
theorem Chg.thenN (h : Chg w w' S) (k : Chg w' w'' S') (hs : ∀ j, S' j → S j ∨ w.heap.size ≤ j) : Chg w w'' S :=
  ⟨k.os.trans h.os, k.tape.trans h.tape, k.output.trans h.output, Nat.le_trans h.size k.size, fun j hj hn => (k.block j (Nat.lt_of_lt_of_le hj h.size) (fun e => by
    rcases hs j e with h1 | h1
    · exact hn h1
    · omega)).trans (h.block j hj hn)⟩
theorem Chg.ext (h : Chg w w' S) (k : Ext w' w'') : Chg w w'' S := h.trans (Chg.of_ext k S)
theorem Chg.of_wrote {b : Nat} (h : Wrote w w' b) (hb : S b) : Chg w w' S := ⟨h.os, h.tape, h.output, Nat.le_of_eq h.size.symm, fun k _ hn => h.block k (fun e => hn (e ▸ hb))⟩
theorem Chg.of_grown {row : Option Nat} (h : w.grownBy w' row) (hr : ∀ k, row = some k → S k) : Chg w w' S := ⟨h.os, h.tape, h.output, h.size, fun k hk hn => h.block k hk (fun e => hn (hr k e.symm))⟩
theorem Chg.of_below {B : Nat} (h : Below B w w') (hs : ∀ k, k < w.heap.size → B ≤ k → S k) : Chg w w' S := ⟨h.os, h.tape, h.output, h.size, fun k hk hn => h.block k (by
  rcases Nat.lt_or_ge k B with h1 | h1
  · exact h1
  · exact absurd (hs k hk h1) hn)⟩
theorem Chg.to_below {B : Nat} (h : Chg w w' S) (hB : B ≤ w.heap.size) (hs : ∀ k, S k → B ≤ k) : Below B w w' := ⟨h.os, h.tape, h.output, h.size, fun k hk => h.block k (by omega) (fun e => by have := hs k e; omega)⟩
theorem Chg.to_ext {w0 : World} (h : Chg w w' S) (he : Ext w0 w) (hs : ∀ k, S k → w0.heap.size ≤ k) : Ext w0 w' := Below.trans he (h.to_below he.size hs)
theorem Chg.blk (h : Chg w w' S) {b : Nat} {cs : Array Value} {t : TypeId} (hb : Blk w b cs t) (hn : ¬ S b) : Blk w' b cs t := ⟨(h.block b hb.lt hn).trans hb.is⟩
end
theorem blk_type {w : World} {b : Nat} {cs cs' : Array Value} {t t' : TypeId} (h : Blk w b cs t) (k : Blk w b cs' t') : t = t' := by
  have := h.is.symm.trans k.is
  injection this with this
  injection this with _ ht
theorem blk_ne {w : World} {b b' : Nat} {cs cs' : Array Value} {t t' : TypeId} (h : Blk w b cs t) (k : Blk w b' cs' t') (ht : t ≠ t') : b ≠ b' := by
  rintro rfl
  exact ht (blk_type h k)
theorem i64_wf {x : Int} (h : -9223372036854775808 ≤ x ∧ x ≤ 9223372036854775807) : (Lit.int .i64 x).wf = true := by
  simp [Lit.wf, IntKind.min, IntKind.max, IntKind.signed, IntKind.bits]; omega
theorem NB.typed {w : World} {B : Nat} {V : Value} {xs : List Int} (h : NB w B V xs) : ∀ k, V.ownBlock = some k → ∃ cells, w.heap[k]? = some (.cells cells 5 (0, 0)) := Kd.R_typed h
theorem NB.chg {w w' : World} {S : Nat → Prop} {B : Nat} {V : Value} {xs : List Int} (h : NB w B V xs) (k : Chg w w' S) (hn : ∀ j, V.ownBlock = some j → ¬ S j) : NB w' B V xs := by
  have h1 := Kd.R_tight (d := kb) rfl h
  exact Kd.R_mono (Kd.R_step h1 (fun j hj hlt => k.block j hlt (hn j hj.symm))) (fun _ _ => trivial)
theorem NB.lower {w : World} {B B' : Nat} {V : Value} {xs : List Int} (h : NB w B V xs) (hb : B' ≤ B) : NB w B' V xs := Kd.R_lower h hb
theorem NB.nat {w : World} {B : Nat} {V : Value} {xs : List Int} (h : NB w B V xs) {n : Nat} (hn : n = xs.length) : ∃ A c, V = .slice A n c ∧ n ≤ c ∧ Kd.C kb w A n xs := by
  subst hn
  exact h.reads
theorem Chg.of_kept {w0 w w' : World} {S : Nat → Prop} (h0 : Ext w0 w) (h1 : Ext w0 w') (hk : Kept w w' S) : Chg w w' S := ⟨h1.os.trans h0.os.symm, h1.tape.trans h0.tape.symm, h1.output.trans h0.output.symm, hk.1, fun k hlt hn => hk.2 k hlt hn⟩
theorem NB.blt {w : World} {B : Nat} {V : Value} {xs : List Int} (h : NB w B V xs) : ∀ k, V.ownBlock = some k → k < w.heap.size := fun k hk => Kd.R_lt h k hk
theorem NB.F {w : World} {B : Nat} {A : Option Addr} {n c : Nat} {xs : List Int} (h : NB w B (.slice A n c) xs) {ok : Nat → Prop} (hok : ∀ k, (Value.slice A n c).ownBlock = some k → ok k) : Kd.F kb w ok A n xs :=
  Kd.N_F (Kd.R_N (Kd.R_mono (Kd.R_tight (d := kb) rfl h) (fun k hk => hok k hk.symm)))
theorem row_at {α : Type} {d : Kd α} {w : World} {A : Option Addr} {n : Nat} {L : List α} (h : Kd.C d w A n L) (hz : 0 < d.sz) (i : Nat) (hi : i < n) (p : α) (hp : L[i]? = some p) : ∃ b off cs, A = some ⟨b, off, none⟩ ∧ cs.length = d.sz ∧ d.K w p cs ∧ w.rangeAt b (off + i * d.sz) cs := by
  obtain ⟨ad, rfl, hc⟩ := h.2.2 (by omega)
  obtain ⟨cs, h1, h2, h3⟩ := hc i p hp
  have hs : ad.spot = none := by
    have hl0 : 0 < L.length := by rw [h.1]; omega
    obtain ⟨cs0, g1, g2, g3⟩ := hc 0 _ (List.getElem?_eq_getElem hl0)
    have := g3 0 _ (List.getElem?_eq_getElem (by omega))
    rw [show 0 * d.sz + 0 = 0 by omega] at this
    cases hsp : ad.spot with
    | none => rfl
    | some s =>
      exfalso
      simp only [Addr.add, World.cell?] at this
      simp [hsp] at this
      split at this <;> cases this
  obtain ⟨b, off, sp⟩ := ad
  subst hs
  refine ⟨b, off, cs, rfl, h1, h2, fun j v hv => ?_⟩
  have := h3 j v hv
  unfold Addr.add at this
  split at this
  · rename_i h0
    have e : off + i * d.sz + j = off := by omega
    rw [e]
    exact this
  · rw [show off + i * d.sz + j = off + (i * d.sz + j) by omega]
    exact this
theorem F_oldX {k : IntKind} {w0 w : World} {ok : Nat → Prop} {A : Option Addr} {n : Nat} {xs : List Int} (h : Kd.C (Kd.int k) w0 A n xs) (he : Ext w0 w) (hok : ∀ k, k < w0.heap.size → ok k) : Kd.F (Kd.int k) w ok A n xs := fun W' hW =>
  (Kd.heap_int k).C (fun k hk => (hW k (hok k hk) (Nat.lt_of_lt_of_le hk he.size)).trans (he.block k hk)) h
theorem YldG_load {P : Program} {w : World} {o : Oper} {a : Act} (ty : TypeId) (x : Operand) (ho : o.op = .load ty x) (b off : Nat) (hx : a.eval x = .pointer (some ⟨b, off, none⟩)) (cs : List Value) (d : TypeDesc) (hc : w.rangeAt b off cs)
    (hu : P.underlying ty = some d) (hd : d.isRow = true) (hi : (P.info? ty).map (·.size) = some cs.length) : YldG Ext P o a w (.val (.agg cs.toArray)) := by
  have h := Yld_load (P := P) (w := w) (o := o) (a := a) ty x ho b off hx cs d hc hu hd hi
  unfold Yld at h
  unfold YldG
  generalize (execOp a.eval o).run P w = r at h
  cases r with
  | ok n w' => cases n <;> exact h
  | halt x w' => exact h


def upd {α : Type} (g : Nat → α) (i : Nat) (x : α) : Nat → α := fun j => if j = i then x else g j
/-- A store of several cells, in a region that draws its order. -/
theorem YldG_store {P : Program} {g : World → World → Prop} {w : World} {o : Oper} {a : Act} {b : Nat} {cs : Array Value} {t : TypeId} (ty : TypeId) (x y : Operand) (ho : o.op = .store ty x y) (off : Nat) (hx : a.eval x = .pointer (some ⟨b, off, none⟩)) (cells : Array Value) (hy : a.eval y = .agg cells)
    (h : Blk w b cs t) (hsz : off + cells.size ≤ cs.size) (hi : (P.info? ty).map (·.size) = some cells.size) (h1 : ∀ v ∈ cells.toList, v.oneCell' = true) (hg : ∀ w', Wrote w w' b → g w w') :
    YldG g P o a w (.fact true (fun u w' => u = undef ∧ Blk w' b (splice cs off cells.toList) t)) := by
  obtain ⟨w', hr, hw, hb⟩ := run_store_blk (P := P) h off ty cells hsz hi h1
  unfold YldG execOp
  simp only [ho, hx, hy, Instr.storeAt, Instr.sureAddr, Sem.run_bind, Sem.run_pure, Result.andThen_ok, hr]
  exact ⟨hg _ hw, rfl, hb⟩
theorem splice_at (cs : Array Value) (off : Nat) (vs : List Value) (h : off + vs.length ≤ cs.size) (j : Nat) : (splice cs off vs)[j]? = if off ≤ j ∧ j < off + vs.length then vs[j - off]? else cs[j]? := by
  have hl : (cs.toList.take off).length = off := by rw [List.length_take, Array.length_toList]; omega
  unfold splice
  rw [List.getElem?_toArray]
  by_cases h1 : j < off
  · rw [if_neg (by omega), List.append_assoc, List.getElem?_append_left (by omega), List.getElem?_take, if_pos h1, Array.getElem?_toList]
  · by_cases h2 : j < off + vs.length
    · rw [if_pos ⟨by omega, h2⟩, List.getElem?_append_left (by rw [List.length_append]; omega), List.getElem?_append_right (by omega), hl]
    · rw [if_neg (by omega), List.getElem?_append_right (by rw [List.length_append]; omega), List.length_append, hl, List.getElem?_drop, Array.getElem?_toList]
      congr 1
      omega
theorem splice_size (cs : Array Value) (off : Nat) (vs : List Value) (h : off + vs.length ≤ cs.size) : (splice cs off vs).size = cs.size := by
  unfold splice
  rw [List.size_toArray, List.length_append, List.length_append, List.length_take, List.length_drop, Array.length_toList]
  omega
end Go.Proofs.Ytielnpmnnifjcaa.By
