/- The disk in memory: its block, its rows, its map; what a call may turn. -/
import Derived.Test.YtkgjcmolmogpdaaMapL
import Derived.Test.YtkgjcmolmogpdaaGate
import Derived.Test.YtkgjcmolmogpdaaRegC
import Derived.Test.YtkgjcmolmogpdaaPDiskPlaysx0
namespace Go.Proofs.Ytkgjcmolmogpdaa.By
open Go.RowKit Go.Proofs.Ytkgjcmolmogpdaa.Reg Go.Proofs.YtkgjcmolmogpdaaW.PrintWords Go.Proofs.YtkgjcmolmogpdaaW.PrintLast Go.Proofs.YtkgjcmolmogpdaaW.PrintMore
set_option linter.unusedVariables false
set_option linter.unusedSimpArgs false


/-- All but the blocks of S, and what has come, lies as it lay. -/
structure Chg (w w' : World) (S : Nat → Prop) : Prop where
  os : w'.os = w.os
  tape : w'.tape = w.tape
  output : w'.output = w.output
  size : w.heap.size ≤ w'.heap.size
  block : ∀ k, k < w.heap.size → ¬ S k → w'.heap[k]? = w.heap[k]?
section
variable {w w' w'' : World} {S S' : Nat → Prop}
theorem Chg.of_ext (h : Ext w w') (S : Nat → Prop) : Chg w w' S := ⟨h.os, h.tape, h.output, h.size, fun k hk _ => h.block k hk⟩
theorem Chg.refl (w : World) (S : Nat → Prop) : Chg w w S := Chg.of_ext (Ext.refl w) S
theorem Chg.mono (h : Chg w w' S) (hs : ∀ k, S k → S' k) : Chg w w' S' := ⟨h.os, h.tape, h.output, h.size, fun k hk hn => h.block k hk (fun e => hn (hs k e))⟩
theorem Chg.trans (h : Chg w w' S) (k : Chg w' w'' S) : Chg w w'' S :=
  ⟨k.os.trans h.os, k.tape.trans h.tape, k.output.trans h.output, Nat.le_trans h.size k.size, fun j hj hn => (k.block j (Nat.lt_of_lt_of_le hj h.size) hn).trans (h.block j hj hn)⟩
/-- The second may turn what is new since the first. -/
theorem Chg.thenN (h : Chg w w' S) (k : Chg w' w'' S') (hs : ∀ j, S' j → S j ∨ w.heap.size ≤ j) : Chg w w'' S :=
  ⟨k.os.trans h.os, k.tape.trans h.tape, k.output.trans h.output, Nat.le_trans h.size k.size, fun j hj hn => (k.block j (Nat.lt_of_lt_of_le hj h.size) (fun e => by
    rcases hs j e with h1 | h1
    · exact hn h1
    · omega)).trans (h.block j hj hn)⟩
theorem Chg.ext (h : Chg w w' S) (k : Ext w' w'') : Chg w w'' S := h.trans (Chg.of_ext k S)
theorem Chg.of_wrote {b : Nat} (h : Wrote w w' b) (hb : S b) : Chg w w' S := ⟨h.os, h.tape, h.output, Nat.le_of_eq h.size.symm, fun k _ hn => h.block k (fun e => hn (e ▸ hb))⟩
theorem Chg.of_grown {row : Option Nat} (h : w.grownBy w' row) (hr : ∀ k, row = some k → S k) : Chg w w' S := ⟨h.os, h.tape, h.output, h.size, fun k hk hn => h.block k hk (fun e => hn (hr k e.symm))⟩
theorem Chg.of_below {B : Nat} (h : Below B w w') (hs : ∀ k, k < w.heap.size → B ≤ k → S k) : Chg w w' S := ⟨h.os, h.tape, h.output, h.size, fun k hk hn => h.block k (by
  rcases Nat.lt_or_ge k B with h1 | h1
  · exact h1
  · exact absurd (hs k hk h1) hn)⟩
theorem Chg.to_below {B : Nat} (h : Chg w w' S) (hB : B ≤ w.heap.size) (hs : ∀ k, S k → B ≤ k) : Below B w w' := ⟨h.os, h.tape, h.output, h.size, fun k hk => h.block k (by omega) (fun e => by have := hs k e; omega)⟩
theorem Chg.to_ext {w0 : World} (h : Chg w w' S) (he : Ext w0 w) (hs : ∀ k, S k → w0.heap.size ≤ k) : Ext w0 w' := Below.trans he (h.to_below he.size hs)
theorem Chg.blk (h : Chg w w' S) {b : Nat} {cs : Array Value} {t : TypeId} (hb : Blk w b cs t) (hn : ¬ S b) : Blk w' b cs t := ⟨(h.block b hb.lt hn).trans hb.is⟩
theorem Chg.map (h : Chg w w' S) {H : Type} {P : Program} {k : TypeId} {R : Value → Option (DataW H × List MemPlace)} {b n : Nat} {D : DataW H} (hm : w.ownsMap P k R b n D) (hn : ¬ S b) : w'.ownsMap P k R b n D := by
  have hl := hm.lt
  obtain ⟨es, clock, hb, F, hs, hD⟩ := hm
  exact ⟨es, clock, (h.block b hl hn).trans hb, F, hs, hD⟩
end
/-- The map has as many entries as its datum. -/
theorem owns_tight {H : Type} {w : World} {P : Program} {k : TypeId} {R : Value → Option (DataW H × List MemPlace)} {b n : Nat} {D : DataW H} (h : w.ownsMap P k R b n D) : w.ownsMap P k R b (Maps.size D) D := by
  obtain ⟨es, clock, hb, F, hs, hD⟩ := h
  exact ⟨es, clock, hb, F, by rw [hD]; simp [Maps.size, length_sorted], hD⟩
theorem owns_obj {H : Type} {w : World} {P : Program} {k : TypeId} {R : Value → Option (DataW H × List MemPlace)} {b n : Nat} {D : DataW H} (h : w.ownsMap P k R b n D) : ∃ es c, w.heap[b]? = some (.map es c) := by
  obtain ⟨es, clock, hb, _⟩ := h
  exact ⟨es, clock, hb⟩

def isSl (V : Value) : Prop := ∃ A n c, V = .slice A n c
def dskC (bl bc br n : Nat) (ar : Bool) (lf : Int) (of : Bool) (wr : Int) : List Value := [.slice (some ⟨bl, 0, none⟩) n n, .map (some bc), .bool ar, .int .i64 lf, .bool of, .int .i64 wr, .slice (some ⟨br, 0, none⟩) n n]
/-- The disk at block bd: rows of its sectors' bytes (bl), of its counts (br), the cache (bc). -/
structure DV (w : World) (bd bl bc br n : Nat) (LV : List Value) (CV : List (Int × Value)) (ar : Bool) (lf : Int) (of : Bool) (wr : Int) (rd : List Int) : Prop where
  hd : Blk w bd (dskC bl bc br n ar lf of wr).toArray 72
  hl : Blk w bl LV.toArray 29
  hm : w.ownsMap Try.prog 3 RM bc CV.length (mapD CV)
  hr : Blk w br (rd.map (Value.int .i64)).toArray 3
  ll : LV.length = n
  lr : rd.length = n
  ks : Rise CV
  kr : ∀ p ∈ CV, 0 ≤ p.1 ∧ p.1 < n
  nn : 1 ≤ n ∧ n ≤ 4096
  sl : ∀ V ∈ LV, isSl V
  sc : ∀ p ∈ CV, isSl p.2
def Dst (bd bl bc br : Nat) (k : Nat) : Prop := k = bd ∨ k = bl ∨ k = bc ∨ k = br
section
variable {w w' : World} {bd bl bc br n : Nat} {LV : List Value} {CV : List (Int × Value)} {ar : Bool} {lf : Int} {of : Bool} {wr : Int} {rd : List Int} {S : Nat → Prop}
theorem DV.chg (h : DV w bd bl bc br n LV CV ar lf of wr rd) (k : Chg w w' S) (hn : ∀ j, Dst bd bl bc br j → ¬ S j) : DV w' bd bl bc br n LV CV ar lf of wr rd :=
  ⟨k.blk h.hd (hn _ (.inl rfl)), k.blk h.hl (hn _ (.inr (.inl rfl))), k.map h.hm (hn _ (.inr (.inr (.inl rfl)))), k.blk h.hr (hn _ (.inr (.inr (.inr rfl)))), h.ll, h.lr, h.ks, h.kr, h.nn, h.sl, h.sc⟩
theorem DV.ext (h : DV w bd bl bc br n LV CV ar lf of wr rd) (k : Ext w w') : DV w' bd bl bc br n LV CV ar lf of wr rd := h.chg (Chg.of_ext k (fun _ => False)) (fun _ _ h => h)
theorem blk_type {w : World} {b : Nat} {cs cs' : Array Value} {t t' : TypeId} (h : Blk w b cs t) (k : Blk w b cs' t') : t = t' := by
  have := h.is.symm.trans k.is
  injection this with this
  injection this with _ ht
theorem blk_ne {w : World} {b b' : Nat} {cs cs' : Array Value} {t t' : TypeId} (h : Blk w b cs t) (k : Blk w b' cs' t') (ht : t ≠ t') : b ≠ b' := by
  rintro rfl
  exact ht (blk_type h k)
theorem blk_map {w : World} {b b' : Nat} {cs : Array Value} {t : TypeId} (h : Blk w b cs t) {H : Type} {P : Program} {k : TypeId} {R : Value → Option (DataW H × List MemPlace)} {n : Nat} {D : DataW H} (hm : w.ownsMap P k R b' n D) : b ≠ b' := by
  rintro rfl
  obtain ⟨es, c, hb⟩ := owns_obj hm
  rw [h.is] at hb
  cases hb
theorem DV.ne_dl (h : DV w bd bl bc br n LV CV ar lf of wr rd) : bd ≠ bl := blk_ne h.hd h.hl (by decide)
theorem DV.ne_dr (h : DV w bd bl bc br n LV CV ar lf of wr rd) : bd ≠ br := blk_ne h.hd h.hr (by decide)
theorem DV.ne_lr (h : DV w bd bl bc br n LV CV ar lf of wr rd) : bl ≠ br := blk_ne h.hl h.hr (by decide)
theorem DV.ne_dc (h : DV w bd bl bc br n LV CV ar lf of wr rd) : bd ≠ bc := blk_map h.hd h.hm
theorem DV.ne_lc (h : DV w bd bl bc br n LV CV ar lf of wr rd) : bl ≠ bc := blk_map h.hl h.hm
theorem DV.ne_rc (h : DV w bd bl bc br n LV CV ar lf of wr rd) : br ≠ bc := blk_map h.hr h.hm
/-- The disk's own block has been written. -/
theorem DV.set (h : DV w bd bl bc br n LV CV ar lf of wr rd) (ar' : Bool) (lf' : Int) (of' : Bool) (wr' : Int) (k : Wrote w w' bd) (hd : Blk w' bd (dskC bl bc br n ar' lf' of' wr').toArray 72) : DV w' bd bl bc br n LV CV ar' lf' of' wr' rd :=
  ⟨hd, h.hl.wrote k (Ne.symm h.ne_dl), (Chg.of_wrote (S := fun j => j = bd) k rfl).map h.hm (Ne.symm h.ne_dc), h.hr.wrote k (Ne.symm h.ne_dr), h.ll, h.lr, h.ks, h.kr, h.nn, h.sl, h.sc⟩
theorem DV.lt (h : DV w bd bl bc br n LV CV ar lf of wr rd) (j : Nat) (hj : Dst bd bl bc br j) : j < w.heap.size := by
  rcases hj with rfl | rfl | rfl | rfl
  · exact h.hd.lt
  · exact h.hl.lt
  · exact h.hm.lt
  · exact h.hr.lt
end
/-- The disk's own block, cell by cell. -/
theorem DV.cells {w : World} {bd bl bc br n : Nat} {LV : List Value} {CV : List (Int × Value)} {ar : Bool} {lf : Int} {of : Bool} {wr : Int} {rd : List Int} (h : DV w bd bl bc br n LV CV ar lf of wr rd) :
    w.cell? ⟨bd, 0, none⟩ = some (.slice (some ⟨bl, 0, none⟩) n n) ∧ w.cell? ⟨bd, 1, none⟩ = some (.map (some bc)) ∧ w.cell? ⟨bd, 2, none⟩ = some (.bool ar) ∧ w.cell? ⟨bd, 3, none⟩ = some (.int .i64 lf) ∧ w.cell? ⟨bd, 4, none⟩ = some (.bool of) ∧ w.cell? ⟨bd, 5, none⟩ = some (.int .i64 wr) ∧ w.cell? ⟨bd, 6, none⟩ = some (.slice (some ⟨br, 0, none⟩) n n) :=
  ⟨h.hd.cell 0 rfl, h.hd.cell 1 rfl, h.hd.cell 2 rfl, h.hd.cell 3 rfl, h.hd.cell 4 rfl, h.hd.cell 5 rfl, h.hd.cell 6 rfl⟩
end Go.Proofs.Ytkgjcmolmogpdaa.By
