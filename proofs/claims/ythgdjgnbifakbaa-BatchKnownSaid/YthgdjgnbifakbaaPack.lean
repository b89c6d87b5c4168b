/- The contracts of layer 9's putting functions, the program's and the document's. -/
import Derived.Test.YthgdjgnbifakbaaKit
import Derived.Test.YthgdjgnbifakbaaArr
namespace Go.Proofs.Ythgdjgnbifakbaa.By
open Go.RowKit Go.Proofs.Ythgdjgnbifakbaa.Reg Go.Proofs.YthgdjgnbifakbaaW.PrintWords Go.Proofs.YthgdjgnbifakbaaW.PrintLast Go.Proofs.YthgdjgnbifakbaaW.PrintMore
set_option linter.unusedVariables false

/-- A number's bytes. -/
def be8 (v : Int) : List Int := [((IntKind.u64.wrap (v)) / 72057594037927936) % 256, ((IntKind.u64.wrap (v)) / 281474976710656) % 256, ((IntKind.u64.wrap (v)) / 1099511627776) % 256, ((IntKind.u64.wrap (v)) / 4294967296) % 256, ((IntKind.u64.wrap (v)) / 16777216) % 256, ((IntKind.u64.wrap (v)) / 65536) % 256, ((IntKind.u64.wrap (v)) / 256) % 256, (IntKind.u64.wrap (v)) % 256]
theorem be8_length (v : Int) : (be8 v).length = 8 := rfl
/-- A digest, and a ref, as values. -/
def sumV (s : List Int) : Value := .agg (nums .u8 s).toArray
def refC (a : Int) (s : List Int) : List Value := .int .i64 a :: nums .u8 s
/-- A ref's bytes. -/
def refB (a : Int) (s : List Int) : List Int := be8 a ++ s
def refV (a : Int) (s : List Int) : Value := .agg (refC a s).toArray

theorem C_bytes {w : World} {b : Nat} {cs : Array Value} {t : TypeId} (h : Blk w b cs t) (xs : List Int) (hxs : xs.length ≤ 9223372036854775807) (off : Nat) (rest : List Value) (hcs : cs.toList.drop off = nums .u8 xs ++ rest) :
    Kd.C kb w (some ⟨b, off, none⟩) xs.length xs := by
  refine ⟨rfl, hxs, fun _ => ⟨_, rfl, fun j p hj => ⟨[.int .u8 p], rfl, rfl, fun i u hu => ?_⟩⟩⟩
  obtain ⟨hi, hu'⟩ := List.getElem?_eq_some_iff.1 hu
  have hi0 : i = 0 := by simpa using hi
  subst hi0
  have hu2 : Value.int .u8 p = u := by simpa using hu'
  subst hu2
  have ha : (⟨b, off, none⟩ : Addr).add (j * 1 + 0) = ⟨b, off + j, none⟩ := by unfold Addr.add; split <;> simp_all
  show w.cell? ((⟨b, off, none⟩ : Addr).add (j * 1 + 0)) = _
  rw [ha]
  refine h.cell _ ?_
  have e1 : cs[off + j]? = (cs.toList.drop off)[j]? := by rw [List.getElem?_drop, Array.getElem?_toList]
  have hjl : j < xs.length := (List.getElem?_eq_some_iff.1 hj).1
  rw [e1, hcs, List.getElem?_append_left (by simp [nums]; exact hjl)]
  simp [nums, hj]
theorem kb_KM {w W : World} {base : Nat} {ok : Nat → Prop} (x : Int) (cs : List Value) (h : kb.K w x cs) : kb.M W base ok x cs := h

/-- make([]byte, 0, n). -/
theorem make_eq (n m : Nat) (h : n + m ≤ 140737488355328) (W : World) : (Instr.makeSlice 22 (.int .i64 0) (.int .i64 ((n : Int) + (m : Int)))).run Try.prog W = .ok (.slice (some ⟨W.heap.size, 0, none⟩) 0 (n + m)) (W.alloc (.cells (madeCells #[.int .u8 0] (n + m)) 5)) := by
  obtain ⟨i0, hi0, hz0, hsz, hby⟩ := info_parts PPackPuts.info5
  have := run_make (P := Try.prog) W 22 5 i0 (.int .u8 0) Try.underlying22 hi0 hz0 .i64 .i64 0 ((n : Int) + (m : Int)) (Int.le_refl _) (by omega) (by rw [hby]; omega) (by omega)
  rw [hsz] at this
  have e : ((n : Int) + (m : Int)).toNat = n + m := by omega
  rw [e, Nat.mul_one] at this
  exact this
theorem NB_made (W : World) (B n : Nat) (hB : B ≤ W.heap.size) (hn : n ≤ 140737488355328) : NB (W.alloc (.cells (madeCells #[.int .u8 0] n) 5)) B (.slice (some ⟨W.heap.size, 0, none⟩) 0 n) [] :=
  ⟨fun _ _ => trivial, [], ⟨by simp, .inr ⟨W.heap.size, n, madeCells #[.int .u8 0] n, rfl, hB, (Blk.new W _ 5).is, Nat.zero_le _, by simp only [maxLen]; omega, by rw [size_madeCells]; simp [Kd.int, Kd.scalar], by simp⟩⟩, by simp [Reps]⟩

set_option maxHeartbeats 1000000 in
theorem behind_calls (w : World) (A B : Option Addr) (c d : Nat) (xs ys : List Int) (hr : Kd.C kb w A xs.length xs) (hc : xs.length ≤ c) (hr' : Kd.C kb w B ys.length ys) (hc' : ys.length ≤ d) (hl : xs.length + ys.length ≤ 140737488355328) :
    Calls Try.prog 58 #[.slice A xs.length c, .slice B ys.length d] w fun e w' => ∃ V, e = .returned V ∧ NB w' w.heap.size V (xs ++ ys) ∧ Ext w w' := by
  have hx : (xs.length : Int) ≤ 140737488355328 := by omega
  have hy : (ys.length : Int) ≤ 140737488355328 := by omega
  have hmk := make_eq xs.length ys.length hl
  have HR := Aside0.mk hr
  have HR' := Aside0.mk hr'
  have HN := Aside0.mk (NB_made w w.heap.size (xs.length + ys.length) (Nat.le_refl _) hl)
  have hE0 : Below w.heap.size w (w.alloc (.cells (madeCells #[.int .u8 0] (xs.length + ys.length)) 5)) := (Ext.refl w).alloc _
  have HE0 := Aside0.mk hE0
  clear hr hr' hE0
  go_enter Try.func58, Try.ntmps58
  go_wp2_with (at_builtin; refine Kd.R_append_rows kb (Rr := kb.K w) (w0 := w) w.heap.size rfl (.tmp 10) (.tmp 11) 22 5 _ 1 rfl Try.underlying22 PPackPuts.info5 rfl (by decide) (by decide) _ [] xs A xs.length c (fun _ => True) (fun _ => False) rfl rfl HN.out ?c1 kb_KM (fun _ h => h.elim) (fun _ _ => trivial) HE0.out ?c2 ?c3 ?_)
  case c1 => exact Kd.C_below HR.out HE0.out
  case c2 => simp
  case c3 => simp; omega
  intro v1 w1 hR1 hB1 hg1 hat1
  replace hR1 : NB w1 w.heap.size v1 xs := hR1
  have HR1 := Aside0.mk hR1
  clear hR1 hg1 hat1 HN hmk
  go_wp2_with (at_builtin; refine Kd.R_append_rows kb (Rr := kb.K w1) (w0 := w) w.heap.size rfl (.tmp 12) (.tmp 13) 22 5 _ 1 rfl Try.underlying22 PPackPuts.info5 rfl (by decide) (by decide) v1 xs ys B ys.length d (fun _ => True) (fun _ => False) rfl rfl HR1.out ?c1 kb_KM (fun _ h => h.elim) (fun _ _ => trivial) hB1 ?c2 ?c3 ?_)
  case c1 => exact Kd.C_below HR'.out hB1
  case c2 => exact hB1.size
  case c3 => omega
  intro v2 w2 hR2 hB2 hg2 hat2
  clear hg2 hat2
  go_wp2
  go_ret
  exact ⟨v2, rfl, hR2, hB2⟩
theorem behind_at (w : World) (A B : Option Addr) (c d n m : Nat) (xs ys : List Int) (hn : n = xs.length) (hm : m = ys.length) (hr : Kd.C kb w A xs.length xs) (hc : xs.length ≤ c) (hr' : Kd.C kb w B ys.length ys) (hc' : ys.length ≤ d) (hl : xs.length + ys.length ≤ 140737488355328) :
    Calls Try.prog 58 #[.slice A n c, .slice B m d] w fun e w' => ∃ V, e = .returned V ∧ NB w' w.heap.size V (xs ++ ys) ∧ Ext w w' := by
  subst hn; subst hm
  exact behind_calls w A B c d xs ys hr hc hr' hc' hl
theorem NB.lower {w : World} {B B' : Nat} {V : Value} {xs : List Int} (h : NB w B V xs) (hb : B' ≤ B) : NB w B' V xs := Kd.R_lower h hb
theorem eight_calls (w : World) (v : Int) : Calls Try.prog 59 #[.int .i64 v] w fun e w' => ∃ V, e = .returned V ∧ NB w' w.heap.size V (be8 v) ∧ Ext w w' := PPackPuts.pack_eight.calls v (be8 v) w rfl

set_option maxHeartbeats 1000000 in
theorem int_calls (w : World) (A : Option Addr) (c : Nat) (xs : List Int) (v : Int) (hr : Kd.C kb w A xs.length xs) (hc : xs.length ≤ c) (hl : xs.length + 8 ≤ 140737488355328) :
    Calls Try.prog 18 #[.slice A xs.length c, .int .i64 v] w fun e w' => ∃ V, e = .returned V ∧ NB w' w.heap.size V (xs ++ be8 v) ∧ Ext w w' := by
  have HR := Aside0.mk hr
  clear hr
  go_enter Try.func18, Try.ntmps18
  go_wp2_with fail
  refine (eight_calls w v).mono ?_
  rintro e w1 ⟨V, rfl, hN, hE⟩
  obtain ⟨A1, c1, rfl, hl1, hC1⟩ := hN.reads
  clear hN
  have HC1 := Aside0.mk hC1
  clear hC1
  go_wp2_with fail
  refine (behind_calls w1 A A1 c c1 xs (be8 v) (Kd.C_below HR.out hE) hc HC1.out hl1 hl).mono ?_
  rintro e w2 ⟨V2, rfl, hN2, hE2⟩
  have hN3 := Aside0.mk (hN2.lower hE.size)
  have hE3 := hE.trans hE2
  clear hN2 hE hE2
  go_wp2
  go_ret
  exact ⟨V2, rfl, hN3.out, hE3⟩

theorem nums_length (k : IntKind) (s : List Int) : (nums k s).length = s.length := by simp [nums]

set_option maxHeartbeats 1000000 in
theorem sum_calls (w : World) (A : Option Addr) (c : Nat) (xs s : List Int) (hs : s.length = 32) (hr : Kd.C kb w A xs.length xs) (hc : xs.length ≤ c) (hl : xs.length + 32 ≤ 140737488355328) :
    Calls Try.prog 19 #[.slice A xs.length c, sumV s] w fun e w' => ∃ V, e = .returned V ∧ NB w' w.heap.size V (xs ++ s) ∧ Ext w w' := by
  have HR := Aside0.mk hr
  have HS := Aside0.mk hs
  clear hr hs
  unfold sumV
  go_enter Try.func19, Try.ntmps19
  go_wp2_with fail
  have hb := Blk.new w (nums .u8 s).toArray 24
  have hE0 := (Ext.refl w).alloc (.cells (nums .u8 s).toArray 24)
  refine (behind_at _ A (some ⟨w.heap.size, 0, none⟩) c 32 xs.length 32 xs s rfl HS.out.symm (Kd.C_below HR.out hE0) hc (C_bytes hb s (by have := HS.out; omega) 0 [] (by simp)) (by have := HS.out; omega) (by have := HS.out; omega)).mono ?_
  rintro e w1 ⟨V, rfl, hN, hE⟩
  have hE1 := hE0.trans hE
  have hN1 := Aside0.mk (hN.lower hE0.size)
  clear hE hE0 hN hb
  go_wp2
  go_ret
  exact ⟨V, rfl, hN1.out, hE1⟩
theorem sum_at (w : World) (A : Option Addr) (c n : Nat) (xs s : List Int) (S : Value) (hn : n = xs.length) (hS : S = sumV s) (hs : s.length = 32) (hr : Kd.C kb w A xs.length xs) (hc : xs.length ≤ c) (hl : xs.length + 32 ≤ 140737488355328) :
    Calls Try.prog 19 #[.slice A n c, S] w fun e w' => ∃ V, e = .returned V ∧ NB w' w.heap.size V (xs ++ s) ∧ Ext w w' := by
  subst hn; subst hS
  exact sum_calls w A c xs s hs hr hc hl

theorem refBlk {w : World} {b : Nat} {a : Int} {s : List Int} {t : TypeId} (h : Blk w b (refC a s).toArray t) : w.cell? ⟨b, 0, none⟩ = some (.int .i64 a) ∧ w.rangeAt b 1 (nums .u8 s) :=
  ⟨h.cell 0 rfl, h.range 1 (nums .u8 s) [] (by simp [refC])⟩

set_option maxHeartbeats 2000000 in
theorem ref_calls (w : World) (A : Option Addr) (c : Nat) (xs s : List Int) (a : Int) (hs : s.length = 32) (hr : Kd.C kb w A xs.length xs) (hc : xs.length ≤ c) (hl : xs.length + 40 ≤ 140737488355328) :
    Calls Try.prog 20 #[.slice A xs.length c, refV a s] w fun e w' => ∃ V, e = .returned V ∧ NB w' w.heap.size V (xs ++ refB a s) ∧ Ext w w' := by
  have HR := Aside0.mk hr
  have HS := Aside0.mk hs
  clear hr hs
  unfold refV
  go_enter Try.func20, Try.ntmps20
  go_wp2_with fail
  have hb := refBlk (Blk.new w (refC a s).toArray 26)
  have hE0 := (Ext.refl w).alloc (.cells (refC a s).toArray 26)
  generalize w.alloc (.cells (refC a s).toArray 26) = w1 at *
  obtain ⟨hb0, hb1⟩ := hb
  have HB1 := Aside0.mk hb1
  have HR1 := Aside0.mk (Kd.C_below HR.out hE0)
  clear hb1
  apply wp_region_facts 8 [RF.val _, RF.val _, RF.val _, RF.fact (fun u W => NB W w1.heap.size u (xs ++ be8 a)), RF.val _, RF.val (sumV s), RF.fact (fun u W => NB W w1.heap.size u (xs ++ refB a s)), RF.fact (fun u W => NB W w1.heap.size u (xs ++ refB a s))] (by kernel_rfl) (by kernel_rfl)
  simp only [List.take_succ_cons, List.take_zero, List.zip_cons_cons, List.zip_nil_left]
  iterate 3 (apply wpF_val rfl; (intro w' hE hD; have e0 := Ext.cell (w := w1) hE hb0; unfold Yld; go_simp; exact ⟨Ext.refl _, rfl⟩); (try simp only [Act.put, List.setIfInBounds_toArray, List.set_cons_zero, List.set_cons_succ]))
  refine wpF_fact rfl (fun u W W' h he => NB.ext h he) ?_ ?_
  · intro w' hE hD
    unfold Yld
    go_simp
    exact (int_calls w' A c xs a (Kd.C_below HR1.out hE) hc (by omega)).mono fun e w2 ⟨V, h1, h2, h3⟩ => ⟨V, h1, h3, NB.lower h2 hE.size⟩
  intro u
  (try simp only [Act.put, List.setIfInBounds_toArray, List.set_cons_zero, List.set_cons_succ])
  apply wpF_val rfl; (intro w' hE hD; unfold Yld; go_simp; exact ⟨Ext.refl _, rfl⟩); (try simp only [Act.put, List.setIfInBounds_toArray, List.set_cons_zero, List.set_cons_succ])
  refine wpF_val rfl (fun w' hE hD => Yld_load 24 (.tmp 9) rfl w.heap.size 1 rfl (nums .u8 s) _ (rangeAt_ext HB1.out hE) Try.underlying24 rfl (by rw [nums_length, HS.out]; kernel_rfl)) ?_
  (try simp only [Act.put, List.setIfInBounds_toArray, List.set_cons_zero, List.set_cons_succ])
  refine wpF_fact rfl (fun u W W' h he => NB.ext h he) ?_ ?_
  · intro w' hE hD
    have hN := hD.1 (by kernel_rfl)
    obtain ⟨A1, c1, rfl, hl1, hC1⟩ := NB.reads hN
    unfold Yld
    go_simp
    exact (sum_at w' A1 c1 _ (xs ++ be8 a) s _ (by simp) rfl HS.out hC1 hl1 (by simp [be8_length]; omega)).mono fun e w2 ⟨V, h1, h2, h3⟩ => ⟨V, h1, h3, by rw [List.append_assoc] at h2; exact NB.lower h2 hE.size⟩
  intro u2
  (try simp only [Act.put, List.setIfInBounds_toArray, List.set_cons_zero, List.set_cons_succ])
  refine wpF_fact rfl (fun u W W' h he => NB.ext h he) ?_ ?_
  · intro w' hE hD
    have hN := hD.2.1 (by kernel_rfl)
    unfold Yld
    go_simp
    exact ⟨Ext.refl _, hN⟩
  intro u3
  (try simp only [Act.put, List.setIfInBounds_toArray, List.set_cons_zero, List.set_cons_succ])
  refine wpF_nil fun w' hE hA => ?_
  have hN := hA.2.2.1
  have hE1 := hE0.trans hE
  refine wpList_nil ?_
  have HN := Aside0.mk (NB.lower hN hE0.size)
  clear hA hN hE hE0
  go_wp2
  go_ret
  exact ⟨u3, rfl, HN.out, hE1⟩
end Go.Proofs.Ythgdjgnbifakbaa.By
