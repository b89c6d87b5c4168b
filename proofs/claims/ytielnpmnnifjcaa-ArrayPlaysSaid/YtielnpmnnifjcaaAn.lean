/- An array: New, Open, Read, Sync. -/
import Derived.Test.YtielnpmnnifjcaaAm
namespace Go.Proofs.Ytielnpmnnifjcaa.By
open Go.RowKit Go.Proofs.Ytielnpmnnifjcaa.Reg Go.Proofs.YtielnpmnnifjcaaW.PrintWords Go.Proofs.YtielnpmnnifjcaaW.PrintLast Go.Proofs.YtielnpmnnifjcaaW.PrintMore
set_option linter.unusedVariables false
set_option linter.unusedSimpArgs false


theorem u8_K (w : World) (x : Int) : kb.K w x [.int .u8 x] := rfl
theorem BV.rowC {w : World} {b t off : Nat} {cs : Array Value} {R : Nat → List Int} {M : Nat → Bool} (h : BV cs off R M) (hB : Blk w b cs t) (i : Nat) (hi : i < 64) : Kd.C kb w (some ⟨b, off + i * 32, none⟩) 32 (R i) := by
  have hl := h.1 i hi
  refine ⟨hl, by omega, fun _ => ⟨_, rfl, fun j p hj => ⟨[.int .u8 p], rfl, u8_K w p, fun x u hu => ?_⟩⟩⟩
  obtain ⟨hj1, hj2⟩ := List.getElem?_eq_some_iff.1 hj
  have hx : x = 0 := by have := (List.getElem?_eq_some_iff.1 hu).1; simp at this; exact this
  subst hx
  have hu' : u = .int .u8 p := by simpa using hu.symm
  subst hu'
  have hc := hB.cell (off + i * 32 + j) (h.2.1 i j hi (by omega))
  have hp : (R i).getD j 0 = p := by rw [List.getD_eq_getElem?_getD, hj]; rfl
  rw [hp] at hc
  rw [show kb.sz = 1 from rfl, Nat.mul_one, Nat.add_zero]
  unfold Addr.add
  split
  · rename_i h0
    subst h0
    exact hc
  · exact hc
theorem AV.row {w : World} {ba n : Nat} {R R' : Nat → List Int} {M M' : Nat → Bool} {V : Value} (h : AV w ba n R M R' M' V) (i : Nat) (hi : i < 64) : Kd.C kb w (some ⟨ba, 2113 + i * 32, none⟩) 32 (R' i) ∧ w.cell? ⟨ba, 2113 + 2048 + i, none⟩ = some (.bool (M' i)) := by
  obtain ⟨cs, h1, h2⟩ := h
  exact ⟨h2.no.rowC h1 i hi, h1.cell _ (h2.no.2.2 i hi)⟩
def clampN (z : Int) : Nat := if z < 0 then 0 else if 64 < z then 64 else z.toNat
theorem clampN_le (z : Int) : clampN z ≤ 64 := by unfold clampN; split <;> (try split) <;> omega
set_option maxRecDepth 100000 in
set_option maxHeartbeats 2000000 in
theorem anew_calls (w : World) (z : Int) : Calls Try.prog 6 #[.int .i64 z] w fun e w' => ∃ ba, e = .returned (.pointer (some ⟨ba, 0, none⟩)) ∧ AV w' ba (clampN z) zR zM zR zM (.slice none 0 0) ∧ Ext w w' ∧ w.heap.size ≤ ba := by
  have HAC := Aside0.mk (fun (n : Nat) => show AV (w.alloc (.cells (zA (.int .i64 n)).toArray 66)) w.heap.size n zR zM zR zM (.slice none 0 0) from ⟨_, Blk.new w _ 66, zA_AC n⟩)
  have HBU := Aside0.mk zA_built
  by_cases h0 : z < 0
  · have hd0 : decide (z < 0) = true := decide_eq_true h0
    have hn : clampN z = 0 := by unfold clampN; rw [if_pos h0]
    have h1 : ¬ 64 < z := by omega
    rw [hn]
    go_enter Try.func6, Try.ntmps6
    go_wp2_with (first | ((with_reducible refine gate_build (ty := 66) rfl ?_); refine build_at rfl 66 _ rfl (zA (.int .i64 ((0 : Nat) : Int))).toArray _ rfl (HBU.out _) ?_) | fail)
    go_ret
    exact ⟨_, rfl, HAC.out 0, (Ext.refl w).alloc _, Nat.le_refl _⟩
  · have hd0 : decide (z < 0) = false := decide_eq_false h0
    by_cases h1 : 64 < z
    · have hn : clampN z = 64 := by unfold clampN; rw [if_neg h0, if_pos h1]
      rw [hn]
      go_enter Try.func6, Try.ntmps6
      go_wp2_with (first | ((with_reducible refine gate_build (ty := 66) rfl ?_); refine build_at rfl 66 _ rfl (zA (.int .i64 ((64 : Nat) : Int))).toArray _ rfl (HBU.out _) ?_) | fail)
      go_ret
      exact ⟨_, rfl, HAC.out 64, (Ext.refl w).alloc _, Nat.le_refl _⟩
    · by_cases hz : z = 0
      · subst hz
        have hn : clampN 0 = 0 := rfl
        rw [hn]
        clear h0 hd0 h1 hn
        go_enter Try.func6, Try.ntmps6
        go_wp2_with (first | ((with_reducible refine gate_build (ty := 66) rfl ?_); refine build_at rfl 66 _ rfl (zA (.int .i64 ((0 : Nat) : Int))).toArray _ rfl (HBU.out _) ?_) | fail)
        go_ret
        exact ⟨_, rfl, HAC.out 0, (Ext.refl w).alloc _, Nat.le_refl _⟩
      obtain ⟨k, rfl⟩ : ∃ k : Nat, z = k := ⟨z.toNat, by omega⟩
      have hkp : 0 < k := by omega
      have hn : clampN (k : Int) = k := by unfold clampN; rw [if_neg h0, if_neg h1, Int.toNat_natCast]
      rw [hn]
      have hk1 : (k : Int) ≤ 64 := by omega
      have hk0 : decide ((k : Int) < 0) = false := decide_eq_false (by omega)
      have hk2 : decide ((64 : Int) < k) = false := decide_eq_false (by omega)
      clear h0 hd0 h1 hn hz
      go_enter Try.func6, Try.ntmps6
      go_wp2_with (first | ((with_reducible refine gate_build (ty := 66) rfl ?_); refine build_at rfl 66 _ rfl (zA (.int .i64 (k : Int))).toArray _ rfl (HBU.out _) ?_) | fail)
      go_ret
      exact ⟨_, rfl, HAC.out k, (Ext.refl w).alloc _, Nat.le_refl _⟩
section
variable {w w' : World} {ba n : Nat} {R R' : Nat → List Int} {M M' : Nat → Bool} {V : Value}
set_option maxRecDepth 100000 in
set_option maxHeartbeats 2000000 in
theorem aopen_calls {A : Option Addr} {m c : Nat} (h : AV w ba n R M R' M' (.slice A m c)) : Calls Try.prog 13 #[.pointer (some ⟨ba, 0, none⟩)] w fun e w' => e = .returned (.int .i64 m) ∧ w = w' := by
  obtain ⟨c0, c1⟩ := h.cells
  clear h c0
  go_enter Try.func13, Try.ntmps13
  go_wp2
  go_ret
  exact ⟨rfl, rfl⟩
set_option maxRecDepth 100000 in
set_option maxHeartbeats 2000000 in
theorem aread_no (h : AV w ba n R M R' M' V) (i : Int) (hi : i < 0 ∨ (n : Int) ≤ i) : Calls Try.prog 12 #[.pointer (some ⟨ba, 0, none⟩), .int .i64 i] w fun e w' => e = .returned (.tuple #[.slice none 0 0, .bool false]) ∧ w = w' := by
  obtain ⟨c0, c1⟩ := h.cells
  clear h c1
  by_cases h0 : i < 0
  · have hd0 : decide (i < 0) = true := decide_eq_true h0
    clear hi
    go_enter Try.func12, Try.ntmps12
    go_wp2
    go_ret2
    exact ⟨rfl, rfl⟩
  · have hd0 : decide (i < 0) = false := decide_eq_false h0
    have h1 : (n : Int) ≤ i := by omega
    have hd1 : decide ((n : Int) ≤ i) = true := decide_eq_true h1
    clear hi
    go_enter Try.func12, Try.ntmps12
    go_wp2
    go_ret2
    exact ⟨rfl, rfl⟩
def NbQ (B : Nat) (xs : List Int) (u : Value) (w : World) : Prop := NB w B u xs
theorem NbQ.ext {B : Nat} {xs : List Int} {u : Value} {w w' : World} (h : NbQ B xs u w) (he : Ext w w') : NbQ B xs u w' := Kd.R_below (show NB w B u xs from h) he
set_option maxRecDepth 100000 in
set_option maxHeartbeats 2000000 in
theorem aread_ok (h : AV w ba n R M R' M' V) (i : Nat) (hi : i < n) (hn : n ≤ 64) : Calls Try.prog 12 #[.pointer (some ⟨ba, 0, none⟩), .int .i64 (i : Int)] w fun e w' => ∃ U, e = .returned (.tuple #[U, .bool (M' i)]) ∧ NB w' w.heap.size U (R' i) ∧ Ext w w' := by
  have HRL := Aside0.mk (show (R' i).length = 32 from by
    obtain ⟨cs, h1, h2⟩ := h
    exact h2.no.1 i (by omega))
  obtain ⟨c0, c1⟩ := h.cells
  obtain ⟨hrow, hm⟩ := h.row i (by omega)
  have HRW := Aside0.mk hrow
  have hd0 : decide ((i : Int) < 0) = false := decide_eq_false (by omega)
  have hd1 : decide ((n : Int) ≤ i) = false := decide_eq_false (by omega)
  have hi64 : (i : Int) < 64 := by omega
  clear h c1 hrow
  go_enter Try.func12, Try.ntmps12
  go_wp2_with fail
  apply wp_region_facts 16 [RF.val _, RF.val _, RF.val _, RF.val _, RF.val _, RF.val _, RF.val _, RF.fact (fun u w' => NbQ w.heap.size (R' i) u w'), RF.val _, RF.val _, RF.val _, RF.val _, RF.val _, RF.val _, RF.val _, RF.fact (fun u w' => NbQ w.heap.size (R' i) u w')]
  case hm => kernel_rfl
  case hB => kernel_rfl
  simp only [List.take_succ_cons, List.take_zero, List.zip_cons_cons, List.zip_nil_left]
  (first | refine wpF_val rfl (fun w' hE hD => by unfold Yld; go_simp; exact ⟨Ext.refl _, rfl⟩) ?_ | refine wpF_valg (by rfl) (fun w' hE hD => by unfold Yld; go_simp; exact ⟨Ext.refl _, rfl⟩) ?_)
  (try simp only [Act.put, List.setIfInBounds_toArray, List.set_cons_zero, List.set_cons_succ])
  (first | refine wpF_val rfl (fun w' hE hD => by unfold Yld; go_simp; exact ⟨Ext.refl _, rfl⟩) ?_ | refine wpF_valg (by rfl) (fun w' hE hD => by unfold Yld; go_simp; exact ⟨Ext.refl _, rfl⟩) ?_)
  (try simp only [Act.put, List.setIfInBounds_toArray, List.set_cons_zero, List.set_cons_succ])
  (first | refine wpF_val rfl (fun w' hE hD => by unfold Yld; go_simp; exact ⟨Ext.refl _, rfl⟩) ?_ | refine wpF_valg (by rfl) (fun w' hE hD => by unfold Yld; go_simp; exact ⟨Ext.refl _, rfl⟩) ?_)
  (try simp only [Act.put, List.setIfInBounds_toArray, List.set_cons_zero, List.set_cons_succ])
  (first | refine wpF_val rfl (fun w' hE hD => by unfold Yld; go_simp; exact ⟨Ext.refl _, rfl⟩) ?_ | refine wpF_valg (by rfl) (fun w' hE hD => by unfold Yld; go_simp; exact ⟨Ext.refl _, rfl⟩) ?_)
  (try simp only [Act.put, List.setIfInBounds_toArray, List.set_cons_zero, List.set_cons_succ])
  (first | refine wpF_val rfl (fun w' hE hD => by unfold Yld; go_simp; exact ⟨Ext.refl _, rfl⟩) ?_ | refine wpF_valg (by rfl) (fun w' hE hD => by unfold Yld; go_simp; exact ⟨Ext.refl _, rfl⟩) ?_)
  (try simp only [Act.put, List.setIfInBounds_toArray, List.set_cons_zero, List.set_cons_succ])
  (first | refine wpF_val rfl (fun w' hE hD => by unfold Yld; go_simp; exact ⟨Ext.refl _, rfl⟩) ?_ | refine wpF_valg (by rfl) (fun w' hE hD => by unfold Yld; go_simp; exact ⟨Ext.refl _, rfl⟩) ?_)
  (try simp only [Act.put, List.setIfInBounds_toArray, List.set_cons_zero, List.set_cons_succ])
  (first | refine wpF_val rfl (fun w' hE hD => by unfold Yld; go_simp; exact ⟨Ext.refl _, rfl⟩) ?_ | refine wpF_valg (by rfl) (fun w' hE hD => by unfold Yld; go_simp; exact ⟨Ext.refl _, rfl⟩) ?_)
  (try simp only [Act.put, List.setIfInBounds_toArray, List.set_cons_zero, List.set_cons_succ])
  refine wpF_fact rfl (fun u Wa Wb h he => h.ext he) (fun w' hE hD => ?_) (fun u23 => ?_)
  · unfold Yld; go_simp; exact (clone_calls w' (some ⟨ba, 2113 + i * 32, none⟩) 32 32 (R' i) HRL.out.symm (Kd.C_below HRW.out hE) (Nat.le_refl _) (by decide)).mono fun e w2 h => by obtain ⟨U, h1, h2, h3⟩ := h; exact ⟨U, h1, h3, h2.lower hE.size⟩
  (try simp only [Act.put, List.setIfInBounds_toArray, List.set_cons_zero, List.set_cons_succ])
  (first | refine wpF_val rfl (fun w' hE hD => by unfold Yld; go_simp; exact ⟨Ext.refl _, rfl⟩) ?_ | refine wpF_valg (by rfl) (fun w' hE hD => by unfold Yld; go_simp; exact ⟨Ext.refl _, rfl⟩) ?_)
  (try simp only [Act.put, List.setIfInBounds_toArray, List.set_cons_zero, List.set_cons_succ])
  (first | refine wpF_val rfl (fun w' hE hD => by unfold Yld; go_simp; exact ⟨Ext.refl _, rfl⟩) ?_ | refine wpF_valg (by rfl) (fun w' hE hD => by unfold Yld; go_simp; exact ⟨Ext.refl _, rfl⟩) ?_)
  (try simp only [Act.put, List.setIfInBounds_toArray, List.set_cons_zero, List.set_cons_succ])
  (first | refine wpF_val rfl (fun w' hE hD => by unfold Yld; go_simp; exact ⟨Ext.refl _, rfl⟩) ?_ | refine wpF_valg (by rfl) (fun w' hE hD => by unfold Yld; go_simp; exact ⟨Ext.refl _, rfl⟩) ?_)
  (try simp only [Act.put, List.setIfInBounds_toArray, List.set_cons_zero, List.set_cons_succ])
  (first | refine wpF_val rfl (fun w' hE hD => by unfold Yld; go_simp; exact ⟨Ext.refl _, rfl⟩) ?_ | refine wpF_valg (by rfl) (fun w' hE hD => by unfold Yld; go_simp; exact ⟨Ext.refl _, rfl⟩) ?_)
  (try simp only [Act.put, List.setIfInBounds_toArray, List.set_cons_zero, List.set_cons_succ])
  (first | refine wpF_val rfl (fun w' hE hD => by unfold Yld; go_simp; exact ⟨Ext.refl _, rfl⟩) ?_ | refine wpF_valg (by rfl) (fun w' hE hD => by unfold Yld; go_simp; exact ⟨Ext.refl _, rfl⟩) ?_)
  (try simp only [Act.put, List.setIfInBounds_toArray, List.set_cons_zero, List.set_cons_succ])
  (first | refine wpF_val rfl (fun w' hE hD => by unfold Yld; go_simp; exact ⟨Ext.refl _, rfl⟩) ?_ | refine wpF_valg (by rfl) (fun w' hE hD => by unfold Yld; go_simp; exact ⟨Ext.refl _, rfl⟩) ?_)
  (try simp only [Act.put, List.setIfInBounds_toArray, List.set_cons_zero, List.set_cons_succ])
  (first | refine wpF_val rfl (fun w' hE hD => by have hm' := Ext.cell hE hm; unfold Yld; go_simp; exact ⟨Ext.refl _, rfl⟩) ?_ | refine wpF_valg (by rfl) (fun w' hE hD => by have hm' := Ext.cell hE hm; unfold Yld; go_simp; exact ⟨Ext.refl _, rfl⟩) ?_)
  (try simp only [Act.put, List.setIfInBounds_toArray, List.set_cons_zero, List.set_cons_succ])
  refine wpF_fact rfl (fun u Wa Wb h he => h.ext he) (fun w' hE hD => ?_) (fun u4 => ?_)
  · have hq := hD.1 (by kernel_rfl); unfold Yld; go_simp; exact ⟨Ext.refl _, hq⟩
  (try simp only [Act.put, List.setIfInBounds_toArray, List.set_cons_zero, List.set_cons_succ])
  refine wpF_nil fun w1 hE1 hA => ?_
  simp only [List.drop_succ_cons, List.drop_zero]
  have HU := Aside0.mk (show NB w1 w.heap.size u4 (R' i) from hA.2.1)
  have HE := Aside0.mk hE1
  clear hA hE1 c0 hm
  obtain ⟨A1, c1, hV, _, _⟩ := HU.out.reads
  go_wp2
  go_ret2
  exact ⟨_, rfl, HU.out, HE.out⟩
end
end Go.Proofs.Ytielnpmnnifjcaa.By
