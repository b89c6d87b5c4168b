/- The law of the chapter's examples. -/
import Derived.Test.YtielnpmnnifjcaaAk
namespace Go.Proofs.Ytielnpmnnifjcaa.By
open Go.RowKit Go.Proofs.Ytielnpmnnifjcaa.Reg Go.Proofs.YtielnpmnnifjcaaW.PrintWords Go.Proofs.YtielnpmnnifjcaaW.PrintLast Go.Proofs.YtielnpmnnifjcaaW.PrintMore
set_option linter.unusedVariables false
set_option linter.unusedSimpArgs false


def zs7 : List Int := [-9223372036854775808, -1, 0, 1, 64, 65, 9223372036854775807]
def ns7 : List Int := [0, 0, 0, 1, 64, 64, 64]
theorem run_mk (n : Nat) (hn : n ≤ 1000) (w : World) : (Instr.makeSlice 31 (.int .i64 (n : Int)) (.int .i64 (n : Int))).run Try.prog w = .ok (.slice (some ⟨w.heap.size, 0, none⟩) n n) (w.alloc (.cells (madeCells #[.int .u8 0] n) 5)) :=
  run_make_row' 31 5 (.int .u8 0) 1 Try.underlying31 (by kernel_rfl) rfl .i64 .i64 n (by omega) (by omega) w
theorem one_row {w w' : World} {A0 : Option Addr} {c0 n0 b t : Nat} {xs : List Int} (hb : Blk w' b #[.slice A0 n0 c0] t) (hE : Ext w w') (hx : Kd.C kb w A0 n0 xs) (hn0 : n0 = xs.length) (h0 : n0 ≤ c0) :
    Kd.C kBB w' (some ⟨b, 0, none⟩) 1 [xs] := by
  subst hn0
  have k0 : w'.cell? ((⟨b, 0, none⟩ : Addr).add 0) = some (.slice A0 xs.length c0) := addr0_cell (cs := [.slice A0 xs.length c0]) hb rfl
  refine ⟨rfl, by decide, fun _ => ⟨_, rfl, fun j r hr => ?_⟩⟩
  match j, hr with
  | 0, hr =>
    injection hr with hr
    subst hr
    refine ⟨[.slice A0 xs.length c0], rfl, ⟨A0, c0, rfl, h0, Kd.C_below hx hE⟩, fun i u hu => ?_⟩
    match i, hu with
    | 0, hu => injection hu with hu; subst hu; exact k0
    | i + 1, hu => simp at hu
  | j + 1, hr => simp at hr
theorem Blk.new2 (w : World) (o : Obj) (cs : Array Value) (t : TypeId) : Blk ((w.alloc o).alloc (.cells cs t)) (w.heap.size + 1) cs t := by
  have e : (w.alloc o).heap.size = w.heap.size + 1 := by simp
  rw [← e]
  exact Blk.new _ _ _
theorem seven (x : Nat) (hx : x < 7) : ∃ (z : Int) (n : Nat), zs7[x]? = some z ∧ ns7[x]? = some (n : Int) ∧ clampN z = n ∧ n ≤ 64 ∧ -9223372036854775808 ≤ z ∧ z ≤ 9223372036854775807 := by
  match x, hx with
  | 0, _ => exact ⟨_, _, rfl, rfl, by decide, by decide, by decide, by decide⟩
  | 1, _ => exact ⟨_, _, rfl, rfl, by decide, by decide, by decide, by decide⟩
  | 2, _ => exact ⟨_, _, rfl, rfl, by decide, by decide, by decide, by decide⟩
  | 3, _ => exact ⟨_, _, rfl, rfl, by decide, by decide, by decide, by decide⟩
  | 4, _ => exact ⟨_, _, rfl, rfl, by decide, by decide, by decide, by decide⟩
  | 5, _ => exact ⟨_, _, rfl, rfl, by decide, by decide, by decide, by decide⟩
  | 6, _ => exact ⟨_, _, rfl, rfl, by decide, by decide, by decide, by decide⟩
set_option maxRecDepth 100000 in
set_option maxHeartbeats 2000000 in
theorem array_known (w : World) : Calls Try.prog 3 #[] w fun e w' => e = .returned (.bool true) ∧ Below w.heap.size w w' := by
  go_enter Try.func3, Try.ntmps3
  go_wp2_with fail
  go_loopw [3] (fun j wr => ∃ x : Nat, j = .int .i64 x ∧ Aside0 (x ≤ 7) ∧ Aside0 (Blk wr w.heap.size (nums .i64 zs7).toArray 3) ∧ Aside0 (Blk wr (w.heap.size + 1) (nums .i64 ns7).toArray 3) ∧ Aside0 (Ext w wr)) (fun j _ => 8 - (intOf j).toNat)
  case atStart => exact ⟨0, rfl, ⟨by decide⟩, ⟨(Blk.new _ _ _).ext ((Ext.refl _).alloc _)⟩, ⟨Blk.new2 w (.cells (nums .i64 zs7).toArray 3) (nums .i64 ns7).toArray 3⟩, ⟨((Ext.refl w).alloc _).alloc _⟩⟩
  case round =>
    obtain ⟨x, rfl, HX, HB1, HB2, HE⟩ := hrel
    have g1 := HX.out
    by_cases hlt : x < 7
    · have hxl : (x : Int) < 7 := by omega
      obtain ⟨z, n, q1, q2, q3, q4, q5, q6⟩ := seven x hlt
      have k1 : wr.cell? ⟨w.heap.size, x, none⟩ = some (.int .i64 z) := HB1.out.cell x (v := .int .i64 z) (by simp [nums, q1])
      have k2 : wr.cell? ⟨w.heap.size + 1, x, none⟩ = some (.int .i64 (n : Int)) := HB2.out.cell x (v := .int .i64 (n : Int)) (by simp [nums, q2])
      have HK2 := Aside0.mk k2
      have HLT := Aside0.mk hlt
      clear q1 q2 k2 hlt
      obtain ⟨w0, hw0⟩ : ∃ w0 : World, w0 = wr := ⟨_, rfl⟩
      subst hw0
      go_wp2_with fail
      refine (ar_new w0 z w0.heap.size (Nat.le_refl _)).mono ?_
      rintro e w1 ⟨ba, rfl, hA, hE, hb⟩
      rw [q3] at hA
      have HA1 := Aside0.mk hA
      have HE1 := Aside0.mk hE
      clear hA hE hb k1
      go_wp2_with fail
      refine (ar_rows HA1.out).mono ?_
      rintro e w2 ⟨U, rfl, hN, hE⟩
      obtain ⟨AU, cU, rfl, hcU, hCU⟩ := hN.C (n := n) (rowsOf_len _ _).symm
      have HCU := Aside0.mk (And.intro hcU hCU)
      have HA2 := Aside0.mk (HA1.out.ext hE)
      have HE2 := Aside0.mk (HE1.out.trans hE)
      clear hN hE hcU hCU HA1 HE1
      go_wp2_with fail
      refine (ar_match_at HA2.out AU n cU _ (rowsOf_len _ _).symm HCU.out.2 HCU.out.1 0 true (.inl ⟨rfl, Nat.zero_le _, rfl, fun j hj => by omega⟩)).mono ?_
      rintro e w3 ⟨rfl, hE⟩
      have HA3 := Aside0.mk (HA2.out.ext hE)
      have HE3 := Aside0.mk (HE2.out.trans hE)
      clear hE HA2 HE2 HCU
      have HA2 := HA3
      have k2 := Ext.cell HE3.out HK2.out
      go_wp2_with fail
      apply wp_region_facts 24 [RF.val _, RF.fact (fun u _ => ∃ A c, u = .slice A n c), RF.val _, RF.val _, RF.val _, RF.val _, RF.val _, RF.val _, RF.val _, RF.val _, RF.val _, RF.val _, RF.val _, RF.val _, RF.val _, RF.val _, RF.val _, RF.val _, RF.val _, RF.val _, RF.val _, RF.val _, RF.fact (fun u w => ∃ A c, u = .slice A 32 c ∧ 32 ≤ c ∧ Kd.C kb w A 32 (List.replicate 32 1)), RF.fact (fun u w => ∃ A c, u = .agg #[.bool false, .int .i64 n, .slice A 32 c] ∧ 32 ≤ c ∧ Kd.C kb w A 32 (List.replicate 32 1))]
      case hm => kernel_rfl
      case hB => kernel_rfl
      simp only [List.take_succ_cons, List.take_zero, List.zip_cons_cons, List.zip_nil_left]
      (first | refine wpF_val rfl (fun w' hE hD => by unfold Yld; go_simp; exact ⟨Ext.refl _, rfl⟩) ?_ | refine wpF_valg (by rfl) (fun w' hE hD => by unfold Yld; go_simp; exact ⟨Ext.refl _, rfl⟩) ?_)
      (try simp only [Act.put, List.setIfInBounds_toArray, List.set_cons_zero, List.set_cons_succ])
      refine wpF_fact rfl (fun u Wa Wb h he => h) (fun w' hE hD => ?_) (fun u37 => ?_)
      · unfold Yld
        go_simp
        exact (ar_rows (HA2.out.ext hE)).mono fun e w2 h => by
          obtain ⟨U, h1, h2, h3⟩ := h
          obtain ⟨A, c, e, _, _⟩ := h2.C (n := n) (rowsOf_len _ _).symm
          exact ⟨U, h1, h3, A, c, e⟩
      (try simp only [Act.put, List.setIfInBounds_toArray, List.set_cons_zero, List.set_cons_succ])
      (first | refine wpF_val rfl (fun w' hE hD => by obtain ⟨Au, cu, eu⟩ := hD.1 (by kernel_rfl); subst eu; unfold Yld; go_simp; exact ⟨Ext.refl _, rfl⟩) ?_ | refine wpF_valg (by rfl) (fun w' hE hD => by obtain ⟨Au, cu, eu⟩ := hD.1 (by kernel_rfl); subst eu; unfold Yld; go_simp; exact ⟨Ext.refl _, rfl⟩) ?_)
      (try simp only [Act.put, List.setIfInBounds_toArray, List.set_cons_zero, List.set_cons_succ])
      (first | refine wpF_val rfl (fun w' hE hD => by unfold Yld; go_simp; exact ⟨Ext.refl _, rfl⟩) ?_ | refine wpF_valg (by rfl) (fun w' hE hD => by unfold Yld; go_simp; exact ⟨Ext.refl _, rfl⟩) ?_)
      (try simp only [Act.put, List.setIfInBounds_toArray, List.set_cons_zero, List.set_cons_succ])
      (first | refine wpF_val rfl (fun w' hE hD => by unfold Yld; go_simp; exact ⟨Ext.refl _, rfl⟩) ?_ | refine wpF_valg (by rfl) (fun w' hE hD => by unfold Yld; go_simp; exact ⟨Ext.refl _, rfl⟩) ?_)
      (try simp only [Act.put, List.setIfInBounds_toArray, List.set_cons_zero, List.set_cons_succ])
      (first | refine wpF_val rfl (fun w' hE hD => by unfold Yld; go_simp; exact ⟨Ext.refl _, rfl⟩) ?_ | refine wpF_valg (by rfl) (fun w' hE hD => by unfold Yld; go_simp; exact ⟨Ext.refl _, rfl⟩) ?_)
      (try simp only [Act.put, List.setIfInBounds_toArray, List.set_cons_zero, List.set_cons_succ])
      (first | refine wpF_val rfl (fun w' hE hD => by have kx := Ext.cell hE k2; unfold Yld; go_simp; exact ⟨Ext.refl _, rfl⟩) ?_ | refine wpF_valg (by rfl) (fun w' hE hD => by have kx := Ext.cell hE k2; unfold Yld; go_simp; exact ⟨Ext.refl _, rfl⟩) ?_)
      (try simp only [Act.put, List.setIfInBounds_toArray, List.set_cons_zero, List.set_cons_succ])
      (first | refine wpF_val rfl (fun w' hE hD => by unfold Yld; go_simp; exact ⟨Ext.refl _, rfl⟩) ?_ | refine wpF_valg (by rfl) (fun w' hE hD => by unfold Yld; go_simp; exact ⟨Ext.refl _, rfl⟩) ?_)
      (try simp only [Act.put, List.setIfInBounds_toArray, List.set_cons_zero, List.set_cons_succ])
      (first | refine wpF_val rfl (fun w' hE hD => by unfold Yld; go_simp; exact ⟨Ext.refl _, rfl⟩) ?_ | refine wpF_valg (by rfl) (fun w' hE hD => by unfold Yld; go_simp; exact ⟨Ext.refl _, rfl⟩) ?_)
      (try simp only [Act.put, List.setIfInBounds_toArray, List.set_cons_zero, List.set_cons_succ])
      (first | refine wpF_val rfl (fun w' hE hD => by unfold Yld; go_simp; exact ⟨Ext.refl _, rfl⟩) ?_ | refine wpF_valg (by rfl) (fun w' hE hD => by unfold Yld; go_simp; exact ⟨Ext.refl _, rfl⟩) ?_)
      (try simp only [Act.put, List.setIfInBounds_toArray, List.set_cons_zero, List.set_cons_succ])
      (first | refine wpF_val rfl (fun w' hE hD => by unfold Yld; go_simp; exact ⟨Ext.refl _, rfl⟩) ?_ | refine wpF_valg (by rfl) (fun w' hE hD => by unfold Yld; go_simp; exact ⟨Ext.refl _, rfl⟩) ?_)
      (try simp only [Act.put, List.setIfInBounds_toArray, List.set_cons_zero, List.set_cons_succ])
      (first | refine wpF_val rfl (fun w' hE hD => by unfold Yld; go_simp; exact ⟨Ext.refl _, rfl⟩) ?_ | refine wpF_valg (by rfl) (fun w' hE hD => by unfold Yld; go_simp; exact ⟨Ext.refl _, rfl⟩) ?_)
      (try simp only [Act.put, List.setIfInBounds_toArray, List.set_cons_zero, List.set_cons_succ])
      (first | refine wpF_val rfl (fun w' hE hD => by unfold Yld; go_simp; exact ⟨Ext.refl _, rfl⟩) ?_ | refine wpF_valg (by rfl) (fun w' hE hD => by unfold Yld; go_simp; exact ⟨Ext.refl _, rfl⟩) ?_)
      (try simp only [Act.put, List.setIfInBounds_toArray, List.set_cons_zero, List.set_cons_succ])
      (first | refine wpF_val rfl (fun w' hE hD => by unfold Yld; go_simp; exact ⟨Ext.refl _, rfl⟩) ?_ | refine wpF_valg (by rfl) (fun w' hE hD => by unfold Yld; go_simp; exact ⟨Ext.refl _, rfl⟩) ?_)
      (try simp only [Act.put, List.setIfInBounds_toArray, List.set_cons_zero, List.set_cons_succ])
      (first | refine wpF_val rfl (fun w' hE hD => by unfold Yld; go_simp; exact ⟨Ext.refl _, rfl⟩) ?_ | refine wpF_valg (by rfl) (fun w' hE hD => by unfold Yld; go_simp; exact ⟨Ext.refl _, rfl⟩) ?_)
      (try simp only [Act.put, List.setIfInBounds_toArray, List.set_cons_zero, List.set_cons_succ])
      (first | refine wpF_val rfl (fun w' hE hD => by unfold Yld; go_simp; exact ⟨Ext.refl _, rfl⟩) ?_ | refine wpF_valg (by rfl) (fun w' hE hD => by unfold Yld; go_simp; exact ⟨Ext.refl _, rfl⟩) ?_)
      (try simp only [Act.put, List.setIfInBounds_toArray, List.set_cons_zero, List.set_cons_succ])
      (first | refine wpF_val rfl (fun w' hE hD => by unfold Yld; go_simp; exact ⟨Ext.refl _, rfl⟩) ?_ | refine wpF_valg (by rfl) (fun w' hE hD => by unfold Yld; go_simp; exact ⟨Ext.refl _, rfl⟩) ?_)
      (try simp only [Act.put, List.setIfInBounds_toArray, List.set_cons_zero, List.set_cons_succ])
      (first | refine wpF_val rfl (fun w' hE hD => by unfold Yld; go_simp; exact ⟨Ext.refl _, rfl⟩) ?_ | refine wpF_valg (by rfl) (fun w' hE hD => by unfold Yld; go_simp; exact ⟨Ext.refl _, rfl⟩) ?_)
      (try simp only [Act.put, List.setIfInBounds_toArray, List.set_cons_zero, List.set_cons_succ])
      (first | refine wpF_val rfl (fun w' hE hD => by unfold Yld; go_simp; exact ⟨Ext.refl _, rfl⟩) ?_ | refine wpF_valg (by rfl) (fun w' hE hD => by unfold Yld; go_simp; exact ⟨Ext.refl _, rfl⟩) ?_)
      (try simp only [Act.put, List.setIfInBounds_toArray, List.set_cons_zero, List.set_cons_succ])
      (first | refine wpF_val rfl (fun w' hE hD => by unfold Yld; go_simp; exact ⟨Ext.refl _, rfl⟩) ?_ | refine wpF_valg (by rfl) (fun w' hE hD => by unfold Yld; go_simp; exact ⟨Ext.refl _, rfl⟩) ?_)
      (try simp only [Act.put, List.setIfInBounds_toArray, List.set_cons_zero, List.set_cons_succ])
      (first | refine wpF_val rfl (fun w' hE hD => by unfold Yld; go_simp; exact ⟨Ext.refl _, rfl⟩) ?_ | refine wpF_valg (by rfl) (fun w' hE hD => by unfold Yld; go_simp; exact ⟨Ext.refl _, rfl⟩) ?_)
      (try simp only [Act.put, List.setIfInBounds_toArray, List.set_cons_zero, List.set_cons_succ])
      (first | refine wpF_val rfl (fun w' hE hD => by have kx := Ext.cell hE k2; unfold Yld; go_simp; exact ⟨Ext.refl _, rfl⟩) ?_ | refine wpF_valg (by rfl) (fun w' hE hD => by have kx := Ext.cell hE k2; unfold Yld; go_simp; exact ⟨Ext.refl _, rfl⟩) ?_)
      (try simp only [Act.put, List.setIfInBounds_toArray, List.set_cons_zero, List.set_cons_succ])
      refine wpF_factg (by rfl) (fun u Wa Wb h he => by obtain ⟨A, c, h1, h2, h3⟩ := h; exact ⟨A, c, h1, h2, Kd.C_below h3 he⟩) (fun w' hE hD => ?_) (fun u58 => ?_)
      · unfold Yld
        go_simp
        exact (row_calls w' 1).mono fun e w2 h => by
          obtain ⟨A, c, h1, h2, h3, h4⟩ := h
          exact ⟨_, h1, h4.out, A, c, rfl, h2.out, h3.out⟩
      (try simp only [Act.put, List.setIfInBounds_toArray, List.set_cons_zero, List.set_cons_succ])
      refine wpF_factg (by rfl) (fun u Wa Wb h he => by obtain ⟨A, c, h1, h2, h3⟩ := h; exact ⟨A, c, h1, h2, Kd.C_below h3 he⟩) (fun w' hE hD => ?_) (fun u59 => ?_)
      · obtain ⟨Au, cu, eu, hc, hC⟩ := hD.2.1 (by kernel_rfl)
        subst eu
        unfold Yld
        go_simp
        exact ⟨Ext.refl _, Au, cu, rfl, hc, hC⟩
      (try simp only [Act.put, List.setIfInBounds_toArray, List.set_cons_zero, List.set_cons_succ])
      refine wpF_nil fun w4 hE4 hA => ?_
      simp only [List.drop_succ_cons, List.drop_zero]
      obtain ⟨A5, c5, e5, hc5, hC5⟩ := hA.2.2.1
      subst e5
      have HA4 := Aside0.mk (HA2.out.ext hE4)
      have HE4 := Aside0.mk (HE3.out.trans hE4)
      clear hA hE4 HA2 HA3 HE3 k2
      go_wp2_with fail
      refine (ar_do_bad HA4.out false n A5 32 c5 (.inr (.inl (Int.le_refl _)))).mono ?_
      rintro e w5 ⟨rfl, hE⟩
      have HA5 := Aside0.mk (HA4.out.ext hE)
      have HE5 := Aside0.mk (HE4.out.trans hE)
      clear hE HA4 HE4 hc5 hC5
      go_wp2_with fail
      refine (ar_fall_no HA5.out (-1) (.inl (by decide))).mono ?_
      rintro e _ ⟨rfl, rfl⟩
      go_wp2_with fail
      refine (ar_fall_no HA5.out 1 (.inr (by decide))).mono ?_
      rintro e _ ⟨rfl, rfl⟩
      go_wp2_with fail
      refine (ar_fall HA5.out 0 (by decide)).mono ?_
      rintro e w6 ⟨rfl, hA, hC⟩
      have HE6 := Aside0.mk (hC.to_ext HE5.out HA5.out.bb)
      clear hA hC HA5 HE5
      go_wp2_with fail
      go_roundw
      case rel => exact ⟨x + 1, by go_num, ⟨by have := HLT.out; omega⟩, ⟨HB1.out.ext HE6.out⟩, ⟨HB2.out.ext HE6.out⟩, ⟨HE.out.trans HE6.out⟩⟩
      case measure => have := HLT.out; simp only [intOf]; omega
    · obtain rfl : x = 7 := by omega
      have HEw := HE
      clear HB1 HB2 HE
      go_wp2_with fail
      refine (ar_new wr 2 w.heap.size HEw.out.size).mono ?_
      rintro e w1 ⟨ba, rfl, hA, hE, hb⟩
      have HA1 := Aside0.mk (show AR w1 w.heap.size ba 2 (.slice none 0 0) [] 0 from hA)
      have HX1 := Aside0.mk (HEw.out.trans hE)
      clear hA hE hb HEw
      go_wp2_with fail
      refine (ar_read_no HA1.out 2 (.inr (by decide))).mono ?_
      rintro e _ ⟨rfl, rfl⟩
      go_wp2_with fail
      refine (ar_read_no HA1.out (-1) (.inl (by decide))).mono ?_
      rintro e _ ⟨rfl, rfl⟩
      have hm31 := run_mk 31 (by decide)
      have hm33 := run_mk 33 (by decide)
      simp only [Int.ofNat_eq_natCast, Int.cast_ofNat_Int] at hm31 hm33
      go_wp2_with fail
      have HEa := Aside0.mk ((Ext.refl w1).alloc (.cells (madeCells #[.int .u8 0] 31) 5))
      refine (ar_do_bad (HA1.out.ext HEa.out) false 0 _ 31 31 (.inr (.inr (by decide)))).mono ?_
      rintro e w2 ⟨rfl, hE⟩
      have HA2 := Aside0.mk (HA1.out.ext (HEa.out.trans hE))
      have HX2 := Aside0.mk (HX1.out.trans (HEa.out.trans hE))
      clear hE HA1 HX1 HEa
      go_wp2_with fail
      have HEa := Aside0.mk ((Ext.refl w2).alloc (.cells (madeCells #[.int .u8 0] 33) 5))
      refine (ar_do_bad (HA2.out.ext HEa.out) false 0 _ 33 33 (.inr (.inr (by decide)))).mono ?_
      rintro e w3 ⟨rfl, hE⟩
      have HA3 := Aside0.mk (HA2.out.ext (HEa.out.trans hE))
      have HX3 := Aside0.mk (HX2.out.trans (HEa.out.trans hE))
      clear hE HA2 HX2 HEa
      go_wp2_with fail
      have HEa := Aside0.mk ((Ext.refl w3).alloc (.cells #[.int .u8 1] 5))
      refine (ar_do_bad (HA3.out.ext HEa.out) true 0 _ 1 1 (.inr (.inr (by decide)))).mono ?_
      rintro e w4 ⟨rfl, hE⟩
      have HA4 := Aside0.mk (HA3.out.ext (HEa.out.trans hE))
      have HX4 := Aside0.mk (HX3.out.trans (HEa.out.trans hE))
      clear hE HA3 HX3 HEa hm31 hm33
      go_wp2_with fail
      refine (row_calls w4 1).mono ?_
      rintro e w5 ⟨A5, c5, rfl, HC5, HR5, HE5⟩
      go_wp2_with fail
      refine (ar_do_bad (HA4.out.ext HE5.out) false (-1) A5 32 c5 (.inl (by decide))).mono ?_
      rintro e w6 ⟨rfl, hE⟩
      have HA6 := Aside0.mk (HA4.out.ext (HE5.out.trans hE))
      have HX6 := Aside0.mk (HX4.out.trans (HE5.out.trans hE))
      clear hE HA4 HX4 HC5 HR5 HE5
      go_wp2_with fail
      refine (ar_open HA6.out).mono ?_
      rintro e _ ⟨rfl, rfl⟩
      go_wp2_with fail
      refine (row_calls w6 0).mono ?_
      rintro e w7 ⟨A7, c7, rfl, HC7, HR7, HE7⟩
      go_wp2_with fail
      refine (ar_do_w (HA6.out.ext HE7.out) (by decide) 0 (by decide) A7 c7 r0 rfl HR7.out HC7.out (by have := HX6.out.size; have := HE7.out.size; omega)).mono ?_
      rintro e w8 ⟨V8, rfl, hA, hC, hO⟩
      have HA8 := Aside0.mk (show AR w8 w.heap.size ba 2 V8 [(false, 0, r0)] 0 from hA)
      have HX8 := Aside0.mk (hC.to_ext (HX6.out.trans HE7.out) (HA6.out.ext HE7.out).bb)
      clear hA hC hO HA6 HX6 HC7 HR7 HE7
      go_wp2_with fail
      refine (ar_mapped HA8.out).mono ?_
      rintro e _ ⟨he, rfl⟩
      obtain rfl : e = .returned (.int .i64 1) := by rw [he]; exact congrArg (fun z : Int => Ending.returned (.int .i64 z)) (by decide +kernel)
      clear he
      go_wp2_with fail
      refine (row_calls w8 0).mono ?_
      rintro e w9 ⟨A8, c8, rfl, HC8, HR8, HE8⟩
      go_wp2_with fail
      refine (row_calls w9 0).mono ?_
      rintro e w10 ⟨A9, c9, rfl, HC9, HR9, HE9⟩
      go_wp2_with fail
      have HEa := Aside0.mk ((Ext.refl w10).alloc (.cells #[.slice A8 32 c8, .slice A9 32 c9] 31))
      refine (ar_match_at (HA8.out.ext ((HE8.out.trans HE9.out).trans HEa.out)) _ 2 2 [r0, r0] rfl (two_rows (Blk.new _ _ _) HEa.out (Kd.C_below HR8.out HE9.out) rfl HC8.out HR9.out rfl HC9.out) (Nat.le_refl _) 0 true (by unfold AQ MQ; decide +kernel)).mono ?_
      rintro e w11 ⟨rfl, hE⟩
      have HA11 := Aside0.mk (HA8.out.ext (((HE8.out.trans HE9.out).trans HEa.out).trans hE))
      have HX11 := Aside0.mk (HX8.out.trans (((HE8.out.trans HE9.out).trans HEa.out).trans hE))
      clear hE HEa HA8 HX8 HC8 HR8 HE8 HC9 HR9 HE9
      go_wp2_with fail
      refine (row_calls w11 0).mono ?_
      rintro e w12 ⟨A12, c12, rfl, HC12, HR12, HE12⟩
      go_wp2_with fail
      have HEa := Aside0.mk ((Ext.refl w12).alloc (.cells #[.slice A12 32 c12] 31))
      refine (ar_match_at (HA11.out.ext (HE12.out.trans HEa.out)) _ 1 1 [r0] rfl (one_row (Blk.new _ _ _) HEa.out HR12.out rfl HC12.out) (Nat.le_refl _) 0 false (by unfold AQ MQ; decide +kernel)).mono ?_
      rintro e w13 ⟨rfl, hE⟩
      have HX13 := Aside0.mk (HX11.out.trans ((HE12.out.trans HEa.out).trans hE))
      clear hE HEa HA11 HX11 HC12 HR12 HE12
      go_wp2_with fail
      refine (known_calls w13).mono ?_
      rintro e w14 ⟨rfl, hE⟩
      have HX14 := Aside0.mk (HX13.out.trans hE)
      clear hE HX13
      go_wp2_with fail
      go_ret
      exact ⟨rfl, HX14.out⟩
end Go.Proofs.Ytielnpmnnifjcaa.By
