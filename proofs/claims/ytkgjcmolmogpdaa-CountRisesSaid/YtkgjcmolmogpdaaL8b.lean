/- Layer 8: CountSpends and CountRises. -/
import Derived.Test.YtkgjcmolmogpdaaCe
import Derived.Test.YtkgjcmolmogpdaaL8a
namespace Go.Proofs.Ytkgjcmolmogpdaa.By
open Go.RowKit Go.Proofs.Ytkgjcmolmogpdaa.Reg Go.Proofs.YtkgjcmolmogpdaaW.PrintWords Go.Proofs.YtkgjcmolmogpdaaW.PrintLast Go.Proofs.YtkgjcmolmogpdaaW.PrintMore
set_option linter.unusedVariables false
set_option linter.unusedSimpArgs false


def SpI (N d lf : Int) (of : Bool) : Prop := (of = false → lf = N - d) ∧ (of = true → d = N)
theorem ce_late (q v : Int) (ar : Bool) (lf : Int) (of : Bool) (h : lateF q v = true) : raiseE q v ar lf of = 8 ∧ raiseV q v ar lf of = v ∧ raiseL q v ar lf of = lf ∧ raiseD q v ar lf of = of := by
  refine ⟨?_, ?_, ?_, ?_⟩
  · unfold raiseE; rw [if_pos h]
  · unfold raiseV; rw [if_pos (.inl h)]
  · unfold raiseL; rw [if_pos h]
  · unfold raiseD; rw [if_pos h]
theorem ce_spent (q v : Int) (ar : Bool) (lf : Int) (of : Bool) (h : lateF q v = false) (hd : downF ar lf of = true) : raiseE q v ar lf of = 12 ∧ raiseV q v ar lf of = v ∧ raiseL q v ar lf of = lf ∧ raiseD q v ar lf of = true := by
  have h' : ¬ lateF q v = true := by rw [h]; decide
  refine ⟨?_, ?_, ?_, ?_⟩
  · unfold raiseE; rw [if_neg h']; exact (spendE_12 hd).1
  · unfold raiseV; rw [if_pos (.inr hd)]
  · unfold raiseL; rw [if_neg h']; exact (spendE_12 hd).2
  · unfold raiseD; rw [if_neg h', hd]
theorem ce_goes (q v : Int) (ar : Bool) (lf : Int) (of : Bool) (h : lateF q v = false) (hd : downF ar lf of = false) : raiseE q v ar lf of = 0 ∧ raiseV q v ar lf of = q ∧ raiseL q v ar lf of = wrap64 (lf - 1) ∧ raiseD q v ar lf of = false := by
  have h' : ¬ lateF q v = true := by rw [h]; decide
  refine ⟨?_, ?_, ?_, ?_⟩
  · unfold raiseE; rw [if_neg h']; exact (spendE_0 hd).1
  · unfold raiseV; rw [if_neg (by rw [h, hd]; simp)]
  · unfold raiseL; rw [if_neg h']; exact (spendE_0 hd).2
  · unfold raiseD; rw [if_neg h', hd]
set_option maxRecDepth 100000 in
set_option maxHeartbeats 2000000 in
theorem spends_calls (w : World) (p : Int) (hp : -9223372036854775808 ≤ p ∧ p ≤ 9223372036854775807) (A : Option Addr) (m c : Nat) (xs : List Int) (hr : Kd.C kI w A m xs) (hc : m ≤ c) :
    Calls Try.prog 11 #[.int .i64 p, .slice A m c] w fun e w' => e = .returned (.bool true) ∧ Ext w w' := by
  have HR := Aside0.mk hr
  clear hr
  by_cases hbig : (200 : Int) < m
  · go_enter Try.func11, Try.ntmps11
    go_wp2_with fail
    refine (works_calls w).mono ?_
    rintro e w1 ⟨rfl, hE⟩
    go_wp2
    go_ret
    exact ⟨rfl, hE⟩
  obtain ⟨N, hN⟩ : ∃ N, N = pickT p 200 := ⟨_, rfl⟩
  have hNr := pickT_range p 200 (by decide)
  rw [← hN] at hNr
  obtain ⟨hN0, hN1⟩ := hNr
  go_enter Try.func11, Try.ntmps11
  go_wp2_with fail
  refine (ce_new w 4 (by decide) (by decide) w.heap.size (Nat.le_refl _)).mono ?_
  rintro e w1 ⟨bd, rfl, hD, hE⟩
  have HD1 := Aside0.mk hD
  have HE1 := Aside0.mk hE
  clear hD hE
  go_wp2_with fail
  refine (ce_cnew HD1.out).mono ?_
  rintro e w2 ⟨bk, rfl, hD, hE⟩
  have HD2 := Aside0.mk hD
  have HE2 := Aside0.mk (HE1.out.trans hE)
  clear hD hE HD1 HE1
  go_wp2_with fail
  refine (pick_calls w2 p 200 N hp.1 hp.2 (by decide) hN).mono ?_
  rintro e w3 ⟨rfl, hE⟩
  have HD3 := Aside0.mk (HD2.out.ext hE)
  have HE3 := Aside0.mk (HE2.out.trans hE)
  clear hE HD2 HE2 hN
  go_wp2_with fail
  refine (ce_arm HD3.out N).mono ?_
  rintro e w4 ⟨rfl, hD, hE⟩
  have HD4 := Aside0.mk (show CE w4 w.heap.size bd bk 4 0 true N false by rw [show decide (0 ≤ N) = true from decide_eq_true hN0] at hD; exact hD)
  have HE4 := Aside0.mk (show Ext w w4 from Below.trans HE3.out hE)
  clear hE hD HD3 HE3
  go_wp2_with fail
  go_loopw [8, 9] (fun u i wr => ∃ (x : Nat) (d : Int), i = .int .i64 x ∧ u = .int .i64 d ∧ Aside0 (x ≤ m) ∧ Aside0 (0 ≤ d ∧ d ≤ N) ∧ (∃ v lf of, Aside0 (CE wr w.heap.size bd bk 4 v true lf of) ∧ Aside0 (SpI N d lf of)) ∧ Aside0 (Ext w wr)) (fun _ i _ => m - (intOf i).toNat)
  case atStart => exact ⟨0, 0, rfl, rfl, ⟨Nat.zero_le _⟩, ⟨Int.le_refl _, hN0⟩, ⟨0, N, false, HD4, ⟨fun _ => by omega, fun h => by cases h⟩⟩, HE4⟩
  case round =>
    clear HD4 HE4
    obtain ⟨x, d, rfl, rfl, HX, HDD, ⟨v, lf, of, HCE, HLF⟩, HE⟩ := hrel
    have g0 := HX.out
    obtain ⟨gd0, gd1⟩ := HDD.out
    obtain ⟨wx, hwx⟩ : ∃ wx : World, wx = wr := ⟨_, rfl⟩
    subst hwx
    by_cases hlt : x < m
    · have HXL := Aside0.mk hlt
      have hdj : decide ((x : Int) < (m : Int)) = true := decide_eq_true (by omega)
      obtain ⟨ad, had, hcell⟩ := at_k (Kd.C_below HR.out HE.out) (x : Int) (by omega) (by omega)
      subst had
      rw [Int.toNat_natCast] at hcell
      obtain ⟨y, hy⟩ : ∃ y, y = Go.Proofs.YtkgjcmolmogpdaaW.PrintWords.rd xs (x : Int) := ⟨_, rfl⟩
      rw [← hy] at hcell
      clear hy
      have HCC := Aside0.mk hcell
      by_cases h1 : v < y
      · have hd1 : decide (v < y) = true := decide_eq_true h1
        by_cases h2 : y ≤ 1152921504606846976
        · have hd2 : decide (y ≤ 1152921504606846976) = true := decide_eq_true h2
          have hla : lateF y v = false := by unfold lateF; simp; omega
          cases hdn : downF true lf of with
          | true =>
            obtain ⟨e1, e2, e3, e4⟩ := ce_spent y v true lf of hla hdn
            have hdN : d = N := by
              cases of with
              | true => exact HLF.out.2 rfl
              | false =>
                have := HLF.out.1 rfl
                unfold downF at hdn
                simp at hdn
                omega
            have hcmp : decide (d < N) = false := decide_eq_false (by omega)
            have HFR := Aside0.mk (show SpI N d lf true from ⟨fun h => (by cases h), fun _ => hdN⟩)
            clear hdn HLF hdN hla
            go_wp2_with fail
            apply wp_region_facts 14 [RF.val _, RF.val _, RF.val _, RF.val _, RF.val _, RF.val _, RF.val _, RF.val _, RF.val _, RF.val _, RF.val _, RF.val _, RF.val _, RF.val _]
            case hm => kernel_rfl
            case hB => kernel_rfl
            simp only [List.take_succ_cons, List.take_zero, List.zip_cons_cons, List.zip_nil_left]
            (first | refine wpF_val rfl (fun w' hE hD => by unfold Yld; go_simp; exact ⟨Ext.refl _, rfl⟩) ?_ | refine wpF_valg (by rfl) (fun w' hE hD => by unfold Yld; go_simp; exact ⟨Ext.refl _, rfl⟩) ?_)
            (try simp only [Act.put, List.setIfInBounds_toArray, List.set_cons_zero, List.set_cons_succ])
            (first | refine wpF_val rfl (fun w' hE hD => by unfold Yld; go_simp; exact ⟨Ext.refl _, rfl⟩) ?_ | refine wpF_valg (by rfl) (fun w' hE hD => by unfold Yld; go_simp; exact ⟨Ext.refl _, rfl⟩) ?_)
            (try simp only [Act.put, List.setIfInBounds_toArray, List.set_cons_zero, List.set_cons_succ])
            (first | refine wpF_val rfl (fun w' hE hD => by unfold Yld; go_simp; exact ⟨Ext.refl _, rfl⟩) ?_ | refine wpF_valg (by rfl) (fun w' hE hD => by unfold Yld; go_simp; exact ⟨Ext.refl _, rfl⟩) ?_)
            (try simp only [Act.put, List.setIfInBounds_toArray, List.set_cons_zero, List.set_cons_succ])
            (first | refine wpF_val rfl (fun w' hE hD => by have hq := Ext.cell hE hcell; unfold Yld; go_simp; exact ⟨Ext.refl _, rfl⟩) ?_ | refine wpF_valg (by rfl) (fun w' hE hD => by have hq := Ext.cell hE hcell; unfold Yld; go_simp; exact ⟨Ext.refl _, rfl⟩) ?_)
            (try simp only [Act.put, List.setIfInBounds_toArray, List.set_cons_zero, List.set_cons_succ])
            (first | refine wpF_val rfl (fun w' hE hD => by unfold Yld; go_simp; exact ⟨Ext.refl _, rfl⟩) ?_ | refine wpF_valg (by rfl) (fun w' hE hD => by unfold Yld; go_simp; exact ⟨Ext.refl _, rfl⟩) ?_)
            (try simp only [Act.put, List.setIfInBounds_toArray, List.set_cons_zero, List.set_cons_succ])
            (first | refine wpF_val rfl (fun w' hE hD => by unfold Yld; go_simp; exact (ce_value (HCE.out.ext hE)).mono fun e w2 h => ⟨_, h.1, h.2 ▸ Ext.refl _, rfl⟩) ?_ | refine wpF_valg (by rfl) (fun w' hE hD => by unfold Yld; go_simp; exact (ce_value (HCE.out.ext hE)).mono fun e w2 h => ⟨_, h.1, h.2 ▸ Ext.refl _, rfl⟩) ?_)
            (try simp only [Act.put, List.setIfInBounds_toArray, List.set_cons_zero, List.set_cons_succ])
            (first | refine wpF_val rfl (fun w' hE hD => by unfold Yld; go_simp; exact ⟨Ext.refl _, rfl⟩) ?_ | refine wpF_valg (by rfl) (fun w' hE hD => by unfold Yld; go_simp; exact ⟨Ext.refl _, rfl⟩) ?_)
            (try simp only [Act.put, List.setIfInBounds_toArray, List.set_cons_zero, List.set_cons_succ])
            (first | refine wpF_val rfl (fun w' hE hD => by unfold Yld; go_simp; exact ⟨Ext.refl _, rfl⟩) ?_ | refine wpF_valg (by rfl) (fun w' hE hD => by unfold Yld; go_simp; exact ⟨Ext.refl _, rfl⟩) ?_)
            (try simp only [Act.put, List.setIfInBounds_toArray, List.set_cons_zero, List.set_cons_succ])
            (first | refine wpF_val rfl (fun w' hE hD => by unfold Yld; go_simp; exact ⟨Ext.refl _, rfl⟩) ?_ | refine wpF_valg (by rfl) (fun w' hE hD => by unfold Yld; go_simp; exact ⟨Ext.refl _, rfl⟩) ?_)
            (try simp only [Act.put, List.setIfInBounds_toArray, List.set_cons_zero, List.set_cons_succ])
            (first | refine wpF_val rfl (fun w' hE hD => by unfold Yld; go_simp; exact ⟨Ext.refl _, rfl⟩) ?_ | refine wpF_valg (by rfl) (fun w' hE hD => by unfold Yld; go_simp; exact ⟨Ext.refl _, rfl⟩) ?_)
            (try simp only [Act.put, List.setIfInBounds_toArray, List.set_cons_zero, List.set_cons_succ])
            (first | refine wpF_val rfl (fun w' hE hD => by unfold Yld; go_simp; exact ⟨Ext.refl _, rfl⟩) ?_ | refine wpF_valg (by rfl) (fun w' hE hD => by unfold Yld; go_simp; exact ⟨Ext.refl _, rfl⟩) ?_)
            (try simp only [Act.put, List.setIfInBounds_toArray, List.set_cons_zero, List.set_cons_succ])
            (first | refine wpF_val rfl (fun w' hE hD => by have hq := Ext.cell hE hcell; unfold Yld; go_simp; exact ⟨Ext.refl _, rfl⟩) ?_ | refine wpF_valg (by rfl) (fun w' hE hD => by have hq := Ext.cell hE hcell; unfold Yld; go_simp; exact ⟨Ext.refl _, rfl⟩) ?_)
            (try simp only [Act.put, List.setIfInBounds_toArray, List.set_cons_zero, List.set_cons_succ])
            (first | refine wpF_val rfl (fun w' hE hD => by unfold Yld; go_simp; exact ⟨Ext.refl _, rfl⟩) ?_ | refine wpF_valg (by rfl) (fun w' hE hD => by unfold Yld; go_simp; exact ⟨Ext.refl _, rfl⟩) ?_)
            (try simp only [Act.put, List.setIfInBounds_toArray, List.set_cons_zero, List.set_cons_succ])
            (first | refine wpF_val rfl (fun w' hE hD => by unfold Yld; go_simp; exact ⟨Ext.refl _, rfl⟩) ?_ | refine wpF_valg (by rfl) (fun w' hE hD => by unfold Yld; go_simp; exact ⟨Ext.refl _, rfl⟩) ?_)
            (try simp only [Act.put, List.setIfInBounds_toArray, List.set_cons_zero, List.set_cons_succ])
            refine wpF_nil fun w3 hE3 hA => ?_
            simp only [List.drop_succ_cons, List.drop_zero]
            have HC3 := Aside0.mk (HCE.out.ext hE3)
            have HE3 := Aside0.mk (HE.out.trans hE3)
            have hcell := hE3.cell HCC.out
            clear hA hE3 HCE HE
            go_wp2_with fail
            refine (ce_raise HC3.out y).mono ?_
            rintro e w5 ⟨rfl, hD, hE⟩
            have HC5 := Aside0.mk (show _ from hD)
            rw [e2, e3, e4] at HC5
            rw [e1]
            clear hD HC3
            clear e1 e2 e3 e4
            have HE5 := Aside0.mk (show Ext w w5 from Below.trans HE3.out hE)
            clear hE HE3
            go_wp2_with fail
            go_roundw
            case rel => exact ⟨x + 1, d, by go_num, rfl, ⟨hlt⟩, ⟨gd0, gd1⟩, ⟨v, lf, true, HC5, HFR⟩, HE5⟩
            case measure => have := HXL.out; simp only [intOf]; omega
          | false =>
            obtain ⟨e1, e2, e3, e4⟩ := ce_goes y v true lf of hla hdn
            have hof : of = false := by cases of with | true => cases hdn | false => rfl
            have hlf := HLF.out.1 hof
            have hl0 : ¬ lf = 0 := by
              intro h
              rw [h, hof] at hdn
              cases hdn
            have hdN : d < N := by omega
            have hcmp : decide (d < N) = true := decide_eq_true hdN
            have hw1 : wrap64 (lf - 1) = N - (d + 1) := by rw [wrap64_in (by omega) (by omega)]; omega
            rw [hw1] at e3
            have HFR := Aside0.mk (show SpI N (d + 1) (N - (d + 1)) false from ⟨fun _ => rfl, fun h => (by cases h)⟩)
            have HNN := Aside0.mk (show 0 ≤ d + 1 ∧ d + 1 ≤ N from ⟨by omega, by omega⟩)
            have hw2 : wrap64 (d + 1) = d + 1 := wrap64_in (by omega) (by omega)
            clear hdn HLF hdN hla hlf hl0 hof hw1
            go_wp2_with fail
            apply wp_region_facts 14 [RF.val _, RF.val _, RF.val _, RF.val _, RF.val _, RF.val _, RF.val _, RF.val _, RF.val _, RF.val _, RF.val _, RF.val _, RF.val _, RF.val _]
            case hm => kernel_rfl
            case hB => kernel_rfl
            simp only [List.take_succ_cons, List.take_zero, List.zip_cons_cons, List.zip_nil_left]
            (first | refine wpF_val rfl (fun w' hE hD => by unfold Yld; go_simp; exact ⟨Ext.refl _, rfl⟩) ?_ | refine wpF_valg (by rfl) (fun w' hE hD => by unfold Yld; go_simp; exact ⟨Ext.refl _, rfl⟩) ?_)
            (try simp only [Act.put, List.setIfInBounds_toArray, List.set_cons_zero, List.set_cons_succ])
            (first | refine wpF_val rfl (fun w' hE hD => by unfold Yld; go_simp; exact ⟨Ext.refl _, rfl⟩) ?_ | refine wpF_valg (by rfl) (fun w' hE hD => by unfold Yld; go_simp; exact ⟨Ext.refl _, rfl⟩) ?_)
            (try simp only [Act.put, List.setIfInBounds_toArray, List.set_cons_zero, List.set_cons_succ])
            (first | refine wpF_val rfl (fun w' hE hD => by unfold Yld; go_simp; exact ⟨Ext.refl _, rfl⟩) ?_ | refine wpF_valg (by rfl) (fun w' hE hD => by unfold Yld; go_simp; exact ⟨Ext.refl _, rfl⟩) ?_)
            (try simp only [Act.put, List.setIfInBounds_toArray, List.set_cons_zero, List.set_cons_succ])
            (first | refine wpF_val rfl (fun w' hE hD => by have hq := Ext.cell hE hcell; unfold Yld; go_simp; exact ⟨Ext.refl _, rfl⟩) ?_ | refine wpF_valg (by rfl) (fun w' hE hD => by have hq := Ext.cell hE hcell; unfold Yld; go_simp; exact ⟨Ext.refl _, rfl⟩) ?_)
            (try simp only [Act.put, List.setIfInBounds_toArray, List.set_cons_zero, List.set_cons_succ])
            (first | refine wpF_val rfl (fun w' hE hD => by unfold Yld; go_simp; exact ⟨Ext.refl _, rfl⟩) ?_ | refine wpF_valg (by rfl) (fun w' hE hD => by unfold Yld; go_simp; exact ⟨Ext.refl _, rfl⟩) ?_)
            (try simp only [Act.put, List.setIfInBounds_toArray, List.set_cons_zero, List.set_cons_succ])
            (first | refine wpF_val rfl (fun w' hE hD => by unfold Yld; go_simp; exact (ce_value (HCE.out.ext hE)).mono fun e w2 h => ⟨_, h.1, h.2 ▸ Ext.refl _, rfl⟩) ?_ | refine wpF_valg (by rfl) (fun w' hE hD => by unfold Yld; go_simp; exact (ce_value (HCE.out.ext hE)).mono fun e w2 h => ⟨_, h.1, h.2 ▸ Ext.refl _, rfl⟩) ?_)
            (try simp only [Act.put, List.setIfInBounds_toArray, List.set_cons_zero, List.set_cons_succ])
            (first | refine wpF_val rfl (fun w' hE hD => by unfold Yld; go_simp; exact ⟨Ext.refl _, rfl⟩) ?_ | refine wpF_valg (by rfl) (fun w' hE hD => by unfold Yld; go_simp; exact ⟨Ext.refl _, rfl⟩) ?_)
            (try simp only [Act.put, List.setIfInBounds_toArray, List.set_cons_zero, List.set_cons_succ])
            (first | refine wpF_val rfl (fun w' hE hD => by unfold Yld; go_simp; exact ⟨Ext.refl _, rfl⟩) ?_ | refine wpF_valg (by rfl) (fun w' hE hD => by unfold Yld; go_simp; exact ⟨Ext.refl _, rfl⟩) ?_)
            (try simp only [Act.put, List.setIfInBounds_toArray, List.set_cons_zero, List.set_cons_succ])
            (first | refine wpF_val rfl (fun w' hE hD => by unfold Yld; go_simp; exact ⟨Ext.refl _, rfl⟩) ?_ | refine wpF_valg (by rfl) (fun w' hE hD => by unfold Yld; go_simp; exact ⟨Ext.refl _, rfl⟩) ?_)
            (try simp only [Act.put, List.setIfInBounds_toArray, List.set_cons_zero, List.set_cons_succ])
            (first | refine wpF_val rfl (fun w' hE hD => by unfold Yld; go_simp; exact ⟨Ext.refl _, rfl⟩) ?_ | refine wpF_valg (by rfl) (fun w' hE hD => by unfold Yld; go_simp; exact ⟨Ext.refl _, rfl⟩) ?_)
            (try simp only [Act.put, List.setIfInBounds_toArray, List.set_cons_zero, List.set_cons_succ])
            (first | refine wpF_val rfl (fun w' hE hD => by unfold Yld; go_simp; exact ⟨Ext.refl _, rfl⟩) ?_ | refine wpF_valg (by rfl) (fun w' hE hD => by unfold Yld; go_simp; exact ⟨Ext.refl _, rfl⟩) ?_)
            (try simp only [Act.put, List.setIfInBounds_toArray, List.set_cons_zero, List.set_cons_succ])
            (first | refine wpF_val rfl (fun w' hE hD => by have hq := Ext.cell hE hcell; unfold Yld; go_simp; exact ⟨Ext.refl _, rfl⟩) ?_ | refine wpF_valg (by rfl) (fun w' hE hD => by have hq := Ext.cell hE hcell; unfold Yld; go_simp; exact ⟨Ext.refl _, rfl⟩) ?_)
            (try simp only [Act.put, List.setIfInBounds_toArray, List.set_cons_zero, List.set_cons_succ])
            (first | refine wpF_val rfl (fun w' hE hD => by unfold Yld; go_simp; exact ⟨Ext.refl _, rfl⟩) ?_ | refine wpF_valg (by rfl) (fun w' hE hD => by unfold Yld; go_simp; exact ⟨Ext.refl _, rfl⟩) ?_)
            (try simp only [Act.put, List.setIfInBounds_toArray, List.set_cons_zero, List.set_cons_succ])
            (first | refine wpF_val rfl (fun w' hE hD => by unfold Yld; go_simp; exact ⟨Ext.refl _, rfl⟩) ?_ | refine wpF_valg (by rfl) (fun w' hE hD => by unfold Yld; go_simp; exact ⟨Ext.refl _, rfl⟩) ?_)
            (try simp only [Act.put, List.setIfInBounds_toArray, List.set_cons_zero, List.set_cons_succ])
            refine wpF_nil fun w3 hE3 hA => ?_
            simp only [List.drop_succ_cons, List.drop_zero]
            have HC3 := Aside0.mk (HCE.out.ext hE3)
            have HE3 := Aside0.mk (HE.out.trans hE3)
            have hcell := hE3.cell HCC.out
            clear hA hE3 HCE HE
            go_wp2_with fail
            refine (ce_raise HC3.out y).mono ?_
            rintro e w5 ⟨rfl, hD, hE⟩
            have HC5 := Aside0.mk (show _ from hD)
            rw [e2, e3, e4] at HC5
            rw [e1]
            clear hD HC3
            clear e1 e2 e3 e4
            have HE5 := Aside0.mk (show Ext w w5 from Below.trans HE3.out hE)
            clear hE HE3
            go_wp2_with fail
            go_roundw
            case rel => exact ⟨x + 1, d + 1, by go_num, (by first | rfl | rw [hw2] | simp [hw2] | go_num), ⟨hlt⟩, HNN, ⟨y, N - (d + 1), false, HC5, HFR⟩, HE5⟩
            case measure => have := HXL.out; simp only [intOf]; omega
        · have hd2 : decide (y ≤ 1152921504606846976) = false := decide_eq_false h2
          obtain ⟨e1, e2, e3, e4⟩ := ce_late y v true lf of (by unfold lateF; simp; omega)
          go_wp2_with fail
          apply wp_region_facts 14 [RF.val _, RF.val _, RF.val _, RF.val _, RF.val _, RF.val _, RF.val _, RF.val _, RF.val _, RF.val _, RF.val _, RF.val _, RF.val _, RF.val _]
          case hm => kernel_rfl
          case hB => kernel_rfl
          simp only [List.take_succ_cons, List.take_zero, List.zip_cons_cons, List.zip_nil_left]
          (first | refine wpF_val rfl (fun w' hE hD => by unfold Yld; go_simp; exact ⟨Ext.refl _, rfl⟩) ?_ | refine wpF_valg (by rfl) (fun w' hE hD => by unfold Yld; go_simp; exact ⟨Ext.refl _, rfl⟩) ?_)
          (try simp only [Act.put, List.setIfInBounds_toArray, List.set_cons_zero, List.set_cons_succ])
          (first | refine wpF_val rfl (fun w' hE hD => by unfold Yld; go_simp; exact ⟨Ext.refl _, rfl⟩) ?_ | refine wpF_valg (by rfl) (fun w' hE hD => by unfold Yld; go_simp; exact ⟨Ext.refl _, rfl⟩) ?_)
          (try simp only [Act.put, List.setIfInBounds_toArray, List.set_cons_zero, List.set_cons_succ])
          (first | refine wpF_val rfl (fun w' hE hD => by unfold Yld; go_simp; exact ⟨Ext.refl _, rfl⟩) ?_ | refine wpF_valg (by rfl) (fun w' hE hD => by unfold Yld; go_simp; exact ⟨Ext.refl _, rfl⟩) ?_)
          (try simp only [Act.put, List.setIfInBounds_toArray, List.set_cons_zero, List.set_cons_succ])
          (first | refine wpF_val rfl (fun w' hE hD => by have hq := Ext.cell hE hcell; unfold Yld; go_simp; exact ⟨Ext.refl _, rfl⟩) ?_ | refine wpF_valg (by rfl) (fun w' hE hD => by have hq := Ext.cell hE hcell; unfold Yld; go_simp; exact ⟨Ext.refl _, rfl⟩) ?_)
          (try simp only [Act.put, List.setIfInBounds_toArray, List.set_cons_zero, List.set_cons_succ])
          (first | refine wpF_val rfl (fun w' hE hD => by unfold Yld; go_simp; exact ⟨Ext.refl _, rfl⟩) ?_ | refine wpF_valg (by rfl) (fun w' hE hD => by unfold Yld; go_simp; exact ⟨Ext.refl _, rfl⟩) ?_)
          (try simp only [Act.put, List.setIfInBounds_toArray, List.set_cons_zero, List.set_cons_succ])
          (first | refine wpF_val rfl (fun w' hE hD => by unfold Yld; go_simp; exact (ce_value (HCE.out.ext hE)).mono fun e w2 h => ⟨_, h.1, h.2 ▸ Ext.refl _, rfl⟩) ?_ | refine wpF_valg (by rfl) (fun w' hE hD => by unfold Yld; go_simp; exact (ce_value (HCE.out.ext hE)).mono fun e w2 h => ⟨_, h.1, h.2 ▸ Ext.refl _, rfl⟩) ?_)
          (try simp only [Act.put, List.setIfInBounds_toArray, List.set_cons_zero, List.set_cons_succ])
          (first | refine wpF_val rfl (fun w' hE hD => by unfold Yld; go_simp; exact ⟨Ext.refl _, rfl⟩) ?_ | refine wpF_valg (by rfl) (fun w' hE hD => by unfold Yld; go_simp; exact ⟨Ext.refl _, rfl⟩) ?_)
          (try simp only [Act.put, List.setIfInBounds_toArray, List.set_cons_zero, List.set_cons_succ])
          (first | refine wpF_val rfl (fun w' hE hD => by unfold Yld; go_simp; exact ⟨Ext.refl _, rfl⟩) ?_ | refine wpF_valg (by rfl) (fun w' hE hD => by unfold Yld; go_simp; exact ⟨Ext.refl _, rfl⟩) ?_)
          (try simp only [Act.put, List.setIfInBounds_toArray, List.set_cons_zero, List.set_cons_succ])
          (first | refine wpF_val rfl (fun w' hE hD => by unfold Yld; go_simp; exact ⟨Ext.refl _, rfl⟩) ?_ | refine wpF_valg (by rfl) (fun w' hE hD => by unfold Yld; go_simp; exact ⟨Ext.refl _, rfl⟩) ?_)
          (try simp only [Act.put, List.setIfInBounds_toArray, List.set_cons_zero, List.set_cons_succ])
          (first | refine wpF_val rfl (fun w' hE hD => by unfold Yld; go_simp; exact ⟨Ext.refl _, rfl⟩) ?_ | refine wpF_valg (by rfl) (fun w' hE hD => by unfold Yld; go_simp; exact ⟨Ext.refl _, rfl⟩) ?_)
          (try simp only [Act.put, List.setIfInBounds_toArray, List.set_cons_zero, List.set_cons_succ])
          (first | refine wpF_val rfl (fun w' hE hD => by unfold Yld; go_simp; exact ⟨Ext.refl _, rfl⟩) ?_ | refine wpF_valg (by rfl) (fun w' hE hD => by unfold Yld; go_simp; exact ⟨Ext.refl _, rfl⟩) ?_)
          (try simp only [Act.put, List.setIfInBounds_toArray, List.set_cons_zero, List.set_cons_succ])
          (first | refine wpF_val rfl (fun w' hE hD => by have hq := Ext.cell hE hcell; unfold Yld; go_simp; exact ⟨Ext.refl _, rfl⟩) ?_ | refine wpF_valg (by rfl) (fun w' hE hD => by have hq := Ext.cell hE hcell; unfold Yld; go_simp; exact ⟨Ext.refl _, rfl⟩) ?_)
          (try simp only [Act.put, List.setIfInBounds_toArray, List.set_cons_zero, List.set_cons_succ])
          (first | refine wpF_val rfl (fun w' hE hD => by unfold Yld; go_simp; exact ⟨Ext.refl _, rfl⟩) ?_ | refine wpF_valg (by rfl) (fun w' hE hD => by unfold Yld; go_simp; exact ⟨Ext.refl _, rfl⟩) ?_)
          (try simp only [Act.put, List.setIfInBounds_toArray, List.set_cons_zero, List.set_cons_succ])
          (first | refine wpF_val rfl (fun w' hE hD => by unfold Yld; go_simp; exact ⟨Ext.refl _, rfl⟩) ?_ | refine wpF_valg (by rfl) (fun w' hE hD => by unfold Yld; go_simp; exact ⟨Ext.refl _, rfl⟩) ?_)
          (try simp only [Act.put, List.setIfInBounds_toArray, List.set_cons_zero, List.set_cons_succ])
          refine wpF_nil fun w3 hE3 hA => ?_
          simp only [List.drop_succ_cons, List.drop_zero]
          have HC3 := Aside0.mk (HCE.out.ext hE3)
          have HE3 := Aside0.mk (HE.out.trans hE3)
          have hcell := hE3.cell HCC.out
          clear hA hE3 HCE HE
          go_wp2_with fail
          refine (ce_raise HC3.out y).mono ?_
          rintro e w5 ⟨rfl, hD, hE⟩
          have HC5 := Aside0.mk (show _ from hD)
          rw [e2, e3, e4] at HC5
          rw [e1]
          clear hD HC3
          clear e1 e2 e3 e4
          have HE5 := Aside0.mk (show Ext w w5 from Below.trans HE3.out hE)
          clear hE HE3
          go_wp2_with fail
          go_roundw
          case rel => exact ⟨x + 1, d, by go_num, rfl, ⟨hlt⟩, ⟨gd0, gd1⟩, ⟨v, lf, of, HC5, HLF⟩, HE5⟩
          case measure => have := HXL.out; simp only [intOf]; omega
      · have hd1 : decide (v < y) = false := decide_eq_false h1
        obtain ⟨e1, e2, e3, e4⟩ := ce_late y v true lf of (by unfold lateF; simp; omega)
        go_wp2_with fail
        apply wp_region_facts 14 [RF.val _, RF.val _, RF.val _, RF.val _, RF.val _, RF.val _, RF.val _, RF.val _, RF.val _, RF.val _, RF.val _, RF.val _, RF.val _, RF.val _]
        case hm => kernel_rfl
        case hB => kernel_rfl
        simp only [List.take_succ_cons, List.take_zero, List.zip_cons_cons, List.zip_nil_left]
        (first | refine wpF_val rfl (fun w' hE hD => by unfold Yld; go_simp; exact ⟨Ext.refl _, rfl⟩) ?_ | refine wpF_valg (by rfl) (fun w' hE hD => by unfold Yld; go_simp; exact ⟨Ext.refl _, rfl⟩) ?_)
        (try simp only [Act.put, List.setIfInBounds_toArray, List.set_cons_zero, List.set_cons_succ])
        (first | refine wpF_val rfl (fun w' hE hD => by unfold Yld; go_simp; exact ⟨Ext.refl _, rfl⟩) ?_ | refine wpF_valg (by rfl) (fun w' hE hD => by unfold Yld; go_simp; exact ⟨Ext.refl _, rfl⟩) ?_)
        (try simp only [Act.put, List.setIfInBounds_toArray, List.set_cons_zero, List.set_cons_succ])
        (first | refine wpF_val rfl (fun w' hE hD => by unfold Yld; go_simp; exact ⟨Ext.refl _, rfl⟩) ?_ | refine wpF_valg (by rfl) (fun w' hE hD => by unfold Yld; go_simp; exact ⟨Ext.refl _, rfl⟩) ?_)
        (try simp only [Act.put, List.setIfInBounds_toArray, List.set_cons_zero, List.set_cons_succ])
        (first | refine wpF_val rfl (fun w' hE hD => by have hq := Ext.cell hE hcell; unfold Yld; go_simp; exact ⟨Ext.refl _, rfl⟩) ?_ | refine wpF_valg (by rfl) (fun w' hE hD => by have hq := Ext.cell hE hcell; unfold Yld; go_simp; exact ⟨Ext.refl _, rfl⟩) ?_)
        (try simp only [Act.put, List.setIfInBounds_toArray, List.set_cons_zero, List.set_cons_succ])
        (first | refine wpF_val rfl (fun w' hE hD => by unfold Yld; go_simp; exact ⟨Ext.refl _, rfl⟩) ?_ | refine wpF_valg (by rfl) (fun w' hE hD => by unfold Yld; go_simp; exact ⟨Ext.refl _, rfl⟩) ?_)
        (try simp only [Act.put, List.setIfInBounds_toArray, List.set_cons_zero, List.set_cons_succ])
        (first | refine wpF_val rfl (fun w' hE hD => by unfold Yld; go_simp; exact (ce_value (HCE.out.ext hE)).mono fun e w2 h => ⟨_, h.1, h.2 ▸ Ext.refl _, rfl⟩) ?_ | refine wpF_valg (by rfl) (fun w' hE hD => by unfold Yld; go_simp; exact (ce_value (HCE.out.ext hE)).mono fun e w2 h => ⟨_, h.1, h.2 ▸ Ext.refl _, rfl⟩) ?_)
        (try simp only [Act.put, List.setIfInBounds_toArray, List.set_cons_zero, List.set_cons_succ])
        (first | refine wpF_val rfl (fun w' hE hD => by unfold Yld; go_simp; exact ⟨Ext.refl _, rfl⟩) ?_ | refine wpF_valg (by rfl) (fun w' hE hD => by unfold Yld; go_simp; exact ⟨Ext.refl _, rfl⟩) ?_)
        (try simp only [Act.put, List.setIfInBounds_toArray, List.set_cons_zero, List.set_cons_succ])
        (first | refine wpF_val rfl (fun w' hE hD => by unfold Yld; go_simp; exact ⟨Ext.refl _, rfl⟩) ?_ | refine wpF_valg (by rfl) (fun w' hE hD => by unfold Yld; go_simp; exact ⟨Ext.refl _, rfl⟩) ?_)
        (try simp only [Act.put, List.setIfInBounds_toArray, List.set_cons_zero, List.set_cons_succ])
        refine wpF_skip (by rfl) ?_
        (try simp only [Act.put, List.setIfInBounds_toArray, List.set_cons_zero, List.set_cons_succ])
        refine wpF_skip (by rfl) ?_
        (try simp only [Act.put, List.setIfInBounds_toArray, List.set_cons_zero, List.set_cons_succ])
        refine wpF_skip (by rfl) ?_
        (try simp only [Act.put, List.setIfInBounds_toArray, List.set_cons_zero, List.set_cons_succ])
        refine wpF_skip (by rfl) ?_
        (try simp only [Act.put, List.setIfInBounds_toArray, List.set_cons_zero, List.set_cons_succ])
        refine wpF_skip (by rfl) ?_
        (try simp only [Act.put, List.setIfInBounds_toArray, List.set_cons_zero, List.set_cons_succ])
        (first | refine wpF_val rfl (fun w' hE hD => by unfold Yld; go_simp; exact ⟨Ext.refl _, rfl⟩) ?_ | refine wpF_valg (by rfl) (fun w' hE hD => by unfold Yld; go_simp; exact ⟨Ext.refl _, rfl⟩) ?_)
        (try simp only [Act.put, List.setIfInBounds_toArray, List.set_cons_zero, List.set_cons_succ])
        refine wpF_nil fun w3 hE3 hA => ?_
        simp only [List.drop_succ_cons, List.drop_zero]
        have HC3 := Aside0.mk (HCE.out.ext hE3)
        have HE3 := Aside0.mk (HE.out.trans hE3)
        have hcell := hE3.cell HCC.out
        clear hA hE3 HCE HE
        go_wp2_with fail
        refine (ce_raise HC3.out y).mono ?_
        rintro e w5 ⟨rfl, hD, hE⟩
        have HC5 := Aside0.mk (show _ from hD)
        rw [e2, e3, e4] at HC5
        rw [e1]
        clear hD HC3
        clear e1 e2 e3 e4
        have HE5 := Aside0.mk (show Ext w w5 from Below.trans HE3.out hE)
        clear hE HE3
        go_wp2_with fail
        go_roundw
        case rel => exact ⟨x + 1, d, by go_num, rfl, ⟨hlt⟩, ⟨gd0, gd1⟩, ⟨v, lf, of, HC5, HLF⟩, HE5⟩
        case measure => have := HXL.out; simp only [intOf]; omega
    · obtain rfl : x = m := by omega
      go_wp2_with fail
      refine (works_calls wx).mono ?_
      rintro e w7 ⟨rfl, hE⟩
      have HE7 := Aside0.mk (HE.out.trans hE)
      clear hE HE
      go_wp2
      go_ret
      exact ⟨rfl, HE7.out⟩
end Go.Proofs.Ytkgjcmolmogpdaa.By
