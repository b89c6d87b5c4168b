/- Layer 8: CountRises. -/
import Derived.Test.YtkgjcmolmogpdaaL8b
namespace Go.Proofs.Ytkgjcmolmogpdaa.By
open Go.RowKit Go.Proofs.Ytkgjcmolmogpdaa.Reg Go.Proofs.YtkgjcmolmogpdaaW.PrintWords Go.Proofs.YtkgjcmolmogpdaaW.PrintLast Go.Proofs.YtkgjcmolmogpdaaW.PrintMore
set_option linter.unusedVariables false
set_option linter.unusedSimpArgs false


abbrev kOp : Kd (Int × Int) := Kd.pair (Kd.int .i64) (Kd.int .i64)
theorem Addr.add_add' (a : Addr) (m n : Nat) : (a.add m).add n = a.add (m + n) := by
  unfold Addr.add
  by_cases h : n = 0
  · subst h; simp
  · by_cases h2 : m = 0
    · subst h2; simp [h]
    · simp [h, h2, Nat.add_assoc]
theorem op_at {w : World} {A : Option Addr} {m : Nat} {xs : List (Int × Int)} (h : Kd.C kOp w A m xs) (x : Nat) (hx : x < m) : ∃ ad k y, A = some ad ∧ w.cell? (ad.add (x * 2)) = some (.int .i64 k) ∧ w.cell? ⟨(ad.add (x * 2)).block, (ad.add (x * 2)).off + 1, none⟩ = some (.int .i64 y) := by
  obtain ⟨ad, c, e, _, hK, hc⟩ := Kd.C_get h (0, 0) (x : Int) (by omega) (by omega)
  obtain ⟨c0, c1, e1, h0, h1⟩ := hK
  have h0' : c0 = [.int .i64 (xs.getD (x : Int).toNat (0, 0)).1] := h0
  have h1' : c1 = [.int .i64 (xs.getD (x : Int).toNat (0, 0)).2] := h1
  subst h0' h1'
  rw [e1] at hc
  have a0 := hc 0 _ rfl
  have a1 := hc 1 _ rfl
  rw [Int.toNat_natCast] at a0 a1
  exact ⟨ad, _, _, e, a0, by rw [← Addr.add_add'] at a1; exact a1⟩
set_option maxRecDepth 100000 in
set_option maxHeartbeats 2000000 in
theorem rises_calls (w : World) (A : Option Addr) (m c : Nat) (xs : List (Int × Int)) (hr : Kd.C kOp w A m xs) (hc : m ≤ c) :
    Calls Try.prog 14 #[.slice A m c] w fun e w' => e = .returned (.bool true) ∧ Ext w w' := by
  have HR := Aside0.mk hr
  clear hr
  by_cases hbig : (200 : Int) < m
  · go_enter Try.func14, Try.ntmps14
    go_wp2_with fail
    refine (works_calls w).mono ?_
    rintro e w1 ⟨rfl, hE⟩
    go_wp2
    go_ret
    exact ⟨rfl, hE⟩
  go_enter Try.func14, Try.ntmps14
  go_wp2_with fail
  refine (ce_new w 8 (by decide) (by decide) w.heap.size (Nat.le_refl _)).mono ?_
  rintro e w1 ⟨bd, rfl, hD, hE⟩
  have HD1 := Aside0.mk hD
  have HE1 := Aside0.mk hE
  clear hD hE
  go_wp2_with fail
  refine (ce_cnew HD1.out).mono ?_
  rintro e w2 ⟨bk, rfl, hD, hE⟩
  have HD4 := Aside0.mk hD
  have HE4 := Aside0.mk (HE1.out.trans hE)
  clear hD hE HD1 HE1
  go_wp2_with fail
  go_loopw [6, 7] (fun u i wr => ∃ (x : Nat) (v : Int), i = .int .i64 x ∧ u = .int .i64 v ∧ Aside0 (x ≤ m) ∧ (∃ ar lf of, Aside0 (CE wr w.heap.size bd bk 8 v ar lf of)) ∧ Aside0 (Ext w wr)) (fun _ i _ => m - (intOf i).toNat)
  case atStart => exact ⟨0, 0, rfl, rfl, ⟨Nat.zero_le _⟩, ⟨false, 0, false, HD4⟩, HE4⟩
  case round =>
    clear HD4 HE4
    obtain ⟨x, v, rfl, rfl, HX, ⟨ar, lf, of, HCE⟩, HE⟩ := hrel
    have g0 := HX.out
    obtain ⟨wx, hwx⟩ : ∃ wx : World, wx = wr := ⟨_, rfl⟩
    subst hwx
    by_cases hlt : x < m
    · have HXL := Aside0.mk hlt
      have hdj : decide ((x : Int) < (m : Int)) = true := decide_eq_true (by omega)
      obtain ⟨ad, k, y, had, hcell, hcell1⟩ := op_at (Kd.C_below HR.out HE.out) x hlt
      subst had
      have HCC := Aside0.mk hcell1
      have HLB := Aside0.mk (show (ad.add (x * 2)).block < w.heap.size from by
        obtain ⟨_, _, _, e, q, q1⟩ := op_at HR.out x hlt
        injection e with e
        rw [e]
        exact World.block_lt_of_cell? _ _ q)
      by_cases hk0 : k = 0
      · subst hk0
        by_cases h1 : v < y
        · have hd1 : decide (v < y) = true := decide_eq_true h1
          have hd3 : decide (y ≤ v) = false := decide_eq_false (by omega)
          by_cases h2 : y ≤ 1152921504606846976
          · have hd2 : decide (y ≤ 1152921504606846976) = true := decide_eq_true h2
            have hla : lateF y v = false := by unfold lateF; simp; omega
            cases hdn : downF ar lf of with
            | true =>
              obtain ⟨e1, e2, e3, e4⟩ := ce_spent y v ar lf of hla hdn
              clear hla hdn
              have HEQ := Aside0.mk (And.intro e1 (And.intro e2 (And.intro e3 e4)))
              clear e1 e2 e3 e4
              go_wp2_with fail
              refine (ce_raise HCE.out y).mono ?_
              rintro e w5 ⟨rfl, hD, hE⟩
              obtain ⟨e1, e2, e3, e4⟩ := HEQ.out
              rw [e2, e3, e4] at hD
              rw [e1]
              have HC5 := Aside0.mk hD
              have HE5 := Aside0.mk (show Ext w w5 from Below.trans HE.out hE)
              have hcell1 := (Below.cell hE (p := ⟨(ad.add (x * 2)).block, (ad.add (x * 2)).off + 1, none⟩) HLB.out).trans HCC.out
              clear hD hE HE HCE e1 e2 e3 e4
              go_wp2_with fail
              refine (ce_down HC5.out).mono ?_
              rintro e w6 ⟨rfl, rfl⟩
              go_wp2_with fail
              refine (ce_value HC5.out).mono ?_
              rintro e w8 ⟨rfl, rfl⟩
              go_wp2_with fail
              go_roundw
              case rel => exact ⟨x + 1, _, by go_num, rfl, ⟨hlt⟩, ⟨_, _, _, HC5⟩, HE5⟩
              case measure => have := HXL.out; simp only [intOf]; omega
            | false =>
              obtain ⟨e1, e2, e3, e4⟩ := ce_goes y v ar lf of hla hdn
              clear hla hdn
              have HEQ := Aside0.mk (And.intro e1 (And.intro e2 (And.intro e3 e4)))
              clear e1 e2 e3 e4
              go_wp2_with fail
              refine (ce_raise HCE.out y).mono ?_
              rintro e w5 ⟨rfl, hD, hE⟩
              obtain ⟨e1, e2, e3, e4⟩ := HEQ.out
              rw [e2, e3, e4] at hD
              rw [e1]
              have HC5 := Aside0.mk hD
              have HE5 := Aside0.mk (show Ext w w5 from Below.trans HE.out hE)
              have hcell1 := (Below.cell hE (p := ⟨(ad.add (x * 2)).block, (ad.add (x * 2)).off + 1, none⟩) HLB.out).trans HCC.out
              clear hD hE HE HCE e1 e2 e3 e4
              go_wp2_with fail
              refine (ce_value HC5.out).mono ?_
              rintro e w8 ⟨rfl, rfl⟩
              go_wp2_with fail
              go_roundw
              case rel => exact ⟨x + 1, _, by go_num, rfl, ⟨hlt⟩, ⟨_, _, _, HC5⟩, HE5⟩
              case measure => have := HXL.out; simp only [intOf]; omega
          · have hd2 : decide (y ≤ 1152921504606846976) = false := decide_eq_false h2
            obtain ⟨e1, e2, e3, e4⟩ := ce_late y v ar lf of (by unfold lateF; simp; omega)
            have HEQ := Aside0.mk (And.intro e1 (And.intro e2 (And.intro e3 e4)))
            clear e1 e2 e3 e4
            go_wp2_with fail
            refine (ce_raise HCE.out y).mono ?_
            rintro e w5 ⟨rfl, hD, hE⟩
            obtain ⟨e1, e2, e3, e4⟩ := HEQ.out
            rw [e2, e3, e4] at hD
            rw [e1]
            have HC5 := Aside0.mk hD
            have HE5 := Aside0.mk (show Ext w w5 from Below.trans HE.out hE)
            have hcell1 := (Below.cell hE (p := ⟨(ad.add (x * 2)).block, (ad.add (x * 2)).off + 1, none⟩) HLB.out).trans HCC.out
            clear hD hE HE HCE e1 e2 e3 e4
            go_wp2_with fail
            refine (ce_value HC5.out).mono ?_
            rintro e w8 ⟨rfl, rfl⟩
            go_wp2_with fail
            go_roundw
            case rel => exact ⟨x + 1, _, by go_num, rfl, ⟨hlt⟩, ⟨_, _, _, HC5⟩, HE5⟩
            case measure => have := HXL.out; simp only [intOf]; omega
        · have hd1 : decide (v < y) = false := decide_eq_false h1
          have hd3 : decide (y ≤ v) = true := decide_eq_true (by omega)
          obtain ⟨e1, e2, e3, e4⟩ := ce_late y v ar lf of (by unfold lateF; simp; omega)
          have HEQ := Aside0.mk (And.intro e1 (And.intro e2 (And.intro e3 e4)))
          clear e1 e2 e3 e4
          go_wp2_with fail
          refine (ce_raise HCE.out y).mono ?_
          rintro e w5 ⟨rfl, hD, hE⟩
          obtain ⟨e1, e2, e3, e4⟩ := HEQ.out
          rw [e2, e3, e4] at hD
          rw [e1]
          have HC5 := Aside0.mk hD
          have HE5 := Aside0.mk (show Ext w w5 from Below.trans HE.out hE)
          have hcell1 := (Below.cell hE (p := ⟨(ad.add (x * 2)).block, (ad.add (x * 2)).off + 1, none⟩) HLB.out).trans HCC.out
          clear hD hE HE HCE e1 e2 e3 e4
          go_wp2_with fail
          refine (ce_value HC5.out).mono ?_
          rintro e w8 ⟨rfl, rfl⟩
          go_wp2_with fail
          go_roundw
          case rel => exact ⟨x + 1, _, by go_num, rfl, ⟨hlt⟩, ⟨_, _, _, HC5⟩, HE5⟩
          case measure => have := HXL.out; simp only [intOf]; omega
      · have hkd0 : decide (k = 0) = false := decide_eq_false hk0
        by_cases hk1 : k = 1
        · subst hk1
          go_wp2_with fail
          refine (ce_arm HCE.out y).mono ?_
          rintro e w5 ⟨rfl, hD, hE⟩
          have HC5 := Aside0.mk hD
          have HE5 := Aside0.mk (show Ext w w5 from Below.trans HE.out hE)
          clear hD hE HE HCE
          go_wp2_with fail
          refine (ce_value HC5.out).mono ?_
          rintro e w8 ⟨rfl, rfl⟩
          go_wp2_with fail
          go_roundw
          case rel => exact ⟨x + 1, _, by go_num, rfl, ⟨hlt⟩, ⟨_, _, _, HC5⟩, HE5⟩
          case measure => have := HXL.out; simp only [intOf]; omega
        · have hkd1 : decide (k = 1) = false := decide_eq_false hk1
          by_cases hk2 : k = 2
          · subst hk2
            go_wp2_with fail
            refine (ce_crash HCE.out).mono ?_
            rintro e w5 ⟨rfl, hD, hE⟩
            have HC5 := Aside0.mk hD
            have HE5 := Aside0.mk (show Ext w w5 from Below.trans HE.out hE)
            clear hD hE HE HCE
            go_wp2_with fail
            refine (ce_value HC5.out).mono ?_
            rintro e w8 ⟨rfl, rfl⟩
            go_wp2_with fail
            go_roundw
            case rel => exact ⟨x + 1, _, by go_num, rfl, ⟨hlt⟩, ⟨_, _, _, HC5⟩, HE5⟩
            case measure => have := HXL.out; simp only [intOf]; omega
          · have hkd2 : decide (k = 2) = false := decide_eq_false hk2
            by_cases hk3 : k = 3
            · subst hk3
              go_wp2_with fail
              refine (ce_write HCE.out y).mono ?_
              rintro e w5 ⟨rfl, hD, hE⟩
              have HC5 := Aside0.mk hD
              have HE5 := Aside0.mk (show Ext w w5 from Below.trans HE.out hE)
              clear hD hE HE HCE
              go_wp2_with fail
              refine (ce_value HC5.out).mono ?_
              rintro e w8 ⟨rfl, rfl⟩
              go_wp2_with fail
              go_roundw
              case rel => exact ⟨x + 1, _, by go_num, rfl, ⟨hlt⟩, ⟨_, _, _, HC5⟩, HE5⟩
              case measure => have := HXL.out; simp only [intOf]; omega
            · have hkd3 : decide (k = 3) = false := decide_eq_false hk3
              by_cases hk4 : k = 4
              · subst hk4
                go_wp2_with fail
                refine (ce_sync HCE.out).mono ?_
                rintro e w5 ⟨rfl, hD, hE⟩
                have HC5 := Aside0.mk hD
                have HE5 := Aside0.mk (show Ext w w5 from Below.trans HE.out hE)
                clear hD hE HE HCE
                go_wp2_with fail
                refine (ce_value HC5.out).mono ?_
                rintro e w8 ⟨rfl, rfl⟩
                go_wp2_with fail
                go_roundw
                case rel => exact ⟨x + 1, _, by go_num, rfl, ⟨hlt⟩, ⟨_, _, _, HC5⟩, HE5⟩
                case measure => have := HXL.out; simp only [intOf]; omega
              · have hkd4 : decide (k = 4) = false := decide_eq_false hk4
                have HC5 := HCE
                have HE5 := HE
                clear HCE HE
                go_wp2_with fail
                refine (ce_value HC5.out).mono ?_
                rintro e w8 ⟨rfl, rfl⟩
                go_wp2_with fail
                go_roundw
                case rel => exact ⟨x + 1, _, by go_num, rfl, ⟨hlt⟩, ⟨_, _, _, HC5⟩, HE5⟩
                case measure => have := HXL.out; simp only [intOf]; omega
    · obtain rfl : x = m := by omega
      go_wp2_with fail
      refine (works_calls wx).mono ?_
      rintro e w7 ⟨rfl, hE⟩
      have HE7 := Aside0.mk (HE.out.trans hE)
      clear hE HE
      go_wp2
      go_ret
      exact ⟨rfl, HE7.out⟩
end Go.Proofs.Ytkgjcmolmogpdaa.By
