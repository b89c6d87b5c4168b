/- Layer 7: DiskLooks. -/
import Derived.Test.YtkgjcmolmogpdaaDt
namespace Go.Proofs.Ytkgjcmolmogpdaa.By
open Go.RowKit Go.Proofs.Ytkgjcmolmogpdaa.Reg Go.Proofs.YtkgjcmolmogpdaaW.PrintWords Go.Proofs.YtkgjcmolmogpdaaW.PrintLast Go.Proofs.YtkgjcmolmogpdaaW.PrintMore
set_option linter.unusedVariables false
set_option linter.unusedSimpArgs false


theorem DB.lr {w : World} {bd bl bc br n : Nat} {f : Nat → List Int} {g : Nat → Option (List Int)} {ar : Bool} {lf : Int} {of : Bool} {wt : Int} {rd : List Int} (h : DB w bd bl bc br n f g ar lf of wt rd) : rd.length = n := by
  obtain ⟨LV, CV, hd, hf⟩ := h
  exact hd.lr
theorem rd_step (rd : List Int) (k x : Nat) (h : rd.getD 3 0 = if (k : Int) ≤ 3 then (x : Int) else (x : Int) + 1) (hl : rd.length = 9) (hx : x < 1000) : (rd.set k (wrap64 (rd.getD k 0 + 1))).getD 3 0 = if (k : Int) + 1 ≤ 3 then (x : Int) else (x : Int) + 1 := by
  rw [List.getD_eq_getElem?_getD, List.getElem?_set]
  by_cases e : k = 3
  · subst e
    rw [if_pos (by omega)] at h
    rw [if_pos rfl, if_pos (by omega), if_neg (by omega), Option.getD_some, h]
    exact wrap64_in (by omega) (by omega)
  · rw [if_neg e, ← List.getD_eq_getElem?_getD, h]
    by_cases e2 : (k : Int) ≤ 3
    · rw [if_pos e2, if_pos (by omega)]
    · rw [if_neg e2, if_neg (by omega)]
set_option maxRecDepth 100000 in
set_option maxHeartbeats 2000000 in
theorem dlooks_calls (w : World) (A : Option Addr) (m c : Nat) (xs : List (List Int)) (hr : Kd.C kBB w A m xs) (hc : m ≤ c) (AF : Option Addr) (mf cf : Nat) (fl : List Int) (hf : mf = fl.length) (hrf : Kd.C kI w AF mf fl) (hcf : mf ≤ cf) :
    Calls Try.prog 4 #[.slice A m c, .slice AF mf cf] w fun e w' => e = .returned (.bool true) ∧ Ext w w' := by
  have HR := Aside0.mk hr
  have HFN := Aside0.mk hf
  have HRF := Aside0.mk hrf
  clear hr hf hrf
  by_cases hbf : (1000 : Int) < mf
  · go_enter Try.func4, Try.ntmps4
    go_wp2_with fail
    refine (d_new w 9 (by decide) (by decide)).mono ?_
    rintro e w1 ⟨bd, bl, bc, br, rfl, hD, hE, hk⟩
    have HE1 := Aside0.mk hE
    clear hD hE hk
    go_wp2_with fail
    refine (d_new w1 9 (by decide) (by decide)).mono ?_
    rintro e w2 ⟨bd2, bl2, bc2, br2, rfl, hD2, hE2, hk2⟩
    have HE2 := Aside0.mk (HE1.out.trans hE2)
    clear hD2 hE2 hk2
    go_wp2_with fail
    refine (known_calls w2).mono ?_
    rintro e w7 ⟨rfl, hE⟩
    have HE7 := Aside0.mk (HE2.out.trans hE)
    clear hE
    go_wp2
    go_ret
    exact ⟨rfl, HE7.out⟩
  have hd1 : decide ((1000 : Int) < mf) = false := decide_eq_false hbf
  go_enter Try.func4, Try.ntmps4
  go_wp2_with fail
  refine (d_new w 9 (by decide) (by decide)).mono ?_
  rintro e w1 ⟨bd, bl, bc, br, rfl, hD, hE, hk⟩
  have HD1 := Aside0.mk (show DB w1 bd bl bc br 9 fN gN false 0 false 0 (List.replicate 9 0) from hD)
  have HE1 := Aside0.mk hE
  have HK := Aside0.mk hk
  clear hD hE hk
  go_wp2_with fail
  refine (d_new w1 9 (by decide) (by decide)).mono ?_
  rintro e w2 ⟨bd2, bl2, bc2, br2, rfl, hD2, hE2, hk2⟩
  have HB3 := Aside0.mk (show DB w2 bd2 bl2 bc2 br2 9 fN gN false 0 false 0 (List.replicate 9 0) from hD2)
  have HK2 := Aside0.mk (show ∀ k, Dst bd2 bl2 bc2 br2 k → w.heap.size ≤ k from fun k h => Nat.le_trans HE1.out.size (hk2 k h))
  have HS21 := Aside0.mk (show ∀ j, Dst bd2 bl2 bc2 br2 j → ¬ Dst bd bl bc br j from fun j h h' => by have := hk2 j h; have := HD1.out.lt j h'; omega)
  have HS12 := Aside0.mk (show ∀ j, Dst bd bl bc br j → ¬ Dst bd2 bl2 bc2 br2 j from fun j h h' => by have := hk2 j h'; have := HD1.out.lt j h; omega)
  have HD3 := Aside0.mk (HD1.out.ext hE2)
  have HE3 := Aside0.mk (HE1.out.trans hE2)
  clear hD2 hE2 hk2 HD1 HE1
  go_wp2_with fail
  go_loopw [9] (fun i wr => ∃ x : Nat, i = .int .i64 x ∧ Aside0 (x ≤ m ∧ x ≤ 60) ∧ (∃ f g wt lf1 lf2 rd1, Aside0 (DB wr bd bl bc br 9 f g false lf1 false wt rd1) ∧ Aside0 (DB wr bd2 bl2 bc2 br2 9 f g false lf2 false wt (List.replicate 9 0)) ∧ Aside0 (rd1.getD 3 0 = (x : Int))) ∧ Aside0 (Ext w wr)) (fun i _ => 60 - (intOf i).toNat)
  case atStart => exact ⟨0, rfl, ⟨Nat.zero_le _, by decide⟩, ⟨fN, gN, _, _, _, _, HD3, HB3, ⟨rfl⟩⟩, HE3⟩
  case round =>
    clear HD3 HB3 HE3
    obtain ⟨x, rfl, HX, ⟨f, g, wt, lf1, lf2, rd1, HD, HB, HRD⟩, HE⟩ := hrel
    have g0 := HX.out
    obtain ⟨wx, hwx⟩ : ∃ wx : World, wx = wr := ⟨_, rfl⟩
    subst hwx
    by_cases hlt : x < m ∧ x < 60
    · have HXL := Aside0.mk hlt
      obtain ⟨hl1, hl2⟩ := hlt
      have hdj : decide ((x : Int) < (m : Int)) = true := decide_eq_true (by omega)
      have hdk : decide ((x : Int) < 60) = true := decide_eq_true (by omega)
      obtain ⟨ad, A', c', ys, had, hcell0, hlc, hC⟩ := bb_at HR.out x hl1
      subst had
      obtain ⟨zs, hzs⟩ : ∃ zs, zs = ys.take 100 := ⟨_, rfl⟩
      obtain ⟨l, hl⟩ : ∃ l, l = zs.length := ⟨_, rfl⟩
      have hll : l = min ys.length 100 := by rw [hl, hzs, List.length_take, Nat.min_comm]
      have HL := Aside0.mk hl
      have HL1 := Aside0.mk (show l ≤ 100 ∧ l ≤ c' from by rw [hll]; omega)
      have HCZ := Aside0.mk (show Kd.C kb w A' l zs from by
        have h := C_takeI hC 100
        rw [← hzs, ← hl] at h
        exact h)
      obtain ⟨ny, hny⟩ : ∃ n, n = ys.length := ⟨_, rfl⟩
      rw [← hny] at hcell0 hll
      have HCUT := Aside0.mk (show 0 ≤ min (ny : Int) 100 ∧ min (ny : Int) 100 ≤ (c' : Int) from by have := HL1.out; omega)
      have HLK := Aside0.mk (show (min (ny : Int) 100).toNat = l from by omega)
      have hcell := Ext.cell HE.out hcell0
      clear hC hny hzs hl hlc hcell0 hll
      go_wp2_with fail
      apply wp_region_facts 11 [RF.val _, RF.val _, RF.val _, RF.val _, RF.val _, RF.val _, RF.val _, RF.val _, RF.val _, RF.val _, RF.val _]
      case hm => kernel_rfl
      case hB => kernel_rfl
      simp only [List.take_succ_cons, List.take_zero, List.zip_cons_cons, List.zip_nil_left]
      (first | refine wpF_val rfl (fun w' hE hD => by unfold Yld; go_simp; exact ⟨Ext.refl _, rfl⟩) ?_ | refine wpF_valg (by rfl) (fun w' hE hD => by unfold Yld; go_simp; exact ⟨Ext.refl _, rfl⟩) ?_)
      (try simp only [Act.put, List.setIfInBounds_toArray, List.set_cons_zero, List.set_cons_succ])
      (first | refine wpF_val rfl (fun w' hE hD => by unfold Yld; go_simp; exact ⟨Ext.refl _, rfl⟩) ?_ | refine wpF_valg (by rfl) (fun w' hE hD => by unfold Yld; go_simp; exact ⟨Ext.refl _, rfl⟩) ?_)
      (try simp only [Act.put, List.setIfInBounds_toArray, List.set_cons_zero, List.set_cons_succ])
      (first | refine wpF_val rfl (fun w' hE hD => by unfold Yld; go_simp; exact ⟨Ext.refl _, rfl⟩) ?_ | refine wpF_valg (by rfl) (fun w' hE hD => by unfold Yld; go_simp; exact ⟨Ext.refl _, rfl⟩) ?_)
      (try simp only [Act.put, List.setIfInBounds_toArray, List.set_cons_zero, List.set_cons_succ])
      (first | refine wpF_val rfl (fun w' hE hD => by have hq := Ext.cell hE hcell; unfold Yld; go_simp; exact ⟨Ext.refl _, rfl⟩) ?_ | refine wpF_valg (by rfl) (fun w' hE hD => by have hq := Ext.cell hE hcell; unfold Yld; go_simp; exact ⟨Ext.refl _, rfl⟩) ?_)
      (try simp only [Act.put, List.setIfInBounds_toArray, List.set_cons_zero, List.set_cons_succ])
      (first | refine wpF_val rfl (fun w' hE hD => by unfold Yld; go_simp; exact ⟨Ext.refl _, rfl⟩) ?_ | refine wpF_valg (by rfl) (fun w' hE hD => by unfold Yld; go_simp; exact ⟨Ext.refl _, rfl⟩) ?_)
      (try simp only [Act.put, List.setIfInBounds_toArray, List.set_cons_zero, List.set_cons_succ])
      (first | refine wpF_val rfl (fun w' hE hD => by unfold Yld; go_simp; exact ⟨Ext.refl _, rfl⟩) ?_ | refine wpF_valg (by rfl) (fun w' hE hD => by unfold Yld; go_simp; exact ⟨Ext.refl _, rfl⟩) ?_)
      (try simp only [Act.put, List.setIfInBounds_toArray, List.set_cons_zero, List.set_cons_succ])
      (first | refine wpF_val rfl (fun w' hE hD => by unfold Yld; go_simp; exact ⟨Ext.refl _, rfl⟩) ?_ | refine wpF_valg (by rfl) (fun w' hE hD => by unfold Yld; go_simp; exact ⟨Ext.refl _, rfl⟩) ?_)
      (try simp only [Act.put, List.setIfInBounds_toArray, List.set_cons_zero, List.set_cons_succ])
      (first | refine wpF_val rfl (fun w' hE hD => by have hq := Ext.cell hE hcell; unfold Yld; go_simp; exact ⟨Ext.refl _, rfl⟩) ?_ | refine wpF_valg (by rfl) (fun w' hE hD => by have hq := Ext.cell hE hcell; unfold Yld; go_simp; exact ⟨Ext.refl _, rfl⟩) ?_)
      (try simp only [Act.put, List.setIfInBounds_toArray, List.set_cons_zero, List.set_cons_succ])
      (first | refine wpF_val rfl (fun w' hE hD => by unfold Yld; go_simp; exact ⟨Ext.refl _, rfl⟩) ?_ | refine wpF_valg (by rfl) (fun w' hE hD => by unfold Yld; go_simp; exact ⟨Ext.refl _, rfl⟩) ?_)
      (try simp only [Act.put, List.setIfInBounds_toArray, List.set_cons_zero, List.set_cons_succ])
      (first | refine wpF_val rfl (fun w' hE hD => by unfold Yld; go_simp; exact ⟨Ext.refl _, rfl⟩) ?_ | refine wpF_valg (by rfl) (fun w' hE hD => by unfold Yld; go_simp; exact ⟨Ext.refl _, rfl⟩) ?_)
      (try simp only [Act.put, List.setIfInBounds_toArray, List.set_cons_zero, List.set_cons_succ])
      (first | refine wpF_val rfl (fun w' hE hD => by unfold Yld; go_simp; rw [if_pos HCUT.out]; exact ⟨Ext.refl _, rfl⟩) ?_ | refine wpF_valg (by rfl) (fun w' hE hD => by unfold Yld; go_simp; rw [if_pos HCUT.out]; exact ⟨Ext.refl _, rfl⟩) ?_)
      (try simp only [Act.put, List.setIfInBounds_toArray, List.set_cons_zero, List.set_cons_succ])
      refine wpF_nil fun w5 hE5 hA => ?_
      simp only [List.drop_succ_cons, List.drop_zero]
      rw [HLK.out]
      clear hA hcell HLK HCUT
      have HD5 := Aside0.mk (HD.out.ext hE5)
      have HB5 := Aside0.mk (HB.out.ext hE5)
      have HE5 := Aside0.mk (HE.out.trans hE5)
      clear hE5 HD HB HE
      have hrem : Int.tmod (x : Int) 9 = ((x % 9 : Nat) : Int) := by rw [Int.tmod_eq_emod_of_nonneg (by omega)]; omega
      have HQ := Aside0.mk (Nat.mod_lt x (show 0 < 9 by decide))
      generalize x % 9 = q at hrem HQ
      obtain ⟨r5, hr5⟩ : ∃ r5, Int.tmod (l : Int) 5 = r5 := ⟨_, rfl⟩
      go_wp2_with fail
      refine (d_write HD5.out q A' l c' zs HL.out (F_old HCZ.out HE5.out (fun k hk hd => by have := HK.out k hd; omega)) HL1.out.2 HQ.out (by have := HL1.out.1; omega) rfl).mono ?_
      rintro e w6 ⟨rfl, hD, hC⟩
      have HB6 := Aside0.mk (HB5.out.other HD5.out hC HS21.out)
      have HD6 := Aside0.mk hD
      have HE6 := Aside0.mk (hC.to_ext HE5.out HK.out)
      clear hD hC HD5 HB5 HE5
      go_wp2_with fail
      refine (d_write HB6.out q A' l c' zs HL.out (F_old HCZ.out HE6.out (fun k hk hd => by have := HK2.out k hd; omega)) HL1.out.2 HQ.out (by have := HL1.out.1; omega) rfl).mono ?_
      rintro e w7 ⟨rfl, hD, hC⟩
      have HD7 := Aside0.mk (HD6.out.other HB6.out hC HS12.out)
      have HB7 := Aside0.mk hD
      have HE7 := Aside0.mk (hC.to_ext HE6.out HK2.out)
      clear hD hC HD6 HB6 HE6
      by_cases h50 : r5 = 0
      · subst h50
        go_wp2_with fail
        refine (d_sync HD7.out rfl).mono ?_
        rintro e w8 ⟨rfl, hD, hC⟩
        have HB8 := Aside0.mk (HB7.out.other HD7.out hC HS21.out)
        have HD8 := Aside0.mk hD
        have HE8 := Aside0.mk (hC.to_ext HE7.out HK.out)
        clear hD hC HD7 HB7 HE7
        go_wp2_with fail
        refine (d_sync HB8.out rfl).mono ?_
        rintro e w9 ⟨rfl, hD, hC⟩
        have HD9 := Aside0.mk (HD8.out.other HB8.out hC HS12.out)
        have HB9 := Aside0.mk hD
        have HE9 := Aside0.mk (hC.to_ext HE8.out HK2.out)
        clear hD hC HD8 HB8 HE8
        obtain ⟨f9, g9, la, lb, wt9, HD9', HB9'⟩ : ∃ f9 g9 la lb wt9, Aside0 (DB w9 bd bl bc br 9 f9 g9 false la false wt9 rd1) ∧ Aside0 (DB w9 bd2 bl2 bc2 br2 9 f9 g9 false lb false wt9 (List.replicate 9 0)) := ⟨_, _, _, _, _, HD9, HB9⟩
        clear HD9 HB9
        go_wp2_with fail
        go_loopw [11] (fun i wr => ∃ y : Int, i = .int .i64 y ∧ Aside0 (-1 ≤ y ∧ y ≤ 10) ∧ (∃ rd1, Aside0 (DB wr bd bl bc br 9 f9 g9 false la false wt9 rd1) ∧ Aside0 (DB wr bd2 bl2 bc2 br2 9 f9 g9 false lb false wt9 (List.replicate 9 0)) ∧ Aside0 (rd1.getD 3 0 = if y ≤ 3 then (x : Int) else (x : Int) + 1)) ∧ Aside0 (Ext w wr)) (fun i _ => 11 - ((intOf i) + 1).toNat)
        case atStart => exact ⟨-1, rfl, ⟨by decide, by decide⟩, ⟨_, HD9', HB9', ⟨by rw [if_pos (by decide)]; exact HRD.out⟩⟩, HE9⟩
        case round =>
          clear HD9' HB9' HE9 HRD
          obtain ⟨y, rfl, HY, ⟨rd2, HD, HB, HRD⟩, HE⟩ := hrel
          obtain ⟨gy0, gy1⟩ := HY.out
          obtain ⟨wy, hwy⟩ : ∃ wx : World, wx = wr := ⟨_, rfl⟩
          subst hwy
          by_cases hly : y < 10
          · have HYL := Aside0.mk hly
            have hdy : decide (y < 10) = true := decide_eq_true hly
            by_cases hin : 0 ≤ y ∧ y < 9
            · obtain ⟨k, hk⟩ : ∃ k : Nat, y = k := ⟨y.toNat, by omega⟩
              subst hk
              have HK9 := Aside0.mk (show k < 9 by omega)
              go_wp2_with fail
              refine (d_read HD.out k HK9.out).mono ?_
              rintro e wa ⟨U1, rfl, hU, hD, hC⟩
              have HBa := Aside0.mk (HB.out.other HD.out hC HS21.out)
              have HDa := Aside0.mk hD
              have HEa := Aside0.mk (hC.to_ext HE.out HK.out)
              have HRDa := Aside0.mk (rd_step rd2 k x HRD.out HD.out.lr (by have := HXL.out; omega))
              clear hU hD hC HD HB HE HRD
              go_wp2_with fail
              refine (d_reads HDa.out _).mono ?_
              rintro e wb ⟨rfl, rfl⟩
              go_wp2_with fail
              go_roundw
              case rel => exact ⟨(k : Int) + 1, by go_num, ⟨by omega, by omega⟩, ⟨_, HDa, HBa, HRDa⟩, HEa⟩
              case measure => simp only [intOf]; omega
            · have hno : inB y 9 = false := by
                unfold inB
                by_cases h0 : 0 ≤ y
                · rw [decide_eq_true h0, decide_eq_false (by omega)]; rfl
                · rw [decide_eq_false h0]; rfl
              go_wp2_with fail
              refine (d_read_no HD.out y hno).mono ?_
              rintro e wa ⟨rfl, rfl⟩
              go_wp2_with fail
              refine (d_reads HD.out y).mono ?_
              rintro e wb ⟨rfl, rfl⟩
              have HRDa := Aside0.mk (show rd2.getD 3 0 = if y + 1 ≤ 3 then (x : Int) else (x : Int) + 1 from by
                rw [HRD.out]
                by_cases h0 : y ≤ 3
                · rw [if_pos h0, if_pos (by omega)]
                · rw [if_neg h0, if_neg (by omega)])
              clear HRD
              go_wp2_with fail
              go_roundw
              case rel => exact ⟨y + 1, by go_num, ⟨by omega, by omega⟩, ⟨_, HD, HB, HRDa⟩, HE⟩
              case measure => simp only [intOf]; omega
          · obtain rfl : y = 10 := by omega
            have HRDb := Aside0.mk (show rd2.getD 3 0 = ((x + 1 : Nat) : Int) from by rw [HRD.out, if_neg (by decide)]; omega)
            clear HRD
            go_wp2_with fail
            refine (d_dirty HD.out).mono ?_
            rintro e wa ⟨V, rfl, hV, hE⟩
            have HDa := Aside0.mk (HD.out.ext hE)
            have HBa := Aside0.mk (HB.out.ext hE)
            have HEa := Aside0.mk (HE.out.trans hE)
            clear hV hE HD HB HE
            go_wp2_with fail
            refine (d_down HDa.out).mono ?_
            rintro e wb ⟨rfl, rfl⟩
            go_wp2_with fail
            refine (d_writes HDa.out).mono ?_
            rintro e wb ⟨rfl, rfl⟩
            go_wp2_with fail
            go_roundw
            case rel => exact ⟨x + 1, by go_num, ⟨by have := HXL.out; omega⟩, ⟨_, _, _, _, _, _, HDa, HBa, HRDb⟩, HEa⟩
            case measure => have := HXL.out; simp only [intOf]; omega
      · have h5n : (r5 == 0) = false := by simpa using h50
        have HD9 := HD7
        have HB9 := HB7
        have HE9 := HE7
        clear HD7 HB7 HE7
        obtain ⟨f9, g9, la, lb, wt9, HD9', HB9'⟩ : ∃ f9 g9 la lb wt9, Aside0 (DB w7 bd bl bc br 9 f9 g9 false la false wt9 rd1) ∧ Aside0 (DB w7 bd2 bl2 bc2 br2 9 f9 g9 false lb false wt9 (List.replicate 9 0)) := ⟨_, _, _, _, _, HD9, HB9⟩
        clear HD9 HB9
        go_wp2_with fail
        go_loopw [11] (fun i wr => ∃ y : Int, i = .int .i64 y ∧ Aside0 (-1 ≤ y ∧ y ≤ 10) ∧ (∃ rd1, Aside0 (DB wr bd bl bc br 9 f9 g9 false la false wt9 rd1) ∧ Aside0 (DB wr bd2 bl2 bc2 br2 9 f9 g9 false lb false wt9 (List.replicate 9 0)) ∧ Aside0 (rd1.getD 3 0 = if y ≤ 3 then (x : Int) else (x : Int) + 1)) ∧ Aside0 (Ext w wr)) (fun i _ => 11 - ((intOf i) + 1).toNat)
        case atStart => exact ⟨-1, rfl, ⟨by decide, by decide⟩, ⟨_, HD9', HB9', ⟨by rw [if_pos (by decide)]; exact HRD.out⟩⟩, HE9⟩
        case round =>
          clear HD9' HB9' HE9 HRD
          obtain ⟨y, rfl, HY, ⟨rd2, HD, HB, HRD⟩, HE⟩ := hrel
          obtain ⟨gy0, gy1⟩ := HY.out
          obtain ⟨wy, hwy⟩ : ∃ wx : World, wx = wr := ⟨_, rfl⟩
          subst hwy
          by_cases hly : y < 10
          · have HYL := Aside0.mk hly
            have hdy : decide (y < 10) = true := decide_eq_true hly
            by_cases hin : 0 ≤ y ∧ y < 9
            · obtain ⟨k, hk⟩ : ∃ k : Nat, y = k := ⟨y.toNat, by omega⟩
              subst hk
              have HK9 := Aside0.mk (show k < 9 by omega)
              go_wp2_with fail
              refine (d_read HD.out k HK9.out).mono ?_
              rintro e wa ⟨U1, rfl, hU, hD, hC⟩
              have HBa := Aside0.mk (HB.out.other HD.out hC HS21.out)
              have HDa := Aside0.mk hD
              have HEa := Aside0.mk (hC.to_ext HE.out HK.out)
              have HRDa := Aside0.mk (rd_step rd2 k x HRD.out HD.out.lr (by have := HXL.out; omega))
              clear hU hD hC HD HB HE HRD
              go_wp2_with fail
              refine (d_reads HDa.out _).mono ?_
              rintro e wb ⟨rfl, rfl⟩
              go_wp2_with fail
              go_roundw
              case rel => exact ⟨(k : Int) + 1, by go_num, ⟨by omega, by omega⟩, ⟨_, HDa, HBa, HRDa⟩, HEa⟩
              case measure => simp only [intOf]; omega
            · have hno : inB y 9 = false := by
                unfold inB
                by_cases h0 : 0 ≤ y
                · rw [decide_eq_true h0, decide_eq_false (by omega)]; rfl
                · rw [decide_eq_false h0]; rfl
              go_wp2_with fail
              refine (d_read_no HD.out y hno).mono ?_
              rintro e wa ⟨rfl, rfl⟩
              go_wp2_with fail
              refine (d_reads HD.out y).mono ?_
              rintro e wb ⟨rfl, rfl⟩
              have HRDa := Aside0.mk (show rd2.getD 3 0 = if y + 1 ≤ 3 then (x : Int) else (x : Int) + 1 from by
                rw [HRD.out]
                by_cases h0 : y ≤ 3
                · rw [if_pos h0, if_pos (by omega)]
                · rw [if_neg h0, if_neg (by omega)])
              clear HRD
              go_wp2_with fail
              go_roundw
              case rel => exact ⟨y + 1, by go_num, ⟨by omega, by omega⟩, ⟨_, HD, HB, HRDa⟩, HE⟩
              case measure => simp only [intOf]; omega
          · obtain rfl : y = 10 := by omega
            have HRDb := Aside0.mk (show rd2.getD 3 0 = ((x + 1 : Nat) : Int) from by rw [HRD.out, if_neg (by decide)]; omega)
            clear HRD
            go_wp2_with fail
            refine (d_dirty HD.out).mono ?_
            rintro e wa ⟨V, rfl, hV, hE⟩
            have HDa := Aside0.mk (HD.out.ext hE)
            have HBa := Aside0.mk (HB.out.ext hE)
            have HEa := Aside0.mk (HE.out.trans hE)
            clear hV hE HD HB HE
            go_wp2_with fail
            refine (d_down HDa.out).mono ?_
            rintro e wb ⟨rfl, rfl⟩
            go_wp2_with fail
            refine (d_writes HDa.out).mono ?_
            rintro e wb ⟨rfl, rfl⟩
            go_wp2_with fail
            go_roundw
            case rel => exact ⟨x + 1, by go_num, ⟨by have := HXL.out; omega⟩, ⟨_, _, _, _, _, _, HDa, HBa, HRDb⟩, HEa⟩
            case measure => have := HXL.out; simp only [intOf]; omega
    · rcases (show (x = m ∧ x ≤ 60) ∨ (x < m ∧ x = 60) from by omega) with hx1 | hx1
      · obtain ⟨hx1, hx2⟩ := hx1
        have hdj : decide ((x : Int) < (m : Int)) = false := decide_eq_false (by omega)
        have hmn : min (m : Int) 60 = (x : Int) := by omega
        go_wp2_with fail
        refine (d_dirty HD.out).mono ?_
        rintro e w5 ⟨V1, rfl, hV, hE⟩
        have HD5 := Aside0.mk (HD.out.ext hE)
        have HB5 := Aside0.mk (HB.out.ext hE)
        have HE5 := Aside0.mk (HE.out.trans hE)
        have HV5 := Aside0.mk hV
        clear hV hE HD HB HE
        go_wp2_with fail
        refine (d_dirty HB5.out).mono ?_
        rintro e w6 ⟨V2, rfl, hV, hE⟩
        obtain ⟨A1, c1, hV1, hc1, hC1⟩ := Kd.R_reads (Kd.R_below HV5.out hE)
        obtain ⟨A2, c2, hV2', hc2, hC2⟩ := Kd.R_reads hV
        have HSI := Aside0.mk (sameI_at w6 A1 A2 c1 c2 (dirtyB g 9) (dirtyB g 9) true rfl rfl (by simp) hC1 hc1 hC2 hc2 (by have := dirty_len g 9; omega))
        rw [← hV1, ← hV2'] at HSI
        have HD6 := Aside0.mk (HD5.out.ext hE)
        have HB6 := Aside0.mk (HB5.out.ext hE)
        have HE6 := Aside0.mk (HE5.out.trans hE)
        clear hV1 hV2' hC1 hC2 hV hE HD5 HB5 HE5 HV5 hc1 hc2
        go_wp2_with fail
        refine HSI.out.mono ?_
        rintro e w7 ⟨rfl, hE⟩
        have HD7 := Aside0.mk (HD6.out.ext hE)
        have HB7 := Aside0.mk (HB6.out.ext hE)
        have HE7 := Aside0.mk (HE6.out.trans hE)
        clear hE HD6 HB6 HE6 HSI
        go_wp2_with fail
        refine (d_writes HD7.out).mono ?_
        rintro e wb ⟨rfl, rfl⟩
        go_wp2_with fail
        refine (d_writes HB7.out).mono ?_
        rintro e wb ⟨rfl, rfl⟩
        go_wp2_with fail
        refine (d_reads HD7.out 3).mono ?_
        rintro e wb ⟨rfl, rfl⟩
        rw [show cntF rd1 3 9 = (x : Int) from HRD.out]
        go_wp2_with fail
        refine (d_reads HB7.out 3).mono ?_
        rintro e wb ⟨rfl, rfl⟩
        rw [show cntF (List.replicate 9 0) 3 9 = 0 from rfl]
        go_wp2_with fail
        refine (d_crash HD7.out AF mf cf fl HFN.out (F_oldI HRF.out HE7.out (fun k hk hd => by have := HK.out k hd; omega)) hcf).mono ?_
        rintro e w8 ⟨rfl, hD, hC⟩
        have HB8 := Aside0.mk (HB7.out.other HD7.out hC HS21.out)
        have HD8 := Aside0.mk hD
        have HE8 := Aside0.mk (hC.to_ext HE7.out HK.out)
        clear hD hC HD7 HB7 HE7
        go_wp2_with fail
        refine (d_crash HB8.out AF mf cf fl HFN.out (F_oldI HRF.out HE8.out (fun k hk hd => by have := HK2.out k hd; omega)) hcf).mono ?_
        rintro e w9 ⟨rfl, hD, hC⟩
        have HD9 := Aside0.mk (HD8.out.other HB8.out hC HS12.out)
        have HB9 := Aside0.mk hD
        have HE9 := Aside0.mk (hC.to_ext HE8.out HK2.out)
        clear hD hC HD8 HB8 HE8
        obtain ⟨fA, hfA⟩ : ∃ fA, fA = crashB f g fl := ⟨_, rfl⟩
        rw [← hfA] at HD9 HB9
        clear hfA HRD
        go_wp2_with fail
        go_loopw [12] (fun i wr => ∃ y : Nat, i = .int .i64 y ∧ Aside0 (y ≤ 9) ∧ (∃ rd1 rd2 lf1 lf2 wt1 wt2, Aside0 (DB wr bd bl bc br 9 fA gN false lf1 false wt1 rd1) ∧ Aside0 (DB wr bd2 bl2 bc2 br2 9 fA gN false lf2 false wt2 rd2)) ∧ Aside0 (Ext w wr)) (fun i _ => 9 - (intOf i).toNat)
        case atStart => exact ⟨0, rfl, ⟨Nat.zero_le _⟩, ⟨_, _, _, _, _, _, HD9, HB9⟩, HE9⟩
        case round =>
          clear HD9 HB9 HE9
          obtain ⟨y, rfl, HY, ⟨rd1, rd2, lf3, lf4, wt3, wt4, HD, HB⟩, HE⟩ := hrel
          have gy := HY.out
          obtain ⟨wy, hwy⟩ : ∃ wx : World, wx = wr := ⟨_, rfl⟩
          subst hwy
          by_cases hly : y < 9
          · have HYL := Aside0.mk hly
            have hdy : decide ((y : Int) < 9) = true := decide_eq_true (by omega)
            go_wp2_with fail
            refine (d_read HD.out y hly).mono ?_
            rintro e wa ⟨U1, rfl, hU, hD, hC⟩
            have HBa := Aside0.mk (HB.out.other HD.out hC HS21.out)
            have HDa := Aside0.mk hD
            have HEa := Aside0.mk (hC.to_ext HE.out HK.out)
            have HU1 := Aside0.mk (show NB wa wy.heap.size U1 (fA y) from hU)
            clear hU hD hC HD HB HE
            go_wp2_with fail
            refine (d_read HBa.out y hly).mono ?_
            rintro e wb ⟨U2, rfl, hU, hD, hC⟩
            have HU1b := Aside0.mk (HBa.out.byt HU1.out hC)
            have HDb := Aside0.mk (HDa.out.other HBa.out hC HS12.out)
            have HBb := Aside0.mk hD
            have HEb := Aside0.mk (hC.to_ext HEa.out HK2.out)
            have HU2 := Aside0.mk (show NB wb wa.heap.size U2 (fA y) from hU)
            have HLA := Aside0.mk (HDa.out.len y hly)
            clear hU hD hC HDa HBa HEa HU1
            obtain ⟨A1, n1, hV1, hc1, hC1⟩ := HU1b.out.reads
            obtain ⟨A2, n2, hV2, hc2, hC2⟩ := HU2.out.reads
            have HSB := Aside0.mk (same_at wb A1 A2 n1 n2 (fA y) (fA y) true rfl rfl (by simp) hC1 hc1 hC2 hc2 (by have := HLA.out; omega))
            rw [← hV1, ← hV2] at HSB
            clear hV1 hc1 hC1 hV2 hc2 hC2
            go_wp2_with fail
            refine HSB.out.mono ?_
            rintro e wc ⟨rfl, hE⟩
            have HDc := Aside0.mk (HDb.out.ext hE)
            have HBc := Aside0.mk (HBb.out.ext hE)
            have HEc := Aside0.mk (HEb.out.trans hE)
            clear hE HDb HBb HEb HSB HU1b HU2
            go_wp2_with fail
            go_roundw
            case rel => exact ⟨y + 1, by go_num, ⟨HYL.out⟩, ⟨_, _, _, _, _, _, HDc, HBc⟩, HEc⟩
            case measure => have := HYL.out; simp only [intOf]; omega
          · obtain rfl : y = 9 := by omega
            go_wp2_with fail
            refine (known_calls wy).mono ?_
            rintro e wz ⟨rfl, hE⟩
            have HEz := Aside0.mk (HE.out.trans hE)
            clear hE HE
            go_wp2
            go_ret
            exact ⟨rfl, HEz.out⟩
      · obtain ⟨hx1, hx2⟩ := hx1
        have hdj : decide ((x : Int) < (m : Int)) = true := decide_eq_true (by omega)
        have hdk : decide ((x : Int) < 60) = false := decide_eq_false (by omega)
        have hmn : min (m : Int) 60 = (x : Int) := by omega
        go_wp2_with fail
        refine (d_dirty HD.out).mono ?_
        rintro e w5 ⟨V1, rfl, hV, hE⟩
        have HD5 := Aside0.mk (HD.out.ext hE)
        have HB5 := Aside0.mk (HB.out.ext hE)
        have HE5 := Aside0.mk (HE.out.trans hE)
        have HV5 := Aside0.mk hV
        clear hV hE HD HB HE
        go_wp2_with fail
        refine (d_dirty HB5.out).mono ?_
        rintro e w6 ⟨V2, rfl, hV, hE⟩
        obtain ⟨A1, c1, hV1, hc1, hC1⟩ := Kd.R_reads (Kd.R_below HV5.out hE)
        obtain ⟨A2, c2, hV2', hc2, hC2⟩ := Kd.R_reads hV
        have HSI := Aside0.mk (sameI_at w6 A1 A2 c1 c2 (dirtyB g 9) (dirtyB g 9) true rfl rfl (by simp) hC1 hc1 hC2 hc2 (by have := dirty_len g 9; omega))
        rw [← hV1, ← hV2'] at HSI
        have HD6 := Aside0.mk (HD5.out.ext hE)
        have HB6 := Aside0.mk (HB5.out.ext hE)
        have HE6 := Aside0.mk (HE5.out.trans hE)
        clear hV1 hV2' hC1 hC2 hV hE HD5 HB5 HE5 HV5 hc1 hc2
        go_wp2_with fail
        refine HSI.out.mono ?_
        rintro e w7 ⟨rfl, hE⟩
        have HD7 := Aside0.mk (HD6.out.ext hE)
        have HB7 := Aside0.mk (HB6.out.ext hE)
        have HE7 := Aside0.mk (HE6.out.trans hE)
        clear hE HD6 HB6 HE6 HSI
        go_wp2_with fail
        refine (d_writes HD7.out).mono ?_
        rintro e wb ⟨rfl, rfl⟩
        go_wp2_with fail
        refine (d_writes HB7.out).mono ?_
        rintro e wb ⟨rfl, rfl⟩
        go_wp2_with fail
        refine (d_reads HD7.out 3).mono ?_
        rintro e wb ⟨rfl, rfl⟩
        rw [show cntF rd1 3 9 = (x : Int) from HRD.out]
        go_wp2_with fail
        refine (d_reads HB7.out 3).mono ?_
        rintro e wb ⟨rfl, rfl⟩
        rw [show cntF (List.replicate 9 0) 3 9 = 0 from rfl]
        go_wp2_with fail
        refine (d_crash HD7.out AF mf cf fl HFN.out (F_oldI HRF.out HE7.out (fun k hk hd => by have := HK.out k hd; omega)) hcf).mono ?_
        rintro e w8 ⟨rfl, hD, hC⟩
        have HB8 := Aside0.mk (HB7.out.other HD7.out hC HS21.out)
        have HD8 := Aside0.mk hD
        have HE8 := Aside0.mk (hC.to_ext HE7.out HK.out)
        clear hD hC HD7 HB7 HE7
        go_wp2_with fail
        refine (d_crash HB8.out AF mf cf fl HFN.out (F_oldI HRF.out HE8.out (fun k hk hd => by have := HK2.out k hd; omega)) hcf).mono ?_
        rintro e w9 ⟨rfl, hD, hC⟩
        have HD9 := Aside0.mk (HD8.out.other HB8.out hC HS12.out)
        have HB9 := Aside0.mk hD
        have HE9 := Aside0.mk (hC.to_ext HE8.out HK2.out)
        clear hD hC HD8 HB8 HE8
        obtain ⟨fA, hfA⟩ : ∃ fA, fA = crashB f g fl := ⟨_, rfl⟩
        rw [← hfA] at HD9 HB9
        clear hfA HRD
        go_wp2_with fail
        go_loopw [12] (fun i wr => ∃ y : Nat, i = .int .i64 y ∧ Aside0 (y ≤ 9) ∧ (∃ rd1 rd2 lf1 lf2 wt1 wt2, Aside0 (DB wr bd bl bc br 9 fA gN false lf1 false wt1 rd1) ∧ Aside0 (DB wr bd2 bl2 bc2 br2 9 fA gN false lf2 false wt2 rd2)) ∧ Aside0 (Ext w wr)) (fun i _ => 9 - (intOf i).toNat)
        case atStart => exact ⟨0, rfl, ⟨Nat.zero_le _⟩, ⟨_, _, _, _, _, _, HD9, HB9⟩, HE9⟩
        case round =>
          clear HD9 HB9 HE9
          obtain ⟨y, rfl, HY, ⟨rd1, rd2, lf3, lf4, wt3, wt4, HD, HB⟩, HE⟩ := hrel
          have gy := HY.out
          obtain ⟨wy, hwy⟩ : ∃ wx : World, wx = wr := ⟨_, rfl⟩
          subst hwy
          by_cases hly : y < 9
          · have HYL := Aside0.mk hly
            have hdy : decide ((y : Int) < 9) = true := decide_eq_true (by omega)
            go_wp2_with fail
            refine (d_read HD.out y hly).mono ?_
            rintro e wa ⟨U1, rfl, hU, hD, hC⟩
            have HBa := Aside0.mk (HB.out.other HD.out hC HS21.out)
            have HDa := Aside0.mk hD
            have HEa := Aside0.mk (hC.to_ext HE.out HK.out)
            have HU1 := Aside0.mk (show NB wa wy.heap.size U1 (fA y) from hU)
            clear hU hD hC HD HB HE
            go_wp2_with fail
            refine (d_read HBa.out y hly).mono ?_
            rintro e wb ⟨U2, rfl, hU, hD, hC⟩
            have HU1b := Aside0.mk (HBa.out.byt HU1.out hC)
            have HDb := Aside0.mk (HDa.out.other HBa.out hC HS12.out)
            have HBb := Aside0.mk hD
            have HEb := Aside0.mk (hC.to_ext HEa.out HK2.out)
            have HU2 := Aside0.mk (show NB wb wa.heap.size U2 (fA y) from hU)
            have HLA := Aside0.mk (HDa.out.len y hly)
            clear hU hD hC HDa HBa HEa HU1
            obtain ⟨A1, n1, hV1, hc1, hC1⟩ := HU1b.out.reads
            obtain ⟨A2, n2, hV2, hc2, hC2⟩ := HU2.out.reads
            have HSB := Aside0.mk (same_at wb A1 A2 n1 n2 (fA y) (fA y) true rfl rfl (by simp) hC1 hc1 hC2 hc2 (by have := HLA.out; omega))
            rw [← hV1, ← hV2] at HSB
            clear hV1 hc1 hC1 hV2 hc2 hC2
            go_wp2_with fail
            refine HSB.out.mono ?_
            rintro e wc ⟨rfl, hE⟩
            have HDc := Aside0.mk (HDb.out.ext hE)
            have HBc := Aside0.mk (HBb.out.ext hE)
            have HEc := Aside0.mk (HEb.out.trans hE)
            clear hE HDb HBb HEb HSB HU1b HU2
            go_wp2_with fail
            go_roundw
            case rel => exact ⟨y + 1, by go_num, ⟨HYL.out⟩, ⟨_, _, _, _, _, _, HDc, HBc⟩, HEc⟩
            case measure => have := HYL.out; simp only [intOf]; omega
          · obtain rfl : y = 9 := by omega
            go_wp2_with fail
            refine (known_calls wy).mono ?_
            rintro e wz ⟨rfl, hE⟩
            have HEz := Aside0.mk (HE.out.trans hE)
            clear hE HE
            go_wp2
            go_ret
            exact ⟨rfl, HEz.out⟩
end Go.Proofs.Ytkgjcmolmogpdaa.By
