/- Layer 7: DiskTampered; rows of bytes as an argument, cut. -/
import Derived.Test.YtkgjcmolmogpdaaDf
namespace Go.Proofs.Ytkgjcmolmogpdaa.By
open Go.RowKit Go.Proofs.Ytkgjcmolmogpdaa.Reg Go.Proofs.YtkgjcmolmogpdaaW.PrintWords Go.Proofs.YtkgjcmolmogpdaaW.PrintLast Go.Proofs.YtkgjcmolmogpdaaW.PrintMore
set_option linter.unusedVariables false
set_option linter.unusedSimpArgs false

abbrev kBB : Kd (List Int) := Kd.slice 29 kb
theorem bb_at {w : World} {A : Option Addr} {m : Nat} {xs : List (List Int)} (h : Kd.C kBB w A m xs) (x : Nat) (hx : x < m) : ∃ ad A' c' ys, A = some ad ∧ w.cell? (ad.add x) = some (.slice A' ys.length c') ∧ ys.length ≤ c' ∧ Kd.C kb w A' ys.length ys := by
  obtain ⟨ad, c, e, _, hK, hc⟩ := Kd.C_get h [] (x : Int) (by omega) (by omega)
  obtain ⟨A', c', h3, h4, h5⟩ := hK
  subst h3
  have a0 := hc 0 _ rfl
  rw [Int.toNat_natCast] at a0
  have e1 : x * kBB.sz + 0 = x := by show x * 1 + 0 = x; omega
  rw [e1] at a0
  exact ⟨ad, A', c', _, e, a0, h4, h5⟩
theorem C_takeI {w : World} {A : Option Addr} {xs : List Int} (h : Kd.C kb w A xs.length xs) (m : Nat) : Kd.C kb w A (xs.take m).length (xs.take m) := by
  refine ⟨rfl, by rw [List.length_take]; have := h.2.1; omega, fun hp => ?_⟩
  rw [List.length_take] at hp
  obtain ⟨ad, e, f⟩ := h.2.2 (by omega)
  refine ⟨ad, e, fun j p hj => f j p ?_⟩
  rw [List.getElem?_take] at hj
  split at hj
  · exact hj
  · cases hj
theorem F_oldI {w0 w : World} {ok : Nat → Prop} {A : Option Addr} {n : Nat} {xs : List Int} (h : Kd.C kI w0 A n xs) (he : Ext w0 w) (hok : ∀ k, k < w0.heap.size → ok k) : Kd.F kI w ok A n xs := fun W' hW =>
  (Kd.heap_int .i64).C (fun k hk => (hW k (hok k hk) (Nat.lt_of_lt_of_le hk he.size)).trans (he.block k hk)) h

theorem DB.len {w : World} {bd bl bc br n : Nat} {f : Nat → List Int} {g : Nat → Option (List Int)} {ar : Bool} {lf : Int} {of : Bool} {wt : Int} {rd : List Int} (h : DB w bd bl bc br n f g ar lf of wt rd) (i : Nat) (hi : i < n) : (f i).length ≤ 1024 := by
  obtain ⟨LV, CV, hd, hf⟩ := h
  exact (hf.1 i hi).2
def fN : Nat → List Int := fun _ => []
def gN : Nat → Option (List Int) := fun _ => none
theorem crash_same (f f' : Nat → List Int) (g : Nat → Option (List Int)) (fl : List Int) (j : Nat) (h : f j = f' j) : crashB f g fl j = crashB f' g fl j := by
  unfold crashB; rw [h]
theorem crash_tam (f : Nat → List Int) (g : Nat → Option (List Int)) (fl zs : List Int) (K : Nat) (h : g K = none) : crashB (upd f K zs) g fl K = zs := by
  unfold crashB upd
  rw [h, if_pos rfl]
  split <;> rfl
set_option maxRecDepth 100000 in
set_option maxHeartbeats 2000000 in
theorem dtamp_calls (w : World) (A : Option Addr) (m c : Nat) (xs : List (List Int)) (hr : Kd.C kBB w A m xs) (hc : m ≤ c) (p : Int) (hp : -9223372036854775808 ≤ p ∧ p ≤ 9223372036854775807) (AZ : Option Addr) (mz cz : Nat) (zs0 : List Int) (hz : mz = zs0.length) (hrz : Kd.C kb w AZ mz zs0) (hcz : mz ≤ cz) (AF : Option Addr) (mf cf : Nat) (fl : List Int) (hf : mf = fl.length) (hrf : Kd.C kI w AF mf fl) (hcf : mf ≤ cf) :
    Calls Try.prog 5 #[.slice A m c, .int .i64 p, .slice AZ mz cz, .slice AF mf cf] w fun e w' => e = .returned (.bool true) ∧ Ext w w' := by
  have HR := Aside0.mk hr
  have HZ := Aside0.mk hz
  have HRZ := Aside0.mk hrz
  have HFN := Aside0.mk hf
  have HRF := Aside0.mk hrf
  clear hr hz hrz hf hrf
  obtain ⟨N, hN⟩ : ∃ N, N = pickT p 9 := ⟨_, rfl⟩
  have hNr := pickT_range p 9 (by decide)
  rw [← hN] at hNr
  obtain ⟨K, hK⟩ : ∃ K : Nat, N = K := ⟨N.toNat, by omega⟩
  subst hK
  have HK9 := Aside0.mk (show K < 9 by omega)
  clear hNr
  by_cases hbf : (1000 : Int) < mf
  · go_enter Try.func5, Try.ntmps5
    go_wp2_with fail
    refine (d_new w 9 (by decide) (by decide)).mono ?_
    rintro e w1 ⟨bd, bl, bc, br, rfl, hD, hE, hk⟩
    have HE1 := Aside0.mk hE
    clear hD hE hk
    go_wp2_with fail
    refine (d_new w1 9 (by decide) (by decide)).mono ?_
    rintro e w2 ⟨bd2, bl2, bc2, br2, rfl, hD2, hE2, hk2⟩
    have HE2 := Aside0.mk (HE1.out.trans hE2)
    clear hD2 hE2 hk2
    go_wp2_with fail
    refine (known_calls w2).mono ?_
    rintro e w7 ⟨rfl, hE⟩
    have HE7 := Aside0.mk (HE2.out.trans hE)
    clear hE
    go_wp2
    go_ret
    exact ⟨rfl, HE7.out⟩
  have hd1 : decide ((1000 : Int) < mf) = false := decide_eq_false hbf
  by_cases hbz : (1024 : Int) < mz
  · go_enter Try.func5, Try.ntmps5
    go_wp2_with fail
    refine (d_new w 9 (by decide) (by decide)).mono ?_
    rintro e w1 ⟨bd, bl, bc, br, rfl, hD, hE, hk⟩
    have HE1 := Aside0.mk hE
    clear hD hE hk
    go_wp2_with fail
    refine (d_new w1 9 (by decide) (by decide)).mono ?_
    rintro e w2 ⟨bd2, bl2, bc2, br2, rfl, hD2, hE2, hk2⟩
    have HE2 := Aside0.mk (HE1.out.trans hE2)
    clear hD2 hE2 hk2
    go_wp2_with fail
    refine (known_calls w2).mono ?_
    rintro e w7 ⟨rfl, hE⟩
    have HE7 := Aside0.mk (HE2.out.trans hE)
    clear hE
    go_wp2
    go_ret
    exact ⟨rfl, HE7.out⟩
  have hd2 : decide ((1024 : Int) < mz) = false := decide_eq_false hbz
  have HMZ := Aside0.mk (show mz ≤ 1024 by omega)
  go_enter Try.func5, Try.ntmps5
  go_wp2_with fail
  refine (d_new w 9 (by decide) (by decide)).mono ?_
  rintro e w1 ⟨bd, bl, bc, br, rfl, hD, hE, hk⟩
  have HD1 := Aside0.mk (show DB w1 bd bl bc br 9 fN gN false 0 false 0 (List.replicate 9 0) from hD)
  have HE1 := Aside0.mk hE
  have HK := Aside0.mk hk
  clear hD hE hk
  go_wp2_with fail
  refine (d_new w1 9 (by decide) (by decide)).mono ?_
  rintro e w2 ⟨bd2, bl2, bc2, br2, rfl, hD2, hE2, hk2⟩
  have HB2 := Aside0.mk (show DB w2 bd2 bl2 bc2 br2 9 fN gN false 0 false 0 (List.replicate 9 0) from hD2)
  have HK2 := Aside0.mk (show ∀ k, Dst bd2 bl2 bc2 br2 k → w.heap.size ≤ k from fun k h => Nat.le_trans HE1.out.size (hk2 k h))
  have HS21 := Aside0.mk (show ∀ j, Dst bd2 bl2 bc2 br2 j → ¬ Dst bd bl bc br j from fun j h h' => by have := hk2 j h; have := HD1.out.lt j h'; omega)
  have HS12 := Aside0.mk (show ∀ j, Dst bd bl bc br j → ¬ Dst bd2 bl2 bc2 br2 j from fun j h h' => by have := hk2 j h'; have := HD1.out.lt j h; omega)
  have HD2 := Aside0.mk (HD1.out.ext hE2)
  have HE2 := Aside0.mk (HE1.out.trans hE2)
  clear hD2 hE2 hk2 HD1 HE1
  go_wp2_with fail
  refine (pick_calls w2 p 9 K hp.1 hp.2 (by decide) hN).mono ?_
  rintro e w3 ⟨rfl, hE⟩
  have HD3 := Aside0.mk (HD2.out.ext hE)
  have HB3 := Aside0.mk (HB2.out.ext hE)
  have HE3 := Aside0.mk (HE2.out.trans hE)
  clear hE HD2 HB2 HE2 hN
  go_wp2_with fail
  go_loopw [13] (fun i wr => ∃ x : Nat, i = .int .i64 x ∧ Aside0 (x ≤ m ∧ x ≤ 40) ∧ (∃ g1 lf1 wt1 g2 lf2 wt2, Aside0 (DB wr bd bl bc br 9 fN g1 false lf1 false wt1 (List.replicate 9 0)) ∧ Aside0 (DB wr bd2 bl2 bc2 br2 9 fN g2 false lf2 false wt2 (List.replicate 9 0)) ∧ Aside0 (∀ j, j ≠ K → g1 j = g2 j) ∧ Aside0 (g2 K = none)) ∧ Aside0 (Ext w wr)) (fun i _ => 40 - (intOf i).toNat)
  case atStart => exact ⟨0, rfl, ⟨Nat.zero_le _, by decide⟩, ⟨gN, _, _, gN, _, _, HD3, HB3, ⟨fun _ _ => rfl⟩, ⟨rfl⟩⟩, HE3⟩
  case round =>
    clear HD3 HB3 HE3
    obtain ⟨x, rfl, HX, ⟨g1, lf1, wt1, g2, lf2, wt2, HD, HB, HG, HGK⟩, HE⟩ := hrel
    have g0 := HX.out
    obtain ⟨wx, hwx⟩ : ∃ wx : World, wx = wr := ⟨_, rfl⟩
    subst hwx
    by_cases hlt : x < m ∧ x < 40
    · have HXL := Aside0.mk hlt
      obtain ⟨hl1, hl2⟩ := hlt
      have hdj : decide ((x : Int) < (m : Int)) = true := decide_eq_true (by omega)
      have hdk : decide ((x : Int) < 40) = true := decide_eq_true (by omega)
      obtain ⟨ad, A', c', ys, had, hcell0, hlc, hC⟩ := bb_at HR.out x hl1
      subst had
      obtain ⟨zs, hzs⟩ : ∃ zs, zs = ys.take 100 := ⟨_, rfl⟩
      obtain ⟨l, hl⟩ : ∃ l, l = zs.length := ⟨_, rfl⟩
      have hll : l = min ys.length 100 := by rw [hl, hzs, List.length_take, Nat.min_comm]
      have HL := Aside0.mk hl
      have HL1 := Aside0.mk (show l ≤ 100 ∧ l ≤ c' from by rw [hll]; omega)
      have HCZ := Aside0.mk (show Kd.C kb w A' l zs from by
        have h := C_takeI hC 100
        rw [← hzs, ← hl] at h
        exact h)
      obtain ⟨ny, hny⟩ : ∃ n, n = ys.length := ⟨_, rfl⟩
      rw [← hny] at hcell0 hll
      have HCUT := Aside0.mk (show 0 ≤ min (ny : Int) 100 ∧ min (ny : Int) 100 ≤ (c' : Int) from by have := HL1.out; omega)
      have HLK := Aside0.mk (show (min (ny : Int) 100).toNat = l from by omega)
      have hcell := Ext.cell HE.out hcell0
      clear hC hny hzs hl hlc hcell0 hll
      go_wp2_with fail
      apply wp_region_facts 11 [RF.val _, RF.val _, RF.val _, RF.val _, RF.val _, RF.val _, RF.val _, RF.val _, RF.val _, RF.val _, RF.val _]
      case hm => kernel_rfl
      case hB => kernel_rfl
      simp only [List.take_succ_cons, List.take_zero, List.zip_cons_cons, List.zip_nil_left]
      (first | refine wpF_val rfl (fun w' hE hD => by unfold Yld; go_simp; exact ⟨Ext.refl _, rfl⟩) ?_ | refine wpF_valg (by rfl) (fun w' hE hD => by unfold Yld; go_simp; exact ⟨Ext.refl _, rfl⟩) ?_)
      (try simp only [Act.put, List.setIfInBounds_toArray, List.set_cons_zero, List.set_cons_succ])
      (first | refine wpF_val rfl (fun w' hE hD => by unfold Yld; go_simp; exact ⟨Ext.refl _, rfl⟩) ?_ | refine wpF_valg (by rfl) (fun w' hE hD => by unfold Yld; go_simp; exact ⟨Ext.refl _, rfl⟩) ?_)
      (try simp only [Act.put, List.setIfInBounds_toArray, List.set_cons_zero, List.set_cons_succ])
      (first | refine wpF_val rfl (fun w' hE hD => by unfold Yld; go_simp; exact ⟨Ext.refl _, rfl⟩) ?_ | refine wpF_valg (by rfl) (fun w' hE hD => by unfold Yld; go_simp; exact ⟨Ext.refl _, rfl⟩) ?_)
      (try simp only [Act.put, List.setIfInBounds_toArray, List.set_cons_zero, List.set_cons_succ])
      (first | refine wpF_val rfl (fun w' hE hD => by have hq := Ext.cell hE hcell; unfold Yld; go_simp; exact ⟨Ext.refl _, rfl⟩) ?_ | refine wpF_valg (by rfl) (fun w' hE hD => by have hq := Ext.cell hE hcell; unfold Yld; go_simp; exact ⟨Ext.refl _, rfl⟩) ?_)
      (try simp only [Act.put, List.setIfInBounds_toArray, List.set_cons_zero, List.set_cons_succ])
      (first | refine wpF_val rfl (fun w' hE hD => by unfold Yld; go_simp; exact ⟨Ext.refl _, rfl⟩) ?_ | refine wpF_valg (by rfl) (fun w' hE hD => by unfold Yld; go_simp; exact ⟨Ext.refl _, rfl⟩) ?_)
      (try simp only [Act.put, List.setIfInBounds_toArray, List.set_cons_zero, List.set_cons_succ])
      (first | refine wpF_val rfl (fun w' hE hD => by unfold Yld; go_simp; exact ⟨Ext.refl _, rfl⟩) ?_ | refine wpF_valg (by rfl) (fun w' hE hD => by unfold Yld; go_simp; exact ⟨Ext.refl _, rfl⟩) ?_)
      (try simp only [Act.put, List.setIfInBounds_toArray, List.set_cons_zero, List.set_cons_succ])
      (first | refine wpF_val rfl (fun w' hE hD => by unfold Yld; go_simp; exact ⟨Ext.refl _, rfl⟩) ?_ | refine wpF_valg (by rfl) (fun w' hE hD => by unfold Yld; go_simp; exact ⟨Ext.refl _, rfl⟩) ?_)
      (try simp only [Act.put, List.setIfInBounds_toArray, List.set_cons_zero, List.set_cons_succ])
      (first | refine wpF_val rfl (fun w' hE hD => by have hq := Ext.cell hE hcell; unfold Yld; go_simp; exact ⟨Ext.refl _, rfl⟩) ?_ | refine wpF_valg (by rfl) (fun w' hE hD => by have hq := Ext.cell hE hcell; unfold Yld; go_simp; exact ⟨Ext.refl _, rfl⟩) ?_)
      (try simp only [Act.put, List.setIfInBounds_toArray, List.set_cons_zero, List.set_cons_succ])
      (first | refine wpF_val rfl (fun w' hE hD => by unfold Yld; go_simp; exact ⟨Ext.refl _, rfl⟩) ?_ | refine wpF_valg (by rfl) (fun w' hE hD => by unfold Yld; go_simp; exact ⟨Ext.refl _, rfl⟩) ?_)
      (try simp only [Act.put, List.setIfInBounds_toArray, List.set_cons_zero, List.set_cons_succ])
      (first | refine wpF_val rfl (fun w' hE hD => by unfold Yld; go_simp; exact ⟨Ext.refl _, rfl⟩) ?_ | refine wpF_valg (by rfl) (fun w' hE hD => by unfold Yld; go_simp; exact ⟨Ext.refl _, rfl⟩) ?_)
      (try simp only [Act.put, List.setIfInBounds_toArray, List.set_cons_zero, List.set_cons_succ])
      (first | refine wpF_val rfl (fun w' hE hD => by unfold Yld; go_simp; rw [if_pos HCUT.out]; exact ⟨Ext.refl _, rfl⟩) ?_ | refine wpF_valg (by rfl) (fun w' hE hD => by unfold Yld; go_simp; rw [if_pos HCUT.out]; exact ⟨Ext.refl _, rfl⟩) ?_)
      (try simp only [Act.put, List.setIfInBounds_toArray, List.set_cons_zero, List.set_cons_succ])
      refine wpF_nil fun w5 hE5 hA => ?_
      simp only [List.drop_succ_cons, List.drop_zero]
      rw [HLK.out]
      clear hA hcell HLK HCUT
      have HD5 := Aside0.mk (HD.out.ext hE5)
      have HB5 := Aside0.mk (HB.out.ext hE5)
      have HE5 := Aside0.mk (HE.out.trans hE5)
      clear hE5 HD HB HE
      have hrem : Int.tmod (x : Int) 9 = ((x % 9 : Nat) : Int) := by rw [Int.tmod_eq_emod_of_nonneg (by omega)]; omega
      have HQ := Aside0.mk (Nat.mod_lt x (show 0 < 9 by decide))
      generalize x % 9 = q at hrem HQ
      go_wp2_with fail
      refine (d_write HD5.out q A' l c' zs HL.out (F_old HCZ.out HE5.out (fun k hk hd => by have := HK.out k hd; omega)) HL1.out.2 HQ.out (by have := HL1.out.1; omega) rfl).mono ?_
      rintro e w6 ⟨rfl, hD, hC⟩
      have HB6 := Aside0.mk (HB5.out.other HD5.out hC HS21.out)
      have HD6 := Aside0.mk hD
      have HE6 := Aside0.mk (hC.to_ext HE5.out HK.out)
      clear hD hC HD5 HB5 HE5
      by_cases hqK : q = K
      · subst hqK
        go_wp2_with fail
        go_roundw
        case rel => exact ⟨x + 1, by go_num, ⟨by have := HXL.out; omega⟩, ⟨_, _, _, _, _, _, HD6, HB6, ⟨fun j hj => by unfold upd; rw [if_neg hj]; exact HG.out j hj⟩, HGK⟩, HE6⟩
        case measure => have := HXL.out; simp only [intOf]; omega
      · have hqn : decide ((q : Int) = (K : Int)) = false := decide_eq_false (by omega)
        go_wp2_with fail
        refine (d_write HB6.out q A' l c' zs HL.out (F_old HCZ.out HE6.out (fun k hk hd => by have := HK2.out k hd; omega)) HL1.out.2 HQ.out (by have := HL1.out.1; omega) rfl).mono ?_
        rintro e w7 ⟨rfl, hD, hC⟩
        have HD7 := Aside0.mk (HD6.out.other HB6.out hC HS12.out)
        have HB7 := Aside0.mk hD
        have HE7 := Aside0.mk (hC.to_ext HE6.out HK2.out)
        have HQN := Aside0.mk hqK
        clear hD hC HD6 HB6 HE6
        go_wp2_with fail
        go_roundw
        case rel => exact ⟨x + 1, by go_num, ⟨by have := HXL.out; omega⟩, ⟨_, _, _, _, _, _, HD7, HB7, ⟨fun j hj => by unfold upd; rw [HG.out j hj]⟩, ⟨by unfold upd; rw [if_neg (fun e => HQN.out e.symm)]; exact HGK.out⟩⟩, HE7⟩
        case measure => have := HXL.out; simp only [intOf]; omega
    · rcases (show ¬ (x < m) ∨ (x < m ∧ ¬ (x < 40)) from by omega) with hx1 | hx1
      · have hdj : decide ((x : Int) < (m : Int)) = false := decide_eq_false (by omega)
        go_wp2_with fail
        refine (d_tamper HD.out K AZ mz cz zs0 HZ.out (F_old HRZ.out HE.out (fun k hk hd => by have := HK.out k hd; omega)) hcz HK9.out HMZ.out).mono ?_
        rintro e w4 ⟨rfl, hD, hC⟩
        have hgg : upd g1 K none = g2 := by
          funext j
          unfold upd
          by_cases e : j = K
          · subst e; rw [if_pos rfl]; exact HGK.out.symm
          · rw [if_neg e]; exact HG.out j e
        rw [hgg] at hD
        have HB4 := Aside0.mk (HB.out.other HD.out hC HS21.out)
        have HD4 := Aside0.mk hD
        have HE4 := Aside0.mk (hC.to_ext HE.out HK.out)
        clear hD hC hgg HD HB HE HG
        go_wp2_with fail
        refine (d_dirty HD4.out).mono ?_
        rintro e w5 ⟨V1, rfl, hV, hE⟩
        have HD5 := Aside0.mk (HD4.out.ext hE)
        have HB5 := Aside0.mk (HB4.out.ext hE)
        have HE5 := Aside0.mk (HE4.out.trans hE)
        have HV5 := Aside0.mk hV
        clear hV hE HD4 HB4 HE4
        go_wp2_with fail
        refine (d_dirty HB5.out).mono ?_
        rintro e w6 ⟨V2, rfl, hV, hE⟩
        obtain ⟨A1, c1, hV1, hc1, hC1⟩ := Kd.R_reads (Kd.R_below HV5.out hE)
        obtain ⟨A2, c2, hV2', hc2, hC2⟩ := Kd.R_reads hV
        have HSI := Aside0.mk (sameI_at w6 A1 A2 c1 c2 (dirtyB g2 9) (dirtyB g2 9) true rfl rfl (by simp) hC1 hc1 hC2 hc2 (by have := dirty_len g2 9; omega))
        rw [← hV1, ← hV2'] at HSI
        have HD6 := Aside0.mk (HD5.out.ext hE)
        have HB6 := Aside0.mk (HB5.out.ext hE)
        have HE6 := Aside0.mk (HE5.out.trans hE)
        clear hV1 hV2' hC1 hC2 hV hE HD5 HB5 HE5 HV5 hc1 hc2
        go_wp2_with fail
        refine HSI.out.mono ?_
        rintro e w7 ⟨rfl, hE⟩
        have HD7 := Aside0.mk (HD6.out.ext hE)
        have HB7 := Aside0.mk (HB6.out.ext hE)
        have HE7 := Aside0.mk (HE6.out.trans hE)
        clear hE HD6 HB6 HE6 HSI
        go_wp2_with fail
        refine (d_crash HD7.out AF mf cf fl HFN.out (F_oldI HRF.out HE7.out (fun k hk hd => by have := HK.out k hd; omega)) hcf).mono ?_
        rintro e w8 ⟨rfl, hD, hC⟩
        have HB8 := Aside0.mk (HB7.out.other HD7.out hC HS21.out)
        have HD8 := Aside0.mk hD
        have HE8 := Aside0.mk (hC.to_ext HE7.out HK.out)
        clear hD hC HD7 HB7 HE7
        go_wp2_with fail
        refine (d_crash HB8.out AF mf cf fl HFN.out (F_oldI HRF.out HE8.out (fun k hk hd => by have := HK2.out k hd; omega)) hcf).mono ?_
        rintro e w9 ⟨rfl, hD, hC⟩
        have HD9 := Aside0.mk (HD8.out.other HB8.out hC HS12.out)
        have HB9 := Aside0.mk hD
        have HE9 := Aside0.mk (hC.to_ext HE8.out HK2.out)
        clear hD hC HD8 HB8 HE8
        obtain ⟨fA, hfA⟩ : ∃ fA, fA = crashB (upd fN K zs0) g2 fl := ⟨_, rfl⟩
        obtain ⟨fB, hfB⟩ : ∃ fB, fB = crashB fN g2 fl := ⟨_, rfl⟩
        have HFK := Aside0.mk (show fA K = zs0 by rw [hfA]; exact crash_tam _ _ _ _ _ HGK.out)
        have HFJ := Aside0.mk (show ∀ j, j ≠ K → fA j = fB j by
          intro j hj
          rw [hfA, hfB]
          exact crash_same _ _ _ _ _ (by unfold upd; rw [if_neg hj]))
        rw [← hfA] at HD9
        rw [← hfB] at HB9
        clear hfA hfB HGK
        go_wp2_with fail
        go_loopw [15] (fun i wr => ∃ y : Nat, i = .int .i64 y ∧ Aside0 (y ≤ 9) ∧ (∃ rd1 rd2 lf1 lf2 wt1 wt2, Aside0 (DB wr bd bl bc br 9 fA gN false lf1 false wt1 rd1) ∧ Aside0 (DB wr bd2 bl2 bc2 br2 9 fB gN false lf2 false wt2 rd2)) ∧ Aside0 (Ext w wr)) (fun i _ => 9 - (intOf i).toNat)
        case atStart => exact ⟨0, rfl, ⟨Nat.zero_le _⟩, ⟨_, _, _, _, _, _, HD9, HB9⟩, HE9⟩
        case round =>
          clear HD9 HB9 HE9
          obtain ⟨y, rfl, HY, ⟨rd1, rd2, lf3, lf4, wt3, wt4, HD, HB⟩, HE⟩ := hrel
          have gy := HY.out
          obtain ⟨wy, hwy⟩ : ∃ wx : World, wx = wr := ⟨_, rfl⟩
          subst hwy
          by_cases hly : y < 9
          · have HYL := Aside0.mk hly
            have hdy : decide ((y : Int) < 9) = true := decide_eq_true (by omega)
            go_wp2_with fail
            refine (d_read HD.out y hly).mono ?_
            rintro e wa ⟨U1, rfl, hU, hD, hC⟩
            have HBa := Aside0.mk (HB.out.other HD.out hC HS21.out)
            have HDa := Aside0.mk hD
            have HEa := Aside0.mk (hC.to_ext HE.out HK.out)
            have HU1 := Aside0.mk (show NB wa wy.heap.size U1 (fA y) from hU)
            clear hU hD hC HD HB HE
            go_wp2_with fail
            refine (d_read HBa.out y hly).mono ?_
            rintro e wb ⟨U2, rfl, hU, hD, hC⟩
            have HU1b := Aside0.mk (HBa.out.byt HU1.out hC)
            have HDb := Aside0.mk (HDa.out.other HBa.out hC HS12.out)
            have HBb := Aside0.mk hD
            have HEb := Aside0.mk (hC.to_ext HEa.out HK2.out)
            have HU2 := Aside0.mk (show NB wb wa.heap.size U2 (fB y) from hU)
            have HLA := Aside0.mk (HDa.out.len y hly)
            clear hU hD hC HDa HBa HEa HU1
            obtain ⟨A1, n1, hV1, hc1, hC1⟩ := HU1b.out.reads
            obtain ⟨A2, n2, hV2, hc2, hC2⟩ := HU2.out.reads
            by_cases hyK : y = K
            · subst hyK
              have HSB := Aside0.mk (same_at wb A1 AZ n1 cz (fA y) zs0 true rfl HZ.out (by rw [HFK.out]; simp) hC1 hc1 (Kd.C_below HRZ.out HEb.out) hcz (by have := HLA.out; omega))
              rw [← hV1] at HSB
              clear hV1 hc1 hC1 hV2 hc2 hC2
              go_wp2_with fail
              refine HSB.out.mono ?_
              rintro e wc ⟨rfl, hE⟩
              have HDc := Aside0.mk (HDb.out.ext hE)
              have HBc := Aside0.mk (HBb.out.ext hE)
              have HEc := Aside0.mk (HEb.out.trans hE)
              clear hE HDb HBb HEb HSB HU1b HU2
              go_wp2_with fail
              go_roundw
              case rel => exact ⟨y + 1, by go_num, ⟨HYL.out⟩, ⟨_, _, _, _, _, _, HDc, HBc⟩, HEc⟩
              case measure => have := HYL.out; simp only [intOf]; omega
            · have hyn : decide ((y : Int) = (K : Int)) = false := decide_eq_false (by omega)
              have HSB := Aside0.mk (same_at wb A1 A2 n1 n2 (fA y) (fB y) true rfl rfl (by rw [HFJ.out y hyK]; simp) hC1 hc1 hC2 hc2 (by have := HLA.out; omega))
              rw [← hV1, ← hV2] at HSB
              clear hV1 hc1 hC1 hV2 hc2 hC2
              go_wp2_with fail
              refine HSB.out.mono ?_
              rintro e wc ⟨rfl, hE⟩
              have HDc := Aside0.mk (HDb.out.ext hE)
              have HBc := Aside0.mk (HBb.out.ext hE)
              have HEc := Aside0.mk (HEb.out.trans hE)
              clear hE HDb HBb HEb HSB HU1b HU2
              go_wp2_with fail
              go_roundw
              case rel => exact ⟨y + 1, by go_num, ⟨HYL.out⟩, ⟨_, _, _, _, _, _, HDc, HBc⟩, HEc⟩
              case measure => have := HYL.out; simp only [intOf]; omega
          · obtain rfl : y = 9 := by omega
            go_wp2_with fail
            refine (known_calls wy).mono ?_
            rintro e wz ⟨rfl, hE⟩
            have HEz := Aside0.mk (HE.out.trans hE)
            clear hE HE
            go_wp2
            go_ret
            exact ⟨rfl, HEz.out⟩
      · obtain ⟨hx1, hx2⟩ := hx1
        have hdj : decide ((x : Int) < (m : Int)) = true := decide_eq_true (by omega)
        have hdk : decide ((x : Int) < 40) = false := decide_eq_false (by omega)
        go_wp2_with fail
        refine (d_tamper HD.out K AZ mz cz zs0 HZ.out (F_old HRZ.out HE.out (fun k hk hd => by have := HK.out k hd; omega)) hcz HK9.out HMZ.out).mono ?_
        rintro e w4 ⟨rfl, hD, hC⟩
        have hgg : upd g1 K none = g2 := by
          funext j
          unfold upd
          by_cases e : j = K
          · subst e; rw [if_pos rfl]; exact HGK.out.symm
          · rw [if_neg e]; exact HG.out j e
        rw [hgg] at hD
        have HB4 := Aside0.mk (HB.out.other HD.out hC HS21.out)
        have HD4 := Aside0.mk hD
        have HE4 := Aside0.mk (hC.to_ext HE.out HK.out)
        clear hD hC hgg HD HB HE HG
        go_wp2_with fail
        refine (d_dirty HD4.out).mono ?_
        rintro e w5 ⟨V1, rfl, hV, hE⟩
        have HD5 := Aside0.mk (HD4.out.ext hE)
        have HB5 := Aside0.mk (HB4.out.ext hE)
        have HE5 := Aside0.mk (HE4.out.trans hE)
        have HV5 := Aside0.mk hV
        clear hV hE HD4 HB4 HE4
        go_wp2_with fail
        refine (d_dirty HB5.out).mono ?_
        rintro e w6 ⟨V2, rfl, hV, hE⟩
        obtain ⟨A1, c1, hV1, hc1, hC1⟩ := Kd.R_reads (Kd.R_below HV5.out hE)
        obtain ⟨A2, c2, hV2', hc2, hC2⟩ := Kd.R_reads hV
        have HSI := Aside0.mk (sameI_at w6 A1 A2 c1 c2 (dirtyB g2 9) (dirtyB g2 9) true rfl rfl (by simp) hC1 hc1 hC2 hc2 (by have := dirty_len g2 9; omega))
        rw [← hV1, ← hV2'] at HSI
        have HD6 := Aside0.mk (HD5.out.ext hE)
        have HB6 := Aside0.mk (HB5.out.ext hE)
        have HE6 := Aside0.mk (HE5.out.trans hE)
        clear hV1 hV2' hC1 hC2 hV hE HD5 HB5 HE5 HV5 hc1 hc2
        go_wp2_with fail
        refine HSI.out.mono ?_
        rintro e w7 ⟨rfl, hE⟩
        have HD7 := Aside0.mk (HD6.out.ext hE)
        have HB7 := Aside0.mk (HB6.out.ext hE)
        have HE7 := Aside0.mk (HE6.out.trans hE)
        clear hE HD6 HB6 HE6 HSI
        go_wp2_with fail
        refine (d_crash HD7.out AF mf cf fl HFN.out (F_oldI HRF.out HE7.out (fun k hk hd => by have := HK.out k hd; omega)) hcf).mono ?_
        rintro e w8 ⟨rfl, hD, hC⟩
        have HB8 := Aside0.mk (HB7.out.other HD7.out hC HS21.out)
        have HD8 := Aside0.mk hD
        have HE8 := Aside0.mk (hC.to_ext HE7.out HK.out)
        clear hD hC HD7 HB7 HE7
        go_wp2_with fail
        refine (d_crash HB8.out AF mf cf fl HFN.out (F_oldI HRF.out HE8.out (fun k hk hd => by have := HK2.out k hd; omega)) hcf).mono ?_
        rintro e w9 ⟨rfl, hD, hC⟩
        have HD9 := Aside0.mk (HD8.out.other HB8.out hC HS12.out)
        have HB9 := Aside0.mk hD
        have HE9 := Aside0.mk (hC.to_ext HE8.out HK2.out)
        clear hD hC HD8 HB8 HE8
        obtain ⟨fA, hfA⟩ : ∃ fA, fA = crashB (upd fN K zs0) g2 fl := ⟨_, rfl⟩
        obtain ⟨fB, hfB⟩ : ∃ fB, fB = crashB fN g2 fl := ⟨_, rfl⟩
        have HFK := Aside0.mk (show fA K = zs0 by rw [hfA]; exact crash_tam _ _ _ _ _ HGK.out)
        have HFJ := Aside0.mk (show ∀ j, j ≠ K → fA j = fB j by
          intro j hj
          rw [hfA, hfB]
          exact crash_same _ _ _ _ _ (by unfold upd; rw [if_neg hj]))
        rw [← hfA] at HD9
        rw [← hfB] at HB9
        clear hfA hfB HGK
        go_wp2_with fail
        go_loopw [15] (fun i wr => ∃ y : Nat, i = .int .i64 y ∧ Aside0 (y ≤ 9) ∧ (∃ rd1 rd2 lf1 lf2 wt1 wt2, Aside0 (DB wr bd bl bc br 9 fA gN false lf1 false wt1 rd1) ∧ Aside0 (DB wr bd2 bl2 bc2 br2 9 fB gN false lf2 false wt2 rd2)) ∧ Aside0 (Ext w wr)) (fun i _ => 9 - (intOf i).toNat)
        case atStart => exact ⟨0, rfl, ⟨Nat.zero_le _⟩, ⟨_, _, _, _, _, _, HD9, HB9⟩, HE9⟩
        case round =>
          clear HD9 HB9 HE9
          obtain ⟨y, rfl, HY, ⟨rd1, rd2, lf3, lf4, wt3, wt4, HD, HB⟩, HE⟩ := hrel
          have gy := HY.out
          obtain ⟨wy, hwy⟩ : ∃ wx : World, wx = wr := ⟨_, rfl⟩
          subst hwy
          by_cases hly : y < 9
          · have HYL := Aside0.mk hly
            have hdy : decide ((y : Int) < 9) = true := decide_eq_true (by omega)
            go_wp2_with fail
            refine (d_read HD.out y hly).mono ?_
            rintro e wa ⟨U1, rfl, hU, hD, hC⟩
            have HBa := Aside0.mk (HB.out.other HD.out hC HS21.out)
            have HDa := Aside0.mk hD
            have HEa := Aside0.mk (hC.to_ext HE.out HK.out)
            have HU1 := Aside0.mk (show NB wa wy.heap.size U1 (fA y) from hU)
            clear hU hD hC HD HB HE
            go_wp2_with fail
            refine (d_read HBa.out y hly).mono ?_
            rintro e wb ⟨U2, rfl, hU, hD, hC⟩
            have HU1b := Aside0.mk (HBa.out.byt HU1.out hC)
            have HDb := Aside0.mk (HDa.out.other HBa.out hC HS12.out)
            have HBb := Aside0.mk hD
            have HEb := Aside0.mk (hC.to_ext HEa.out HK2.out)
            have HU2 := Aside0.mk (show NB wb wa.heap.size U2 (fB y) from hU)
            have HLA := Aside0.mk (HDa.out.len y hly)
            clear hU hD hC HDa HBa HEa HU1
            obtain ⟨A1, n1, hV1, hc1, hC1⟩ := HU1b.out.reads
            obtain ⟨A2, n2, hV2, hc2, hC2⟩ := HU2.out.reads
            by_cases hyK : y = K
            · subst hyK
              have HSB := Aside0.mk (same_at wb A1 AZ n1 cz (fA y) zs0 true rfl HZ.out (by rw [HFK.out]; simp) hC1 hc1 (Kd.C_below HRZ.out HEb.out) hcz (by have := HLA.out; omega))
              rw [← hV1] at HSB
              clear hV1 hc1 hC1 hV2 hc2 hC2
              go_wp2_with fail
              refine HSB.out.mono ?_
              rintro e wc ⟨rfl, hE⟩
              have HDc := Aside0.mk (HDb.out.ext hE)
              have HBc := Aside0.mk (HBb.out.ext hE)
              have HEc := Aside0.mk (HEb.out.trans hE)
              clear hE HDb HBb HEb HSB HU1b HU2
              go_wp2_with fail
              go_roundw
              case rel => exact ⟨y + 1, by go_num, ⟨HYL.out⟩, ⟨_, _, _, _, _, _, HDc, HBc⟩, HEc⟩
              case measure => have := HYL.out; simp only [intOf]; omega
            · have hyn : decide ((y : Int) = (K : Int)) = false := decide_eq_false (by omega)
              have HSB := Aside0.mk (same_at wb A1 A2 n1 n2 (fA y) (fB y) true rfl rfl (by rw [HFJ.out y hyK]; simp) hC1 hc1 hC2 hc2 (by have := HLA.out; omega))
              rw [← hV1, ← hV2] at HSB
              clear hV1 hc1 hC1 hV2 hc2 hC2
              go_wp2_with fail
              refine HSB.out.mono ?_
              rintro e wc ⟨rfl, hE⟩
              have HDc := Aside0.mk (HDb.out.ext hE)
              have HBc := Aside0.mk (HBb.out.ext hE)
              have HEc := Aside0.mk (HEb.out.trans hE)
              clear hE HDb HBb HEb HSB HU1b HU2
              go_wp2_with fail
              go_roundw
              case rel => exact ⟨y + 1, by go_num, ⟨HYL.out⟩, ⟨_, _, _, _, _, _, HDc, HBc⟩, HEc⟩
              case measure => have := HYL.out; simp only [intOf]; omega
          · obtain rfl : y = 9 := by omega
            go_wp2_with fail
            refine (known_calls wy).mono ?_
            rintro e wz ⟨rfl, hE⟩
            have HEz := Aside0.mk (HE.out.trans hE)
            clear hE HE
            go_wp2
            go_ret
            exact ⟨rfl, HEz.out⟩
end Go.Proofs.Ytkgjcmolmogpdaa.By
