/- The disk's methods: Crash. -/
import Derived.Test.YtkgjcmolmogpdaaOps4
namespace Go.Proofs.Ytkgjcmolmogpdaa.By
open Go.RowKit Go.Proofs.Ytkgjcmolmogpdaa.Reg Go.Proofs.YtkgjcmolmogpdaaW.PrintWords Go.Proofs.YtkgjcmolmogpdaaW.PrintLast Go.Proofs.YtkgjcmolmogpdaaW.PrintMore
set_option linter.unusedVariables false
set_option linter.unusedSimpArgs false


theorem addr_at (g j : Nat) : (⟨g, 0, none⟩ : Addr).add (j : Int).toNat = ⟨g, j, none⟩ := by
  rcases Nat.eq_zero_or_pos j with h | h
  · subst h; simp [Addr.add]
  · have : ¬ j = 0 := by omega
    simp [Addr.add, this]
abbrev kI : Kd Int := Kd.int .i64
/-- What lasts behind a Crash: of the first j sectors of the cache those whose fates say so. -/
def crashN (LV : List Value) (CV : List (Int × Value)) (fl : List Int) : Nat → List Value
  | 0 => LV
  | j + 1 => if fl.getD j 0 = 0 then crashN LV CV fl j else match CV[j]? with
    | some p => (crashN LV CV fl j).set p.1.toNat p.2
    | none => crashN LV CV fl j
def crashV (LV : List Value) (CV : List (Int × Value)) (fl : List Int) : List Value := crashN LV CV fl CV.length
theorem crashN_0 {LV : List Value} {CV : List (Int × Value)} {fl : List Int} {j : Nat} (h : fl.getD j 0 = 0) : crashN LV CV fl (j + 1) = crashN LV CV fl j := by
  rw [crashN, if_pos h]
theorem crashN_1 {LV : List Value} {CV : List (Int × Value)} {fl : List Int} {j : Nat} (h : ¬ fl.getD j 0 = 0) {p : Int × Value} (hp : CV[j]? = some p) : crashN LV CV fl (j + 1) = (crashN LV CV fl j).set p.1.toNat p.2 := by
  rw [crashN, if_neg h, hp]
theorem Yld_look1 {w : World} {bc m : Nat} {CV : List (Int × Value)} {o : Oper} {a : Act} (x y : Operand) (hop : o.op = Op.lookup 70 x y false) (hm : a.eval x = .map (some bc)) (hown : w.ownsMap Try.prog 3 RM bc m (mapD CV)) (i : Int) (hy : a.eval y = .int .i64 i) (hw : -9223372036854775808 ≤ i ∧ i ≤ 9223372036854775807)
    (V : Value) (hget : getA CV i = some V) : Yld Try.prog o a w (.val V) := by
  obtain ⟨v, ps, hrun, hv⟩ := hown.lookup (Maps.int_keyed Try.underlying3) Try.underlying70 (zslice w) (zd := .held (.slice none 0 0)) (zp := []) rfl (Maps.keyOf_int_mk (P := Try.prog) Try.underlying3 (i64_wf hw))
  have h1 := RM_inv hv
  rw [mapD_at, hget] at h1
  injection h1 with h1
  have h2 : V = v := h1
  subst h2
  unfold Yld execOp
  simp only [hop, hm, hy, Sem.run_bind, hrun, Result.andThen_ok, Sem.run_pure]
  exact ⟨Ext.refl _, rfl⟩
set_option maxRecDepth 100000 in
set_option maxHeartbeats 16000000 in
theorem crash_calls {w : World} {bd bl bc br n : Nat} {LV : List Value} {CV : List (Int × Value)} {ar : Bool} {lf : Int} {of : Bool} {wt : Int} {rd : List Int} (h : DV w bd bl bc br n LV CV ar lf of wt rd) (A : Option Addr) (m c : Nat) (fl : List Int) (hn : m = fl.length) (hr : Kd.F kI w (fun k => ¬ Dst bd bl bc br k) A m fl) (hc : m ≤ c) :
    Calls Try.prog 20 #[.pointer (some ⟨bd, 0, none⟩), .slice A m c] w fun e w' => e = .returned (.tuple #[]) ∧ DV w' bd bl bc br n (crashV LV CV fl) [] false lf false wt rd ∧ Chg w w' (Dst bd bl bc br) := by
  have HDY := Aside0.mk (dirty_calls h)
  have HD0 := Aside0.mk h
  have HLT := Aside0.mk h.lt
  have HN := Aside0.mk hn
  have hnn := h.nn
  have hcl : (CV.length : Int) ≤ n - 0 := rise_length h.ks (by omega) h.kr
  clear h hn
  go_enter Try.func20, Try.ntmps20
  go_wp2_with fail
  refine HDY.out.mono ?_
  rintro e w1 ⟨V, rfl, hK, hE⟩
  obtain ⟨AK, cK, hV, hcK, _⟩ := Kd.R_reads hK
  obtain ⟨N, hNN⟩ : ∃ N, N = (CV.map (·.1)).length := ⟨_, rfl⟩
  rw [← hNN] at hV hcK
  subst hV
  have hNL : N = CV.length := by rw [hNN, List.length_map]
  have HNL := Aside0.mk hNL
  have hN1 : (N : Int) ≤ 4096 := by omega
  have HK := Aside0.mk hK
  have HF := Aside0.mk (show Kd.F kI w1 (fun k => w.heap.size ≤ k) AK N (CV.map (·.1)) from Kd.N_F (Kd.R_N (Kd.R_mono (Kd.R_tight (d := kI) rfl hK) (fun k hk => Kd.R_base hK k hk.symm))))
  have HD1 := Aside0.mk (HD0.out.ext hE)
  have HC1 := Aside0.mk (Chg.of_ext hE (Dst bd bl bc br))
  have HR1 := Aside0.mk (Kd.F_below hr hE)
  clear hE hr hK hNN hNL hcl HDY
  go_wp2_with fail
  go_loopw [9] (fun i wr => ∃ j : Nat, i = .int .i64 j ∧ Aside0 (j ≤ N) ∧ Aside0 (DV wr bd bl bc br n (crashN LV CV fl j) CV ar lf of wt rd) ∧ Aside0 (Chg w1 wr (Dst bd bl bc br))) (fun i _ => N - (intOf i).toNat)
  case atStart => exact ⟨0, rfl, ⟨Nat.zero_le _⟩, HD1, ⟨Chg.refl _ _⟩⟩
  case round =>
    clear HD1
    obtain ⟨j, rfl, HJ, HDx, HCx⟩ := hrel
    have g0 := HJ.out
    obtain ⟨wx, hwx⟩ : ∃ wx : World, wx = wr := ⟨_, rfl⟩
    subst hwx
    by_cases hlt : j < N
    · have HJL := Aside0.mk hlt
      have hdj : decide ((j : Int) < (N : Int)) = true := decide_eq_true (by omega)
      have hjc : j < CV.length := by rw [← HNL.out]; exact hlt
      obtain ⟨g, cap, hV2, _, _, _⟩ := Kd.R_form HK.out (by rw [List.length_map]; omega)
      injection hV2 with hA2 hN2 hc2
      subst hA2
      clear hN2 hc2
      have hCK := Kd.F_now (Kd.F_step HF.out (fun k hk hkl => HCx.out.block k hkl (fun hd => by have := HLT.out k hd; omega)))
      obtain ⟨ad, had, hcell⟩ := at_k hCK (j : Int) (by omega) (by omega)
      injection had with had
      subst had
      rw [addr_at] at hcell
      have hkey : Go.Proofs.YtkgjcmolmogpdaaW.PrintWords.rd (CV.map (·.1)) (j : Int) = CV[j].1 := by unfold Go.Proofs.YtkgjcmolmogpdaaW.PrintWords.rd; simp [List.getD_eq_getElem?_getD, hjc]
      rw [hkey] at hcell
      have hmem : CV[j] ∈ CV := List.getElem_mem hjc
      have hget : CV[j]? = some CV[j] := List.getElem?_eq_getElem hjc
      obtain ⟨⟨i, U⟩, hp⟩ : ∃ p : Int × Value, p = CV[j] := ⟨_, rfl⟩
      rw [← hp] at hcell hmem hget
      obtain ⟨gi0, gi1⟩ := HDx.out.kr _ hmem
      obtain ⟨k, hk⟩ : ∃ k : Nat, i = k := ⟨i.toNat, by dsimp only at gi0; omega⟩
      subst hk
      dsimp only at gi0 gi1 hcell
      obtain ⟨AU, nU, cU, hU⟩ := HDx.out.sc _ hmem
      dsimp only at hU
      subst hU
      have HGET := Aside0.mk hget
      have HGA := Aside0.mk (getA_mem HDx.out.ks hmem)
      have HI := Aside0.mk (show -9223372036854775808 ≤ (k : Int) ∧ (k : Int) ≤ 9223372036854775807 from ⟨by omega, by omega⟩)
      clear hkey hmem hget hp hCK hjc
      obtain ⟨c0, c1, c2, c3, c4, c5, c6⟩ := HDx.out.cells
      by_cases hjm : j < m
      · have hdm : decide ((j : Int) < (m : Int)) = true := decide_eq_true (by omega)
        have hCL := Kd.F_now (Kd.F_step HR1.out (fun q hq hql => HCx.out.block q hql hq))
        obtain ⟨ad2, had2, hcell2⟩ := at_k hCL (j : Int) (by omega) (by omega)
        subst had2
        rw [Int.toNat_natCast] at hcell2
        have hfe : Go.Proofs.YtkgjcmolmogpdaaW.PrintWords.rd fl (j : Int) = fl.getD j 0 := by unfold Go.Proofs.YtkgjcmolmogpdaaW.PrintWords.rd; rw [Int.toNat_natCast]
        rw [hfe] at hcell2
        obtain ⟨f, hf⟩ : ∃ f, f = fl.getD j 0 := ⟨_, rfl⟩
        rw [← hf] at hcell2
        have HFV := Aside0.mk hf
        clear hfe hf hCL
        by_cases hf0 : f = 0
        · subst hf0
          go_wp2_with fail
          go_roundw
          case rel => exact ⟨j + 1, by go_num, ⟨hlt⟩, ⟨by rw [crashN_0 HFV.out.symm]; exact HDx.out⟩, HCx⟩
          case measure => have := HJL.out; simp only [intOf]; omega
        · have hfd : (f != 0) = true := by simpa using hf0
          have HF0 := Aside0.mk hf0
          have HM := Aside0.mk HDx.out.hm
          go_wp2_with fail
          apply wp_region_facts 11 [RF.val _, RF.val _, RF.val _, RF.val _, RF.val _, RF.val _, RF.val _, RF.val _, RF.val _, RF.val _, RF.val _]
          case hm => kernel_rfl
          case hB => kernel_rfl
          simp only [List.take_succ_cons, List.take_zero, List.zip_cons_cons, List.zip_nil_left]
          (first | refine wpF_val rfl (fun w' hE hD => by unfold Yld; go_simp; exact ⟨Ext.refl _, rfl⟩) ?_ | refine wpF_valg (by rfl) (fun w' hE hD => by unfold Yld; go_simp; exact ⟨Ext.refl _, rfl⟩) ?_)
          (try simp only [Act.put, List.setIfInBounds_toArray, List.set_cons_zero, List.set_cons_succ])
          (first | refine wpF_val rfl (fun w' hE hD => by unfold Yld; go_simp; exact ⟨Ext.refl _, rfl⟩) ?_ | refine wpF_valg (by rfl) (fun w' hE hD => by unfold Yld; go_simp; exact ⟨Ext.refl _, rfl⟩) ?_)
          (try simp only [Act.put, List.setIfInBounds_toArray, List.set_cons_zero, List.set_cons_succ])
          (first | refine wpF_val rfl (fun w' hE hD => by unfold Yld; go_simp; exact ⟨Ext.refl _, rfl⟩) ?_ | refine wpF_valg (by rfl) (fun w' hE hD => by unfold Yld; go_simp; exact ⟨Ext.refl _, rfl⟩) ?_)
          (try simp only [Act.put, List.setIfInBounds_toArray, List.set_cons_zero, List.set_cons_succ])
          (first | refine wpF_val rfl (fun w' hE hD => by have hc0 := Ext.cell hE c0; unfold Yld; go_simp; exact ⟨Ext.refl _, rfl⟩) ?_ | refine wpF_valg (by rfl) (fun w' hE hD => by have hc0 := Ext.cell hE c0; unfold Yld; go_simp; exact ⟨Ext.refl _, rfl⟩) ?_)
          (try simp only [Act.put, List.setIfInBounds_toArray, List.set_cons_zero, List.set_cons_succ])
          (first | refine wpF_val rfl (fun w' hE hD => by unfold Yld; go_simp; exact ⟨Ext.refl _, rfl⟩) ?_ | refine wpF_valg (by rfl) (fun w' hE hD => by unfold Yld; go_simp; exact ⟨Ext.refl _, rfl⟩) ?_)
          (try simp only [Act.put, List.setIfInBounds_toArray, List.set_cons_zero, List.set_cons_succ])
          (first | refine wpF_val rfl (fun w' hE hD => by unfold Yld; go_simp; exact ⟨Ext.refl _, rfl⟩) ?_ | refine wpF_valg (by rfl) (fun w' hE hD => by unfold Yld; go_simp; exact ⟨Ext.refl _, rfl⟩) ?_)
          (try simp only [Act.put, List.setIfInBounds_toArray, List.set_cons_zero, List.set_cons_succ])
          (first | refine wpF_val rfl (fun w' hE hD => by unfold Yld; go_simp; exact ⟨Ext.refl _, rfl⟩) ?_ | refine wpF_valg (by rfl) (fun w' hE hD => by unfold Yld; go_simp; exact ⟨Ext.refl _, rfl⟩) ?_)
          (try simp only [Act.put, List.setIfInBounds_toArray, List.set_cons_zero, List.set_cons_succ])
          (first | refine wpF_val rfl (fun w' hE hD => by unfold Yld; go_simp; exact ⟨Ext.refl _, rfl⟩) ?_ | refine wpF_valg (by rfl) (fun w' hE hD => by unfold Yld; go_simp; exact ⟨Ext.refl _, rfl⟩) ?_)
          (try simp only [Act.put, List.setIfInBounds_toArray, List.set_cons_zero, List.set_cons_succ])
          (first | refine wpF_val rfl (fun w' hE hD => by have hc1 := Ext.cell hE c1; unfold Yld; go_simp; exact ⟨Ext.refl _, rfl⟩) ?_ | refine wpF_valg (by rfl) (fun w' hE hD => by have hc1 := Ext.cell hE c1; unfold Yld; go_simp; exact ⟨Ext.refl _, rfl⟩) ?_)
          (try simp only [Act.put, List.setIfInBounds_toArray, List.set_cons_zero, List.set_cons_succ])
          (first | refine wpF_val rfl (fun w' hE hD => by unfold Yld; go_simp; exact ⟨Ext.refl _, rfl⟩) ?_ | refine wpF_valg (by rfl) (fun w' hE hD => by unfold Yld; go_simp; exact ⟨Ext.refl _, rfl⟩) ?_)
          (try simp only [Act.put, List.setIfInBounds_toArray, List.set_cons_zero, List.set_cons_succ])
          (first | refine wpF_val rfl (fun w' hE hD => Yld_look1 (.tmp 33) (.tmp 34) rfl rfl ((Chg.of_ext hE (fun _ => False)).map HM.out (fun h => h)) (k : Int) rfl HI.out _ HGA.out) ?_ | refine wpF_valg (by rfl) (fun w' hE hD => Yld_look1 (.tmp 33) (.tmp 34) rfl rfl ((Chg.of_ext hE (fun _ => False)).map HM.out (fun h => h)) (k : Int) rfl HI.out _ HGA.out) ?_)
          (try simp only [Act.put, List.setIfInBounds_toArray, List.set_cons_zero, List.set_cons_succ])
          refine wpF_nil fun w3 hE3 hA => ?_
          simp only [List.drop_succ_cons, List.drop_zero]
          have HD3 := Aside0.mk (HDx.out.ext hE3)
          have HC3 := Aside0.mk (HCx.out.ext hE3)
          clear hA hE3 HDx HCx HM c0 c1 c2 c3 c4 c5 c6 hcell hcell2
          have hkl : k < (crashN LV CV fl j).length := by rw [HD3.out.ll]; omega
          have hvL := HD3.out.hl.cell k (v := (crashN LV CV fl j)[k]) (by simp [hkl])
          have hfL := HD3.out.hl.free k
          obtain ⟨AL, nL, cL, hLV⟩ := HD3.out.sl _ (List.getElem_mem hkl)
          rw [hLV] at hvL
          clear hLV hkl
          go_wp2_with fail
          have HD5 := Aside0.mk (show DV (w3.setCell ⟨bl, k, none⟩ (.slice AU nU cU)) bd bl bc br n (crashN LV CV fl (j + 1)) CV ar lf of wt rd by rw [crashN_1 (by rw [← HFV.out]; exact HF0.out) HGET.out]; exact HD3.out.setL k _ ⟨_, _, _, rfl⟩)
          have HC5 := Aside0.mk (HC3.out.trans (Chg.of_wrote (Wrote.setCell w3 bl k (.slice AU nU cU)) (.inr (.inl rfl))))
          clear hvL hfL
          go_roundw
          case rel => exact ⟨j + 1, by go_num, ⟨hlt⟩, HD5, HC5⟩
          case measure => have := HJL.out; simp only [intOf]; omega
      · have hdm : decide ((j : Int) < (m : Int)) = false := decide_eq_false (by omega)
        have HFV := Aside0.mk (show fl.getD j 0 = 0 by rw [List.getD_eq_getElem?_getD, List.getElem?_eq_none (by rw [← HN.out]; omega)]; rfl)
        go_wp2_with fail
        go_roundw
        case rel => exact ⟨j + 1, by go_num, ⟨hlt⟩, ⟨by rw [crashN_0 HFV.out]; exact HDx.out⟩, HCx⟩
        case measure => have := HJL.out; simp only [intOf]; omega
    · obtain rfl : j = N := by omega
      have HD4 := Aside0.mk (show DV wx bd bl bc br n (crashV LV CV fl) CV ar lf of wt rd by unfold crashV; rw [← HNL.out]; exact HDx.out)
      have HC4 := Aside0.mk (HC1.out.trans HCx.out)
      obtain ⟨c0, c1, c2, c3, c4, c5, c6⟩ := HD4.out.cells
      clear HDx HCx HC1
      go_wp2_with (first | ((with_reducible refine gate_clear rfl ?_); refine clear_at rfl _ rfl rfl HD4.out.hm ?_) | fail)
      intro w5 hM hT
      have HD5 := Aside0.mk (HD4.out.setM hT hM List.Pairwise.nil (fun p hp => by cases hp) (fun p hp => by cases hp))
      have HC5 := Aside0.mk (HC4.out.trans (HD4.out.maps hT))
      clear hM hT c0 c1 c2 c3 c4 c5 c6 HD4 HC4
      obtain ⟨c0, c1, c2, c3, c4, c5, c6⟩ := HD5.out.cells
      have f2 := HD5.out.hd.free 2
      have f4 := HD5.out.hd.free 4
      have HW := Aside0.mk ((Wrote.setCell w5 bd 2 (.bool false)).trans (Wrote.setCell (w5.setCell ⟨bd, 2, none⟩ (.bool false)) bd 4 (.bool false)))
      have HB := Aside0.mk (show Blk ((w5.setCell ⟨bd, 2, none⟩ (.bool false)).setCell ⟨bd, 4, none⟩ (.bool false)) bd (dskC bl bc br n false lf false wt).toArray 72 by simpa [dskC] using (HD5.out.hd.set 2 (.bool false)).set 4 (.bool false))
      go_wp2
      go_end0
      exact ⟨rfl, HD5.out.set _ _ _ _ HW.out HB.out, HC5.out.trans (Chg.of_wrote HW.out (.inl rfl))⟩
end Go.Proofs.Ytkgjcmolmogpdaa.By
