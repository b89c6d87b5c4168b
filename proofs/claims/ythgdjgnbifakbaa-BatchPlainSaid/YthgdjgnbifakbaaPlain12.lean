/- BatchPlain: bytes tell summaries apart; a cut is refused, and a byte more. -/
import Derived.Test.YthgdjgnbifakbaaPlainA
namespace Go.Proofs.Ythgdjgnbifakbaa.By
open Go.RowKit Go.Proofs.Ythgdjgnbifakbaa.Reg Go.Proofs.YthgdjgnbifakbaaW.PrintWords Go.Proofs.YthgdjgnbifakbaaW.PrintLast Go.Proofs.YthgdjgnbifakbaaW.PrintMore
set_option linter.unusedVariables false
set_option linter.unusedSimpArgs false


theorem copy_at (w : World) (A : Option Addr) (c n : Nat) (xs : List Int) (hn : n = xs.length) (hr : Kd.C kb w A n xs) (hc : n ≤ c) (hl : n < 140737488355328) : Calls Try.prog 43 #[.slice A n c] w fun e w' => ∃ V, e = .returned V ∧ NB w' w.heap.size V xs ∧ Ext w w' := by
  subst hn
  exact copy_calls w A c xs hr hc hl

set_option maxRecDepth 100000 in
set_option maxHeartbeats 16000000 in
theorem plain_calls (w : World) (A1 A2 : Option Addr) (c1 n1 c2 n2 : Nat) (q1 q2 : Smy) (r x : Int) (hn1 : n1 = q1.2.2.2.length) (hr1 : Kd.C kTh w A1 n1 q1.2.2.2) (hc1 : n1 ≤ c1) (hq1 : Smy.ok q1) (hn2 : n2 = q2.2.2.2.length) (hr2 : Kd.C kTh w A2 n2 q2.2.2.2) (hc2 : n2 ≤ c2) (hq2 : Smy.ok q2)
    (hrb : -9223372036854775808 ≤ r ∧ r ≤ 9223372036854775807) (hxb : 0 ≤ x ∧ x < 256) :
    Calls Try.prog 13 #[smyV q1.1 q1.2.1 q1.2.2.1 (.slice A1 n1 c1), smyV q2.1 q2.2.1 q2.2.2.1 (.slice A2 n2 c2), .int .i64 r, .int .u8 x] w fun e w' => e = .returned (.bool true) ∧ Ext w w' := by
  obtain ⟨st1, pr1, nx1, es1⟩ := q1
  obtain ⟨st2, pr2, nx2, es2⟩ := q2
  dsimp only at *
  have HQ1 := Aside0.mk hq1
  have HQ2 := Aside0.mk hq2
  have HN1 := Aside0.mk hn1
  have HN2 := Aside0.mk hn2
  have hp1 : pr1.length = 32 := hq1.2.1.1
  have hp2 : pr2.length = 32 := hq2.2.1.1
  have hK1 := (Blk.new w (smyC st1 pr1 nx1 (.slice A1 n1 c1)).toArray 58).alloc (.cells (smyC st2 pr2 nx2 (.slice A2 n2 c2)).toArray 58)
  have hK2 := Blk.new (w.alloc (.cells (smyC st1 pr1 nx1 (.slice A1 n1 c1)).toArray 58)) (smyC st2 pr2 nx2 (.slice A2 n2 c2)).toArray 58
  rw [show (w.alloc (.cells (smyC st1 pr1 nx1 (.slice A1 n1 c1)).toArray 58)).heap.size = w.heap.size + 1 from size_alloc _ _] at hK2
  have HE := Aside0.mk (((Ext.refl w).alloc (.cells (smyC st1 pr1 nx1 (.slice A1 n1 c1)).toArray 58)).alloc (.cells (smyC st2 pr2 nx2 (.slice A2 n2 c2)).toArray 58))
  have HC1 := Aside0.mk hr1
  have HC2 := Aside0.mk hr2
  have ca := (smyBlk hK1 hp1).2.2.2
  have cb := (smyBlk hK2 hp2).2.2.2
  have HIS1 := Aside0.mk (fun V => show (Try.prog.info? 58).map (·.size) = some (smyC st1 pr1 nx1 V).length by rw [smyC_len hp1]; kernel_rfl)
  have HIS2 := Aside0.mk (fun V => show (Try.prog.info? 58).map (·.size) = some (smyC st2 pr2 nx2 V).length by rw [smyC_len hp2]; kernel_rfl)
  have HK1 := Aside0.mk hK1
  have HK2 := Aside0.mk hK2
  have HRW1 := Aside0.mk hK1.whole
  have HRW2 := Aside0.mk hK2.whole
  have HRB := Aside0.mk hrb
  have HXB := Aside0.mk hxb
  obtain ⟨F1, hF1⟩ : ∃ F, F = checkF st1 nx1 es1 := ⟨_, rfl⟩
  obtain ⟨F2, hF2⟩ : ∃ F, F = checkF st2 nx2 es2 := ⟨_, rfl⟩
  have HF1 := Aside0.mk hF1
  have HF2 := Aside0.mk hF2
  obtain ⟨X1, hX1⟩ : ∃ X, X = outP st1 pr1 nx1 es1 := ⟨_, rfl⟩
  obtain ⟨X2, hX2⟩ : ∃ X, X = outP st2 pr2 nx2 es2 := ⟨_, rfl⟩
  have HX1 := Aside0.mk hX1
  have HX2 := Aside0.mk hX2
  have HP1 := Aside0.mk (fun (W : World) (h : Ext w W) => put_calls W st1 nx1 pr1 A1 c1 n1 es1 F1 hF1 (Kd.C_below hr1 h) hc1 hp1 hq1.2.2.2)
  have HP2 := Aside0.mk (fun (W : World) (h : Ext w W) => put_calls W st2 nx2 pr2 A2 c2 n2 es2 F2 hF2 (Kd.C_below hr2 h) hc2 hp2 hq2.2.2.2)
  rw [← hX1] at HP1
  rw [← hX2] at HP2
  clear hq1 hq2 hn1 hn2 hr1 hr2 hK1 hK2 hrb hxb hF1 hF2 hX1 hX2
  unfold smyV
  by_cases hb1 : (300 : Int) < n1
  · go_enter Try.func13, Try.ntmps13
    go_wp2_with fail
    refine (works_calls _).mono ?_
    rintro e w1 ⟨rfl, hE⟩
    go_wp2_with fail
    go_ret
    exact ⟨rfl, HE.out.trans hE⟩
  by_cases hb2 : (300 : Int) < n2
  · go_enter Try.func13, Try.ntmps13
    go_wp2_with fail
    refine (works_calls _).mono ?_
    rintro e w1 ⟨rfl, hE⟩
    go_wp2_with fail
    go_ret
    exact ⟨rfl, HE.out.trans hE⟩
  go_enter Try.func13, Try.ntmps13
  go_wp2_with (first | ((with_reducible refine gate_load (ty := 58) rfl ?_); refine load_at rfl 58 _ rfl w.heap.size 0 rfl (smyC st1 pr1 nx1 (.slice A1 n1 c1)) _ HRW1.out Try.underlying58 rfl (HIS1.out _) ?_) | fail)
  refine (HP1.out _ HE.out).mono ?_
  rintro e w3 ⟨V, rfl, hN, hE⟩
  obtain ⟨A9, c9, hV, h9c, h9⟩ := hN.reads
  obtain ⟨k1, hk1⟩ : ∃ k, k = X1.length := ⟨_, rfl⟩
  rw [← hk1] at hV h9c h9
  subst hV
  have HK1' := Aside0.mk hk1
  have H9 := Aside0.mk h9
  replace HK1 := Aside0.mk (HK1.out.ext hE)
  replace HK2 := Aside0.mk (HK2.out.ext hE)
  replace HE := Aside0.mk (HE.out.trans hE)
  clear hN hE h9 hk1 HRW1 HRW2 ca cb
  have HRW2 := Aside0.mk HK2.out.whole
  go_wp2_with (first | ((with_reducible refine gate_load (ty := 58) rfl ?_); refine load_at rfl 58 _ rfl (w.heap.size + 1) 0 rfl (smyC st2 pr2 nx2 (.slice A2 n2 c2)) _ HRW2.out Try.underlying58 rfl (HIS2.out _) ?_) | fail)
  refine (HP2.out _ HE.out).mono ?_
  rintro e w4 ⟨V, rfl, hN, hE⟩
  obtain ⟨A11, c11, hV, h11c, h11⟩ := hN.reads
  obtain ⟨k2, hk2⟩ : ∃ k, k = X2.length := ⟨_, rfl⟩
  rw [← hk2] at hV h11c h11
  subst hV
  have HK2' := Aside0.mk hk2
  have H11 := Aside0.mk h11
  replace H9 := Aside0.mk (Kd.C_below H9.out hE)
  replace HK1 := Aside0.mk (HK1.out.ext hE)
  replace HK2 := Aside0.mk (HK2.out.ext hE)
  replace HE := Aside0.mk (HE.out.trans hE)
  clear hN hE h11 hk2 HRW2
  by_cases z1 : F1 = 0
  case neg =>
    go_wp2_with fail
    refine (works_calls _).mono ?_
    rintro e w5 ⟨rfl, hE⟩
    go_wp2_with fail
    go_ret
    exact ⟨rfl, HE.out.trans hE⟩
  subst z1
  by_cases z2 : F2 = 0
  case neg =>
    go_wp2_with fail
    refine (works_calls _).mono ?_
    rintro e w5 ⟨rfl, hE⟩
    go_wp2_with fail
    go_ret
    exact ⟨rfl, HE.out.trans hE⟩
  subst z2
  have HL1 := Aside0.mk (show k1 = 56 + 56 * n1 by rw [HK1'.out, HX1.out]; unfold outP; rw [if_pos HF1.out.symm, smyB_len HQ1.out.2.1.1 HQ1.out.2.2.2, HN1.out])
  have HX := Aside0.mk (show X1 = smyB st1 pr1 nx1 es1 by rw [HX1.out]; unfold outP; rw [if_pos HF1.out.symm])
  have HN16 := Aside0.mk (show n1 ≤ 16 by rw [HN1.out]; exact checkF_le HF1.out.symm)
  have hk56 : 56 ≤ k1 := by have := HL1.out; omega
  have hk1k : k1 ≤ 1000 := by have := HL1.out; have := HN16.out; omega
  have HXB1 := Aside0.mk (show isB X1 by rw [HX.out]; exact smyB_isB HQ1.out.2.1.2 HQ1.out.2.2.2)
  obtain ⟨p, hp⟩ : ∃ p, p = pickT r k1 := ⟨_, rfl⟩
  have hpr := pickT_range r k1 (by omega)
  rw [← hp] at hpr
  obtain ⟨hp0, hp1'⟩ := hpr
  obtain ⟨i0, hi0, _, hsz, _⟩ := info_parts PPackPuts.info5
  have hcut := cut_to (P := Try.prog) 22 5 .i64 Try.underlying22 hi0 A9 k1 c9 p hp0 (by omega) h9c
  have HPK := Aside0.mk (pick_calls w4 r k1 p HRB.out.1 HRB.out.2 (by omega) hp)
  obtain ⟨m, hm⟩ : ∃ m, m = p.toNat := ⟨_, rfl⟩
  rw [← hm] at hcut
  have HG4 := Aside0.mk (show gE (X1.take m) = 4 by rw [HX.out]; exact get_less st1 nx1 pr1 es1 HQ1.out.1 HQ1.out.2.2.1 HQ1.out.2.1.1 HQ1.out.2.1.2 HQ1.out.2.2.2 (by rw [← HN1.out]; have := HN16.out; omega) m (by rw [← HN1.out]; have := HL1.out; omega))
  have HZ4 := Aside0.mk (o_zero (bs := X1.take m) (by rw [HG4.out]; decide))
  have HGC := Aside0.mk (fun (W : World) (h : Ext w4 W) => get_calls W A9 c9 m (X1.take m) (by rw [List.length_take, ← HK1'.out]; omega) (C_cut (Kd.C_below H9.out h) m (by omega)) (by omega) (HXB1.out.take m) (by omega))
  rw [HG4.out, HZ4.out.1, HZ4.out.2.1, HZ4.out.2.2.1, HZ4.out.2.2.2] at HGC
  clear hi0 hsz hp
  go_wp2_with fail
  refine HPK.out.mono ?_
  rintro e w5 ⟨rfl, hE5⟩
  have HE5 := Aside0.mk hE5
  clear hE5
  go_wp2_with fail
  (try rw [← hm])
  refine (HGC.out w5 HE5.out).mono ?_
  rintro e w6 ⟨V, rfl, hR, hE⟩
  obtain ⟨AZ, cZ, hV, _, _⟩ := EB.reads hR
  obtain ⟨nZ, hnZ⟩ : ∃ n, n = ([] : List Th).length := ⟨_, rfl⟩
  rw [← hnZ] at hV
  subst hV
  have HE6 := Aside0.mk (HE5.out.trans hE)
  have HISZ := Aside0.mk (fun V => show (Try.prog.info? 58).map (·.size) = some (smyC 0 zero32 0 V).length by rw [smyC_len zero32_length]; kernel_rfl)
  have HSSZ := Aside0.mk (fun V => show #[Value.int .i64 0, Value.int .u8 0, Value.int .u8 0, Value.int .u8 0, Value.int .u8 0, Value.int .u8 0, Value.int .u8 0, Value.int .u8 0, Value.int .u8 0, Value.int .u8 0, Value.int .u8 0, Value.int .u8 0, Value.int .u8 0, Value.int .u8 0, Value.int .u8 0, Value.int .u8 0, Value.int .u8 0, Value.int .u8 0, Value.int .u8 0, Value.int .u8 0, Value.int .u8 0, Value.int .u8 0, Value.int .u8 0, Value.int .u8 0, Value.int .u8 0, Value.int .u8 0, Value.int .u8 0, Value.int .u8 0, Value.int .u8 0, Value.int .u8 0, Value.int .u8 0, Value.int .u8 0, Value.int .u8 0, Value.int .i64 0, Value.slice none 0 0].size = (smyC 0 zero32 0 V).length by rw [smyC_len zero32_length]; rfl)
  clear hR hE hnZ HGC HPK hcut HE5
  go_wp2_with (first | ((with_reducible refine gate_store (ty := 58) rfl ?_); (refine store_at rfl 58 _ _ rfl w6.heap.size (smyC 0 zero32 0 (.slice AZ nZ cZ)) rfl rfl #[Value.int .i64 0, Value.int .u8 0, Value.int .u8 0, Value.int .u8 0, Value.int .u8 0, Value.int .u8 0, Value.int .u8 0, Value.int .u8 0, Value.int .u8 0, Value.int .u8 0, Value.int .u8 0, Value.int .u8 0, Value.int .u8 0, Value.int .u8 0, Value.int .u8 0, Value.int .u8 0, Value.int .u8 0, Value.int .u8 0, Value.int .u8 0, Value.int .u8 0, Value.int .u8 0, Value.int .u8 0, Value.int .u8 0, Value.int .u8 0, Value.int .u8 0, Value.int .u8 0, Value.int .u8 0, Value.int .u8 0, Value.int .u8 0, Value.int .u8 0, Value.int .u8 0, Value.int .u8 0, Value.int .u8 0, Value.int .i64 0, Value.slice none 0 0] 58 (Blk.new w6 _ 58) (HSSZ.out _) (HISZ.out _) (smyC_one _ _ _ _ _ _) ?_)) | fail)
  intro w7 hW hB
  have HE7 := Aside0.mk (HE6.out.trans (hW.ext ((Ext.refl w6).alloc _) (Nat.le_refl _)))
  have HEW7 := HE7
  clear hW hB HE6
  go_wp2_with fail
  refine (copy_at w7 A9 c9 k1 X1 HK1'.out (Kd.C_below H9.out HE7.out) h9c (by omega)).mono ?_
  rintro e w8 ⟨V8, rfl, hV8, hE8⟩
  have HV8 := Aside0.mk hV8
  have HX8 := Aside0.mk hE8
  have HE8 := Aside0.mk (HE7.out.trans hE8)
  clear hV8 hE8 HE7
  go_wp2_with (at_builtin; go_loud (refine Kd.R_append kb (w0 := w7) w7.heap.size rfl (.tmp 57) (.tmp 59) 22 5 _ 1 rfl Try.underlying22 PPackPuts.info5 rfl (by decide) (by decide) V8 X1 x [.int .u8 x] (fun _ => True) (fun _ => False) rfl rfl ?c1 (fun _ h => h.elim) (fun _ _ => trivial) HV8.out HX8.out ?c3 ?c4 ?_))
  case c1 => exact rfl
  case c3 => exact HX8.out.size
  case c4 => rw [← HK1'.out]; omega
  intro v9 w9 hR9 hB9 hg9 hat9
  replace hR9 : NB w9 w7.heap.size v9 (X1 ++ [x]) := hR9
  obtain ⟨Y, d, rfl, hd, hCY⟩ := hR9.reads
  have h7 : Ext w7 w9 := hB9
  obtain ⟨k3, hk3⟩ : ∃ k, k = (X1 ++ [x]).length := ⟨_, rfl⟩
  rw [← hk3] at hd hCY
  rw [← hk3]
  have hk3b : k3 ≤ 1001 := by rw [hk3, List.length_append, ← HK1'.out, List.length_singleton]; omega
  have HK3 := Aside0.mk hk3
  have HCY := Aside0.mk hCY
  have HE9 := Aside0.mk (HEW7.out.trans h7)
  have HG3 := Aside0.mk (show gE (X1 ++ [x]) = 3 by rw [HX.out]; exact get_more st1 nx1 pr1 es1 x [] HQ1.out.1 HQ1.out.2.2.1 HQ1.out.2.1.1 HQ1.out.2.2.2 (by rw [← HN1.out]; have := HN16.out; omega))
  have HZ3 := Aside0.mk (o_zero (bs := X1 ++ [x]) (by rw [HG3.out]; decide))
  have HGM := Aside0.mk (get_calls w9 Y d k3 (X1 ++ [x]) HK3.out HCY.out hd (HXB1.out.app (fun z hz => by rw [List.mem_singleton.1 hz]; exact HXB.out)) (by omega))
  rw [HG3.out, HZ3.out.1, HZ3.out.2.1, HZ3.out.2.2.1, HZ3.out.2.2.2] at HGM
  clear hR9 hB9 hg9 hat9 hCY h7 HV8 HX8 HE8 hk3
  go_wp2_with fail
  refine HGM.out.mono ?_
  rintro e wa ⟨V, rfl, hR, hE⟩
  obtain ⟨AY, cY, hV, _, _⟩ := EB.reads hR
  obtain ⟨nY, hnY⟩ : ∃ n, n = ([] : List Th).length := ⟨_, rfl⟩
  rw [← hnY] at hV
  subst hV
  have HEa := Aside0.mk (HE9.out.trans hE)
  clear hR hE hnY HGM HE9 HCY
  go_wp2_with (first | ((with_reducible refine gate_store (ty := 58) rfl ?_); (refine store_at rfl 58 _ _ rfl wa.heap.size (smyC 0 zero32 0 (.slice AY nY cY)) rfl rfl #[Value.int .i64 0, Value.int .u8 0, Value.int .u8 0, Value.int .u8 0, Value.int .u8 0, Value.int .u8 0, Value.int .u8 0, Value.int .u8 0, Value.int .u8 0, Value.int .u8 0, Value.int .u8 0, Value.int .u8 0, Value.int .u8 0, Value.int .u8 0, Value.int .u8 0, Value.int .u8 0, Value.int .u8 0, Value.int .u8 0, Value.int .u8 0, Value.int .u8 0, Value.int .u8 0, Value.int .u8 0, Value.int .u8 0, Value.int .u8 0, Value.int .u8 0, Value.int .u8 0, Value.int .u8 0, Value.int .u8 0, Value.int .u8 0, Value.int .u8 0, Value.int .u8 0, Value.int .u8 0, Value.int .u8 0, Value.int .i64 0, Value.slice none 0 0] 58 (Blk.new wa _ 58) (HSSZ.out _) (HISZ.out _) (smyC_one _ _ _ _ _ _) ?_)) | fail)
  intro wb hW hB
  have HEb := Aside0.mk (HEa.out.trans (hW.ext ((Ext.refl wa).alloc _) (Nat.le_refl _)))
  clear hW hB HEa
  replace HK1 := Aside0.mk (HK1.out.ext HEb.out)
  replace HK2 := Aside0.mk (HK2.out.ext HEb.out)
  replace H9 := Aside0.mk (Kd.C_below H9.out HEb.out)
  replace H11 := Aside0.mk (Kd.C_below H11.out HEb.out)
  have HRW1 := Aside0.mk HK1.out.whole
  have HRW2 := Aside0.mk HK2.out.whole
  have HC1b := Aside0.mk (Kd.C_below HC1.out (HE.out.trans HEb.out))
  have HC2b := Aside0.mk (Kd.C_below HC2.out (HE.out.trans HEb.out))
  obtain ⟨D, hD⟩ : ∃ D, D = decide (X1 = X2) := ⟨_, rfl⟩
  have HD := Aside0.mk hD
  have HXX := Aside0.mk (show X2 = smyB st2 pr2 nx2 es2 by rw [HX2.out]; unfold outP; rw [if_pos HF2.out.symm])
  have HDD := Aside0.mk (show D = decide (st1 = st2 ∧ pr1 = pr2 ∧ nx1 = nx2 ∧ es1 = es2) by rw [HD.out, HX.out, HXX.out]; exact decide_eq_decide.2 (put_inj HQ1.out HQ2.out HF1.out.symm HF2.out.symm))
  have HDT := Aside0.mk (show (D == D) = true by simp)
  clear hD
  cases D with
  | false =>
    go_wp2_with fail
    apply wp_region_facts 19 [RF.val _, RF.val _, RF.val _, RF.val _, RF.val _, RF.val _, RF.val _, RF.val _, RF.val _, RF.val _, RF.val _, RF.val _, RF.val _, RF.val _, RF.val _, RF.val _, RF.val _, RF.val _, RF.val _]
    case hm => kernel_rfl
    case hB => kernel_rfl
    simp only [List.take_succ_cons, List.take_zero, List.zip_cons_cons, List.zip_nil_left]
    (first | refine wpF_val rfl (fun w' hE hD => by unfold Yld; go_simp; exact ⟨Ext.refl _, rfl⟩) ?_ | refine wpF_valg (by rfl) (fun w' hE hD => by unfold Yld; go_simp; exact ⟨Ext.refl _, rfl⟩) ?_)
    (try simp only [Act.put, List.setIfInBounds_toArray, List.set_cons_zero, List.set_cons_succ])
    (first | refine wpF_val rfl (fun w' hE hD => by unfold Yld; go_simp; exact ⟨Ext.refl _, rfl⟩) ?_ | refine wpF_valg (by rfl) (fun w' hE hD => by unfold Yld; go_simp; exact ⟨Ext.refl _, rfl⟩) ?_)
    (try simp only [Act.put, List.setIfInBounds_toArray, List.set_cons_zero, List.set_cons_succ])
    (first | refine wpF_val rfl (fun w' hE hD => by unfold Yld; go_simp; exact (same_at w' A9 A11 c9 c11 X1 X2 _ HK1'.out HK2'.out HD.out (Kd.C_below H9.out hE) h9c (Kd.C_below H11.out hE) h11c (by rw [← HK1'.out]; omega)).mono fun e w2 h => ⟨_, h.1, h.2, rfl⟩) ?_ | refine wpF_valg (by rfl) (fun w' hE hD => by unfold Yld; go_simp; exact (same_at w' A9 A11 c9 c11 X1 X2 _ HK1'.out HK2'.out HD.out (Kd.C_below H9.out hE) h9c (Kd.C_below H11.out hE) h11c (by rw [← HK1'.out]; omega)).mono fun e w2 h => ⟨_, h.1, h.2, rfl⟩) ?_)
    (try simp only [Act.put, List.setIfInBounds_toArray, List.set_cons_zero, List.set_cons_succ])
    (first | refine wpF_val rfl (fun w' hE hD => Yld_load 58 (.tmp 4) rfl w.heap.size 0 rfl (smyC st1 pr1 nx1 (.slice A1 n1 c1)) _ (rangeAt_ext HRW1.out hE) Try.underlying58 rfl (HIS1.out _)) ?_ | refine wpF_valg (by rfl) (fun w' hE hD => Yld_load 58 (.tmp 4) rfl w.heap.size 0 rfl (smyC st1 pr1 nx1 (.slice A1 n1 c1)) _ (rangeAt_ext HRW1.out hE) Try.underlying58 rfl (HIS1.out _)) ?_)
    (try simp only [Act.put, List.setIfInBounds_toArray, List.set_cons_zero, List.set_cons_succ])
    (first | refine wpF_val rfl (fun w' hE hD => Yld_load 58 (.tmp 5) rfl (w.heap.size + 1) 0 rfl (smyC st2 pr2 nx2 (.slice A2 n2 c2)) _ (rangeAt_ext HRW2.out hE) Try.underlying58 rfl (HIS2.out _)) ?_ | refine wpF_valg (by rfl) (fun w' hE hD => Yld_load 58 (.tmp 5) rfl (w.heap.size + 1) 0 rfl (smyC st2 pr2 nx2 (.slice A2 n2 c2)) _ (rangeAt_ext HRW2.out hE) Try.underlying58 rfl (HIS2.out _)) ?_)
    (try simp only [Act.put, List.setIfInBounds_toArray, List.set_cons_zero, List.set_cons_succ])
    (first | refine wpF_val rfl (fun w' hE hD => by unfold Yld; go_simp; exact (sameS_calls w' A1 A2 c1 c2 n1 n2 st1 st2 nx1 nx2 pr1 pr2 es1 es2 HN1.out HN2.out (Kd.C_below HC1b.out hE) (Kd.C_below HC2b.out hE) HQ1.out.2.2.2 HQ2.out.2.2.2 (by omega) HQ1.out.2.1.1 HQ2.out.2.1.1 HQ1.out.2.1.2 HQ2.out.2.1.2 _ HDD.out).mono fun e w2 h => ⟨_, h.1, h.2, rfl⟩) ?_ | refine wpF_valg (by rfl) (fun w' hE hD => by unfold Yld; go_simp; exact (sameS_calls w' A1 A2 c1 c2 n1 n2 st1 st2 nx1 nx2 pr1 pr2 es1 es2 HN1.out HN2.out (Kd.C_below HC1b.out hE) (Kd.C_below HC2b.out hE) HQ1.out.2.2.2 HQ2.out.2.2.2 (by omega) HQ1.out.2.1.1 HQ2.out.2.1.1 HQ1.out.2.1.2 HQ2.out.2.1.2 _ HDD.out).mono fun e w2 h => ⟨_, h.1, h.2, rfl⟩) ?_)
    (try simp only [Act.put, List.setIfInBounds_toArray, List.set_cons_zero, List.set_cons_succ])
    (first | refine wpF_val rfl (fun w' hE hD => by unfold Yld; go_simp; exact ⟨Ext.refl _, rfl⟩) ?_ | refine wpF_valg (by rfl) (fun w' hE hD => by unfold Yld; go_simp; exact ⟨Ext.refl _, rfl⟩) ?_)
    (try simp only [Act.put, List.setIfInBounds_toArray, List.set_cons_zero, List.set_cons_succ])
    (first | refine wpF_val rfl (fun w' hE hD => by unfold Yld; go_simp; exact ⟨Ext.refl _, rfl⟩) ?_ | refine wpF_valg (by rfl) (fun w' hE hD => by unfold Yld; go_simp; exact ⟨Ext.refl _, rfl⟩) ?_)
    (try simp only [Act.put, List.setIfInBounds_toArray, List.set_cons_zero, List.set_cons_succ])
    (first | refine wpF_val rfl (fun w' hE hD => by unfold Yld; go_simp; exact ⟨Ext.refl _, rfl⟩) ?_ | refine wpF_valg (by rfl) (fun w' hE hD => by unfold Yld; go_simp; exact ⟨Ext.refl _, rfl⟩) ?_)
    (try simp only [Act.put, List.setIfInBounds_toArray, List.set_cons_zero, List.set_cons_succ])
    (first | refine wpF_val rfl (fun w' hE hD => by unfold Yld; go_simp; exact ⟨Ext.refl _, rfl⟩) ?_ | refine wpF_valg (by rfl) (fun w' hE hD => by unfold Yld; go_simp; exact ⟨Ext.refl _, rfl⟩) ?_)
    (try simp only [Act.put, List.setIfInBounds_toArray, List.set_cons_zero, List.set_cons_succ])
    (first | refine wpF_val rfl (fun w' hE hD => by unfold Yld; go_simp; exact ⟨Ext.refl _, rfl⟩) ?_ | refine wpF_valg (by rfl) (fun w' hE hD => by unfold Yld; go_simp; exact ⟨Ext.refl _, rfl⟩) ?_)
    (try simp only [Act.put, List.setIfInBounds_toArray, List.set_cons_zero, List.set_cons_succ])
    (first | refine wpF_val rfl (fun w' hE hD => by unfold Yld; go_simp; exact ⟨Ext.refl _, rfl⟩) ?_ | refine wpF_valg (by rfl) (fun w' hE hD => by unfold Yld; go_simp; exact ⟨Ext.refl _, rfl⟩) ?_)
    (try simp only [Act.put, List.setIfInBounds_toArray, List.set_cons_zero, List.set_cons_succ])
    (first | refine wpF_val rfl (fun w' hE hD => by unfold Yld; go_simp; exact ⟨Ext.refl _, rfl⟩) ?_ | refine wpF_valg (by rfl) (fun w' hE hD => by unfold Yld; go_simp; exact ⟨Ext.refl _, rfl⟩) ?_)
    (try simp only [Act.put, List.setIfInBounds_toArray, List.set_cons_zero, List.set_cons_succ])
    (first | refine wpF_val rfl (fun w' hE hD => by unfold Yld; go_simp; exact ⟨Ext.refl _, rfl⟩) ?_ | refine wpF_valg (by rfl) (fun w' hE hD => by unfold Yld; go_simp; exact ⟨Ext.refl _, rfl⟩) ?_)
    (try simp only [Act.put, List.setIfInBounds_toArray, List.set_cons_zero, List.set_cons_succ])
    (first | refine wpF_val rfl (fun w' hE hD => by unfold Yld; go_simp; exact ⟨Ext.refl _, rfl⟩) ?_ | refine wpF_valg (by rfl) (fun w' hE hD => by unfold Yld; go_simp; exact ⟨Ext.refl _, rfl⟩) ?_)
    (try simp only [Act.put, List.setIfInBounds_toArray, List.set_cons_zero, List.set_cons_succ])
    (first | refine wpF_val rfl (fun w' hE hD => by unfold Yld; go_simp; exact ⟨Ext.refl _, rfl⟩) ?_ | refine wpF_valg (by rfl) (fun w' hE hD => by unfold Yld; go_simp; exact ⟨Ext.refl _, rfl⟩) ?_)
    (try simp only [Act.put, List.setIfInBounds_toArray, List.set_cons_zero, List.set_cons_succ])
    (first | refine wpF_val rfl (fun w' hE hD => by unfold Yld; go_simp; exact (works_calls w').mono fun e w2 h => ⟨_, h.1, h.2, rfl⟩) ?_ | refine wpF_valg (by rfl) (fun w' hE hD => by unfold Yld; go_simp; exact (works_calls w').mono fun e w2 h => ⟨_, h.1, h.2, rfl⟩) ?_)
    (try simp only [Act.put, List.setIfInBounds_toArray, List.set_cons_zero, List.set_cons_succ])
    (first | refine wpF_val rfl (fun w' hE hD => by unfold Yld; go_simp; exact ⟨Ext.refl _, rfl⟩) ?_ | refine wpF_valg (by rfl) (fun w' hE hD => by unfold Yld; go_simp; exact ⟨Ext.refl _, rfl⟩) ?_)
    (try simp only [Act.put, List.setIfInBounds_toArray, List.set_cons_zero, List.set_cons_succ])
    (first | refine wpF_val rfl (fun w' hE hD => by unfold Yld; go_simp; exact ⟨Ext.refl _, rfl⟩) ?_ | refine wpF_valg (by rfl) (fun w' hE hD => by unfold Yld; go_simp; exact ⟨Ext.refl _, rfl⟩) ?_)
    (try simp only [Act.put, List.setIfInBounds_toArray, List.set_cons_zero, List.set_cons_succ])
    refine wpF_nil fun wc hEc hA => ?_
    simp only [List.drop_succ_cons, List.drop_zero]
    have HEc := Aside0.mk ((HE.out.trans HEb.out).trans hEc)
    clear hA hEc
    go_wp2_with fail
    go_ret
    exact ⟨rfl, HEc.out⟩
  | true =>
    go_wp2_with fail
    apply wp_region_facts 19 [RF.val _, RF.val _, RF.val _, RF.val _, RF.val _, RF.val _, RF.val _, RF.val _, RF.val _, RF.val _, RF.val _, RF.val _, RF.val _, RF.val _, RF.val _, RF.val _, RF.val _, RF.val _, RF.val _]
    case hm => kernel_rfl
    case hB => kernel_rfl
    simp only [List.take_succ_cons, List.take_zero, List.zip_cons_cons, List.zip_nil_left]
    (first | refine wpF_val rfl (fun w' hE hD => by unfold Yld; go_simp; exact ⟨Ext.refl _, rfl⟩) ?_ | refine wpF_valg (by rfl) (fun w' hE hD => by unfold Yld; go_simp; exact ⟨Ext.refl _, rfl⟩) ?_)
    (try simp only [Act.put, List.setIfInBounds_toArray, List.set_cons_zero, List.set_cons_succ])
    (first | refine wpF_val rfl (fun w' hE hD => by unfold Yld; go_simp; exact ⟨Ext.refl _, rfl⟩) ?_ | refine wpF_valg (by rfl) (fun w' hE hD => by unfold Yld; go_simp; exact ⟨Ext.refl _, rfl⟩) ?_)
    (try simp only [Act.put, List.setIfInBounds_toArray, List.set_cons_zero, List.set_cons_succ])
    (first | refine wpF_val rfl (fun w' hE hD => by unfold Yld; go_simp; exact (same_at w' A9 A11 c9 c11 X1 X2 _ HK1'.out HK2'.out HD.out (Kd.C_below H9.out hE) h9c (Kd.C_below H11.out hE) h11c (by rw [← HK1'.out]; omega)).mono fun e w2 h => ⟨_, h.1, h.2, rfl⟩) ?_ | refine wpF_valg (by rfl) (fun w' hE hD => by unfold Yld; go_simp; exact (same_at w' A9 A11 c9 c11 X1 X2 _ HK1'.out HK2'.out HD.out (Kd.C_below H9.out hE) h9c (Kd.C_below H11.out hE) h11c (by rw [← HK1'.out]; omega)).mono fun e w2 h => ⟨_, h.1, h.2, rfl⟩) ?_)
    (try simp only [Act.put, List.setIfInBounds_toArray, List.set_cons_zero, List.set_cons_succ])
    (first | refine wpF_val rfl (fun w' hE hD => Yld_load 58 (.tmp 4) rfl w.heap.size 0 rfl (smyC st1 pr1 nx1 (.slice A1 n1 c1)) _ (rangeAt_ext HRW1.out hE) Try.underlying58 rfl (HIS1.out _)) ?_ | refine wpF_valg (by rfl) (fun w' hE hD => Yld_load 58 (.tmp 4) rfl w.heap.size 0 rfl (smyC st1 pr1 nx1 (.slice A1 n1 c1)) _ (rangeAt_ext HRW1.out hE) Try.underlying58 rfl (HIS1.out _)) ?_)
    (try simp only [Act.put, List.setIfInBounds_toArray, List.set_cons_zero, List.set_cons_succ])
    (first | refine wpF_val rfl (fun w' hE hD => Yld_load 58 (.tmp 5) rfl (w.heap.size + 1) 0 rfl (smyC st2 pr2 nx2 (.slice A2 n2 c2)) _ (rangeAt_ext HRW2.out hE) Try.underlying58 rfl (HIS2.out _)) ?_ | refine wpF_valg (by rfl) (fun w' hE hD => Yld_load 58 (.tmp 5) rfl (w.heap.size + 1) 0 rfl (smyC st2 pr2 nx2 (.slice A2 n2 c2)) _ (rangeAt_ext HRW2.out hE) Try.underlying58 rfl (HIS2.out _)) ?_)
    (try simp only [Act.put, List.setIfInBounds_toArray, List.set_cons_zero, List.set_cons_succ])
    (first | refine wpF_val rfl (fun w' hE hD => by unfold Yld; go_simp; exact (sameS_calls w' A1 A2 c1 c2 n1 n2 st1 st2 nx1 nx2 pr1 pr2 es1 es2 HN1.out HN2.out (Kd.C_below HC1b.out hE) (Kd.C_below HC2b.out hE) HQ1.out.2.2.2 HQ2.out.2.2.2 (by omega) HQ1.out.2.1.1 HQ2.out.2.1.1 HQ1.out.2.1.2 HQ2.out.2.1.2 _ HDD.out).mono fun e w2 h => ⟨_, h.1, h.2, rfl⟩) ?_ | refine wpF_valg (by rfl) (fun w' hE hD => by unfold Yld; go_simp; exact (sameS_calls w' A1 A2 c1 c2 n1 n2 st1 st2 nx1 nx2 pr1 pr2 es1 es2 HN1.out HN2.out (Kd.C_below HC1b.out hE) (Kd.C_below HC2b.out hE) HQ1.out.2.2.2 HQ2.out.2.2.2 (by omega) HQ1.out.2.1.1 HQ2.out.2.1.1 HQ1.out.2.1.2 HQ2.out.2.1.2 _ HDD.out).mono fun e w2 h => ⟨_, h.1, h.2, rfl⟩) ?_)
    (try simp only [Act.put, List.setIfInBounds_toArray, List.set_cons_zero, List.set_cons_succ])
    (first | refine wpF_val rfl (fun w' hE hD => by unfold Yld; go_simp; exact ⟨Ext.refl _, rfl⟩) ?_ | refine wpF_valg (by rfl) (fun w' hE hD => by unfold Yld; go_simp; exact ⟨Ext.refl _, rfl⟩) ?_)
    (try simp only [Act.put, List.setIfInBounds_toArray, List.set_cons_zero, List.set_cons_succ])
    (first | refine wpF_val rfl (fun w' hE hD => by unfold Yld; go_simp; exact ⟨Ext.refl _, rfl⟩) ?_ | refine wpF_valg (by rfl) (fun w' hE hD => by unfold Yld; go_simp; exact ⟨Ext.refl _, rfl⟩) ?_)
    (try simp only [Act.put, List.setIfInBounds_toArray, List.set_cons_zero, List.set_cons_succ])
    (first | refine wpF_val rfl (fun w' hE hD => by unfold Yld; go_simp; exact ⟨Ext.refl _, rfl⟩) ?_ | refine wpF_valg (by rfl) (fun w' hE hD => by unfold Yld; go_simp; exact ⟨Ext.refl _, rfl⟩) ?_)
    (try simp only [Act.put, List.setIfInBounds_toArray, List.set_cons_zero, List.set_cons_succ])
    (first | refine wpF_val rfl (fun w' hE hD => by unfold Yld; go_simp; exact ⟨Ext.refl _, rfl⟩) ?_ | refine wpF_valg (by rfl) (fun w' hE hD => by unfold Yld; go_simp; exact ⟨Ext.refl _, rfl⟩) ?_)
    (try simp only [Act.put, List.setIfInBounds_toArray, List.set_cons_zero, List.set_cons_succ])
    (first | refine wpF_val rfl (fun w' hE hD => by unfold Yld; go_simp; exact ⟨Ext.refl _, rfl⟩) ?_ | refine wpF_valg (by rfl) (fun w' hE hD => by unfold Yld; go_simp; exact ⟨Ext.refl _, rfl⟩) ?_)
    (try simp only [Act.put, List.setIfInBounds_toArray, List.set_cons_zero, List.set_cons_succ])
    (first | refine wpF_val rfl (fun w' hE hD => by unfold Yld; go_simp; exact ⟨Ext.refl _, rfl⟩) ?_ | refine wpF_valg (by rfl) (fun w' hE hD => by unfold Yld; go_simp; exact ⟨Ext.refl _, rfl⟩) ?_)
    (try simp only [Act.put, List.setIfInBounds_toArray, List.set_cons_zero, List.set_cons_succ])
    (first | refine wpF_val rfl (fun w' hE hD => by unfold Yld; go_simp; exact ⟨Ext.refl _, rfl⟩) ?_ | refine wpF_valg (by rfl) (fun w' hE hD => by unfold Yld; go_simp; exact ⟨Ext.refl _, rfl⟩) ?_)
    (try simp only [Act.put, List.setIfInBounds_toArray, List.set_cons_zero, List.set_cons_succ])
    (first | refine wpF_val rfl (fun w' hE hD => by unfold Yld; go_simp; exact ⟨Ext.refl _, rfl⟩) ?_ | refine wpF_valg (by rfl) (fun w' hE hD => by unfold Yld; go_simp; exact ⟨Ext.refl _, rfl⟩) ?_)
    (try simp only [Act.put, List.setIfInBounds_toArray, List.set_cons_zero, List.set_cons_succ])
    (first | refine wpF_val rfl (fun w' hE hD => by unfold Yld; go_simp; exact ⟨Ext.refl _, rfl⟩) ?_ | refine wpF_valg (by rfl) (fun w' hE hD => by unfold Yld; go_simp; exact ⟨Ext.refl _, rfl⟩) ?_)
    (try simp only [Act.put, List.setIfInBounds_toArray, List.set_cons_zero, List.set_cons_succ])
    (first | refine wpF_val rfl (fun w' hE hD => by unfold Yld; go_simp; exact ⟨Ext.refl _, rfl⟩) ?_ | refine wpF_valg (by rfl) (fun w' hE hD => by unfold Yld; go_simp; exact ⟨Ext.refl _, rfl⟩) ?_)
    (try simp only [Act.put, List.setIfInBounds_toArray, List.set_cons_zero, List.set_cons_succ])
    (first | refine wpF_val rfl (fun w' hE hD => by unfold Yld; go_simp; exact (works_calls w').mono fun e w2 h => ⟨_, h.1, h.2, rfl⟩) ?_ | refine wpF_valg (by rfl) (fun w' hE hD => by unfold Yld; go_simp; exact (works_calls w').mono fun e w2 h => ⟨_, h.1, h.2, rfl⟩) ?_)
    (try simp only [Act.put, List.setIfInBounds_toArray, List.set_cons_zero, List.set_cons_succ])
    (first | refine wpF_val rfl (fun w' hE hD => by unfold Yld; go_simp; exact ⟨Ext.refl _, rfl⟩) ?_ | refine wpF_valg (by rfl) (fun w' hE hD => by unfold Yld; go_simp; exact ⟨Ext.refl _, rfl⟩) ?_)
    (try simp only [Act.put, List.setIfInBounds_toArray, List.set_cons_zero, List.set_cons_succ])
    (first | refine wpF_val rfl (fun w' hE hD => by unfold Yld; go_simp; exact ⟨Ext.refl _, rfl⟩) ?_ | refine wpF_valg (by rfl) (fun w' hE hD => by unfold Yld; go_simp; exact ⟨Ext.refl _, rfl⟩) ?_)
    (try simp only [Act.put, List.setIfInBounds_toArray, List.set_cons_zero, List.set_cons_succ])
    refine wpF_nil fun wc hEc hA => ?_
    simp only [List.drop_succ_cons, List.drop_zero]
    have HEc := Aside0.mk ((HE.out.trans HEb.out).trans hEc)
    clear hA hEc
    go_wp2_with fail
    go_ret
    exact ⟨rfl, HEc.out⟩
end Go.Proofs.Ythgdjgnbifakbaa.By
