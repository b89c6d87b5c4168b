/- MacSums. -/
import Derived.Test.YtbnbncnmhhioeaaDoorMWorks
namespace Go.Proofs.YtbnbncnmhhioeaaDoor.By
open Go.RowKit Go.Proofs.YtbnbncnmhhioeaaDoor.Reg Go.Proofs.YtbnbncnmhhioeaaDoorW.PrintWords Go.Proofs.YtbnbncnmhhioeaaDoorW.PrintLast Go.Proofs.YtbnbncnmhhioeaaDoorW.PrintMore
set_option linter.unusedVariables false


set_option maxRecDepth 100000 in
set_option maxHeartbeats 16000000 in
theorem lsums_calls (w : World) (A A' : Option Addr) (c c' n m : Nat) (k t : List Int) (hn : n = k.length) (hm : m = t.length) (hT0 : Tab 0 w) (hT1 : Tab 1 w) (h2 : 2 ≤ w.heap.size) (hr : Kd.C kb w A n k) (hc : n ≤ c) (hr' : Kd.C kb w A' m t) (hc' : m ≤ c') :
    Calls Tryd.prog 8 #[.slice A n c, .slice A' m c'] w fun e w' => e = .returned (.bool true) ∧ Ext w w' := by
  have HR := Aside0.mk hr
  have HR' := Aside0.mk hr'
  have HNN := Aside0.mk hn
  have HM := Aside0.mk hm
  have HT0 := Aside0.mk hT0
  have HT1 := Aside0.mk hT1
  have H2 := Aside0.mk h2
  clear hr hr' hn hm hT0 hT1 h2
  by_cases hbig : n > 16384
  · have hz : ((16384 : Int) < (n : Int)) = True := eq_true (by omega)
    go_enter Tryd.func8, Tryd.ntmps8
    go_wp2_with fail
    refine (works_calls _ HT1.out H2.out).mono ?_
    rintro e w1 ⟨rfl, hE⟩
    have HE := Aside0.mk hE
    clear hE
    go_wp2
    go_ret
    exact ⟨rfl, HE.out⟩
  have hz : ((16384 : Int) < (n : Int)) = False := eq_false (by omega)
  by_cases hbig2 : m > 16384
  · have hz2 : ((16384 : Int) < (m : Int)) = True := eq_true (by omega)
    go_enter Tryd.func8, Tryd.ntmps8
    go_wp2_with fail
    refine (works_calls _ HT1.out H2.out).mono ?_
    rintro e w1 ⟨rfl, hE⟩
    have HE := Aside0.mk hE
    clear hE
    go_wp2
    go_ret
    exact ⟨rfl, HE.out⟩
  have hz2 : ((16384 : Int) < (m : Int)) = False := eq_false (by omega)
  have hsm : n ≤ 16384 := by omega
  have hsm2 : m ≤ 16384 := by omega
  clear hbig hbig2
  obtain ⟨i0, hi0, _, hsz, _⟩ := info_parts PShaAdds.info5
  obtain ⟨D, hD⟩ : ∃ D, D = macF k t := ⟨_, rfl⟩
  have HD := Aside0.mk hD
  have HQ := Aside0.mk (sum_self D (by rw [hD, mac_len]) (by rw [hD]; exact mac_isB _ _))
  have HI := Aside0.mk (show (Tryd.prog.info? 26).map (·.size) = some (nums .u8 D).length by rw [nums_length, hD, mac_len]; kernel_rfl)
  have HSZ := Aside0.mk (show (nums .u8 zs).toArray.size = (nums .u8 D).length by rw [nums_length, hD, mac_len]; rfl)
  clear hD
  go_enter Tryd.func8, Tryd.ntmps8
  go_wp2_with fail
  refine (lent_at w A c n k HNN.out HR.out hc (by omega)).mono ?_
  rintro e w1 ⟨B, d, rfl, hNB, hd, hCB, hCI, hE1⟩
  have HCB := Aside0.mk hCB
  have HCI := Aside0.mk hCI
  have HE1 := Aside0.mk hE1
  have hcut := cut_to (P := Tryd.prog) 22 5 .i64 Tryd.underlying22 hi0 B (n + 5) d (n : Int) (by omega) (by omega) hd
  rw [Int.toNat_natCast] at hcut
  have hnd : n ≤ d := by omega
  have HCUT := Aside0.mk hcut
  clear hNB hCB hCI hE1 hcut
  go_wp2_with fail
  refine (lent_at w1 A' c' m t HM.out (Kd.C_below HR'.out HE1.out) hc' (by omega)).mono ?_
  rintro e w2 ⟨B', d', rfl, hNB', hd', hCB', hCI', hE2⟩
  have HCB2 := Aside0.mk (Kd.C_below HCB.out hE2)
  have HCI2 := Aside0.mk (Kd.C_below HCI.out hE2)
  have HCB' := Aside0.mk hCB'
  have HCI' := Aside0.mk hCI'
  have HE2 := Aside0.mk (HE1.out.trans hE2)
  have hcut' := cut_to (P := Tryd.prog) 22 5 .i64 Tryd.underlying22 hi0 B' (m + 5) d' (m : Int) (by omega) (by omega) hd'
  rw [Int.toNat_natCast] at hcut'
  have hcut := HCUT.out
  have hmd : m ≤ d' := by omega
  clear hNB' hCB' hCI' hE2 hi0 hsz HE1 HCB HCI
  go_wp2_with fail
  apply wp_region_facts 10 [RF.val _, RF.val _, RF.val _, RF.val _, RF.val _, RF.val _, RF.val _, RF.val _, RF.val _, RF.fact (fun u Wd => ∃ b, u = .pointer (some ⟨b, 0, none⟩) ∧ Blk Wd b (nums .u8 zs).toArray 26 ∧ w2.heap.size ≤ b)]
  case hm => kernel_rfl
  case hB => kernel_rfl
  simp only [List.take_succ_cons, List.take_zero, List.zip_cons_cons, List.zip_nil_left]
  (first | refine wpF_val rfl (fun w' hE hD => by unfold Yld; go_simp; exact ⟨Ext.refl _, rfl⟩) ?_ | refine wpF_valg (by rfl) (fun w' hE hD => by unfold Yld; go_simp; exact ⟨Ext.refl _, rfl⟩) ?_)
  (try simp only [Act.put, List.setIfInBounds_toArray, List.set_cons_zero, List.set_cons_succ])
  (first | refine wpF_val rfl (fun w' hE hD => by unfold Yld; go_simp; exact ⟨Ext.refl _, rfl⟩) ?_ | refine wpF_valg (by rfl) (fun w' hE hD => by unfold Yld; go_simp; exact ⟨Ext.refl _, rfl⟩) ?_)
  (try simp only [Act.put, List.setIfInBounds_toArray, List.set_cons_zero, List.set_cons_succ])
  (first | refine wpF_val rfl (fun w' hE hD => by unfold Yld; go_simp; exact ⟨Ext.refl _, rfl⟩) ?_ | refine wpF_valg (by rfl) (fun w' hE hD => by unfold Yld; go_simp; exact ⟨Ext.refl _, rfl⟩) ?_)
  (try simp only [Act.put, List.setIfInBounds_toArray, List.set_cons_zero, List.set_cons_succ])
  (first | refine wpF_val rfl (fun w' hE hD => by unfold Yld; go_simp; exact ⟨Ext.refl _, rfl⟩) ?_ | refine wpF_valg (by rfl) (fun w' hE hD => by unfold Yld; go_simp; exact ⟨Ext.refl _, rfl⟩) ?_)
  (try simp only [Act.put, List.setIfInBounds_toArray, List.set_cons_zero, List.set_cons_succ])
  (first | refine wpF_val rfl (fun w' hE hD => by unfold Yld; go_simp; exact ⟨Ext.refl _, rfl⟩) ?_ | refine wpF_valg (by rfl) (fun w' hE hD => by unfold Yld; go_simp; exact ⟨Ext.refl _, rfl⟩) ?_)
  (try simp only [Act.put, List.setIfInBounds_toArray, List.set_cons_zero, List.set_cons_succ])
  (first | refine wpF_val rfl (fun w' hE hD => by unfold Yld; go_simp; exact ⟨Ext.refl _, rfl⟩) ?_ | refine wpF_valg (by rfl) (fun w' hE hD => by unfold Yld; go_simp; exact ⟨Ext.refl _, rfl⟩) ?_)
  (try simp only [Act.put, List.setIfInBounds_toArray, List.set_cons_zero, List.set_cons_succ])
  (first | refine wpF_val rfl (fun w' hE hD => by unfold Yld; go_simp; exact ⟨Ext.refl _, rfl⟩) ?_ | refine wpF_valg (by rfl) (fun w' hE hD => by unfold Yld; go_simp; exact ⟨Ext.refl _, rfl⟩) ?_)
  (try simp only [Act.put, List.setIfInBounds_toArray, List.set_cons_zero, List.set_cons_succ])
  (first | refine wpF_val rfl (fun w' hE hD => by unfold Yld; go_simp; exact ⟨Ext.refl _, rfl⟩) ?_ | refine wpF_valg (by rfl) (fun w' hE hD => by unfold Yld; go_simp; exact ⟨Ext.refl _, rfl⟩) ?_)
  (try simp only [Act.put, List.setIfInBounds_toArray, List.set_cons_zero, List.set_cons_succ])
  (first | refine wpF_val rfl (fun w' hE hD => by unfold Yld; go_simp; exact (mac_calls w' B B' d d' n m k t (HT1.out.ext (HE2.out.trans hE)) (Nat.le_trans H2.out (HE2.out.trans hE).size) HNN.out (Kd.C_below HCI2.out hE) hnd (by omega) HM.out (Kd.C_below HCI'.out hE) hmd (by omega)).mono fun e w2 h => ⟨sumV D, by rw [h.1, HD.out], h.2, rfl⟩) ?_ | refine wpF_valg (by rfl) (fun w' hE hD => by unfold Yld; go_simp; exact (mac_calls w' B B' d d' n m k t (HT1.out.ext (HE2.out.trans hE)) (Nat.le_trans H2.out (HE2.out.trans hE).size) HNN.out (Kd.C_below HCI2.out hE) hnd (by omega) HM.out (Kd.C_below HCI'.out hE) hmd (by omega)).mono fun e w2 h => ⟨sumV D, by rw [h.1, HD.out], h.2, rfl⟩) ?_)
  (try simp only [Act.put, List.setIfInBounds_toArray, List.set_cons_zero, List.set_cons_succ])
  refine wpF_fact rfl (fun u Wa Wb h he => ?_) (fun w' hE hD => ?_) (fun uA => ?_)
  · obtain ⟨b, h1, h2, h3⟩ := h
    exact ⟨b, h1, h2.ext he, h3⟩
  · unfold Yld; go_simp; exact ⟨(Ext.refl _).alloc _, w'.heap.size, rfl, Blk.new w' #[Value.int .u8 0, Value.int .u8 0, Value.int .u8 0, Value.int .u8 0, Value.int .u8 0, Value.int .u8 0, Value.int .u8 0, Value.int .u8 0, Value.int .u8 0, Value.int .u8 0, Value.int .u8 0, Value.int .u8 0, Value.int .u8 0, Value.int .u8 0, Value.int .u8 0, Value.int .u8 0, Value.int .u8 0, Value.int .u8 0, Value.int .u8 0, Value.int .u8 0, Value.int .u8 0, Value.int .u8 0, Value.int .u8 0, Value.int .u8 0, Value.int .u8 0, Value.int .u8 0, Value.int .u8 0, Value.int .u8 0, Value.int .u8 0, Value.int .u8 0, Value.int .u8 0, Value.int .u8 0] 26, hE.size⟩
  (try simp only [Act.put, List.setIfInBounds_toArray, List.set_cons_zero, List.set_cons_succ])
  refine wpF_nil fun w5 hE5 hA => ?_
  obtain ⟨⟨b, rfl, hBb, hbb⟩, _⟩ := hA
  have HX5 := Aside0.mk hE5
  have HB5 := Aside0.mk hBb
  simp only [List.drop_succ_cons, List.drop_zero]
  clear hE5 hBb hcut hcut'
  go_wp2_with (first | ((with_reducible refine gate_store (ty := 26) rfl ?_); (refine store_at rfl 26 _ _ rfl b (nums .u8 D) rfl rfl _ 26 HB5.out HSZ.out HI.out (one_cells _ _) ?_)) | fail)
  intro w6 hW6 hB6
  have HX6 := Aside0.mk (hW6.ext HX5.out hbb)
  have HB6 := Aside0.mk hB6
  have HE6 := Aside0.mk (HE2.out.trans HX6.out)
  have HCB6 := Aside0.mk (Kd.C_below HCB2.out HX6.out)
  have HCB6' := Aside0.mk (Kd.C_below HCB'.out HX6.out)
  clear hW6 hB6 HB5 HX5 hbb
  go_wp2_with fail
  apply wp_region_facts 18 [RF.val _, RF.val _, RF.val _, RF.val _, RF.val _, RF.val _, RF.val _, RF.val _, RF.val _, RF.val _, RF.val _, RF.val _, RF.val _, RF.val _, RF.val _, RF.val _, RF.val _, RF.val _]
  case hm => kernel_rfl
  case hB => kernel_rfl
  simp only [List.take_succ_cons, List.take_zero, List.zip_cons_cons, List.zip_nil_left]
  (first | refine wpF_val rfl (fun w' hE hD => Yld_load 26 (.tmp 7) rfl b 0 rfl (nums .u8 D) _ ((HB6.out.ext hE).range 0 _ [] (by simp)) Tryd.underlying26 rfl HI.out) ?_ | refine wpF_valg (by rfl) (fun w' hE hD => Yld_load 26 (.tmp 7) rfl b 0 rfl (nums .u8 D) _ ((HB6.out.ext hE).range 0 _ [] (by simp)) Tryd.underlying26 rfl HI.out) ?_)
  (try simp only [Act.put, List.setIfInBounds_toArray, List.set_cons_zero, List.set_cons_succ])
  (first | refine wpF_val rfl (fun w' hE hD => by unfold Yld; go_simp; exact ⟨Ext.refl _, rfl⟩) ?_ | refine wpF_valg (by rfl) (fun w' hE hD => by unfold Yld; go_simp; exact ⟨Ext.refl _, rfl⟩) ?_)
  (try simp only [Act.put, List.setIfInBounds_toArray, List.set_cons_zero, List.set_cons_succ])
  (first | refine wpF_val rfl (fun w' hE hD => by unfold Yld; go_simp; exact ⟨Ext.refl _, rfl⟩) ?_ | refine wpF_valg (by rfl) (fun w' hE hD => by unfold Yld; go_simp; exact ⟨Ext.refl _, rfl⟩) ?_)
  (try simp only [Act.put, List.setIfInBounds_toArray, List.set_cons_zero, List.set_cons_succ])
  (first | refine wpF_val rfl (fun w' hE hD => by unfold Yld; go_simp; exact (rmac_calls w' A A' c c' n m k t (HT0.out.ext (HE6.out.trans hE)) HNN.out (Kd.C_below HR.out (HE6.out.trans hE)) hc (by omega) HM.out (Kd.C_below HR'.out (HE6.out.trans hE)) hc' (by omega)).mono fun e w2 h => ⟨sumV D, by rw [h.1, HD.out], h.2, rfl⟩) ?_ | refine wpF_valg (by rfl) (fun w' hE hD => by unfold Yld; go_simp; exact (rmac_calls w' A A' c c' n m k t (HT0.out.ext (HE6.out.trans hE)) HNN.out (Kd.C_below HR.out (HE6.out.trans hE)) hc (by omega) HM.out (Kd.C_below HR'.out (HE6.out.trans hE)) hc' (by omega)).mono fun e w2 h => ⟨sumV D, by rw [h.1, HD.out], h.2, rfl⟩) ?_)
  (try simp only [Act.put, List.setIfInBounds_toArray, List.set_cons_zero, List.set_cons_succ])
  (first | refine wpF_val rfl (fun w' hE hD => Yld_eql 26 26 (.tmp 30) (.tmp 33) rfl (nums .u8 D).toArray (nums .u8 D).toArray rfl rfl (by kernel_rfl) true (HQ.out _)) ?_ | refine wpF_valg (by rfl) (fun w' hE hD => Yld_eql 26 26 (.tmp 30) (.tmp 33) rfl (nums .u8 D).toArray (nums .u8 D).toArray rfl rfl (by kernel_rfl) true (HQ.out _)) ?_)
  (try simp only [Act.put, List.setIfInBounds_toArray, List.set_cons_zero, List.set_cons_succ])
  (first | refine wpF_val rfl (fun w' hE hD => by unfold Yld; go_simp; exact ⟨Ext.refl _, rfl⟩) ?_ | refine wpF_valg (by rfl) (fun w' hE hD => by unfold Yld; go_simp; exact ⟨Ext.refl _, rfl⟩) ?_)
  (try simp only [Act.put, List.setIfInBounds_toArray, List.set_cons_zero, List.set_cons_succ])
  (first | refine wpF_val rfl (fun w' hE hD => by unfold Yld; go_simp; exact ⟨Ext.refl _, rfl⟩) ?_ | refine wpF_valg (by rfl) (fun w' hE hD => by unfold Yld; go_simp; exact ⟨Ext.refl _, rfl⟩) ?_)
  (try simp only [Act.put, List.setIfInBounds_toArray, List.set_cons_zero, List.set_cons_succ])
  (first | refine wpF_val rfl (fun w' hE hD => by unfold Yld; go_simp; exact ⟨Ext.refl _, rfl⟩) ?_ | refine wpF_valg (by rfl) (fun w' hE hD => by unfold Yld; go_simp; exact ⟨Ext.refl _, rfl⟩) ?_)
  (try simp only [Act.put, List.setIfInBounds_toArray, List.set_cons_zero, List.set_cons_succ])
  (first | refine wpF_val rfl (fun w' hE hD => by unfold Yld; go_simp; exact (kept_n w' B A d c n k HNN.out (Kd.C_below HCB6.out hE) hd (Kd.C_below HR.out (HE6.out.trans hE)) hc (by omega)).mono fun e w2 h => ⟨_, h.1, h.2, rfl⟩) ?_ | refine wpF_valg (by rfl) (fun w' hE hD => by unfold Yld; go_simp; exact (kept_n w' B A d c n k HNN.out (Kd.C_below HCB6.out hE) hd (Kd.C_below HR.out (HE6.out.trans hE)) hc (by omega)).mono fun e w2 h => ⟨_, h.1, h.2, rfl⟩) ?_)
  (try simp only [Act.put, List.setIfInBounds_toArray, List.set_cons_zero, List.set_cons_succ])
  (first | refine wpF_val rfl (fun w' hE hD => by unfold Yld; go_simp; exact ⟨Ext.refl _, rfl⟩) ?_ | refine wpF_valg (by rfl) (fun w' hE hD => by unfold Yld; go_simp; exact ⟨Ext.refl _, rfl⟩) ?_)
  (try simp only [Act.put, List.setIfInBounds_toArray, List.set_cons_zero, List.set_cons_succ])
  (first | refine wpF_val rfl (fun w' hE hD => by unfold Yld; go_simp; exact ⟨Ext.refl _, rfl⟩) ?_ | refine wpF_valg (by rfl) (fun w' hE hD => by unfold Yld; go_simp; exact ⟨Ext.refl _, rfl⟩) ?_)
  (try simp only [Act.put, List.setIfInBounds_toArray, List.set_cons_zero, List.set_cons_succ])
  (first | refine wpF_val rfl (fun w' hE hD => by unfold Yld; go_simp; exact ⟨Ext.refl _, rfl⟩) ?_ | refine wpF_valg (by rfl) (fun w' hE hD => by unfold Yld; go_simp; exact ⟨Ext.refl _, rfl⟩) ?_)
  (try simp only [Act.put, List.setIfInBounds_toArray, List.set_cons_zero, List.set_cons_succ])
  (first | refine wpF_val rfl (fun w' hE hD => by unfold Yld; go_simp; exact ⟨Ext.refl _, rfl⟩) ?_ | refine wpF_valg (by rfl) (fun w' hE hD => by unfold Yld; go_simp; exact ⟨Ext.refl _, rfl⟩) ?_)
  (try simp only [Act.put, List.setIfInBounds_toArray, List.set_cons_zero, List.set_cons_succ])
  (first | refine wpF_val rfl (fun w' hE hD => by unfold Yld; go_simp; exact (kept_n w' B' A' d' c' m t HM.out (Kd.C_below HCB6'.out hE) hd' (Kd.C_below HR'.out (HE6.out.trans hE)) hc' (by omega)).mono fun e w2 h => ⟨_, h.1, h.2, rfl⟩) ?_ | refine wpF_valg (by rfl) (fun w' hE hD => by unfold Yld; go_simp; exact (kept_n w' B' A' d' c' m t HM.out (Kd.C_below HCB6'.out hE) hd' (Kd.C_below HR'.out (HE6.out.trans hE)) hc' (by omega)).mono fun e w2 h => ⟨_, h.1, h.2, rfl⟩) ?_)
  (try simp only [Act.put, List.setIfInBounds_toArray, List.set_cons_zero, List.set_cons_succ])
  (first | refine wpF_val rfl (fun w' hE hD => by unfold Yld; go_simp; exact ⟨Ext.refl _, rfl⟩) ?_ | refine wpF_valg (by rfl) (fun w' hE hD => by unfold Yld; go_simp; exact ⟨Ext.refl _, rfl⟩) ?_)
  (try simp only [Act.put, List.setIfInBounds_toArray, List.set_cons_zero, List.set_cons_succ])
  (first | refine wpF_val rfl (fun w' hE hD => by unfold Yld; go_simp; exact ⟨Ext.refl _, rfl⟩) ?_ | refine wpF_valg (by rfl) (fun w' hE hD => by unfold Yld; go_simp; exact ⟨Ext.refl _, rfl⟩) ?_)
  (try simp only [Act.put, List.setIfInBounds_toArray, List.set_cons_zero, List.set_cons_succ])
  (first | refine wpF_val rfl (fun w' hE hD => by unfold Yld; go_simp; exact (works_calls w' (HT1.out.ext (HE6.out.trans hE)) (Nat.le_trans H2.out (HE6.out.trans hE).size)).mono fun e w2 h => ⟨_, h.1, h.2, rfl⟩) ?_ | refine wpF_valg (by rfl) (fun w' hE hD => by unfold Yld; go_simp; exact (works_calls w' (HT1.out.ext (HE6.out.trans hE)) (Nat.le_trans H2.out (HE6.out.trans hE).size)).mono fun e w2 h => ⟨_, h.1, h.2, rfl⟩) ?_)
  (try simp only [Act.put, List.setIfInBounds_toArray, List.set_cons_zero, List.set_cons_succ])
  (first | refine wpF_val rfl (fun w' hE hD => by unfold Yld; go_simp; exact ⟨Ext.refl _, rfl⟩) ?_ | refine wpF_valg (by rfl) (fun w' hE hD => by unfold Yld; go_simp; exact ⟨Ext.refl _, rfl⟩) ?_)
  (try simp only [Act.put, List.setIfInBounds_toArray, List.set_cons_zero, List.set_cons_succ])
  refine wpF_nil fun w7 hE7 hA => ?_
  have HE7 := Aside0.mk (HE6.out.trans hE7)
  simp only [List.drop_succ_cons, List.drop_zero]
  clear hE7 hA
  go_wp2
  go_ret
  exact ⟨rfl, HE7.out⟩
end Go.Proofs.YtbnbncnmhhioeaaDoor.By
