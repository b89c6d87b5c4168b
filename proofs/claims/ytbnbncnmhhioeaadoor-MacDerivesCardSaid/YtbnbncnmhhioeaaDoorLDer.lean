/- MacDerives. -/
import Derived.Test.YtbnbncnmhhioeaaDoorMWorks
namespace Go.Proofs.YtbnbncnmhhioeaaDoor.By
open Go.RowKit Go.Proofs.YtbnbncnmhhioeaaDoor.Reg Go.Proofs.YtbnbncnmhhioeaaDoorW.PrintWords Go.Proofs.YtbnbncnmhhioeaaDoorW.PrintLast Go.Proofs.YtbnbncnmhhioeaaDoorW.PrintMore
set_option linter.unusedVariables false


theorem conv_yld (w : World) (s : ByteArray) (o : Oper) (a : Act) (x : Operand) (ho : o.op = .convert 9 22 x) (hx : a.eval x = .string s) (hs : s.size ≤ 140737488355327) :
    Yld Tryd.prog o a w (.fact (fun u Wd => ∃ B c, u = .slice B s.size c ∧ s.size ≤ c ∧ Kd.C kb Wd B s.size (bytesS s))) := by
  have hr := Lib.run_convert_string_bytes (P := Tryd.prog) w 9 22 5 s Tryd.underlying9 Tryd.underlying22 Tryd.underlying5
  unfold Yld execOp
  simp only [ho, hx, Sem.run_bind, hr, Result.andThen_ok, Sem.run_pure]
  exact ⟨bytesWorld_ext w s, _, _, rfl, grownCap_ge _ _ _ _, bytesWorld_C w s hs⟩
set_option maxRecDepth 100000 in
set_option maxHeartbeats 16000000 in
theorem lderives_calls (w : World) (A : Option Addr) (c n : Nat) (k : List Int) (s : ByteArray) (hn : n = k.length) (hT0 : Tab 0 w) (hT1 : Tab 1 w) (h2 : 2 ≤ w.heap.size) (hr : Kd.C kb w A n k) (hc : n ≤ c) :
    Calls Tryd.prog 11 #[.slice A n c, .string s] w fun e w' => e = .returned (.bool true) ∧ Ext w w' := by
  have HR := Aside0.mk hr
  have HNN := Aside0.mk hn
  have HT0 := Aside0.mk hT0
  have HT1 := Aside0.mk hT1
  have H2 := Aside0.mk h2
  obtain ⟨m, hm⟩ : ∃ m, m = s.size := ⟨_, rfl⟩
  clear hr hn hT0 hT1 h2
  by_cases hbig : n > 16384
  · have hz : ((16384 : Int) < (n : Int)) = True := eq_true (by omega)
    go_enter Tryd.func11, Tryd.ntmps11
    go_wp2_with fail
    refine (works_calls _ HT1.out H2.out).mono ?_
    rintro e w1 ⟨rfl, hE⟩
    have HE := Aside0.mk hE
    clear hE
    go_wp2
    go_ret
    exact ⟨rfl, HE.out⟩
  have hz : ((16384 : Int) < (n : Int)) = False := eq_false (by omega)
  by_cases hbig2 : m > 16384
  · rw [hm] at hbig2
    have hz2 : ((16384 : Int) < (s.size : Int)) = True := eq_true (by omega)
    go_enter Tryd.func11, Tryd.ntmps11
    go_wp2_with fail
    refine (works_calls _ HT1.out H2.out).mono ?_
    rintro e w1 ⟨rfl, hE⟩
    have HE := Aside0.mk hE
    clear hE
    go_wp2
    go_ret
    exact ⟨rfl, HE.out⟩
  have hz2 : ((16384 : Int) < (m : Int)) = False := eq_false (by omega)
  have hsm : n ≤ 16384 := by omega
  have hsm2 : m ≤ 16384 := by omega
  clear hbig hbig2
  rw [hm] at hz2 hsm2
  clear hm
  obtain ⟨i0, hi0, _, hsz, _⟩ := info_parts PShaAdds.info5
  obtain ⟨D, hD⟩ : ∃ D, D = macF k (bytesS s) := ⟨_, rfl⟩
  have HD := Aside0.mk hD
  have HQ := Aside0.mk (sum_self D (by rw [hD, mac_len]) (by rw [hD]; exact mac_isB _ _))
  have HI := Aside0.mk (show (Tryd.prog.info? 26).map (·.size) = some (nums .u8 D).length by rw [nums_length, hD, mac_len]; kernel_rfl)
  have HSZ := Aside0.mk (show (nums .u8 zs).toArray.size = (nums .u8 D).length by rw [nums_length, hD, mac_len]; rfl)
  clear hD
  go_enter Tryd.func11, Tryd.ntmps11
  go_wp2_with fail
  refine (lent_at w A c n k HNN.out HR.out hc (by omega)).mono ?_
  rintro e w1 ⟨B, d, rfl, hNB, hd, hCB, hCI, hE1⟩
  have HCB := Aside0.mk hCB
  have HCI := Aside0.mk hCI
  have HE1 := Aside0.mk hE1
  have hcut := cut_to (P := Tryd.prog) 22 5 .i64 Tryd.underlying22 hi0 B (n + 5) d (n : Int) (by omega) (by omega) hd
  rw [Int.toNat_natCast] at hcut
  have hnd : n ≤ d := by omega
  clear hNB hCB hCI hE1 hi0 hsz
  go_wp2_with fail
  refine (derive_calls w1 B d n k s (HT1.out.ext HE1.out) (Nat.le_trans H2.out HE1.out.size) HNN.out HCI.out hnd (by omega) (by omega)).mono ?_
  rintro e w2 ⟨rfl, hE2⟩
  rw [← HD.out]
  have HE2 := Aside0.mk (HE1.out.trans hE2)
  have HCB2 := Aside0.mk (Kd.C_below HCB.out hE2)
  clear hE2 hcut HE1 HCB HCI
  go_wp2_with (first | ((with_reducible refine gate_store (ty := 26) rfl ?_); (refine store_at rfl 26 _ _ rfl w2.heap.size (nums .u8 D) rfl rfl _ 26 (Blk.new w2 #[Value.int .u8 0, Value.int .u8 0, Value.int .u8 0, Value.int .u8 0, Value.int .u8 0, Value.int .u8 0, Value.int .u8 0, Value.int .u8 0, Value.int .u8 0, Value.int .u8 0, Value.int .u8 0, Value.int .u8 0, Value.int .u8 0, Value.int .u8 0, Value.int .u8 0, Value.int .u8 0, Value.int .u8 0, Value.int .u8 0, Value.int .u8 0, Value.int .u8 0, Value.int .u8 0, Value.int .u8 0, Value.int .u8 0, Value.int .u8 0, Value.int .u8 0, Value.int .u8 0, Value.int .u8 0, Value.int .u8 0, Value.int .u8 0, Value.int .u8 0, Value.int .u8 0, Value.int .u8 0] 26) HSZ.out HI.out (one_cells _ _) ?_)) | fail)
  intro w6 hW6 hB6
  have hx6 := hW6.ext ((Ext.refl w2).alloc _) (Nat.le_refl _)
  have HB6 := Aside0.mk hB6
  have HE6 := Aside0.mk (HE2.out.trans hx6)
  have HCB6 := Aside0.mk (Kd.C_below HCB2.out hx6)
  clear hW6 hB6 hx6 HE2 HCB2
  generalize w2.heap.size = b at HB6 ⊢
  go_wp2_with fail
  apply wp_region_facts 21 [RF.val _, RF.val _, RF.val _, RF.val _, RF.val _, RF.val _, RF.val _, RF.val _, RF.val _, RF.fact (fun u Wd => ∃ B c, u = .slice B s.size c ∧ s.size ≤ c ∧ Kd.C kb Wd B s.size (bytesS s)), RF.val _, RF.val _, RF.val _, RF.val _, RF.val _, RF.val _, RF.val _, RF.val _, RF.val _, RF.val _, RF.val _]
  case hm => kernel_rfl
  case hB => kernel_rfl
  simp only [List.take_succ_cons, List.take_zero, List.zip_cons_cons, List.zip_nil_left]
  (first | refine wpF_val rfl (fun w' hE hD => Yld_load 26 (.tmp 6) rfl b 0 rfl (nums .u8 D) _ ((HB6.out.ext hE).range 0 _ [] (by simp)) Tryd.underlying26 rfl HI.out) ?_ | refine wpF_valg (by rfl) (fun w' hE hD => Yld_load 26 (.tmp 6) rfl b 0 rfl (nums .u8 D) _ ((HB6.out.ext hE).range 0 _ [] (by simp)) Tryd.underlying26 rfl HI.out) ?_)
  (try simp only [Act.put, List.setIfInBounds_toArray, List.set_cons_zero, List.set_cons_succ])
  (first | refine wpF_val rfl (fun w' hE hD => by unfold Yld; go_simp; exact ⟨Ext.refl _, rfl⟩) ?_ | refine wpF_valg (by rfl) (fun w' hE hD => by unfold Yld; go_simp; exact ⟨Ext.refl _, rfl⟩) ?_)
  (try simp only [Act.put, List.setIfInBounds_toArray, List.set_cons_zero, List.set_cons_succ])
  (first | refine wpF_val rfl (fun w' hE hD => by unfold Yld; go_simp; exact ⟨Ext.refl _, rfl⟩) ?_ | refine wpF_valg (by rfl) (fun w' hE hD => by unfold Yld; go_simp; exact ⟨Ext.refl _, rfl⟩) ?_)
  (try simp only [Act.put, List.setIfInBounds_toArray, List.set_cons_zero, List.set_cons_succ])
  (first | refine wpF_val rfl (fun w' hE hD => by unfold Yld; go_simp; exact (rderive_calls w' A c n k s (HT0.out.ext (HE6.out.trans hE)) (Nat.le_trans H2.out (HE6.out.trans hE).size) HNN.out (Kd.C_below HR.out (HE6.out.trans hE)) hc (by omega) (by omega)).mono fun e w2 h => ⟨sumV D, by rw [h.1, HD.out], h.2, rfl⟩) ?_ | refine wpF_valg (by rfl) (fun w' hE hD => by unfold Yld; go_simp; exact (rderive_calls w' A c n k s (HT0.out.ext (HE6.out.trans hE)) (Nat.le_trans H2.out (HE6.out.trans hE).size) HNN.out (Kd.C_below HR.out (HE6.out.trans hE)) hc (by omega) (by omega)).mono fun e w2 h => ⟨sumV D, by rw [h.1, HD.out], h.2, rfl⟩) ?_)
  (try simp only [Act.put, List.setIfInBounds_toArray, List.set_cons_zero, List.set_cons_succ])
  (first | refine wpF_val rfl (fun w' hE hD => Yld_eql 26 26 (.tmp 24) (.tmp 27) rfl (nums .u8 D).toArray (nums .u8 D).toArray rfl rfl (by kernel_rfl) true (HQ.out _)) ?_ | refine wpF_valg (by rfl) (fun w' hE hD => Yld_eql 26 26 (.tmp 24) (.tmp 27) rfl (nums .u8 D).toArray (nums .u8 D).toArray rfl rfl (by kernel_rfl) true (HQ.out _)) ?_)
  (try simp only [Act.put, List.setIfInBounds_toArray, List.set_cons_zero, List.set_cons_succ])
  (first | refine wpF_val rfl (fun w' hE hD => by unfold Yld; go_simp; exact ⟨Ext.refl _, rfl⟩) ?_ | refine wpF_valg (by rfl) (fun w' hE hD => by unfold Yld; go_simp; exact ⟨Ext.refl _, rfl⟩) ?_)
  (try simp only [Act.put, List.setIfInBounds_toArray, List.set_cons_zero, List.set_cons_succ])
  (first | refine wpF_val rfl (fun w' hE hD => Yld_load 26 (.tmp 6) rfl b 0 rfl (nums .u8 D) _ ((HB6.out.ext hE).range 0 _ [] (by simp)) Tryd.underlying26 rfl HI.out) ?_ | refine wpF_valg (by rfl) (fun w' hE hD => Yld_load 26 (.tmp 6) rfl b 0 rfl (nums .u8 D) _ ((HB6.out.ext hE).range 0 _ [] (by simp)) Tryd.underlying26 rfl HI.out) ?_)
  (try simp only [Act.put, List.setIfInBounds_toArray, List.set_cons_zero, List.set_cons_succ])
  (first | refine wpF_val rfl (fun w' hE hD => by unfold Yld; go_simp; exact ⟨Ext.refl _, rfl⟩) ?_ | refine wpF_valg (by rfl) (fun w' hE hD => by unfold Yld; go_simp; exact ⟨Ext.refl _, rfl⟩) ?_)
  (try simp only [Act.put, List.setIfInBounds_toArray, List.set_cons_zero, List.set_cons_succ])
  (first | refine wpF_val rfl (fun w' hE hD => by unfold Yld; go_simp; exact ⟨Ext.refl _, rfl⟩) ?_ | refine wpF_valg (by rfl) (fun w' hE hD => by unfold Yld; go_simp; exact ⟨Ext.refl _, rfl⟩) ?_)
  (try simp only [Act.put, List.setIfInBounds_toArray, List.set_cons_zero, List.set_cons_succ])
  refine wpF_factg (by rfl) (fun u Wa Wb h he => ?_) (fun w' hE hD => conv_yld w' s _ _ (.tmp 32) rfl rfl (by omega)) (fun uS => ?_)
  · obtain ⟨B3, c3, h1, h2, h3⟩ := h
    exact ⟨B3, c3, h1, h2, Kd.C_below h3 he⟩
  (try simp only [Act.put, List.setIfInBounds_toArray, List.set_cons_zero, List.set_cons_succ])
  refine wpF_valg (by rfl) (fun w' hE hD => by obtain ⟨B3, c3, rfl, hc3, hC3⟩ := hD.1 (by kernel_rfl); unfold Yld; go_simp; exact (mac_calls w' A B3 c c3 n s.size k (bytesS s) (HT1.out.ext (HE6.out.trans hE)) (Nat.le_trans H2.out (HE6.out.trans hE).size) HNN.out (Kd.C_below HR.out (HE6.out.trans hE)) hc (by omega) (bytesS_len s).symm hC3 hc3 (by omega)).mono fun e w2 h => ⟨sumV D, by rw [h.1, HD.out], h.2, rfl⟩) ?_
  (try simp only [Act.put, List.setIfInBounds_toArray, List.set_cons_zero, List.set_cons_succ])
  (first | refine wpF_val rfl (fun w' hE hD => Yld_eql 26 26 (.tmp 30) (.tmp 34) rfl (nums .u8 D).toArray (nums .u8 D).toArray rfl rfl (by kernel_rfl) true (HQ.out _)) ?_ | refine wpF_valg (by rfl) (fun w' hE hD => Yld_eql 26 26 (.tmp 30) (.tmp 34) rfl (nums .u8 D).toArray (nums .u8 D).toArray rfl rfl (by kernel_rfl) true (HQ.out _)) ?_)
  (try simp only [Act.put, List.setIfInBounds_toArray, List.set_cons_zero, List.set_cons_succ])
  (first | refine wpF_val rfl (fun w' hE hD => by unfold Yld; go_simp; exact ⟨Ext.refl _, rfl⟩) ?_ | refine wpF_valg (by rfl) (fun w' hE hD => by unfold Yld; go_simp; exact ⟨Ext.refl _, rfl⟩) ?_)
  (try simp only [Act.put, List.setIfInBounds_toArray, List.set_cons_zero, List.set_cons_succ])
  (first | refine wpF_val rfl (fun w' hE hD => by unfold Yld; go_simp; exact ⟨Ext.refl _, rfl⟩) ?_ | refine wpF_valg (by rfl) (fun w' hE hD => by unfold Yld; go_simp; exact ⟨Ext.refl _, rfl⟩) ?_)
  (try simp only [Act.put, List.setIfInBounds_toArray, List.set_cons_zero, List.set_cons_succ])
  (first | refine wpF_val rfl (fun w' hE hD => by unfold Yld; go_simp; exact ⟨Ext.refl _, rfl⟩) ?_ | refine wpF_valg (by rfl) (fun w' hE hD => by unfold Yld; go_simp; exact ⟨Ext.refl _, rfl⟩) ?_)
  (try simp only [Act.put, List.setIfInBounds_toArray, List.set_cons_zero, List.set_cons_succ])
  (first | refine wpF_val rfl (fun w' hE hD => by unfold Yld; go_simp; exact ⟨Ext.refl _, rfl⟩) ?_ | refine wpF_valg (by rfl) (fun w' hE hD => by unfold Yld; go_simp; exact ⟨Ext.refl _, rfl⟩) ?_)
  (try simp only [Act.put, List.setIfInBounds_toArray, List.set_cons_zero, List.set_cons_succ])
  (first | refine wpF_val rfl (fun w' hE hD => by unfold Yld; go_simp; exact (kept_n w' B A d c n k HNN.out (Kd.C_below HCB6.out hE) hd (Kd.C_below HR.out (HE6.out.trans hE)) hc (by omega)).mono fun e w2 h => ⟨_, h.1, h.2, rfl⟩) ?_ | refine wpF_valg (by rfl) (fun w' hE hD => by unfold Yld; go_simp; exact (kept_n w' B A d c n k HNN.out (Kd.C_below HCB6.out hE) hd (Kd.C_below HR.out (HE6.out.trans hE)) hc (by omega)).mono fun e w2 h => ⟨_, h.1, h.2, rfl⟩) ?_)
  (try simp only [Act.put, List.setIfInBounds_toArray, List.set_cons_zero, List.set_cons_succ])
  (first | refine wpF_val rfl (fun w' hE hD => by unfold Yld; go_simp; exact ⟨Ext.refl _, rfl⟩) ?_ | refine wpF_valg (by rfl) (fun w' hE hD => by unfold Yld; go_simp; exact ⟨Ext.refl _, rfl⟩) ?_)
  (try simp only [Act.put, List.setIfInBounds_toArray, List.set_cons_zero, List.set_cons_succ])
  (first | refine wpF_val rfl (fun w' hE hD => by unfold Yld; go_simp; exact ⟨Ext.refl _, rfl⟩) ?_ | refine wpF_valg (by rfl) (fun w' hE hD => by unfold Yld; go_simp; exact ⟨Ext.refl _, rfl⟩) ?_)
  (try simp only [Act.put, List.setIfInBounds_toArray, List.set_cons_zero, List.set_cons_succ])
  (first | refine wpF_val rfl (fun w' hE hD => by unfold Yld; go_simp; exact (works_calls w' (HT1.out.ext (HE6.out.trans hE)) (Nat.le_trans H2.out (HE6.out.trans hE).size)).mono fun e w2 h => ⟨_, h.1, h.2, rfl⟩) ?_ | refine wpF_valg (by rfl) (fun w' hE hD => by unfold Yld; go_simp; exact (works_calls w' (HT1.out.ext (HE6.out.trans hE)) (Nat.le_trans H2.out (HE6.out.trans hE).size)).mono fun e w2 h => ⟨_, h.1, h.2, rfl⟩) ?_)
  (try simp only [Act.put, List.setIfInBounds_toArray, List.set_cons_zero, List.set_cons_succ])
  (first | refine wpF_val rfl (fun w' hE hD => by unfold Yld; go_simp; exact ⟨Ext.refl _, rfl⟩) ?_ | refine wpF_valg (by rfl) (fun w' hE hD => by unfold Yld; go_simp; exact ⟨Ext.refl _, rfl⟩) ?_)
  (try simp only [Act.put, List.setIfInBounds_toArray, List.set_cons_zero, List.set_cons_succ])
  refine wpF_nil fun w7 hE7 hA => ?_
  have HE7 := Aside0.mk (HE6.out.trans hE7)
  simp only [List.drop_succ_cons, List.drop_zero]
  clear hE7 hA
  go_wp2
  go_ret
  exact ⟨rfl, HE7.out⟩
end Go.Proofs.YtbnbncnmhhioeaaDoor.By
