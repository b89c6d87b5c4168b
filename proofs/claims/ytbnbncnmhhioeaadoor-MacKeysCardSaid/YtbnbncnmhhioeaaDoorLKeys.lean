/- MacKeys. -/
import Derived.Test.YtbnbncnmhhioeaaDoorMWorks
namespace Go.Proofs.YtbnbncnmhhioeaaDoor.By
open Go.RowKit Go.Proofs.YtbnbncnmhhioeaaDoor.Reg Go.Proofs.YtbnbncnmhhioeaaDoorW.PrintWords Go.Proofs.YtbnbncnmhhioeaaDoorW.PrintLast Go.Proofs.YtbnbncnmhhioeaaDoorW.PrintMore
set_option linter.unusedVariables false


theorem mac_noughts (k t : List Int) (n : Nat) (h : k.length + n ≤ 64) : macF (k ++ List.replicate n 0) t = macF k t := by
  unfold macF; rw [block_noughts k 92 n h, block_noughts k 54 n h]
theorem mac_long (k t : List Int) (h : 64 < k.length) : macF (shaF k) t = macF k t := by
  unfold macF; rw [← block_long k 92 h, ← block_long k 54 h]
set_option maxHeartbeats 4000000 in
theorem copy_calls (w : World) (A : Option Addr) (c n : Nat) (k : List Int) (hn : n = k.length) (hr : Kd.C kb w A n k) (hc : n ≤ c) (hl : n ≤ 1000000) :
    Calls Tryd.prog 28 #[.slice A n c] w fun e w' => ∃ V, e = .returned V ∧ NB w' w.heap.size V k ∧ Ext w w' := by
  have HR := Aside0.mk hr
  have HNN := Aside0.mk hn
  clear hr hn
  go_enter Tryd.func28, Tryd.ntmps28
  go_wp2_with fail
  go_loopw [3, 4] (fun u i wr => ∃ x : Int, i = .int .i64 x ∧ Aside0 (0 ≤ x ∧ x ≤ n) ∧ Aside0 (NB wr w.heap.size u (k.take x.toNat)) ∧ Aside0 (Ext w wr)) (fun _ i _ => n - (intOf i).toNat)
  case atStart => exact ⟨0, rfl, ⟨by omega⟩, ⟨NB_nil _ _⟩, ⟨Ext.refl _⟩⟩
  case round =>
    obtain ⟨x, rfl, HXR, HN, HE⟩ := hrel
    obtain ⟨g0, g1⟩ := HXR.out
    obtain ⟨wx, hwx⟩ : ∃ wx : World, wx = wr := ⟨_, rfl⟩
    subst hwx
    by_cases hlt : x < n
    · have HLT := Aside0.mk (And.intro g0 hlt)
      obtain ⟨adx, eax, hcell⟩ := at_k (Kd.C_below HR.out HE.out) x g0 hlt
      subst eax
      have HTK := Aside0.mk (show k.take x.toNat ++ [rd k x] = k.take (x + 1).toNat by
        have h := take_rd k x.toNat (by rw [← HNN.out]; omega)
        rw [Int.toNat_of_nonneg g0] at h
        rw [h, show (x + 1).toNat = x.toNat + 1 by omega])
      have HTL := Aside0.mk (show (k.take x.toNat).length ≤ 1000000 by rw [List.length_take]; omega)
      obtain ⟨A3, c3, hu3, _, _⟩ := HN.out.reads
      obtain ⟨L3, hL3⟩ : ∃ L3, L3 = (k.take x.toNat).length := ⟨_, rfl⟩
      rw [← hL3] at hu3
      subst hu3
      clear hL3
      obtain ⟨P3, hP3⟩ : ∃ P3, P3 = k.take x.toNat := ⟨_, rfl⟩
      rw [← hP3] at HN HTK HTL
      clear hP3
      go_wp2_with (at_builtin; go_loud (refine Kd.R_append kb (w0 := wx) (w.heap.size) rfl (.tmp 11) (.tmp 16) 22 5 _ 1 rfl Tryd.underlying22 PShaAdds.info5 rfl (by decide) (by decide) (.slice A3 L3 c3) P3 (rd k x) [.int .u8 (rd k x)] (fun _ => True) (fun _ => False) rfl rfl ?c1 (fun _ h => h.elim) (fun _ _ => trivial) HN.out ?c2 ?c3 ?c4 ?_))
      case c1 => exact rfl
      case c2 => exact Below.refl _ _
      case c3 => exact HE.out.size
      case c4 => have := HTL.out; omega
      intro v4 w4 hR4 hB4 hg4 hat4
      have HE4 := Aside0.mk (show Ext w w4 from HE.out.trans4 hB4)
      replace hR4 : NB w4 w.heap.size v4 (P3 ++ [rd k x]) := hR4
      rw [HTK.out] at hR4
      have HN4 := Aside0.mk hR4
      clear hR4 hB4 hg4 hat4 HN HE
      go_wp2_with fail
      go_roundw
      case rel => exact ⟨x + 1, rfl, ⟨by have := HLT.out; omega⟩, HN4, HE4⟩
      case measure => have := HLT.out; simp only [intOf]; omega
    · have hxe : x = n := by omega
      subst hxe
      have hL0e : k.take ((n : Int)).toNat = k := by rw [Int.toNat_natCast, HNN.out]; exact List.take_length
      rw [hL0e] at HN
      clear hL0e hlt g0 g1
      go_wp2_with fail
      go_ret
      exact ⟨_, rfl, HN.out, HE.out⟩

set_option maxRecDepth 100000 in
set_option maxHeartbeats 16000000 in
theorem lkeys_calls (w : World) (A A' : Option Addr) (c c' n m : Nat) (k t : List Int) (q : Int) (hn : n = k.length) (hm : m = t.length) (hT1 : Tab 1 w) (h2 : 2 ≤ w.heap.size) (hr : Kd.C kb w A n k) (hc : n ≤ c) (hr' : Kd.C kb w A' m t) (hc' : m ≤ c') (hq : -9223372036854775808 ≤ q ∧ q ≤ 9223372036854775807) :
    Calls Tryd.prog 9 #[.slice A n c, .slice A' m c', .int .i64 q] w fun e w' => e = .returned (.bool true) ∧ Ext w w' := by
  have HR := Aside0.mk hr
  have HR' := Aside0.mk hr'
  have HNN := Aside0.mk hn
  have HM := Aside0.mk hm
  have HT1 := Aside0.mk hT1
  have H2 := Aside0.mk h2
  have HQR := Aside0.mk hq
  clear hr hr' hn hm hT1 h2 hq
  by_cases hbig : n > 16384
  · have hz : ((16384 : Int) < (n : Int)) = True := eq_true (by omega)
    go_enter Tryd.func9, Tryd.ntmps9
    go_wp2_with fail
    refine (works_calls _ HT1.out H2.out).mono ?_
    rintro e w1 ⟨rfl, hE⟩
    have HE := Aside0.mk hE
    clear hE
    go_wp2
    go_ret
    exact ⟨rfl, HE.out⟩
  have hz : ((16384 : Int) < (n : Int)) = False := eq_false (by omega)
  by_cases hbig2 : m > 16384
  · have hz2 : ((16384 : Int) < (m : Int)) = True := eq_true (by omega)
    go_enter Tryd.func9, Tryd.ntmps9
    go_wp2_with fail
    refine (works_calls _ HT1.out H2.out).mono ?_
    rintro e w1 ⟨rfl, hE⟩
    have HE := Aside0.mk hE
    clear hE
    go_wp2
    go_ret
    exact ⟨rfl, HE.out⟩
  have hz2 : ((16384 : Int) < (m : Int)) = False := eq_false (by omega)
  have hsm : n ≤ 16384 := by omega
  have hsm2 : m ≤ 16384 := by omega
  clear hbig hbig2
  obtain ⟨D, hD⟩ : ∃ D, D = macF k t := ⟨_, rfl⟩
  have HD := Aside0.mk hD
  have HQ := Aside0.mk (sum_self D (by rw [hD, mac_len]) (by rw [hD]; exact mac_isB _ _))
  have HI := Aside0.mk (show (Tryd.prog.info? 26).map (·.size) = some (nums .u8 D).length by rw [nums_length, hD, mac_len]; kernel_rfl)
  have HSZ := Aside0.mk (show (nums .u8 zs).toArray.size = (nums .u8 D).length by rw [nums_length, hD, mac_len]; rfl)
  clear hD
  by_cases h64 : 64 < n
  · have hz3 : ((64 : Int) < (n : Int)) = True := eq_true (by omega)
    obtain ⟨F, hF⟩ : ∃ F, F = shaF k := ⟨_, rfl⟩
    have HF := Aside0.mk hF
    have HFL := Aside0.mk (show F.length = 32 by rw [hF, sha_len])
    have HIF := Aside0.mk (show (Tryd.prog.info? 26).map (·.size) = some (nums .u8 F).length by rw [nums_length, hF, sha_len]; kernel_rfl)
    have HSF := Aside0.mk (show (nums .u8 zs).toArray.size = (nums .u8 F).length by rw [nums_length, hF, sha_len]; rfl)
    have HML := Aside0.mk (show macF F t = D by rw [hF, mac_long k t (by rw [← HNN.out]; exact h64), HD.out])
    clear hF h64
    go_enter Tryd.func9, Tryd.ntmps9
    go_wp2_with fail
    refine (mac_calls w A A' c c' n m k t HT1.out H2.out HNN.out HR.out hc (by omega) HM.out HR'.out hc' (by omega)).mono ?_
    rintro e w2 ⟨rfl, hE2⟩
    rw [← HD.out]
    have HE2 := Aside0.mk hE2
    clear hE2
    go_wp2_with (first | ((with_reducible refine gate_store (ty := 26) rfl ?_); (refine store_at rfl 26 _ _ rfl w2.heap.size (nums .u8 D) rfl rfl _ 26 (Blk.new w2 #[Value.int .u8 0, Value.int .u8 0, Value.int .u8 0, Value.int .u8 0, Value.int .u8 0, Value.int .u8 0, Value.int .u8 0, Value.int .u8 0, Value.int .u8 0, Value.int .u8 0, Value.int .u8 0, Value.int .u8 0, Value.int .u8 0, Value.int .u8 0, Value.int .u8 0, Value.int .u8 0, Value.int .u8 0, Value.int .u8 0, Value.int .u8 0, Value.int .u8 0, Value.int .u8 0, Value.int .u8 0, Value.int .u8 0, Value.int .u8 0, Value.int .u8 0, Value.int .u8 0, Value.int .u8 0, Value.int .u8 0, Value.int .u8 0, Value.int .u8 0, Value.int .u8 0, Value.int .u8 0] 26) HSZ.out HI.out (one_cells _ _) ?_)) | fail)
    intro w3 hW3 hB3
    have hx3 := hW3.ext ((Ext.refl w2).alloc _) (Nat.le_refl _)
    have HB3 := Aside0.mk hB3
    have HE3 := Aside0.mk (HE2.out.trans hx3)
    clear hW3 hB3 hx3 HE2
    generalize w2.heap.size = b7 at HB3 ⊢
    go_wp2_with fail
    refine (of_calls w3 A c n k HNN.out (HT1.out.ext HE3.out) (Kd.C_below HR.out HE3.out) hc (by omega) (Nat.le_trans H2.out HE3.out.size)).mono ?_
    rintro e w4 ⟨rfl, hE4⟩
    rw [← HF.out]
    have HE4 := Aside0.mk (HE3.out.trans hE4)
    have HB4 := Aside0.mk (HB3.out.ext hE4)
    clear hE4 HE3 HB3
    go_wp2_with (first | ((with_reducible refine gate_store (ty := 26) rfl ?_); (refine store_at rfl 26 _ _ rfl w4.heap.size (nums .u8 F) rfl rfl _ 26 (Blk.new w4 #[Value.int .u8 0, Value.int .u8 0, Value.int .u8 0, Value.int .u8 0, Value.int .u8 0, Value.int .u8 0, Value.int .u8 0, Value.int .u8 0, Value.int .u8 0, Value.int .u8 0, Value.int .u8 0, Value.int .u8 0, Value.int .u8 0, Value.int .u8 0, Value.int .u8 0, Value.int .u8 0, Value.int .u8 0, Value.int .u8 0, Value.int .u8 0, Value.int .u8 0, Value.int .u8 0, Value.int .u8 0, Value.int .u8 0, Value.int .u8 0, Value.int .u8 0, Value.int .u8 0, Value.int .u8 0, Value.int .u8 0, Value.int .u8 0, Value.int .u8 0, Value.int .u8 0, Value.int .u8 0] 26) HSF.out HIF.out (one_cells _ _) ?_)) | fail)
    intro w5 hW5 hB5
    have hx5 := hW5.ext ((Ext.refl w4).alloc _) (Nat.le_refl _)
    have HE5 := Aside0.mk (HE4.out.trans hx5)
    have HB5 := Aside0.mk (HB4.out.ext hx5)
    have HCF := Aside0.mk (show Kd.C kb w5 (some ⟨w4.heap.size, 0, none⟩) 32 F by have h := C_of_blk hB5 (by rw [HFL.out]; decide); rwa [HFL.out] at h)
    clear hW5 hB5 hx5 HE4 HB4
    generalize w4.heap.size = b8 at HCF ⊢
    go_wp2_with fail
    apply wp_region_facts 9 [RF.val _, RF.val _, RF.val _, RF.val _, RF.val _, RF.val _, RF.val _, RF.val _, RF.val _]
    case hm => kernel_rfl
    case hB => kernel_rfl
    simp only [List.take_succ_cons, List.take_zero, List.zip_cons_cons, List.zip_nil_left]
    (first | refine wpF_val rfl (fun w' hE hD => by unfold Yld; go_simp; exact ⟨Ext.refl _, rfl⟩) ?_ | refine wpF_valg (by rfl) (fun w' hE hD => by unfold Yld; go_simp; exact ⟨Ext.refl _, rfl⟩) ?_)
    (try simp only [Act.put, List.setIfInBounds_toArray, List.set_cons_zero, List.set_cons_succ])
    (first | refine wpF_val rfl (fun w' hE hD => by unfold Yld; go_simp; exact ⟨Ext.refl _, rfl⟩) ?_ | refine wpF_valg (by rfl) (fun w' hE hD => by unfold Yld; go_simp; exact ⟨Ext.refl _, rfl⟩) ?_)
    (try simp only [Act.put, List.setIfInBounds_toArray, List.set_cons_zero, List.set_cons_succ])
    (first | refine wpF_val rfl (fun w' hE hD => by unfold Yld; go_simp; exact (mac_calls w' (some ⟨b8, 0, none⟩) A' 32 c' 32 m F t (HT1.out.ext (HE5.out.trans hE)) (Nat.le_trans H2.out (HE5.out.trans hE).size) HFL.out.symm (Kd.C_below HCF.out hE) (Nat.le_refl _) (by decide) HM.out (Kd.C_below HR'.out (HE5.out.trans hE)) hc' (by omega)).mono fun e w2 h => ⟨sumV D, by rw [h.1, HML.out], h.2, rfl⟩) ?_ | refine wpF_valg (by rfl) (fun w' hE hD => by unfold Yld; go_simp; exact (mac_calls w' (some ⟨b8, 0, none⟩) A' 32 c' 32 m F t (HT1.out.ext (HE5.out.trans hE)) (Nat.le_trans H2.out (HE5.out.trans hE).size) HFL.out.symm (Kd.C_below HCF.out hE) (Nat.le_refl _) (by decide) HM.out (Kd.C_below HR'.out (HE5.out.trans hE)) hc' (by omega)).mono fun e w2 h => ⟨sumV D, by rw [h.1, HML.out], h.2, rfl⟩) ?_)
    (try simp only [Act.put, List.setIfInBounds_toArray, List.set_cons_zero, List.set_cons_succ])
    (first | refine wpF_val rfl (fun w' hE hD => Yld_load 26 (.tmp 7) rfl b7 0 rfl (nums .u8 D) _ ((HB5.out.ext hE).range 0 _ [] (by simp)) Tryd.underlying26 rfl HI.out) ?_ | refine wpF_valg (by rfl) (fun w' hE hD => Yld_load 26 (.tmp 7) rfl b7 0 rfl (nums .u8 D) _ ((HB5.out.ext hE).range 0 _ [] (by simp)) Tryd.underlying26 rfl HI.out) ?_)
    (try simp only [Act.put, List.setIfInBounds_toArray, List.set_cons_zero, List.set_cons_succ])
    (first | refine wpF_val rfl (fun w' hE hD => Yld_eql 26 26 (.tmp 30) (.tmp 31) rfl (nums .u8 D).toArray (nums .u8 D).toArray rfl rfl (by kernel_rfl) true (HQ.out _)) ?_ | refine wpF_valg (by rfl) (fun w' hE hD => Yld_eql 26 26 (.tmp 30) (.tmp 31) rfl (nums .u8 D).toArray (nums .u8 D).toArray rfl rfl (by kernel_rfl) true (HQ.out _)) ?_)
    (try simp only [Act.put, List.setIfInBounds_toArray, List.set_cons_zero, List.set_cons_succ])
    (first | refine wpF_val rfl (fun w' hE hD => by unfold Yld; go_simp; exact ⟨Ext.refl _, rfl⟩) ?_ | refine wpF_valg (by rfl) (fun w' hE hD => by unfold Yld; go_simp; exact ⟨Ext.refl _, rfl⟩) ?_)
    (try simp only [Act.put, List.setIfInBounds_toArray, List.set_cons_zero, List.set_cons_succ])
    (first | refine wpF_val rfl (fun w' hE hD => by unfold Yld; go_simp; exact (works_calls w' (HT1.out.ext (HE5.out.trans hE)) (Nat.le_trans H2.out (HE5.out.trans hE).size)).mono fun e w2 h => ⟨_, h.1, h.2, rfl⟩) ?_ | refine wpF_valg (by rfl) (fun w' hE hD => by unfold Yld; go_simp; exact (works_calls w' (HT1.out.ext (HE5.out.trans hE)) (Nat.le_trans H2.out (HE5.out.trans hE).size)).mono fun e w2 h => ⟨_, h.1, h.2, rfl⟩) ?_)
    (try simp only [Act.put, List.setIfInBounds_toArray, List.set_cons_zero, List.set_cons_succ])
    (first | refine wpF_val rfl (fun w' hE hD => by unfold Yld; go_simp; exact ⟨Ext.refl _, rfl⟩) ?_ | refine wpF_valg (by rfl) (fun w' hE hD => by unfold Yld; go_simp; exact ⟨Ext.refl _, rfl⟩) ?_)
    (try simp only [Act.put, List.setIfInBounds_toArray, List.set_cons_zero, List.set_cons_succ])
    (first | refine wpF_val rfl (fun w' hE hD => by unfold Yld; go_simp; exact ⟨Ext.refl _, rfl⟩) ?_ | refine wpF_valg (by rfl) (fun w' hE hD => by unfold Yld; go_simp; exact ⟨Ext.refl _, rfl⟩) ?_)
    (try simp only [Act.put, List.setIfInBounds_toArray, List.set_cons_zero, List.set_cons_succ])
    refine wpF_nil fun w7 hE7 hA => ?_
    have HE7 := Aside0.mk (HE5.out.trans hE7)
    simp only [List.drop_succ_cons, List.drop_zero]
    clear hE7 hA
    go_wp2
    go_ret
    exact ⟨rfl, HE7.out⟩
  · have hz3 : ((64 : Int) < (n : Int)) = False := eq_false (by omega)
    have h64' : n ≤ 64 := by omega
    clear h64
    go_enter Tryd.func9, Tryd.ntmps9
    go_wp2_with fail
    refine (mac_calls w A A' c c' n m k t HT1.out H2.out HNN.out HR.out hc (by omega) HM.out HR'.out hc' (by omega)).mono ?_
    rintro e w2 ⟨rfl, hE2⟩
    rw [← HD.out]
    have HE2 := Aside0.mk hE2
    clear hE2
    go_wp2_with (first | ((with_reducible refine gate_store (ty := 26) rfl ?_); (refine store_at rfl 26 _ _ rfl w2.heap.size (nums .u8 D) rfl rfl _ 26 (Blk.new w2 #[Value.int .u8 0, Value.int .u8 0, Value.int .u8 0, Value.int .u8 0, Value.int .u8 0, Value.int .u8 0, Value.int .u8 0, Value.int .u8 0, Value.int .u8 0, Value.int .u8 0, Value.int .u8 0, Value.int .u8 0, Value.int .u8 0, Value.int .u8 0, Value.int .u8 0, Value.int .u8 0, Value.int .u8 0, Value.int .u8 0, Value.int .u8 0, Value.int .u8 0, Value.int .u8 0, Value.int .u8 0, Value.int .u8 0, Value.int .u8 0, Value.int .u8 0, Value.int .u8 0, Value.int .u8 0, Value.int .u8 0, Value.int .u8 0, Value.int .u8 0, Value.int .u8 0, Value.int .u8 0] 26) HSZ.out HI.out (one_cells _ _) ?_)) | fail)
    intro w3 hW3 hB3
    have hx3 := hW3.ext ((Ext.refl w2).alloc _) (Nat.le_refl _)
    have HB3 := Aside0.mk hB3
    have HE3 := Aside0.mk (HE2.out.trans hx3)
    clear hW3 hB3 hx3 HE2
    generalize w2.heap.size = b7 at HB3 ⊢
    go_wp2_with fail
    refine (copy_calls w3 A c n k HNN.out (Kd.C_below HR.out HE3.out) hc (by omega)).mono ?_
    rintro e w4 ⟨V4, rfl, hN4, hE4⟩
    have HX4 := Aside0.mk hE4
    have HN4 := Aside0.mk hN4
    clear hN4 hE4
    go_wp2_with fail
    refine (pick_at q (65 - (n : Int)) HQR.out.1 HQR.out.2 (by omega) (by omega) _).mono ?_
    rintro e w5 ⟨r, hrr, rfl, hE5⟩
    have HX5 := Aside0.mk (HX4.out.trans hE5)
    have HN5 := Aside0.mk (show NB w5 w3.heap.size V4 (k ++ List.replicate ((r : Int) - (r : Int)).toNat 0) by rw [Int.sub_self]; simpa using HN4.out.ext hE5)
    have HRR := Aside0.mk hrr
    clear hE5 HN4 HX4 hrr
    go_wp2_with fail
    go_loopw [9, 10] (fun u i wr => ∃ x : Int, i = .int .i64 x ∧ Aside0 (0 ≤ x ∧ x ≤ r) ∧ Aside0 (NB wr w3.heap.size u (k ++ List.replicate ((r : Int) - x).toNat 0)) ∧ Aside0 (Ext w3 wr)) (fun _ i _ => (intOf i).toNat)
    case atStart => exact ⟨r, rfl, ⟨by omega⟩, HN5, HX5⟩
    case round =>
      clear HN5 HX5
      obtain ⟨x, rfl, HXR, HN, HE⟩ := hrel
      obtain ⟨g0, g1⟩ := HXR.out
      have hrr := HRR.out
      obtain ⟨wx, hwx⟩ : ∃ wx : World, wx = wr := ⟨_, rfl⟩
      subst hwx
      by_cases hlt : 0 < x
      · have HLT := Aside0.mk (And.intro hlt g1)
        have HTK := Aside0.mk (show (k ++ List.replicate ((r : Int) - x).toNat 0) ++ [0] = k ++ List.replicate ((r : Int) - (x - 1)).toNat 0 by
          rw [List.append_assoc, ← List.replicate_succ', show ((r : Int) - (x - 1)).toNat = ((r : Int) - x).toNat + 1 by omega])
        have HTL := Aside0.mk (show (k ++ List.replicate ((r : Int) - x).toNat 0).length ≤ 1000 by rw [List.length_append, List.length_replicate, ← HNN.out]; omega)
        obtain ⟨A3, c3, hu3, _, _⟩ := HN.out.reads
        obtain ⟨L3, hL3⟩ : ∃ L3, L3 = (k ++ List.replicate ((r : Int) - x).toNat 0).length := ⟨_, rfl⟩
        rw [← hL3] at hu3
        subst hu3
        clear hL3
        obtain ⟨P3, hP3⟩ : ∃ P3, P3 = k ++ List.replicate ((r : Int) - x).toNat 0 := ⟨_, rfl⟩
        rw [← hP3] at HN HTK HTL
        clear hP3
        go_wp2_with (at_builtin; go_loud (refine Kd.R_append kb (w0 := wx) (w3.heap.size) rfl (.tmp 47) (.tmp 48) 22 5 _ 1 rfl Tryd.underlying22 PShaAdds.info5 rfl (by decide) (by decide) (.slice A3 L3 c3) P3 0 [.int .u8 0] (fun _ => True) (fun _ => False) rfl rfl ?c1 (fun _ h => h.elim) (fun _ _ => trivial) HN.out ?c2 ?c3 ?c4 ?_))
        case c1 => exact rfl
        case c2 => exact Below.refl _ _
        case c3 => exact HE.out.size
        case c4 => have := HTL.out; omega
        intro v4 w4 hR4 hB4 hg4 hat4
        have HE4 := Aside0.mk (show Ext w3 w4 from HE.out.trans4 hB4)
        replace hR4 : NB w4 w3.heap.size v4 (P3 ++ [0]) := hR4
        rw [HTK.out] at hR4
        have HN4 := Aside0.mk hR4
        clear hR4 hB4 hg4 hat4 HN HE
        go_wp2_with fail
        go_roundw
        case rel => exact ⟨x - 1, rfl, ⟨by have := HLT.out; omega⟩, HN4, HE4⟩
        case measure => have := HLT.out; simp only [intOf]; omega
      · have hxe : x = 0 := by omega
        subst hxe
        obtain ⟨P, hP⟩ : ∃ P, P = k ++ List.replicate ((r : Int) - 0).toNat 0 := ⟨_, rfl⟩
        rw [← hP] at HN
        have HML := Aside0.mk (show macF P t = D by rw [hP, mac_noughts k t _ (by rw [← HNN.out]; omega), HD.out])
        have hPL : P.length ≤ 64 := by rw [hP, List.length_append, List.length_replicate, ← HNN.out]; omega
        obtain ⟨A3, c3, hu3, hc3, hC3⟩ := HN.out.reads
        obtain ⟨L3, hL3⟩ : ∃ L3, L3 = P.length := ⟨_, rfl⟩
        rw [← hL3] at hu3 hc3 hC3 hPL
        subst hu3
        have HP3 := Aside0.mk (And.intro hL3 hC3)
        have HE5 := Aside0.mk (HE3.out.trans HE.out)
        have HB5 := Aside0.mk (HB3.out.ext HE.out)
        clear hL3 hC3 hP hlt g0 g1 HN HE hrr
        go_wp2_with fail
        apply wp_region_facts 9 [RF.val _, RF.val _, RF.val _, RF.val _, RF.val _, RF.val _, RF.val _, RF.val _, RF.val _]
        case hm => kernel_rfl
        case hB => kernel_rfl
        simp only [List.take_succ_cons, List.take_zero, List.zip_cons_cons, List.zip_nil_left]
        (first | refine wpF_val rfl (fun w' hE hD => by unfold Yld; go_simp; exact ⟨Ext.refl _, rfl⟩) ?_ | refine wpF_valg (by rfl) (fun w' hE hD => by unfold Yld; go_simp; exact ⟨Ext.refl _, rfl⟩) ?_)
        (try simp only [Act.put, List.setIfInBounds_toArray, List.set_cons_zero, List.set_cons_succ])
        (first | refine wpF_val rfl (fun w' hE hD => by unfold Yld; go_simp; exact ⟨Ext.refl _, rfl⟩) ?_ | refine wpF_valg (by rfl) (fun w' hE hD => by unfold Yld; go_simp; exact ⟨Ext.refl _, rfl⟩) ?_)
        (try simp only [Act.put, List.setIfInBounds_toArray, List.set_cons_zero, List.set_cons_succ])
        (first | refine wpF_val rfl (fun w' hE hD => by unfold Yld; go_simp; exact (mac_calls w' A3 A' c3 c' L3 m P t (HT1.out.ext (HE5.out.trans hE)) (Nat.le_trans H2.out (HE5.out.trans hE).size) HP3.out.1 (Kd.C_below HP3.out.2 hE) hc3 (by omega) HM.out (Kd.C_below HR'.out (HE5.out.trans hE)) hc' (by omega)).mono fun e w2 h => ⟨sumV D, by rw [h.1, HML.out], h.2, rfl⟩) ?_ | refine wpF_valg (by rfl) (fun w' hE hD => by unfold Yld; go_simp; exact (mac_calls w' A3 A' c3 c' L3 m P t (HT1.out.ext (HE5.out.trans hE)) (Nat.le_trans H2.out (HE5.out.trans hE).size) HP3.out.1 (Kd.C_below HP3.out.2 hE) hc3 (by omega) HM.out (Kd.C_below HR'.out (HE5.out.trans hE)) hc' (by omega)).mono fun e w2 h => ⟨sumV D, by rw [h.1, HML.out], h.2, rfl⟩) ?_)
        (try simp only [Act.put, List.setIfInBounds_toArray, List.set_cons_zero, List.set_cons_succ])
        (first | refine wpF_val rfl (fun w' hE hD => Yld_load 26 (.tmp 7) rfl b7 0 rfl (nums .u8 D) _ ((HB5.out.ext hE).range 0 _ [] (by simp)) Tryd.underlying26 rfl HI.out) ?_ | refine wpF_valg (by rfl) (fun w' hE hD => Yld_load 26 (.tmp 7) rfl b7 0 rfl (nums .u8 D) _ ((HB5.out.ext hE).range 0 _ [] (by simp)) Tryd.underlying26 rfl HI.out) ?_)
        (try simp only [Act.put, List.setIfInBounds_toArray, List.set_cons_zero, List.set_cons_succ])
        (first | refine wpF_val rfl (fun w' hE hD => Yld_eql 26 26 (.tmp 52) (.tmp 53) rfl (nums .u8 D).toArray (nums .u8 D).toArray rfl rfl (by kernel_rfl) true (HQ.out _)) ?_ | refine wpF_valg (by rfl) (fun w' hE hD => Yld_eql 26 26 (.tmp 52) (.tmp 53) rfl (nums .u8 D).toArray (nums .u8 D).toArray rfl rfl (by kernel_rfl) true (HQ.out _)) ?_)
        (try simp only [Act.put, List.setIfInBounds_toArray, List.set_cons_zero, List.set_cons_succ])
        (first | refine wpF_val rfl (fun w' hE hD => by unfold Yld; go_simp; exact ⟨Ext.refl _, rfl⟩) ?_ | refine wpF_valg (by rfl) (fun w' hE hD => by unfold Yld; go_simp; exact ⟨Ext.refl _, rfl⟩) ?_)
        (try simp only [Act.put, List.setIfInBounds_toArray, List.set_cons_zero, List.set_cons_succ])
        (first | refine wpF_val rfl (fun w' hE hD => by unfold Yld; go_simp; exact (works_calls w' (HT1.out.ext (HE5.out.trans hE)) (Nat.le_trans H2.out (HE5.out.trans hE).size)).mono fun e w2 h => ⟨_, h.1, h.2, rfl⟩) ?_ | refine wpF_valg (by rfl) (fun w' hE hD => by unfold Yld; go_simp; exact (works_calls w' (HT1.out.ext (HE5.out.trans hE)) (Nat.le_trans H2.out (HE5.out.trans hE).size)).mono fun e w2 h => ⟨_, h.1, h.2, rfl⟩) ?_)
        (try simp only [Act.put, List.setIfInBounds_toArray, List.set_cons_zero, List.set_cons_succ])
        (first | refine wpF_val rfl (fun w' hE hD => by unfold Yld; go_simp; exact ⟨Ext.refl _, rfl⟩) ?_ | refine wpF_valg (by rfl) (fun w' hE hD => by unfold Yld; go_simp; exact ⟨Ext.refl _, rfl⟩) ?_)
        (try simp only [Act.put, List.setIfInBounds_toArray, List.set_cons_zero, List.set_cons_succ])
        (first | refine wpF_val rfl (fun w' hE hD => by unfold Yld; go_simp; exact ⟨Ext.refl _, rfl⟩) ?_ | refine wpF_valg (by rfl) (fun w' hE hD => by unfold Yld; go_simp; exact ⟨Ext.refl _, rfl⟩) ?_)
        (try simp only [Act.put, List.setIfInBounds_toArray, List.set_cons_zero, List.set_cons_succ])
        refine wpF_nil fun w7 hE7 hA => ?_
        have HE7 := Aside0.mk (HE5.out.trans hE7)
        simp only [List.drop_succ_cons, List.drop_zero]
        clear hE7 hA
        go_wp2
        go_ret
        exact ⟨rfl, HE7.out⟩
end Go.Proofs.YtbnbncnmhhioeaaDoor.By
