/- PagePuts. -/
import Derived.Test.YtkjjkahdmlfflaaKnown13
import Derived.Test.YtkjjkahdmlfflaaPPagePutsx1
namespace Go.Proofs.Ytkjjkahdmlfflaa.By
open Go.RowKit Go.Proofs.Ytkjjkahdmlfflaa.Reg Go.Proofs.YtkjjkahdmlfflaaW.PrintWords Go.Proofs.YtkjjkahdmlfflaaW.PrintLast Go.Proofs.YtkjjkahdmlfflaaW.PrintMore
set_option linter.unusedVariables false

theorem leaf_same (b : Int) : ∃ r1 r2, PPagePuts.page_Leaf.f b = some (r1, r2) ∧ PPagePuts.rillref13_Leaf.f b = some (r1, r2) := by
  unfold PPagePuts.page_Leaf.f PPagePuts.rillref13_Leaf.f
  by_cases h0 : b < 0
  · exact ⟨0, 0, by rw [if_pos h0], by rw [if_pos h0]⟩
  · by_cases h1 : b ≥ 64
    · exact ⟨0, 0, by rw [if_neg h0, if_pos h1], by rw [if_neg h0, if_pos (by omega)]⟩
    · exact ⟨_, _, by rw [if_neg h0, if_neg h1], by rw [if_neg h0, if_neg (by omega), Int.add_comm]⟩

set_option maxRecDepth 100000 in
set_option maxHeartbeats 8000000 in
theorem pputs_calls (w : World) (index block : Int) (p : List Rf) (hp : Pok p) (S : Value) (hS : S = pageV p) :
    Calls Try.prog 13 #[.int .i64 index, S, .int .i64 block] w fun e w' => e = .returned (.bool true) ∧ Ext w w' := by
  subst hS
  have HP := Aside0.mk hp
  have HK0 := Aside0.mk (Blk.new w (pageC p).toArray 58)
  have HE0 := Aside0.mk ((Ext.refl w).alloc (.cells (pageC p).toArray 58))
  have HIP := Aside0.mk (wf_page hp).1
  unfold pageV
  clear hp
  obtain ⟨r1, r2, hl1, hl2⟩ := leaf_same block
  have HL1 := Aside0.mk hl1
  have HL2 := Aside0.mk hl2
  clear hl1 hl2
  go_enter Try.func13, Try.ntmps13
  go_wp2_with (first | ((with_reducible refine gate_load (ty := 58) rfl ?_); refine load_at rfl 58 _ rfl w.heap.size 0 rfl (pageC p) _ (HK0.out.range 0 (pageC p) [] (by simp)) Try.underlying58 rfl HIP.out ?_) | fail)
  refine (put_calls _ index p HP.out _ rfl).mono ?_
  rintro e w1 ⟨V, cV, rfl, hcV, ⟨X, k, c, rfl, hk, hkc, hC⟩, hE1⟩
  have HE1 := Aside0.mk (HE0.out.trans hE1)
  have HK1 := Aside0.mk (HK0.out.ext hE1)
  have HC1 := Aside0.mk hC
  have HK := Aside0.mk hk
  have HCV := Aside0.mk hcV
  clear hE1 hC hk hcV HE0 HK0
  go_wp2_with (first | ((with_reducible refine gate_load (ty := 58) rfl ?_); refine load_at rfl 58 _ rfl w.heap.size 0 rfl (pageC p) _ (HK1.out.range 0 (pageC p) [] (by simp)) Try.underlying58 rfl HIP.out ?_) | fail)
  refine (rput_calls _ index p HP.out _ rfl).mono ?_
  rintro e w2 ⟨V2, cV2, rfl, hcV2, ⟨Y, k2, d, rfl, hk2, hkd, hC2⟩, hE2⟩
  rw [← HCV.out] at hcV2
  rw [← HK.out] at hk2
  subst hk2
  subst hcV2
  have HE2 := Aside0.mk (HE1.out.trans hE2)
  have HK2 := Aside0.mk (HK1.out.ext hE2)
  have HC2 := Aside0.mk (Kd.C_below HC1.out hE2)
  have HD2 := Aside0.mk hC2
  clear hE2 hC2 HE1 HK1 HC1
  generalize hCC : cV2 = C at *
  clear hCC
  go_wp2_with fail
  refine (PPagePuts.page_Leaf.calls block r1 r2 w2 HL1.out).mono ?_
  rintro e w3 ⟨rfl, hD3⟩
  have hE3 : Ext w2 w3 := hD3.below
  have HE3 := Aside0.mk (HE2.out.trans hE3)
  have HK3 := Aside0.mk (HK2.out.ext hE3)
  have HC3 := Aside0.mk (Kd.C_below HC2.out hE3)
  have HD3 := Aside0.mk (Kd.C_below HD2.out hE3)
  clear hE3 hD3 HE2 HK2 HC2 HD2
  go_wp2_with fail
  refine (PPagePuts.rillref13_Leaf.calls block r1 r2 w3 HL2.out).mono ?_
  rintro e w4 ⟨rfl, hD4⟩
  have hE4 : Ext w3 w4 := hD4.below
  have HE4 := Aside0.mk (HE3.out.trans hE4)
  have HB4 := Aside0.mk (HK3.out.ext hE4)
  have HC4 := Aside0.mk (Kd.C_below HC3.out hE4)
  have HD4 := Aside0.mk (Kd.C_below HD3.out hE4)
  have hkm : k2 ≤ 9223372036854775806 := by
    have h := HK.out
    unfold putXs at h
    split at h
    · rw [h]
      unfold nodeB
      rw [List.length_append, be8_length, refsB_len p HP.out.2, HP.out.1]
      decide
    · rw [h]; decide
  have HKM := Aside0.mk hkm
  clear hE4 hD4 HE3 HK3 HC3 HD3 hkm
  go_wp2_with fail
  apply wp_region_facts 29 [RF.val (.int .i64 C), RF.val (.int .i64 C), RF.val (.bool true), RF.val (.bool true), RF.val (.slice X k2 c), RF.val (.slice Y k2 d), RF.val (.bool true), RF.val (.bool true), RF.val (.bool true), RF.val (pageV p), RF.val (.bool (decide (p = zeroP))), RF.val (pageV p), RF.val (.bool (decide (p = zeroP))), RF.val (.bool true), RF.val (.bool true), RF.val (.bool true), RF.val (.int .i64 r1), RF.val (.int .i64 r1), RF.val (.bool true), RF.val (.bool true), RF.val (.bool true), RF.val (.int .i64 r2), RF.val (.int .i64 r2), RF.val (.bool true), RF.val (.bool true), RF.val (.bool true), RF.val (.bool true), RF.val (.bool true), RF.val (.bool true)] (by kernel_rfl) (by kernel_rfl)
  simp only [List.take_succ_cons, List.take_zero, List.zip_cons_cons, List.zip_nil_left]
  iterate 6 ((first | apply wpF_val rfl | apply wpF_valg (by rfl)); (intro w' hE hD; unfold Yld; go_simp; exact ⟨Ext.refl _, rfl⟩); (try simp only [Act.put, List.setIfInBounds_toArray, List.set_cons_zero, List.set_cons_succ]))
  (first | apply wpF_val rfl | apply wpF_valg (by rfl)); (intro w' hE hD; unfold Yld; go_simp; exact (same_at w' X Y c d (putXs index p) (putXs index p) true HK.out HK.out (by simp) (Kd.C_below HC4.out hE) hkc (Kd.C_below HD4.out hE) hkd (by rw [← HK.out]; exact HKM.out)).mono fun e w2 h => ⟨_, h.1, h.2, rfl⟩); (try simp only [Act.put, List.setIfInBounds_toArray, List.set_cons_zero, List.set_cons_succ])
  iterate 2 ((first | apply wpF_val rfl | apply wpF_valg (by rfl)); (intro w' hE hD; unfold Yld; go_simp; exact ⟨Ext.refl _, rfl⟩); (try simp only [Act.put, List.setIfInBounds_toArray, List.set_cons_zero, List.set_cons_succ]))
  (first | apply wpF_val rfl | apply wpF_valg (by rfl)); (intro w' hE hD; exact Yld_load 58 (.tmp 4) rfl w.heap.size 0 rfl (pageC p) _ ((HB4.out.ext hE).range 0 (pageC p) [] (by simp)) Try.underlying58 rfl HIP.out); (try simp only [Act.put, List.setIfInBounds_toArray, List.set_cons_zero, List.set_cons_succ])
  (first | apply wpF_val rfl | apply wpF_valg (by rfl)); (intro w' hE hD; unfold Yld; go_simp; exact (empty_calls w' p HP.out _ rfl).mono fun e w2 h => ⟨_, h.1, h.2, rfl⟩); (try simp only [Act.put, List.setIfInBounds_toArray, List.set_cons_zero, List.set_cons_succ])
  (first | apply wpF_val rfl | apply wpF_valg (by rfl)); (intro w' hE hD; exact Yld_load 58 (.tmp 4) rfl w.heap.size 0 rfl (pageC p) _ ((HB4.out.ext hE).range 0 (pageC p) [] (by simp)) Try.underlying58 rfl HIP.out); (try simp only [Act.put, List.setIfInBounds_toArray, List.set_cons_zero, List.set_cons_succ])
  (first | apply wpF_val rfl | apply wpF_valg (by rfl)); (intro w' hE hD; unfold Yld; go_simp; exact (rempty_calls w' p HP.out _ rfl).mono fun e w2 h => ⟨_, h.1, h.2, rfl⟩); (try simp only [Act.put, List.setIfInBounds_toArray, List.set_cons_zero, List.set_cons_succ])
  iterate 13 ((first | apply wpF_val rfl | apply wpF_valg (by rfl)); (intro w' hE hD; unfold Yld; go_simp; exact ⟨Ext.refl _, rfl⟩); (try simp only [Act.put, List.setIfInBounds_toArray, List.set_cons_zero, List.set_cons_succ]))
  (first | apply wpF_val rfl | apply wpF_valg (by rfl)); (intro w' hE hD; unfold Yld; go_simp; exact (known13_calls w').mono fun e w2 h => ⟨_, h.1, h.2, rfl⟩); (try simp only [Act.put, List.setIfInBounds_toArray, List.set_cons_zero, List.set_cons_succ])
  iterate 2 ((first | apply wpF_val rfl | apply wpF_valg (by rfl)); (intro w' hE hD; unfold Yld; go_simp; exact ⟨Ext.refl _, rfl⟩); (try simp only [Act.put, List.setIfInBounds_toArray, List.set_cons_zero, List.set_cons_succ]))
  refine wpF_nil fun w5 hE hA => ?_
  have HE5 := Aside0.mk (HE4.out.trans hE)
  clear hA hE HE4
  simp only [List.drop_succ_cons, List.drop_zero]
  refine wpList_nil ?_
  go_wp2
  go_ret
  exact ⟨rfl, HE5.out⟩
end Go.Proofs.Ytkjjkahdmlfflaa.By
