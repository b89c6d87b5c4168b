/- The plain laws of nodes: what was put is got; what is got has just these bytes. -/
import Derived.Test.YtkjjkahdmlfflaaGetR
namespace Go.Proofs.Ytkjjkahdmlfflaa.By
open Go.RowKit Go.Proofs.Ytkjjkahdmlfflaa.Reg Go.Proofs.YtkjjkahdmlfflaaW.PrintWords Go.Proofs.YtkjjkahdmlfflaaW.PrintLast Go.Proofs.YtkjjkahdmlfflaaW.PrintMore
set_option linter.unusedVariables false

theorem tkInt_put (i : Int) (xs : List Int) (h0 : -9223372036854775808 ≤ i) (h1 : i ≤ 9223372036854775807) : tkInt (be8 i ++ xs, false) = (i, xs, false) := by
  unfold tkInt
  rw [if_neg (by rw [short_spec]; simp [be8_length])]
  simp only [List.take_left' (be8_length i), List.drop_left' (be8_length i), numI_be8 i h0 h1]
theorem tkRef_put (r : Rf) (xs : List Int) (h : Rf.ok r) : tkRef (refB r.1 r.2 ++ xs, false) = (r, xs, false) := by
  have hl := refB_len h
  unfold tkRef
  rw [if_neg (by rw [short_spec]; simp [hl])]
  simp only [List.take_left' hl, List.drop_left' hl]
  unfold refB
  rw [List.append_assoc, List.take_left' (be8_length _), List.drop_left' (be8_length _), numI_be8 _ h.1.1 h.1.2]
theorem tkRefs_put (p : List Rf) (hp : ∀ r ∈ p, Rf.ok r) (xs : List Int) : ∀ n, n ≤ p.length → tkRefs n (refsB p ++ xs, false) = (p.take n, refsB (p.drop n) ++ xs, false)
  | 0, _ => by simp [tkRefs]
  | n + 1, h => by
    have ih := tkRefs_put p hp xs n (by omega)
    have hn : n < p.length := by omega
    have hd : refsB (p.drop n) = refB p[n].1 p[n].2 ++ refsB (p.drop (n + 1)) := by
      unfold refsB
      rw [List.drop_eq_getElem_cons hn, List.flatMap_cons]
    have hr := tkRef_put p[n] (refsB (p.drop (n + 1)) ++ xs) (hp _ (List.getElem_mem hn))
    rw [← List.append_assoc, ← hd] at hr
    simp only [tkRefs, ih, hr]
    rw [List.take_succ_eq_append_getElem hn]
theorem get_put (i : Int) (p : List Rf) (hp : Pok p) (h0 : -9223372036854775808 ≤ i) (h1 : i ≤ 9223372036854775807) (hm : mayB i p = true) : getE (nodeB i p) = 0 ∧ getN (nodeB i p) = i ∧ getP (nodeB i p) = p := by
  have e1 : tkInt (nodeB i p, false) = (i, refsB p, false) := tkInt_put i (refsB p) h0 h1
  have e2 : tkRefs 8 (refsB p, false) = (p, [], false) := by
    have := tkRefs_put p hp.2 [] 8 (by rw [hp.1]; exact Nat.le_refl _)
    rw [List.append_nil, List.append_nil, List.take_of_length_le (by rw [hp.1]; exact Nat.le_refl _), List.drop_eq_nil_of_le (by rw [hp.1]; exact Nat.le_refl _)] at this
    exact this
  have hE : getE (nodeB i p) = 0 := by
    unfold getE getI
    rw [e1]
    simp only [e2]
    rw [if_pos (by rfl), if_pos hm]
  refine ⟨hE, ?_, ?_⟩
  · unfold getN; rw [if_pos hE, e1]
  · unfold getP; rw [if_pos hE, e1]; simp only [e2]
end Go.Proofs.Ytkjjkahdmlfflaa.By

/- The chapter's example of layer 13: a node, there and back. -/
namespace Go.Proofs.Ytkjjkahdmlfflaa.By
open Go.RowKit Go.Proofs.Ytkjjkahdmlfflaa.Reg Go.Proofs.YtkjjkahdmlfflaaW.PrintWords Go.Proofs.YtkjjkahdmlfflaaW.PrintLast Go.Proofs.YtkjjkahdmlfflaaW.PrintMore
set_option linter.unusedVariables false

def s12 : List Int := 1 :: 2 :: List.replicate 30 0
def r12 : Rf := (7, s12)
def p12 : List Rf := List.replicate 2 zeroR ++ r12 :: List.replicate 5 zeroR
theorem r12_ok : Rf.ok r12 := ⟨by decide, rfl, fun x hx => by
  simp only [r12, s12, List.mem_cons] at hx
  rcases hx with rfl | rfl | hx
  · decide
  · decide
  · rw [List.eq_of_mem_replicate hx]; decide⟩
theorem p12_ok : Pok p12 := ⟨rfl, fun r hr => by
  unfold p12 at hr
  rcases List.mem_append.1 hr with hr | hr
  · rw [List.eq_of_mem_replicate hr]; exact zeroR_ok
  · rcases List.mem_cons.1 hr with rfl | hr
    · exact r12_ok
    · rw [List.eq_of_mem_replicate hr]; exact zeroR_ok⟩
theorem built_s12 : Program.built Try.prog 24 [(0, .int .u8 1), (1, .int .u8 2)] = some (nums .u8 s12).toArray := by kernel_rfl
theorem splice12 : splice (pageC zeroP).toArray 66 (refC 7 s12) = (pageC p12).toArray :=
  page_splice (List.replicate 2 zeroR) (List.replicate 5 zeroR) zeroR r12 (fun r hr => by rw [List.eq_of_mem_replicate hr]; exact zeroR_ok) zeroR_ok r12_ok
theorem may12 : mayB 3 p12 = true := by decide
theorem ne12 : decide (p12 = zeroP) = false := by decide

set_option maxRecDepth 100000 in
set_option maxHeartbeats 8000000 in
theorem known13_calls (w : World) : Calls Try.prog 43 #[] w fun e w' => e = .returned (.bool true) ∧ Ext w w' := by
  have HK0 := Aside0.mk (Blk.new w (pageC zeroP).toArray 58)
  have HE0 := Aside0.mk ((Ext.refl w).alloc (.cells (pageC zeroP).toArray 58))
  have HI := Aside0.mk (show (Try.prog.info? 26).map (·.size) = some (refC 7 s12).length by kernel_rfl)
  have HIP := Aside0.mk (wf_page p12_ok).1
  have HSZ := Aside0.mk (show 66 + (refC 7 s12).length ≤ (pageC zeroP).toArray.size by decide)
  go_enter Try.func43, Try.ntmps43
  go_wp2_with (first | ((with_reducible refine gate_build (ty := 24) rfl ?_); (refine build_at rfl 24 #[(0, .const (.int .u8 1)), (1, .const (.int .u8 2))] rfl _ _ rfl built_s12 ?_)) | ((with_reducible refine gate_build (ty := 26) rfl ?_); (refine build_at rfl 26 #[(0, .const (.int .i64 7)), (1, .tmp 7)] rfl _ _ rfl (built_ref 7 s12 rfl) ?_)) | ((with_reducible refine gate_store (ty := 26) rfl ?_); (refine store_mid_at rfl 26 _ _ rfl w.heap.size 66 (refC 7 s12) rfl rfl _ 58 HK0.out HSZ.out HI.out (one_ref _ _) ?_)) | fail)
  intro w1 hW hB1
  rw [splice12] at hB1
  have HB1 := Aside0.mk hB1
  have HE1 := Aside0.mk (hW.ext HE0.out (Nat.le_refl _))
  clear hW hB1 HK0 HE0
  go_wp2_with (first | ((with_reducible refine gate_load (ty := 58) rfl ?_); refine load_at rfl 58 _ rfl w.heap.size 0 rfl (pageC p12) _ (HB1.out.range 0 (pageC p12) [] (by simp)) Try.underlying58 rfl HIP.out ?_) | fail)
  refine (put_calls w1 3 p12 p12_ok _ rfl).mono ?_
  rintro e w2 ⟨V, cE, rfl, hcE, ⟨X, k, c, rfl, hk, hkc, hC⟩, hE2⟩
  rw [(put_yes may12).1] at hcE
  subst hcE
  rw [(put_yes may12).2] at hk hC
  have hk' : k = 328 := by rw [hk]; rfl
  subst hk'
  have HC := Aside0.mk hC
  have HKN := Aside0.mk hk
  have HE2 := Aside0.mk (HE1.out.trans hE2)
  have HB2 := Aside0.mk (HB1.out.ext hE2)
  clear hC hE2 hk HE1 HB1
  go_wp2_with fail
  refine (get_calls w2 X c 328 (nodeB 3 p12) HKN.out HC.out hkc ((be8_isB 3).app (by
    intro x hx
    obtain ⟨r, hr, hx⟩ := List.mem_flatMap.1 hx
    exact ((be8_isB r.1).app (p12_ok.2 r hr).2.2) x hx)) (by decide)).mono ?_
  rintro e w3 ⟨rfl, hE3⟩
  obtain ⟨g1, g2, g3⟩ := get_put 3 p12 p12_ok (by decide) (by decide) may12
  rw [g1, g2, g3]
  have HE3 := Aside0.mk (HE2.out.trans hE3)
  have HB3 := Aside0.mk (HB2.out.ext hE3)
  clear hE3 HE2 HB2 g1 g2 g3 HC HKN
  have HSP := Aside0.mk (show (pageC zeroP).toArray.size = (pageC p12).length by decide)
  go_wp2_with (first | ((with_reducible refine gate_store (ty := 58) rfl ?_); (refine store_at rfl 58 _ _ rfl w3.heap.size (pageC p12) rfl rfl _ 58 (Blk.new w3 (pageC zeroP).toArray 58) HSP.out HIP.out (one_page _) ?_)) | fail)
  intro w4 hW hB4
  have hx4 := hW.ext ((Ext.refl w3).alloc _) (Nat.le_refl _)
  have HB4 := Aside0.mk hB4
  have HE4 := Aside0.mk (HE3.out.trans hx4)
  have HA4 := Aside0.mk (HB3.out.ext hx4)
  clear hW hB4 hx4 HE3 HB3
  have HQ := Aside0.mk (fun W => by have := equal_page p12 p12 p12_ok p12_ok W; rwa [show decide (p12 = p12) = true by simp] at this : ∀ W : World, (Op.equal 58 (pageV p12) (pageV p12)).run Try.prog W = .ok true W)
  go_wp2_with (first | ((with_reducible refine gate_load (ty := 58) rfl ?_); first | refine load_at rfl 58 _ rfl w.heap.size 0 rfl (pageC p12) _ (HA4.out.range 0 (pageC p12) [] (by simp)) Try.underlying58 rfl HIP.out ?_ | refine load_at rfl 58 _ rfl w3.heap.size 0 rfl (pageC p12) _ (HB4.out.range 0 (pageC p12) [] (by simp)) Try.underlying58 rfl HIP.out ?_) | ((with_reducible refine gate_eql (ty := 58) rfl ?_); (refine eql_at rfl 58 58 _ _ rfl (pageC p12).toArray (pageC p12).toArray rfl rfl (by kernel_rfl) true (HQ.out _) ?_)) | fail)
  refine (empty_calls w4 p12 p12_ok _ rfl).mono ?_
  rintro e w5 ⟨rfl, hE5⟩
  have HE5 := Aside0.mk (HE4.out.trans hE5)
  rw [ne12]
  clear hE5 HE4
  go_wp2_with (first | ((with_reducible refine gate_build (ty := 58) rfl ?_); (refine build_at rfl 58 #[] rfl (pageC zeroP).toArray [] rfl built_page0 ?_)) | fail)
  refine (empty_calls w5 zeroP zeroP_ok _ rfl).mono ?_
  rintro e w6 ⟨rfl, hE6⟩
  have HE6 := Aside0.mk (HE5.out.trans hE6)
  rw [show decide (zeroP = zeroP) = true by simp]
  clear hE6 HE5
  go_wp2
  go_ret
  exact ⟨rfl, HE6.out⟩
end Go.Proofs.Ytkjjkahdmlfflaa.By
