/- PageOnly. -/
import Derived.Test.YtkjjkahdmlfflaaPlaw
namespace Go.Proofs.Ytkjjkahdmlfflaa.By
open Go.RowKit Go.Proofs.Ytkjjkahdmlfflaa.Reg Go.Proofs.YtkjjkahdmlfflaaW.PrintWords Go.Proofs.YtkjjkahdmlfflaaW.PrintLast Go.Proofs.YtkjjkahdmlfflaaW.PrintMore
set_option linter.unusedVariables false

theorem getP_pok (bs : List Int) (h : isB bs) : Pok (getP bs) := by
  unfold getP
  split
  · have := tkRefs_ok 8 (tkInt (bs, false)).2 (tkInt_isB h)
    exact ⟨this.1, this.2.1⟩
  · exact zeroP_ok

set_option maxRecDepth 100000 in
set_option maxHeartbeats 8000000 in
theorem ponly_calls (w : World) (A : Option Addr) (c n : Nat) (bs : List Int) (hn : n = bs.length) (hr : Kd.C kb w A n bs) (hc : n ≤ c) (hB : isB bs) :
    Calls Try.prog 11 #[.slice A n c] w fun e w' => e = .returned (.bool true) ∧ Ext w w' := by
  have HR := Aside0.mk hr
  have HN := Aside0.mk hn
  have HB := Aside0.mk hB
  clear hr hn hB
  by_cases hbig : n > 4096
  · have hz : ((4096 : Int) < (n : Int)) = True := eq_true (by omega)
    go_enter Try.func11, Try.ntmps11
    go_wp2_with fail
    refine (known13_calls _).mono ?_
    rintro e w1 ⟨rfl, hE⟩
    have HE := Aside0.mk hE
    clear hE
    go_wp2
    go_ret
    exact ⟨rfl, HE.out⟩
  have hz : ((4096 : Int) < (n : Int)) = False := eq_false (by omega)
  have hsm : n ≤ 4096 := by omega
  clear hbig
  have HPO := Aside0.mk (getP_pok bs HB.out)
  have HIP := Aside0.mk (wf_page HPO.out).1
  have HSP := Aside0.mk (show (pageC zeroP).toArray.size = (pageC (getP bs)).length by rw [show (pageC zeroP).toArray.size = (pageC zeroP).length from rfl, pageC_length _ HPO.out.2, HPO.out.1, pageC_length zeroP zeroP_ok.2]; rfl)
  obtain ⟨g, hg⟩ : ∃ g, g = getE bs := ⟨_, rfl⟩
  obtain ⟨N, hN⟩ : ∃ N, N = getN bs := ⟨_, rfl⟩
  obtain ⟨p, hp⟩ : ∃ p, p = getP bs := ⟨_, rfl⟩
  have HG := Aside0.mk hg
  have HNN := Aside0.mk hN
  have HPP := Aside0.mk hp
  go_enter Try.func11, Try.ntmps11
  go_wp2_with fail
  refine (get_calls w A c n bs HN.out HR.out hc HB.out (by omega)).mono ?_
  rintro e w1 ⟨rfl, hE1⟩
  rw [← hg, ← hN, ← hp]
  rw [← hp] at HPO HIP HSP
  have HE1 := Aside0.mk hE1
  clear hE1 hg hN hp
  by_cases h0 : g = 0
  · subst h0
    have HPG := Aside0.mk (put_get bs HB.out HG.out.symm)
    rw [← HNN.out, ← HPP.out] at HPG
    go_wp2_with (first | ((with_reducible refine gate_store (ty := 58) rfl ?_); (refine store_at rfl 58 _ _ rfl w1.heap.size (pageC p) rfl rfl _ 58 (Blk.new w1 (pageC zeroP).toArray 58) HSP.out HIP.out (one_page _) ?_)) | fail)
    intro w3 hW hB3
    have hx3 := hW.ext ((Ext.refl w1).alloc _) (Nat.le_refl _)
    have HB3 := Aside0.mk hB3
    have HE3 := Aside0.mk (HE1.out.trans hx3)
    clear hW hB3 hx3 HE1
    go_wp2_with (first | ((with_reducible refine gate_load (ty := 58) rfl ?_); refine load_at rfl 58 _ rfl w1.heap.size 0 rfl (pageC p) _ (HB3.out.range 0 _ [] (by simp)) Try.underlying58 rfl HIP.out ?_) | fail)
    refine (put_calls w3 N p HPO.out _ rfl).mono ?_
    rintro e w4 ⟨V, cE, rfl, hcE, ⟨X, k, d, rfl, hk, hkd, hC⟩, hE4⟩
    rw [(put_yes HPG.out.2).1] at hcE
    subst hcE
    rw [(put_yes HPG.out.2).2, HPG.out.1] at hk hC
    have HC := Aside0.mk hC
    have HE4 := Aside0.mk (HE3.out.trans hE4)
    have HK := Aside0.mk hk
    clear hC hE4 hk HE3 HB3
    go_wp2_with fail
    refine (same_at w4 A X c d bs bs true HN.out HK.out (by simp) (Kd.C_below HR.out HE4.out) hc HC.out hkd (by have := HK.out; have := HN.out; omega)).mono ?_
    rintro e w5 ⟨rfl, hE5⟩
    have HE5 := Aside0.mk (HE4.out.trans hE5)
    clear hE5 HE4
    go_wp2_with fail
    refine (known13_calls _).mono ?_
    rintro e w6 ⟨rfl, hE⟩
    have HE6 := Aside0.mk (HE5.out.trans hE)
    clear hE HE5
    go_wp2
    go_ret
    exact ⟨rfl, HE6.out⟩
  · have hz0 : decide (g = 0) = false := decide_eq_false h0
    have hno := get_no bs (HG.out ▸ h0)
    rw [← HNN.out, ← HPP.out] at hno
    obtain ⟨hN0, hP0⟩ := hno
    subst hN0
    subst hP0
    have HQ := Aside0.mk (fun W => by have := equal_page zeroP zeroP zeroP_ok zeroP_ok W; rwa [show decide (zeroP = zeroP) = true by simp] at this : ∀ W : World, (Op.equal 58 (pageV zeroP) (pageV zeroP)).run Try.prog W = .ok true W)
    go_wp2_with (first | ((with_reducible refine gate_store (ty := 58) rfl ?_); (refine store_at rfl 58 _ _ rfl w1.heap.size (pageC zeroP) rfl rfl _ 58 (Blk.new w1 (pageC zeroP).toArray 58) HSP.out HIP.out (one_page _) ?_)) | fail)
    intro w3 hW hB3
    have hx3 := hW.ext ((Ext.refl w1).alloc _) (Nat.le_refl _)
    have HB3 := Aside0.mk hB3
    have HE3 := Aside0.mk (HE1.out.trans hx3)
    clear hW hB3 hx3 HE1
    go_wp2_with (first | ((with_reducible refine gate_load (ty := 58) rfl ?_); refine load_at rfl 58 _ rfl w1.heap.size 0 rfl (pageC zeroP) _ (HB3.out.range 0 _ [] (by simp)) Try.underlying58 rfl HIP.out ?_) | ((with_reducible refine gate_build (ty := 58) rfl ?_); (refine build_at rfl 58 #[] rfl (pageC zeroP).toArray [] rfl built_page0 ?_)) | ((with_reducible refine gate_eql (ty := 58) rfl ?_); (refine eql_at rfl 58 58 _ _ rfl (pageC zeroP).toArray (pageC zeroP).toArray rfl rfl (by kernel_rfl) true (HQ.out _) ?_)) | fail)
    refine (known13_calls _).mono ?_
    rintro e w4 ⟨rfl, hE⟩
    have HE4 := Aside0.mk (HE3.out.trans hE)
    clear hE HE3
    go_wp2
    go_ret
    exact ⟨rfl, HE4.out⟩
end Go.Proofs.Ytkjjkahdmlfflaa.By
