/- PageGets. -/
import Derived.Test.YtkjjkahdmlfflaaKnown13
namespace Go.Proofs.Ytkjjkahdmlfflaa.By
open Go.RowKit Go.Proofs.Ytkjjkahdmlfflaa.Reg Go.Proofs.YtkjjkahdmlfflaaW.PrintWords Go.Proofs.YtkjjkahdmlfflaaW.PrintLast Go.Proofs.YtkjjkahdmlfflaaW.PrintMore
set_option linter.unusedVariables false

theorem getP_ok (bs : List Int) (h : isB bs) : Pok (getP bs) := by
  unfold getP
  split
  · have := tkRefs_ok 8 (tkInt (bs, false)).2 (tkInt_isB h)
    exact ⟨this.1, this.2.1⟩
  · exact zeroP_ok

set_option maxRecDepth 100000 in
set_option maxHeartbeats 8000000 in
theorem gets_calls (w : World) (A : Option Addr) (c n : Nat) (bs : List Int) (hn : n = bs.length) (hr : Kd.C kb w A n bs) (hc : n ≤ c) (hB : isB bs) :
    Calls Try.prog 9 #[.slice A n c] w fun e w' => e = .returned (.bool true) ∧ Ext w w' := by
  have HR := Aside0.mk hr
  have HN := Aside0.mk hn
  have HB := Aside0.mk hB
  clear hr hn hB
  by_cases hbig : n > 4096
  · have hz : ((4096 : Int) < (n : Int)) = True := eq_true (by omega)
    go_enter Try.func9, Try.ntmps9
    go_wp2_with fail
    refine (known13_calls _).mono ?_
    rintro e w1 ⟨rfl, hE⟩
    have HE := Aside0.mk hE
    clear hE
    go_wp2
    go_ret
    exact ⟨rfl, HE.out⟩
  have hz : ((4096 : Int) < (n : Int)) = False := eq_false (by omega)
  have hsm : n ≤ 4096 := by omega
  obtain ⟨i0, hi0, _, hsz, _⟩ := info_parts PPackPuts.info5
  clear hbig
  have HPO := Aside0.mk (getP_ok bs HB.out)
  have HIP := Aside0.mk (wf_page HPO.out).1
  have HSP := Aside0.mk (show (pageC zeroP).toArray.size = (pageC (getP bs)).length by rw [show (pageC zeroP).toArray.size = (pageC zeroP).length from rfl, pageC_length _ HPO.out.2, HPO.out.1, pageC_length zeroP zeroP_ok.2]; rfl)
  have HQ := Aside0.mk (fun W => by have := equal_page (getP bs) (getP bs) HPO.out HPO.out W; rwa [show decide (getP bs = getP bs) = true by simp] at this : ∀ W : World, (Op.equal 58 (pageV (getP bs)) (pageV (getP bs))).run Try.prog W = .ok true W)
  go_enter Try.func9, Try.ntmps9
  go_wp2_with fail
  refine (lent_at w A c n bs HN.out HR.out hc (by omega)).mono ?_
  rintro e w1 ⟨B, d, rfl, hNB, hd, hCB, hCI, hE1⟩
  have HCB := Aside0.mk hCB
  have HCI := Aside0.mk hCI
  have HE1 := Aside0.mk hE1
  have hcut := cut_to (P := Try.prog) 22 5 .i64 Try.underlying22 hi0 B (n + 5) d (n : Int) (by omega) (by omega) hd
  rw [Int.toNat_natCast] at hcut
  clear hNB hCB hCI hi0 hsz hE1
  have hnd : n ≤ d := by omega
  go_wp2_with fail
  refine (get_calls w1 B d n bs HN.out HCI.out hnd HB.out (by omega)).mono ?_
  rintro e w2 ⟨rfl, hE2⟩
  have HE2 := Aside0.mk hE2
  clear hE2 hcut
  go_wp2_with (first | ((with_reducible refine gate_store (ty := 58) rfl ?_); (refine store_at rfl 58 _ _ rfl w2.heap.size (pageC (getP bs)) rfl rfl _ 58 (Blk.new w2 (pageC zeroP).toArray 58) HSP.out HIP.out (one_page _) ?_)) | fail)
  intro w3 hW hB3
  have hx3 := hW.ext ((Ext.refl w2).alloc _) (Nat.le_refl _)
  have HB3 := Aside0.mk hB3
  have HE3 := Aside0.mk (HE2.out.trans hx3)
  clear hW hB3 hx3 HE2
  go_wp2_with fail
  refine (rget_calls w3 A c n bs HN.out (Kd.C_below HR.out (HE1.out.trans HE3.out)) hc HB.out (by omega)).mono ?_
  rintro e w4 ⟨rfl, hE4⟩
  have HE4 := Aside0.mk (HE3.out.trans hE4)
  have HB4 := Aside0.mk (HB3.out.ext hE4)
  clear hE4 HE3 HB3
  go_wp2_with (first | ((with_reducible refine gate_store (ty := 58) rfl ?_); (refine store_at rfl 58 _ _ rfl w4.heap.size (pageC (getP bs)) rfl rfl _ 58 (Blk.new w4 (pageC zeroP).toArray 58) HSP.out HIP.out (one_page _) ?_)) | fail)
  intro w5 hW hC5
  have hx5 := hW.ext ((Ext.refl w4).alloc _) (Nat.le_refl _)
  have HC5 := Aside0.mk hC5
  have HB5 := Aside0.mk (HB4.out.ext hx5)
  have HE5 := Aside0.mk (HE4.out.trans hx5)
  clear hW hC5 hx5 HE4 HB4
  go_wp2_with (first | ((with_reducible refine gate_load (ty := 58) rfl ?_); first | refine load_at rfl 58 _ rfl w2.heap.size 0 rfl (pageC (getP bs)) _ (HB5.out.range 0 _ [] (by simp)) Try.underlying58 rfl HIP.out ?_ | refine load_at rfl 58 _ rfl w4.heap.size 0 rfl (pageC (getP bs)) _ (HC5.out.range 0 _ [] (by simp)) Try.underlying58 rfl HIP.out ?_) | ((with_reducible refine gate_eql (ty := 58) rfl ?_); (refine eql_at rfl 58 58 _ _ rfl (pageC (getP bs)).toArray (pageC (getP bs)).toArray rfl rfl (by kernel_rfl) true (HQ.out _) ?_)) | fail)
  refine (kept_n w5 B A d c n bs HN.out (Kd.C_below HCB.out HE5.out) hd (Kd.C_below HR.out (HE1.out.trans HE5.out)) hc (by omega)).mono ?_
  rintro e w6 ⟨rfl, hE6⟩
  have HE6 := Aside0.mk ((HE1.out.trans HE5.out).trans hE6)
  clear hE6 HE5
  go_wp2_with fail
  refine (known13_calls _).mono ?_
  rintro e w7 ⟨rfl, hE⟩
  have HE7 := Aside0.mk (HE6.out.trans hE)
  clear hE HE6
  go_wp2
  go_ret
  exact ⟨rfl, HE7.out⟩
end Go.Proofs.Ytkjjkahdmlfflaa.By
