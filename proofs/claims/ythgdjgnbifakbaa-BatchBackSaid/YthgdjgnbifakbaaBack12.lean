/- BatchBack: what Put lays down, Get takes. -/
import Derived.Test.YthgdjgnbifakbaaLc
namespace Go.Proofs.Ythgdjgnbifakbaa.By
open Go.RowKit Go.Proofs.Ythgdjgnbifakbaa.Reg Go.Proofs.YthgdjgnbifakbaaW.PrintWords Go.Proofs.YthgdjgnbifakbaaW.PrintLast Go.Proofs.YthgdjgnbifakbaaW.PrintMore
set_option linter.unusedVariables false
set_option linter.unusedSimpArgs false


set_option maxRecDepth 100000 in
set_option maxHeartbeats 8000000 in
theorem bback_calls (w : World) (A : Option Addr) (c n : Nat) (q : Smy) (hn : n = q.2.2.2.length) (hr : Kd.C kTh w A n q.2.2.2) (hc : n ≤ c) (hq : Smy.ok q) :
    Calls Try.prog 11 #[smyV q.1 q.2.1 q.2.2.1 (.slice A n c)] w fun e w' => e = .returned (.bool true) ∧ Ext w w' := by
  obtain ⟨st, pr, nx, es⟩ := q
  obtain ⟨hst, ⟨hp, hpB⟩, hnx, hes⟩ := hq
  dsimp only at *
  have HX := Aside0.mk hes
  have HN := Aside0.mk hn
  have HST := Aside0.mk hst
  have HNX := Aside0.mk hnx
  have HPL := Aside0.mk hp
  have HPB := Aside0.mk hpB
  have HK := Aside0.mk (Blk.new w (smyC st pr nx (.slice A n c)).toArray 58)
  have HE := Aside0.mk ((Ext.refl w).alloc (.cells (smyC st pr nx (.slice A n c)).toArray 58))
  have HC := Aside0.mk (Kd.C_below hr HE.out)
  have c34 := (smyBlk HK.out HPL.out).2.2.2
  have HIS := Aside0.mk (fun V => show (Try.prog.info? 58).map (·.size) = some (smyC st pr nx V).length by rw [smyC_len HPL.out]; kernel_rfl)
  have HSS := Aside0.mk (fun V => show #[Value.int .i64 0, Value.int .u8 0, Value.int .u8 0, Value.int .u8 0, Value.int .u8 0, Value.int .u8 0, Value.int .u8 0, Value.int .u8 0, Value.int .u8 0, Value.int .u8 0, Value.int .u8 0, Value.int .u8 0, Value.int .u8 0, Value.int .u8 0, Value.int .u8 0, Value.int .u8 0, Value.int .u8 0, Value.int .u8 0, Value.int .u8 0, Value.int .u8 0, Value.int .u8 0, Value.int .u8 0, Value.int .u8 0, Value.int .u8 0, Value.int .u8 0, Value.int .u8 0, Value.int .u8 0, Value.int .u8 0, Value.int .u8 0, Value.int .u8 0, Value.int .u8 0, Value.int .u8 0, Value.int .u8 0, Value.int .i64 0, Value.slice none 0 0].size = (smyC st pr nx V).length by rw [smyC_len HPL.out]; rfl)
  clear hst hp hpB hnx hes hn hr
  unfold smyV
  by_cases hbig : (300 : Int) < n
  · go_enter Try.func11, Try.ntmps11
    go_wp2_with fail
    refine (works_calls _).mono ?_
    rintro e w1 ⟨rfl, hE⟩
    go_wp2_with fail
    go_ret
    exact ⟨rfl, HE.out.trans hE⟩
  obtain ⟨F, hF⟩ : ∃ F, F = checkF st nx es := ⟨_, rfl⟩
  have HF := Aside0.mk hF
  obtain ⟨bs, hbs⟩ : ∃ b, b = outP st pr nx es := ⟨_, rfl⟩
  have HBS := Aside0.mk hbs
  have HPC := Aside0.mk (put_calls (w.alloc (.cells (smyC st pr nx (.slice A n c)).toArray 58)) st nx pr A c n es F hF HC.out hc HPL.out HX.out)
  rw [← hbs] at HPC
  have HRW := Aside0.mk HK.out.whole
  clear hF hbs HK
  go_enter Try.func11, Try.ntmps11
  go_wp2_with (first | ((with_reducible refine gate_load (ty := 58) rfl ?_); refine load_at rfl 58 _ rfl w.heap.size 0 rfl (smyC st pr nx (.slice A n c)) _ HRW.out Try.underlying58 rfl (HIS.out _) ?_) | fail)
  refine HPC.out.mono ?_
  rintro e w2 ⟨V, rfl, hN, hE⟩
  obtain ⟨A1, c1, hV, hc1, hC1⟩ := hN.reads
  obtain ⟨m, hm⟩ : ∃ m, m = bs.length := ⟨_, rfl⟩
  rw [← hm] at hV hc1 hC1
  subst hV
  have HM := Aside0.mk hm
  have HC1 := Aside0.mk hC1
  have HE2 := Aside0.mk (HE.out.trans hE)
  have HC2 := Aside0.mk (Kd.C_below HC.out hE)
  have HRW2 := Aside0.mk (rangeAt_ext HRW.out hE)
  replace c34 := Ext.cell hE c34
  clear hN hE hC1 hm HPC HRW HE HC
  generalize w.heap.size = b1 at HRW2 c34 ⊢
  have HRW := HRW2
  clear HRW2
  by_cases hF0 : F = 0
  · subst hF0
    have HB0 := Aside0.mk (show bs = smyB st pr nx es by rw [HBS.out]; unfold outP; rw [if_pos HF.out.symm])
    have HGP := Aside0.mk (get_put st nx pr es HST.out HNX.out HPL.out HX.out HF.out.symm)
    rw [← HB0.out] at HGP
    have HML := Aside0.mk (show m = 56 + 56 * n by rw [HM.out, HB0.out, smyB_len HPL.out HX.out, HN.out])
    have HN16 := Aside0.mk (show n ≤ 16 by rw [HN.out]; exact checkF_le HF.out.symm)
    have hm975 : (m : Int) ≤ 975 := by have := HML.out; have := HN16.out; omega
    have HGC := Aside0.mk (get_calls w2 A1 c1 m bs HM.out HC1.out hc1 (by rw [HB0.out]; exact smyB_isB HPB.out HX.out) (by have := HML.out; have := HN16.out; omega))
    rw [HGP.out.1, HGP.out.2.1, HGP.out.2.2.1, HGP.out.2.2.2.1, HGP.out.2.2.2.2] at HGC
    go_wp2_with fail
    refine HGC.out.mono ?_
    rintro e w3 ⟨V, rfl, hR, hE⟩
    obtain ⟨A2, c2, hV, hc2, hC2⟩ := EB.reads hR
    rw [← HN.out] at hV hc2 hC2
    subst hV
    have HD := Aside0.mk hC2
    have HE3 := Aside0.mk (HE2.out.trans hE)
    have HC3 := Aside0.mk (Kd.C_below HC2.out hE)
    have HRW3 := Aside0.mk (rangeAt_ext HRW.out hE)
    replace c34 := Ext.cell hE c34
    clear hE hR hC2 HGC HE2 HC2 HRW
    go_wp2_with (first | ((with_reducible refine gate_store (ty := 58) rfl ?_); (refine store_at rfl 58 _ _ rfl w3.heap.size (smyC st pr nx (.slice A2 n c2)) rfl rfl #[Value.int .i64 0, Value.int .u8 0, Value.int .u8 0, Value.int .u8 0, Value.int .u8 0, Value.int .u8 0, Value.int .u8 0, Value.int .u8 0, Value.int .u8 0, Value.int .u8 0, Value.int .u8 0, Value.int .u8 0, Value.int .u8 0, Value.int .u8 0, Value.int .u8 0, Value.int .u8 0, Value.int .u8 0, Value.int .u8 0, Value.int .u8 0, Value.int .u8 0, Value.int .u8 0, Value.int .u8 0, Value.int .u8 0, Value.int .u8 0, Value.int .u8 0, Value.int .u8 0, Value.int .u8 0, Value.int .u8 0, Value.int .u8 0, Value.int .u8 0, Value.int .u8 0, Value.int .u8 0, Value.int .u8 0, Value.int .i64 0, Value.slice none 0 0] 58 (Blk.new w3 _ 58) (HSS.out _) (HIS.out _) (smyC_one _ _ _ _ _ _) ?_)) | fail)
    intro w4 hW4 hB4
    have hx4 := hW4.ext ((Ext.refl w3).alloc _) (Nat.le_refl _)
    have HE4 := Aside0.mk (HE3.out.trans hx4)
    have HSM := Aside0.mk (sameS_calls w4 A2 A c2 c n n st st nx nx pr pr es es HN.out HN.out (Kd.C_below HD.out hx4) (Kd.C_below HC3.out hx4) HX.out HX.out (by have := HN16.out; omega) HPL.out HPL.out HPB.out HPB.out true (by simp))
    have HRW := Aside0.mk (rangeAt_ext HRW3.out hx4)
    have HRW2 := Aside0.mk hB4.whole
    clear hW4 hB4 hx4 HE3 HC3 HRW3 c34 HD
    generalize w3.heap.size = b2 at HRW2 ⊢
    go_wp2_with (first | ((with_reducible refine gate_load (ty := 58) rfl ?_); refine load_at rfl 58 _ rfl b1 0 rfl (smyC st pr nx (.slice A n c)) _ HRW.out Try.underlying58 rfl (HIS.out _) ?_) | ((with_reducible refine gate_load (ty := 58) rfl ?_); refine load_at rfl 58 _ rfl b2 0 rfl (smyC st pr nx (.slice A2 n c2)) _ HRW2.out Try.underlying58 rfl (HIS.out _) ?_) | fail)
    refine HSM.out.mono ?_
    rintro e w5 ⟨rfl, hE⟩
    have HE5 := Aside0.mk (HE4.out.trans hE)
    clear hE
    go_wp2_with fail
    refine (works_calls w5).mono ?_
    rintro e w6 ⟨rfl, hE⟩
    go_wp2_with fail
    go_ret
    exact ⟨rfl, HE5.out.trans hE⟩
  · have HM0 := Aside0.mk (show m = 0 by rw [HM.out, HBS.out]; unfold outP; rw [if_neg (by rw [← HF.out]; exact hF0)]; rfl)
    have hm0 := HM0.out
    subst hm0
    have hFe : (F == F) = true := by simp
    have HCK := Aside0.mk (check_calls w2 st nx pr A c n es HC2.out hc HPL.out HX.out)
    rw [← HF.out] at HCK
    go_wp2_with (first | ((with_reducible refine gate_load (ty := 58) rfl ?_); refine load_at rfl 58 _ rfl b1 0 rfl (smyC st pr nx (.slice A n c)) _ HRW.out Try.underlying58 rfl (HIS.out _) ?_) | fail)
    refine HCK.out.mono ?_
    rintro e w5 ⟨rfl, hE⟩
    have HE5 := Aside0.mk (HE2.out.trans hE)
    clear hE
    go_wp2_with fail
    refine (works_calls w5).mono ?_
    rintro e w6 ⟨rfl, hE⟩
    go_wp2_with fail
    go_ret
    exact ⟨rfl, HE5.out.trans hE⟩
end Go.Proofs.Ythgdjgnbifakbaa.By
