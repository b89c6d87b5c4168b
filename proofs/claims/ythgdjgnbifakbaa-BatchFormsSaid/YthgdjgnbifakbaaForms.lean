/- BatchForms: what Get takes, Put lays down. -/
import Derived.Test.YthgdjgnbifakbaaLc
namespace Go.Proofs.Ythgdjgnbifakbaa.By
open Go.RowKit Go.Proofs.Ythgdjgnbifakbaa.Reg Go.Proofs.YthgdjgnbifakbaaW.PrintWords Go.Proofs.YthgdjgnbifakbaaW.PrintLast Go.Proofs.YthgdjgnbifakbaaW.PrintMore
set_option linter.unusedVariables false
set_option linter.unusedSimpArgs false


set_option maxRecDepth 100000 in
set_option maxHeartbeats 8000000 in
theorem forms_calls (w : World) (A : Option Addr) (c n : Nat) (bs : List Int) (hn : n = bs.length) (hr : Kd.C kb w A n bs) (hc : n ≤ c) (hB : isB bs) :
    Calls Try.prog 12 #[.slice A n c] w fun e w' => e = .returned (.bool true) ∧ Ext w w' := by
  have HN := Aside0.mk hn
  have HR := Aside0.mk hr
  have HB := Aside0.mk hB
  clear hr hn hB
  by_cases hbig : (8192 : Int) < n
  · go_enter Try.func12, Try.ntmps12
    go_wp2_with fail
    refine (works_calls w).mono ?_
    rintro e w1 ⟨rfl, hE⟩
    go_wp2_with fail
    go_ret
    exact ⟨rfl, hE⟩
  have HGC := Aside0.mk (get_calls w A c n bs HN.out HR.out hc HB.out (by omega))
  have HOK := Aside0.mk (o_ok HB.out)
  have HPG := Aside0.mk (fun h => put_get HB.out h)
  have HOZ := Aside0.mk (fun h : ¬ gE bs = 0 => o_zero h)
  obtain ⟨st, hst⟩ : ∃ x, x = oSt bs := ⟨_, rfl⟩
  obtain ⟨pr, hpr⟩ : ∃ x, x = oPr bs := ⟨_, rfl⟩
  obtain ⟨nx, hnx⟩ : ∃ x, x = oNx bs := ⟨_, rfl⟩
  obtain ⟨es, hes⟩ : ∃ x, x = oEs bs := ⟨_, rfl⟩
  obtain ⟨F, hF⟩ : ∃ x, x = gE bs := ⟨_, rfl⟩
  rw [← hst, ← hpr, ← hnx, ← hes, ← hF] at HGC HPG HOZ
  rw [← hst, ← hpr, ← hnx, ← hes] at HOK
  clear hst hpr hnx hes hF
  go_enter Try.func12, Try.ntmps12
  go_wp2_with fail
  refine HGC.out.mono ?_
  rintro e w1 ⟨V, rfl, hR, hE⟩
  obtain ⟨A1, c1, hV, hc1, hC1⟩ := EB.reads hR
  obtain ⟨n1, hn1⟩ : ∃ x, x = es.length := ⟨_, rfl⟩
  rw [← hn1] at hV hc1 hC1
  subst hV
  have HN1 := Aside0.mk hn1
  have HE1 := Aside0.mk hE
  have HC1 := Aside0.mk hC1
  have HIS := Aside0.mk (show (Try.prog.info? 58).map (·.size) = some (smyC st pr nx (.slice A1 n1 c1)).length by rw [smyC_len HOK.out.2.1]; kernel_rfl)
  have HSS := Aside0.mk (show #[Value.int .i64 0, Value.int .u8 0, Value.int .u8 0, Value.int .u8 0, Value.int .u8 0, Value.int .u8 0, Value.int .u8 0, Value.int .u8 0, Value.int .u8 0, Value.int .u8 0, Value.int .u8 0, Value.int .u8 0, Value.int .u8 0, Value.int .u8 0, Value.int .u8 0, Value.int .u8 0, Value.int .u8 0, Value.int .u8 0, Value.int .u8 0, Value.int .u8 0, Value.int .u8 0, Value.int .u8 0, Value.int .u8 0, Value.int .u8 0, Value.int .u8 0, Value.int .u8 0, Value.int .u8 0, Value.int .u8 0, Value.int .u8 0, Value.int .u8 0, Value.int .u8 0, Value.int .u8 0, Value.int .u8 0, Value.int .i64 0, Value.slice none 0 0].size = (smyC st pr nx (.slice A1 n1 c1)).length by rw [smyC_len HOK.out.2.1]; rfl)
  clear hn1 hE hC1 hR HGC
  go_wp2_with (first | ((with_reducible refine gate_store (ty := 58) rfl ?_); (refine store_at rfl 58 _ _ rfl w1.heap.size (smyC st pr nx (.slice A1 n1 c1)) rfl rfl #[Value.int .i64 0, Value.int .u8 0, Value.int .u8 0, Value.int .u8 0, Value.int .u8 0, Value.int .u8 0, Value.int .u8 0, Value.int .u8 0, Value.int .u8 0, Value.int .u8 0, Value.int .u8 0, Value.int .u8 0, Value.int .u8 0, Value.int .u8 0, Value.int .u8 0, Value.int .u8 0, Value.int .u8 0, Value.int .u8 0, Value.int .u8 0, Value.int .u8 0, Value.int .u8 0, Value.int .u8 0, Value.int .u8 0, Value.int .u8 0, Value.int .u8 0, Value.int .u8 0, Value.int .u8 0, Value.int .u8 0, Value.int .u8 0, Value.int .u8 0, Value.int .u8 0, Value.int .u8 0, Value.int .u8 0, Value.int .i64 0, Value.slice none 0 0] 58 (Blk.new w1 _ 58) HSS.out HIS.out (smyC_one _ _ _ _ _ _) ?_)) | fail)
  intro w2 hW2 hB2
  have hx2 := hW2.ext ((Ext.refl w1).alloc _) (Nat.le_refl _)
  have HE2 := Aside0.mk (HE1.out.trans hx2)
  have HC2 := Aside0.mk (Kd.C_below HC1.out hx2)
  have HRW := Aside0.mk hB2.whole
  clear hW2 hB2 hx2 HE1 HC1
  generalize w1.heap.size = b3 at HRW ⊢
  by_cases hF0 : F = 0
  · subst hF0
    obtain ⟨hp1, hp2⟩ := HPG.out rfl
    have HPC := Aside0.mk (put_calls w2 st nx pr A1 c1 n1 es 0 hp2.symm HC2.out hc1 HOK.out.2.1 HOK.out.2.2.2.2)
    rw [show outP st pr nx es = bs by unfold outP; rw [if_pos hp2, hp1]] at HPC
    clear hp1 hp2
    go_wp2_with (first | ((with_reducible refine gate_load (ty := 58) rfl ?_); refine load_at rfl 58 _ rfl b3 0 rfl (smyC st pr nx (.slice A1 n1 c1)) _ HRW.out Try.underlying58 rfl HIS.out ?_) | fail)
    refine HPC.out.mono ?_
    rintro e w3 ⟨V, rfl, hN, hE⟩
    obtain ⟨A4, c4, hV, hc4, hC4⟩ := hN.reads
    rw [← HN.out] at hV hc4 hC4
    subst hV
    have HE3 := Aside0.mk (HE2.out.trans hE)
    have HSB := Aside0.mk (same_at w3 A4 A c4 c bs bs true HN.out HN.out (by simp) hC4 hc4 (Kd.C_below HR.out HE3.out) hc (by have := HN.out; omega))
    clear hN hE hC4 HPC
    go_wp2_with fail
    refine HSB.out.mono ?_
    rintro e w4 ⟨rfl, hE⟩
    have HE4 := Aside0.mk (HE3.out.trans hE)
    clear hE
    go_wp2_with fail
    refine (works_calls w4).mono ?_
    rintro e w5 ⟨rfl, hE⟩
    go_wp2_with fail
    go_ret
    exact ⟨rfl, HE4.out.trans hE⟩
  · have HZ := Aside0.mk (HOZ.out hF0)
    have HSM := Aside0.mk (sameS_calls w2 A1 none c1 0 n1 0 st 0 nx 0 pr zero32 es [] HN1.out rfl HC2.out (Kd.C_nil kTh w2) HOK.out.2.2.2.2 (fun e he => by cases he) (by rw [HN1.out, HZ.out.2.2.2]; exact Nat.zero_le _) HOK.out.2.1 zero32_length HOK.out.2.2.1 zero32_isB true (by rw [HZ.out.1, HZ.out.2.1, HZ.out.2.2.1, HZ.out.2.2.2]; simp))
    go_wp2_with (first | ((with_reducible refine gate_load (ty := 58) rfl ?_); refine load_at rfl 58 _ rfl b3 0 rfl (smyC st pr nx (.slice A1 n1 c1)) _ HRW.out Try.underlying58 rfl HIS.out ?_) | ((with_reducible refine gate_build (ty := 58) rfl ?_); refine build_at rfl 58 #[] rfl _ [] rfl built_smy0 ?_) | fail)
    refine HSM.out.mono ?_
    rintro e w4 ⟨rfl, hE⟩
    have HE4 := Aside0.mk (HE2.out.trans hE)
    clear hE
    go_wp2_with fail
    refine (works_calls w4).mono ?_
    rintro e w5 ⟨rfl, hE⟩
    go_wp2_with fail
    go_ret
    exact ⟨rfl, HE4.out.trans hE⟩
end Go.Proofs.Ythgdjgnbifakbaa.By
