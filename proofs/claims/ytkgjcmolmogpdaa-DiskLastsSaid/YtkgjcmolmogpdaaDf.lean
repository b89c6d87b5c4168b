/- Layer 7: DiskFails. -/
import Derived.Test.YtkgjcmolmogpdaaDk
namespace Go.Proofs.Ytkgjcmolmogpdaa.By
open Go.RowKit Go.Proofs.Ytkgjcmolmogpdaa.Reg Go.Proofs.YtkgjcmolmogpdaaW.PrintWords Go.Proofs.YtkgjcmolmogpdaaW.PrintLast Go.Proofs.YtkgjcmolmogpdaaW.PrintMore
set_option linter.unusedVariables false
set_option linter.unusedSimpArgs false


theorem RI_chg {w w' : World} {B : Nat} {S : Nat → Prop} {V : Value} {xs : List Int} (h : Kd.R kI 3 w B (fun _ => True) V xs) (k : Chg w w' S) (hs : ∀ j, S j → j < B) : Kd.R kI 3 w' B (fun _ => True) V xs :=
  Kd.R_mono (Kd.R_step (Kd.R_bound h) (fun j hok hlt => k.block j hlt (fun h => by have := hs j h; have := hok.2.1; omega))) (fun _ _ => trivial)
theorem dirty_len (g : Nat → Option (List Int)) (n : Nat) : (dirtyB g n).length ≤ n := by
  unfold dirtyB
  rw [List.length_map]
  exact Nat.le_trans (List.length_filter_le _ _) (by simp)
section
variable {w : World} {bd bl bc br n : Nat} {f : Nat → List Int} {g : Nat → Option (List Int)} {ar : Bool} {lf : Int} {of : Bool} {wt : Int} {rd : List Int}
/-- What an operation that draws on the disk's power leaves. -/
def Drew (w' : World) (bd bl bc br n : Nat) (g : Nat → Option (List Int)) (ar : Bool) (lf : Int) (of : Bool) (rd : List Int) : Prop :=
  ∃ f' g' wt', DB w' bd bl bc br n f' g' ar (spendL ar lf of) (downF ar lf of) wt' rd ∧ (downF ar lf of = true → g' = g)
theorem o_spend (h : DB w bd bl bc br n f g ar lf of wt rd) : Calls Try.prog 30 #[.pointer (some ⟨bd, 0, none⟩)] w fun e w' => e = .returned (.int .i64 (spendE ar lf of)) ∧ Drew w' bd bl bc br n g ar lf of rd ∧ Chg w w' (Dst bd bl bc br) :=
  (d_spend h).mono fun e w' ⟨he, hD, hC⟩ => ⟨he, ⟨f, g, wt, hD, fun _ => rfl⟩, hC⟩
theorem o_sync (h : DB w bd bl bc br n f g ar lf of wt rd) : Calls Try.prog 19 #[.pointer (some ⟨bd, 0, none⟩)] w fun e w' => e = .returned (.int .i64 (spendE ar lf of)) ∧ Drew w' bd bl bc br n g ar lf of rd ∧ Chg w w' (Dst bd bl bc br) := by
  unfold Drew
  cases hd : downF ar lf of with
  | true =>
    rw [(spendE_12 hd).1, (spendE_12 hd).2]
    exact (d_sync_spent h hd).mono fun e w' ⟨he, hD, hC⟩ => ⟨he, ⟨f, g, wt, hD, fun _ => rfl⟩, hC⟩
  | false =>
    rw [(spendE_0 hd).1, (spendE_0 hd).2]
    exact (d_sync h hd).mono fun e w' ⟨he, hD, hC⟩ => ⟨he, ⟨_, _, wt, hD, fun h => by cases h⟩, hC⟩
theorem o_write1 (h : DB w bd bl bc br n f g ar lf of wt rd) (i : Nat) (x : Int) (hi : i < n) : Calls Try.prog 18 #[.pointer (some ⟨bd, 0, none⟩), .int .i64 (i : Int), .slice (some ⟨w.heap.size, 0, none⟩) 1 1] (w.alloc (.cells #[.int .u8 x] 5)) fun e w' => e = .returned (.int .i64 (spendE ar lf of)) ∧ Drew w' bd bl bc br n g ar lf of rd ∧ Chg w w' (Dst bd bl bc br) := by
  unfold Drew
  cases of with
  | true =>
    have hd : downF ar lf true = true := rfl
    rw [(spendE_12 hd).1, (spendE_12 hd).2, hd]
    exact (d_write1d h i x).mono fun e w' ⟨he, hD, hC⟩ => ⟨he, ⟨f, g, wt, hD, fun _ => rfl⟩, hC⟩
  | false =>
    cases hd : downF ar lf false with
    | true =>
      rw [(spendE_12 hd).1, (spendE_12 hd).2]
      exact (d_write1s h i x hi hd).mono fun e w' ⟨he, hD, hC⟩ => ⟨he, ⟨f, g, wt, hD, fun _ => rfl⟩, hC⟩
    | false =>
      rw [(spendE_0 hd).1, (spendE_0 hd).2]
      exact (d_write1 h i x hi hd).mono fun e w' ⟨he, hD, hC⟩ => ⟨he, ⟨_, _, _, hD, fun h => by cases h⟩, hC⟩
/-- A Write beyond the disk: never 0, and nothing changes. -/
theorem o_write9 (h : DB w bd bl bc br n f g ar lf of wt rd) (i : Int) (hi : inB i n = false) : Calls Try.prog 18 #[.pointer (some ⟨bd, 0, none⟩), .int .i64 i, .slice none 0 0] w fun e w' => (∃ q : Int, e = .returned (.int .i64 q) ∧ (q == 0) = false) ∧ w = w' := by
  cases of with
  | true => exact (d_write_down h i none 0 0).mono fun e w' ⟨he, hw⟩ => ⟨⟨12, he, rfl⟩, hw⟩
  | false =>
    have hq : wrongF i n 0 = 7 := by unfold wrongF; rw [if_pos hi]
    exact (d_write_wrong h i none 0 0 7 hq (by decide)).mono fun e w' ⟨he, hw⟩ => ⟨⟨7, he, rfl⟩, hw⟩
end
def FInv (N x lf : Int) (of : Bool) : Prop := (of = false → lf = N - x ∧ x ≤ N) ∧ (of = true → N < x)
theorem FInv.down {N x lf : Int} {of : Bool} (h : FInv N x lf of) : downF true lf of = decide (N ≤ x) := by
  cases of with
  | true => have := h.2 rfl; rw [decide_eq_true (by omega)]; rfl
  | false =>
    have := h.1 rfl
    unfold downF
    by_cases e : N ≤ x
    · rw [decide_eq_true e, decide_eq_true (by omega : lf = 0)]; rfl
    · rw [decide_eq_false e, decide_eq_false (by omega : ¬ lf = 0)]; rfl
theorem FInv.next {N x lf : Int} {of : Bool} (h : FInv N x lf of) (h0 : 0 ≤ x) (hN : N < 1000) (x' : Int) (hx : x' = x + 1) : FInv N x' (spendL true lf of) (downF true lf of) := by
  subst hx
  rw [h.down]
  by_cases e : N ≤ x
  · rw [decide_eq_true e]
    exact ⟨fun h => (by cases h), fun _ => by omega⟩
  · have hd : downF true lf of = false := by rw [h.down, decide_eq_false e]
    rw [decide_eq_false e, (spendE_0 hd).2]
    have hof : of = false := by
      cases of with
      | false => rfl
      | true => cases hd
    have := h.1 hof
    exact ⟨fun _ => by rw [wrap64_in (by omega) (by omega)]; omega, fun h => by cases h⟩
set_option maxRecDepth 100000 in
set_option maxHeartbeats 2000000 in
theorem dfails_calls (w : World) (A : Option Addr) (m c : Nat) (xs : List Int) (hm : m = xs.length) (hr : Kd.C kI w A m xs) (hc : m ≤ c) (hB : ∀ y ∈ xs, -9223372036854775808 ≤ y ∧ y ≤ 9223372036854775807) (p : Int) (hp : -9223372036854775808 ≤ p ∧ p ≤ 9223372036854775807) :
    Calls Try.prog 6 #[.slice A m c, .int .i64 p] w fun e w' => e = .returned (.bool true) ∧ Ext w w' := by
  have HR := Aside0.mk hr
  have HM := Aside0.mk hm
  have HBB := Aside0.mk hB
  clear hr hm hB
  obtain ⟨N, hN⟩ : ∃ N, N = pickT p 100 := ⟨_, rfl⟩
  have hNr := pickT_range p 100 (by decide)
  rw [← hN] at hNr
  obtain ⟨hN0, hN1⟩ := hNr
  go_enter Try.func6, Try.ntmps6
  go_wp2_with fail
  refine (d_new w 9 (by decide) (by decide)).mono ?_
  rintro e w1 ⟨bd, bl, bc, br, rfl, hD, hE, hk⟩
  have HD1 := Aside0.mk hD
  have HE1 := Aside0.mk hE
  have HK := Aside0.mk hk
  clear hD hE hk
  go_wp2_with fail
  refine (pick_calls w1 p 100 N hp.1 hp.2 (by decide) hN).mono ?_
  rintro e w2 ⟨rfl, hE⟩
  have HD2 := Aside0.mk (HD1.out.ext hE)
  have HE2 := Aside0.mk (HE1.out.trans hE)
  clear hE HD1 HE1 hN
  go_wp2_with fail
  refine (d_arm HD2.out N).mono ?_
  rintro e w3 ⟨rfl, hD, hC⟩
  rw [show decide (0 ≤ N) = true from decide_eq_true hN0] at hD
  have HD3 := Aside0.mk hD
  have HE3 := Aside0.mk (hC.to_ext HE2.out HK.out)
  clear hD hC HD2 HE2
  go_wp2_with fail
  go_loopw [7] (fun i wr => ∃ x : Nat, i = .int .i64 x ∧ Aside0 (x ≤ m ∧ x ≤ 100) ∧ (∃ f g lf of wt, Aside0 (DB wr bd bl bc br 9 f g true lf of wt (List.replicate 9 0)) ∧ Aside0 (FInv N x lf of)) ∧ Aside0 (Ext w wr)) (fun i _ => 100 - (intOf i).toNat)
  case atStart => exact ⟨0, rfl, ⟨Nat.zero_le _, by decide⟩, ⟨_, _, _, _, _, HD3, ⟨fun _ => ⟨by simp, hN0⟩, fun h => by cases h⟩⟩, HE3⟩
  case round =>
    clear HD3 HE3
    obtain ⟨x, rfl, HX, ⟨f, g, lf, of, wt, HD, HF⟩, HE⟩ := hrel
    have g0 := HX.out
    obtain ⟨wx, hwx⟩ : ∃ wx : World, wx = wr := ⟨_, rfl⟩
    subst hwx
    by_cases hlt : x < m ∧ x < 100
    · have HXL := Aside0.mk hlt
      obtain ⟨hl1, hl2⟩ := hlt
      have hdj : decide ((x : Int) < (m : Int)) = true := decide_eq_true (by omega)
      have hdk : decide ((x : Int) < 100) = true := decide_eq_true (by omega)
      go_wp2_with fail
      refine (d_dirty HD.out).mono ?_
      rintro e w4 ⟨V1, rfl, hV, hE⟩
      have HV1 := Aside0.mk hV
      have HLT := Aside0.mk HD.out.lt
      have HD4 := Aside0.mk (HD.out.ext hE)
      have HE4 := Aside0.mk (HE.out.trans hE)
      clear hV hE HD HE
      obtain ⟨ad, had, hcell⟩ := at_k (Kd.C_below HR.out HE4.out) (x : Int) (by omega) (by omega)
      subst had
      rw [Int.toNat_natCast] at hcell
      obtain ⟨y, hy⟩ : ∃ y, y = Go.Proofs.YtkgjcmolmogpdaaW.PrintWords.rd xs (x : Int) := ⟨_, rfl⟩
      rw [← hy] at hcell
      have hyb : -9223372036854775808 ≤ y ∧ y ≤ 9223372036854775807 := by
        refine HBB.out y ?_
        have h1 : x < xs.length := by have := HM.out; omega
        rw [hy]
        unfold Go.Proofs.YtkgjcmolmogpdaaW.PrintWords.rd
        rw [Int.toNat_natCast, List.getD_eq_getElem?_getD, List.getElem?_eq_getElem h1]
        exact List.getElem_mem h1
      have HYB := Aside0.mk hyb
      clear hy hyb
      obtain ⟨r, hr⟩ : ∃ r, r = pickT y 3 := ⟨_, rfl⟩
      have hrr := pickT_range y 3 (by decide)
      rw [← hr] at hrr
      have HRR := Aside0.mk hrr
      clear hrr
      go_wp2_with fail
      refine (pick_calls w4 y 3 r HYB.out.1 HYB.out.2 (by decide) hr).mono ?_
      rintro e w5 ⟨rfl, hE⟩
      have HV5 := Aside0.mk (Kd.R_below HV1.out hE)
      have HD5 := Aside0.mk (HD4.out.ext hE)
      have HE5 := Aside0.mk (HE4.out.trans hE)
      clear hE HD4 HE4 HV1 hr hcell HYB
      have hrem : Int.tmod (x : Int) 9 = ((x % 9 : Nat) : Int) := by rw [Int.tmod_eq_emod_of_nonneg (by omega)]; omega
      have HQ := Aside0.mk (Nat.mod_lt x (show 0 < 9 by decide))
      generalize x % 9 = q at hrem HQ
      obtain ⟨E, hE0⟩ : ∃ E, E = spendE true lf of := ⟨_, rfl⟩
      have hdn := HF.out.down
      by_cases hNx : N ≤ x
      · have hd : downF true lf of = true := by rw [hdn, decide_eq_true hNx]
        rw [(spendE_12 hd).1] at hE0
        subst hE0
        have hlN : decide ((x : Int) < N) = false := decide_eq_false (by omega)
        have hgN : decide (N ≤ (x : Int)) = true := decide_eq_true hNx
        clear hdn
        have HDN := Aside0.mk hd
        clear hd
        obtain rfl | rfl | rfl : r = 0 ∨ r = 1 ∨ r = 2 := by have := HRR.out; omega
        · go_wp2_with fail
          refine (o_write1 HD5.out q _ HQ.out).mono ?_
          rintro e w6 ⟨rfl, ⟨f', g', wt', hD, hg⟩, hC⟩
          rw [(spendE_12 HDN.out).1]
          have hg' := hg HDN.out
          subst hg'
          have HF6 := Aside0.mk (HF.out.next (by omega) (by omega) _ rfl)
          rw [HDN.out] at hD HF6
          have HD6 := Aside0.mk hD
          have HE6 := Aside0.mk (hC.to_ext HE5.out HK.out)
          have HV6 := Aside0.mk (RI_chg HV5.out hC HLT.out)
          clear hD hC hg HE5 HD5 HV5 HF
          go_wp2_with fail
          refine (d_down HD6.out).mono ?_
          rintro e w7 ⟨rfl, rfl⟩
          go_wp2_with fail
          refine (d_dirty HD6.out).mono ?_
          rintro e w7 ⟨V2, rfl, hV2, hE⟩
          obtain ⟨A1, c1, hV1, hc1, hC1⟩ := Kd.R_reads (Kd.R_below HV6.out hE)
          obtain ⟨A2, c2, hV2', hc2, hC2⟩ := Kd.R_reads hV2
          have HSI := Aside0.mk (sameI_at w7 A1 A2 c1 c2 (dirtyB g' 9) (dirtyB g' 9) true rfl rfl (by simp) hC1 hc1 hC2 hc2 (by have := dirty_len g' 9; omega))
          rw [← hV1, ← hV2'] at HSI
          have HD7 := Aside0.mk (HD6.out.ext hE)
          have HE7 := Aside0.mk (HE6.out.trans hE)
          clear hV1 hV2' hC1 hC2 hV2 hE HD6 HE6 HV6 hc1 hc2
          go_wp2_with fail
          refine HSI.out.mono ?_
          rintro e w8 ⟨rfl, hE⟩
          have HD8 := Aside0.mk (HD7.out.ext hE)
          have HE8 := Aside0.mk (HE7.out.trans hE)
          clear hE HD7 HE7 HSI
          go_wp2_with fail
          refine (o_write9 HD8.out 9 rfl).mono ?_
          rintro e w9 ⟨⟨q9, rfl, hq9⟩, rfl⟩
          go_wp2_with fail
          go_roundw
          case rel => exact ⟨x + 1, by go_num, ⟨by have := HXL.out; omega⟩, ⟨_, _, _, _, _, HD8, HF6⟩, HE8⟩
          case measure => have := HXL.out; simp only [intOf]; omega
        · go_wp2_with fail
          refine (o_sync HD5.out).mono ?_
          rintro e w6 ⟨rfl, ⟨f', g', wt', hD, hg⟩, hC⟩
          rw [(spendE_12 HDN.out).1]
          have hg' := hg HDN.out
          subst hg'
          have HF6 := Aside0.mk (HF.out.next (by omega) (by omega) _ rfl)
          rw [HDN.out] at hD HF6
          have HD6 := Aside0.mk hD
          have HE6 := Aside0.mk (hC.to_ext HE5.out HK.out)
          have HV6 := Aside0.mk (RI_chg HV5.out hC HLT.out)
          clear hD hC hg HE5 HD5 HV5 HF
          go_wp2_with fail
          refine (d_down HD6.out).mono ?_
          rintro e w7 ⟨rfl, rfl⟩
          go_wp2_with fail
          refine (d_dirty HD6.out).mono ?_
          rintro e w7 ⟨V2, rfl, hV2, hE⟩
          obtain ⟨A1, c1, hV1, hc1, hC1⟩ := Kd.R_reads (Kd.R_below HV6.out hE)
          obtain ⟨A2, c2, hV2', hc2, hC2⟩ := Kd.R_reads hV2
          have HSI := Aside0.mk (sameI_at w7 A1 A2 c1 c2 (dirtyB g' 9) (dirtyB g' 9) true rfl rfl (by simp) hC1 hc1 hC2 hc2 (by have := dirty_len g' 9; omega))
          rw [← hV1, ← hV2'] at HSI
          have HD7 := Aside0.mk (HD6.out.ext hE)
          have HE7 := Aside0.mk (HE6.out.trans hE)
          clear hV1 hV2' hC1 hC2 hV2 hE HD6 HE6 HV6 hc1 hc2
          go_wp2_with fail
          refine HSI.out.mono ?_
          rintro e w8 ⟨rfl, hE⟩
          have HD8 := Aside0.mk (HD7.out.ext hE)
          have HE8 := Aside0.mk (HE7.out.trans hE)
          clear hE HD7 HE7 HSI
          go_wp2_with fail
          refine (o_write9 HD8.out 9 rfl).mono ?_
          rintro e w9 ⟨⟨q9, rfl, hq9⟩, rfl⟩
          go_wp2_with fail
          go_roundw
          case rel => exact ⟨x + 1, by go_num, ⟨by have := HXL.out; omega⟩, ⟨_, _, _, _, _, HD8, HF6⟩, HE8⟩
          case measure => have := HXL.out; simp only [intOf]; omega
        · go_wp2_with fail
          refine (o_spend HD5.out).mono ?_
          rintro e w6 ⟨rfl, ⟨f', g', wt', hD, hg⟩, hC⟩
          rw [(spendE_12 HDN.out).1]
          have hg' := hg HDN.out
          subst hg'
          have HF6 := Aside0.mk (HF.out.next (by omega) (by omega) _ rfl)
          rw [HDN.out] at hD HF6
          have HD6 := Aside0.mk hD
          have HE6 := Aside0.mk (hC.to_ext HE5.out HK.out)
          have HV6 := Aside0.mk (RI_chg HV5.out hC HLT.out)
          clear hD hC hg HE5 HD5 HV5 HF
          go_wp2_with fail
          refine (d_down HD6.out).mono ?_
          rintro e w7 ⟨rfl, rfl⟩
          go_wp2_with fail
          refine (d_dirty HD6.out).mono ?_
          rintro e w7 ⟨V2, rfl, hV2, hE⟩
          obtain ⟨A1, c1, hV1, hc1, hC1⟩ := Kd.R_reads (Kd.R_below HV6.out hE)
          obtain ⟨A2, c2, hV2', hc2, hC2⟩ := Kd.R_reads hV2
          have HSI := Aside0.mk (sameI_at w7 A1 A2 c1 c2 (dirtyB g' 9) (dirtyB g' 9) true rfl rfl (by simp) hC1 hc1 hC2 hc2 (by have := dirty_len g' 9; omega))
          rw [← hV1, ← hV2'] at HSI
          have HD7 := Aside0.mk (HD6.out.ext hE)
          have HE7 := Aside0.mk (HE6.out.trans hE)
          clear hV1 hV2' hC1 hC2 hV2 hE HD6 HE6 HV6 hc1 hc2
          go_wp2_with fail
          refine HSI.out.mono ?_
          rintro e w8 ⟨rfl, hE⟩
          have HD8 := Aside0.mk (HD7.out.ext hE)
          have HE8 := Aside0.mk (HE7.out.trans hE)
          clear hE HD7 HE7 HSI
          go_wp2_with fail
          refine (o_write9 HD8.out 9 rfl).mono ?_
          rintro e w9 ⟨⟨q9, rfl, hq9⟩, rfl⟩
          go_wp2_with fail
          go_roundw
          case rel => exact ⟨x + 1, by go_num, ⟨by have := HXL.out; omega⟩, ⟨_, _, _, _, _, HD8, HF6⟩, HE8⟩
          case measure => have := HXL.out; simp only [intOf]; omega
      · have hd : downF true lf of = false := by rw [hdn, decide_eq_false hNx]
        rw [(spendE_0 hd).1] at hE0
        subst hE0
        have hlN : decide ((x : Int) < N) = true := decide_eq_true (by omega)
        have hgN : decide (N ≤ (x : Int)) = false := decide_eq_false hNx
        clear hdn
        have HDN := Aside0.mk hd
        clear hd
        obtain rfl | rfl | rfl : r = 0 ∨ r = 1 ∨ r = 2 := by have := HRR.out; omega
        · go_wp2_with fail
          refine (o_write1 HD5.out q _ HQ.out).mono ?_
          rintro e w6 ⟨rfl, ⟨f', g', wt', hD, hg⟩, hC⟩
          rw [(spendE_0 HDN.out).1]
          have HF6 := Aside0.mk (HF.out.next (by omega) (by omega) _ rfl)
          rw [HDN.out] at hD HF6
          have HD8 := Aside0.mk hD
          have HE8 := Aside0.mk (hC.to_ext HE5.out HK.out)
          clear hD hC hg HE5 HD5 HV5 HF
          go_wp2_with fail
          refine (d_down HD8.out).mono ?_
          rintro e w7 ⟨rfl, rfl⟩
          go_wp2_with fail
          refine (o_write9 HD8.out 9 rfl).mono ?_
          rintro e w9 ⟨⟨q9, rfl, hq9⟩, rfl⟩
          go_wp2_with fail
          go_roundw
          case rel => exact ⟨x + 1, by go_num, ⟨by have := HXL.out; omega⟩, ⟨_, _, _, _, _, HD8, HF6⟩, HE8⟩
          case measure => have := HXL.out; simp only [intOf]; omega
        · go_wp2_with fail
          refine (o_sync HD5.out).mono ?_
          rintro e w6 ⟨rfl, ⟨f', g', wt', hD, hg⟩, hC⟩
          rw [(spendE_0 HDN.out).1]
          have HF6 := Aside0.mk (HF.out.next (by omega) (by omega) _ rfl)
          rw [HDN.out] at hD HF6
          have HD8 := Aside0.mk hD
          have HE8 := Aside0.mk (hC.to_ext HE5.out HK.out)
          clear hD hC hg HE5 HD5 HV5 HF
          go_wp2_with fail
          refine (d_down HD8.out).mono ?_
          rintro e w7 ⟨rfl, rfl⟩
          go_wp2_with fail
          refine (o_write9 HD8.out 9 rfl).mono ?_
          rintro e w9 ⟨⟨q9, rfl, hq9⟩, rfl⟩
          go_wp2_with fail
          go_roundw
          case rel => exact ⟨x + 1, by go_num, ⟨by have := HXL.out; omega⟩, ⟨_, _, _, _, _, HD8, HF6⟩, HE8⟩
          case measure => have := HXL.out; simp only [intOf]; omega
        · go_wp2_with fail
          refine (o_spend HD5.out).mono ?_
          rintro e w6 ⟨rfl, ⟨f', g', wt', hD, hg⟩, hC⟩
          rw [(spendE_0 HDN.out).1]
          have HF6 := Aside0.mk (HF.out.next (by omega) (by omega) _ rfl)
          rw [HDN.out] at hD HF6
          have HD8 := Aside0.mk hD
          have HE8 := Aside0.mk (hC.to_ext HE5.out HK.out)
          clear hD hC hg HE5 HD5 HV5 HF
          go_wp2_with fail
          refine (d_down HD8.out).mono ?_
          rintro e w7 ⟨rfl, rfl⟩
          go_wp2_with fail
          refine (o_write9 HD8.out 9 rfl).mono ?_
          rintro e w9 ⟨⟨q9, rfl, hq9⟩, rfl⟩
          go_wp2_with fail
          go_roundw
          case rel => exact ⟨x + 1, by go_num, ⟨by have := HXL.out; omega⟩, ⟨_, _, _, _, _, HD8, HF6⟩, HE8⟩
          case measure => have := HXL.out; simp only [intOf]; omega
    · have HXX := Aside0.mk (show ¬ (x < m) ∨ ¬ (x < 100) from by omega)
      rcases HXX.out with hx1 | hx2
      · have hdj : decide ((x : Int) < (m : Int)) = false := decide_eq_false (by omega)
        go_wp2_with fail
        refine (d_tamper1 HD.out 3 77 (by decide)).mono ?_
        rintro e w4 ⟨rfl, hD, hC⟩
        have HD4 := Aside0.mk hD
        have HE4 := Aside0.mk (hC.to_ext HE.out HK.out)
        clear hD hC HD HE HF
        go_wp2_with fail
        refine (d_read HD4.out 3 (by decide)).mono ?_
        rintro e w5 ⟨U, rfl, hU, hD, hC⟩
        replace hU : NB w5 w4.heap.size U [77] := by simpa [atB, upd] using hU
        have HU := Aside0.mk hU
        have HE5 := Aside0.mk (hC.to_ext HE4.out HK.out)
        clear hD hC hU HD4 HE4
        obtain ⟨A1, n1, c1, hV1⟩ := HU.out.isSl
        subst hV1
        go_wp2_with fail
        refine (same1 (w0 := w) HU.out (by decide) 77 true rfl).mono ?_
        rintro e w6 ⟨rfl, hE⟩
        have HE6 := Aside0.mk (HE5.out.trans hE)
        clear hE HE5 HU
        go_wp2_with fail
        refine (known_calls w6).mono ?_
        rintro e w7 ⟨rfl, hE⟩
        have HE7 := Aside0.mk (HE6.out.trans hE)
        clear hE HE6
        go_wp2
        go_ret
        exact ⟨rfl, HE7.out⟩
      · by_cases hx1 : x < m
        · have hdj : decide ((x : Int) < (m : Int)) = true := decide_eq_true (by omega)
          have hdk : decide ((x : Int) < 100) = false := decide_eq_false (by omega)
          go_wp2_with fail
          refine (d_tamper1 HD.out 3 77 (by decide)).mono ?_
          rintro e w4 ⟨rfl, hD, hC⟩
          have HD4 := Aside0.mk hD
          have HE4 := Aside0.mk (hC.to_ext HE.out HK.out)
          clear hD hC HD HE HF
          go_wp2_with fail
          refine (d_read HD4.out 3 (by decide)).mono ?_
          rintro e w5 ⟨U, rfl, hU, hD, hC⟩
          replace hU : NB w5 w4.heap.size U [77] := by simpa [atB, upd] using hU
          have HU := Aside0.mk hU
          have HE5 := Aside0.mk (hC.to_ext HE4.out HK.out)
          clear hD hC hU HD4 HE4
          obtain ⟨A1, n1, c1, hV1⟩ := HU.out.isSl
          subst hV1
          go_wp2_with fail
          refine (same1 (w0 := w) HU.out (by decide) 77 true rfl).mono ?_
          rintro e w6 ⟨rfl, hE⟩
          have HE6 := Aside0.mk (HE5.out.trans hE)
          clear hE HE5 HU
          go_wp2_with fail
          refine (known_calls w6).mono ?_
          rintro e w7 ⟨rfl, hE⟩
          have HE7 := Aside0.mk (HE6.out.trans hE)
          clear hE HE6
          go_wp2
          go_ret
          exact ⟨rfl, HE7.out⟩
        · have hdj : decide ((x : Int) < (m : Int)) = false := decide_eq_false (by omega)
          go_wp2_with fail
          refine (d_tamper1 HD.out 3 77 (by decide)).mono ?_
          rintro e w4 ⟨rfl, hD, hC⟩
          have HD4 := Aside0.mk hD
          have HE4 := Aside0.mk (hC.to_ext HE.out HK.out)
          clear hD hC HD HE HF
          go_wp2_with fail
          refine (d_read HD4.out 3 (by decide)).mono ?_
          rintro e w5 ⟨U, rfl, hU, hD, hC⟩
          replace hU : NB w5 w4.heap.size U [77] := by simpa [atB, upd] using hU
          have HU := Aside0.mk hU
          have HE5 := Aside0.mk (hC.to_ext HE4.out HK.out)
          clear hD hC hU HD4 HE4
          obtain ⟨A1, n1, c1, hV1⟩ := HU.out.isSl
          subst hV1
          go_wp2_with fail
          refine (same1 (w0 := w) HU.out (by decide) 77 true rfl).mono ?_
          rintro e w6 ⟨rfl, hE⟩
          have HE6 := Aside0.mk (HE5.out.trans hE)
          clear hE HE5 HU
          go_wp2_with fail
          refine (known_calls w6).mono ?_
          rintro e w7 ⟨rfl, hE⟩
          have HE7 := Aside0.mk (HE6.out.trans hE)
          clear hE HE6
          go_wp2
          go_ret
          exact ⟨rfl, HE7.out⟩
end Go.Proofs.Ytkgjcmolmogpdaa.By
