/- Layer 7: DiskPlays. -/
import Derived.Test.YtkgjcmolmogpdaaDq
namespace Go.Proofs.Ytkgjcmolmogpdaa.By
open Go.RowKit Go.Proofs.Ytkgjcmolmogpdaa.Reg Go.Proofs.YtkgjcmolmogpdaaW.PrintWords Go.Proofs.YtkgjcmolmogpdaaW.PrintLast Go.Proofs.YtkgjcmolmogpdaaW.PrintMore
set_option linter.unusedVariables false
set_option linter.unusedSimpArgs false


theorem row_at {α : Type} {d : Kd α} {w : World} {A : Option Addr} {n : Nat} {L : List α} (h : Kd.C d w A n L) (hz : 0 < d.sz) (i : Nat) (hi : i < n) (p : α) (hp : L[i]? = some p) : ∃ b off cs, A = some ⟨b, off, none⟩ ∧ cs.length = d.sz ∧ d.K w p cs ∧ w.rangeAt b (off + i * d.sz) cs := by
  obtain ⟨ad, rfl, hc⟩ := h.2.2 (by omega)
  obtain ⟨cs, h1, h2, h3⟩ := hc i p hp
  have hs : ad.spot = none := by
    have hl0 : 0 < L.length := by rw [h.1]; omega
    obtain ⟨cs0, g1, g2, g3⟩ := hc 0 _ (List.getElem?_eq_getElem hl0)
    have := g3 0 _ (List.getElem?_eq_getElem (by omega))
    rw [show 0 * d.sz + 0 = 0 by omega] at this
    cases hsp : ad.spot with
    | none => rfl
    | some s =>
      exfalso
      simp only [Addr.add, World.cell?] at this
      simp [hsp] at this
      split at this <;> cases this
  obtain ⟨b, off, sp⟩ := ad
  subst hs
  refine ⟨b, off, cs, rfl, h1, h2, fun j v hv => ?_⟩
  have := h3 j v hv
  unfold Addr.add at this
  split at this
  · rename_i h0
    have e : off + i * d.sz + j = off := by omega
    rw [e]
    exact this
  · rw [show off + i * d.sz + j = off + (i * d.sz + j) by omega]
    exact this
theorem rst_apart {bm bq bd bl bc br sz : Nat} (h1 : ∀ k, Dst bd bl bc br k → k < sz) (h2 : ∀ k, Rst bm bq k → sz ≤ k) : ∀ j, Dst bd bl bc br j → ¬ Rst bm bq j := fun j hj hr => by
  have := h1 j hj
  have := h2 j hr
  omega
abbrev kAct : Kd (Int × Int × List Int × List Int) := Kd.pair (Kd.int .i64) (Kd.pair (Kd.int .i64) (Kd.pair (Kd.slice 5 kb) (Kd.slice 3 kI)))
theorem act_at {w : World} {A : Option Addr} {n : Nat} {L : List (Int × Int × List Int × List Int)} (h : Kd.C kAct w A n L) (x : Nat) (hx : x < n) (p : Int × Int × List Int × List Int) (hp : L[x]? = some p) :
    ∃ b off AD cd AF cf, A = some ⟨b, off, none⟩ ∧ w.rangeAt b (off + x * 4) [.int .i64 p.1, .int .i64 p.2.1, .slice AD p.2.2.1.length cd, .slice AF p.2.2.2.length cf] ∧ p.2.2.1.length ≤ cd ∧ Kd.C kb w AD p.2.2.1.length p.2.2.1 ∧ p.2.2.2.length ≤ cf ∧ Kd.C kI w AF p.2.2.2.length p.2.2.2 := by
  obtain ⟨b, off, cs, e, h1, h2, h3⟩ := row_at h (by decide) x hx p hp
  obtain ⟨a0, r0, e0, k0, h2⟩ := h2
  obtain ⟨a1, r1, e1, k1, h2⟩ := h2
  obtain ⟨a2, r2, e2, ⟨AD, cd, k2, l2, m2⟩, ⟨AF, cf, k3, l3, m3⟩⟩ := h2
  have k0' : a0 = [.int .i64 p.1] := k0
  have k1' : a1 = [.int .i64 p.2.1] := k1
  subst k0' k1' k2 k3 e2 e1 e0
  exact ⟨b, off, AD, cd, AF, cf, e, h3, l2, m2, l3, m3⟩
theorem d_newZ (w : World) (z : Int) (n : Nat) (hz : z = n) (h0 : 1 ≤ n) (h1 : n ≤ 4096) : Calls Try.prog 15 #[.int .i64 z] w fun e w' => ∃ bd bl bc br, e = .returned (.tuple #[.pointer (some ⟨bd, 0, none⟩), .int .i64 0]) ∧
    DB w' bd bl bc br n (fun _ => []) (fun _ => none) false 0 false 0 (List.replicate n 0) ∧ Ext w w' ∧ (∀ k, Dst bd bl bc br k → w.heap.size ≤ k) := by
  subst hz
  exact d_new w n h0 h1
theorem rb_newZ (w : World) (z : Int) (n : Nat) (hz : z = n) (h0 : 1 ≤ n) (h1 : n ≤ 4096) : Calls Try.prog 31 #[.int .i64 z] w fun e w' => ∃ bm bq, e = .returned (.tuple #[.pointer (some ⟨bm, 0, none⟩), .int .i64 0]) ∧
    RB w' bm bq n (fun _ => []) (fun _ => none) (-1) false 0 (List.replicate n 0) ∧ Ext w w' ∧ (∀ k, Rst bm bq k → w.heap.size ≤ k) := by
  subst hz
  exact rb_new w n h0 h1
set_option maxRecDepth 100000 in
set_option maxHeartbeats 2000000 in
theorem rnew_no (w : World) (x : Int) (hx : x < 1 ∨ 4096 < x) : Calls Try.prog 31 #[.int .i64 x] w fun e w' => e = .returned (.tuple #[.pointer none, .int .i64 7]) ∧ w = w' := by
  by_cases h1 : x < 1
  · go_enter Try.func31, Try.ntmps31
    go_wp2
    go_ret2
    exact ⟨rfl, rfl⟩
  · have h2 : 4096 < x := by omega
    go_enter Try.func31, Try.ntmps31
    go_wp2
    go_ret2
    exact ⟨rfl, rfl⟩
set_option maxRecDepth 100000 in
set_option maxHeartbeats 2000000 in
theorem dplays_calls (w : World) (z : Int) (hz0 : -9223372036854775808 ≤ z) (hz1 : z ≤ 9223372036854775807) (A : Option Addr) (m c : Nat) (L : List (Int × Int × List Int × List Int)) (hn : m = L.length) (hr : Kd.C kAct w A m L) (hc : m ≤ c) (hg : ∀ p ∈ L, (-9223372036854775808 ≤ p.1 ∧ p.1 ≤ 9223372036854775807) ∧ p.2.1 ≤ 9223372036854775807) :
    Calls Try.prog 8 #[.int .i64 z, .slice A m c] w fun e w' => e = .returned (.bool true) ∧ Ext w w' := by
  have HR := Aside0.mk hr
  have HN := Aside0.mk hn
  have HG := Aside0.mk hg
  have HZ := Aside0.mk (And.intro hz0 hz1)
  have HI1 := Aside0.mk (fun (a b c d : Value) => show (Try.prog.info? 53).map (·.size) = some [a, b, c, d].length by kernel_rfl)
  clear hr hn hg
  by_cases hv : 1 ≤ z ∧ z ≤ 4096
  · obtain ⟨zn, hzn⟩ : ∃ zn : Nat, z = zn := ⟨z.toNat, by omega⟩
    have HZN := Aside0.mk (show z = zn ∧ 1 ≤ zn ∧ zn ≤ 4096 from ⟨hzn, by omega, by omega⟩)
    clear hv hzn hz0 hz1
    go_enter Try.func8, Try.ntmps8
    go_wp2_with fail
    refine (d_newZ w z zn HZN.out.1 HZN.out.2.1 HZN.out.2.2).mono ?_
    rintro e w1 ⟨bd0, bl0, bc0, br0, rfl, _, hE, _⟩
    have HE1 := Aside0.mk hE
    clear hE
    go_wp2_with fail
    refine (rb_newZ w1 z zn HZN.out.1 HZN.out.2.1 HZN.out.2.2).mono ?_
    rintro e w2 ⟨bm0, bq0, rfl, _, hE, _⟩
    have HE2 := Aside0.mk (HE1.out.trans hE)
    clear hE HE1 HZN
    go_wp2_with fail
    refine (pick_calls w2 z 40 _ HZ.out.1 HZ.out.2 (by decide) rfl).mono ?_
    rintro e w3 ⟨rfl, hE⟩
    have HE3 := Aside0.mk (HE2.out.trans hE)
    have hP := pickT_range z 40 (by decide)
    obtain ⟨r, hrr⟩ : ∃ r, pickT z 40 = r := ⟨_, rfl⟩
    rw [hrr] at hP ⊢
    clear hrr hE HE2
    obtain ⟨n, hnn⟩ : ∃ n : Nat, n = (1 + r).toNat := ⟨_, rfl⟩
    have HNE := Aside0.mk (show 1 + r = (n : Int) ∧ 1 ≤ n ∧ n ≤ 4096 from ⟨by omega, by omega, by omega⟩)
    clear hnn
    go_wp2_with fail
    refine (d_newZ w3 (1 + r) n HNE.out.1 HNE.out.2.1 HNE.out.2.2).mono ?_
    rintro e w4 ⟨bd, bl, bc, br, rfl, hD, hE, hk⟩
    have HD4 := Aside0.mk hD
    have HE4 := Aside0.mk (HE3.out.trans hE)
    have HK4 := Aside0.mk (show ∀ k, Dst bd bl bc br k → w.heap.size ≤ k from fun k h => Nat.le_trans HE3.out.size (hk k h))
    clear hD hE hk HE3
    go_wp2_with fail
    refine (rb_newZ w4 (1 + r) n HNE.out.1 HNE.out.2.1 HNE.out.2.2).mono ?_
    rintro e w5 ⟨bm, bq, rfl, hD, hE, hk⟩
    have HT5 := Aside0.mk (show TWE w5 bd bl bc br bm bq n from ⟨sNew n, false, 0, -1, ⟨HD4.out.ext hE, hD, rst_apart HD4.out.lt hk⟩, Lft.new⟩)
    have HS := Aside0.mk (show ∀ k, Tst bd bl bc br bm bq k → w.heap.size ≤ k from fun k h => h.elim (fun h => HK4.out k h) (fun h => Nat.le_trans HE4.out.size (hk k h)))
    have HE5 := Aside0.mk (HE4.out.trans hE)
    clear hD hE hk HD4 HE4 HK4
    go_wp2_with fail
    go_loopw [13] (fun i wr => ∃ (x : Nat), i = .int .i64 x ∧ Aside0 (x ≤ m) ∧ Aside0 (TWE wr bd bl bc br bm bq n) ∧ Aside0 (Ext w wr)) (fun i _ => m - (intOf i).toNat)
    case atStart => exact ⟨0, rfl, ⟨Nat.zero_le _⟩, HT5, HE5⟩
    case round =>
      clear HT5 HE5 hP
      obtain ⟨x, rfl, HX, HT, HE⟩ := hrel
      have g0 := HX.out
      obtain ⟨wx, hwx⟩ : ∃ wx : World, wx = wr := ⟨_, rfl⟩
      subst hwx
      by_cases hlt : x < m ∧ x < 100
      · obtain ⟨hlt, h100⟩ := hlt
        have HXL := Aside0.mk hlt
        have hxe : x < L.length := by have := HN.out; omega
        obtain ⟨b, off, AD, cd, AF, cf, hA, hrg, hcd, hCD, hcf, hCF⟩ := act_at HR.out x hlt _ (List.getElem?_eq_getElem hxe)
        have HGP := Aside0.mk (HG.out _ (List.getElem_mem hxe))
        generalize L[x] = p at hrg HGP hcd hCD hcf hCF
        obtain ⟨kd, i, xs, fl⟩ := p
        dsimp only at HGP hrg hcd hCD hcf hCF
        subst hA
        obtain ⟨mx, hmx⟩ : ∃ mx, mx = xs.length := ⟨_, rfl⟩
        obtain ⟨mf, hmf⟩ : ∃ mf, mf = fl.length := ⟨_, rfl⟩
        rw [← hmx] at hrg hcd hCD
        rw [← hmf] at hrg hcf hCF
        have HCD := Aside0.mk hCD
        have HCF := Aside0.mk hCF
        have HMX := Aside0.mk hmx
        have HMF := Aside0.mk hmf
        have hrg := rangeAt_ext hrg HE.out
        have HG1 := Aside0.mk (show wx.rangeAt b (off + x * 4) [.int .i64 kd, .int .i64 i, .slice AD mx cd, .slice AF mf cf] from hrg)
        have hcell2 : wx.cell? ⟨b, off + x * 4 + 2, none⟩ = some (.slice AD mx cd) := hrg 2 _ rfl
        have hcell3 : wx.cell? ⟨b, off + x * 4 + 3, none⟩ = some (.slice AF mf cf) := hrg 3 _ rfl
        clear hCD hCF hmx hmf hrg hxe
        by_cases h2000 : (2000 : Int) < mx
        · clear HT
          go_wp2_with fail
          refine (known_calls wx).mono ?_
          rintro e w9 ⟨rfl, hE⟩
          have HE9 := Aside0.mk (HE.out.trans hE)
          clear hE HE
          go_wp2
          go_ret
          exact ⟨rfl, HE9.out⟩
        by_cases h200 : (200 : Int) < mf
        · clear HT
          go_wp2_with fail
          refine (known_calls wx).mono ?_
          rintro e w9 ⟨rfl, hE⟩
          have HE9 := Aside0.mk (HE.out.trans hE)
          clear hE HE
          go_wp2
          go_ret
          exact ⟨rfl, HE9.out⟩
        obtain ⟨s, ar, lf, left, hT, hL⟩ := HT.out
        have HDO := Aside0.mk (does_calls hT hL HE.out HS.out kd i HGP.out.1.1 HGP.out.1.2 HGP.out.2 AD mx cd xs HMX.out HCD.out hcd (by omega) AF mf cf fl HMF.out HCF.out hcf (by omega))
        clear hT hL HT
        go_wp2_with (first | ((with_reducible refine gate_load (ty := 53) rfl ?_); refine load_at rfl 53 _ rfl b (off + x * 4) rfl [.int .i64 kd, .int .i64 i, .slice AD mx cd, .slice AF mf cf] _ HG1.out Try.underlying53 rfl (HI1.out _ _ _ _) ?_) | fail)
        refine HDO.out.mono ?_
        rintro e w6 ⟨rfl, hT, hE⟩
        have HT6 := Aside0.mk hT
        have HE6 := Aside0.mk hE
        clear hT hE HDO HE HG1 hcell2 hcell3
        obtain ⟨s, ar, lf, left, hT, hL⟩ := HT6.out
        have HL6 := Aside0.mk hL
        have HAL := Aside0.mk (alike_calls hT)
        clear hT hL HT6
        go_wp2_with fail
        refine HAL.out.mono ?_
        rintro e w7 ⟨rfl, hT, hC⟩
        have HT7 := Aside0.mk (show TWE w7 bd bl bc br bm bq n from by
          obtain ⟨s', hs⟩ := hT
          exact ⟨s', ar, lf, left, hs, HL6.out⟩)
        have HE7 := Aside0.mk (hC.to_ext HE6.out HS.out)
        clear hT hC HE6 HAL
        go_wp2_with fail
        go_roundw
        case rel => exact ⟨x + 1, by go_num, ⟨HXL.out⟩, HT7, HE7⟩
        case measure => have := HXL.out; simp only [intOf]; omega
      · by_cases hlm : x < m
        · have h100 : ¬ x < 100 := fun h => hlt ⟨hlm, h⟩
          have hd1 : decide ((x : Int) < (m : Int)) = true := decide_eq_true (by omega)
          have hd2 : decide ((x : Int) < 100) = false := decide_eq_false (by omega)
          go_wp2_with fail
          refine (known_calls wx).mono ?_
          rintro e w9 ⟨rfl, hE⟩
          have HE9 := Aside0.mk (HE.out.trans hE)
          clear hE HE
          go_wp2
          go_ret
          exact ⟨rfl, HE9.out⟩
        · obtain rfl : x = m := by omega
          go_wp2_with fail
          refine (known_calls wx).mono ?_
          rintro e w9 ⟨rfl, hE⟩
          have HE9 := Aside0.mk (HE.out.trans hE)
          clear hE HE
          go_wp2
          go_ret
          exact ⟨rfl, HE9.out⟩
  · have HNO := Aside0.mk (show z < 1 ∨ 4096 < z by omega)
    clear hv hz0 hz1
    go_enter Try.func8, Try.ntmps8
    go_wp2_with fail
    refine (new_no w z HNO.out).mono ?_
    rintro e w1 ⟨rfl, rfl⟩
    go_wp2_with fail
    refine (rnew_no w z HNO.out).mono ?_
    rintro e w1 ⟨rfl, rfl⟩
    clear HNO
    obtain ⟨w2, hw2⟩ : ∃ w2, w2 = w := ⟨_, rfl⟩
    have HE2 := Aside0.mk (show Ext w w2 from by rw [hw2]; exact Ext.refl w)
    rw [← hw2]
    clear hw2
    go_wp2_with fail
    refine (pick_calls w2 z 40 _ HZ.out.1 HZ.out.2 (by decide) rfl).mono ?_
    rintro e w3 ⟨rfl, hE⟩
    have HE3 := Aside0.mk (HE2.out.trans hE)
    have hP := pickT_range z 40 (by decide)
    obtain ⟨r, hrr⟩ : ∃ r, pickT z 40 = r := ⟨_, rfl⟩
    rw [hrr] at hP ⊢
    clear hrr hE HE2
    obtain ⟨n, hnn⟩ : ∃ n : Nat, n = (1 + r).toNat := ⟨_, rfl⟩
    have HNE := Aside0.mk (show 1 + r = (n : Int) ∧ 1 ≤ n ∧ n ≤ 4096 from ⟨by omega, by omega, by omega⟩)
    clear hnn
    go_wp2_with fail
    refine (d_newZ w3 (1 + r) n HNE.out.1 HNE.out.2.1 HNE.out.2.2).mono ?_
    rintro e w4 ⟨bd, bl, bc, br, rfl, hD, hE, hk⟩
    have HD4 := Aside0.mk hD
    have HE4 := Aside0.mk (HE3.out.trans hE)
    have HK4 := Aside0.mk (show ∀ k, Dst bd bl bc br k → w.heap.size ≤ k from fun k h => Nat.le_trans HE3.out.size (hk k h))
    clear hD hE hk HE3
    go_wp2_with fail
    refine (rb_newZ w4 (1 + r) n HNE.out.1 HNE.out.2.1 HNE.out.2.2).mono ?_
    rintro e w5 ⟨bm, bq, rfl, hD, hE, hk⟩
    have HT5 := Aside0.mk (show TWE w5 bd bl bc br bm bq n from ⟨sNew n, false, 0, -1, ⟨HD4.out.ext hE, hD, rst_apart HD4.out.lt hk⟩, Lft.new⟩)
    have HS := Aside0.mk (show ∀ k, Tst bd bl bc br bm bq k → w.heap.size ≤ k from fun k h => h.elim (fun h => HK4.out k h) (fun h => Nat.le_trans HE4.out.size (hk k h)))
    have HE5 := Aside0.mk (HE4.out.trans hE)
    clear hD hE hk HD4 HE4 HK4
    go_wp2_with fail
    go_loopw [13] (fun i wr => ∃ (x : Nat), i = .int .i64 x ∧ Aside0 (x ≤ m) ∧ Aside0 (TWE wr bd bl bc br bm bq n) ∧ Aside0 (Ext w wr)) (fun i _ => m - (intOf i).toNat)
    case atStart => exact ⟨0, rfl, ⟨Nat.zero_le _⟩, HT5, HE5⟩
    case round =>
      clear HT5 HE5 hP
      obtain ⟨x, rfl, HX, HT, HE⟩ := hrel
      have g0 := HX.out
      obtain ⟨wx, hwx⟩ : ∃ wx : World, wx = wr := ⟨_, rfl⟩
      subst hwx
      by_cases hlt : x < m ∧ x < 100
      · obtain ⟨hlt, h100⟩ := hlt
        have HXL := Aside0.mk hlt
        have hxe : x < L.length := by have := HN.out; omega
        obtain ⟨b, off, AD, cd, AF, cf, hA, hrg, hcd, hCD, hcf, hCF⟩ := act_at HR.out x hlt _ (List.getElem?_eq_getElem hxe)
        have HGP := Aside0.mk (HG.out _ (List.getElem_mem hxe))
        generalize L[x] = p at hrg HGP hcd hCD hcf hCF
        obtain ⟨kd, i, xs, fl⟩ := p
        dsimp only at HGP hrg hcd hCD hcf hCF
        subst hA
        obtain ⟨mx, hmx⟩ : ∃ mx, mx = xs.length := ⟨_, rfl⟩
        obtain ⟨mf, hmf⟩ : ∃ mf, mf = fl.length := ⟨_, rfl⟩
        rw [← hmx] at hrg hcd hCD
        rw [← hmf] at hrg hcf hCF
        have HCD := Aside0.mk hCD
        have HCF := Aside0.mk hCF
        have HMX := Aside0.mk hmx
        have HMF := Aside0.mk hmf
        have hrg := rangeAt_ext hrg HE.out
        have HG1 := Aside0.mk (show wx.rangeAt b (off + x * 4) [.int .i64 kd, .int .i64 i, .slice AD mx cd, .slice AF mf cf] from hrg)
        have hcell2 : wx.cell? ⟨b, off + x * 4 + 2, none⟩ = some (.slice AD mx cd) := hrg 2 _ rfl
        have hcell3 : wx.cell? ⟨b, off + x * 4 + 3, none⟩ = some (.slice AF mf cf) := hrg 3 _ rfl
        clear hCD hCF hmx hmf hrg hxe
        by_cases h2000 : (2000 : Int) < mx
        · clear HT
          go_wp2_with fail
          refine (known_calls wx).mono ?_
          rintro e w9 ⟨rfl, hE⟩
          have HE9 := Aside0.mk (HE.out.trans hE)
          clear hE HE
          go_wp2
          go_ret
          exact ⟨rfl, HE9.out⟩
        by_cases h200 : (200 : Int) < mf
        · clear HT
          go_wp2_with fail
          refine (known_calls wx).mono ?_
          rintro e w9 ⟨rfl, hE⟩
          have HE9 := Aside0.mk (HE.out.trans hE)
          clear hE HE
          go_wp2
          go_ret
          exact ⟨rfl, HE9.out⟩
        obtain ⟨s, ar, lf, left, hT, hL⟩ := HT.out
        have HDO := Aside0.mk (does_calls hT hL HE.out HS.out kd i HGP.out.1.1 HGP.out.1.2 HGP.out.2 AD mx cd xs HMX.out HCD.out hcd (by omega) AF mf cf fl HMF.out HCF.out hcf (by omega))
        clear hT hL HT
        go_wp2_with (first | ((with_reducible refine gate_load (ty := 53) rfl ?_); refine load_at rfl 53 _ rfl b (off + x * 4) rfl [.int .i64 kd, .int .i64 i, .slice AD mx cd, .slice AF mf cf] _ HG1.out Try.underlying53 rfl (HI1.out _ _ _ _) ?_) | fail)
        refine HDO.out.mono ?_
        rintro e w6 ⟨rfl, hT, hE⟩
        have HT6 := Aside0.mk hT
        have HE6 := Aside0.mk hE
        clear hT hE HDO HE HG1 hcell2 hcell3
        obtain ⟨s, ar, lf, left, hT, hL⟩ := HT6.out
        have HL6 := Aside0.mk hL
        have HAL := Aside0.mk (alike_calls hT)
        clear hT hL HT6
        go_wp2_with fail
        refine HAL.out.mono ?_
        rintro e w7 ⟨rfl, hT, hC⟩
        have HT7 := Aside0.mk (show TWE w7 bd bl bc br bm bq n from by
          obtain ⟨s', hs⟩ := hT
          exact ⟨s', ar, lf, left, hs, HL6.out⟩)
        have HE7 := Aside0.mk (hC.to_ext HE6.out HS.out)
        clear hT hC HE6 HAL
        go_wp2_with fail
        go_roundw
        case rel => exact ⟨x + 1, by go_num, ⟨HXL.out⟩, HT7, HE7⟩
        case measure => have := HXL.out; simp only [intOf]; omega
      · by_cases hlm : x < m
        · have h100 : ¬ x < 100 := fun h => hlt ⟨hlm, h⟩
          have hd1 : decide ((x : Int) < (m : Int)) = true := decide_eq_true (by omega)
          have hd2 : decide ((x : Int) < 100) = false := decide_eq_false (by omega)
          go_wp2_with fail
          refine (known_calls wx).mono ?_
          rintro e w9 ⟨rfl, hE⟩
          have HE9 := Aside0.mk (HE.out.trans hE)
          clear hE HE
          go_wp2
          go_ret
          exact ⟨rfl, HE9.out⟩
        · obtain rfl : x = m := by omega
          go_wp2_with fail
          refine (known_calls wx).mono ?_
          rintro e w9 ⟨rfl, hE⟩
          have HE9 := Aside0.mk (HE.out.trans hE)
          clear hE HE
          go_wp2
          go_ret
          exact ⟨rfl, HE9.out⟩
end Go.Proofs.Ytkgjcmolmogpdaa.By
