/- MacInner. -/
import Derived.Test.YtbnbncnmhhioeaaDoorMWorks
namespace Go.Proofs.YtbnbncnmhhioeaaDoor.By
open Go.RowKit Go.Proofs.YtbnbncnmhhioeaaDoor.Reg Go.Proofs.YtbnbncnmhhioeaaDoorW.PrintWords Go.Proofs.YtbnbncnmhhioeaaDoorW.PrintLast Go.Proofs.YtbnbncnmhhioeaaDoorW.PrintMore
set_option linter.unusedVariables false


theorem upto_take (k : List Int) (x : Nat) (hk : k.length ≤ 64) (h : x < 64) : (upto 64 k).take x ++ [rd (upto 64 k) x] = (upto 64 k).take (x + 1) := take_rd _ x (by rw [upto_length 64 k hk]; exact h)
theorem upto_lo (k : List Int) (x : Nat) (h : x < k.length) : rd (upto 64 k) x = rd k x := by
  unfold rd upto
  rw [Int.toNat_natCast, List.getD_eq_getElem?_getD, List.getD_eq_getElem?_getD, List.getElem?_append_left h]
theorem upto_hi (k : List Int) (x : Nat) (h : k.length ≤ x) : rd (upto 64 k) x = 0 := by
  unfold rd upto
  rw [Int.toNat_natCast, List.getD_eq_getElem?_getD, List.getElem?_append_right h, List.getElem?_replicate]
  split <;> rfl
theorem map_take_rd (f : Int → Int) (L : List Int) (x : Nat) (h : x < L.length) : (L.take x).map f ++ [f (rd L x)] = (L.take (x + 1)).map f := by
  rw [← take_rd L x h, List.map_append]; rfl
theorem block_keyF (k : List Int) (v : Int) (h : k.length ≤ 64) : blockF k v = (upto 64 k).map (xorF v) := by
  unfold blockF keyF; rw [if_neg (by omega)]
set_option maxRecDepth 100000 in
set_option maxHeartbeats 16000000 in
theorem linner_calls (w : World) (A A' : Option Addr) (c c' n m : Nat) (k t : List Int) (q : Int) (hn : n = k.length) (hm : m = t.length) (hT1 : Tab 1 w) (h2 : 2 ≤ w.heap.size) (hr : Kd.C kb w A n k) (hc : n ≤ c) (hr' : Kd.C kb w A' m t) (hc' : m ≤ c') (hq : -9223372036854775808 ≤ q ∧ q ≤ 9223372036854775807) :
    Calls Tryd.prog 10 #[.slice A n c, .slice A' m c', .int .i64 q] w fun e w' => e = .returned (.bool true) ∧ Ext w w' := by
  have HR := Aside0.mk hr
  have HR' := Aside0.mk hr'
  have HNN := Aside0.mk hn
  have HM := Aside0.mk hm
  have HT1 := Aside0.mk hT1
  have H2 := Aside0.mk h2
  have HQR := Aside0.mk hq
  clear hr hr' hn hm hT1 h2 hq
  by_cases hbig : n > 64
  · have hz : ((64 : Int) < (n : Int)) = True := eq_true (by omega)
    go_enter Tryd.func10, Tryd.ntmps10
    go_wp2_with fail
    refine (works_calls _ HT1.out H2.out).mono ?_
    rintro e w1 ⟨rfl, hE⟩
    have HE := Aside0.mk hE
    clear hE
    go_wp2
    go_ret
    exact ⟨rfl, HE.out⟩
  have hz : ((64 : Int) < (n : Int)) = False := eq_false (by omega)
  by_cases hbig2 : m > 16384
  · have hz2 : ((16384 : Int) < (m : Int)) = True := eq_true (by omega)
    go_enter Tryd.func10, Tryd.ntmps10
    go_wp2_with fail
    refine (works_calls _ HT1.out H2.out).mono ?_
    rintro e w1 ⟨rfl, hE⟩
    have HE := Aside0.mk hE
    clear hE
    go_wp2
    go_ret
    exact ⟨rfl, HE.out⟩
  have hz2 : ((16384 : Int) < (m : Int)) = False := eq_false (by omega)
  have hsm : n ≤ 64 := by omega
  have hsm2 : m ≤ 16384 := by omega
  clear hbig hbig2
  obtain ⟨D, hD⟩ : ∃ D, D = macF k t := ⟨_, rfl⟩
  have HD := Aside0.mk hD
  have HQ := Aside0.mk (sum_self D (by rw [hD, mac_len]) (by rw [hD]; exact mac_isB _ _))
  obtain ⟨U, hU⟩ : ∃ U, U = upto 64 k := ⟨_, rfl⟩
  have HU := Aside0.mk hU
  have HUL := Aside0.mk (show U.length = 64 by rw [hU, upto_length 64 k (by rw [← HNN.out]; exact hsm)])
  have HK1 := Aside0.mk (show blockF k 54 = U.map (xorF 54) by rw [hU, block_keyF k 54 (by rw [← HNN.out]; exact hsm)])
  have HK2 := Aside0.mk (show blockF k 92 = U.map (xorF 92) by rw [hU, block_keyF k 92 (by rw [← HNN.out]; exact hsm)])
  clear hD hU
  go_enter Tryd.func10, Tryd.ntmps10
  go_wp2_with fail
  refine (new_calls w).mono ?_
  rintro e w1 ⟨rfl, hH1, hE1⟩
  have HH1 := Aside0.mk hH1
  have HE1 := Aside0.mk hE1
  clear hH1 hE1
  go_wp2_with fail
  refine (new_calls w1).mono ?_
  rintro e w2 ⟨rfl, hH2, hE2⟩
  have HI0 := Aside0.mk (show Hs w2 w.heap.size w.heap.size ((U.take 0).map (xorF 54)) (.slice none 0 0) from HH1.out.ext hE2)
  have HO0 := Aside0.mk (show Hs w2 w1.heap.size w1.heap.size ((U.take 0).map (xorF 92)) (.slice none 0 0) from hH2)
  have HE2 := Aside0.mk (HE1.out.trans hE2)
  have HLT := Aside0.mk (show w.heap.size < w1.heap.size from HH1.out.2.1.lt)
  generalize w1.heap.size = b2 at HO0 HLT ⊢
  clear hE2 hH2 HH1 HE1
  have HNO0 := Aside0.mk (show ∀ j, (Value.slice none 0 0).ownBlock = some j → j ≠ b2 ∧ (Value.slice none 0 0).ownBlock ≠ some j from fun j h => by simp [Value.ownBlock] at h)
  have HNI0 := Aside0.mk (show ∀ j, (Value.slice none 0 0).ownBlock = some j → j ≠ w.heap.size from fun j h => by simp [Value.ownBlock] at h)
  go_wp2_with fail
  go_loopw [9] (fun i wr => ∃ x : Int, i = .int .i64 x ∧ Aside0 (0 ≤ x ∧ x ≤ 64) ∧ (∃ V1 V2, Aside0 (Hs wr w.heap.size w.heap.size ((U.take x.toNat).map (xorF 54)) V1) ∧ Aside0 (Hs wr b2 b2 ((U.take x.toNat).map (xorF 92)) V2) ∧ Aside0 (∀ j, V1.ownBlock = some j → j ≠ b2 ∧ V2.ownBlock ≠ some j)) ∧ Aside0 (Ext w wr)) (fun i _ => 64 - (intOf i).toNat)
  case atStart => exact ⟨0, rfl, ⟨by decide⟩, ⟨_, _, HI0, HO0, HNO0⟩, HE2⟩
  case round =>
    clear HI0 HO0 HNO0 HE2 HNI0
    obtain ⟨x, rfl, HXR, ⟨V1, V2, HI, HO, HNO⟩, HE⟩ := hrel
    obtain ⟨g0, g1⟩ := HXR.out
    obtain ⟨wx, hwx⟩ : ∃ wx : World, wx = wr := ⟨_, rfl⟩
    subst hwx
    by_cases hlt : x < 64
    · have HLTX := Aside0.mk (And.intro g0 hlt)
      obtain ⟨kx, hkx⟩ : ∃ kx, kx = rd U x := ⟨_, rfl⟩
      have HTI := Aside0.mk (show (U.take x.toNat).map (xorF 54) ++ [xorF 54 kx] = (U.take (x + 1).toNat).map (xorF 54) by
        have h := map_take_rd (xorF 54) U x.toNat (by rw [HUL.out]; omega)
        rw [Int.toNat_of_nonneg g0, ← hkx] at h
        rw [h, show (x + 1).toNat = x.toNat + 1 by omega])
      have HTO := Aside0.mk (show (U.take x.toNat).map (xorF 92) ++ [xorF 92 kx] = (U.take (x + 1).toNat).map (xorF 92) by
        have h := map_take_rd (xorF 92) U x.toNat (by rw [HUL.out]; omega)
        rw [Int.toNat_of_nonneg g0, ← hkx] at h
        rw [h, show (x + 1).toNat = x.toNat + 1 by omega])
      have HLN := Aside0.mk (show (U.take x.toNat).length ≤ 64 by rw [List.length_take, HUL.out]; omega)
      obtain ⟨P1, hP1⟩ : ∃ P1, P1 = (U.take x.toNat).map (xorF 54) := ⟨_, rfl⟩
      obtain ⟨P2, hP2⟩ : ∃ P2, P2 = (U.take x.toNat).map (xorF 92) := ⟨_, rfl⟩
      rw [← hP1] at HI HTI
      rw [← hP2] at HO HTO
      have HPL := Aside0.mk (show P1.length ≤ 64 ∧ P2.length ≤ 64 by rw [hP1, hP2, List.length_map, List.length_map]; exact ⟨HLN.out, HLN.out⟩)
      clear hP1 hP2
      by_cases hxn : x < n
      · have hkk : rd k x = kx := by
          rw [hkx, HU.out]
          have h := upto_lo k x.toNat (by rw [← HNN.out]; omega)
          rw [Int.toNat_of_nonneg g0] at h
          exact h.symm
        obtain ⟨adx, eax, hcell⟩ := at_k (Kd.C_below HR.out HE.out) x g0 hxn
        subst eax
        rw [hkk] at hcell
        clear hkk hkx
        go_wp2_with fail
        have HX1 := Aside0.mk ((Ext.refl wx).alloc (.cells #[Value.int .u8 (xorF 54 kx)] 5))
        have HC1 := Aside0.mk (show Kd.C kb (wx.alloc (.cells #[Value.int .u8 (xorF 54 kx)] 5)) (some ⟨wx.heap.size, 0, none⟩) 1 [xorF 54 kx] from const_C wx [xorF 54 kx] (0, 0) (by simp))
        refine (add_calls (wx.alloc (.cells #[Value.int .u8 (xorF 54 kx)] 5)) w.heap.size w.heap.size P1 [xorF 54 kx] V1 (some ⟨wx.heap.size, 0, none⟩) 1 1 H2.out rfl (HI.out.ext HX1.out) (HT1.out.ext (HE.out.trans HX1.out)) HC1.out (Nat.le_refl _) (by have := HPL.out; omega) (fun a ha _ => by rw [← Option.some.inj ha]; exact Nat.ne_of_gt HI.out.2.1.lt)).mono ?_
        rintro e w3 ⟨rfl, V3, hI3, hF3, hN3⟩
        have HO3 := Aside0.mk ((HO.out.ext HX1.out).fr hF3 (by intro h; rcases h with h | h; · have := HLT.out; omega
                                                               · exact (HNO.out b2 h).1 rfl) (fun j hj h => by
          rcases h with h | h
          · have := own_base (Kd.own_of_R HO.out.2.2) j hj; have := HLT.out; omega
          · exact (HNO.out j h).2 hj))
        have hvlo : ∀ j, V1.ownBlock = some j → w.heap.size ≤ j := fun j hj => own_base (Kd.own_of_R HI.out.2.2) j hj
        have HE3 := Aside0.mk (hF3.ext (HE.out.trans HX1.out) (fun j hj => by rcases hj with rfl | hj; exact Nat.le_refl _; exact hvlo j hj))
        rw [HTI.out] at hI3
        have HI3 := Aside0.mk hI3
        have HN3 := Aside0.mk (show ∀ j, V3.ownBlock = some j → wx.heap.size ≤ j from fun j hj => Nat.le_trans HX1.out.size (hN3 j hj))
        have HOL := Aside0.mk (show b2 < wx.heap.size ∧ ∀ j, V2.ownBlock = some j → j < wx.heap.size from ⟨HO.out.2.1.lt, fun j hj => own_lt (Kd.own_of_R HO.out.2.2) j hj⟩)
        have HL3 := Aside0.mk (show wx.heap.size ≤ w3.heap.size from Nat.le_trans HX1.out.size hF3.size)
        clear hI3 hF3 hN3 hvlo HX1 HC1 HI HO HE
        go_wp2_with fail
        have HX4 := Aside0.mk ((Ext.refl w3).alloc (.cells #[Value.int .u8 (xorF 92 kx)] 5))
        have HC4 := Aside0.mk (show Kd.C kb (w3.alloc (.cells #[Value.int .u8 (xorF 92 kx)] 5)) (some ⟨w3.heap.size, 0, none⟩) 1 [xorF 92 kx] from const_C w3 [xorF 92 kx] (0, 0) (by simp))
        refine (add_calls (w3.alloc (.cells #[Value.int .u8 (xorF 92 kx)] 5)) b2 b2 P2 [xorF 92 kx] V2 (some ⟨w3.heap.size, 0, none⟩) 1 1 (Nat.le_trans H2.out (Nat.le_of_lt HLT.out)) rfl (HO3.out.ext HX4.out) (HT1.out.ext (HE3.out.trans HX4.out)) HC4.out (Nat.le_refl _) (by have := HPL.out; omega) (fun a ha _ => by rw [← Option.some.inj ha]; exact Nat.ne_of_gt HO3.out.2.1.lt)).mono ?_
        rintro e w5 ⟨rfl, V5, hO5, hF5, hN5⟩
        have HI5 := Aside0.mk ((HI3.out.ext HX4.out).fr hF5 (by intro h; rcases h with h | h; · have := HLT.out; omega
                                                                · have := own_base (Kd.own_of_R HO3.out.2.2) _ h; have := HLT.out; omega) (fun j hj h => by
          have hj1 := HN3.out j hj
          rcases h with h | h
          · have := HOL.out.1; omega
          · have := HOL.out.2 j h; omega))
        have HE5 := Aside0.mk (hF5.ext (HE3.out.trans HX4.out) (fun j hj => by rcases hj with rfl | hj; exact Nat.le_of_lt HLT.out; exact Nat.le_trans (Nat.le_of_lt HLT.out) (own_base (Kd.own_of_R HO3.out.2.2) j hj)))
        rw [HTO.out] at hO5
        have HO5 := Aside0.mk hO5
        have HNO5 := Aside0.mk (show ∀ j, V3.ownBlock = some j → j ≠ b2 ∧ V5.ownBlock ≠ some j from fun j hj => by
          have h1 := HN3.out j hj
          refine ⟨by have := HOL.out.1; omega, fun h => ?_⟩
          have h3 := hN5 j h
          have h4 := own_lt (Kd.own_of_R HI3.out.2.2) j hj
          have h5 := HX4.out.size
          rw [size_alloc] at h3
          omega)
        clear hO5 hF5 hN5 HX4 HC4 HI3 HO3 HE3 HN3 HOL
        go_wp2_with fail
        go_roundw
        case rel => exact ⟨x + 1, rfl, ⟨by have := HLTX.out; omega⟩, ⟨V3, V5, HI5, HO5, HNO5⟩, HE5⟩
        case measure => have := HLTX.out; simp only [intOf]; omega
      · have hkk : kx = 0 := by
          rw [hkx, HU.out]
          have h := upto_hi k x.toNat (by rw [← HNN.out]; omega)
          rwa [Int.toNat_of_nonneg g0] at h
        clear hkx
        subst hkk
        go_wp2_with fail
        have HX1 := Aside0.mk ((Ext.refl wx).alloc (.cells #[Value.int .u8 (xorF 54 0)] 5))
        have HC1 := Aside0.mk (show Kd.C kb (wx.alloc (.cells #[Value.int .u8 (xorF 54 0)] 5)) (some ⟨wx.heap.size, 0, none⟩) 1 [xorF 54 0] from const_C wx [xorF 54 0] (0, 0) (by simp))
        refine (add_calls (wx.alloc (.cells #[Value.int .u8 (xorF 54 0)] 5)) w.heap.size w.heap.size P1 [xorF 54 0] V1 (some ⟨wx.heap.size, 0, none⟩) 1 1 H2.out rfl (HI.out.ext HX1.out) (HT1.out.ext (HE.out.trans HX1.out)) HC1.out (Nat.le_refl _) (by have := HPL.out; omega) (fun a ha _ => by rw [← Option.some.inj ha]; exact Nat.ne_of_gt HI.out.2.1.lt)).mono ?_
        rintro e w3 ⟨rfl, V3, hI3, hF3, hN3⟩
        have HO3 := Aside0.mk ((HO.out.ext HX1.out).fr hF3 (by intro h; rcases h with h | h; · have := HLT.out; omega
                                                               · exact (HNO.out b2 h).1 rfl) (fun j hj h => by
          rcases h with h | h
          · have := own_base (Kd.own_of_R HO.out.2.2) j hj; have := HLT.out; omega
          · exact (HNO.out j h).2 hj))
        have hvlo : ∀ j, V1.ownBlock = some j → w.heap.size ≤ j := fun j hj => own_base (Kd.own_of_R HI.out.2.2) j hj
        have HE3 := Aside0.mk (hF3.ext (HE.out.trans HX1.out) (fun j hj => by rcases hj with rfl | hj; exact Nat.le_refl _; exact hvlo j hj))
        rw [HTI.out] at hI3
        have HI3 := Aside0.mk hI3
        have HN3 := Aside0.mk (show ∀ j, V3.ownBlock = some j → wx.heap.size ≤ j from fun j hj => Nat.le_trans HX1.out.size (hN3 j hj))
        have HOL := Aside0.mk (show b2 < wx.heap.size ∧ ∀ j, V2.ownBlock = some j → j < wx.heap.size from ⟨HO.out.2.1.lt, fun j hj => own_lt (Kd.own_of_R HO.out.2.2) j hj⟩)
        have HL3 := Aside0.mk (show wx.heap.size ≤ w3.heap.size from Nat.le_trans HX1.out.size hF3.size)
        clear hI3 hF3 hN3 hvlo HX1 HC1 HI HO HE
        go_wp2_with fail
        have HX4 := Aside0.mk ((Ext.refl w3).alloc (.cells #[Value.int .u8 (xorF 92 0)] 5))
        have HC4 := Aside0.mk (show Kd.C kb (w3.alloc (.cells #[Value.int .u8 (xorF 92 0)] 5)) (some ⟨w3.heap.size, 0, none⟩) 1 [xorF 92 0] from const_C w3 [xorF 92 0] (0, 0) (by simp))
        refine (add_calls (w3.alloc (.cells #[Value.int .u8 (xorF 92 0)] 5)) b2 b2 P2 [xorF 92 0] V2 (some ⟨w3.heap.size, 0, none⟩) 1 1 (Nat.le_trans H2.out (Nat.le_of_lt HLT.out)) rfl (HO3.out.ext HX4.out) (HT1.out.ext (HE3.out.trans HX4.out)) HC4.out (Nat.le_refl _) (by have := HPL.out; omega) (fun a ha _ => by rw [← Option.some.inj ha]; exact Nat.ne_of_gt HO3.out.2.1.lt)).mono ?_
        rintro e w5 ⟨rfl, V5, hO5, hF5, hN5⟩
        have HI5 := Aside0.mk ((HI3.out.ext HX4.out).fr hF5 (by intro h; rcases h with h | h; · have := HLT.out; omega
                                                                · have := own_base (Kd.own_of_R HO3.out.2.2) _ h; have := HLT.out; omega) (fun j hj h => by
          have hj1 := HN3.out j hj
          rcases h with h | h
          · have := HOL.out.1; omega
          · have := HOL.out.2 j h; omega))
        have HE5 := Aside0.mk (hF5.ext (HE3.out.trans HX4.out) (fun j hj => by rcases hj with rfl | hj; exact Nat.le_of_lt HLT.out; exact Nat.le_trans (Nat.le_of_lt HLT.out) (own_base (Kd.own_of_R HO3.out.2.2) j hj)))
        rw [HTO.out] at hO5
        have HO5 := Aside0.mk hO5
        have HNO5 := Aside0.mk (show ∀ j, V3.ownBlock = some j → j ≠ b2 ∧ V5.ownBlock ≠ some j from fun j hj => by
          have h1 := HN3.out j hj
          refine ⟨by have := HOL.out.1; omega, fun h => ?_⟩
          have h3 := hN5 j h
          have h4 := own_lt (Kd.own_of_R HI3.out.2.2) j hj
          have h5 := HX4.out.size
          rw [size_alloc] at h3
          omega)
        clear hO5 hF5 hN5 HX4 HC4 HI3 HO3 HE3 HN3 HOL
        go_wp2_with fail
        go_roundw
        case rel => exact ⟨x + 1, rfl, ⟨by have := HLTX.out; omega⟩, ⟨V3, V5, HI5, HO5, HNO5⟩, HE5⟩
        case measure => have := HLTX.out; simp only [intOf]; omega
    · have hxe : x = 64 := by omega
      subst hxe
      have hK1 : (U.take (64 : Int).toNat).map (xorF 54) = blockF k 54 := by rw [HK1.out]; show (U.take 64).map _ = _; rw [List.take_of_length_le (by rw [HUL.out]; exact Nat.le_refl _)]
      have hK2 : (U.take (64 : Int).toNat).map (xorF 92) = blockF k 92 := by rw [HK2.out]; show (U.take 64).map _ = _; rw [List.take_of_length_le (by rw [HUL.out]; exact Nat.le_refl _)]
      rw [hK1] at HI
      rw [hK2] at HO
      obtain ⟨K1, hK1⟩ : ∃ K1, K1 = blockF k 54 := ⟨_, rfl⟩
      obtain ⟨K2, hK2⟩ : ∃ K2, K2 = blockF k 92 := ⟨_, rfl⟩
      rw [← hK1] at HI
      rw [← hK2] at HO
      have HL1 := Aside0.mk (show K1.length = 64 by rw [hK1, blockF_len])
      have HL2 := Aside0.mk (show K2.length = 64 by rw [hK2, blockF_len])
      obtain ⟨F, hF⟩ : ∃ F, F = shaF (K1 ++ t) := ⟨_, rfl⟩
      have HF := Aside0.mk hF
      have HFL := Aside0.mk (show F.length = 32 by rw [hF, sha_len])
      have HIF := Aside0.mk (show (Tryd.prog.info? 26).map (·.size) = some (nums .u8 F).length by rw [nums_length, hF, sha_len]; kernel_rfl)
      have HSF := Aside0.mk (show (nums .u8 zs).toArray.size = (nums .u8 F).length by rw [nums_length, hF, sha_len]; rfl)
      have HDE := Aside0.mk (show shaF (K2 ++ F) = D by rw [HD.out, hF, hK1, hK2]; rfl)
      clear hK1 hK2 hF hlt g0 g1 HXR
      go_wp2_with fail
      refine (pick_at q ((m : Int) + 1) HQR.out.1 HQR.out.2 (by omega) (by omega) _).mono ?_
      rintro e w3 ⟨r, hrr, rfl, hE3⟩
      have hrm : r ≤ m := by omega
      have HI3 := Aside0.mk (HI.out.ext hE3)
      have HO3 := Aside0.mk (HO.out.ext hE3)
      have HE3 := Aside0.mk (HE.out.trans hE3)
      obtain ⟨i0, hi0, _, hsz, _⟩ := info_parts PShaAdds.info5
      have hcut1 := cut_to (P := Tryd.prog) 22 5 .i64 Tryd.underlying22 hi0 A' m c' (r : Int) (by omega) (by omega) hc'
      rw [Int.toNat_natCast] at hcut1
      obtain ⟨AF, cF, hcut2, hcF, hCF⟩ := cutF A' m c' t r HM.out hc' hrm (r : Int) rfl
      have HCA := Aside0.mk (show Kd.C kb w A' r (t.take r) by
        have h := Kd.C_take (m := r) (HM.out ▸ HR'.out) (by rw [← HM.out]; exact hrm)
        rwa [show (t.take r).length = r by rw [List.length_take, ← HM.out]; omega] at h)
      have HCB := Aside0.mk (hCF w HR'.out)
      have hrc : r ≤ c' := by omega
      have HRM := Aside0.mk (show (t.take r).length = r by rw [List.length_take, ← HM.out]; omega)
      have HRD := Aside0.mk (show (t.drop r).length = m - r by rw [List.length_drop, ← HM.out])
      have HB2 := Aside0.mk (show w.heap.size < b2 from HLT.out)
      clear hE3 hrr HI HO HE hi0 hsz hCF
      have HBN := Aside0.mk (fun (V1 : Value) (lo : Nat) (w : World) (l : List Int) (hh : Hs w lo lo l V1) => hh.ne)
      go_wp2_with fail
      refine (add_old w w3 w.heap.size w.heap.size K1 (t.take r) V1 A' c' r H2.out (Nat.le_refl _) HRM.out.symm HI3.out HE3.out HT1.out HCA.out hrc (by rw [HL1.out]; omega)).mono ?_
      rintro e w4 ⟨rfl, V3, hI4, hE4, hF4, hN4⟩
      have HO4 := Aside0.mk (HO3.out.fr hF4 (by intro h; rcases h with h | h; · have := HB2.out; omega
                                                · exact (HNO.out b2 h).1 rfl) (fun j hj h => by
        rcases h with h | h
        · have := own_base (Kd.own_of_R HO3.out.2.2) j hj; have := HB2.out; omega
        · exact (HNO.out j h).2 hj))
      have HNO4 := Aside0.mk (show ∀ j, V3.ownBlock = some j → j ≠ b2 ∧ V2.ownBlock ≠ some j from fun j hj => by
        have h1 := hN4 j hj
        refine ⟨?_, fun h => ?_⟩
        · have := HO3.out.2.1.lt; omega
        · have := own_lt (Kd.own_of_R HO3.out.2.2) j h; omega)
      have HI4 := Aside0.mk hI4
      have HE4 := Aside0.mk hE4
      clear hI4 hE4 hF4 hN4 HI3 HO3 HE3 HNO hcut1
      go_wp2_with fail
      refine (add_old w w4 w.heap.size w.heap.size (K1 ++ t.take r) (t.drop r) V3 AF cF (m - r) H2.out (Nat.le_refl _) HRD.out.symm HI4.out HE4.out HT1.out HCB.out hcF (by rw [List.length_append, HL1.out, HRM.out]; omega)).mono ?_
      rintro e w5 ⟨rfl, V5, hI5, hE5, hF5, hN5⟩
      have HO5 := Aside0.mk (HO4.out.fr hF5 (by intro h; rcases h with h | h; · have := HB2.out; omega
                                                · exact (HNO4.out b2 h).1 rfl) (fun j hj h => by
        rcases h with h | h
        · have := own_base (Kd.own_of_R HO4.out.2.2) j hj; have := HB2.out; omega
        · exact (HNO4.out j h).2 hj))
      rw [List.append_assoc, List.take_append_drop] at hI5
      have HI5 := Aside0.mk hI5
      have HE5 := Aside0.mk hE5
      clear hI5 hE5 hF5 hN5 HI4 HO4 HE4 HNO4 hcut2
      go_wp2_with fail
      refine (hsum_calls w5 w.heap.size w.heap.size (K1 ++ t) V5 HI5.out (HT1.out.ext HE5.out) (by rw [List.length_append, HL1.out, ← HM.out]; omega)).mono ?_
      rintro e w6 ⟨rfl, hE6⟩
      rw [← HF.out]
      have HE6 := Aside0.mk (HE5.out.trans hE6)
      have HO6 := Aside0.mk (HO5.out.ext hE6)
      clear hE6 HE5 HO5 HI5
      go_wp2_with (first | ((with_reducible refine gate_store (ty := 26) rfl ?_); (refine store_at rfl 26 _ _ rfl w6.heap.size (nums .u8 F) rfl rfl _ 26 (Blk.new w6 #[Value.int .u8 0, Value.int .u8 0, Value.int .u8 0, Value.int .u8 0, Value.int .u8 0, Value.int .u8 0, Value.int .u8 0, Value.int .u8 0, Value.int .u8 0, Value.int .u8 0, Value.int .u8 0, Value.int .u8 0, Value.int .u8 0, Value.int .u8 0, Value.int .u8 0, Value.int .u8 0, Value.int .u8 0, Value.int .u8 0, Value.int .u8 0, Value.int .u8 0, Value.int .u8 0, Value.int .u8 0, Value.int .u8 0, Value.int .u8 0, Value.int .u8 0, Value.int .u8 0, Value.int .u8 0, Value.int .u8 0, Value.int .u8 0, Value.int .u8 0, Value.int .u8 0, Value.int .u8 0] 26) HSF.out HIF.out (one_cells _ _) ?_)) | fail)
      intro w7 hW7 hB7
      have hx7 := hW7.ext ((Ext.refl w6).alloc _) (Nat.le_refl _)
      have HE7 := Aside0.mk (HE6.out.trans hx7)
      have HO7 := Aside0.mk (HO6.out.ext hx7)
      have HCF := Aside0.mk (show Kd.C kb w7 (some ⟨w6.heap.size, 0, none⟩) 32 F by have h := C_of_blk hB7 (by rw [HFL.out]; decide); rwa [HFL.out] at h)
      have HNE := Aside0.mk (show w6.heap.size ≠ b2 from Nat.ne_of_gt HO6.out.2.1.lt)
      clear hW7 hB7 hx7 HE6 HO6
      generalize w6.heap.size = b12 at HCF HNE ⊢
      go_wp2_with fail
      refine (add_calls w7 b2 b2 K2 F V2 (some ⟨b12, 0, none⟩) 32 32 (Nat.le_trans H2.out (Nat.le_of_lt HB2.out)) HFL.out.symm HO7.out (HT1.out.ext HE7.out) HCF.out (Nat.le_refl _) (by rw [HL2.out]; decide) (fun a ha _ => by rw [← Option.some.inj ha]; exact HNE.out)).mono ?_
      rintro e w8 ⟨rfl, V8, hO8, hF8, _⟩
      have hvlo : ∀ j, V2.ownBlock = some j → b2 ≤ j := fun j hj => own_base (Kd.own_of_R HO7.out.2.2) j hj
      have HE8 := Aside0.mk (hF8.ext HE7.out (fun j hj => by rcases hj with rfl | hj; exact Nat.le_of_lt HB2.out; exact Nat.le_trans (Nat.le_of_lt HB2.out) (hvlo j hj)))
      have HO8 := Aside0.mk hO8
      clear hO8 hF8 hvlo HE7 HO7
      go_wp2_with fail
      refine (hsum_calls w8 b2 b2 (K2 ++ F) V8 HO8.out (HT1.out.ext HE8.out) (by rw [List.length_append, HL2.out, HFL.out]; decide)).mono ?_
      rintro e w9 ⟨rfl, hE9⟩
      rw [HDE.out]
      have HE9 := Aside0.mk (HE8.out.trans hE9)
      clear hE9 HE8 HO8
      go_wp2_with fail
      refine (mac_calls w9 A A' c c' n m k t (HT1.out.ext HE9.out) (Nat.le_trans H2.out HE9.out.size) HNN.out (Kd.C_below HR.out HE9.out) hc (by omega) HM.out (Kd.C_below HR'.out HE9.out) hc' (by omega)).mono ?_
      rintro e wa ⟨rfl, hEa⟩
      rw [← HD.out]
      have HEa := Aside0.mk (HE9.out.trans hEa)
      clear hEa HE9
      go_wp2_with (first | ((with_reducible refine gate_eql (ty := 26) rfl ?_); (refine eql_at rfl 26 26 _ _ rfl (nums .u8 D).toArray (nums .u8 D).toArray rfl rfl (by kernel_rfl) true (HQ.out _) ?_)) | fail)
      refine (works_calls wa (HT1.out.ext HEa.out) (Nat.le_trans H2.out HEa.out.size)).mono ?_
      rintro e wb ⟨rfl, hEb⟩
      have HEb := Aside0.mk (HEa.out.trans hEb)
      clear hEb HEa
      go_wp2
      go_ret
      exact ⟨rfl, HEb.out⟩
end Go.Proofs.YtbnbncnmhhioeaaDoor.By
