/- The digest of bytes: the program's, the document's; a digest of eight words; the chapter's example. -/
import Derived.Test.YtbnbncnmhhioeaaDoorHSum
import Derived.Test.YtbnbncnmhhioeaaDoorRTake
namespace Go.Proofs.YtbnbncnmhhioeaaDoor.By
open Go.RowKit Go.Proofs.YtbnbncnmhhioeaaDoor.Reg Go.Proofs.YtbnbncnmhhioeaaDoorW.PrintWords Go.Proofs.YtbnbncnmhhioeaaDoorW.PrintLast Go.Proofs.YtbnbncnmhhioeaaDoorW.PrintMore
set_option linter.unusedVariables false

theorem digest_len (s : S8) : (digest s).length = 32 := outA_length s 32
theorem outA_isB (s : S8) : ∀ n, isB (outA s n)
  | 0 => fun x hx => by simp [outA] at hx
  | n + 1 => (outA_isB s n).app (fun x hx => by rw [List.mem_singleton.1 hx]; unfold outB; omega)
theorem digest_isB (s : S8) : isB (digest s) := outA_isB s 32
theorem sha_len (l : List Int) : (shaF l).length = 32 := digest_len _
theorem sha_isB (l : List Int) : isB (shaF l) := digest_isB _
theorem rows_at (w : World) (A : Option Addr) (c n : Nat) (l : List Int) (hn : n = l.length) (hr : Kd.C kb w A n l) (hc : n ≤ c) (hl : n < 140737488355000) :
    Calls Tryd.prog 34 #[.slice A n c] w fun e w' => ∃ A2 c2, e = .returned (.slice A2 (rowsF l).length c2) ∧ (rowsF l).length ≤ c2 ∧ Kd.C kb w' A2 (rowsF l).length (rowsF l) ∧ Ext w w' := by
  subst hn
  refine (PShaAdds.rillref01_rows.calls (l.length + 101) A c l (rowsF l) w hr hc (rows_eq l hl)).mono fun e w1 h => ?_
  obtain ⟨V, rfl, hV, hB⟩ := h
  obtain ⟨A2, c2, rfl, hc2, hC2⟩ := Kd.R_reads hV
  exact ⟨A2, c2, rfl, hc2, hC2, hB⟩
theorem first_at (w : World) : Calls Tryd.prog 35 #[] w fun e w' => ∃ A c, e = .returned (.slice A 8 c) ∧ 8 ≤ c ∧ Kd.C ku w' A 8 s0.l ∧ Ext w w' := by
  refine (PShaAdds.rillref01_first.calls s0.l w rfl).mono fun e w1 h => ?_
  obtain ⟨V, rfl, hV, hB⟩ := h
  obtain ⟨A2, c2, rfl, hc2, hC2⟩ := Kd.R_reads hV
  exact ⟨A2, c2, rfl, hc2, hC2, hB⟩

set_option maxHeartbeats 4000000 in
theorem of_calls (w : World) (A : Option Addr) (c n : Nat) (bs : List Int) (hn : n = bs.length) (hT : Tab 1 w) (hr : Kd.C kb w A n bs) (hc : n ≤ c) (hl : n ≤ 1099511627776) (h2 : 2 ≤ w.heap.size) :
    Calls Tryd.prog 16 #[.slice A n c] w fun e w' => e = .returned (sumV (shaF bs)) ∧ Ext w w' := by
  have hs1 : (w.alloc (.cells #[Value.int .u8 0, Value.int .u8 0, Value.int .u8 0, Value.int .u8 0, Value.int .u8 0, Value.int .u8 0, Value.int .u8 0, Value.int .u8 0, Value.int .u8 0, Value.int .u8 0, Value.int .u8 0, Value.int .u8 0, Value.int .u8 0, Value.int .u8 0, Value.int .u8 0, Value.int .u8 0, Value.int .u8 0, Value.int .u8 0, Value.int .u8 0, Value.int .u8 0, Value.int .u8 0, Value.int .u8 0, Value.int .u8 0, Value.int .u8 0, Value.int .u8 0, Value.int .u8 0, Value.int .u8 0, Value.int .u8 0, Value.int .u8 0, Value.int .u8 0, Value.int .u8 0, Value.int .u8 0] 26)).heap.size = w.heap.size + 1 := size_alloc _ _
  have HK := Aside0.mk (show Blk (w.alloc (.cells #[Value.int .u8 0, Value.int .u8 0, Value.int .u8 0, Value.int .u8 0, Value.int .u8 0, Value.int .u8 0, Value.int .u8 0, Value.int .u8 0, Value.int .u8 0, Value.int .u8 0, Value.int .u8 0, Value.int .u8 0, Value.int .u8 0, Value.int .u8 0, Value.int .u8 0, Value.int .u8 0, Value.int .u8 0, Value.int .u8 0, Value.int .u8 0, Value.int .u8 0, Value.int .u8 0, Value.int .u8 0, Value.int .u8 0, Value.int .u8 0, Value.int .u8 0, Value.int .u8 0, Value.int .u8 0, Value.int .u8 0, Value.int .u8 0, Value.int .u8 0, Value.int .u8 0, Value.int .u8 0] 26)) w.heap.size (nums .u8 zs).toArray 26 from Blk.new w _ 26)
  have HE0 := Aside0.mk ((Ext.refl w).alloc (.cells #[Value.int .u8 0, Value.int .u8 0, Value.int .u8 0, Value.int .u8 0, Value.int .u8 0, Value.int .u8 0, Value.int .u8 0, Value.int .u8 0, Value.int .u8 0, Value.int .u8 0, Value.int .u8 0, Value.int .u8 0, Value.int .u8 0, Value.int .u8 0, Value.int .u8 0, Value.int .u8 0, Value.int .u8 0, Value.int .u8 0, Value.int .u8 0, Value.int .u8 0, Value.int .u8 0, Value.int .u8 0, Value.int .u8 0, Value.int .u8 0, Value.int .u8 0, Value.int .u8 0, Value.int .u8 0, Value.int .u8 0, Value.int .u8 0, Value.int .u8 0, Value.int .u8 0, Value.int .u8 0] 26))
  have HS1 := Aside0.mk hs1
  have HR := Aside0.mk hr
  have HT := Aside0.mk hT
  have HN := Aside0.mk hn
  have HFAR := Aside0.mk (show ∀ a, A = some a → 0 < n → a.block < w.heap.size from fun a ha hp => by
    obtain ⟨ad, e, h⟩ := at_k hr 0 (by decide) (by omega)
    subst ha
    obtain rfl := Option.some.inj e
    exact World.block_lt_of_cell? w _ h)
  obtain ⟨D, hD⟩ : ∃ D, D = shaF bs := ⟨_, rfl⟩
  have HD := Aside0.mk hD
  have HI26 := Aside0.mk (show (Tryd.prog.info? 26).map (·.size) = some (nums .u8 D).length by rw [nums_length, hD, sha_len]; kernel_rfl)
  have HSZ := Aside0.mk (show (nums .u8 zs).toArray.size = (nums .u8 D).length by rw [nums_length, hD, sha_len]; rfl)
  clear hs1 hr hT hn hD
  go_enter Tryd.func16, Tryd.ntmps16
  go_wp2_with fail
  refine (new_calls _).mono ?_
  rintro e w1 ⟨rfl, hH, hE1⟩
  rw [HS1.out] at hH
  rw [HS1.out]
  have HH := Aside0.mk hH
  have HE1 := Aside0.mk (HE0.out.trans hE1)
  have HK1 := Aside0.mk (HK.out.ext hE1)
  clear hH hE1 HE0 HK
  go_wp2_with fail
  refine (add_calls w1 (w.heap.size + 1) (w.heap.size + 1) [] bs _ A c n (by omega) HN.out HH.out (HT.out.ext HE1.out) (Kd.C_below HR.out HE1.out) hc (by simpa using hl) (fun a ha hp => by have := HFAR.out a ha hp; omega)).mono ?_
  rintro e w2 ⟨rfl, V', hH2, hF2, _⟩
  rw [List.nil_append] at hH2
  have HH2 := Aside0.mk hH2
  have hne : ∀ k, (k = w.heap.size + 1 ∨ (Value.slice none 0 0).ownBlock = some k) → w.heap.size + 1 ≤ k := fun k h => by
    rcases h with h | h
    · omega
    · simp [Value.ownBlock] at h
  have HE2 := Aside0.mk (hF2.ext HE1.out (fun k h => Nat.le_of_succ_le (hne k h)))
  have HK2 := Aside0.mk (hF2.blk HK1.out (fun h => by have := hne _ h; omega))
  clear hH2 hF2 hne HH HE1 HK1 HFAR
  go_wp2_with fail
  refine (hsum_calls w2 (w.heap.size + 1) (w.heap.size + 1) bs V' HH2.out (HT.out.ext HE2.out) (by have := HN.out; omega)).mono ?_
  rintro e w3 ⟨rfl, hE3⟩
  have HE3 := Aside0.mk (HE2.out.trans hE3)
  have HK3 := Aside0.mk (HK2.out.ext hE3)
  clear hE3 HE2 HK2 HH2
  rw [← HD.out]
  go_wp2_with (first | ((with_reducible refine gate_store (ty := 26) rfl ?_); (refine store_at rfl 26 _ _ rfl w.heap.size (nums .u8 D) rfl rfl _ 26 HK3.out HSZ.out HI26.out (one_cells _ _) ?_)) | fail)
  intro wf hWf hBf
  have HEF := Aside0.mk (hWf.ext HE3.out (Nat.le_refl _))
  have HBF := Aside0.mk hBf
  clear hWf hBf HE3 HK3
  go_wp2_with fail
  (try simp only [Exit.inBlock, Exit.then])
  refine bodyPost_ret (results_cell_row rfl _ _ w.heap.size 26 (nums .u8 D).toArray (0, 0) _ rfl HBF.out.is Tryd.underlying26 rfl (by simpa using HI26.out)) rfl ?_
  rw [← HD.out]
  exact ⟨rfl, HEF.out⟩

set_option maxRecDepth 100000 in
set_option maxHeartbeats 8000000 in
theorem rof_calls (w : World) (A : Option Addr) (c n : Nat) (bs : List Int) (hn : n = bs.length) (hT : Tab 0 w) (hr : Kd.C kb w A n bs) (hc : n ≤ c) (hl : n ≤ 1099511627776) :
    Calls Tryd.prog 17 #[.slice A n c] w fun e w' => e = .returned (sumV (shaF bs)) ∧ Ext w w' := by
  have HK := Aside0.mk (show Blk (w.alloc (.cells #[Value.int .u8 0, Value.int .u8 0, Value.int .u8 0, Value.int .u8 0, Value.int .u8 0, Value.int .u8 0, Value.int .u8 0, Value.int .u8 0, Value.int .u8 0, Value.int .u8 0, Value.int .u8 0, Value.int .u8 0, Value.int .u8 0, Value.int .u8 0, Value.int .u8 0, Value.int .u8 0, Value.int .u8 0, Value.int .u8 0, Value.int .u8 0, Value.int .u8 0, Value.int .u8 0, Value.int .u8 0, Value.int .u8 0, Value.int .u8 0, Value.int .u8 0, Value.int .u8 0, Value.int .u8 0, Value.int .u8 0, Value.int .u8 0, Value.int .u8 0, Value.int .u8 0, Value.int .u8 0] 26)) w.heap.size (nums .u8 zs).toArray 26 from Blk.new w _ 26)
  have HE0 := Aside0.mk ((Ext.refl w).alloc (.cells #[Value.int .u8 0, Value.int .u8 0, Value.int .u8 0, Value.int .u8 0, Value.int .u8 0, Value.int .u8 0, Value.int .u8 0, Value.int .u8 0, Value.int .u8 0, Value.int .u8 0, Value.int .u8 0, Value.int .u8 0, Value.int .u8 0, Value.int .u8 0, Value.int .u8 0, Value.int .u8 0, Value.int .u8 0, Value.int .u8 0, Value.int .u8 0, Value.int .u8 0, Value.int .u8 0, Value.int .u8 0, Value.int .u8 0, Value.int .u8 0, Value.int .u8 0, Value.int .u8 0, Value.int .u8 0, Value.int .u8 0, Value.int .u8 0, Value.int .u8 0, Value.int .u8 0, Value.int .u8 0] 26))
  have HR := Aside0.mk hr
  have HT := Aside0.mk hT
  have HN := Aside0.mk hn
  clear hr hT hn
  go_enter Tryd.func17, Tryd.ntmps17
  go_wp2_with fail
  refine (rows_at _ A c n bs HN.out (Kd.C_below HR.out HE0.out) hc (by omega)).mono ?_
  rintro e w1 ⟨A2, c2, rfl, hc2, hC2, hE1⟩
  obtain ⟨Y, hY⟩ : ∃ Y, Y = rowsF bs := ⟨_, rfl⟩
  rw [← hY] at hC2 hc2
  rw [← hY]
  obtain ⟨LY, hLY⟩ : ∃ LY, LY = Y.length := ⟨_, rfl⟩
  rw [← hLY] at hC2 hc2
  rw [← hLY]
  have hLY2 : LY = n + (padF bs.length).length := by rw [hLY, hY, rowsF, List.length_append, HN.out]
  have hpad := padF_length bs.length
  obtain ⟨T, hTT⟩ : ∃ T, T = LY / 64 := ⟨_, rfl⟩
  have hTL : LY = 64 * T := by rw [hTT, hLY2, hpad, HN.out]; omega
  have HSH := Aside0.mk (show shaF bs = digest (foldB T s0 Y) by unfold shaF; rw [hTT, hLY2, HN.out, hY])
  have HYY := Aside0.mk (And.intro hLY (And.intro hTT hTL))
  have hLYm : (LY : Int) ≤ 2199023255552 := by rw [hLY2, hpad]; omega
  have HE1 := Aside0.mk (HE0.out.trans hE1)
  have HK1 := Aside0.mk (HK.out.ext hE1)
  have HC2 := Aside0.mk hC2
  clear hE1 HE0 HK hC2 hY hLY hLY2 hpad hTT hTL
  go_wp2_with fail
  refine (first_at _).mono ?_
  rintro e w2 ⟨A3, c3, rfl, hc3, hC3, hE2⟩
  have HC3 := Aside0.mk (show Kd.C ku w2 A3 8 (foldB 0 s0 Y).l from hC3)
  have HE2 := Aside0.mk (HE1.out.trans hE2)
  have HK2 := Aside0.mk (HK1.out.ext hE2)
  have HCY := Aside0.mk (Kd.C_below HC2.out hE2)
  clear hC3 hE2 HE1 HK1 HC2
  go_wp2_with fail
  go_loopw [4, 5] (fun v i wr => ∃ m : Nat, i = .int .i64 (64 * m) ∧ Aside0 (m ≤ T) ∧ (∃ A4 c4, v = .slice A4 8 c4 ∧ 8 ≤ c4 ∧ Aside0 (Kd.C ku wr A4 8 (foldB m s0 Y).l)) ∧ Aside0 (Ext w2 wr)) (fun _ i _ => LY - (intOf i).toNat)
  case atStart => exact ⟨0, rfl, ⟨Nat.zero_le _⟩, ⟨A3, c3, rfl, hc3, HC3⟩, ⟨Ext.refl _⟩⟩
  case round =>
    clear HC3 hc3
    obtain ⟨m, rfl, HM, ⟨A4, c4, rfl, hc4, HC4⟩, HE⟩ := hrel
    have hmT := HM.out
    obtain ⟨wx, hwx⟩ : ∃ wx : World, wx = wr := ⟨_, rfl⟩
    subst hwx
    by_cases hm : m < T
    · have hz : (64 * (m : Int) < (LY : Int)) = True := eq_true (by have := HYY.out; omega)
      have hfit : 64 * m + 64 ≤ LY := by have := HYY.out; omega
      obtain ⟨AB, cB, hcut, hcB, hCB⟩ := cut64 A2 LY c2 Y (64 * m) HYY.out.1 hc2 hfit (64 * (m : Int)) (64 * (m : Int) + 64) (by omega) (by omega)
      have HCB := Aside0.mk (hCB wx (Kd.C_below HCY.out HE.out))
      have HBL := Aside0.mk (show ((Y.drop (64 * m)).take 64).length = 64 by rw [List.length_take, List.length_drop, ← HYY.out.1]; omega)
      have HSU := Aside0.mk (foldB_succ m s0 Y)
      have HMM := Aside0.mk (And.intro hm hfit)
      generalize foldB m s0 Y = Sm at HC4 HSU
      generalize (Y.drop (64 * m)).take 64 = blk at HCB HBL HSU
      have hw1 := wrapI (x := 64 * (m : Int) + 64) (by omega) (by omega)
      clear hCB
      go_wp2_with fail
      refine (rtake_calls wx Sm A4 c4 AB cB blk HBL.out HC4.out hc4 HCB.out hcB (HT.out.ext (HE2.out.trans HE.out))).mono ?_
      rintro e w3 ⟨V3, rfl, hV3, hE3⟩
      obtain ⟨A5, c5, rfl, hc5, hC5⟩ := Kd.R_reads hV3
      have HC5 := Aside0.mk (show Kd.C ku w3 A5 8 (foldB (m + 1) s0 Y).l by rw [HSU.out]; exact hC5)
      have HE3 := Aside0.mk (HE.out.trans hE3)
      have hc5' : 8 ≤ c5 := hc5
      clear hV3 hC5 hE3 hc5 HC4 HCB HE hcut hfit
      go_wp2_with fail
      go_roundw
      case rel => exact ⟨m + 1, by congr 1, ⟨HMM.out.1⟩, ⟨A5, c5, rfl, hc5', HC5⟩, HE3⟩
      case measure => have := HMM.out; simp only [intOf]; omega
    · have hmm : m = T := by omega
      subst hmm
      have hz : (64 * (m : Int) < (LY : Int)) = False := eq_false (by have := HYY.out; omega)
      generalize hSF : foldB m s0 Y = SF at HC4 HSH
      have HB7 := Aside0.mk (show Blk (wx.alloc (.cells #[Value.int .u8 0, Value.int .u8 0, Value.int .u8 0, Value.int .u8 0, Value.int .u8 0, Value.int .u8 0, Value.int .u8 0, Value.int .u8 0, Value.int .u8 0, Value.int .u8 0, Value.int .u8 0, Value.int .u8 0, Value.int .u8 0, Value.int .u8 0, Value.int .u8 0, Value.int .u8 0, Value.int .u8 0, Value.int .u8 0, Value.int .u8 0, Value.int .u8 0, Value.int .u8 0, Value.int .u8 0, Value.int .u8 0, Value.int .u8 0, Value.int .u8 0, Value.int .u8 0, Value.int .u8 0, Value.int .u8 0, Value.int .u8 0, Value.int .u8 0, Value.int .u8 0, Value.int .u8 0] 26)) wx.heap.size (nums .u8 (upto 32 (outA SF 0))).toArray 26 from Blk.new wx _ 26)
      have HEZ := Aside0.mk ((Ext.refl wx).alloc (.cells #[Value.int .u8 0, Value.int .u8 0, Value.int .u8 0, Value.int .u8 0, Value.int .u8 0, Value.int .u8 0, Value.int .u8 0, Value.int .u8 0, Value.int .u8 0, Value.int .u8 0, Value.int .u8 0, Value.int .u8 0, Value.int .u8 0, Value.int .u8 0, Value.int .u8 0, Value.int .u8 0, Value.int .u8 0, Value.int .u8 0, Value.int .u8 0, Value.int .u8 0, Value.int .u8 0, Value.int .u8 0, Value.int .u8 0, Value.int .u8 0, Value.int .u8 0, Value.int .u8 0, Value.int .u8 0, Value.int .u8 0, Value.int .u8 0, Value.int .u8 0, Value.int .u8 0, Value.int .u8 0] 26))
      have HCS := HC4
      have HEWZ := Aside0.mk (HE2.out.trans HE.out)
      have HKR := Aside0.mk (HK2.out.ext HE.out)
      obtain ⟨adx, eA4, _⟩ := at_k HC4.out 0 (by decide) (by decide)
      subst eA4
      clear hSF hmT hm HM HC4 HE HE2 HK2
      go_wp2_with fail
      go_loopw [7] (fun i wr => ∃ x : Int, i = .int .i64 x ∧ Aside0 (0 ≤ x ∧ x ≤ 32) ∧ Aside0 (Blk wr wx.heap.size (nums .u8 (upto 32 (outA SF x.toNat))).toArray 26) ∧ Aside0 (Ext wx wr)) (fun i _ => 32 - (intOf i).toNat)
      case atStart => exact ⟨0, rfl, ⟨by decide⟩, HB7, HEZ⟩
      case round =>
        clear HB7 HEZ
        obtain ⟨x, rfl, HXX2, HB7, HEZ⟩ := hrel
        obtain ⟨g0, g1⟩ := HXX2.out
        obtain ⟨wv, hwv⟩ : ∃ wv : World, wv = wr := ⟨_, rfl⟩
        subst hwv
        by_cases hlt : x < 32
        · have HLT := Aside0.mk hlt
          have hd0 : 0 ≤ x / 4 := by omega
          have hd1 : x / 4 < 8 := by omega
          obtain ⟨adx, eax, hcell⟩ := at_k (Kd.C_below HCS.out HEZ.out) (x / 4) hd0 (by omega)
          obtain rfl := Option.some.inj eax
          have hr0 : 0 ≤ x % 4 := by omega
          have hr1 : x % 4 < 4 := by omega
          obtain ⟨v0, hv0⟩ := upto_there 32 (outA SF x.toNat) x.toNat .u8 (by omega) (by rw [outA_length]; omega)
          have hcl := HB7.out.cell x.toNat hv0
          have hfr := HB7.out.free x.toNat
          have hst := HB7.out.set x.toNat (.int .u8 (outB SF x))
          have hset := upto_set 32 (outA SF x.toNat) (outB SF x) .u8 (by rw [outA_length]; omega)
          rw [outA_length, show outA SF x.toNat ++ [outB SF x] = outA SF (x + 1).toNat by rw [show (x + 1).toNat = x.toNat + 1 by omega, outA, Int.toNat_of_nonneg g0]] at hset
          rw [hset, outB_eq SF x g0] at hst
          have HST := Aside0.mk hst
          have hw := Wrote.setCell wv wx.heap.size x.toNat (.int .u8 (rd SF.l (x / 4) / 2 ^ (24 - 8 * (x % 4)).toNat % 256))
          have HEZ' := Aside0.mk (hw.ext HEZ.out (Nat.le_refl _))
          clear hv0 hst hset hw HB7 HEZ
          go_wp2_with fail
          go_roundw
          case rel => exact ⟨x + 1, rfl, ⟨by omega, by omega⟩, HST, HEZ'⟩
          case measure => have := HLT.out; simp only [intOf]; omega
        · have hx : x = 32 := by omega
          subst hx
          have HB7' : Aside0 (Blk wv wx.heap.size (nums .u8 (digest SF)).toArray 26) := ⟨by have h := HB7.out; unfold upto at h; rw [outA_length] at h; simpa [digest] using h⟩
          have HI26 := Aside0.mk (show (Tryd.prog.info? 26).map (·.size) = some (nums .u8 (digest SF)).length by rw [nums_length, digest_len]; kernel_rfl)
          have HEW := Aside0.mk (HEWZ.out.trans HEZ.out)
          have HR2 := Aside0.mk (HKR.out.ext HEZ.out)
          have HSZ := Aside0.mk (show (nums .u8 zs).toArray.size = (nums .u8 (digest SF)).length by rw [nums_length, digest_len]; rfl)
          clear HB7 HEZ
          go_wp2_with (first | ((with_reducible refine gate_load (ty := 26) rfl ?_); refine load_at rfl 26 _ rfl wx.heap.size 0 rfl (nums .u8 (digest SF)) _ (HB7'.out.range 0 _ [] (by simp)) Tryd.underlying26 rfl HI26.out ?_) | ((with_reducible refine gate_store (ty := 26) rfl ?_); (refine store_at rfl 26 _ _ rfl w.heap.size (nums .u8 (digest SF)) rfl rfl _ 26 HR2.out HSZ.out HI26.out (one_cells _ _) ?_)) | fail)
          intro wf hWf hBf
          have HEF := Aside0.mk (hWf.ext HEW.out (Nat.le_refl _))
          have HBF := Aside0.mk hBf
          clear hWf hBf HEW HR2
          go_wp2_with fail
          (try simp only [Exit.inBlock, Exit.then])
          refine bodyPost_ret (results_cell_row rfl _ _ w.heap.size 26 (nums .u8 (digest SF)).toArray (0, 0) _ rfl HBF.out.is Tryd.underlying26 rfl (by simpa using HI26.out)) rfl ?_
          rw [HSH.out]
          exact ⟨rfl, HEF.out⟩
end Go.Proofs.YtbnbncnmhhioeaaDoor.By
