/- PackKnown. -/
import Derived.Test.YtkjjkahdmlfflaaOnly
namespace Go.Proofs.Ytkjjkahdmlfflaa.By
open Go.RowKit Go.Proofs.Ytkjjkahdmlfflaa.Reg Go.Proofs.YtkjjkahdmlfflaaW.PrintWords Go.Proofs.YtkjjkahdmlfflaaW.PrintLast Go.Proofs.YtkjjkahdmlfflaaW.PrintMore
set_option linter.unusedVariables false

def endsK : List Int := [-9223372036854775808, -1, 0, 1, 255, 256, 1099511627776, 9223372036854775807]
theorem endsK_ok : ∀ v ∈ endsK, -9223372036854775808 ≤ v ∧ v ≤ 9223372036854775807 := by
  intro v hv
  simp only [endsK, List.mem_cons, List.not_mem_nil, or_false] at hv
  rcases hv with h | h | h | h | h | h | h | h <;> subst h <;> decide
theorem endsK_cell (x : Int) (h0 : 0 ≤ x) (h1 : x < 8) : ((nums .i64 endsK).toArray)[x.toNat]? = some (.int .i64 (rd endsK x)) := by
  obtain rfl | rfl | rfl | rfl | rfl | rfl | rfl | rfl : x = 0 ∨ x = 1 ∨ x = 2 ∨ x = 3 ∨ x = 4 ∨ x = 5 ∨ x = 6 ∨ x = 7 := by omega
  all_goals rfl

theorem make7 (W : World) : (Instr.makeSlice 22 (.int .i64 7) (.int .i64 7)).run Try.prog W = .ok (.slice (some ⟨W.heap.size, 0, none⟩) 7 7) (W.alloc (.cells (nums .u8 (List.replicate 7 0)).toArray 5)) := by
  obtain ⟨i0, hi0, hz0, hsz, hby⟩ := info_parts PPackPuts.info5
  have := run_make (P := Try.prog) W 22 5 i0 (.int .u8 0) Try.underlying22 hi0 hz0 .i64 .i64 7 7 (by decide) (by decide) (by rw [hby]; decide) (by decide)
  rw [hsz, show madeCells (Value.int .u8 0).cells (Int.toNat 7 * 1) = (nums .u8 (List.replicate 7 0)).toArray by kernel_rfl] at this
  exact this
theorem z7 (W : World) : Kd.C kb (W.alloc (.cells (nums .u8 (List.replicate 7 0)).toArray 5)) (some ⟨W.heap.size, 0, none⟩) 7 (List.replicate 7 0) := C_bytes (Blk.new W _ 5) (List.replicate 7 0) (by decide) 0 [] (by simp)
theorem z2 (W : World) : Kd.C kb (W.alloc (.cells (nums .u8 [5, 6]).toArray 5)) (some ⟨W.heap.size, 0, none⟩) 2 [5, 6] := C_bytes (Blk.new W _ 5) [5, 6] (by decide) 0 [] (by simp)

set_option maxRecDepth 100000 in
set_option maxHeartbeats 8000000 in
theorem knowns_calls (w : World) : Calls Try.prog 5 #[] w fun e w' => e = .returned (.bool true) ∧ Ext w w' := by
  have hk := Blk.new w (nums .i64 endsK).toArray 3
  have HE0 := Aside0.mk ((Ext.refl w).alloc (.cells (nums .i64 endsK).toArray 3))
  have HK := Aside0.mk hk
  clear hk
  go_enter Try.func5, Try.ntmps5
  go_wp2_with fail
  go_loopw [2] (fun i wr => ∃ x : Int, i = .int .i64 x ∧ Aside0 (0 ≤ x ∧ x ≤ 8) ∧ Aside0 (Blk wr w.heap.size (nums .i64 endsK).toArray 3) ∧ Aside0 (Ext w wr)) (fun i _ => 8 - (intOf i).toNat)
  case atStart => exact ⟨0, rfl, ⟨by decide⟩, HK, HE0⟩
  case round =>
    clear HK HE0
    obtain ⟨x, rfl, HX, HK, HE⟩ := hrel
    obtain ⟨g0, g1⟩ := HX.out
    by_cases hlt : x < 8
    · have HLT := Aside0.mk hlt
      have hv := endsK_ok (rd endsK x) (by
        unfold rd
        rw [List.getD_eq_getElem?_getD, List.getElem?_eq_getElem (show x.toNat < endsK.length by show x.toNat < 8; omega)]
        exact List.getElem_mem _)
      have hcell := HK.out.cell x.toNat (endsK_cell x g0 hlt)
      generalize rd endsK x = v at hv hcell
      have HV := Aside0.mk hv
      clear hv
      obtain ⟨wx, hwx⟩ : ∃ wx : World, wx = wr := ⟨_, rfl⟩
      subst hwx
      go_wp2_with fail
      refine (nil_int wx v).mono ?_
      rintro e w7 ⟨V, rfl, hV, hE7⟩
      obtain ⟨X, cx, rfl, hcx, hC⟩ := hV.reads
      rw [be8_length] at hcx hC ⊢
      have HK7 := Aside0.mk (HK.out.ext hE7)
      have HE7 := Aside0.mk (HE.out.trans hE7)
      have HC7 := Aside0.mk hC
      have HCELL := Aside0.mk (Ext.cell hE7 hcell)
      clear hV hE7 hC HK HE hcell
      go_wp2_with fail
      apply wp_region_G 13 6 (fun W W' => w7.heap.size ≤ W.heap.size → Below w7.heap.size W W') (fun _ _ h hle => Below.mono h hle) (fun _ _ _ h k hle => (h hle).trans (k (Nat.le_trans hle (h hle).size))) [GF.val (.slice X 8 cx), GF.val (.int .i64 8), GF.val (.bool false), GF.val (.bool false), GF.val (.slice X 8 cx), GF.fact false (fun u W => ∃ b hi, u = .pointer (some ⟨b, 0, none⟩) ∧ Rd W w7.heap.size hi b (be8 v) false), GF.fact true (fun u _ => u = .int .i64 v), GF.val (.slice (some ⟨w.heap.size, 0, none⟩) 8 8), GF.val (.int .i64 x), GF.val (.pointer (some ⟨w.heap.size, x.toNat, none⟩)), GF.val (.int .i64 v), GF.val (.bool false), GF.val (.bool false)] (by kernel_rfl) (by kernel_rfl)
      simp only [List.take_succ_cons, List.take_zero, List.zip_cons_cons, List.zip_nil_left]
      iterate 5 (refine wpG_val (by rfl) (by decide) (fun w' hT hD => ?_) ?_; (unfold YldG; go_simp; exact ⟨Ext.refl _, rfl⟩); (try simp only [Act.put, List.setIfInBounds_toArray, List.set_cons_zero, List.set_cons_succ]))
      refine wpG_fact (by rfl) (by decide) (fun h => by cases h) (fun u W W' h he => ?_) (fun w' hT hD => ?_) (fun u => ?_)
      · obtain ⟨b, hi, h1, h2⟩ := h
        exact ⟨b, hi, h1, h2.ext he⟩
      · have hle := (hT (Nat.le_refl _)).size
        unfold YldG
        go_simp
        refine (read_calls w' X cx 8 (be8 v) rfl (Kd.C_below HC7.out (hT (Nat.le_refl _))) hcx (by decide)).mono fun e w2 ⟨b, h1, ⟨A, c, h2⟩, h3⟩ => ⟨_, h1, h3, b, rfl, _, A, c, ⟨Nat.le_trans hle h2.low, h2.high, h2.size, h2.blk, h2.row, h2.cap, fun a ha => ⟨Nat.le_trans hle (h2.far a ha).1, (h2.far a ha).2⟩⟩⟩
      (try simp only [Act.put, List.setIfInBounds_toArray, List.set_cons_zero, List.set_cons_succ])
      refine wpG_here (by rfl) rfl (fun u W W' h he => h) (fun w' hE hD => ?_) (fun u2 => ?_)
      · obtain ⟨b, hi, h1, h2⟩ := hD.1 rfl (by kernel_rfl)
        subst h1
        unfold YldG
        go_simp
        exact (rdint_ok w' w7.heap.size hi b _ h2 (be8_isB v) (by rw [be8_length]; decide)).mono fun e w2 ⟨k1, k2, k3⟩ => ⟨_, k1, fun hle => ⟨k3.os, k3.tape, k3.output, k3.size, fun i hi' => k3.block i (Nat.lt_of_lt_of_le hi' hle) (by omega)⟩, by rw [show (be8 v).take 8 = be8 v from rfl, numI_be8 _ HV.out.1 HV.out.2]; rfl⟩
      (try simp only [Act.put, List.setIfInBounds_toArray, List.set_cons_zero, List.set_cons_succ])
      iterate 3 (refine wpG_val (by rfl) (by decide) (fun w' hT hD => ?_) ?_; (unfold YldG; go_simp; exact ⟨Ext.refl _, rfl⟩); (try simp only [Act.put, List.setIfInBounds_toArray, List.set_cons_zero, List.set_cons_succ]))
      refine wpG_val (by rfl) (by decide) (fun w' hT hD => ?_) ?_; (have e0 := (World.block_lt_of_cell? _ _ HCELL.out); have e1 := (Below.cell (hT (Nat.le_refl _)) e0).trans HCELL.out; unfold YldG; go_simp; exact ⟨Ext.refl _, rfl⟩); (try simp only [Act.put, List.setIfInBounds_toArray, List.set_cons_zero, List.set_cons_succ])
      refine wpG_val (by rfl) (by decide) (fun w' hT hD => ?_) ?_; (have hu := hD.2.1 rfl (by kernel_rfl); subst hu; unfold YldG; go_simp; exact ⟨Ext.refl _, rfl⟩); (try simp only [Act.put, List.setIfInBounds_toArray, List.set_cons_zero, List.set_cons_succ])
      iterate 1 (refine wpG_val (by rfl) (by decide) (fun w' hT hD => ?_) ?_; (unfold YldG; go_simp; exact ⟨Ext.refl _, rfl⟩); (try simp only [Act.put, List.setIfInBounds_toArray, List.set_cons_zero, List.set_cons_succ]))
      refine wpG_nil fun w9 hT hA => ?_
      have hE9 := hT (Nat.le_refl _)
      have HK9 := Aside0.mk (HK7.out.ext hE9)
      have HE9 := Aside0.mk (HE7.out.trans hE9)
      clear hA hT hE9 HK7 HE7 HC7 HCELL
      simp only [List.drop_succ_cons, List.drop_zero]
      refine wpList_nil ?_
      go_wp2
      go_roundw
      case rel => exact ⟨x + 1, rfl, ⟨by omega, by omega⟩, HK9, HE9⟩
      case measure => simp only [intOf]; omega
    · have hx : x = 8 := by omega
      subst hx
      go_wp2_with fail
      refine (nil_int wr (-1)).mono ?_
      rintro e w1 ⟨V, rfl, hV, hE1⟩
      obtain ⟨X, cx, rfl, hcx, hC⟩ := hV.reads
      rw [be8_length] at hcx hC ⊢
      obtain ⟨ad, rfl, hc0⟩ := at_k hC 0 (by decide) (by decide)
      obtain ⟨ad', e', hc7⟩ := at_k hC 7 (by decide) (by decide)
      injection e' with e'
      subst e'
      rw [show rd (be8 (-1)) 0 = 255 by rfl, show (0 : Int).toNat = 0 from rfl, show ad.add 0 = ad by simp [Addr.add]] at hc0
      rw [show rd (be8 (-1)) 7 = 255 by rfl] at hc7
      have hc7' : w1.cell? { block := ad.block, off := ad.off + 7 } = some (.int .u8 255) := by simpa [Addr.add] using hc7
      have HE1 := Aside0.mk (HE.out.trans hE1)
      have HC0 := Aside0.mk hc0
      have HC7 := Aside0.mk hc7'
      have hmk := make7 w1
      have hz := z7 w1
      have hxz := (Ext.refl w1).alloc (.cells (nums .u8 (List.replicate 7 0)).toArray 5)
      have HZ := Aside0.mk hz
      have HXZ := Aside0.mk hxz
      clear hV hE1 hC HE HK hc0 hc7 hc7' hz hxz
      go_wp2_with fail
      refine (read_calls _ (some ⟨w1.heap.size, 0, none⟩) 7 7 (List.replicate 7 0) rfl HZ.out (by decide) (by decide)).mono ?_
      rintro e w2 ⟨b1, rfl, hA, hE⟩
      have HA := Aside0.mk hA
      have HE2 := Aside0.mk ((HXZ.out).trans hE)
      have HLO1 := Aside0.mk (show w1.heap.size ≤ (w1.alloc (.cells (nums .u8 (List.replicate 7 0)).toArray 5)).heap.size by rw [size_alloc]; omega)
      generalize (w1.alloc (.cells (nums .u8 (List.replicate 7 0)).toArray 5)).heap.size = lo1 at hA HA HLO1
      obtain ⟨hi1, hh1⟩ : ∃ hi1, hi1 = w2.heap.size := ⟨_, rfl⟩
      rw [← hh1] at HA
      have HH1 := Aside0.mk hh1
      clear hA hE HZ HXZ hmk hh1
      go_wp2_with fail
      refine (rdint_bad w2 lo1 hi1 b1 _ false HA.out (.inr (by decide))).mono ?_
      rintro e w3 ⟨rfl, hA, hT⟩
      have HA3 := Aside0.mk hA
      have HE3 := Aside0.mk (hT.ext HE2.out HLO1.out)
      have HS3 := Aside0.mk hT.size
      clear hA hT HA HE2
      go_wp2_with fail
      refine (rdbyte_bad w3 lo1 hi1 b1 _ true HA3.out (.inl rfl)).mono ?_
      rintro e w4 ⟨rfl, hA, hT⟩
      have HA4 := Aside0.mk hA
      have HE4 := Aside0.mk (hT.ext HE3.out HLO1.out)
      have HS4 := Aside0.mk (Nat.le_trans HS3.out hT.size)
      clear hA hT HA3 HE3 HS3
      have hz := z2 w4
      have hxz := (Ext.refl w4).alloc (.cells (nums .u8 [5, 6]).toArray 5)
      have HZ := Aside0.mk hz
      have HXZ := Aside0.mk hxz
      clear hz hxz
      go_wp2_with fail
      refine (read_calls _ (some ⟨w4.heap.size, 0, none⟩) 2 2 [5, 6] rfl HZ.out (by decide) (by decide)).mono ?_
      rintro e w5 ⟨b2, rfl, hB, hE⟩
      have HB := Aside0.mk hB
      have HE5 := Aside0.mk (HE4.out.trans (HXZ.out.trans hE))
      have HA5 := Aside0.mk (HA4.out.ext (HXZ.out.trans hE))
      have HLO2 := Aside0.mk (show hi1 ≤ (w4.alloc (.cells (nums .u8 [5, 6]).toArray 5)).heap.size by rw [size_alloc, HH1.out]; have := HS4.out; omega)
      have HLO2' := Aside0.mk (show w1.heap.size ≤ (w4.alloc (.cells (nums .u8 [5, 6]).toArray 5)).heap.size from Nat.le_trans HE4.out.size HXZ.out.size)
      generalize (w4.alloc (.cells (nums .u8 [5, 6]).toArray 5)).heap.size = lo2 at hB HB HLO2 HLO2'
      obtain ⟨hi2, hh2⟩ : ∃ hi2, hi2 = w5.heap.size := ⟨_, rfl⟩
      rw [← hh2] at HB
      have HH2 := Aside0.mk hh2
      clear hB hE HZ HXZ hh2 HA4 HE4 HS4
      go_wp2_with fail
      refine (rdbyte_ok w5 lo2 hi2 b2 _ HB.out (by intro x hx; simp only [List.mem_cons, List.not_mem_nil, or_false] at hx; omega) (by decide)).mono ?_
      rintro e w6 ⟨rfl, hB, hT⟩
      rw [show rd [5, 6] 0 = 5 from rfl]
      have HB6 := Aside0.mk (show Rd w6 lo2 hi2 b2 [6] false from hB)
      have HA6 := Aside0.mk (HA5.out.tch hT (.inl HLO2.out))
      have HE6 := Aside0.mk (hT.ext HE5.out HLO2'.out)
      have HS6 := Aside0.mk hT.size
      clear hB hT HA5 HB HE5
      go_wp2_with fail
      refine (read_calls w6 none 0 0 [] rfl (Kd.C_nil kb w6) (by decide) (by decide)).mono ?_
      rintro e w7 ⟨b3, rfl, hC, hE⟩
      have HC := Aside0.mk hC
      have HE7 := Aside0.mk (HE6.out.trans hE)
      have HA7 := Aside0.mk (HA6.out.ext hE)
      have HB7 := Aside0.mk (HB6.out.ext hE)
      have HLO3 := Aside0.mk (show w1.heap.size ≤ w6.heap.size from HE6.out.size)
      generalize w6.heap.size = lo3 at hC HC HLO3
      generalize w7.heap.size = hi3 at HC
      have hc0 := Ext.cell HE7.out HC0.out
      have hc7 := Ext.cell HE7.out HC7.out
      clear hC hE HA6 HB6 HE6
      go_wp2_with fail
      refine (bad_calls _ lo1 hi1 b1 _ true HA7.out).mono ?_
      rintro e x1 ⟨rfl, hE⟩
      have HEn := Aside0.mk (HE7.out.trans hE)
      have HAn := Aside0.mk (HA7.out.ext hE)
      have HBn := Aside0.mk (HB7.out.ext hE)
      have HCn := Aside0.mk (HC.out.ext hE)
      clear hE HE7 HA7 HB7 HC
      have HE7 := HEn
      have HA7 := HAn
      have HB7 := HBn
      have HC := HCn
      clear HEn HAn HBn HCn
      go_wp2_with fail
      refine (end_calls _ lo1 hi1 b1 _ true HA7.out).mono ?_
      rintro e x2 ⟨rfl, hE⟩
      have HEn := Aside0.mk (HE7.out.trans hE)
      have HAn := Aside0.mk (HA7.out.ext hE)
      have HBn := Aside0.mk (HB7.out.ext hE)
      have HCn := Aside0.mk (HC.out.ext hE)
      clear hE HE7 HA7 HB7 HC
      have HE7 := HEn
      have HA7 := HAn
      have HB7 := HBn
      have HC := HCn
      clear HEn HAn HBn HCn
      rw [show endI (List.replicate 7 0) true = 4 from rfl]
      go_wp2_with fail
      refine (left_calls _ lo1 hi1 b1 _ true HA7.out).mono ?_
      rintro e x3 ⟨rfl, hE⟩
      have HEn := Aside0.mk (HE7.out.trans hE)
      have HAn := Aside0.mk (HA7.out.ext hE)
      have HBn := Aside0.mk (HB7.out.ext hE)
      have HCn := Aside0.mk (HC.out.ext hE)
      clear hE HE7 HA7 HB7 HC
      have HE7 := HEn
      have HA7 := HAn
      have HB7 := HBn
      have HC := HCn
      clear HEn HAn HBn HCn
      rw [show leftI (List.replicate 7 0) true = 0 from rfl]
      go_wp2_with fail
      refine (end_calls _ lo2 hi2 b2 _ false HB7.out).mono ?_
      rintro e x4 ⟨rfl, hE⟩
      have HEn := Aside0.mk (HE7.out.trans hE)
      have HAn := Aside0.mk (HA7.out.ext hE)
      have HBn := Aside0.mk (HB7.out.ext hE)
      have HCn := Aside0.mk (HC.out.ext hE)
      clear hE HE7 HA7 HB7 HC
      have HE7 := HEn
      have HA7 := HAn
      have HB7 := HBn
      have HC := HCn
      clear HEn HAn HBn HCn
      rw [show endI [6] false = 3 from rfl]
      go_wp2_with fail
      refine (left_calls _ lo2 hi2 b2 _ false HB7.out).mono ?_
      rintro e x5 ⟨rfl, hE⟩
      have HEn := Aside0.mk (HE7.out.trans hE)
      have HAn := Aside0.mk (HA7.out.ext hE)
      have HBn := Aside0.mk (HB7.out.ext hE)
      have HCn := Aside0.mk (HC.out.ext hE)
      clear hE HE7 HA7 HB7 HC
      have HE7 := HEn
      have HA7 := HAn
      have HB7 := HBn
      have HC := HCn
      clear HEn HAn HBn HCn
      rw [show leftI [6] false = 1 from rfl]
      go_wp2_with fail
      refine (end_calls _ lo3 hi3 b3 _ false HC.out).mono ?_
      rintro e x6 ⟨rfl, hE⟩
      have HEn := Aside0.mk (HE7.out.trans hE)
      have HAn := Aside0.mk (HA7.out.ext hE)
      have HBn := Aside0.mk (HB7.out.ext hE)
      have HCn := Aside0.mk (HC.out.ext hE)
      clear hE HE7 HA7 HB7 HC
      have HE7 := HEn
      have HA7 := HAn
      have HB7 := HBn
      have HC := HCn
      clear HEn HAn HBn HCn
      rw [show endI [] false = 0 from rfl]
      go_wp2_with fail
      refine (rdbyte_bad _ lo3 hi3 b3 _ false HC.out (.inr (by decide))).mono ?_
      rintro e x7 ⟨rfl, hC, hT⟩
      have HC8 := Aside0.mk hC
      have HE8 := Aside0.mk (hT.ext HE7.out HLO3.out)
      clear hC hT HC HE7 HA7 HB7
      go_wp2_with fail
      refine (bad_calls _ lo3 hi3 b3 _ true HC8.out).mono ?_
      rintro e x8 ⟨rfl, hE⟩
      have HE9 := Aside0.mk (HE8.out.trans hE)
      clear hE HC8 HE8
      go_wp2_with fail
      refine (known_calls _).mono ?_
      rintro e x9 ⟨rfl, hE⟩
      have HEz := Aside0.mk ((HE1.out.trans HE9.out).trans hE)
      clear hE HE9
      go_wp2
      go_ret
      exact ⟨rfl, HEz.out⟩
end Go.Proofs.Ytkjjkahdmlfflaa.By
