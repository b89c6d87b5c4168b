/- MacKnown. -/
import Derived.Test.YtbnbncnmhhioeaaDoorLSums
import Derived.Test.YtbnbncnmhhioeaaDoorLDer
import Derived.Test.YtbnbncnmhhioeaaDoorLKeys
import Derived.Test.YtbnbncnmhhioeaaDoorLSame
import Derived.Laws.IdiomStrings
namespace Go.Proofs.YtbnbncnmhhioeaaDoor.By
open Go.RowKit Go.Proofs.YtbnbncnmhhioeaaDoor.Reg Go.Proofs.YtbnbncnmhhioeaaDoorW.PrintWords Go.Proofs.YtbnbncnmhhioeaaDoorW.PrintLast Go.Proofs.YtbnbncnmhhioeaaDoorW.PrintMore
set_option linter.unusedVariables false


theorem str_yld (w : World) (A : Option Addr) (n c : Nat) (o : Oper) (a : Act) (x : Operand) (ho : o.op = .convert 22 9 x) (hx : a.eval x = .slice A n c) (hn : n ≤ 1000) (hC : Kd.C kb w A n (List.replicate n 97)) :
    Yld Tryd.prog o a w (.fact (fun u _ => ∃ s : ByteArray, u = .string s ∧ s.size ≤ 1000)) := by
  have key : ∃ s : ByteArray, s.size ≤ 1000 ∧ (convert 22 9 (.slice A n c)).run Tryd.prog w = .ok (.string s) w := by
    rcases Nat.eq_zero_or_pos n with h0 | h0
    · subst h0
      refine ⟨ByteArray.empty, by decide, ?_⟩
      rw [run_convert_bytes_string w 22 9 5 A 0 c Tryd.underlying22 Tryd.underlying5 Tryd.underlying9]
      cases A <;> simp [Conv.bytesToString, loadCells]
      all_goals rfl
    · obtain ⟨ad, rfl, _⟩ := hC.2.2 h0
      refine ⟨⟨(List.replicate n (97 : UInt8)).toArray⟩, by show (List.replicate n (97 : UInt8)).toArray.size ≤ _; rw [List.size_toArray, List.length_replicate]; exact hn, ?_⟩
      have h := run_convert_bytes_back (P := Tryd.prog) w 22 9 5 ad c (List.replicate n (97 : UInt8)) Tryd.underlying22 Tryd.underlying5 Tryd.underlying9 (fun j hj => by
        rw [List.length_replicate] at hj
        obtain ⟨ad', e, hc⟩ := at_k hC (j : Int) (by omega) (by omega)
        obtain rfl := Option.some.inj e
        rw [Int.toNat_natCast] at hc
        rw [hc]
        simp only [List.getElem_replicate]
        have : rd (List.replicate n (97 : Int)) (j : Int) = 97 := by
          unfold rd
          rw [Int.toNat_natCast, List.getD_eq_getElem?_getD, List.getElem?_replicate, if_pos hj]
          rfl
        rw [this]; rfl)
      rwa [List.length_replicate] at h
  obtain ⟨s, hs, hr⟩ := key
  unfold Yld execOp
  simp only [ho, hx, Sem.run_bind, hr, Result.andThen_ok, Sem.run_pure]
  exact ⟨Ext.refl _, s, rfl, hs⟩
def nsL : List Int := [0, 1, 31, 32, 33, 55, 56, 63, 64, 65, 119, 120, 128, 131, 200]
theorem nsL_at (i : Int) (h0 : 0 ≤ i) (h1 : i < 15) : 0 ≤ rd nsL i ∧ rd nsL i ≤ 200 := by
  obtain h | h | h | h | h | h | h | h | h | h | h | h | h | h | h : i = 0 ∨ i = 1 ∨ i = 2 ∨ i = 3 ∨ i = 4 ∨ i = 5 ∨ i = 6 ∨ i = 7 ∨ i = 8 ∨ i = 9 ∨ i = 10 ∨ i = 11 ∨ i = 12 ∨ i = 13 ∨ i = 14 := by omega
  all_goals (subst h; decide)
theorem nums_cell64 (s : List Int) (i : Nat) (h : i < s.length) : (nums .i64 s).toArray[i]? = some (.int .i64 (rd s i)) := by
  simp only [nums, List.getElem?_toArray, List.getElem?_map, rd, Int.toNat_natCast, List.getD_eq_getElem?_getD, List.getElem?_eq_getElem h]
  rfl
theorem two_is : macF [74, 101, 102, 101] [119, 104, 97, 116, 32, 100, 111, 32, 121, 97, 32, 119, 97, 110, 116, 32, 102, 111, 114, 32, 110, 111, 116, 104, 105, 110, 103, 63] = hexS (bytesS ⟨#[53, 98, 100, 99, 99, 49, 52, 54, 98, 102, 54, 48, 55, 53, 52, 101, 54, 97, 48, 52, 50, 52, 50, 54, 48, 56, 57, 53, 55, 53, 99, 55, 53, 97, 48, 48, 51, 102, 48, 56, 57, 100, 50, 55, 51, 57, 56, 51, 57, 100, 101, 99, 53, 56, 98, 57, 54, 52, 101, 99, 51, 56, 52, 51]⟩) 64 := by decide +kernel
theorem six_is : macF (List.replicate 131 170) [84, 101, 115, 116, 32, 85, 115, 105, 110, 103, 32, 76, 97, 114, 103, 101, 114, 32, 84, 104, 97, 110, 32, 66, 108, 111, 99, 107, 45, 83, 105, 122, 101, 32, 75, 101, 121, 32, 45, 32, 72, 97, 115, 104, 32, 75, 101, 121, 32, 70, 105, 114, 115, 116] = hexS (bytesS ⟨#[54, 48, 101, 52, 51, 49, 53, 57, 49, 101, 101, 48, 98, 54, 55, 102, 48, 100, 56, 97, 50, 54, 97, 97, 99, 98, 102, 53, 98, 55, 55, 102, 56, 101, 48, 98, 99, 54, 50, 49, 51, 55, 50, 56, 99, 53, 49, 52, 48, 53, 52, 54, 48, 52, 48, 102, 48, 101, 101, 51, 55, 102, 53, 52]⟩) 64 := by decide +kernel
theorem wt_is : bytesS ⟨#[119, 104, 97, 116, 32, 100, 111, 32, 121, 97, 32, 119, 97, 110, 116, 32, 102, 111, 114, 32, 110, 111, 116, 104, 105, 110, 103, 63]⟩ = [119, 104, 97, 116, 32, 100, 111, 32, 121, 97, 32, 119, 97, 110, 116, 32, 102, 111, 114, 32, 110, 111, 116, 104, 105, 110, 103, 63] := by decide +kernel
set_option maxRecDepth 100000 in
set_option maxHeartbeats 32000000 in
theorem lmknown_calls (w : World) (hT0 : Tab 0 w) (hT1 : Tab 1 w) (h2 : 2 ≤ w.heap.size) :
    Calls Tryd.prog 13 #[] w fun e w' => e = .returned (.bool true) ∧ Ext w w' := by
  have HB := Aside0.mk (show Blk (w.alloc (.cells #[Value.int .i64 0, Value.int .i64 1, Value.int .i64 31, Value.int .i64 32, Value.int .i64 33, Value.int .i64 55, Value.int .i64 56, Value.int .i64 63, Value.int .i64 64, Value.int .i64 65, Value.int .i64 119, Value.int .i64 120, Value.int .i64 128, Value.int .i64 131, Value.int .i64 200] 3)) w.heap.size (nums .i64 nsL).toArray 3 from Blk.new w #[Value.int .i64 0, Value.int .i64 1, Value.int .i64 31, Value.int .i64 32, Value.int .i64 33, Value.int .i64 55, Value.int .i64 56, Value.int .i64 63, Value.int .i64 64, Value.int .i64 65, Value.int .i64 119, Value.int .i64 120, Value.int .i64 128, Value.int .i64 131, Value.int .i64 200] 3)
  have HE := Aside0.mk ((Ext.refl w).alloc (.cells #[Value.int .i64 0, Value.int .i64 1, Value.int .i64 31, Value.int .i64 32, Value.int .i64 33, Value.int .i64 55, Value.int .i64 56, Value.int .i64 63, Value.int .i64 64, Value.int .i64 65, Value.int .i64 119, Value.int .i64 120, Value.int .i64 128, Value.int .i64 131, Value.int .i64 200] 3))
  have HT0 := Aside0.mk (hT0.ext HE.out)
  have HT1 := Aside0.mk (hT1.ext HE.out)
  have H2 := Aside0.mk (Nat.le_trans h2 HE.out.size)
  have kc := kconv
  clear hT0 hT1 h2
  go_enter Tryd.func13, Tryd.ntmps13
  go_wp2_with fail
  obtain ⟨W0, hW0⟩ : ∃ W0, W0 = w.alloc (.cells #[Value.int .i64 0, Value.int .i64 1, Value.int .i64 31, Value.int .i64 32, Value.int .i64 33, Value.int .i64 55, Value.int .i64 56, Value.int .i64 63, Value.int .i64 64, Value.int .i64 65, Value.int .i64 119, Value.int .i64 120, Value.int .i64 128, Value.int .i64 131, Value.int .i64 200] 3) := ⟨_, rfl⟩
  rw [← hW0] at HB HE HT0 HT1 H2 ⊢
  clear hW0
  have HBL := Aside0.mk (show w.heap.size < W0.heap.size from HB.out.lt)
  obtain ⟨b1, hb1⟩ : ∃ b1, b1 = w.heap.size := ⟨_, rfl⟩
  rw [← hb1] at HB ⊢
  clear hb1 HBL
  have HX0 := Aside0.mk (Ext.refl W0)
  go_loopw [2] (fun i wr => ∃ x : Int, i = .int .i64 x ∧ Aside0 (0 ≤ x ∧ x ≤ 15) ∧ Aside0 (Ext W0 wr)) (fun i _ => 15 - (intOf i).toNat)
  case atStart => exact ⟨0, rfl, ⟨by decide⟩, HX0⟩
  case round =>
    clear HX0
    obtain ⟨x, rfl, HXR, HX⟩ := hrel
    obtain ⟨g0, g1⟩ := HXR.out
    obtain ⟨wx, hwx⟩ : ∃ wx : World, wx = wr := ⟨_, rfl⟩
    subst hwx
    by_cases hlt : x < 15
    · have HLT := Aside0.mk (And.intro g0 hlt)
      obtain ⟨N, hN⟩ : ∃ N, N = rd nsL x := ⟨_, rfl⟩
      have hn := nsL_at x g0 hlt
      rw [← hN] at hn
      have HNR := Aside0.mk hn
      have HCX := Aside0.mk (show ∀ wq, Ext W0 wq → wq.cell? ⟨b1, x.toNat, none⟩ = some (.int .i64 N) from fun wq hq => (HB.out.ext hq).cell x.toNat (by
        have h := nums_cell64 nsL x.toNat (by show _ < 15; omega)
        rw [Int.toNat_of_nonneg g0] at h
        rw [hN]; exact h))
      clear hN hn
      go_wp2_with fail
      go_loopw [3] (fun i wr => ∃ y : Int, i = .int .i64 y ∧ Aside0 (0 ≤ y ∧ y ≤ 15) ∧ Aside0 (Ext W0 wr)) (fun i _ => 15 - (intOf i).toNat)
      case atStart => exact ⟨0, rfl, ⟨by decide⟩, HX⟩
      case round =>
        clear HX
        obtain ⟨y, rfl, HYR, HX⟩ := hrel
        obtain ⟨j0, j1⟩ := HYR.out
        obtain ⟨wy, hwy⟩ : ∃ wy : World, wy = wr := ⟨_, rfl⟩
        subst hwy
        by_cases hly : y < 15
        · have HLY := Aside0.mk (And.intro j0 hly)
          obtain ⟨M, hM⟩ : ∃ M, M = rd nsL y := ⟨_, rfl⟩
          have hm := nsL_at y j0 hly
          rw [← hM] at hm
          have HMR := Aside0.mk hm
          have HCY := Aside0.mk (show wy.cell? ⟨b1, y.toNat, none⟩ = some (.int .i64 M) from (HB.out.ext HX.out).cell y.toNat (by
            have h := nums_cell64 nsL y.toNat (by show _ < 15; omega)
            rw [Int.toNat_of_nonneg j0] at h
            rw [hM]; exact h))
          have HCX1 := Aside0.mk (HCX.out wy HX.out)
          clear hM hm
          go_wp2_with fail
          apply wp_region_facts 44 [RF.val _, RF.val _, RF.val _, RF.val _, RF.fact (fun u Wd => ∃ A c, u = .slice A (N).toNat c ∧ (N).toNat ≤ c ∧ Kd.C kb Wd A (N).toNat (List.replicate (N).toNat 170)), RF.val _, RF.val _, RF.val _, RF.val _, RF.fact (fun u Wd => ∃ A c, u = .slice A (M).toNat c ∧ (M).toNat ≤ c ∧ Kd.C kb Wd A (M).toNat (List.replicate (M).toNat 221)), RF.val _, RF.val _, RF.val _, RF.val _, RF.val _, RF.val _, RF.val _, RF.val _, RF.val _, RF.fact (fun u Wd => ∃ A c, u = .slice A (N).toNat c ∧ (N).toNat ≤ c ∧ Kd.C kb Wd A (N).toNat (List.replicate (N).toNat (y % 256))), RF.val _, RF.val _, RF.val _, RF.val _, RF.fact (fun u Wd => ∃ A c, u = .slice A (M).toNat c ∧ (M).toNat ≤ c ∧ Kd.C kb Wd A (M).toNat (List.replicate (M).toNat 7)), RF.val _, RF.val _, RF.val _, RF.val _, RF.val _, RF.val _, RF.val _, RF.val _, RF.val _, RF.fact (fun u Wd => ∃ A c, u = .slice A (N).toNat c ∧ (N).toNat ≤ c ∧ Kd.C kb Wd A (N).toNat (List.replicate (N).toNat 3)), RF.val _, RF.val _, RF.val _, RF.val _, RF.fact (fun u Wd => ∃ A c, u = .slice A (M).toNat c ∧ (M).toNat ≤ c ∧ Kd.C kb Wd A (M).toNat (List.replicate (M).toNat 97)), RF.fact (fun u _ => ∃ s : ByteArray, u = .string s ∧ s.size ≤ 1000), RF.val _, RF.val _, RF.val _]
          case hm => kernel_rfl
          case hB => kernel_rfl
          simp only [List.take_succ_cons, List.take_zero, List.zip_cons_cons, List.zip_nil_left]
          (first | refine wpF_val rfl (fun w' hE hD => by have hcx := Ext.cell hE HCX1.out; have hcy := Ext.cell hE HCY.out; unfold Yld; go_simp; exact ⟨Ext.refl _, rfl⟩) ?_ | refine wpF_valg (by rfl) (fun w' hE hD => by have hcx := Ext.cell hE HCX1.out; have hcy := Ext.cell hE HCY.out; unfold Yld; go_simp; exact ⟨Ext.refl _, rfl⟩) ?_)
          (try simp only [Act.put, List.setIfInBounds_toArray, List.set_cons_zero, List.set_cons_succ])
          (first | refine wpF_val rfl (fun w' hE hD => by have hcx := Ext.cell hE HCX1.out; have hcy := Ext.cell hE HCY.out; unfold Yld; go_simp; exact ⟨Ext.refl _, rfl⟩) ?_ | refine wpF_valg (by rfl) (fun w' hE hD => by have hcx := Ext.cell hE HCX1.out; have hcy := Ext.cell hE HCY.out; unfold Yld; go_simp; exact ⟨Ext.refl _, rfl⟩) ?_)
          (try simp only [Act.put, List.setIfInBounds_toArray, List.set_cons_zero, List.set_cons_succ])
          (first | refine wpF_val rfl (fun w' hE hD => by have hcx := Ext.cell hE HCX1.out; have hcy := Ext.cell hE HCY.out; unfold Yld; go_simp; exact ⟨Ext.refl _, rfl⟩) ?_ | refine wpF_valg (by rfl) (fun w' hE hD => by have hcx := Ext.cell hE HCX1.out; have hcy := Ext.cell hE HCY.out; unfold Yld; go_simp; exact ⟨Ext.refl _, rfl⟩) ?_)
          (try simp only [Act.put, List.setIfInBounds_toArray, List.set_cons_zero, List.set_cons_succ])
          (first | refine wpF_val rfl (fun w' hE hD => by have hcx := Ext.cell hE HCX1.out; have hcy := Ext.cell hE HCY.out; unfold Yld; go_simp; exact ⟨Ext.refl _, rfl⟩) ?_ | refine wpF_valg (by rfl) (fun w' hE hD => by have hcx := Ext.cell hE HCX1.out; have hcy := Ext.cell hE HCY.out; unfold Yld; go_simp; exact ⟨Ext.refl _, rfl⟩) ?_)
          (try simp only [Act.put, List.setIfInBounds_toArray, List.set_cons_zero, List.set_cons_succ])
          refine wpF_fact rfl (fun u Wa Wb h he => ?_) (fun w' hE hD => ?_) (fun u4 => ?_)
          · obtain ⟨A, c, h1, h2, h3⟩ := h
            exact ⟨A, c, h1, h2, Kd.C_below h3 he⟩
          · unfold Yld; go_simp; exact (row_calls w' N 170 HNR.out.1 (by have := HNR.out.2; omega)).mono fun e w2 h => by obtain ⟨A, c, h1, h2, h3, h4⟩ := h; exact ⟨_, h1, h4, A, c, rfl, by omega, h3⟩
          (try simp only [Act.put, List.setIfInBounds_toArray, List.set_cons_zero, List.set_cons_succ])
          (first | refine wpF_val rfl (fun w' hE hD => by have hcx := Ext.cell hE HCX1.out; have hcy := Ext.cell hE HCY.out; unfold Yld; go_simp; exact ⟨Ext.refl _, rfl⟩) ?_ | refine wpF_valg (by rfl) (fun w' hE hD => by have hcx := Ext.cell hE HCX1.out; have hcy := Ext.cell hE HCY.out; unfold Yld; go_simp; exact ⟨Ext.refl _, rfl⟩) ?_)
          (try simp only [Act.put, List.setIfInBounds_toArray, List.set_cons_zero, List.set_cons_succ])
          (first | refine wpF_val rfl (fun w' hE hD => by have hcx := Ext.cell hE HCX1.out; have hcy := Ext.cell hE HCY.out; unfold Yld; go_simp; exact ⟨Ext.refl _, rfl⟩) ?_ | refine wpF_valg (by rfl) (fun w' hE hD => by have hcx := Ext.cell hE HCX1.out; have hcy := Ext.cell hE HCY.out; unfold Yld; go_simp; exact ⟨Ext.refl _, rfl⟩) ?_)
          (try simp only [Act.put, List.setIfInBounds_toArray, List.set_cons_zero, List.set_cons_succ])
          (first | refine wpF_val rfl (fun w' hE hD => by have hcx := Ext.cell hE HCX1.out; have hcy := Ext.cell hE HCY.out; unfold Yld; go_simp; exact ⟨Ext.refl _, rfl⟩) ?_ | refine wpF_valg (by rfl) (fun w' hE hD => by have hcx := Ext.cell hE HCX1.out; have hcy := Ext.cell hE HCY.out; unfold Yld; go_simp; exact ⟨Ext.refl _, rfl⟩) ?_)
          (try simp only [Act.put, List.setIfInBounds_toArray, List.set_cons_zero, List.set_cons_succ])
          (first | refine wpF_val rfl (fun w' hE hD => by have hcx := Ext.cell hE HCX1.out; have hcy := Ext.cell hE HCY.out; unfold Yld; go_simp; exact ⟨Ext.refl _, rfl⟩) ?_ | refine wpF_valg (by rfl) (fun w' hE hD => by have hcx := Ext.cell hE HCX1.out; have hcy := Ext.cell hE HCY.out; unfold Yld; go_simp; exact ⟨Ext.refl _, rfl⟩) ?_)
          (try simp only [Act.put, List.setIfInBounds_toArray, List.set_cons_zero, List.set_cons_succ])
          refine wpF_fact rfl (fun u Wa Wb h he => ?_) (fun w' hE hD => ?_) (fun u9 => ?_)
          · obtain ⟨A, c, h1, h2, h3⟩ := h
            exact ⟨A, c, h1, h2, Kd.C_below h3 he⟩
          · unfold Yld; go_simp; exact (row_calls w' M 221 HMR.out.1 (by have := HMR.out.2; omega)).mono fun e w2 h => by obtain ⟨A, c, h1, h2, h3, h4⟩ := h; exact ⟨_, h1, h4, A, c, rfl, by omega, h3⟩
          (try simp only [Act.put, List.setIfInBounds_toArray, List.set_cons_zero, List.set_cons_succ])
          refine wpF_val rfl (fun w' hE hD => by obtain ⟨A1, c1, rfl, hc1, hC1⟩ := hD.1 (by kernel_rfl); obtain ⟨A2, c2, rfl, hc2, hC2⟩ := hD.2.1 (by kernel_rfl); unfold Yld; go_simp; exact (lsums_calls w' A1 A2 c1 c2 _ _ _ _ (List.length_replicate).symm (List.length_replicate).symm (HT0.out.ext (HX.out.trans hE)) (HT1.out.ext (HX.out.trans hE)) (Nat.le_trans H2.out (HX.out.trans hE).size) hC1 hc1 hC2 hc2).mono fun e w2 h => ⟨_, h.1, h.2, rfl⟩) ?_
          (try simp only [Act.put, List.setIfInBounds_toArray, List.set_cons_zero, List.set_cons_succ])
          (first | refine wpF_val rfl (fun w' hE hD => by have hcx := Ext.cell hE HCX1.out; have hcy := Ext.cell hE HCY.out; unfold Yld; go_simp; exact ⟨Ext.refl _, rfl⟩) ?_ | refine wpF_valg (by rfl) (fun w' hE hD => by have hcx := Ext.cell hE HCX1.out; have hcy := Ext.cell hE HCY.out; unfold Yld; go_simp; exact ⟨Ext.refl _, rfl⟩) ?_)
          (try simp only [Act.put, List.setIfInBounds_toArray, List.set_cons_zero, List.set_cons_succ])
          (first | refine wpF_val rfl (fun w' hE hD => by have hcx := Ext.cell hE HCX1.out; have hcy := Ext.cell hE HCY.out; unfold Yld; go_simp; exact ⟨Ext.refl _, rfl⟩) ?_ | refine wpF_valg (by rfl) (fun w' hE hD => by have hcx := Ext.cell hE HCX1.out; have hcy := Ext.cell hE HCY.out; unfold Yld; go_simp; exact ⟨Ext.refl _, rfl⟩) ?_)
          (try simp only [Act.put, List.setIfInBounds_toArray, List.set_cons_zero, List.set_cons_succ])
          (first | refine wpF_val rfl (fun w' hE hD => by have hcx := Ext.cell hE HCX1.out; have hcy := Ext.cell hE HCY.out; unfold Yld; go_simp; exact ⟨Ext.refl _, rfl⟩) ?_ | refine wpF_valg (by rfl) (fun w' hE hD => by have hcx := Ext.cell hE HCX1.out; have hcy := Ext.cell hE HCY.out; unfold Yld; go_simp; exact ⟨Ext.refl _, rfl⟩) ?_)
          (try simp only [Act.put, List.setIfInBounds_toArray, List.set_cons_zero, List.set_cons_succ])
          (first | refine wpF_val rfl (fun w' hE hD => by have hcx := Ext.cell hE HCX1.out; have hcy := Ext.cell hE HCY.out; unfold Yld; go_simp; exact ⟨Ext.refl _, rfl⟩) ?_ | refine wpF_valg (by rfl) (fun w' hE hD => by have hcx := Ext.cell hE HCX1.out; have hcy := Ext.cell hE HCY.out; unfold Yld; go_simp; exact ⟨Ext.refl _, rfl⟩) ?_)
          (try simp only [Act.put, List.setIfInBounds_toArray, List.set_cons_zero, List.set_cons_succ])
          (first | refine wpF_val rfl (fun w' hE hD => by have hcx := Ext.cell hE HCX1.out; have hcy := Ext.cell hE HCY.out; unfold Yld; go_simp; exact ⟨Ext.refl _, rfl⟩) ?_ | refine wpF_valg (by rfl) (fun w' hE hD => by have hcx := Ext.cell hE HCX1.out; have hcy := Ext.cell hE HCY.out; unfold Yld; go_simp; exact ⟨Ext.refl _, rfl⟩) ?_)
          (try simp only [Act.put, List.setIfInBounds_toArray, List.set_cons_zero, List.set_cons_succ])
          (first | refine wpF_val rfl (fun w' hE hD => by have hcx := Ext.cell hE HCX1.out; have hcy := Ext.cell hE HCY.out; unfold Yld; go_simp; exact ⟨Ext.refl _, rfl⟩) ?_ | refine wpF_valg (by rfl) (fun w' hE hD => by have hcx := Ext.cell hE HCX1.out; have hcy := Ext.cell hE HCY.out; unfold Yld; go_simp; exact ⟨Ext.refl _, rfl⟩) ?_)
          (try simp only [Act.put, List.setIfInBounds_toArray, List.set_cons_zero, List.set_cons_succ])
          (first | refine wpF_val rfl (fun w' hE hD => by have hcx := Ext.cell hE HCX1.out; have hcy := Ext.cell hE HCY.out; unfold Yld; go_simp; exact ⟨Ext.refl _, rfl⟩) ?_ | refine wpF_valg (by rfl) (fun w' hE hD => by have hcx := Ext.cell hE HCX1.out; have hcy := Ext.cell hE HCY.out; unfold Yld; go_simp; exact ⟨Ext.refl _, rfl⟩) ?_)
          (try simp only [Act.put, List.setIfInBounds_toArray, List.set_cons_zero, List.set_cons_succ])
          (first | refine wpF_val rfl (fun w' hE hD => by have hcx := Ext.cell hE HCX1.out; have hcy := Ext.cell hE HCY.out; unfold Yld; go_simp; exact ⟨Ext.refl _, rfl⟩) ?_ | refine wpF_valg (by rfl) (fun w' hE hD => by have hcx := Ext.cell hE HCX1.out; have hcy := Ext.cell hE HCY.out; unfold Yld; go_simp; exact ⟨Ext.refl _, rfl⟩) ?_)
          (try simp only [Act.put, List.setIfInBounds_toArray, List.set_cons_zero, List.set_cons_succ])
          refine wpF_factg (by rfl) (fun u Wa Wb h he => ?_) (fun w' hE hD => ?_) (fun u19 => ?_)
          · obtain ⟨A, c, h1, h2, h3⟩ := h
            exact ⟨A, c, h1, h2, Kd.C_below h3 he⟩
          · unfold Yld; go_simp; exact (row_calls w' N (y % 256) HNR.out.1 (by have := HNR.out.2; omega)).mono fun e w2 h => by obtain ⟨A, c, h1, h2, h3, h4⟩ := h; exact ⟨_, h1, h4, A, c, rfl, by omega, h3⟩
          (try simp only [Act.put, List.setIfInBounds_toArray, List.set_cons_zero, List.set_cons_succ])
          (first | refine wpF_val rfl (fun w' hE hD => by have hcx := Ext.cell hE HCX1.out; have hcy := Ext.cell hE HCY.out; unfold Yld; go_simp; exact ⟨Ext.refl _, rfl⟩) ?_ | refine wpF_valg (by rfl) (fun w' hE hD => by have hcx := Ext.cell hE HCX1.out; have hcy := Ext.cell hE HCY.out; unfold Yld; go_simp; exact ⟨Ext.refl _, rfl⟩) ?_)
          (try simp only [Act.put, List.setIfInBounds_toArray, List.set_cons_zero, List.set_cons_succ])
          (first | refine wpF_val rfl (fun w' hE hD => by have hcx := Ext.cell hE HCX1.out; have hcy := Ext.cell hE HCY.out; unfold Yld; go_simp; exact ⟨Ext.refl _, rfl⟩) ?_ | refine wpF_valg (by rfl) (fun w' hE hD => by have hcx := Ext.cell hE HCX1.out; have hcy := Ext.cell hE HCY.out; unfold Yld; go_simp; exact ⟨Ext.refl _, rfl⟩) ?_)
          (try simp only [Act.put, List.setIfInBounds_toArray, List.set_cons_zero, List.set_cons_succ])
          (first | refine wpF_val rfl (fun w' hE hD => by have hcx := Ext.cell hE HCX1.out; have hcy := Ext.cell hE HCY.out; unfold Yld; go_simp; exact ⟨Ext.refl _, rfl⟩) ?_ | refine wpF_valg (by rfl) (fun w' hE hD => by have hcx := Ext.cell hE HCX1.out; have hcy := Ext.cell hE HCY.out; unfold Yld; go_simp; exact ⟨Ext.refl _, rfl⟩) ?_)
          (try simp only [Act.put, List.setIfInBounds_toArray, List.set_cons_zero, List.set_cons_succ])
          (first | refine wpF_val rfl (fun w' hE hD => by have hcx := Ext.cell hE HCX1.out; have hcy := Ext.cell hE HCY.out; unfold Yld; go_simp; exact ⟨Ext.refl _, rfl⟩) ?_ | refine wpF_valg (by rfl) (fun w' hE hD => by have hcx := Ext.cell hE HCX1.out; have hcy := Ext.cell hE HCY.out; unfold Yld; go_simp; exact ⟨Ext.refl _, rfl⟩) ?_)
          (try simp only [Act.put, List.setIfInBounds_toArray, List.set_cons_zero, List.set_cons_succ])
          refine wpF_factg (by rfl) (fun u Wa Wb h he => ?_) (fun w' hE hD => ?_) (fun u24 => ?_)
          · obtain ⟨A, c, h1, h2, h3⟩ := h
            exact ⟨A, c, h1, h2, Kd.C_below h3 he⟩
          · unfold Yld; go_simp; exact (row_calls w' M 7 HMR.out.1 (by have := HMR.out.2; omega)).mono fun e w2 h => by obtain ⟨A, c, h1, h2, h3, h4⟩ := h; exact ⟨_, h1, h4, A, c, rfl, by omega, h3⟩
          (try simp only [Act.put, List.setIfInBounds_toArray, List.set_cons_zero, List.set_cons_succ])
          (first | refine wpF_val rfl (fun w' hE hD => by have hcx := Ext.cell hE HCX1.out; have hcy := Ext.cell hE HCY.out; unfold Yld; go_simp; exact ⟨Ext.refl _, rfl⟩) ?_ | refine wpF_valg (by rfl) (fun w' hE hD => by have hcx := Ext.cell hE HCX1.out; have hcy := Ext.cell hE HCY.out; unfold Yld; go_simp; exact ⟨Ext.refl _, rfl⟩) ?_)
          (try simp only [Act.put, List.setIfInBounds_toArray, List.set_cons_zero, List.set_cons_succ])
          refine wpF_valg (by rfl) (fun w' hE hD => by obtain ⟨A1, c1, rfl, hc1, hC1⟩ := hD.2.2.1 (by kernel_rfl); obtain ⟨A2, c2, rfl, hc2, hC2⟩ := hD.2.2.2.1 (by kernel_rfl); unfold Yld; go_simp; exact (lkeys_calls w' A1 A2 c1 c2 _ _ _ _ y (List.length_replicate).symm (List.length_replicate).symm (HT1.out.ext (HX.out.trans hE)) (Nat.le_trans H2.out (HX.out.trans hE).size) hC1 hc1 hC2 hc2 (by have := HLY.out; omega)).mono fun e w2 h => ⟨_, h.1, h.2, rfl⟩) ?_
          (try simp only [Act.put, List.setIfInBounds_toArray, List.set_cons_zero, List.set_cons_succ])
          (first | refine wpF_val rfl (fun w' hE hD => by have hcx := Ext.cell hE HCX1.out; have hcy := Ext.cell hE HCY.out; unfold Yld; go_simp; exact ⟨Ext.refl _, rfl⟩) ?_ | refine wpF_valg (by rfl) (fun w' hE hD => by have hcx := Ext.cell hE HCX1.out; have hcy := Ext.cell hE HCY.out; unfold Yld; go_simp; exact ⟨Ext.refl _, rfl⟩) ?_)
          (try simp only [Act.put, List.setIfInBounds_toArray, List.set_cons_zero, List.set_cons_succ])
          (first | refine wpF_val rfl (fun w' hE hD => by have hcx := Ext.cell hE HCX1.out; have hcy := Ext.cell hE HCY.out; unfold Yld; go_simp; exact ⟨Ext.refl _, rfl⟩) ?_ | refine wpF_valg (by rfl) (fun w' hE hD => by have hcx := Ext.cell hE HCX1.out; have hcy := Ext.cell hE HCY.out; unfold Yld; go_simp; exact ⟨Ext.refl _, rfl⟩) ?_)
          (try simp only [Act.put, List.setIfInBounds_toArray, List.set_cons_zero, List.set_cons_succ])
          (first | refine wpF_val rfl (fun w' hE hD => by have hcx := Ext.cell hE HCX1.out; have hcy := Ext.cell hE HCY.out; unfold Yld; go_simp; exact ⟨Ext.refl _, rfl⟩) ?_ | refine wpF_valg (by rfl) (fun w' hE hD => by have hcx := Ext.cell hE HCX1.out; have hcy := Ext.cell hE HCY.out; unfold Yld; go_simp; exact ⟨Ext.refl _, rfl⟩) ?_)
          (try simp only [Act.put, List.setIfInBounds_toArray, List.set_cons_zero, List.set_cons_succ])
          (first | refine wpF_val rfl (fun w' hE hD => by have hcx := Ext.cell hE HCX1.out; have hcy := Ext.cell hE HCY.out; unfold Yld; go_simp; exact ⟨Ext.refl _, rfl⟩) ?_ | refine wpF_valg (by rfl) (fun w' hE hD => by have hcx := Ext.cell hE HCX1.out; have hcy := Ext.cell hE HCY.out; unfold Yld; go_simp; exact ⟨Ext.refl _, rfl⟩) ?_)
          (try simp only [Act.put, List.setIfInBounds_toArray, List.set_cons_zero, List.set_cons_succ])
          (first | refine wpF_val rfl (fun w' hE hD => by have hcx := Ext.cell hE HCX1.out; have hcy := Ext.cell hE HCY.out; unfold Yld; go_simp; exact ⟨Ext.refl _, rfl⟩) ?_ | refine wpF_valg (by rfl) (fun w' hE hD => by have hcx := Ext.cell hE HCX1.out; have hcy := Ext.cell hE HCY.out; unfold Yld; go_simp; exact ⟨Ext.refl _, rfl⟩) ?_)
          (try simp only [Act.put, List.setIfInBounds_toArray, List.set_cons_zero, List.set_cons_succ])
          (first | refine wpF_val rfl (fun w' hE hD => by have hcx := Ext.cell hE HCX1.out; have hcy := Ext.cell hE HCY.out; unfold Yld; go_simp; exact ⟨Ext.refl _, rfl⟩) ?_ | refine wpF_valg (by rfl) (fun w' hE hD => by have hcx := Ext.cell hE HCX1.out; have hcy := Ext.cell hE HCY.out; unfold Yld; go_simp; exact ⟨Ext.refl _, rfl⟩) ?_)
          (try simp only [Act.put, List.setIfInBounds_toArray, List.set_cons_zero, List.set_cons_succ])
          (first | refine wpF_val rfl (fun w' hE hD => by have hcx := Ext.cell hE HCX1.out; have hcy := Ext.cell hE HCY.out; unfold Yld; go_simp; exact ⟨Ext.refl _, rfl⟩) ?_ | refine wpF_valg (by rfl) (fun w' hE hD => by have hcx := Ext.cell hE HCX1.out; have hcy := Ext.cell hE HCY.out; unfold Yld; go_simp; exact ⟨Ext.refl _, rfl⟩) ?_)
          (try simp only [Act.put, List.setIfInBounds_toArray, List.set_cons_zero, List.set_cons_succ])
          refine wpF_factg (by rfl) (fun u Wa Wb h he => ?_) (fun w' hE hD => ?_) (fun u34 => ?_)
          · obtain ⟨A, c, h1, h2, h3⟩ := h
            exact ⟨A, c, h1, h2, Kd.C_below h3 he⟩
          · unfold Yld; go_simp; exact (row_calls w' N 3 HNR.out.1 (by have := HNR.out.2; omega)).mono fun e w2 h => by obtain ⟨A, c, h1, h2, h3, h4⟩ := h; exact ⟨_, h1, h4, A, c, rfl, by omega, h3⟩
          (try simp only [Act.put, List.setIfInBounds_toArray, List.set_cons_zero, List.set_cons_succ])
          (first | refine wpF_val rfl (fun w' hE hD => by have hcx := Ext.cell hE HCX1.out; have hcy := Ext.cell hE HCY.out; unfold Yld; go_simp; exact ⟨Ext.refl _, rfl⟩) ?_ | refine wpF_valg (by rfl) (fun w' hE hD => by have hcx := Ext.cell hE HCX1.out; have hcy := Ext.cell hE HCY.out; unfold Yld; go_simp; exact ⟨Ext.refl _, rfl⟩) ?_)
          (try simp only [Act.put, List.setIfInBounds_toArray, List.set_cons_zero, List.set_cons_succ])
          (first | refine wpF_val rfl (fun w' hE hD => by have hcx := Ext.cell hE HCX1.out; have hcy := Ext.cell hE HCY.out; unfold Yld; go_simp; exact ⟨Ext.refl _, rfl⟩) ?_ | refine wpF_valg (by rfl) (fun w' hE hD => by have hcx := Ext.cell hE HCX1.out; have hcy := Ext.cell hE HCY.out; unfold Yld; go_simp; exact ⟨Ext.refl _, rfl⟩) ?_)
          (try simp only [Act.put, List.setIfInBounds_toArray, List.set_cons_zero, List.set_cons_succ])
          (first | refine wpF_val rfl (fun w' hE hD => by have hcx := Ext.cell hE HCX1.out; have hcy := Ext.cell hE HCY.out; unfold Yld; go_simp; exact ⟨Ext.refl _, rfl⟩) ?_ | refine wpF_valg (by rfl) (fun w' hE hD => by have hcx := Ext.cell hE HCX1.out; have hcy := Ext.cell hE HCY.out; unfold Yld; go_simp; exact ⟨Ext.refl _, rfl⟩) ?_)
          (try simp only [Act.put, List.setIfInBounds_toArray, List.set_cons_zero, List.set_cons_succ])
          (first | refine wpF_val rfl (fun w' hE hD => by have hcx := Ext.cell hE HCX1.out; have hcy := Ext.cell hE HCY.out; unfold Yld; go_simp; exact ⟨Ext.refl _, rfl⟩) ?_ | refine wpF_valg (by rfl) (fun w' hE hD => by have hcx := Ext.cell hE HCX1.out; have hcy := Ext.cell hE HCY.out; unfold Yld; go_simp; exact ⟨Ext.refl _, rfl⟩) ?_)
          (try simp only [Act.put, List.setIfInBounds_toArray, List.set_cons_zero, List.set_cons_succ])
          refine wpF_factg (by rfl) (fun u Wa Wb h he => ?_) (fun w' hE hD => ?_) (fun u39 => ?_)
          · obtain ⟨A, c, h1, h2, h3⟩ := h
            exact ⟨A, c, h1, h2, Kd.C_below h3 he⟩
          · unfold Yld; go_simp; exact (row_calls w' M 97 HMR.out.1 (by have := HMR.out.2; omega)).mono fun e w2 h => by obtain ⟨A, c, h1, h2, h3, h4⟩ := h; exact ⟨_, h1, h4, A, c, rfl, by omega, h3⟩
          (try simp only [Act.put, List.setIfInBounds_toArray, List.set_cons_zero, List.set_cons_succ])
          refine wpF_factg (by rfl) (fun u Wa Wb h he => h) (fun w' hE hD => by obtain ⟨A2, c2, rfl, hc2, hC2⟩ := hD.2.2.2.2.2.1 (by kernel_rfl); exact str_yld w' A2 _ c2 _ _ (.tmp 58) rfl rfl (by have := HMR.out; omega) hC2) (fun u40 => ?_)
          (try simp only [Act.put, List.setIfInBounds_toArray, List.set_cons_zero, List.set_cons_succ])
          refine wpF_valg (by rfl) (fun w' hE hD => by obtain ⟨A1, c1, rfl, hc1, hC1⟩ := hD.2.2.2.2.1 (by kernel_rfl); obtain ⟨s, rfl, hs⟩ := hD.2.2.2.2.2.2.1 (by kernel_rfl); unfold Yld; go_simp; exact (lderives_calls w' A1 c1 _ _ s (List.length_replicate).symm (HT0.out.ext (HX.out.trans hE)) (HT1.out.ext (HX.out.trans hE)) (Nat.le_trans H2.out (HX.out.trans hE).size) hC1 hc1).mono fun e w2 h => ⟨_, h.1, h.2, rfl⟩) ?_
          (try simp only [Act.put, List.setIfInBounds_toArray, List.set_cons_zero, List.set_cons_succ])
          (first | refine wpF_val rfl (fun w' hE hD => by have hcx := Ext.cell hE HCX1.out; have hcy := Ext.cell hE HCY.out; unfold Yld; go_simp; exact ⟨Ext.refl _, rfl⟩) ?_ | refine wpF_valg (by rfl) (fun w' hE hD => by have hcx := Ext.cell hE HCX1.out; have hcy := Ext.cell hE HCY.out; unfold Yld; go_simp; exact ⟨Ext.refl _, rfl⟩) ?_)
          (try simp only [Act.put, List.setIfInBounds_toArray, List.set_cons_zero, List.set_cons_succ])
          (first | refine wpF_val rfl (fun w' hE hD => by have hcx := Ext.cell hE HCX1.out; have hcy := Ext.cell hE HCY.out; unfold Yld; go_simp; exact ⟨Ext.refl _, rfl⟩) ?_ | refine wpF_valg (by rfl) (fun w' hE hD => by have hcx := Ext.cell hE HCX1.out; have hcy := Ext.cell hE HCY.out; unfold Yld; go_simp; exact ⟨Ext.refl _, rfl⟩) ?_)
          (try simp only [Act.put, List.setIfInBounds_toArray, List.set_cons_zero, List.set_cons_succ])
          refine wpF_nil fun w8 hE hA => ?_
          have HX8 := Aside0.mk (HX.out.trans hE)
          simp only [List.drop_succ_cons, List.drop_zero]
          clear hA hE HX HCY HCX1
          go_wp2_with fail
          go_roundw
          case rel => exact ⟨y + 1, rfl, ⟨by have := HLY.out; omega⟩, HX8⟩
          case measure => have := HLY.out; simp only [intOf]; omega
        · have hye : y = 15 := by omega
          subst hye
          clear j0 j1 hly
          go_wp2_with (first | ((with_reducible refine gate_build (ty := 26) rfl ?_); refine build_at rfl 26 #[] rfl #[Value.int .u8 0, Value.int .u8 0, Value.int .u8 0, Value.int .u8 0, Value.int .u8 0, Value.int .u8 0, Value.int .u8 0, Value.int .u8 0, Value.int .u8 0, Value.int .u8 0, Value.int .u8 0, Value.int .u8 0, Value.int .u8 0, Value.int .u8 0, Value.int .u8 0, Value.int .u8 0, Value.int .u8 0, Value.int .u8 0, Value.int .u8 0, Value.int .u8 0, Value.int .u8 0, Value.int .u8 0, Value.int .u8 0, Value.int .u8 0, Value.int .u8 0, Value.int .u8 0, Value.int .u8 0, Value.int .u8 0, Value.int .u8 0, Value.int .u8 0, Value.int .u8 0, Value.int .u8 0] [] rfl (by kernel_rfl) ?_) | fail)
          refine (hex_calls _ ⟨#[102, 102]⟩ (by decide)).mono ?_
          rintro e w3 ⟨rfl, hE3⟩
          obtain ⟨F, hF⟩ : ∃ F, F = hexS (bytesS ⟨#[102, 102]⟩) (ByteArray.size ⟨#[102, 102]⟩) := ⟨_, rfl⟩
          rw [← hF]
          have HFL := Aside0.mk (show F.length = 32 by rw [hF, hexS_len])
          have HFB := Aside0.mk (show isB F by rw [hF]; exact hexS_isB _ _)
          have HX3 := Aside0.mk (HX.out.trans hE3)
          clear hF hE3 HX
          have hx9 := wrapI (x := x * 9) (by omega) (by omega)
          have hx8 : x % 256 = x := by omega
          go_wp2_with fail
          refine (lsame_calls w3 zs F (x * 9) x (by rfl) HFL.out (hexS_isB [] 0) HFB.out (HT1.out.ext HX3.out) (Nat.le_trans H2.out HX3.out.size) (by omega) (by omega)).mono ?_
          rintro e w4 ⟨rfl, hE4⟩
          have HX4 := Aside0.mk (HX3.out.trans hE4)
          clear hE4 HX3 hx9 hx8
          go_wp2_with fail
          go_roundw
          case rel => exact ⟨x + 1, rfl, ⟨by have := HLT.out; omega⟩, HX4⟩
          case measure => have := HLT.out; simp only [intOf]; omega
    · have hxe : x = 15 := by omega
      subst hxe
      clear g0 g1 hlt HXR HB
      obtain ⟨D, hD⟩ : ∃ D, D = macF [74, 101, 102, 101] [119, 104, 97, 116, 32, 100, 111, 32, 121, 97, 32, 119, 97, 110, 116, 32, 102, 111, 114, 32, 110, 111, 116, 104, 105, 110, 103, 63] := ⟨_, rfl⟩
      have HD := Aside0.mk hD
      have HQ := Aside0.mk (sum_self D (by rw [hD, mac_len]) (by rw [hD]; exact mac_isB _ _))
      obtain ⟨G, hG⟩ : ∃ G, G = macF (List.replicate 131 170) [84, 101, 115, 116, 32, 85, 115, 105, 110, 103, 32, 76, 97, 114, 103, 101, 114, 32, 84, 104, 97, 110, 32, 66, 108, 111, 99, 107, 45, 83, 105, 122, 101, 32, 75, 101, 121, 32, 45, 32, 72, 97, 115, 104, 32, 75, 101, 121, 32, 70, 105, 114, 115, 116] := ⟨_, rfl⟩
      have HG := Aside0.mk hG
      have HQG := Aside0.mk (sum_self G (by rw [hG, mac_len]) (by rw [hG]; exact mac_isB _ _))
      clear hD hG
      have hs1 : (wx.alloc (.cells #[Value.int .u8 74, Value.int .u8 101, Value.int .u8 102, Value.int .u8 101] 5 (4, 5))).heap.size = wx.heap.size + 1 := size_alloc _ _
      have HXA := Aside0.mk ((Ext.refl wx).alloc (.cells #[Value.int .u8 74, Value.int .u8 101, Value.int .u8 102, Value.int .u8 101] 5 (4, 5)))
      have HXB := Aside0.mk ((Ext.refl (wx.alloc (.cells #[Value.int .u8 74, Value.int .u8 101, Value.int .u8 102, Value.int .u8 101] 5 (4, 5)))).alloc (.cells #[Value.int .u8 119, Value.int .u8 104, Value.int .u8 97, Value.int .u8 116, Value.int .u8 32, Value.int .u8 100, Value.int .u8 111, Value.int .u8 32, Value.int .u8 121, Value.int .u8 97, Value.int .u8 32, Value.int .u8 119, Value.int .u8 97, Value.int .u8 110, Value.int .u8 116, Value.int .u8 32, Value.int .u8 102, Value.int .u8 111, Value.int .u8 114, Value.int .u8 32, Value.int .u8 110, Value.int .u8 111, Value.int .u8 116, Value.int .u8 104, Value.int .u8 105, Value.int .u8 110, Value.int .u8 103, Value.int .u8 63] 5 (28, 29)))
      have HCJ := Aside0.mk (Kd.C_below (show Kd.C kb (wx.alloc (.cells #[Value.int .u8 74, Value.int .u8 101, Value.int .u8 102, Value.int .u8 101] 5 (4, 5))) (some ⟨wx.heap.size, 0, none⟩) 4 [74, 101, 102, 101] from const_C wx [74, 101, 102, 101] (4, 5) (by decide)) HXB.out)
      have hcw := show Kd.C kb ((wx.alloc (.cells #[Value.int .u8 74, Value.int .u8 101, Value.int .u8 102, Value.int .u8 101] 5 (4, 5))).alloc (.cells #[Value.int .u8 119, Value.int .u8 104, Value.int .u8 97, Value.int .u8 116, Value.int .u8 32, Value.int .u8 100, Value.int .u8 111, Value.int .u8 32, Value.int .u8 121, Value.int .u8 97, Value.int .u8 32, Value.int .u8 119, Value.int .u8 97, Value.int .u8 110, Value.int .u8 116, Value.int .u8 32, Value.int .u8 102, Value.int .u8 111, Value.int .u8 114, Value.int .u8 32, Value.int .u8 110, Value.int .u8 111, Value.int .u8 116, Value.int .u8 104, Value.int .u8 105, Value.int .u8 110, Value.int .u8 103, Value.int .u8 63] 5 (28, 29))) (some ⟨(wx.alloc (.cells #[Value.int .u8 74, Value.int .u8 101, Value.int .u8 102, Value.int .u8 101] 5 (4, 5))).heap.size, 0, none⟩) 28 [119, 104, 97, 116, 32, 100, 111, 32, 121, 97, 32, 119, 97, 110, 116, 32, 102, 111, 114, 32, 110, 111, 116, 104, 105, 110, 103, 63] from const_C (wx.alloc (.cells #[Value.int .u8 74, Value.int .u8 101, Value.int .u8 102, Value.int .u8 101] 5 (4, 5))) [119, 104, 97, 116, 32, 100, 111, 32, 121, 97, 32, 119, 97, 110, 116, 32, 102, 111, 114, 32, 110, 111, 116, 104, 105, 110, 103, 63] (28, 29) (by decide)
      rw [hs1] at hcw
      have HCW := Aside0.mk hcw
      have kc2 := kconv (wx.alloc (.cells #[Value.int .u8 74, Value.int .u8 101, Value.int .u8 102, Value.int .u8 101] 5 (4, 5)))
      rw [hs1] at kc2
      have HX2 := Aside0.mk (HX.out.trans (HXA.out.trans HXB.out))
      clear hcw hs1 HX HXA HXB
      go_wp2_with fail
      refine (mac_calls _ (some ⟨wx.heap.size, 0, none⟩) (some ⟨wx.heap.size + 1, 0, none⟩) 4 28 4 28 [74, 101, 102, 101] [119, 104, 97, 116, 32, 100, 111, 32, 121, 97, 32, 119, 97, 110, 116, 32, 102, 111, 114, 32, 110, 111, 116, 104, 105, 110, 103, 63] (HT1.out.ext HX2.out) (Nat.le_trans H2.out HX2.out.size) rfl HCJ.out (Nat.le_refl _) (by decide) rfl HCW.out (Nat.le_refl _) (by decide)).mono ?_
      rintro e w3 ⟨rfl, hE3⟩
      rw [← HD.out]
      have HX3 := Aside0.mk (HX2.out.trans hE3)
      clear hE3 HX2 HCJ HCW kc2
      go_wp2_with fail
      refine (hex_calls w3 ⟨#[53, 98, 100, 99, 99, 49, 52, 54, 98, 102, 54, 48, 55, 53, 52, 101, 54, 97, 48, 52, 50, 52, 50, 54, 48, 56, 57, 53, 55, 53, 99, 55, 53, 97, 48, 48, 51, 102, 48, 56, 57, 100, 50, 55, 51, 57, 56, 51, 57, 100, 101, 99, 53, 56, 98, 57, 54, 52, 101, 99, 51, 56, 52, 51]⟩ (by decide)).mono ?_
      rintro e w4 ⟨rfl, hE4⟩
      have he : hexS (bytesS ⟨#[53, 98, 100, 99, 99, 49, 52, 54, 98, 102, 54, 48, 55, 53, 52, 101, 54, 97, 48, 52, 50, 52, 50, 54, 48, 56, 57, 53, 55, 53, 99, 55, 53, 97, 48, 48, 51, 102, 48, 56, 57, 100, 50, 55, 51, 57, 56, 51, 57, 100, 101, 99, 53, 56, 98, 57, 54, 52, 101, 99, 51, 56, 52, 51]⟩) (ByteArray.size ⟨#[53, 98, 100, 99, 99, 49, 52, 54, 98, 102, 54, 48, 55, 53, 52, 101, 54, 97, 48, 52, 50, 52, 50, 54, 48, 56, 57, 53, 55, 53, 99, 55, 53, 97, 48, 48, 51, 102, 48, 56, 57, 100, 50, 55, 51, 57, 56, 51, 57, 100, 101, 99, 53, 56, 98, 57, 54, 52, 101, 99, 51, 56, 52, 51]⟩) = D := by rw [HD.out, two_is]; rfl
      rw [he]
      have HX4 := Aside0.mk (HX3.out.trans hE4)
      clear hE4 HX3 he
      go_wp2_with (first | ((with_reducible refine gate_eql (ty := 26) rfl ?_); (refine eql_at rfl 26 26 _ _ rfl (nums .u8 D).toArray (nums .u8 D).toArray rfl rfl (by kernel_rfl) true (HQ.out _) ?_)) | fail)
      refine (row_calls w4 131 170 (by decide) (by decide)).mono ?_
      rintro e w5 ⟨A5, c5, rfl, hc5, hC5, hE5⟩
      have hc5' : 131 ≤ c5 := hc5
      have HX5 := Aside0.mk (HX4.out.trans hE5)
      have HXC := Aside0.mk ((Ext.refl w5).alloc (.cells #[Value.int .u8 84, Value.int .u8 101, Value.int .u8 115, Value.int .u8 116, Value.int .u8 32, Value.int .u8 85, Value.int .u8 115, Value.int .u8 105, Value.int .u8 110, Value.int .u8 103, Value.int .u8 32, Value.int .u8 76, Value.int .u8 97, Value.int .u8 114, Value.int .u8 103, Value.int .u8 101, Value.int .u8 114, Value.int .u8 32, Value.int .u8 84, Value.int .u8 104, Value.int .u8 97, Value.int .u8 110, Value.int .u8 32, Value.int .u8 66, Value.int .u8 108, Value.int .u8 111, Value.int .u8 99, Value.int .u8 107, Value.int .u8 45, Value.int .u8 83, Value.int .u8 105, Value.int .u8 122, Value.int .u8 101, Value.int .u8 32, Value.int .u8 75, Value.int .u8 101, Value.int .u8 121, Value.int .u8 32, Value.int .u8 45, Value.int .u8 32, Value.int .u8 72, Value.int .u8 97, Value.int .u8 115, Value.int .u8 104, Value.int .u8 32, Value.int .u8 75, Value.int .u8 101, Value.int .u8 121, Value.int .u8 32, Value.int .u8 70, Value.int .u8 105, Value.int .u8 114, Value.int .u8 115, Value.int .u8 116] 5 (54, 55)))
      have HCR := Aside0.mk (Kd.C_below hC5 HXC.out)
      have HCS := Aside0.mk (show Kd.C kb (w5.alloc (.cells #[Value.int .u8 84, Value.int .u8 101, Value.int .u8 115, Value.int .u8 116, Value.int .u8 32, Value.int .u8 85, Value.int .u8 115, Value.int .u8 105, Value.int .u8 110, Value.int .u8 103, Value.int .u8 32, Value.int .u8 76, Value.int .u8 97, Value.int .u8 114, Value.int .u8 103, Value.int .u8 101, Value.int .u8 114, Value.int .u8 32, Value.int .u8 84, Value.int .u8 104, Value.int .u8 97, Value.int .u8 110, Value.int .u8 32, Value.int .u8 66, Value.int .u8 108, Value.int .u8 111, Value.int .u8 99, Value.int .u8 107, Value.int .u8 45, Value.int .u8 83, Value.int .u8 105, Value.int .u8 122, Value.int .u8 101, Value.int .u8 32, Value.int .u8 75, Value.int .u8 101, Value.int .u8 121, Value.int .u8 32, Value.int .u8 45, Value.int .u8 32, Value.int .u8 72, Value.int .u8 97, Value.int .u8 115, Value.int .u8 104, Value.int .u8 32, Value.int .u8 75, Value.int .u8 101, Value.int .u8 121, Value.int .u8 32, Value.int .u8 70, Value.int .u8 105, Value.int .u8 114, Value.int .u8 115, Value.int .u8 116] 5 (54, 55))) (some ⟨w5.heap.size, 0, none⟩) 54 [84, 101, 115, 116, 32, 85, 115, 105, 110, 103, 32, 76, 97, 114, 103, 101, 114, 32, 84, 104, 97, 110, 32, 66, 108, 111, 99, 107, 45, 83, 105, 122, 101, 32, 75, 101, 121, 32, 45, 32, 72, 97, 115, 104, 32, 75, 101, 121, 32, 70, 105, 114, 115, 116] from const_C w5 [84, 101, 115, 116, 32, 85, 115, 105, 110, 103, 32, 76, 97, 114, 103, 101, 114, 32, 84, 104, 97, 110, 32, 66, 108, 111, 99, 107, 45, 83, 105, 122, 101, 32, 75, 101, 121, 32, 45, 32, 72, 97, 115, 104, 32, 75, 101, 121, 32, 70, 105, 114, 115, 116] (54, 55) (by decide))
      have HX6 := Aside0.mk (HX5.out.trans HXC.out)
      clear hE5 hC5 hc5 HX4 HX5 HXC
      go_wp2_with fail
      refine (mac_calls _ A5 (some ⟨w5.heap.size, 0, none⟩) c5 54 131 54 (List.replicate 131 170) [84, 101, 115, 116, 32, 85, 115, 105, 110, 103, 32, 76, 97, 114, 103, 101, 114, 32, 84, 104, 97, 110, 32, 66, 108, 111, 99, 107, 45, 83, 105, 122, 101, 32, 75, 101, 121, 32, 45, 32, 72, 97, 115, 104, 32, 75, 101, 121, 32, 70, 105, 114, 115, 116] (HT1.out.ext HX6.out) (Nat.le_trans H2.out HX6.out.size) (by rw [List.length_replicate]) HCR.out hc5' (by decide) rfl HCS.out (Nat.le_refl _) (by decide)).mono ?_
      rintro e w7 ⟨rfl, hE7⟩
      rw [← HG.out]
      have HX7 := Aside0.mk (HX6.out.trans hE7)
      clear hE7 HX6 HCR HCS
      go_wp2_with fail
      refine (hex_calls w7 ⟨#[54, 48, 101, 52, 51, 49, 53, 57, 49, 101, 101, 48, 98, 54, 55, 102, 48, 100, 56, 97, 50, 54, 97, 97, 99, 98, 102, 53, 98, 55, 55, 102, 56, 101, 48, 98, 99, 54, 50, 49, 51, 55, 50, 56, 99, 53, 49, 52, 48, 53, 52, 54, 48, 52, 48, 102, 48, 101, 101, 51, 55, 102, 53, 52]⟩ (by decide)).mono ?_
      rintro e w8 ⟨rfl, hE8⟩
      have he : hexS (bytesS ⟨#[54, 48, 101, 52, 51, 49, 53, 57, 49, 101, 101, 48, 98, 54, 55, 102, 48, 100, 56, 97, 50, 54, 97, 97, 99, 98, 102, 53, 98, 55, 55, 102, 56, 101, 48, 98, 99, 54, 50, 49, 51, 55, 50, 56, 99, 53, 49, 52, 48, 53, 52, 54, 48, 52, 48, 102, 48, 101, 101, 51, 55, 102, 53, 52]⟩) (ByteArray.size ⟨#[54, 48, 101, 52, 51, 49, 53, 57, 49, 101, 101, 48, 98, 54, 55, 102, 48, 100, 56, 97, 50, 54, 97, 97, 99, 98, 102, 53, 98, 55, 55, 102, 56, 101, 48, 98, 99, 54, 50, 49, 51, 55, 50, 56, 99, 53, 49, 52, 48, 53, 52, 54, 48, 52, 48, 102, 48, 101, 101, 51, 55, 102, 53, 52]⟩) = G := by rw [HG.out, six_is]; rfl
      rw [he]
      have HX8 := Aside0.mk (HX7.out.trans hE8)
      clear hE8 HX7 he
      have HXD := Aside0.mk ((Ext.refl w8).alloc (.cells #[Value.int .u8 74, Value.int .u8 101, Value.int .u8 102, Value.int .u8 101] 5 (4, 5)))
      have HCJ := Aside0.mk (show Kd.C kb (w8.alloc (.cells #[Value.int .u8 74, Value.int .u8 101, Value.int .u8 102, Value.int .u8 101] 5 (4, 5))) (some ⟨w8.heap.size, 0, none⟩) 4 [74, 101, 102, 101] from const_C w8 [74, 101, 102, 101] (4, 5) (by decide))
      have HX9 := Aside0.mk (HX8.out.trans HXD.out)
      go_wp2_with (first | ((with_reducible refine gate_eql (ty := 26) rfl ?_); (refine eql_at rfl 26 26 _ _ rfl (nums .u8 G).toArray (nums .u8 G).toArray rfl rfl (by kernel_rfl) true (HQG.out _) ?_)) | fail)
      refine (derive_calls _ (some ⟨w8.heap.size, 0, none⟩) 4 4 [74, 101, 102, 101] ⟨#[119, 104, 97, 116, 32, 100, 111, 32, 121, 97, 32, 119, 97, 110, 116, 32, 102, 111, 114, 32, 110, 111, 116, 104, 105, 110, 103, 63]⟩ (HT1.out.ext HX9.out) (Nat.le_trans H2.out HX9.out.size) rfl HCJ.out (Nat.le_refl _) (by decide) (by decide)).mono ?_
      rintro e wa ⟨rfl, hEa⟩
      rw [wt_is, ← HD.out]
      have HXa := Aside0.mk (HX9.out.trans hEa)
      clear hEa HXD HCJ HX8 HX9
      have hs1 : (wa.alloc (.cells #[Value.int .u8 74, Value.int .u8 101, Value.int .u8 102, Value.int .u8 101] 5 (4, 5))).heap.size = wa.heap.size + 1 := size_alloc _ _
      have HXA := Aside0.mk ((Ext.refl wa).alloc (.cells #[Value.int .u8 74, Value.int .u8 101, Value.int .u8 102, Value.int .u8 101] 5 (4, 5)))
      have HXB := Aside0.mk ((Ext.refl (wa.alloc (.cells #[Value.int .u8 74, Value.int .u8 101, Value.int .u8 102, Value.int .u8 101] 5 (4, 5)))).alloc (.cells #[Value.int .u8 119, Value.int .u8 104, Value.int .u8 97, Value.int .u8 116, Value.int .u8 32, Value.int .u8 100, Value.int .u8 111, Value.int .u8 32, Value.int .u8 121, Value.int .u8 97, Value.int .u8 32, Value.int .u8 119, Value.int .u8 97, Value.int .u8 110, Value.int .u8 116, Value.int .u8 32, Value.int .u8 102, Value.int .u8 111, Value.int .u8 114, Value.int .u8 32, Value.int .u8 110, Value.int .u8 111, Value.int .u8 116, Value.int .u8 104, Value.int .u8 105, Value.int .u8 110, Value.int .u8 103, Value.int .u8 63] 5 (28, 29)))
      have HCJ := Aside0.mk (Kd.C_below (show Kd.C kb (wa.alloc (.cells #[Value.int .u8 74, Value.int .u8 101, Value.int .u8 102, Value.int .u8 101] 5 (4, 5))) (some ⟨wa.heap.size, 0, none⟩) 4 [74, 101, 102, 101] from const_C wa [74, 101, 102, 101] (4, 5) (by decide)) HXB.out)
      have hcw := show Kd.C kb ((wa.alloc (.cells #[Value.int .u8 74, Value.int .u8 101, Value.int .u8 102, Value.int .u8 101] 5 (4, 5))).alloc (.cells #[Value.int .u8 119, Value.int .u8 104, Value.int .u8 97, Value.int .u8 116, Value.int .u8 32, Value.int .u8 100, Value.int .u8 111, Value.int .u8 32, Value.int .u8 121, Value.int .u8 97, Value.int .u8 32, Value.int .u8 119, Value.int .u8 97, Value.int .u8 110, Value.int .u8 116, Value.int .u8 32, Value.int .u8 102, Value.int .u8 111, Value.int .u8 114, Value.int .u8 32, Value.int .u8 110, Value.int .u8 111, Value.int .u8 116, Value.int .u8 104, Value.int .u8 105, Value.int .u8 110, Value.int .u8 103, Value.int .u8 63] 5 (28, 29))) (some ⟨(wa.alloc (.cells #[Value.int .u8 74, Value.int .u8 101, Value.int .u8 102, Value.int .u8 101] 5 (4, 5))).heap.size, 0, none⟩) 28 [119, 104, 97, 116, 32, 100, 111, 32, 121, 97, 32, 119, 97, 110, 116, 32, 102, 111, 114, 32, 110, 111, 116, 104, 105, 110, 103, 63] from const_C (wa.alloc (.cells #[Value.int .u8 74, Value.int .u8 101, Value.int .u8 102, Value.int .u8 101] 5 (4, 5))) [119, 104, 97, 116, 32, 100, 111, 32, 121, 97, 32, 119, 97, 110, 116, 32, 102, 111, 114, 32, 110, 111, 116, 104, 105, 110, 103, 63] (28, 29) (by decide)
      rw [hs1] at hcw
      have HCW := Aside0.mk hcw
      have kc2 := kconv (wa.alloc (.cells #[Value.int .u8 74, Value.int .u8 101, Value.int .u8 102, Value.int .u8 101] 5 (4, 5)))
      rw [hs1] at kc2
      have HXb := Aside0.mk (HXa.out.trans (HXA.out.trans HXB.out))
      clear hcw hs1 HXa HXA HXB
      go_wp2_with fail
      refine (mac_calls _ (some ⟨wa.heap.size, 0, none⟩) (some ⟨wa.heap.size + 1, 0, none⟩) 4 28 4 28 [74, 101, 102, 101] [119, 104, 97, 116, 32, 100, 111, 32, 121, 97, 32, 119, 97, 110, 116, 32, 102, 111, 114, 32, 110, 111, 116, 104, 105, 110, 103, 63] (HT1.out.ext HXb.out) (Nat.le_trans H2.out HXb.out.size) rfl HCJ.out (Nat.le_refl _) (by decide) rfl HCW.out (Nat.le_refl _) (by decide)).mono ?_
      rintro e wc ⟨rfl, hEc⟩
      rw [← HD.out]
      have HXc := Aside0.mk (HXb.out.trans hEc)
      clear hEc HXb HCJ HCW kc2
      go_wp2_with (first | ((with_reducible refine gate_eql (ty := 26) rfl ?_); (refine eql_at rfl 26 26 _ _ rfl (nums .u8 D).toArray (nums .u8 D).toArray rfl rfl (by kernel_rfl) true (HQ.out _) ?_)) | fail)
      refine (works_calls wc (HT1.out.ext HXc.out) (Nat.le_trans H2.out HXc.out.size)).mono ?_
      rintro e wd ⟨rfl, hEd⟩
      have HXd := Aside0.mk (HE.out.trans (HXc.out.trans hEd))
      clear hEd HXc
      go_wp2
      go_ret
      exact ⟨rfl, HXd.out⟩
end Go.Proofs.YtbnbncnmhhioeaaDoor.By
