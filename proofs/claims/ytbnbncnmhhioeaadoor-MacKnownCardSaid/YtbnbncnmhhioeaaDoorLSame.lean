/- MacSame. -/
import Derived.Test.YtbnbncnmhhioeaaDoorMWorks
namespace Go.Proofs.YtbnbncnmhhioeaaDoor.By
open Go.RowKit Go.Proofs.YtbnbncnmhhioeaaDoor.Reg Go.Proofs.YtbnbncnmhhioeaaDoorW.PrintWords Go.Proofs.YtbnbncnmhhioeaaDoorW.PrintLast Go.Proofs.YtbnbncnmhhioeaaDoorW.PrintMore
set_option linter.unusedVariables false


def sameF (a b : List Int) : Nat → Bool
  | 0 => true
  | n + 1 => sameF a b n && rd a n == rd b n
theorem sameF_law (a b : List Int) : ∀ n, sameF a b n = true ↔ ∀ i : Nat, i < n → rd a i = rd b i
  | 0 => ⟨fun _ i hi => absurd hi (by omega), fun _ => rfl⟩
  | n + 1 => by
    rw [sameF, Bool.and_eq_true, sameF_law a b n, beq_iff_eq]
    refine ⟨fun h i hi => ?_, fun h => ⟨fun i hi => h i (by omega), h n (by omega)⟩⟩
    rcases Nat.lt_or_ge i n with hin | hin
    · exact h.1 i hin
    · rw [show i = n by omega]; exact h.2
theorem sameF_eq (a b : List Int) (la : a.length = 32) (lb : b.length = 32) : sameF a b 32 = decide (a = b) := by
  rw [Bool.eq_iff_iff, decide_eq_true_eq, sameF_law]
  exact ⟨fun h => rd_ext la lb h, fun h i _ => by rw [h]⟩
theorem u8_xor_self (x v : Int) (h1 : 0 ≤ x) (h2 : x < 256) (h3 : 0 ≤ v) (h4 : v < 256) : Go.bits .xor .u8 x v = x ↔ v = 0 := by
  rw [u8_xor x v h1 h2 h3 h4]
  refine ⟨fun h => ?_, fun h => by rw [h]; simp; omega⟩
  have h0 : x.toNat ^^^ v.toNat = x.toNat := by omega
  have h5 := congrArg (x.toNat ^^^ ·) h0
  simp only [← Nat.xor_assoc, Nat.xor_self, Nat.zero_xor] at h5
  omega
theorem set_self (a : List Int) (ha : isB a) (p : Nat) (hp : p < a.length) (v : Int) (h3 : 0 ≤ v) (h4 : v < 256) : decide (a = a.set p (Go.bits .xor .u8 (rd a p) v)) = decide (v = 0) := by
  rw [decide_eq_decide]
  have hr : rd a p = a[p] := by simp [rd, hp]
  have hb := isB_rd ha p
  rw [← u8_xor_self (rd a p) v hb.1 hb.2 h3 h4]
  refine ⟨fun h => ?_, fun h => ?_⟩
  · have h1 : (a.set p (Go.bits .xor .u8 (rd a p) v))[p]'(by rw [List.length_set]; exact hp) = Go.bits .xor .u8 (rd a p) v := List.getElem_set_self _
    have h2 : (a.set p (Go.bits .xor .u8 (rd a p) v))[p]'(by rw [List.length_set]; exact hp) = a[p] := by simp only [← h]
    rw [← h1, h2, hr]
  · rw [h, hr, List.set_getElem_self]
set_option maxRecDepth 100000 in
set_option maxHeartbeats 16000000 in
theorem lsame_calls (w : World) (a b : List Int) (q v : Int) (la : a.length = 32) (lb : b.length = 32) (ha : isB a) (hb : isB b) (hT1 : Tab 1 w) (h2 : 2 ≤ w.heap.size) (hq : -9223372036854775808 ≤ q ∧ q ≤ 9223372036854775807) (hv : 0 ≤ v ∧ v < 256) :
    Calls Tryd.prog 12 #[sumV a, sumV b, .int .i64 q, .int .u8 v] w fun e w' => e = .returned (.bool true) ∧ Ext w w' := by
  have HV := Aside0.mk hv
  have HT1 := Aside0.mk hT1
  have H2 := Aside0.mk h2
  have HQR := Aside0.mk hq
  have HLA := Aside0.mk la
  have HLB := Aside0.mk lb
  have HBA := Aside0.mk ha
  have HBB := Aside0.mk hb
  have hs1 : (w.alloc (.cells (nums .u8 a).toArray 26)).heap.size = w.heap.size + 1 := size_alloc _ _
  have hk := Blk.new (w.alloc (.cells (nums .u8 a).toArray 26)) (nums .u8 b).toArray 26
  rw [hs1] at hk
  have HB := Aside0.mk hk
  have HA := Aside0.mk ((Blk.new w (nums .u8 a).toArray 26).alloc (.cells (nums .u8 b).toArray 26))
  have HE := Aside0.mk (((Ext.refl w).alloc (.cells (nums .u8 a).toArray 26)).alloc (.cells (nums .u8 b).toArray 26))
  have HIA := Aside0.mk (show (Tryd.prog.info? 26).map (·.size) = some (nums .u8 a).length by rw [nums_length, la]; kernel_rfl)
  have HIB := Aside0.mk (show (Tryd.prog.info? 26).map (·.size) = some (nums .u8 b).length by rw [nums_length, lb]; kernel_rfl)
  have HSA := Aside0.mk (show (nums .u8 zs).toArray.size = (nums .u8 a).length by rw [nums_length, la]; rfl)
  clear hk hs1 la lb ha hb hq hT1 h2
  unfold sumV
  go_enter Tryd.func12, Tryd.ntmps12
  go_wp2_with fail
  obtain ⟨W0, hW0⟩ : ∃ W0, W0 = (w.alloc (.cells (nums .u8 a).toArray 26)).alloc (.cells (nums .u8 b).toArray 26) := ⟨_, rfl⟩
  rw [← hW0] at HA HB HE ⊢
  clear hW0
  have HN12 := Aside0.mk (show w.heap.size < W0.heap.size from HA.out.lt)
  generalize w.heap.size + 1 = b2 at HB ⊢
  have HX0 := Aside0.mk (Ext.refl W0)
  obtain ⟨b1, hb1⟩ : ∃ b1, b1 = w.heap.size := ⟨_, rfl⟩
  rw [← hb1] at HA ⊢
  clear hb1 HN12
  go_loopw [9, 10] (fun u i wr => ∃ x : Int, i = .int .i64 x ∧ u = .bool (sameF a b x.toNat) ∧ Aside0 (0 ≤ x ∧ x ≤ 32) ∧ Aside0 (Ext W0 wr)) (fun _ i _ => 32 - (intOf i).toNat)
  case atStart => exact ⟨0, rfl, rfl, ⟨by decide⟩, HX0⟩
  case round =>
    clear HX0
    obtain ⟨x, rfl, rfl, HXR, HX⟩ := hrel
    obtain ⟨g0, g1⟩ := HXR.out
    obtain ⟨wx, hwx⟩ : ∃ wx : World, wx = wr := ⟨_, rfl⟩
    subst hwx
    by_cases hlt : x < 32
    · have HLT := Aside0.mk (And.intro g0 hlt)
      have hca := (HA.out.ext HX.out).cell x.toNat (v := .int .u8 (rd a x)) (by
        have h := nums_cell a x.toNat (by rw [HLA.out]; omega)
        rwa [Int.toNat_of_nonneg g0] at h)
      have hcb := (HB.out.ext HX.out).cell x.toNat (v := .int .u8 (rd b x)) (by
        have h := nums_cell b x.toNat (by rw [HLB.out]; omega)
        rwa [Int.toNat_of_nonneg g0] at h)
      have HCA := Aside0.mk hca
      have HCB := Aside0.mk hcb
      have HSU := Aside0.mk (show sameF a b (x + 1).toNat = (sameF a b x.toNat && rd a x == rd b x) by
        rw [show (x + 1).toNat = x.toNat + 1 by omega, sameF, Int.toNat_of_nonneg g0])
      obtain ⟨u, hu⟩ : ∃ u, u = sameF a b x.toNat := ⟨_, rfl⟩
      rw [← hu] at HSU ⊢
      clear hu hca hcb
      go_wp2_with fail
      cases u
      · skip
        apply wp_region_facts 10 [RF.val _, RF.val _, RF.val undef, RF.val undef, RF.val undef, RF.val undef, RF.val undef, RF.val undef, RF.val undef, RF.val _]
        case hm => kernel_rfl
        case hB => kernel_rfl
        simp only [List.take_succ_cons, List.take_zero, List.zip_cons_cons, List.zip_nil_left]
        (first | refine wpF_val rfl (fun w' hE hD => by unfold Yld; go_simp; exact ⟨Ext.refl _, rfl⟩) ?_ | refine wpF_valg (by rfl) (fun w' hE hD => by unfold Yld; go_simp; exact ⟨Ext.refl _, rfl⟩) ?_)
        (try simp only [Act.put, List.setIfInBounds_toArray, List.set_cons_zero, List.set_cons_succ])
        (first | refine wpF_val rfl (fun w' hE hD => by unfold Yld; go_simp; exact ⟨Ext.refl _, rfl⟩) ?_ | refine wpF_valg (by rfl) (fun w' hE hD => by unfold Yld; go_simp; exact ⟨Ext.refl _, rfl⟩) ?_)
        (try simp only [Act.put, List.setIfInBounds_toArray, List.set_cons_zero, List.set_cons_succ])
        refine wpF_skip (by rfl) ?_
        (try simp only [Act.put, List.setIfInBounds_toArray, List.set_cons_zero, List.set_cons_succ])
        refine wpF_skip (by rfl) ?_
        (try simp only [Act.put, List.setIfInBounds_toArray, List.set_cons_zero, List.set_cons_succ])
        refine wpF_skip (by rfl) ?_
        (try simp only [Act.put, List.setIfInBounds_toArray, List.set_cons_zero, List.set_cons_succ])
        refine wpF_skip (by rfl) ?_
        (try simp only [Act.put, List.setIfInBounds_toArray, List.set_cons_zero, List.set_cons_succ])
        refine wpF_skip (by rfl) ?_
        (try simp only [Act.put, List.setIfInBounds_toArray, List.set_cons_zero, List.set_cons_succ])
        refine wpF_skip (by rfl) ?_
        (try simp only [Act.put, List.setIfInBounds_toArray, List.set_cons_zero, List.set_cons_succ])
        refine wpF_skip (by rfl) ?_
        (try simp only [Act.put, List.setIfInBounds_toArray, List.set_cons_zero, List.set_cons_succ])
        (first | refine wpF_val rfl (fun w' hE hD => by unfold Yld; go_simp; exact ⟨Ext.refl _, rfl⟩) ?_ | refine wpF_valg (by rfl) (fun w' hE hD => by unfold Yld; go_simp; exact ⟨Ext.refl _, rfl⟩) ?_)
        (try simp only [Act.put, List.setIfInBounds_toArray, List.set_cons_zero, List.set_cons_succ])
        refine wpF_nil fun w8 hE hA => ?_
        have HX8 := Aside0.mk (HX.out.trans hE)
        simp only [List.drop_succ_cons, List.drop_zero]
        clear hA hE HX
        go_wp2_with fail
        go_roundw
        case rel => exact ⟨x + 1, rfl, by rw [HSU.out]; rfl, ⟨by have := HLT.out; omega⟩, HX8⟩
        case measure => have := HLT.out; simp only [intOf]; omega
      · skip
        apply wp_region_facts 10 [RF.val _, RF.val _, RF.val _, RF.val _, RF.val _, RF.val _, RF.val _, RF.val _, RF.val _, RF.val _]
        case hm => kernel_rfl
        case hB => kernel_rfl
        simp only [List.take_succ_cons, List.take_zero, List.zip_cons_cons, List.zip_nil_left]
        (first | refine wpF_val rfl (fun w' hE hD => by have hc1 := Ext.cell hE HCA.out; have hc2 := Ext.cell hE HCB.out; unfold Yld; go_simp; exact ⟨Ext.refl _, rfl⟩) ?_ | refine wpF_valg (by rfl) (fun w' hE hD => by have hc1 := Ext.cell hE HCA.out; have hc2 := Ext.cell hE HCB.out; unfold Yld; go_simp; exact ⟨Ext.refl _, rfl⟩) ?_)
        (try simp only [Act.put, List.setIfInBounds_toArray, List.set_cons_zero, List.set_cons_succ])
        (first | refine wpF_val rfl (fun w' hE hD => by have hc1 := Ext.cell hE HCA.out; have hc2 := Ext.cell hE HCB.out; unfold Yld; go_simp; exact ⟨Ext.refl _, rfl⟩) ?_ | refine wpF_valg (by rfl) (fun w' hE hD => by have hc1 := Ext.cell hE HCA.out; have hc2 := Ext.cell hE HCB.out; unfold Yld; go_simp; exact ⟨Ext.refl _, rfl⟩) ?_)
        (try simp only [Act.put, List.setIfInBounds_toArray, List.set_cons_zero, List.set_cons_succ])
        (first | refine wpF_val rfl (fun w' hE hD => by have hc1 := Ext.cell hE HCA.out; have hc2 := Ext.cell hE HCB.out; unfold Yld; go_simp; exact ⟨Ext.refl _, rfl⟩) ?_ | refine wpF_valg (by rfl) (fun w' hE hD => by have hc1 := Ext.cell hE HCA.out; have hc2 := Ext.cell hE HCB.out; unfold Yld; go_simp; exact ⟨Ext.refl _, rfl⟩) ?_)
        (try simp only [Act.put, List.setIfInBounds_toArray, List.set_cons_zero, List.set_cons_succ])
        (first | refine wpF_val rfl (fun w' hE hD => by have hc1 := Ext.cell hE HCA.out; have hc2 := Ext.cell hE HCB.out; unfold Yld; go_simp; exact ⟨Ext.refl _, rfl⟩) ?_ | refine wpF_valg (by rfl) (fun w' hE hD => by have hc1 := Ext.cell hE HCA.out; have hc2 := Ext.cell hE HCB.out; unfold Yld; go_simp; exact ⟨Ext.refl _, rfl⟩) ?_)
        (try simp only [Act.put, List.setIfInBounds_toArray, List.set_cons_zero, List.set_cons_succ])
        (first | refine wpF_val rfl (fun w' hE hD => by have hc1 := Ext.cell hE HCA.out; have hc2 := Ext.cell hE HCB.out; unfold Yld; go_simp; exact ⟨Ext.refl _, rfl⟩) ?_ | refine wpF_valg (by rfl) (fun w' hE hD => by have hc1 := Ext.cell hE HCA.out; have hc2 := Ext.cell hE HCB.out; unfold Yld; go_simp; exact ⟨Ext.refl _, rfl⟩) ?_)
        (try simp only [Act.put, List.setIfInBounds_toArray, List.set_cons_zero, List.set_cons_succ])
        (first | refine wpF_val rfl (fun w' hE hD => by have hc1 := Ext.cell hE HCA.out; have hc2 := Ext.cell hE HCB.out; unfold Yld; go_simp; exact ⟨Ext.refl _, rfl⟩) ?_ | refine wpF_valg (by rfl) (fun w' hE hD => by have hc1 := Ext.cell hE HCA.out; have hc2 := Ext.cell hE HCB.out; unfold Yld; go_simp; exact ⟨Ext.refl _, rfl⟩) ?_)
        (try simp only [Act.put, List.setIfInBounds_toArray, List.set_cons_zero, List.set_cons_succ])
        (first | refine wpF_val rfl (fun w' hE hD => by have hc1 := Ext.cell hE HCA.out; have hc2 := Ext.cell hE HCB.out; unfold Yld; go_simp; exact ⟨Ext.refl _, rfl⟩) ?_ | refine wpF_valg (by rfl) (fun w' hE hD => by have hc1 := Ext.cell hE HCA.out; have hc2 := Ext.cell hE HCB.out; unfold Yld; go_simp; exact ⟨Ext.refl _, rfl⟩) ?_)
        (try simp only [Act.put, List.setIfInBounds_toArray, List.set_cons_zero, List.set_cons_succ])
        (first | refine wpF_val rfl (fun w' hE hD => by have hc1 := Ext.cell hE HCA.out; have hc2 := Ext.cell hE HCB.out; unfold Yld; go_simp; exact ⟨Ext.refl _, rfl⟩) ?_ | refine wpF_valg (by rfl) (fun w' hE hD => by have hc1 := Ext.cell hE HCA.out; have hc2 := Ext.cell hE HCB.out; unfold Yld; go_simp; exact ⟨Ext.refl _, rfl⟩) ?_)
        (try simp only [Act.put, List.setIfInBounds_toArray, List.set_cons_zero, List.set_cons_succ])
        (first | refine wpF_val rfl (fun w' hE hD => by have hc1 := Ext.cell hE HCA.out; have hc2 := Ext.cell hE HCB.out; unfold Yld; go_simp; exact ⟨Ext.refl _, rfl⟩) ?_ | refine wpF_valg (by rfl) (fun w' hE hD => by have hc1 := Ext.cell hE HCA.out; have hc2 := Ext.cell hE HCB.out; unfold Yld; go_simp; exact ⟨Ext.refl _, rfl⟩) ?_)
        (try simp only [Act.put, List.setIfInBounds_toArray, List.set_cons_zero, List.set_cons_succ])
        (first | refine wpF_val rfl (fun w' hE hD => by have hc1 := Ext.cell hE HCA.out; have hc2 := Ext.cell hE HCB.out; unfold Yld; go_simp; exact ⟨Ext.refl _, rfl⟩) ?_ | refine wpF_valg (by rfl) (fun w' hE hD => by have hc1 := Ext.cell hE HCA.out; have hc2 := Ext.cell hE HCB.out; unfold Yld; go_simp; exact ⟨Ext.refl _, rfl⟩) ?_)
        (try simp only [Act.put, List.setIfInBounds_toArray, List.set_cons_zero, List.set_cons_succ])
        refine wpF_nil fun w8 hE hA => ?_
        have HX8 := Aside0.mk (HX.out.trans hE)
        simp only [List.drop_succ_cons, List.drop_zero]
        clear hA hE HX
        go_wp2_with fail
        go_roundw
        case rel => exact ⟨x + 1, rfl, by rw [HSU.out, Bool.true_and], ⟨by have := HLT.out; omega⟩, HX8⟩
        case measure => have := HLT.out; simp only [intOf]; omega
    · have hxe : x = 32 := by omega
      subst hxe
      obtain ⟨u, hu⟩ : ∃ u, u = sameF a b 32 := ⟨_, rfl⟩
      have HU := Aside0.mk (show u = decide (a = b) by rw [hu, sameF_eq a b HLA.out HLB.out])
      rw [show sameF a b (32 : Int).toNat = u from hu.symm]
      have HFE := Aside0.mk (HE.out.trans HX.out)
      have HA1 := Aside0.mk (HA.out.ext HX.out)
      have HB1 := Aside0.mk (HB.out.ext HX.out)
      clear hu HX g0 g1 hlt
      have HNE := Aside0.mk (And.intro (Nat.ne_of_lt HA1.out.lt) (Nat.ne_of_lt HB1.out.lt))
      go_wp2_with (first | ((with_reducible refine gate_load (ty := 26) rfl ?_); refine load_at rfl 26 _ rfl b1 0 rfl (nums .u8 a) _ (HA1.out.range 0 _ [] (by simp)) Tryd.underlying26 rfl HIA.out ?_) | ((with_reducible refine gate_store (ty := 26) rfl ?_); (refine store_at rfl 26 _ _ rfl wx.heap.size (nums .u8 a) rfl rfl _ 26 (Blk.new wx #[Value.int .u8 0, Value.int .u8 0, Value.int .u8 0, Value.int .u8 0, Value.int .u8 0, Value.int .u8 0, Value.int .u8 0, Value.int .u8 0, Value.int .u8 0, Value.int .u8 0, Value.int .u8 0, Value.int .u8 0, Value.int .u8 0, Value.int .u8 0, Value.int .u8 0, Value.int .u8 0, Value.int .u8 0, Value.int .u8 0, Value.int .u8 0, Value.int .u8 0, Value.int .u8 0, Value.int .u8 0, Value.int .u8 0, Value.int .u8 0, Value.int .u8 0, Value.int .u8 0, Value.int .u8 0, Value.int .u8 0, Value.int .u8 0, Value.int .u8 0, Value.int .u8 0, Value.int .u8 0] 26) HSA.out HIA.out (one_cells _ _) ?_)) | fail)
      intro w3 hW3 hB3
      have hx3 := hW3.ext ((Ext.refl wx).alloc _) (Nat.le_refl _)
      have HA3 := Aside0.mk (HA1.out.ext hx3)
      have HB3 := Aside0.mk (HB1.out.ext hx3)
      have HC3 := Aside0.mk hB3
      have HE3 := Aside0.mk (HFE.out.trans hx3)
      have HWE := Aside0.mk (HFE.out.size)
      generalize wx.heap.size = b3 at HC3 HNE HWE ⊢
      clear hW3 hB3 hx3 HA1 HB1 HFE
      go_wp2_with fail
      obtain ⟨p, hp, hp2⟩ : ∃ p : Nat, (p : Int) = pickT q 32 ∧ p < 32 := by
        have hr := pickT_range q 32 (by decide)
        exact ⟨(pickT q 32).toNat, Int.toNat_of_nonneg hr.1, by omega⟩
      have HPQ := Aside0.mk hp
      clear hp
      refine (pick_calls w3 q 32 (p : Int) HQR.out.1 HQR.out.2 (by decide) HPQ.out).mono ?_
      rintro e w4 ⟨rfl, hE4⟩
      have HX4 := Aside0.mk hE4
      clear hE4
      go_wp2_with fail
      refine (pick_calls w4 q 32 (p : Int) HQR.out.1 HQR.out.2 (by decide) HPQ.out).mono ?_
      rintro e w5 ⟨rfl, hE5⟩
      have HX5 := Aside0.mk (HX4.out.trans hE5)
      have HA5 := Aside0.mk (HA3.out.ext HX5.out)
      have HB5 := Aside0.mk (HB3.out.ext HX5.out)
      have HE5 := Aside0.mk (HE3.out.trans HX5.out)
      have hC5 := HC3.out.ext HX5.out
      have hcl := hC5.cell p (nums_cell a p (by rw [HLA.out]; exact hp2))
      have hfr := hC5.free p
      have hp3 : (p : Int) < 32 := by omega
      have hst := hC5.set p (.int .u8 (Go.bits .xor .u8 (rd a p) v))
      rw [nums_set] at hst
      have hw := Wrote.setCell w5 b3 p (.int .u8 (Go.bits .xor .u8 (rd a p) v))
      have HA6 := Aside0.mk (HA5.out.wrote hw HNE.out.1)
      have HB6 := Aside0.mk (HB5.out.wrote hw HNE.out.2)
      have HE6 := Aside0.mk (hw.ext HE5.out HWE.out)
      have HST := Aside0.mk hst
      clear hE5 hC5 hst hw HA5 HB5 HE5 HA3 HB3 HE3 HC3 HX4 HX5
      obtain ⟨W6, hW6⟩ : ∃ W6, W6 = w5.setCell ⟨b3, p, none⟩ (.int .u8 (Go.bits .xor .u8 (rd a p) v)) := ⟨_, rfl⟩
      rw [← hW6] at HA6 HB6 HE6 HST
      obtain ⟨ca, hca⟩ : ∃ ca, ca = a.set p (Go.bits .xor .u8 (rd a p) v) := ⟨_, rfl⟩
      rw [← hca] at HST
      have HCL := Aside0.mk (show ca.length = 32 by rw [hca, List.length_set, HLA.out])
      have HCB := Aside0.mk (show isB ca by
        rw [hca]
        have h1 := isB_rd HBA.out p
        exact isB_set HBA.out p _ (u8_xor0 (rd a p) v h1.1 h1.2 HV.out.1 HV.out.2).2)
      have HCD := Aside0.mk (show (v == 0) = decide (a = ca) by rw [hca, set_self a HBA.out p (by rw [HLA.out]; exact hp2) v HV.out.1 HV.out.2]; rfl)
      have HIC := Aside0.mk (show (Tryd.prog.info? 26).map (·.size) = some (nums .u8 ca).length by rw [nums_length, HCL.out]; kernel_rfl)
      have HW6 := Aside0.mk hW6
      clear hW6 hca
      have HC6 := HST
      clear HST
      go_wp2_with (first | ((with_reducible refine gate_load (ty := 26) rfl ?_); rw [← HW6.out]; refine load_at rfl 26 _ rfl b1 0 rfl (nums .u8 a) _ (HA6.out.range 0 _ [] (by simp)) Tryd.underlying26 rfl HIA.out ?_) | ((with_reducible refine gate_load (ty := 26) rfl ?_); refine load_at rfl 26 _ rfl b2 0 rfl (nums .u8 b) _ (HB6.out.range 0 _ [] (by simp)) Tryd.underlying26 rfl HIB.out ?_) | fail)
      refine (same_sum W6 a b u HLA.out HLB.out HBA.out HBB.out HU.out).mono ?_
      rintro e w7 ⟨rfl, hE7⟩
      have HA7 := Aside0.mk (HA6.out.ext hE7)
      have HB7 := Aside0.mk (HB6.out.ext hE7)
      have HC7 := Aside0.mk (HC6.out.ext hE7)
      have HE7 := Aside0.mk (HE6.out.trans hE7)
      clear hE7 HA6 HB6 HC6 HE6
      go_wp2_with (first | ((with_reducible refine gate_load (ty := 26) rfl ?_); refine load_at rfl 26 _ rfl b1 0 rfl (nums .u8 a) _ (HA7.out.range 0 _ [] (by simp)) Tryd.underlying26 rfl HIA.out ?_) | ((with_reducible refine gate_load (ty := 26) rfl ?_); refine load_at rfl 26 _ rfl b2 0 rfl (nums .u8 b) _ (HB7.out.range 0 _ [] (by simp)) Tryd.underlying26 rfl HIB.out ?_) | fail)
      refine (same_sum w7 b a u HLB.out HLA.out HBB.out HBA.out (by rw [HU.out]; exact decide_eq_decide.2 ⟨Eq.symm, Eq.symm⟩)).mono ?_
      rintro e w8 ⟨rfl, hE8⟩
      have HA8 := Aside0.mk (HA7.out.ext hE8)
      have HB8 := Aside0.mk (HB7.out.ext hE8)
      have HC8 := Aside0.mk (HC7.out.ext hE8)
      have HE8 := Aside0.mk (HE7.out.trans hE8)
      clear hE8 HA7 HB7 HC7 HE7
      go_wp2_with (first | ((with_reducible refine gate_load (ty := 26) rfl ?_); refine load_at rfl 26 _ rfl b1 0 rfl (nums .u8 a) _ (HA8.out.range 0 _ [] (by simp)) Tryd.underlying26 rfl HIA.out ?_) | fail)
      refine (same_sum w8 a a true HLA.out HLA.out HBA.out HBA.out (by simp)).mono ?_
      rintro e w9 ⟨rfl, hE9⟩
      have HA9 := Aside0.mk (HA8.out.ext hE9)
      have HB9 := Aside0.mk (HB8.out.ext hE9)
      have HC9 := Aside0.mk (HC8.out.ext hE9)
      have HE9 := Aside0.mk (HE8.out.trans hE9)
      clear hE9 HA8 HB8 HC8 HE8
      go_wp2_with (first | ((with_reducible refine gate_load (ty := 26) rfl ?_); refine load_at rfl 26 _ rfl b1 0 rfl (nums .u8 a) _ (HA9.out.range 0 _ [] (by simp)) Tryd.underlying26 rfl HIA.out ?_) | ((with_reducible refine gate_load (ty := 26) rfl ?_); refine load_at rfl 26 _ rfl b3 0 rfl (nums .u8 ca) _ (HC9.out.range 0 _ [] (by simp)) Tryd.underlying26 rfl HIC.out ?_) | fail)
      refine (same_sum w9 a ca (v == 0) HLA.out HCL.out HBA.out HCB.out HCD.out).mono ?_
      rintro e w10 ⟨rfl, hE10⟩
      have HA10 := Aside0.mk (HA9.out.ext hE10)
      have HB10 := Aside0.mk (HB9.out.ext hE10)
      have HC10 := Aside0.mk (HC9.out.ext hE10)
      have HE10 := Aside0.mk (HE9.out.trans hE10)
      clear hE10 HA9 HB9 HC9 HE9
      go_wp2_with fail
      refine (works_calls w10 (HT1.out.ext HE10.out) (Nat.le_trans H2.out HE10.out.size)).mono ?_
      rintro e w11 ⟨rfl, hE11⟩
      have HE11 := Aside0.mk (HE10.out.trans hE11)
      clear hE11 HE10
      go_wp2
      go_ret
      exact ⟨rfl, HE11.out⟩
end Go.Proofs.YtbnbncnmhhioeaaDoor.By
