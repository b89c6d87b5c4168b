/- Layer 8: CountKnown. -/
import Derived.Test.YtkgjcmolmogpdaaCr
import Derived.Test.YtkgjcmolmogpdaaL8a
namespace Go.Proofs.Ytkgjcmolmogpdaa.By
open Go.RowKit Go.Proofs.Ytkgjcmolmogpdaa.Reg Go.Proofs.YtkgjcmolmogpdaaW.PrintWords Go.Proofs.YtkgjcmolmogpdaaW.PrintLast Go.Proofs.YtkgjcmolmogpdaaW.PrintMore
set_option linter.unusedVariables false
set_option linter.unusedSimpArgs false


def knL : List Int := [-9223372036854775808, -1, 0, 1, 2, 5, 1048575, 1048576, 1048577, 1099511627776, 1099511627777, 1152921504606846976, 1152921504606846977, 9223372036854775807]
theorem knL_len : knL.length = 14 := rfl
theorem knL_in : ∀ y ∈ knL, -9223372036854775808 ≤ y ∧ y ≤ 9223372036854775807 := by decide
def opsL (y z : Int) : List (Int × Int) := [(0, y), (0, z), (1, z), (3, 1), (0, z), (0, 1073741824), (4, 0), (2, 0), (0, y), (9, 0), (0, 1125899906842624)]
def opsA (y z : Int) : Array Value := #[.int .i64 0, .int .i64 y, .int .i64 0, .int .i64 z, .int .i64 1, .int .i64 z, .int .i64 3, .int .i64 1, .int .i64 0, .int .i64 z, .int .i64 0, .int .i64 1073741824, .int .i64 4, .int .i64 0, .int .i64 2, .int .i64 0, .int .i64 0, .int .i64 y, .int .i64 9, .int .i64 0, .int .i64 0, .int .i64 1125899906842624]
def OPQ (y z : Int) (u : Value) (w : World) : Prop := ∃ b, u = .slice (some ⟨b, 0, none⟩) 11 11 ∧ Blk w b (opsA y z) 68
theorem OPQ.ext {y z : Int} {u : Value} {w w' : World} (h : OPQ y z u w) (he : Ext w w') : OPQ y z u w' := by
  obtain ⟨b, h1, h2⟩ := h
  exact ⟨b, h1, h2.ext he⟩
def opF (p : Int × Int) : List Value := [.int .i64 p.1, .int .i64 p.2]
theorem flat_at : ∀ (L : List (Int × Int)) (j : Nat) (p : Int × Int), L[j]? = some p → ∀ i, i < 2 → (L.flatMap opF)[j * 2 + i]? = (opF p)[i]?
  | [], j, p, h, i, hi => by simp at h
  | q :: L, 0, p, h, i, hi => by
    have e : q = p := by simpa using h
    subst e
    rw [List.flatMap_cons, Nat.zero_mul, Nat.zero_add, List.getElem?_append_left (by simpa [opF] using hi)]
  | q :: L, j + 1, p, h, i, hi => by
    rw [List.flatMap_cons, List.getElem?_append_right (by simp [opF]; omega)]
    have := flat_at L j p (by simpa using h) i hi
    rw [← this]
    congr 1
    simp [opF]
    omega
theorem blk_ops {w : World} {b : Nat} (L : List (Int × Int)) (h : Blk w b (L.flatMap opF).toArray 68) (hl : L.length ≤ 1000) : Kd.C kOq w (some ⟨b, 0, none⟩) L.length L := by
  refine ⟨rfl, by omega, fun _ => ⟨_, rfl, fun j p hp => ⟨opF p, rfl, ⟨[.int .i64 p.1], [.int .i64 p.2], rfl, rfl, rfl⟩, fun i u hu => ?_⟩⟩⟩
  have hi : i < 2 := (List.getElem?_eq_some_iff.1 hu).1
  have hf := flat_at L j p hp i hi
  rw [hu] at hf
  have hc := h.cell (j * 2 + i) (v := u) (by simpa using hf)
  rw [show kOq.sz = 2 from rfl]
  unfold Addr.add
  split
  · rename_i h0
    rw [h0] at hc
    exact hc
  · rw [Nat.zero_add]
    exact hc
theorem opq_calls {y z : Int} {u : Value} {w : World} (h : OPQ y z u w) (hz : z ≤ 9223372036854775807) (hy : y ≤ 9223372036854775807) : Calls Try.prog 12 #[u] w fun e w' => e = .returned (.bool true) ∧ Ext w w' := by
  obtain ⟨b, rfl, hb⟩ := h
  refine runs_calls w (some ⟨b, 0, none⟩) 11 11 (opsL y z) rfl (blk_ops (opsL y z) hb (by simp [opsL])) (Nat.le_refl _) (fun p hp => ?_)
  unfold opsL at hp
  simp only [List.mem_cons, List.not_mem_nil, or_false] at hp
  rcases hp with rfl | rfl | rfl | rfl | rfl | rfl | rfl | rfl | rfl | rfl | rfl <;> first | exact hy | exact hz | exact (by decide)
set_option maxRecDepth 100000 in
set_option maxHeartbeats 2000000 in
theorem cknown_calls (w : World) : Calls Try.prog 13 #[] w fun e w' => e = .returned (.bool true) ∧ Ext w w' := by
  have HB := Aside0.mk (show Blk (w.alloc (.cells #[.int .i64 (-9223372036854775808), .int .i64 (-1), .int .i64 0, .int .i64 1, .int .i64 2, .int .i64 5, .int .i64 1048575, .int .i64 1048576, .int .i64 1048577, .int .i64 1099511627776, .int .i64 1099511627777, .int .i64 1152921504606846976, .int .i64 1152921504606846977, .int .i64 9223372036854775807] 3)) w.heap.size (knL.map (Value.int .i64)).toArray 3 from Blk.new w _ 3)
  have HE0 := Aside0.mk ((Ext.refl w).alloc (.cells #[.int .i64 (-9223372036854775808), .int .i64 (-1), .int .i64 0, .int .i64 1, .int .i64 2, .int .i64 5, .int .i64 1048575, .int .i64 1048576, .int .i64 1048577, .int .i64 1099511627776, .int .i64 1099511627777, .int .i64 1152921504606846976, .int .i64 1152921504606846977, .int .i64 9223372036854775807] 3))
  go_enter Try.func13, Try.ntmps13
  go_wp2_with fail
  obtain ⟨w1, hw1⟩ : ∃ w1, w1 = w.alloc (.cells #[.int .i64 (-9223372036854775808), .int .i64 (-1), .int .i64 0, .int .i64 1, .int .i64 2, .int .i64 5, .int .i64 1048575, .int .i64 1048576, .int .i64 1048577, .int .i64 1099511627776, .int .i64 1099511627777, .int .i64 1152921504606846976, .int .i64 1152921504606846977, .int .i64 9223372036854775807] 3) := ⟨_, rfl⟩
  obtain ⟨b, hb⟩ : ∃ b, b = w.heap.size := ⟨_, rfl⟩
  rw [← hw1] at HB HE0 ⊢
  rw [← hb] at HB ⊢
  clear hw1 hb
  go_loopw [2] (fun i wr => ∃ (x : Nat), i = .int .i64 x ∧ Aside0 (x ≤ 14) ∧ Aside0 (Ext w1 wr)) (fun i _ => 14 - (intOf i).toNat)
  case atStart => exact ⟨0, rfl, ⟨Nat.zero_le _⟩, ⟨Ext.refl _⟩⟩
  case round =>
    obtain ⟨x, rfl, HX, HE⟩ := hrel
    have g0 := HX.out
    obtain ⟨wx, hwx⟩ : ∃ wx : World, wx = wr := ⟨_, rfl⟩
    subst hwx
    by_cases hlt : x < 14
    · have HXL := Aside0.mk hlt
      have hdj : (x : Int) < 14 := by omega
      have hxe : x < knL.length := hlt
      have HYI := Aside0.mk (knL_in _ (List.getElem_mem hxe))
      have HYC := Aside0.mk (HB.out.cell x (v := .int .i64 knL[x]) (by simp [hxe]))
      generalize knL[x] = y at HYI HYC
      clear hxe
      go_wp2_with fail
      go_loopw [3] (fun j wr2 => ∃ (z : Nat), j = .int .i64 z ∧ Aside0 (z ≤ 14) ∧ Aside0 (Ext w1 wr2)) (fun j _ => 14 - (intOf j).toNat)
      case atStart => exact ⟨0, rfl, ⟨Nat.zero_le _⟩, HE⟩
      case round =>
        clear HE
        obtain ⟨zz, rfl, HZ, HE⟩ := hrel
        have g1 := HZ.out
        obtain ⟨wz, hwz⟩ : ∃ wz : World, wz = wr := ⟨_, rfl⟩
        subst hwz
        by_cases hzlt : zz < 14
        · have HZL := Aside0.mk hzlt
          have hdz : (zz : Int) < 14 := by omega
          have hxe : zz < knL.length := hzlt
          have HZI := Aside0.mk (knL_in _ (List.getElem_mem hxe))
          have HZC := Aside0.mk (HB.out.cell zz (v := .int .i64 knL[zz]) (by simp [hxe]))
          generalize knL[zz] = z at HZI HZC
          clear hxe
          have cy := Ext.cell HE.out HYC.out
          have cz := Ext.cell HE.out HZC.out
          go_wp2_with fail
          apply wp_region_facts 70 [RF.val _, RF.val _, RF.val _, RF.val _, RF.val _, RF.val _, RF.val _, RF.val _, RF.val _, RF.val _, RF.val _, RF.val _, RF.val _, RF.val _, RF.val _, RF.val _, RF.val _, RF.val _, RF.val _, RF.val _, RF.val _, RF.val _, RF.val _, RF.val _, RF.val _, RF.val _, RF.val _, RF.val _, RF.val _, RF.val _, RF.val _, RF.val _, RF.val _, RF.val _, RF.val _, RF.val _, RF.val _, RF.val _, RF.val _, RF.val _, RF.val _, RF.val _, RF.val _, RF.val _, RF.val _, RF.val _, RF.val _, RF.val _, RF.val _, RF.val _, RF.val _, RF.val _, RF.val _, RF.val _, RF.val _, RF.val _, RF.val _, RF.val _, RF.val _, RF.val _, RF.val _, RF.val _, RF.val _, RF.val _, RF.val _, RF.val _, RF.fact (fun u w => OPQ y z u w), RF.val _, RF.val _, RF.val _]
          case hm => kernel_rfl
          case hB => kernel_rfl
          simp only [List.take_succ_cons, List.take_zero, List.zip_cons_cons, List.zip_nil_left]
          (first | refine wpF_val rfl (fun w' hE hD => by unfold Yld; go_simp; exact ⟨Ext.refl _, rfl⟩) ?_ | refine wpF_valg (by rfl) (fun w' hE hD => by unfold Yld; go_simp; exact ⟨Ext.refl _, rfl⟩) ?_)
          (try simp only [Act.put, List.setIfInBounds_toArray, List.set_cons_zero, List.set_cons_succ])
          (first | refine wpF_val rfl (fun w' hE hD => by unfold Yld; go_simp; exact ⟨Ext.refl _, rfl⟩) ?_ | refine wpF_valg (by rfl) (fun w' hE hD => by unfold Yld; go_simp; exact ⟨Ext.refl _, rfl⟩) ?_)
          (try simp only [Act.put, List.setIfInBounds_toArray, List.set_cons_zero, List.set_cons_succ])
          (first | refine wpF_val rfl (fun w' hE hD => by unfold Yld; go_simp; exact ⟨Ext.refl _, rfl⟩) ?_ | refine wpF_valg (by rfl) (fun w' hE hD => by unfold Yld; go_simp; exact ⟨Ext.refl _, rfl⟩) ?_)
          (try simp only [Act.put, List.setIfInBounds_toArray, List.set_cons_zero, List.set_cons_succ])
          (first | refine wpF_val rfl (fun w' hE hD => by have hcy := Ext.cell hE cy; unfold Yld; go_simp; exact ⟨Ext.refl _, rfl⟩) ?_ | refine wpF_valg (by rfl) (fun w' hE hD => by have hcy := Ext.cell hE cy; unfold Yld; go_simp; exact ⟨Ext.refl _, rfl⟩) ?_)
          (try simp only [Act.put, List.setIfInBounds_toArray, List.set_cons_zero, List.set_cons_succ])
          (first | refine wpF_val rfl (fun w' hE hD => by unfold Yld; go_simp; exact ⟨Ext.refl _, rfl⟩) ?_ | refine wpF_valg (by rfl) (fun w' hE hD => by unfold Yld; go_simp; exact ⟨Ext.refl _, rfl⟩) ?_)
          (try simp only [Act.put, List.setIfInBounds_toArray, List.set_cons_zero, List.set_cons_succ])
          (first | refine wpF_val rfl (fun w' hE hD => by unfold Yld; go_simp; exact ⟨Ext.refl _, rfl⟩) ?_ | refine wpF_valg (by rfl) (fun w' hE hD => by unfold Yld; go_simp; exact ⟨Ext.refl _, rfl⟩) ?_)
          (try simp only [Act.put, List.setIfInBounds_toArray, List.set_cons_zero, List.set_cons_succ])
          (first | refine wpF_val rfl (fun w' hE hD => by unfold Yld; go_simp; exact ⟨Ext.refl _, rfl⟩) ?_ | refine wpF_valg (by rfl) (fun w' hE hD => by unfold Yld; go_simp; exact ⟨Ext.refl _, rfl⟩) ?_)
          (try simp only [Act.put, List.setIfInBounds_toArray, List.set_cons_zero, List.set_cons_succ])
          (first | refine wpF_val rfl (fun w' hE hD => by have hcz := Ext.cell hE cz; unfold Yld; go_simp; exact ⟨Ext.refl _, rfl⟩) ?_ | refine wpF_valg (by rfl) (fun w' hE hD => by have hcz := Ext.cell hE cz; unfold Yld; go_simp; exact ⟨Ext.refl _, rfl⟩) ?_)
          (try simp only [Act.put, List.setIfInBounds_toArray, List.set_cons_zero, List.set_cons_succ])
          (first | refine wpF_val rfl (fun w' hE hD => by unfold Yld; go_simp; exact ⟨Ext.refl _, rfl⟩) ?_ | refine wpF_valg (by rfl) (fun w' hE hD => by unfold Yld; go_simp; exact ⟨Ext.refl _, rfl⟩) ?_)
          (try simp only [Act.put, List.setIfInBounds_toArray, List.set_cons_zero, List.set_cons_succ])
          (first | refine wpF_val rfl (fun w' hE hD => by unfold Yld; go_simp; exact ⟨Ext.refl _, rfl⟩) ?_ | refine wpF_valg (by rfl) (fun w' hE hD => by unfold Yld; go_simp; exact ⟨Ext.refl _, rfl⟩) ?_)
          (try simp only [Act.put, List.setIfInBounds_toArray, List.set_cons_zero, List.set_cons_succ])
          (first | refine wpF_val rfl (fun w' hE hD => by unfold Yld; go_simp; exact ⟨Ext.refl _, rfl⟩) ?_ | refine wpF_valg (by rfl) (fun w' hE hD => by unfold Yld; go_simp; exact ⟨Ext.refl _, rfl⟩) ?_)
          (try simp only [Act.put, List.setIfInBounds_toArray, List.set_cons_zero, List.set_cons_succ])
          (first | refine wpF_val rfl (fun w' hE hD => by have hcy := Ext.cell hE cy; unfold Yld; go_simp; exact ⟨Ext.refl _, rfl⟩) ?_ | refine wpF_valg (by rfl) (fun w' hE hD => by have hcy := Ext.cell hE cy; unfold Yld; go_simp; exact ⟨Ext.refl _, rfl⟩) ?_)
          (try simp only [Act.put, List.setIfInBounds_toArray, List.set_cons_zero, List.set_cons_succ])
          (first | refine wpF_val rfl (fun w' hE hD => by unfold Yld; go_simp; exact (cmakes_calls w' y z y HYI.out.2).mono fun e w2 h => ⟨_, h.1, h.2, rfl⟩) ?_ | refine wpF_valg (by rfl) (fun w' hE hD => by unfold Yld; go_simp; exact (cmakes_calls w' y z y HYI.out.2).mono fun e w2 h => ⟨_, h.1, h.2, rfl⟩) ?_)
          (try simp only [Act.put, List.setIfInBounds_toArray, List.set_cons_zero, List.set_cons_succ])
          (first | refine wpF_val rfl (fun w' hE hD => by unfold Yld; go_simp; exact ⟨Ext.refl _, rfl⟩) ?_ | refine wpF_valg (by rfl) (fun w' hE hD => by unfold Yld; go_simp; exact ⟨Ext.refl _, rfl⟩) ?_)
          (try simp only [Act.put, List.setIfInBounds_toArray, List.set_cons_zero, List.set_cons_succ])
          (first | refine wpF_val rfl (fun w' hE hD => by unfold Yld; go_simp; exact ⟨Ext.refl _, rfl⟩) ?_ | refine wpF_valg (by rfl) (fun w' hE hD => by unfold Yld; go_simp; exact ⟨Ext.refl _, rfl⟩) ?_)
          (try simp only [Act.put, List.setIfInBounds_toArray, List.set_cons_zero, List.set_cons_succ])
          (first | refine wpF_val rfl (fun w' hE hD => by unfold Yld; go_simp; exact ⟨Ext.refl _, rfl⟩) ?_ | refine wpF_valg (by rfl) (fun w' hE hD => by unfold Yld; go_simp; exact ⟨Ext.refl _, rfl⟩) ?_)
          (try simp only [Act.put, List.setIfInBounds_toArray, List.set_cons_zero, List.set_cons_succ])
          (first | refine wpF_val rfl (fun w' hE hD => by unfold Yld; go_simp; exact ⟨Ext.refl _, rfl⟩) ?_ | refine wpF_valg (by rfl) (fun w' hE hD => by unfold Yld; go_simp; exact ⟨Ext.refl _, rfl⟩) ?_)
          (try simp only [Act.put, List.setIfInBounds_toArray, List.set_cons_zero, List.set_cons_succ])
          (first | refine wpF_val rfl (fun w' hE hD => by unfold Yld; go_simp; exact ⟨Ext.refl _, rfl⟩) ?_ | refine wpF_valg (by rfl) (fun w' hE hD => by unfold Yld; go_simp; exact ⟨Ext.refl _, rfl⟩) ?_)
          (try simp only [Act.put, List.setIfInBounds_toArray, List.set_cons_zero, List.set_cons_succ])
          (first | refine wpF_val rfl (fun w' hE hD => by have hcy := Ext.cell hE cy; unfold Yld; go_simp; exact ⟨Ext.refl _, rfl⟩) ?_ | refine wpF_valg (by rfl) (fun w' hE hD => by have hcy := Ext.cell hE cy; unfold Yld; go_simp; exact ⟨Ext.refl _, rfl⟩) ?_)
          (try simp only [Act.put, List.setIfInBounds_toArray, List.set_cons_zero, List.set_cons_succ])
          (first | refine wpF_val rfl (fun w' hE hD => by unfold Yld; go_simp; exact ⟨Ext.refl _, rfl⟩) ?_ | refine wpF_valg (by rfl) (fun w' hE hD => by unfold Yld; go_simp; exact ⟨Ext.refl _, rfl⟩) ?_)
          (try simp only [Act.put, List.setIfInBounds_toArray, List.set_cons_zero, List.set_cons_succ])
          (first | refine wpF_val rfl (fun w' hE hD => by unfold Yld; go_simp; exact ⟨Ext.refl _, rfl⟩) ?_ | refine wpF_valg (by rfl) (fun w' hE hD => by unfold Yld; go_simp; exact ⟨Ext.refl _, rfl⟩) ?_)
          (try simp only [Act.put, List.setIfInBounds_toArray, List.set_cons_zero, List.set_cons_succ])
          (first | refine wpF_val rfl (fun w' hE hD => by unfold Yld; go_simp; exact ⟨Ext.refl _, rfl⟩) ?_ | refine wpF_valg (by rfl) (fun w' hE hD => by unfold Yld; go_simp; exact ⟨Ext.refl _, rfl⟩) ?_)
          (try simp only [Act.put, List.setIfInBounds_toArray, List.set_cons_zero, List.set_cons_succ])
          (first | refine wpF_val rfl (fun w' hE hD => by have hcz := Ext.cell hE cz; unfold Yld; go_simp; exact ⟨Ext.refl _, rfl⟩) ?_ | refine wpF_valg (by rfl) (fun w' hE hD => by have hcz := Ext.cell hE cz; unfold Yld; go_simp; exact ⟨Ext.refl _, rfl⟩) ?_)
          (try simp only [Act.put, List.setIfInBounds_toArray, List.set_cons_zero, List.set_cons_succ])
          (first | refine wpF_val rfl (fun w' hE hD => by unfold Yld; go_simp; exact ⟨Ext.refl _, rfl⟩) ?_ | refine wpF_valg (by rfl) (fun w' hE hD => by unfold Yld; go_simp; exact ⟨Ext.refl _, rfl⟩) ?_)
          (try simp only [Act.put, List.setIfInBounds_toArray, List.set_cons_zero, List.set_cons_succ])
          (first | refine wpF_val rfl (fun w' hE hD => by unfold Yld; go_simp; exact ⟨Ext.refl _, rfl⟩) ?_ | refine wpF_valg (by rfl) (fun w' hE hD => by unfold Yld; go_simp; exact ⟨Ext.refl _, rfl⟩) ?_)
          (try simp only [Act.put, List.setIfInBounds_toArray, List.set_cons_zero, List.set_cons_succ])
          (first | refine wpF_val rfl (fun w' hE hD => by unfold Yld; go_simp; exact ⟨Ext.refl _, rfl⟩) ?_ | refine wpF_valg (by rfl) (fun w' hE hD => by unfold Yld; go_simp; exact ⟨Ext.refl _, rfl⟩) ?_)
          (try simp only [Act.put, List.setIfInBounds_toArray, List.set_cons_zero, List.set_cons_succ])
          (first | refine wpF_val rfl (fun w' hE hD => by have hcz := Ext.cell hE cz; unfold Yld; go_simp; exact ⟨Ext.refl _, rfl⟩) ?_ | refine wpF_valg (by rfl) (fun w' hE hD => by have hcz := Ext.cell hE cz; unfold Yld; go_simp; exact ⟨Ext.refl _, rfl⟩) ?_)
          (try simp only [Act.put, List.setIfInBounds_toArray, List.set_cons_zero, List.set_cons_succ])
          (first | refine wpF_val rfl (fun w' hE hD => by unfold Yld; go_simp; exact ⟨Ext.refl _, rfl⟩) ?_ | refine wpF_valg (by rfl) (fun w' hE hD => by unfold Yld; go_simp; exact ⟨Ext.refl _, rfl⟩) ?_)
          (try simp only [Act.put, List.setIfInBounds_toArray, List.set_cons_zero, List.set_cons_succ])
          (first | refine wpF_val rfl (fun w' hE hD => by unfold Yld; go_simp; exact ⟨Ext.refl _, rfl⟩) ?_ | refine wpF_valg (by rfl) (fun w' hE hD => by unfold Yld; go_simp; exact ⟨Ext.refl _, rfl⟩) ?_)
          (try simp only [Act.put, List.setIfInBounds_toArray, List.set_cons_zero, List.set_cons_succ])
          (first | refine wpF_val rfl (fun w' hE hD => by unfold Yld; go_simp; exact ⟨Ext.refl _, rfl⟩) ?_ | refine wpF_valg (by rfl) (fun w' hE hD => by unfold Yld; go_simp; exact ⟨Ext.refl _, rfl⟩) ?_)
          (try simp only [Act.put, List.setIfInBounds_toArray, List.set_cons_zero, List.set_cons_succ])
          (first | refine wpF_val rfl (fun w' hE hD => by have hcy := Ext.cell hE cy; unfold Yld; go_simp; exact ⟨Ext.refl _, rfl⟩) ?_ | refine wpF_valg (by rfl) (fun w' hE hD => by have hcy := Ext.cell hE cy; unfold Yld; go_simp; exact ⟨Ext.refl _, rfl⟩) ?_)
          (try simp only [Act.put, List.setIfInBounds_toArray, List.set_cons_zero, List.set_cons_succ])
          (first | refine wpF_val rfl (fun w' hE hD => by unfold Yld; go_simp; exact (orders_calls w' y z z y).mono fun e w2 h => ⟨_, h.1, h.2, rfl⟩) ?_ | refine wpF_valg (by rfl) (fun w' hE hD => by unfold Yld; go_simp; exact (orders_calls w' y z z y).mono fun e w2 h => ⟨_, h.1, h.2, rfl⟩) ?_)
          (try simp only [Act.put, List.setIfInBounds_toArray, List.set_cons_zero, List.set_cons_succ])
          (first | refine wpF_val rfl (fun w' hE hD => by unfold Yld; go_simp; exact ⟨Ext.refl _, rfl⟩) ?_ | refine wpF_valg (by rfl) (fun w' hE hD => by unfold Yld; go_simp; exact ⟨Ext.refl _, rfl⟩) ?_)
          (try simp only [Act.put, List.setIfInBounds_toArray, List.set_cons_zero, List.set_cons_succ])
          (first | refine wpF_val rfl (fun w' hE hD => by unfold Yld; go_simp; exact ⟨Ext.refl _, rfl⟩) ?_ | refine wpF_valg (by rfl) (fun w' hE hD => by unfold Yld; go_simp; exact ⟨Ext.refl _, rfl⟩) ?_)
          (try simp only [Act.put, List.setIfInBounds_toArray, List.set_cons_zero, List.set_cons_succ])
          (first | refine wpF_val rfl (fun w' hE hD => by unfold Yld; go_simp; exact ⟨Ext.refl _, rfl⟩) ?_ | refine wpF_valg (by rfl) (fun w' hE hD => by unfold Yld; go_simp; exact ⟨Ext.refl _, rfl⟩) ?_)
          (try simp only [Act.put, List.setIfInBounds_toArray, List.set_cons_zero, List.set_cons_succ])
          (first | refine wpF_val rfl (fun w' hE hD => by unfold Yld; go_simp; exact ⟨Ext.refl _, rfl⟩) ?_ | refine wpF_valg (by rfl) (fun w' hE hD => by unfold Yld; go_simp; exact ⟨Ext.refl _, rfl⟩) ?_)
          (try simp only [Act.put, List.setIfInBounds_toArray, List.set_cons_zero, List.set_cons_succ])
          (first | refine wpF_val rfl (fun w' hE hD => by unfold Yld; go_simp; exact ⟨Ext.refl _, rfl⟩) ?_ | refine wpF_valg (by rfl) (fun w' hE hD => by unfold Yld; go_simp; exact ⟨Ext.refl _, rfl⟩) ?_)
          (try simp only [Act.put, List.setIfInBounds_toArray, List.set_cons_zero, List.set_cons_succ])
          (first | refine wpF_val rfl (fun w' hE hD => by unfold Yld; go_simp; exact ⟨Ext.refl _, rfl⟩) ?_ | refine wpF_valg (by rfl) (fun w' hE hD => by unfold Yld; go_simp; exact ⟨Ext.refl _, rfl⟩) ?_)
          (try simp only [Act.put, List.setIfInBounds_toArray, List.set_cons_zero, List.set_cons_succ])
          (first | refine wpF_val rfl (fun w' hE hD => by have hcy := Ext.cell hE cy; unfold Yld; go_simp; exact ⟨Ext.refl _, rfl⟩) ?_ | refine wpF_valg (by rfl) (fun w' hE hD => by have hcy := Ext.cell hE cy; unfold Yld; go_simp; exact ⟨Ext.refl _, rfl⟩) ?_)
          (try simp only [Act.put, List.setIfInBounds_toArray, List.set_cons_zero, List.set_cons_succ])
          (first | refine wpF_val rfl (fun w' hE hD => by unfold Yld; go_simp; exact ⟨Ext.refl _, rfl⟩) ?_ | refine wpF_valg (by rfl) (fun w' hE hD => by unfold Yld; go_simp; exact ⟨Ext.refl _, rfl⟩) ?_)
          (try simp only [Act.put, List.setIfInBounds_toArray, List.set_cons_zero, List.set_cons_succ])
          (first | refine wpF_val rfl (fun w' hE hD => by unfold Yld; go_simp; exact ⟨Ext.refl _, rfl⟩) ?_ | refine wpF_valg (by rfl) (fun w' hE hD => by unfold Yld; go_simp; exact ⟨Ext.refl _, rfl⟩) ?_)
          (try simp only [Act.put, List.setIfInBounds_toArray, List.set_cons_zero, List.set_cons_succ])
          (first | refine wpF_val rfl (fun w' hE hD => by unfold Yld; go_simp; exact ⟨Ext.refl _, rfl⟩) ?_ | refine wpF_valg (by rfl) (fun w' hE hD => by unfold Yld; go_simp; exact ⟨Ext.refl _, rfl⟩) ?_)
          (try simp only [Act.put, List.setIfInBounds_toArray, List.set_cons_zero, List.set_cons_succ])
          (first | refine wpF_val rfl (fun w' hE hD => by unfold Yld; go_simp; exact ⟨Ext.refl _, rfl⟩) ?_ | refine wpF_valg (by rfl) (fun w' hE hD => by unfold Yld; go_simp; exact ⟨Ext.refl _, rfl⟩) ?_)
          (try simp only [Act.put, List.setIfInBounds_toArray, List.set_cons_zero, List.set_cons_succ])
          (first | refine wpF_val rfl (fun w' hE hD => by have hcz := Ext.cell hE cz; unfold Yld; go_simp; exact ⟨Ext.refl _, rfl⟩) ?_ | refine wpF_valg (by rfl) (fun w' hE hD => by have hcz := Ext.cell hE cz; unfold Yld; go_simp; exact ⟨Ext.refl _, rfl⟩) ?_)
          (try simp only [Act.put, List.setIfInBounds_toArray, List.set_cons_zero, List.set_cons_succ])
          (first | refine wpF_val rfl (fun w' hE hD => by unfold Yld; go_simp; exact ⟨Ext.refl _, rfl⟩) ?_ | refine wpF_valg (by rfl) (fun w' hE hD => by unfold Yld; go_simp; exact ⟨Ext.refl _, rfl⟩) ?_)
          (try simp only [Act.put, List.setIfInBounds_toArray, List.set_cons_zero, List.set_cons_succ])
          (first | refine wpF_val rfl (fun w' hE hD => by unfold Yld; go_simp; exact ⟨Ext.refl _, rfl⟩) ?_ | refine wpF_valg (by rfl) (fun w' hE hD => by unfold Yld; go_simp; exact ⟨Ext.refl _, rfl⟩) ?_)
          (try simp only [Act.put, List.setIfInBounds_toArray, List.set_cons_zero, List.set_cons_succ])
          (first | refine wpF_val rfl (fun w' hE hD => by unfold Yld; go_simp; exact ⟨Ext.refl _, rfl⟩) ?_ | refine wpF_valg (by rfl) (fun w' hE hD => by unfold Yld; go_simp; exact ⟨Ext.refl _, rfl⟩) ?_)
          (try simp only [Act.put, List.setIfInBounds_toArray, List.set_cons_zero, List.set_cons_succ])
          (first | refine wpF_val rfl (fun w' hE hD => by unfold Yld; go_simp; exact ⟨Ext.refl _, rfl⟩) ?_ | refine wpF_valg (by rfl) (fun w' hE hD => by unfold Yld; go_simp; exact ⟨Ext.refl _, rfl⟩) ?_)
          (try simp only [Act.put, List.setIfInBounds_toArray, List.set_cons_zero, List.set_cons_succ])
          (first | refine wpF_val rfl (fun w' hE hD => by have hcz := Ext.cell hE cz; unfold Yld; go_simp; exact ⟨Ext.refl _, rfl⟩) ?_ | refine wpF_valg (by rfl) (fun w' hE hD => by have hcz := Ext.cell hE cz; unfold Yld; go_simp; exact ⟨Ext.refl _, rfl⟩) ?_)
          (try simp only [Act.put, List.setIfInBounds_toArray, List.set_cons_zero, List.set_cons_succ])
          (first | refine wpF_val rfl (fun w' hE hD => by unfold Yld; go_simp; exact ⟨Ext.refl _, rfl⟩) ?_ | refine wpF_valg (by rfl) (fun w' hE hD => by unfold Yld; go_simp; exact ⟨Ext.refl _, rfl⟩) ?_)
          (try simp only [Act.put, List.setIfInBounds_toArray, List.set_cons_zero, List.set_cons_succ])
          (first | refine wpF_val rfl (fun w' hE hD => by unfold Yld; go_simp; exact ⟨Ext.refl _, rfl⟩) ?_ | refine wpF_valg (by rfl) (fun w' hE hD => by unfold Yld; go_simp; exact ⟨Ext.refl _, rfl⟩) ?_)
          (try simp only [Act.put, List.setIfInBounds_toArray, List.set_cons_zero, List.set_cons_succ])
          (first | refine wpF_val rfl (fun w' hE hD => by unfold Yld; go_simp; exact ⟨Ext.refl _, rfl⟩) ?_ | refine wpF_valg (by rfl) (fun w' hE hD => by unfold Yld; go_simp; exact ⟨Ext.refl _, rfl⟩) ?_)
          (try simp only [Act.put, List.setIfInBounds_toArray, List.set_cons_zero, List.set_cons_succ])
          (first | refine wpF_val rfl (fun w' hE hD => by unfold Yld; go_simp; exact ⟨Ext.refl _, rfl⟩) ?_ | refine wpF_valg (by rfl) (fun w' hE hD => by unfold Yld; go_simp; exact ⟨Ext.refl _, rfl⟩) ?_)
          (try simp only [Act.put, List.setIfInBounds_toArray, List.set_cons_zero, List.set_cons_succ])
          (first | refine wpF_val rfl (fun w' hE hD => by unfold Yld; go_simp; exact ⟨Ext.refl _, rfl⟩) ?_ | refine wpF_valg (by rfl) (fun w' hE hD => by unfold Yld; go_simp; exact ⟨Ext.refl _, rfl⟩) ?_)
          (try simp only [Act.put, List.setIfInBounds_toArray, List.set_cons_zero, List.set_cons_succ])
          (first | refine wpF_val rfl (fun w' hE hD => by have hcz := Ext.cell hE cz; unfold Yld; go_simp; exact ⟨Ext.refl _, rfl⟩) ?_ | refine wpF_valg (by rfl) (fun w' hE hD => by have hcz := Ext.cell hE cz; unfold Yld; go_simp; exact ⟨Ext.refl _, rfl⟩) ?_)
          (try simp only [Act.put, List.setIfInBounds_toArray, List.set_cons_zero, List.set_cons_succ])
          (first | refine wpF_val rfl (fun w' hE hD => by unfold Yld; go_simp; exact ⟨Ext.refl _, rfl⟩) ?_ | refine wpF_valg (by rfl) (fun w' hE hD => by unfold Yld; go_simp; exact ⟨Ext.refl _, rfl⟩) ?_)
          (try simp only [Act.put, List.setIfInBounds_toArray, List.set_cons_zero, List.set_cons_succ])
          (first | refine wpF_val rfl (fun w' hE hD => by unfold Yld; go_simp; exact ⟨Ext.refl _, rfl⟩) ?_ | refine wpF_valg (by rfl) (fun w' hE hD => by unfold Yld; go_simp; exact ⟨Ext.refl _, rfl⟩) ?_)
          (try simp only [Act.put, List.setIfInBounds_toArray, List.set_cons_zero, List.set_cons_succ])
          (first | refine wpF_val rfl (fun w' hE hD => by unfold Yld; go_simp; exact ⟨Ext.refl _, rfl⟩) ?_ | refine wpF_valg (by rfl) (fun w' hE hD => by unfold Yld; go_simp; exact ⟨Ext.refl _, rfl⟩) ?_)
          (try simp only [Act.put, List.setIfInBounds_toArray, List.set_cons_zero, List.set_cons_succ])
          (first | refine wpF_val rfl (fun w' hE hD => by unfold Yld; go_simp; exact ⟨Ext.refl _, rfl⟩) ?_ | refine wpF_valg (by rfl) (fun w' hE hD => by unfold Yld; go_simp; exact ⟨Ext.refl _, rfl⟩) ?_)
          (try simp only [Act.put, List.setIfInBounds_toArray, List.set_cons_zero, List.set_cons_succ])
          (first | refine wpF_val rfl (fun w' hE hD => by unfold Yld; go_simp; exact ⟨Ext.refl _, rfl⟩) ?_ | refine wpF_valg (by rfl) (fun w' hE hD => by unfold Yld; go_simp; exact ⟨Ext.refl _, rfl⟩) ?_)
          (try simp only [Act.put, List.setIfInBounds_toArray, List.set_cons_zero, List.set_cons_succ])
          (first | refine wpF_val rfl (fun w' hE hD => by unfold Yld; go_simp; exact ⟨Ext.refl _, rfl⟩) ?_ | refine wpF_valg (by rfl) (fun w' hE hD => by unfold Yld; go_simp; exact ⟨Ext.refl _, rfl⟩) ?_)
          (try simp only [Act.put, List.setIfInBounds_toArray, List.set_cons_zero, List.set_cons_succ])
          (first | refine wpF_val rfl (fun w' hE hD => by unfold Yld; go_simp; exact ⟨Ext.refl _, rfl⟩) ?_ | refine wpF_valg (by rfl) (fun w' hE hD => by unfold Yld; go_simp; exact ⟨Ext.refl _, rfl⟩) ?_)
          (try simp only [Act.put, List.setIfInBounds_toArray, List.set_cons_zero, List.set_cons_succ])
          (first | refine wpF_val rfl (fun w' hE hD => by have hcy := Ext.cell hE cy; unfold Yld; go_simp; exact ⟨Ext.refl _, rfl⟩) ?_ | refine wpF_valg (by rfl) (fun w' hE hD => by have hcy := Ext.cell hE cy; unfold Yld; go_simp; exact ⟨Ext.refl _, rfl⟩) ?_)
          (try simp only [Act.put, List.setIfInBounds_toArray, List.set_cons_zero, List.set_cons_succ])
          (first | refine wpF_val rfl (fun w' hE hD => by unfold Yld; go_simp; exact ⟨Ext.refl _, rfl⟩) ?_ | refine wpF_valg (by rfl) (fun w' hE hD => by unfold Yld; go_simp; exact ⟨Ext.refl _, rfl⟩) ?_)
          (try simp only [Act.put, List.setIfInBounds_toArray, List.set_cons_zero, List.set_cons_succ])
          (first | refine wpF_val rfl (fun w' hE hD => by unfold Yld; go_simp; exact ⟨Ext.refl _, rfl⟩) ?_ | refine wpF_valg (by rfl) (fun w' hE hD => by unfold Yld; go_simp; exact ⟨Ext.refl _, rfl⟩) ?_)
          (try simp only [Act.put, List.setIfInBounds_toArray, List.set_cons_zero, List.set_cons_succ])
          (first | refine wpF_val rfl (fun w' hE hD => by unfold Yld; go_simp; exact ⟨Ext.refl _, rfl⟩) ?_ | refine wpF_valg (by rfl) (fun w' hE hD => by unfold Yld; go_simp; exact ⟨Ext.refl _, rfl⟩) ?_)
          (try simp only [Act.put, List.setIfInBounds_toArray, List.set_cons_zero, List.set_cons_succ])
          refine wpF_factg (by rfl) (fun u Wa Wb h he => h.ext he) (fun w' hE hD => ?_) (fun u83 => ?_)
          · unfold Yld; go_simp; exact ⟨(Ext.refl _).alloc _, _, rfl, Blk.new _ _ _⟩
          (try simp only [Act.put, List.setIfInBounds_toArray, List.set_cons_zero, List.set_cons_succ])
          (first | refine wpF_val rfl (fun w' hE hD => by have hq := hD.1 (by kernel_rfl); unfold Yld; go_simp; exact (opq_calls hq HZI.out.2 HYI.out.2).mono fun e w2 h => ⟨_, h.1, h.2, rfl⟩) ?_ | refine wpF_valg (by rfl) (fun w' hE hD => by have hq := hD.1 (by kernel_rfl); unfold Yld; go_simp; exact (opq_calls hq HZI.out.2 HYI.out.2).mono fun e w2 h => ⟨_, h.1, h.2, rfl⟩) ?_)
          (try simp only [Act.put, List.setIfInBounds_toArray, List.set_cons_zero, List.set_cons_succ])
          (first | refine wpF_val rfl (fun w' hE hD => by unfold Yld; go_simp; exact ⟨Ext.refl _, rfl⟩) ?_ | refine wpF_valg (by rfl) (fun w' hE hD => by unfold Yld; go_simp; exact ⟨Ext.refl _, rfl⟩) ?_)
          (try simp only [Act.put, List.setIfInBounds_toArray, List.set_cons_zero, List.set_cons_succ])
          (first | refine wpF_val rfl (fun w' hE hD => by unfold Yld; go_simp; exact ⟨Ext.refl _, rfl⟩) ?_ | refine wpF_valg (by rfl) (fun w' hE hD => by unfold Yld; go_simp; exact ⟨Ext.refl _, rfl⟩) ?_)
          (try simp only [Act.put, List.setIfInBounds_toArray, List.set_cons_zero, List.set_cons_succ])
          refine wpF_nil fun w3 hE3 hA => ?_
          refine (show wpList _ _ _ [] _ _ from ?_)
          have HE3 := Aside0.mk (HE.out.trans hE3)
          clear hA hE3 cy cz HE
          go_wp2_with fail
          go_roundw
          case rel => exact ⟨zz + 1, by go_num, ⟨hzlt⟩, HE3⟩
          case measure => have := HZL.out; simp only [intOf]; omega
        · obtain rfl : zz = 14 := by omega
          go_wp2_with fail
          go_roundw
          case rel => exact ⟨x + 1, by go_num, ⟨hlt⟩, HE⟩
          case measure => have := HXL.out; simp only [intOf]; omega
    · obtain rfl : x = 14 := by omega
      go_wp2_with fail
      refine (make_calls wx 2 3).mono ?_
      rintro e w7 ⟨rfl, hE⟩
      have HE7 := Aside0.mk (HE0.out.trans (HE.out.trans hE))
      clear hE HE
      rw [show makeF 2 3 = 2097155 from by decide]
      go_wp2_with fail
      refine (works_calls w7).mono ?_
      rintro e w8 ⟨rfl, hE⟩
      have HE8 := Aside0.mk (HE7.out.trans hE)
      clear hE HE7
      go_wp2
      go_ret
      exact ⟨rfl, HE8.out⟩
end Go.Proofs.Ytkgjcmolmogpdaa.By
