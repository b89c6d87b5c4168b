/- An array: Do, done. -/
import Derived.Test.YtielnpmnnifjcaaAp
import Derived.Great.BuildSlice
namespace Go.Proofs.Ytielnpmnnifjcaa.By
open Go.RowKit Go.Proofs.Ytielnpmnnifjcaa.Reg Go.Proofs.YtielnpmnnifjcaaW.PrintWords Go.Proofs.YtielnpmnnifjcaaW.PrintLast Go.Proofs.YtielnpmnnifjcaaW.PrintMore
set_option linter.unusedVariables false
set_option linter.unusedSimpArgs false


def zC71 : Value := .agg #[Value.bool false, Value.int .i64 0, Value.int .u8 0, Value.int .u8 0, Value.int .u8 0, Value.int .u8 0, Value.int .u8 0, Value.int .u8 0, Value.int .u8 0, Value.int .u8 0, Value.int .u8 0, Value.int .u8 0, Value.int .u8 0, Value.int .u8 0, Value.int .u8 0, Value.int .u8 0, Value.int .u8 0, Value.int .u8 0, Value.int .u8 0, Value.int .u8 0, Value.int .u8 0, Value.int .u8 0, Value.int .u8 0, Value.int .u8 0, Value.int .u8 0, Value.int .u8 0, Value.int .u8 0, Value.int .u8 0, Value.int .u8 0, Value.int .u8 0, Value.int .u8 0, Value.int .u8 0, Value.int .u8 0, Value.int .u8 0]
theorem fill_ch : ∀ (p : Ch), p.2.2.length = 32 → Instr.fill (fun i => some (i * 34, 34)) ((Array.range (1 * 34)).map (zC71.cells[· % zC71.cells.size]!)) [(0, .agg (chL p).toArray)] = some (chL p).toArray
  | (_, _, [x0, x1, x2, x3, x4, x5, x6, x7, x8, x9, x10, x11, x12, x13, x14, x15, x16, x17, x18, x19, x20, x21, x22, x23, x24, x25, x26, x27, x28, x29, x30, x31]), _ => by kernel_rfl
theorem info71z : (Try.prog.info? 71).map (fun i => (i.zero, i.size, i.bytes)) = some (some zC71, 34, 48) := by kernel_rfl
/-- A row of one change. -/
theorem run_slice1 (w : World) (p : Ch) (hp : p.2.2.length = 32) : (Instr.buildSlice 64 1 #[(0, .agg (chL p).toArray)]).run Try.prog w = .ok (.slice (some ⟨w.heap.size, 0, none⟩) 1 1) (w.alloc (.cells (chL p).toArray 71)) := by
  obtain ⟨i0, hi0, h1, h2, _⟩ := info_parts info71z
  refine run_buildSlice w 64 71 1 #[(0, .agg (chL p).toArray)] (chL p).toArray i0 zC71 Try.underlying64 hi0 h1 (by rw [h2]; decide) (by rw [h2]; decide) ?_
  rw [h2]
  exact fill_ch p hp
theorem YldG_slice1 {w : World} {o : Oper} {a : Act} (x : Operand) (ho : o.op = .buildSlice 64 1 #[(0, x)]) (p : Ch) (hx : a.eval x = .agg (chL p).toArray) (hp : p.2.2.length = 32) (N : Nat) (hN : N ≤ w.heap.size) :
    YldG Ext Try.prog o a w (.fact false fun u w' => BsQ N p u w') := by
  have h1 : ((#[(0, x)] : Array (Nat × Operand)).map fun (i, x) => (i, a.eval x)) = #[(0, .agg (chL p).toArray)] := by simp [hx]
  unfold YldG execOp
  simp only [ho, Sem.run_bind, h1, run_slice1 w p hp, Result.andThen_ok, Sem.run_pure]
  exact ⟨(Ext.refl _).alloc _, _, rfl, hN, Blk.new _ _ _⟩
theorem u8_cells {w : World} {A : Option Addr} {n : Nat} {xs : List Int} (h : Kd.C kb w A n xs) (hn : 0 < n) : ∃ ad, A = some ad ∧ ∀ j v, (u8s xs)[j]? = some v → w.cell? (ad.add j) = some v := by
  obtain ⟨ad, e, hc⟩ := h.2.2 hn
  refine ⟨ad, e, fun j v hv => ?_⟩
  have hj : j < xs.length := by have := (List.getElem?_eq_some_iff.1 hv).1; rwa [u8s_len] at this
  obtain ⟨cs, h1, h2, h3⟩ := hc j xs[j] (List.getElem?_eq_getElem hj)
  have h2' : cs = [.int .u8 xs[j]] := h2
  subst h2'
  have := h3 0 _ rfl
  rw [show kb.sz = 1 from rfl, Nat.mul_one, Nat.add_zero] at this
  rw [this]
  unfold u8s at hv
  rw [List.getElem?_map, List.getElem?_eq_getElem hj] at hv
  exact hv
theorem addr0_cell {w : World} {b t : Nat} {cs : List Value} (h : Blk w b cs.toArray t) {j : Nat} {u : Value} (hu : cs[j]? = some u) : w.cell? ((⟨b, 0, none⟩ : Addr).add j) = some u := by
  have hc := h.cell j (v := u) (by simpa using hu)
  unfold Addr.add
  split
  · rename_i h0
    subst h0
    exact hc
  · rw [Nat.zero_add]
    exact hc
section
variable {w w' : World} {ba n : Nat} {R R' : Nat → List Int} {M M' : Nat → Bool} {V : Value}
set_option maxRecDepth 100000 in
set_option maxHeartbeats 2000000 in
theorem ado_t_ok (h : AV w ba n R M R' M' V) {L : List Ch} (hL : OR w V L) (hll : L.length ≤ 100000) (hn64 : n ≤ 64) (k : Nat) (hk : k < n) (A : Option Addr) (c : Nat) (xs : List Int) (hn : xs.length = 0) (hr : Kd.C kb w A 0 xs) (hc : 0 ≤ c) :
    Calls Try.prog 9 #[.pointer (some ⟨ba, 0, none⟩), .agg #[.bool true, .int .i64 (k : Int), .slice A 0 c]] w fun e w' => ∃ V', e = .returned (.int .i64 0) ∧ AV w' ba n R M (upd R' k z32) (upd M' k (!true)) V' ∧ OR w' V' (L ++ [(true, (k : Int), z32)]) ∧ Chg w w' (fun j => j = ba ∨ V.ownBlock = some j) ∧ OwnQ V w.heap.size V' := by
  obtain ⟨c0, c1⟩ := h.cells
  have hE0 := (Ext.refl w).alloc (.cells #[.bool true, .int .i64 (k : Int), .slice A 0 c] 34)
  have HB := Aside0.mk (Blk.new w #[.bool true, .int .i64 (k : Int), .slice A 0 c] 34)
  have HE0 := Aside0.mk hE0
  have HAV := Aside0.mk (h.ext hE0)
  have HOR := Aside0.mk (hL.ext hE0)
  have HRD := Aside0.mk (Kd.C_below hr hE0)
  have HXL := Aside0.mk hn
  have HLL := Aside0.mk hll
  have HDL := Aside0.mk (show z32.length = 32 from z32_len)
  have HK64 := Aside0.mk (show k < 64 by omega)
  have HVN := Aside0.mk (show ∃ a b d, V = Value.slice a b d from by
    obtain ⟨a, d, e, _, _⟩ := hL.nat rfl
    exact ⟨_, _, _, e⟩)
  have HVB := Aside0.mk (show ∀ j, V.ownBlock = some j → j < w.heap.size from hL.blt)
  replace c0 := Ext.cell hE0 c0
  obtain ⟨bx, hbx⟩ : ∃ bx, bx = w.heap.size := ⟨_, rfl⟩
  obtain ⟨w1, hw1⟩ : ∃ w1, w1 = w.alloc (.cells #[.bool true, .int .i64 (k : Int), .slice A 0 c] 34) := ⟨_, rfl⟩
  rw [← hbx] at HB
  rw [← hw1] at HB HE0 c0 HAV HOR HRD
  have HW1 := Aside0.mk hw1
  have HBX := Aside0.mk hbx
  have cb0 := HB.out.cell 0 (v := .bool true) rfl
  have cb1 := HB.out.cell 1 (v := .int .i64 (k : Int)) rfl
  have cb2 := HB.out.cell 2 (v := .slice A 0 c) rfl
  have HI71 := Aside0.mk (fun (p : Ch) (hp : p.2.2.length = 32) => show (Try.prog.info? 71).map (·.size) = some (chL p).length from by rw [chL_len p hp]; kernel_rfl)
  clear h hL hll c1 hE0 hbx hw1 hr hn
  have hd0 : decide ((k : Int) < 0) = false := decide_eq_false (by omega)
  have hd1 : decide (n ≤ k) = false := decide_eq_false (by omega)
  go_enter Try.func9, Try.ntmps9
  go_wp2_with fail
  rw [← HW1.out, ← HBX.out]
  apply wp_region_facts 19 [RF.val _, RF.val _, RF.val _, RF.val _, RF.val _, RF.val _, RF.val _, RF.val _, RF.val _, RF.val _, RF.val _, RF.val _, RF.val _, RF.val _, RF.val _, RF.val _, RF.val _, RF.val _, RF.val _]
  case hm => kernel_rfl
  case hB => kernel_rfl
  simp only [List.take_succ_cons, List.take_zero, List.zip_cons_cons, List.zip_nil_left]
  (first | refine wpF_val rfl (fun w' hE hD => by unfold Yld; go_simp; exact ⟨Ext.refl _, rfl⟩) ?_ | refine wpF_valg (by rfl) (fun w' hE hD => by unfold Yld; go_simp; exact ⟨Ext.refl _, rfl⟩) ?_)
  (try simp only [Act.put, List.setIfInBounds_toArray, List.set_cons_zero, List.set_cons_succ])
  (first | refine wpF_val rfl (fun w' hE hD => by have hc1 := Ext.cell hE cb1; unfold Yld; go_simp; exact ⟨Ext.refl _, rfl⟩) ?_ | refine wpF_valg (by rfl) (fun w' hE hD => by have hc1 := Ext.cell hE cb1; unfold Yld; go_simp; exact ⟨Ext.refl _, rfl⟩) ?_)
  (try simp only [Act.put, List.setIfInBounds_toArray, List.set_cons_zero, List.set_cons_succ])
  (first | refine wpF_val rfl (fun w' hE hD => by unfold Yld; go_simp; exact ⟨Ext.refl _, rfl⟩) ?_ | refine wpF_valg (by rfl) (fun w' hE hD => by unfold Yld; go_simp; exact ⟨Ext.refl _, rfl⟩) ?_)
  (try simp only [Act.put, List.setIfInBounds_toArray, List.set_cons_zero, List.set_cons_succ])
  (first | refine wpF_val rfl (fun w' hE hD => by unfold Yld; go_simp; exact ⟨Ext.refl _, rfl⟩) ?_ | refine wpF_valg (by rfl) (fun w' hE hD => by unfold Yld; go_simp; exact ⟨Ext.refl _, rfl⟩) ?_)
  (try simp only [Act.put, List.setIfInBounds_toArray, List.set_cons_zero, List.set_cons_succ])
  (first | refine wpF_val rfl (fun w' hE hD => by unfold Yld; go_simp; exact ⟨Ext.refl _, rfl⟩) ?_ | refine wpF_valg (by rfl) (fun w' hE hD => by unfold Yld; go_simp; exact ⟨Ext.refl _, rfl⟩) ?_)
  (try simp only [Act.put, List.setIfInBounds_toArray, List.set_cons_zero, List.set_cons_succ])
  (first | refine wpF_val rfl (fun w' hE hD => by have hc1 := Ext.cell hE cb1; unfold Yld; go_simp; exact ⟨Ext.refl _, rfl⟩) ?_ | refine wpF_valg (by rfl) (fun w' hE hD => by have hc1 := Ext.cell hE cb1; unfold Yld; go_simp; exact ⟨Ext.refl _, rfl⟩) ?_)
  (try simp only [Act.put, List.setIfInBounds_toArray, List.set_cons_zero, List.set_cons_succ])
  (first | refine wpF_val rfl (fun w' hE hD => by unfold Yld; go_simp; exact ⟨Ext.refl _, rfl⟩) ?_ | refine wpF_valg (by rfl) (fun w' hE hD => by unfold Yld; go_simp; exact ⟨Ext.refl _, rfl⟩) ?_)
  (try simp only [Act.put, List.setIfInBounds_toArray, List.set_cons_zero, List.set_cons_succ])
  (first | refine wpF_val rfl (fun w' hE hD => by unfold Yld; go_simp; exact ⟨Ext.refl _, rfl⟩) ?_ | refine wpF_valg (by rfl) (fun w' hE hD => by unfold Yld; go_simp; exact ⟨Ext.refl _, rfl⟩) ?_)
  (try simp only [Act.put, List.setIfInBounds_toArray, List.set_cons_zero, List.set_cons_succ])
  (first | refine wpF_val rfl (fun w' hE hD => by unfold Yld; go_simp; exact ⟨Ext.refl _, rfl⟩) ?_ | refine wpF_valg (by rfl) (fun w' hE hD => by unfold Yld; go_simp; exact ⟨Ext.refl _, rfl⟩) ?_)
  (try simp only [Act.put, List.setIfInBounds_toArray, List.set_cons_zero, List.set_cons_succ])
  (first | refine wpF_val rfl (fun w' hE hD => by have hc0 := Ext.cell hE c0; unfold Yld; go_simp; exact ⟨Ext.refl _, rfl⟩) ?_ | refine wpF_valg (by rfl) (fun w' hE hD => by have hc0 := Ext.cell hE c0; unfold Yld; go_simp; exact ⟨Ext.refl _, rfl⟩) ?_)
  (try simp only [Act.put, List.setIfInBounds_toArray, List.set_cons_zero, List.set_cons_succ])
  (first | refine wpF_val rfl (fun w' hE hD => by unfold Yld; go_simp; exact ⟨Ext.refl _, rfl⟩) ?_ | refine wpF_valg (by rfl) (fun w' hE hD => by unfold Yld; go_simp; exact ⟨Ext.refl _, rfl⟩) ?_)
  (try simp only [Act.put, List.setIfInBounds_toArray, List.set_cons_zero, List.set_cons_succ])
  (first | refine wpF_val rfl (fun w' hE hD => by unfold Yld; go_simp; exact ⟨Ext.refl _, rfl⟩) ?_ | refine wpF_valg (by rfl) (fun w' hE hD => by unfold Yld; go_simp; exact ⟨Ext.refl _, rfl⟩) ?_)
  (try simp only [Act.put, List.setIfInBounds_toArray, List.set_cons_zero, List.set_cons_succ])
  (first | refine wpF_val rfl (fun w' hE hD => by unfold Yld; go_simp; exact ⟨Ext.refl _, rfl⟩) ?_ | refine wpF_valg (by rfl) (fun w' hE hD => by unfold Yld; go_simp; exact ⟨Ext.refl _, rfl⟩) ?_)
  (try simp only [Act.put, List.setIfInBounds_toArray, List.set_cons_zero, List.set_cons_succ])
  (first | refine wpF_val rfl (fun w' hE hD => by unfold Yld; go_simp; exact ⟨Ext.refl _, rfl⟩) ?_ | refine wpF_valg (by rfl) (fun w' hE hD => by unfold Yld; go_simp; exact ⟨Ext.refl _, rfl⟩) ?_)
  (try simp only [Act.put, List.setIfInBounds_toArray, List.set_cons_zero, List.set_cons_succ])
  (first | refine wpF_val rfl (fun w' hE hD => by have hc2 := Ext.cell hE cb2; unfold Yld; go_simp; exact ⟨Ext.refl _, rfl⟩) ?_ | refine wpF_valg (by rfl) (fun w' hE hD => by have hc2 := Ext.cell hE cb2; unfold Yld; go_simp; exact ⟨Ext.refl _, rfl⟩) ?_)
  (try simp only [Act.put, List.setIfInBounds_toArray, List.set_cons_zero, List.set_cons_succ])
  (first | refine wpF_val rfl (fun w' hE hD => by unfold Yld; go_simp; exact ⟨Ext.refl _, rfl⟩) ?_ | refine wpF_valg (by rfl) (fun w' hE hD => by unfold Yld; go_simp; exact ⟨Ext.refl _, rfl⟩) ?_)
  (try simp only [Act.put, List.setIfInBounds_toArray, List.set_cons_zero, List.set_cons_succ])
  (first | refine wpF_val rfl (fun w' hE hD => by unfold Yld; go_simp; exact ⟨Ext.refl _, rfl⟩) ?_ | refine wpF_valg (by rfl) (fun w' hE hD => by unfold Yld; go_simp; exact ⟨Ext.refl _, rfl⟩) ?_)
  (try simp only [Act.put, List.setIfInBounds_toArray, List.set_cons_zero, List.set_cons_succ])
  (first | refine wpF_val rfl (fun w' hE hD => by unfold Yld; go_simp; exact ⟨Ext.refl _, rfl⟩) ?_ | refine wpF_valg (by rfl) (fun w' hE hD => by unfold Yld; go_simp; exact ⟨Ext.refl _, rfl⟩) ?_)
  (try simp only [Act.put, List.setIfInBounds_toArray, List.set_cons_zero, List.set_cons_succ])
  (first | refine wpF_val rfl (fun w' hE hD => by unfold Yld; go_simp; exact ⟨Ext.refl _, rfl⟩) ?_ | refine wpF_valg (by rfl) (fun w' hE hD => by unfold Yld; go_simp; exact ⟨Ext.refl _, rfl⟩) ?_)
  (try simp only [Act.put, List.setIfInBounds_toArray, List.set_cons_zero, List.set_cons_succ])
  refine wpF_nil fun w2 hE2 hA => ?_
  refine (show wpList _ _ _ [] _ _ from ?_)
  have HE2 := Aside0.mk (HE0.out.trans hE2)
  have HB2 := Aside0.mk (HB.out.ext hE2)
  have HAV2 := Aside0.mk (HAV.out.ext hE2)
  have HOR2 := Aside0.mk (HOR.out.ext hE2)
  have HRD2 := Aside0.mk (Kd.C_below HRD.out hE2)
  clear hE2 hA c0 cb0 cb1 cb2 HB HE0 HAV HOR HRD hd0 hd1
  have cb0 := HB2.out.cell 0 (v := .bool true) rfl
  have cb1 := HB2.out.cell 1 (v := .int .i64 (k : Int)) rfl
  have cb2 := HB2.out.cell 2 (v := .slice A 0 c) rfl
  go_wp2_with (first | ((with_reducible refine gate_build (ty := 71) rfl ?_); refine build_at rfl 71 _ rfl (chL (true, (k : Int), z32)).toArray _ rfl (built71 _ _) ?_) | ((with_reducible refine gate_alloc (ty := 71) rfl ?_); refine alloc_at rfl 71 rfl _ zero71 ?_) | ((with_reducible refine gate_store (ty := 71) rfl ?_); refine store_at rfl 71 _ _ rfl w2.heap.size (chL (true, (k : Int), z32)) rfl rfl (chL (false, 0, z32)).toArray 71 (Blk.new _ _ _) (by rw [List.size_toArray, chL_len _ z32_len, chL_len _ z32_len]) (HI71.out _ z32_len) (chL_one _) ?_) | fail)
  intro w3 hW3 hb3
  obtain ⟨b6, hb6⟩ : ∃ z, z = w2.heap.size := ⟨_, rfl⟩
  rw [← hb6] at hW3 hb3 ⊢
  have HE3 := Aside0.mk (show Ext w2 w3 from (Chg.of_wrote (S := fun j => j = b6) hW3 rfl).to_ext ((Ext.refl w2).alloc _) (fun j hj => by rw [hj, hb6]; exact Nat.le_refl _))
  have HB63 := Aside0.mk hb3
  have HB3 := Aside0.mk (HB2.out.ext HE3.out)
  have HAV3 := Aside0.mk (HAV2.out.ext HE3.out)
  have HOR3 := Aside0.mk (HOR2.out.ext HE3.out)
  have HRD3 := Aside0.mk (Kd.C_below HRD2.out HE3.out)
  have HC3 := Aside0.mk (show Ext w w3 from HE2.out.trans HE3.out)
  have HN6 := Aside0.mk (show ¬ bx = b6 ∧ ¬ ba = b6 ∧ ∀ j, V.ownBlock = some j → j ≠ b6 from ⟨by have := HB2.out.lt; omega, by have := HAV2.out.lt; omega, fun j hj => by have := HOR2.out.blt j hj; omega⟩)
  have HNW6 := Aside0.mk (show w.heap.size ≤ b6 from by rw [hb6]; exact HE2.out.size)
  clear hW3 hb3 hb6 HB2 HAV2 HOR2 HRD2 HE2 HE3 cb0 cb1 cb2
  go_wp2_with fail
  apply wp_region_G 5 4 (fun a b' => Chg a b' (fun j => j = b6)) (fun a b h => Chg.of_ext h _) (fun a b c h k => h.trans k) [GF.val _, GF.val _, GF.val _, GF.val _, GF.fact true (fun u w' => Blk w' b6 (chL (true, (k : Int), z32)).toArray 71)]
  case hm => kernel_rfl
  case hB => kernel_rfl
  simp only [List.take_succ_cons, List.take_zero, List.zip_cons_cons, List.zip_nil_left]
  refine wpG_val (by rfl) (by decide) (fun w' hE hD => by unfold YldG; go_simp; exact ⟨Ext.refl _, rfl⟩) ?_
  (try simp only [Act.put, List.setIfInBounds_toArray, List.set_cons_zero, List.set_cons_succ])
  refine wpG_val (by rfl) (by decide) (fun w' hE hD => by unfold YldG; go_simp; exact ⟨Ext.refl _, rfl⟩) ?_
  (try simp only [Act.put, List.setIfInBounds_toArray, List.set_cons_zero, List.set_cons_succ])
  refine wpG_val (by rfl) (by decide) (fun w' hE hD => by unfold YldG; go_simp; exact ⟨Ext.refl _, rfl⟩) ?_
  (try simp only [Act.put, List.setIfInBounds_toArray, List.set_cons_zero, List.set_cons_succ])
  refine wpG_val (by rfl) (by decide) (fun w' hE hD => by have hcx := (hE.blk HB3.out HN6.out.1).cell 2 (v := .slice A 0 c) rfl; unfold YldG; go_simp; exact ⟨Ext.refl _, rfl⟩) ?_
  (try simp only [Act.put, List.setIfInBounds_toArray, List.set_cons_zero, List.set_cons_succ])
  refine wpG_here (by rfl) (by decide) (fun u Wa Wb h he => Blk.ext h he) (fun w' hE hD => YldG_copy (.tmp 34) (.tmp 36) 31 31 rfl _ _ (run_copy_none w' 31 31 _ 5 _ _ 32 32 0 c Try.underlying31 (by kernel_rfl) rfl) (Chg.refl _ _) (HB63.out.ext hE)) (fun u37 => ?_)
  (try simp only [Act.put, List.setIfInBounds_toArray, List.set_cons_zero, List.set_cons_succ])
  refine wpG_nil fun w4 hC4 hA => ?_
  refine (show wpList _ _ _ [] _ _ from ?_)
  have HB64 := Aside0.mk (hA.1 rfl)
  have HB4 := Aside0.mk (hC4.blk HB3.out HN6.out.1)
  have HAV4 := Aside0.mk (HAV3.out.chg hC4 HN6.out.2.1)
  have HOR4 := Aside0.mk (HOR3.out.chg hC4 HN6.out.2.2)
  have HC4 := Aside0.mk (show Ext w w4 from hC4.to_ext HC3.out (fun j hj => by rw [hj]; exact HNW6.out))
  clear hC4 hA HB63 HB3 HAV3 HOR3 HC3 HRD3
  obtain ⟨cs, hblk, hac⟩ := HAV4.out
  have HBA4 := Aside0.mk hblk
  have HAC := Aside0.mk hac
  have HRG6 := Aside0.mk (fun (W : World) (h : Blk W b6 (chL (true, (k : Int), z32)).toArray 71) => show W.rangeAt b6 0 (chL (true, (k : Int), z32)) from h.whole)
  clear hblk hac HAV4
  go_wp2_with fail
  apply wp_region_G 5 4 (fun a b' => Chg a b' (fun j => j = ba)) (fun a b h => Chg.of_ext h _) (fun a b c h k => h.trans k) [GF.val _, GF.val _, GF.val _, GF.val _, GF.fact true (fun u w' => Blk w' ba (doC cs 2113 true k z32) 66)]
  case hm => kernel_rfl
  case hB => kernel_rfl
  simp only [List.take_succ_cons, List.take_zero, List.zip_cons_cons, List.zip_nil_left]
  refine wpG_val (by rfl) (by decide) (fun w' hE hD => by unfold YldG; go_simp; exact ⟨Ext.refl _, rfl⟩) ?_
  (try simp only [Act.put, List.setIfInBounds_toArray, List.set_cons_zero, List.set_cons_succ])
  refine wpG_val (by rfl) (by decide) (fun w' hE hD => by unfold YldG; go_simp; exact ⟨Ext.refl _, rfl⟩) ?_
  (try simp only [Act.put, List.setIfInBounds_toArray, List.set_cons_zero, List.set_cons_succ])
  refine wpG_val (by rfl) (by decide) (fun w' hE hD => by unfold YldG; go_simp; exact ⟨Ext.refl _, rfl⟩) ?_
  (try simp only [Act.put, List.setIfInBounds_toArray, List.set_cons_zero, List.set_cons_succ])
  refine wpG_val (by rfl) (by decide) (fun w' hE hD => YldG_load 71 _ rfl b6 0 rfl (chL (true, (k : Int), z32)) _ (HRG6.out w' (hE.blk HB64.out (fun e => HN6.out.2.1 e.symm))) Try.underlying71 rfl (HI71.out _ HDL.out)) ?_
  (try simp only [Act.put, List.setIfInBounds_toArray, List.set_cons_zero, List.set_cons_succ])
  refine wpG_here (by rfl) (by decide) (fun u Wa Wb h he => Blk.ext h he) (fun w' hE hD => by unfold YldG; go_simp; exact (bdo_calls w' ba 2113 66 cs R' M' (HBA4.out.ext hE) HAC.out.no (by rw [HAC.out.sz]; decide) true k z32 HK64.out HDL.out).mono fun e w2 h => ⟨_, h.1, h.2.2, h.2.1⟩) (fun u42 => ?_)
  (try simp only [Act.put, List.setIfInBounds_toArray, List.set_cons_zero, List.set_cons_succ])
  refine wpG_nil fun w5 hC5 hA => ?_
  refine (show wpList _ _ _ [] _ _ from ?_)
  have HBA5 := Aside0.mk (hA.1 rfl)
  have HB65 := Aside0.mk (hC5.blk HB64.out (fun e => HN6.out.2.1 e.symm))
  have HNV := Aside0.mk (show ∀ j, V.ownBlock = some j → ¬ j = ba from fun j hj e => by
    obtain ⟨cells, hcl⟩ := HOR4.out.typed j hj
    rw [e] at hcl
    have := HBA4.out.is.symm.trans hcl
    injection this with this
    injection this with _ h9
    cases h9)
  have HOR5 := Aside0.mk (HOR4.out.chg hC5 HNV.out)
  have HC5 := Aside0.mk (show Chg w w5 (fun j => j = ba ∨ V.ownBlock = some j) from (Chg.of_ext HC4.out _).trans (hC5.mono (fun j hj => .inl hj)))
  have HAC5 := Aside0.mk (HAC.out.do true k z32 HK64.out HDL.out)
  clear hC5 hA HBA4 HB64 HOR4 HC4 HAC HB4
  have cV := HBA5.out.cell 4225 (v := V) HAC5.out.op
  go_wp2_with fail
  apply wp_region_G 8 7 (fun a b' => Chg a b' (fun j => V.ownBlock = some j)) (fun a b h => Chg.of_ext h _) (fun a b c h k => h.trans k) [GF.val _, GF.val _, GF.val _, GF.val _, GF.val _, GF.val _, GF.fact false (fun u w' => BsQ w5.heap.size (true, (k : Int), z32) u w'), GF.fact true (fun u w' => OR w' u (L ++ [(true, (k : Int), z32)]) ∧ OwnQ V w.heap.size u)]
  case hm => kernel_rfl
  case hB => kernel_rfl
  simp only [List.take_succ_cons, List.take_zero, List.zip_cons_cons, List.zip_nil_left]
  refine wpG_val (by rfl) (by decide) (fun w' hE hD => by unfold YldG; go_simp; exact ⟨Ext.refl _, rfl⟩) ?_
  (try simp only [Act.put, List.setIfInBounds_toArray, List.set_cons_zero, List.set_cons_succ])
  refine wpG_val (by rfl) (by decide) (fun w' hE hD => by unfold YldG; go_simp; exact ⟨Ext.refl _, rfl⟩) ?_
  (try simp only [Act.put, List.setIfInBounds_toArray, List.set_cons_zero, List.set_cons_succ])
  refine wpG_val (by rfl) (by decide) (fun w' hE hD => by unfold YldG; go_simp; exact ⟨Ext.refl _, rfl⟩) ?_
  (try simp only [Act.put, List.setIfInBounds_toArray, List.set_cons_zero, List.set_cons_succ])
  refine wpG_val (by rfl) (by decide) (fun w' hE hD => by unfold YldG; go_simp; exact ⟨Ext.refl _, rfl⟩) ?_
  (try simp only [Act.put, List.setIfInBounds_toArray, List.set_cons_zero, List.set_cons_succ])
  refine wpG_val (by rfl) (by decide) (fun w' hE hD => by have hcv := (hE.blk HBA5.out (fun h => HNV.out _ h rfl)).cell 4225 (v := V) HAC5.out.op; unfold YldG; go_simp; exact ⟨Ext.refl _, rfl⟩) ?_
  (try simp only [Act.put, List.setIfInBounds_toArray, List.set_cons_zero, List.set_cons_succ])
  refine wpG_val (by rfl) (by decide) (fun w' hE hD => YldG_load 71 _ rfl b6 0 rfl (chL (true, (k : Int), z32)) _ (HRG6.out w' (hE.blk HB65.out (fun h => HN6.out.2.2 _ h rfl))) Try.underlying71 rfl (HI71.out _ HDL.out)) ?_
  (try simp only [Act.put, List.setIfInBounds_toArray, List.set_cons_zero, List.set_cons_succ])
  refine wpG_fact (by rfl) (by decide) (fun h => by cases h) (fun u Wa Wb h he => h.ext he) (fun w' hE hD => YldG_slice1 (.tmp 48) rfl (true, (k : Int), z32) rfl HDL.out _ hE.size) (fun u49 => ?_)
  (try simp only [Act.put, List.setIfInBounds_toArray, List.set_cons_zero, List.set_cons_succ])
  refine wpG_here (by rfl) (by decide) (fun u Wa Wb h he => ⟨OR.ext h.1 he, h.2⟩) (fun w' hE hD => by obtain ⟨b9, e9, hn9, hb9⟩ := hD.1 rfl (by kernel_rfl); subst e9; exact YldG_appK kH _ _ 64 71 _ 48 rfl Try.underlying64 info71 (by show (chL (false, 0, z32)).toArray.size = 34; rw [List.size_toArray, chL_len _ z32_len]) (by decide) (by decide) V ⟨b9, 0, none⟩ rfl rfl 0 L (true, (k : Int), z32) (chL (true, (k : Int), z32)) (fun _ => False) (HOR5.out.ext hE) (ch_M _ _ _ _ HDL.out) (fun _ h => h.elim) (fun j u hu => addr0_cell hb9 hu) (Nat.zero_le _) (by have := HLL.out; omega) (fun w2 hg => Chg.of_grown hg (fun j hj => hj)) w.heap.size (Nat.le_trans HC5.out.size hE.size)) (fun u50 => ?_)
  (try simp only [Act.put, List.setIfInBounds_toArray, List.set_cons_zero, List.set_cons_succ])
  refine wpG_nil fun w6 hC6 hA => ?_
  simp only [List.drop_succ_cons, List.drop_zero]
  have HRV := Aside0.mk (hA.2.1 rfl).1
  have HOQ := Aside0.mk (hA.2.1 rfl).2
  have HBA6 := Aside0.mk (hC6.blk HBA5.out (fun h => HNV.out _ h rfl))
  have HC6 := Aside0.mk (HC5.out.trans (hC6.mono (fun j hj => .inr hj)))
  clear hC6 hA HBA5 HB65 HOR5 HC5 cV
  obtain ⟨nl, hnl⟩ : ∃ nl, nl = (L ++ [(true, (k : Int), z32)]).length := ⟨_, rfl⟩
  obtain ⟨AN, cN, eN, _, _⟩ := OR.nat HRV.out hnl
  subst eN
  have cV := HBA6.out.cell 4225 (v := V) HAC5.out.op
  obtain ⟨va, vb, vd, hVe⟩ := HVN.out
  rw [hVe] at cV
  have fV := HBA6.out.free 4225
  have HFA := Aside0.mk (show AV (w6.setCell ⟨ba, 4225, none⟩ (.slice AN nl cN)) ba n R M (upd R' k z32) (upd M' k (!true)) (.slice AN nl cN) from ⟨_, HBA6.out.set 4225 (.slice AN nl cN), HAC5.out.setV (.slice AN nl cN)⟩)
  have hcw := Chg.of_wrote (S := fun j => j = ba ∨ V.ownBlock = some j) (Wrote.setCell w6 ba 4225 (.slice AN nl cN)) (.inl rfl)
  have HFO := Aside0.mk (show OR (w6.setCell ⟨ba, 4225, none⟩ (.slice AN nl cN)) (.slice AN nl cN) (L ++ [(true, (k : Int), z32)]) from OR.chg (S := fun j => j = ba) HRV.out (Chg.of_wrote (Wrote.setCell w6 ba 4225 (.slice AN nl cN)) rfl) (fun j hj e => by
    obtain ⟨cells, hcl⟩ := OR.typed HRV.out j hj
    rw [e] at hcl
    have := HBA6.out.is.symm.trans hcl
    injection this with this
    injection this with _ h9
    cases h9))
  have HFC := Aside0.mk (HC6.out.trans hcw)
  clear hcw hnl hVe HRV HBA6 HC6
  go_wp2
  go_ret
  exact ⟨_, rfl, HFA.out, HFO.out, HFC.out, HOQ.out⟩
set_option maxRecDepth 100000 in
set_option maxHeartbeats 2000000 in
theorem ado_w_ok (h : AV w ba n R M R' M' V) {L : List Ch} (hL : OR w V L) (hll : L.length ≤ 100000) (hn64 : n ≤ 64) (k : Nat) (hk : k < n) (A : Option Addr) (c : Nat) (xs : List Int) (hn : xs.length = 32) (hr : Kd.C kb w A 32 xs) (hc : 32 ≤ c) :
    Calls Try.prog 9 #[.pointer (some ⟨ba, 0, none⟩), .agg #[.bool false, .int .i64 (k : Int), .slice A 32 c]] w fun e w' => ∃ V', e = .returned (.int .i64 0) ∧ AV w' ba n R M (upd R' k xs) (upd M' k (!false)) V' ∧ OR w' V' (L ++ [(false, (k : Int), xs)]) ∧ Chg w w' (fun j => j = ba ∨ V.ownBlock = some j) ∧ OwnQ V w.heap.size V' := by
  obtain ⟨c0, c1⟩ := h.cells
  have hE0 := (Ext.refl w).alloc (.cells #[.bool false, .int .i64 (k : Int), .slice A 32 c] 34)
  have HB := Aside0.mk (Blk.new w #[.bool false, .int .i64 (k : Int), .slice A 32 c] 34)
  have HE0 := Aside0.mk hE0
  have HAV := Aside0.mk (h.ext hE0)
  have HOR := Aside0.mk (hL.ext hE0)
  have HRD := Aside0.mk (Kd.C_below hr hE0)
  have HXL := Aside0.mk hn
  have HLL := Aside0.mk hll
  have HDL := Aside0.mk (show xs.length = 32 from hn)
  have HK64 := Aside0.mk (show k < 64 by omega)
  have HVN := Aside0.mk (show ∃ a b d, V = Value.slice a b d from by
    obtain ⟨a, d, e, _, _⟩ := hL.nat rfl
    exact ⟨_, _, _, e⟩)
  have HVB := Aside0.mk (show ∀ j, V.ownBlock = some j → j < w.heap.size from hL.blt)
  replace c0 := Ext.cell hE0 c0
  obtain ⟨bx, hbx⟩ : ∃ bx, bx = w.heap.size := ⟨_, rfl⟩
  obtain ⟨w1, hw1⟩ : ∃ w1, w1 = w.alloc (.cells #[.bool false, .int .i64 (k : Int), .slice A 32 c] 34) := ⟨_, rfl⟩
  rw [← hbx] at HB
  rw [← hw1] at HB HE0 c0 HAV HOR HRD
  have HW1 := Aside0.mk hw1
  have HBX := Aside0.mk hbx
  have cb0 := HB.out.cell 0 (v := .bool false) rfl
  have cb1 := HB.out.cell 1 (v := .int .i64 (k : Int)) rfl
  have cb2 := HB.out.cell 2 (v := .slice A 32 c) rfl
  have HI71 := Aside0.mk (fun (p : Ch) (hp : p.2.2.length = 32) => show (Try.prog.info? 71).map (·.size) = some (chL p).length from by rw [chL_len p hp]; kernel_rfl)
  clear h hL hll c1 hE0 hbx hw1 hr hn
  have hd0 : decide ((k : Int) < 0) = false := decide_eq_false (by omega)
  have hd1 : decide (n ≤ k) = false := decide_eq_false (by omega)
  go_enter Try.func9, Try.ntmps9
  go_wp2_with fail
  rw [← HW1.out, ← HBX.out]
  apply wp_region_facts 19 [RF.val _, RF.val _, RF.val _, RF.val _, RF.val _, RF.val _, RF.val _, RF.val _, RF.val _, RF.val _, RF.val _, RF.val _, RF.val _, RF.val _, RF.val _, RF.val _, RF.val _, RF.val _, RF.val _]
  case hm => kernel_rfl
  case hB => kernel_rfl
  simp only [List.take_succ_cons, List.take_zero, List.zip_cons_cons, List.zip_nil_left]
  (first | refine wpF_val rfl (fun w' hE hD => by unfold Yld; go_simp; exact ⟨Ext.refl _, rfl⟩) ?_ | refine wpF_valg (by rfl) (fun w' hE hD => by unfold Yld; go_simp; exact ⟨Ext.refl _, rfl⟩) ?_)
  (try simp only [Act.put, List.setIfInBounds_toArray, List.set_cons_zero, List.set_cons_succ])
  (first | refine wpF_val rfl (fun w' hE hD => by have hc1 := Ext.cell hE cb1; unfold Yld; go_simp; exact ⟨Ext.refl _, rfl⟩) ?_ | refine wpF_valg (by rfl) (fun w' hE hD => by have hc1 := Ext.cell hE cb1; unfold Yld; go_simp; exact ⟨Ext.refl _, rfl⟩) ?_)
  (try simp only [Act.put, List.setIfInBounds_toArray, List.set_cons_zero, List.set_cons_succ])
  (first | refine wpF_val rfl (fun w' hE hD => by unfold Yld; go_simp; exact ⟨Ext.refl _, rfl⟩) ?_ | refine wpF_valg (by rfl) (fun w' hE hD => by unfold Yld; go_simp; exact ⟨Ext.refl _, rfl⟩) ?_)
  (try simp only [Act.put, List.setIfInBounds_toArray, List.set_cons_zero, List.set_cons_succ])
  (first | refine wpF_val rfl (fun w' hE hD => by unfold Yld; go_simp; exact ⟨Ext.refl _, rfl⟩) ?_ | refine wpF_valg (by rfl) (fun w' hE hD => by unfold Yld; go_simp; exact ⟨Ext.refl _, rfl⟩) ?_)
  (try simp only [Act.put, List.setIfInBounds_toArray, List.set_cons_zero, List.set_cons_succ])
  (first | refine wpF_val rfl (fun w' hE hD => by unfold Yld; go_simp; exact ⟨Ext.refl _, rfl⟩) ?_ | refine wpF_valg (by rfl) (fun w' hE hD => by unfold Yld; go_simp; exact ⟨Ext.refl _, rfl⟩) ?_)
  (try simp only [Act.put, List.setIfInBounds_toArray, List.set_cons_zero, List.set_cons_succ])
  (first | refine wpF_val rfl (fun w' hE hD => by have hc1 := Ext.cell hE cb1; unfold Yld; go_simp; exact ⟨Ext.refl _, rfl⟩) ?_ | refine wpF_valg (by rfl) (fun w' hE hD => by have hc1 := Ext.cell hE cb1; unfold Yld; go_simp; exact ⟨Ext.refl _, rfl⟩) ?_)
  (try simp only [Act.put, List.setIfInBounds_toArray, List.set_cons_zero, List.set_cons_succ])
  (first | refine wpF_val rfl (fun w' hE hD => by unfold Yld; go_simp; exact ⟨Ext.refl _, rfl⟩) ?_ | refine wpF_valg (by rfl) (fun w' hE hD => by unfold Yld; go_simp; exact ⟨Ext.refl _, rfl⟩) ?_)
  (try simp only [Act.put, List.setIfInBounds_toArray, List.set_cons_zero, List.set_cons_succ])
  (first | refine wpF_val rfl (fun w' hE hD => by unfold Yld; go_simp; exact ⟨Ext.refl _, rfl⟩) ?_ | refine wpF_valg (by rfl) (fun w' hE hD => by unfold Yld; go_simp; exact ⟨Ext.refl _, rfl⟩) ?_)
  (try simp only [Act.put, List.setIfInBounds_toArray, List.set_cons_zero, List.set_cons_succ])
  (first | refine wpF_val rfl (fun w' hE hD => by unfold Yld; go_simp; exact ⟨Ext.refl _, rfl⟩) ?_ | refine wpF_valg (by rfl) (fun w' hE hD => by unfold Yld; go_simp; exact ⟨Ext.refl _, rfl⟩) ?_)
  (try simp only [Act.put, List.setIfInBounds_toArray, List.set_cons_zero, List.set_cons_succ])
  (first | refine wpF_val rfl (fun w' hE hD => by have hc0 := Ext.cell hE c0; unfold Yld; go_simp; exact ⟨Ext.refl _, rfl⟩) ?_ | refine wpF_valg (by rfl) (fun w' hE hD => by have hc0 := Ext.cell hE c0; unfold Yld; go_simp; exact ⟨Ext.refl _, rfl⟩) ?_)
  (try simp only [Act.put, List.setIfInBounds_toArray, List.set_cons_zero, List.set_cons_succ])
  (first | refine wpF_val rfl (fun w' hE hD => by unfold Yld; go_simp; exact ⟨Ext.refl _, rfl⟩) ?_ | refine wpF_valg (by rfl) (fun w' hE hD => by unfold Yld; go_simp; exact ⟨Ext.refl _, rfl⟩) ?_)
  (try simp only [Act.put, List.setIfInBounds_toArray, List.set_cons_zero, List.set_cons_succ])
  (first | refine wpF_val rfl (fun w' hE hD => by unfold Yld; go_simp; exact ⟨Ext.refl _, rfl⟩) ?_ | refine wpF_valg (by rfl) (fun w' hE hD => by unfold Yld; go_simp; exact ⟨Ext.refl _, rfl⟩) ?_)
  (try simp only [Act.put, List.setIfInBounds_toArray, List.set_cons_zero, List.set_cons_succ])
  (first | refine wpF_val rfl (fun w' hE hD => by unfold Yld; go_simp; exact ⟨Ext.refl _, rfl⟩) ?_ | refine wpF_valg (by rfl) (fun w' hE hD => by unfold Yld; go_simp; exact ⟨Ext.refl _, rfl⟩) ?_)
  (try simp only [Act.put, List.setIfInBounds_toArray, List.set_cons_zero, List.set_cons_succ])
  (first | refine wpF_val rfl (fun w' hE hD => by unfold Yld; go_simp; exact ⟨Ext.refl _, rfl⟩) ?_ | refine wpF_valg (by rfl) (fun w' hE hD => by unfold Yld; go_simp; exact ⟨Ext.refl _, rfl⟩) ?_)
  (try simp only [Act.put, List.setIfInBounds_toArray, List.set_cons_zero, List.set_cons_succ])
  (first | refine wpF_val rfl (fun w' hE hD => by have hc2 := Ext.cell hE cb2; unfold Yld; go_simp; exact ⟨Ext.refl _, rfl⟩) ?_ | refine wpF_valg (by rfl) (fun w' hE hD => by have hc2 := Ext.cell hE cb2; unfold Yld; go_simp; exact ⟨Ext.refl _, rfl⟩) ?_)
  (try simp only [Act.put, List.setIfInBounds_toArray, List.set_cons_zero, List.set_cons_succ])
  (first | refine wpF_val rfl (fun w' hE hD => by unfold Yld; go_simp; exact ⟨Ext.refl _, rfl⟩) ?_ | refine wpF_valg (by rfl) (fun w' hE hD => by unfold Yld; go_simp; exact ⟨Ext.refl _, rfl⟩) ?_)
  (try simp only [Act.put, List.setIfInBounds_toArray, List.set_cons_zero, List.set_cons_succ])
  (first | refine wpF_val rfl (fun w' hE hD => by unfold Yld; go_simp; exact ⟨Ext.refl _, rfl⟩) ?_ | refine wpF_valg (by rfl) (fun w' hE hD => by unfold Yld; go_simp; exact ⟨Ext.refl _, rfl⟩) ?_)
  (try simp only [Act.put, List.setIfInBounds_toArray, List.set_cons_zero, List.set_cons_succ])
  (first | refine wpF_val rfl (fun w' hE hD => by unfold Yld; go_simp; exact ⟨Ext.refl _, rfl⟩) ?_ | refine wpF_valg (by rfl) (fun w' hE hD => by unfold Yld; go_simp; exact ⟨Ext.refl _, rfl⟩) ?_)
  (try simp only [Act.put, List.setIfInBounds_toArray, List.set_cons_zero, List.set_cons_succ])
  (first | refine wpF_val rfl (fun w' hE hD => by unfold Yld; go_simp; exact ⟨Ext.refl _, rfl⟩) ?_ | refine wpF_valg (by rfl) (fun w' hE hD => by unfold Yld; go_simp; exact ⟨Ext.refl _, rfl⟩) ?_)
  (try simp only [Act.put, List.setIfInBounds_toArray, List.set_cons_zero, List.set_cons_succ])
  refine wpF_nil fun w2 hE2 hA => ?_
  refine (show wpList _ _ _ [] _ _ from ?_)
  have HE2 := Aside0.mk (HE0.out.trans hE2)
  have HB2 := Aside0.mk (HB.out.ext hE2)
  have HAV2 := Aside0.mk (HAV.out.ext hE2)
  have HOR2 := Aside0.mk (HOR.out.ext hE2)
  have HRD2 := Aside0.mk (Kd.C_below HRD.out hE2)
  clear hE2 hA c0 cb0 cb1 cb2 HB HE0 HAV HOR HRD hd0 hd1
  have cb0 := HB2.out.cell 0 (v := .bool false) rfl
  have cb1 := HB2.out.cell 1 (v := .int .i64 (k : Int)) rfl
  have cb2 := HB2.out.cell 2 (v := .slice A 32 c) rfl
  go_wp2_with (first | ((with_reducible refine gate_build (ty := 71) rfl ?_); refine build_at rfl 71 _ rfl (chL (false, (k : Int), z32)).toArray _ rfl (built71 _ _) ?_) | ((with_reducible refine gate_alloc (ty := 71) rfl ?_); refine alloc_at rfl 71 rfl _ zero71 ?_) | ((with_reducible refine gate_store (ty := 71) rfl ?_); refine store_at rfl 71 _ _ rfl w2.heap.size (chL (false, (k : Int), z32)) rfl rfl (chL (false, 0, z32)).toArray 71 (Blk.new _ _ _) (by rw [List.size_toArray, chL_len _ z32_len, chL_len _ z32_len]) (HI71.out _ z32_len) (chL_one _) ?_) | fail)
  intro w3 hW3 hb3
  obtain ⟨b6, hb6⟩ : ∃ z, z = w2.heap.size := ⟨_, rfl⟩
  rw [← hb6] at hW3 hb3 ⊢
  have HE3 := Aside0.mk (show Ext w2 w3 from (Chg.of_wrote (S := fun j => j = b6) hW3 rfl).to_ext ((Ext.refl w2).alloc _) (fun j hj => by rw [hj, hb6]; exact Nat.le_refl _))
  have HB63 := Aside0.mk hb3
  have HB3 := Aside0.mk (HB2.out.ext HE3.out)
  have HAV3 := Aside0.mk (HAV2.out.ext HE3.out)
  have HOR3 := Aside0.mk (HOR2.out.ext HE3.out)
  have HRD3 := Aside0.mk (Kd.C_below HRD2.out HE3.out)
  have HC3 := Aside0.mk (show Ext w w3 from HE2.out.trans HE3.out)
  have HN6 := Aside0.mk (show ¬ bx = b6 ∧ ¬ ba = b6 ∧ ∀ j, V.ownBlock = some j → j ≠ b6 from ⟨by have := HB2.out.lt; omega, by have := HAV2.out.lt; omega, fun j hj => by have := HOR2.out.blt j hj; omega⟩)
  have HNW6 := Aside0.mk (show w.heap.size ≤ b6 from by rw [hb6]; exact HE2.out.size)
  clear hW3 hb3 hb6 HB2 HAV2 HOR2 HRD2 HE2 HE3 cb0 cb1 cb2
  go_wp2_with fail
  apply wp_region_G 5 4 (fun a b' => Chg a b' (fun j => j = b6)) (fun a b h => Chg.of_ext h _) (fun a b c h k => h.trans k) [GF.val _, GF.val _, GF.val _, GF.val _, GF.fact true (fun u w' => Blk w' b6 (chL (false, (k : Int), xs)).toArray 71)]
  case hm => kernel_rfl
  case hB => kernel_rfl
  simp only [List.take_succ_cons, List.take_zero, List.zip_cons_cons, List.zip_nil_left]
  refine wpG_val (by rfl) (by decide) (fun w' hE hD => by unfold YldG; go_simp; exact ⟨Ext.refl _, rfl⟩) ?_
  (try simp only [Act.put, List.setIfInBounds_toArray, List.set_cons_zero, List.set_cons_succ])
  refine wpG_val (by rfl) (by decide) (fun w' hE hD => by unfold YldG; go_simp; exact ⟨Ext.refl _, rfl⟩) ?_
  (try simp only [Act.put, List.setIfInBounds_toArray, List.set_cons_zero, List.set_cons_succ])
  refine wpG_val (by rfl) (by decide) (fun w' hE hD => by unfold YldG; go_simp; exact ⟨Ext.refl _, rfl⟩) ?_
  (try simp only [Act.put, List.setIfInBounds_toArray, List.set_cons_zero, List.set_cons_succ])
  refine wpG_val (by rfl) (by decide) (fun w' hE hD => by have hcx := (hE.blk HB3.out HN6.out.1).cell 2 (v := .slice A 32 c) rfl; unfold YldG; go_simp; exact ⟨Ext.refl _, rfl⟩) ?_
  (try simp only [Act.put, List.setIfInBounds_toArray, List.set_cons_zero, List.set_cons_succ])
  refine wpG_here (by rfl) (by decide) (fun u Wa Wb h he => Blk.ext h he) (fun w' hE hD => by obtain ⟨ad, hA, hcell⟩ := u8_cells (Kd.C_below HRD3.out hE) (by decide); subst hA; obtain ⟨w2', e2, hw2, hb2⟩ := setRow_splice (HB63.out.ext hE) 2 (u8s xs); subst e2; exact YldG_copy (.tmp 34) (.tmp 36) 31 31 rfl _ _ (run_copy_row Try.prog w' 31 31 _ 5 b6 2 32 32 ad 32 c _ 71 (u8s xs) Try.underlying31 (by kernel_rfl) (HB63.out.ext hE).is (by rw [u8s_len, HDL.out]; rfl) hcell (by rw [u8s_len, HDL.out, List.size_toArray, chL_len _ z32_len]; decide) (fun v hv => one_u8 xs v (by simpa using hv))) (Chg.of_wrote hw2 rfl) (by have hb3 := hb2; rw [chL_splice false (k : Int) z32 xs z32_len HDL.out] at hb3; exact hb3)) (fun u37 => ?_)
  (try simp only [Act.put, List.setIfInBounds_toArray, List.set_cons_zero, List.set_cons_succ])
  refine wpG_nil fun w4 hC4 hA => ?_
  refine (show wpList _ _ _ [] _ _ from ?_)
  have HB64 := Aside0.mk (hA.1 rfl)
  have HB4 := Aside0.mk (hC4.blk HB3.out HN6.out.1)
  have HAV4 := Aside0.mk (HAV3.out.chg hC4 HN6.out.2.1)
  have HOR4 := Aside0.mk (HOR3.out.chg hC4 HN6.out.2.2)
  have HC4 := Aside0.mk (show Ext w w4 from hC4.to_ext HC3.out (fun j hj => by rw [hj]; exact HNW6.out))
  clear hC4 hA HB63 HB3 HAV3 HOR3 HC3 HRD3
  obtain ⟨cs, hblk, hac⟩ := HAV4.out
  have HBA4 := Aside0.mk hblk
  have HAC := Aside0.mk hac
  have HRG6 := Aside0.mk (fun (W : World) (h : Blk W b6 (chL (false, (k : Int), xs)).toArray 71) => show W.rangeAt b6 0 (chL (false, (k : Int), xs)) from h.whole)
  clear hblk hac HAV4
  go_wp2_with fail
  apply wp_region_G 5 4 (fun a b' => Chg a b' (fun j => j = ba)) (fun a b h => Chg.of_ext h _) (fun a b c h k => h.trans k) [GF.val _, GF.val _, GF.val _, GF.val _, GF.fact true (fun u w' => Blk w' ba (doC cs 2113 false k xs) 66)]
  case hm => kernel_rfl
  case hB => kernel_rfl
  simp only [List.take_succ_cons, List.take_zero, List.zip_cons_cons, List.zip_nil_left]
  refine wpG_val (by rfl) (by decide) (fun w' hE hD => by unfold YldG; go_simp; exact ⟨Ext.refl _, rfl⟩) ?_
  (try simp only [Act.put, List.setIfInBounds_toArray, List.set_cons_zero, List.set_cons_succ])
  refine wpG_val (by rfl) (by decide) (fun w' hE hD => by unfold YldG; go_simp; exact ⟨Ext.refl _, rfl⟩) ?_
  (try simp only [Act.put, List.setIfInBounds_toArray, List.set_cons_zero, List.set_cons_succ])
  refine wpG_val (by rfl) (by decide) (fun w' hE hD => by unfold YldG; go_simp; exact ⟨Ext.refl _, rfl⟩) ?_
  (try simp only [Act.put, List.setIfInBounds_toArray, List.set_cons_zero, List.set_cons_succ])
  refine wpG_val (by rfl) (by decide) (fun w' hE hD => YldG_load 71 _ rfl b6 0 rfl (chL (false, (k : Int), xs)) _ (HRG6.out w' (hE.blk HB64.out (fun e => HN6.out.2.1 e.symm))) Try.underlying71 rfl (HI71.out _ HDL.out)) ?_
  (try simp only [Act.put, List.setIfInBounds_toArray, List.set_cons_zero, List.set_cons_succ])
  refine wpG_here (by rfl) (by decide) (fun u Wa Wb h he => Blk.ext h he) (fun w' hE hD => by unfold YldG; go_simp; exact (bdo_calls w' ba 2113 66 cs R' M' (HBA4.out.ext hE) HAC.out.no (by rw [HAC.out.sz]; decide) false k xs HK64.out HDL.out).mono fun e w2 h => ⟨_, h.1, h.2.2, h.2.1⟩) (fun u42 => ?_)
  (try simp only [Act.put, List.setIfInBounds_toArray, List.set_cons_zero, List.set_cons_succ])
  refine wpG_nil fun w5 hC5 hA => ?_
  refine (show wpList _ _ _ [] _ _ from ?_)
  have HBA5 := Aside0.mk (hA.1 rfl)
  have HB65 := Aside0.mk (hC5.blk HB64.out (fun e => HN6.out.2.1 e.symm))
  have HNV := Aside0.mk (show ∀ j, V.ownBlock = some j → ¬ j = ba from fun j hj e => by
    obtain ⟨cells, hcl⟩ := HOR4.out.typed j hj
    rw [e] at hcl
    have := HBA4.out.is.symm.trans hcl
    injection this with this
    injection this with _ h9
    cases h9)
  have HOR5 := Aside0.mk (HOR4.out.chg hC5 HNV.out)
  have HC5 := Aside0.mk (show Chg w w5 (fun j => j = ba ∨ V.ownBlock = some j) from (Chg.of_ext HC4.out _).trans (hC5.mono (fun j hj => .inl hj)))
  have HAC5 := Aside0.mk (HAC.out.do false k xs HK64.out HDL.out)
  clear hC5 hA HBA4 HB64 HOR4 HC4 HAC HB4
  have cV := HBA5.out.cell 4225 (v := V) HAC5.out.op
  go_wp2_with fail
  apply wp_region_G 8 7 (fun a b' => Chg a b' (fun j => V.ownBlock = some j)) (fun a b h => Chg.of_ext h _) (fun a b c h k => h.trans k) [GF.val _, GF.val _, GF.val _, GF.val _, GF.val _, GF.val _, GF.fact false (fun u w' => BsQ w5.heap.size (false, (k : Int), xs) u w'), GF.fact true (fun u w' => OR w' u (L ++ [(false, (k : Int), xs)]) ∧ OwnQ V w.heap.size u)]
  case hm => kernel_rfl
  case hB => kernel_rfl
  simp only [List.take_succ_cons, List.take_zero, List.zip_cons_cons, List.zip_nil_left]
  refine wpG_val (by rfl) (by decide) (fun w' hE hD => by unfold YldG; go_simp; exact ⟨Ext.refl _, rfl⟩) ?_
  (try simp only [Act.put, List.setIfInBounds_toArray, List.set_cons_zero, List.set_cons_succ])
  refine wpG_val (by rfl) (by decide) (fun w' hE hD => by unfold YldG; go_simp; exact ⟨Ext.refl _, rfl⟩) ?_
  (try simp only [Act.put, List.setIfInBounds_toArray, List.set_cons_zero, List.set_cons_succ])
  refine wpG_val (by rfl) (by decide) (fun w' hE hD => by unfold YldG; go_simp; exact ⟨Ext.refl _, rfl⟩) ?_
  (try simp only [Act.put, List.setIfInBounds_toArray, List.set_cons_zero, List.set_cons_succ])
  refine wpG_val (by rfl) (by decide) (fun w' hE hD => by unfold YldG; go_simp; exact ⟨Ext.refl _, rfl⟩) ?_
  (try simp only [Act.put, List.setIfInBounds_toArray, List.set_cons_zero, List.set_cons_succ])
  refine wpG_val (by rfl) (by decide) (fun w' hE hD => by have hcv := (hE.blk HBA5.out (fun h => HNV.out _ h rfl)).cell 4225 (v := V) HAC5.out.op; unfold YldG; go_simp; exact ⟨Ext.refl _, rfl⟩) ?_
  (try simp only [Act.put, List.setIfInBounds_toArray, List.set_cons_zero, List.set_cons_succ])
  refine wpG_val (by rfl) (by decide) (fun w' hE hD => YldG_load 71 _ rfl b6 0 rfl (chL (false, (k : Int), xs)) _ (HRG6.out w' (hE.blk HB65.out (fun h => HN6.out.2.2 _ h rfl))) Try.underlying71 rfl (HI71.out _ HDL.out)) ?_
  (try simp only [Act.put, List.setIfInBounds_toArray, List.set_cons_zero, List.set_cons_succ])
  refine wpG_fact (by rfl) (by decide) (fun h => by cases h) (fun u Wa Wb h he => h.ext he) (fun w' hE hD => YldG_slice1 (.tmp 48) rfl (false, (k : Int), xs) rfl HDL.out _ hE.size) (fun u49 => ?_)
  (try simp only [Act.put, List.setIfInBounds_toArray, List.set_cons_zero, List.set_cons_succ])
  refine wpG_here (by rfl) (by decide) (fun u Wa Wb h he => ⟨OR.ext h.1 he, h.2⟩) (fun w' hE hD => by obtain ⟨b9, e9, hn9, hb9⟩ := hD.1 rfl (by kernel_rfl); subst e9; exact YldG_appK kH _ _ 64 71 _ 48 rfl Try.underlying64 info71 (by show (chL (false, 0, z32)).toArray.size = 34; rw [List.size_toArray, chL_len _ z32_len]) (by decide) (by decide) V ⟨b9, 0, none⟩ rfl rfl 0 L (false, (k : Int), xs) (chL (false, (k : Int), xs)) (fun _ => False) (HOR5.out.ext hE) (ch_M _ _ _ _ HDL.out) (fun _ h => h.elim) (fun j u hu => addr0_cell hb9 hu) (Nat.zero_le _) (by have := HLL.out; omega) (fun w2 hg => Chg.of_grown hg (fun j hj => hj)) w.heap.size (Nat.le_trans HC5.out.size hE.size)) (fun u50 => ?_)
  (try simp only [Act.put, List.setIfInBounds_toArray, List.set_cons_zero, List.set_cons_succ])
  refine wpG_nil fun w6 hC6 hA => ?_
  simp only [List.drop_succ_cons, List.drop_zero]
  have HRV := Aside0.mk (hA.2.1 rfl).1
  have HOQ := Aside0.mk (hA.2.1 rfl).2
  have HBA6 := Aside0.mk (hC6.blk HBA5.out (fun h => HNV.out _ h rfl))
  have HC6 := Aside0.mk (HC5.out.trans (hC6.mono (fun j hj => .inr hj)))
  clear hC6 hA HBA5 HB65 HOR5 HC5 cV
  obtain ⟨nl, hnl⟩ : ∃ nl, nl = (L ++ [(false, (k : Int), xs)]).length := ⟨_, rfl⟩
  obtain ⟨AN, cN, eN, _, _⟩ := OR.nat HRV.out hnl
  subst eN
  have cV := HBA6.out.cell 4225 (v := V) HAC5.out.op
  obtain ⟨va, vb, vd, hVe⟩ := HVN.out
  rw [hVe] at cV
  have fV := HBA6.out.free 4225
  have HFA := Aside0.mk (show AV (w6.setCell ⟨ba, 4225, none⟩ (.slice AN nl cN)) ba n R M (upd R' k xs) (upd M' k (!false)) (.slice AN nl cN) from ⟨_, HBA6.out.set 4225 (.slice AN nl cN), HAC5.out.setV (.slice AN nl cN)⟩)
  have hcw := Chg.of_wrote (S := fun j => j = ba ∨ V.ownBlock = some j) (Wrote.setCell w6 ba 4225 (.slice AN nl cN)) (.inl rfl)
  have HFO := Aside0.mk (show OR (w6.setCell ⟨ba, 4225, none⟩ (.slice AN nl cN)) (.slice AN nl cN) (L ++ [(false, (k : Int), xs)]) from OR.chg (S := fun j => j = ba) HRV.out (Chg.of_wrote (Wrote.setCell w6 ba 4225 (.slice AN nl cN)) rfl) (fun j hj e => by
    obtain ⟨cells, hcl⟩ := OR.typed HRV.out j hj
    rw [e] at hcl
    have := HBA6.out.is.symm.trans hcl
    injection this with this
    injection this with _ h9
    cases h9))
  have HFC := Aside0.mk (HC6.out.trans hcw)
  clear hcw hnl hVe HRV HBA6 HC6
  go_wp2
  go_ret
  exact ⟨_, rfl, HFA.out, HFO.out, HFC.out, HOQ.out⟩
end
end Go.Proofs.Ytielnpmnnifjcaa.By
