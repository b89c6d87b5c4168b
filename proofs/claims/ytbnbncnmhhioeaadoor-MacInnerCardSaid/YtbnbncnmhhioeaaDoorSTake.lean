/- The program's step over a row: sha.take. -/
import Derived.Test.YtbnbncnmhhioeaaDoorSha
import Derived.Test.YtbnbncnmhhioeaaDoorGate2
namespace Go.Proofs.YtbnbncnmhhioeaaDoor.By
open Go.RowKit Go.Proofs.YtbnbncnmhhioeaaDoor.Reg Go.Proofs.YtbnbncnmhhioeaaDoorW.PrintWords Go.Proofs.YtbnbncnmhhioeaaDoorW.PrintLast Go.Proofs.YtbnbncnmhhioeaaDoorW.PrintMore
set_option linter.unusedVariables false

theorem wrapAd (x y : Int) : IntKind.u32.wrap (x + y) = ad x y := rfl
theorem wrapI {x : Int} (h0 : -9223372036854775808 ≤ x) (h1 : x ≤ 9223372036854775807) : IntKind.i64.wrap x = x := by
  show (if (true && decide (x % 18446744073709551616 ≥ 9223372036854775808)) = true then x % 18446744073709551616 - 18446744073709551616 else x % 18446744073709551616) = x
  rw [Bool.true_and]
  split
  · rename_i h; have := of_decide_eq_true h; omega
  · rename_i h; have : ¬ x % 18446744073709551616 ≥ 9223372036854775808 := fun hh => h (decide_eq_true hh); omega
theorem first16_length (b : List Int) : ∀ n, (first16 b n).length = n
  | 0 => rfl
  | n + 1 => by simp [first16, first16_length b n]
theorem wordsA_length (w : List Int) : ∀ n, (wordsA n w).length = w.length + n
  | 0 => rfl
  | n + 1 => by simp [wordsA, wordsA_length w n]; omega
/-- A list with noughts behind it, up to n. -/
def upto (n : Nat) (l : List Int) : List Int := l ++ List.replicate (n - l.length) 0
theorem upto_length (n : Nat) (l : List Int) (h : l.length ≤ n) : (upto n l).length = n := by simp [upto]; omega
theorem upto_set (n : Nat) (l : List Int) (v : Int) (k : IntKind) (h : l.length < n) : (nums k (upto n l)).toArray.setIfInBounds l.length (.int k v) = (nums k (upto n (l ++ [v]))).toArray := by
  rw [List.setIfInBounds_toArray]
  congr 1
  unfold upto nums
  have e : List.replicate (n - l.length) (0 : Int) = 0 :: List.replicate (n - (l ++ [v]).length) 0 := by
    rw [← List.replicate_succ]; congr 1; simp; omega
  rw [e, List.map_append, List.set_append_right _ _ (by simp), List.length_map, Nat.sub_self, List.map_cons, List.set_cons_zero]
  simp
theorem upto_at (n : Nat) (l : List Int) (i : Nat) (k : IntKind) (h : i < l.length) : (nums k (upto n l)).toArray[i]? = some (.int k (rd l i)) := by
  unfold upto nums rd
  rw [List.getElem?_toArray, List.getElem?_map, List.getElem?_append_left h]
  simp [h]
theorem upto_there (n : Nat) (l : List Int) (i : Nat) (k : IntKind) (h : i < n) (hl : l.length ≤ n) : ∃ v, (nums k (upto n l)).toArray[i]? = some v := by
  refine ⟨_, List.getElem?_toArray .. |>.trans (List.getElem?_eq_getElem (by rw [nums_length, upto_length n l hl]; exact h))⟩
theorem rotr_n (n x : Int) (h0 : 0 ≤ n) (h1 : n ≤ 32) (w : World) : Calls Tryd.prog 42 #[.int .u64 n, .int .u32 x] w fun e w' => e = .returned (.int .u32 (rotF n x)) ∧ Ext w w' :=
  (PShaAdds.rillref01_rotr.calls n x (rotF n x) w (by unfold PShaAdds.rillref01_rotr.f rotF; rw [if_pos h0, if_pos (by simp [IntKind.wrap, IntKind.signed, IntKind.bits]; omega)])).mono fun e w' h => ⟨h.1, h.2.below⟩
theorem turn_n (n x : Int) (h0 : 0 ≤ n) (h1 : n ≤ 32) (w : World) : Calls Tryd.prog 43 #[.int .u32 x, .int .u64 n] w fun e w' => e = .returned (.int .u32 (rotF n x)) ∧ Ext w w' :=
  (PShaAdds.sha_turn.calls x n (rotF n x) w (by unfold PShaAdds.sha_turn.f rotF; rw [if_pos h0, if_pos (by simp [IntKind.wrap, IntKind.signed, IntKind.bits]; omega)])).mono fun e w' h => ⟨h.1, h.2.below⟩
theorem built_s8 (s : S8) : Program.built Tryd.prog 54 [(0, .int .u32 s.a), (1, .int .u32 s.b), (2, .int .u32 s.c), (3, .int .u32 s.d), (4, .int .u32 s.e), (5, .int .u32 s.f), (6, .int .u32 s.g), (7, .int .u32 s.h)] = some (nums .u32 s.l).toArray := by kernel_rfl
/-- A table of the constants. -/
def Tab (g : Nat) (w : World) : Prop := ∀ i : Nat, i < 64 → w.cell? ⟨g, i, none⟩ = some (.int .u32 (rd kL i))
theorem Tab.ext {g : Nat} {w w' : World} (h : Tab g w) (he : Ext w w') : Tab g w' := fun i hi => Ext.cell he (h i hi)
set_option maxRecDepth 100000 in
set_option maxHeartbeats 16000000 in
theorem take_calls (w : World) (s : S8) (A : Option Addr) (c : Nat) (b : List Int) (hl : b.length = 64) (hr : Kd.C kb w A 64 b) (hc : 64 ≤ c) (hT : Tab 1 w) (S : Value) (hS : S = .agg (nums .u32 s.l).toArray) :
    Calls Tryd.prog 38 #[S, .slice A 64 c] w fun e w' => e = .returned (.agg (nums .u32 (takeF s b).l).toArray) ∧ Ext w w' := by
  subst hS
  have HR := Aside0.mk hr
  have HT := Aside0.mk hT
  have HL := Aside0.mk hl
  have hs1 : (w.alloc (.cells (nums .u32 s.l).toArray 54)).heap.size = w.heap.size + 1 := size_alloc _ _
  have hs2 : ((w.alloc (.cells (nums .u32 s.l).toArray 54)).alloc (.cells (nums .u32 (List.replicate 8 0)).toArray 54)).heap.size = w.heap.size + 1 + 1 := by rw [size_alloc, hs1]
  have hk4 := Blk.new (w.alloc (.cells (nums .u32 s.l).toArray 54)) (nums .u32 (List.replicate 8 0)).toArray 54
  rw [hs1] at hk4
  have hk5 := Blk.new ((w.alloc (.cells (nums .u32 s.l).toArray 54)).alloc (.cells (nums .u32 (List.replicate 8 0)).toArray 54)) (nums .u32 (upto 64 (first16 b 0))).toArray 64
  rw [hs2] at hk5
  have HK2 := Aside0.mk (((Blk.new w (nums .u32 s.l).toArray 54).alloc (.cells (nums .u32 (List.replicate 8 0)).toArray 54)).alloc (.cells (nums .u32 (upto 64 (first16 b 0))).toArray 64))
  have HK4 := Aside0.mk (hk4.alloc (.cells (nums .u32 (upto 64 (first16 b 0))).toArray 64))
  have HK5 := Aside0.mk hk5
  have HE0 := Aside0.mk ((((Ext.refl w).alloc (.cells (nums .u32 s.l).toArray 54)).alloc (.cells (nums .u32 (List.replicate 8 0)).toArray 54)).alloc (.cells (nums .u32 (upto 64 (first16 b 0))).toArray 64))
  clear hT hr hl hs1 hs2 hk4 hk5
  go_enter Tryd.func38, Tryd.ntmps38
  go_wp2_with fail
  go_loopw [21] (fun i wr => ∃ x : Int, i = .int .i64 x ∧ Aside0 (0 ≤ x ∧ x ≤ 16) ∧ Aside0 (Blk wr w.heap.size (nums .u32 s.l).toArray 54) ∧ Aside0 (Blk wr (w.heap.size + 1) (nums .u32 (List.replicate 8 0)).toArray 54) ∧ Aside0 (Blk wr (w.heap.size + 1 + 1) (nums .u32 (upto 64 (first16 b x.toNat))).toArray 64) ∧ Aside0 (Ext w wr)) (fun i _ => 16 - (intOf i).toNat)
  case atStart => exact ⟨0, rfl, ⟨by decide⟩, HK2, HK4, HK5, HE0⟩
  case round =>
    clear HK2 HK4 HK5 HE0
    obtain ⟨x, rfl, HX, HK2, HK4, HK5, HE⟩ := hrel
    obtain ⟨g0, g1⟩ := HX.out
    obtain ⟨wx, hwx⟩ : ∃ wx : World, wx = wr := ⟨_, rfl⟩
    subst hwx
    by_cases hlt : x < 16
    · have hR := Kd.C_below HR.out HE.out
      obtain ⟨ad0, e0, h0⟩ := at_k hR (4 * x) (by omega) (by omega)
      subst e0
      have HC0 := Aside0.mk (show wx.cell? (ad0.add (4 * x).toNat) = some (.int .u8 (rd b (4 * x))) by obtain ⟨ad1, e1, h1⟩ := at_k hR (4 * x) (by omega) (by omega); rw [Option.some.inj e1]; exact h1)
      have HC1 := Aside0.mk (show wx.cell? (ad0.add ((4 * x) + 1).toNat) = some (.int .u8 (rd b ((4 * x) + 1))) by obtain ⟨ad1, e1, h1⟩ := at_k hR ((4 * x) + 1) (by omega) (by omega); rw [Option.some.inj e1]; exact h1)
      have HC2 := Aside0.mk (show wx.cell? (ad0.add ((4 * x) + 2).toNat) = some (.int .u8 (rd b ((4 * x) + 2))) by obtain ⟨ad1, e1, h1⟩ := at_k hR ((4 * x) + 2) (by omega) (by omega); rw [Option.some.inj e1]; exact h1)
      have HC3 := Aside0.mk (show wx.cell? (ad0.add ((4 * x) + 3).toNat) = some (.int .u8 (rd b ((4 * x) + 3))) by obtain ⟨ad1, e1, h1⟩ := at_k hR ((4 * x) + 3) (by omega) (by omega); rw [Option.some.inj e1]; exact h1)
      have HLT := Aside0.mk hlt
      clear hR h0
      go_wp2_with fail
      have hw0 := wrapI (x := (4 * x)) (by omega) (by omega)
      have hw1 := wrapI (x := ((4 * x) + 1)) (by omega) (by omega)
      have hw2 := wrapI (x := ((4 * x) + 2)) (by omega) (by omega)
      have hw3 := wrapI (x := ((4 * x) + 3)) (by omega) (by omega)
      have hl0 : 0 ≤ (4 * x) := by omega
      have hu0 : (4 * x) < 64 := by omega
      have hl1 : 0 ≤ ((4 * x) + 1) := by omega
      have hu1 : ((4 * x) + 1) < 64 := by omega
      have hl2 : 0 ≤ ((4 * x) + 2) := by omega
      have hu2 : ((4 * x) + 2) < 64 := by omega
      have hl3 : 0 ≤ ((4 * x) + 3) := by omega
      have hu3 : ((4 * x) + 3) < 64 := by omega
      apply wp_region_facts 34 [RF.val (.int .i64 x), RF.val (.slice (some ad0) 64 c), RF.val (.int .i64 x), RF.val (.int .i64 (4 * x)), RF.val (.pointer (some (ad0.add (4 * x).toNat))), RF.val (.int .u8 (rd b (4 * x))), RF.val (.int .u32 ((rd b (4 * x)) % 4294967296)), RF.val (.int .u32 (((rd b (4 * x)) % 4294967296) * 16777216 % 4294967296)), RF.val (.slice (some ad0) 64 c), RF.val (.int .i64 x), RF.val (.int .i64 (4 * x)), RF.val (.int .i64 ((4 * x) + 1)), RF.val (.pointer (some (ad0.add ((4 * x) + 1).toNat))), RF.val (.int .u8 (rd b ((4 * x) + 1))), RF.val (.int .u32 ((rd b ((4 * x) + 1)) % 4294967296)), RF.val (.int .u32 (((rd b ((4 * x) + 1)) % 4294967296) * 65536 % 4294967296)), RF.val (.int .u32 (Go.bits .or .u32 (((rd b (4 * x)) % 4294967296) * 16777216 % 4294967296) (((rd b ((4 * x) + 1)) % 4294967296) * 65536 % 4294967296))), RF.val (.slice (some ad0) 64 c), RF.val (.int .i64 x), RF.val (.int .i64 (4 * x)), RF.val (.int .i64 ((4 * x) + 2)), RF.val (.pointer (some (ad0.add ((4 * x) + 2).toNat))), RF.val (.int .u8 (rd b ((4 * x) + 2))), RF.val (.int .u32 ((rd b ((4 * x) + 2)) % 4294967296)), RF.val (.int .u32 (((rd b ((4 * x) + 2)) % 4294967296) * 256 % 4294967296)), RF.val (.int .u32 (Go.bits .or .u32 (Go.bits .or .u32 (((rd b (4 * x)) % 4294967296) * 16777216 % 4294967296) (((rd b ((4 * x) + 1)) % 4294967296) * 65536 % 4294967296)) (((rd b ((4 * x) + 2)) % 4294967296) * 256 % 4294967296))), RF.val (.slice (some ad0) 64 c), RF.val (.int .i64 x), RF.val (.int .i64 (4 * x)), RF.val (.int .i64 ((4 * x) + 3)), RF.val (.pointer (some (ad0.add ((4 * x) + 3).toNat))), RF.val (.int .u8 (rd b ((4 * x) + 3))), RF.val (.int .u32 ((rd b ((4 * x) + 3)) % 4294967296)), RF.val (.int .u32 (Go.bits .or .u32 (Go.bits .or .u32 (Go.bits .or .u32 (((rd b (4 * x)) % 4294967296) * 16777216 % 4294967296) (((rd b ((4 * x) + 1)) % 4294967296) * 65536 % 4294967296)) (((rd b ((4 * x) + 2)) % 4294967296) * 256 % 4294967296)) ((rd b ((4 * x) + 3)) % 4294967296)))] (by kernel_rfl) (by kernel_rfl)
      simp only [List.take_succ_cons, List.take_zero, List.zip_cons_cons, List.zip_nil_left]
      (first | apply wpF_val rfl | apply wpF_valg (by rfl)); (intro w' hE hD; unfold Yld; go_simp; exact ⟨Ext.refl _, rfl⟩); (try simp only [Act.put, List.setIfInBounds_toArray, List.set_cons_zero, List.set_cons_succ])
      (first | apply wpF_val rfl | apply wpF_valg (by rfl)); (intro w' hE hD; unfold Yld; go_simp; exact ⟨Ext.refl _, rfl⟩); (try simp only [Act.put, List.setIfInBounds_toArray, List.set_cons_zero, List.set_cons_succ])
      (first | apply wpF_val rfl | apply wpF_valg (by rfl)); (intro w' hE hD; unfold Yld; go_simp; exact ⟨Ext.refl _, rfl⟩); (try simp only [Act.put, List.setIfInBounds_toArray, List.set_cons_zero, List.set_cons_succ])
      (first | apply wpF_val rfl | apply wpF_valg (by rfl)); (intro w' hE hD; unfold Yld; go_simp; exact ⟨Ext.refl _, rfl⟩); (try simp only [Act.put, List.setIfInBounds_toArray, List.set_cons_zero, List.set_cons_succ])
      (first | apply wpF_val rfl | apply wpF_valg (by rfl)); (intro w' hE hD; unfold Yld; go_simp; exact ⟨Ext.refl _, rfl⟩); (try simp only [Act.put, List.setIfInBounds_toArray, List.set_cons_zero, List.set_cons_succ])
      (first | apply wpF_val rfl | apply wpF_valg (by rfl)); (intro w' hE hD; have hcx := Ext.cell hE HC0.out; unfold Yld; go_simp; exact ⟨Ext.refl _, rfl⟩); (try simp only [Act.put, List.setIfInBounds_toArray, List.set_cons_zero, List.set_cons_succ])
      (first | apply wpF_val rfl | apply wpF_valg (by rfl)); (intro w' hE hD; unfold Yld; go_simp; exact ⟨Ext.refl _, rfl⟩); (try simp only [Act.put, List.setIfInBounds_toArray, List.set_cons_zero, List.set_cons_succ])
      (first | apply wpF_val rfl | apply wpF_valg (by rfl)); (intro w' hE hD; unfold Yld; go_simp; exact ⟨Ext.refl _, rfl⟩); (try simp only [Act.put, List.setIfInBounds_toArray, List.set_cons_zero, List.set_cons_succ])
      (first | apply wpF_val rfl | apply wpF_valg (by rfl)); (intro w' hE hD; unfold Yld; go_simp; exact ⟨Ext.refl _, rfl⟩); (try simp only [Act.put, List.setIfInBounds_toArray, List.set_cons_zero, List.set_cons_succ])
      (first | apply wpF_val rfl | apply wpF_valg (by rfl)); (intro w' hE hD; unfold Yld; go_simp; exact ⟨Ext.refl _, rfl⟩); (try simp only [Act.put, List.setIfInBounds_toArray, List.set_cons_zero, List.set_cons_succ])
      (first | apply wpF_val rfl | apply wpF_valg (by rfl)); (intro w' hE hD; unfold Yld; go_simp; exact ⟨Ext.refl _, rfl⟩); (try simp only [Act.put, List.setIfInBounds_toArray, List.set_cons_zero, List.set_cons_succ])
      (first | apply wpF_val rfl | apply wpF_valg (by rfl)); (intro w' hE hD; unfold Yld; go_simp; exact ⟨Ext.refl _, rfl⟩); (try simp only [Act.put, List.setIfInBounds_toArray, List.set_cons_zero, List.set_cons_succ])
      (first | apply wpF_val rfl | apply wpF_valg (by rfl)); (intro w' hE hD; unfold Yld; go_simp; exact ⟨Ext.refl _, rfl⟩); (try simp only [Act.put, List.setIfInBounds_toArray, List.set_cons_zero, List.set_cons_succ])
      (first | apply wpF_val rfl | apply wpF_valg (by rfl)); (intro w' hE hD; have hcx := Ext.cell hE HC1.out; unfold Yld; go_simp; exact ⟨Ext.refl _, rfl⟩); (try simp only [Act.put, List.setIfInBounds_toArray, List.set_cons_zero, List.set_cons_succ])
      (first | apply wpF_val rfl | apply wpF_valg (by rfl)); (intro w' hE hD; unfold Yld; go_simp; exact ⟨Ext.refl _, rfl⟩); (try simp only [Act.put, List.setIfInBounds_toArray, List.set_cons_zero, List.set_cons_succ])
      (first | apply wpF_val rfl | apply wpF_valg (by rfl)); (intro w' hE hD; unfold Yld; go_simp; exact ⟨Ext.refl _, rfl⟩); (try simp only [Act.put, List.setIfInBounds_toArray, List.set_cons_zero, List.set_cons_succ])
      (first | apply wpF_val rfl | apply wpF_valg (by rfl)); (intro w' hE hD; unfold Yld; go_simp; exact ⟨Ext.refl _, rfl⟩); (try simp only [Act.put, List.setIfInBounds_toArray, List.set_cons_zero, List.set_cons_succ])
      (first | apply wpF_val rfl | apply wpF_valg (by rfl)); (intro w' hE hD; unfold Yld; go_simp; exact ⟨Ext.refl _, rfl⟩); (try simp only [Act.put, List.setIfInBounds_toArray, List.set_cons_zero, List.set_cons_succ])
      (first | apply wpF_val rfl | apply wpF_valg (by rfl)); (intro w' hE hD; unfold Yld; go_simp; exact ⟨Ext.refl _, rfl⟩); (try simp only [Act.put, List.setIfInBounds_toArray, List.set_cons_zero, List.set_cons_succ])
      (first | apply wpF_val rfl | apply wpF_valg (by rfl)); (intro w' hE hD; unfold Yld; go_simp; exact ⟨Ext.refl _, rfl⟩); (try simp only [Act.put, List.setIfInBounds_toArray, List.set_cons_zero, List.set_cons_succ])
      (first | apply wpF_val rfl | apply wpF_valg (by rfl)); (intro w' hE hD; unfold Yld; go_simp; exact ⟨Ext.refl _, rfl⟩); (try simp only [Act.put, List.setIfInBounds_toArray, List.set_cons_zero, List.set_cons_succ])
      (first | apply wpF_val rfl | apply wpF_valg (by rfl)); (intro w' hE hD; unfold Yld; go_simp; exact ⟨Ext.refl _, rfl⟩); (try simp only [Act.put, List.setIfInBounds_toArray, List.set_cons_zero, List.set_cons_succ])
      (first | apply wpF_val rfl | apply wpF_valg (by rfl)); (intro w' hE hD; have hcx := Ext.cell hE HC2.out; unfold Yld; go_simp; exact ⟨Ext.refl _, rfl⟩); (try simp only [Act.put, List.setIfInBounds_toArray, List.set_cons_zero, List.set_cons_succ])
      (first | apply wpF_val rfl | apply wpF_valg (by rfl)); (intro w' hE hD; unfold Yld; go_simp; exact ⟨Ext.refl _, rfl⟩); (try simp only [Act.put, List.setIfInBounds_toArray, List.set_cons_zero, List.set_cons_succ])
      (first | apply wpF_val rfl | apply wpF_valg (by rfl)); (intro w' hE hD; unfold Yld; go_simp; exact ⟨Ext.refl _, rfl⟩); (try simp only [Act.put, List.setIfInBounds_toArray, List.set_cons_zero, List.set_cons_succ])
      (first | apply wpF_val rfl | apply wpF_valg (by rfl)); (intro w' hE hD; unfold Yld; go_simp; exact ⟨Ext.refl _, rfl⟩); (try simp only [Act.put, List.setIfInBounds_toArray, List.set_cons_zero, List.set_cons_succ])
      (first | apply wpF_val rfl | apply wpF_valg (by rfl)); (intro w' hE hD; unfold Yld; go_simp; exact ⟨Ext.refl _, rfl⟩); (try simp only [Act.put, List.setIfInBounds_toArray, List.set_cons_zero, List.set_cons_succ])
      (first | apply wpF_val rfl | apply wpF_valg (by rfl)); (intro w' hE hD; unfold Yld; go_simp; exact ⟨Ext.refl _, rfl⟩); (try simp only [Act.put, List.setIfInBounds_toArray, List.set_cons_zero, List.set_cons_succ])
      (first | apply wpF_val rfl | apply wpF_valg (by rfl)); (intro w' hE hD; unfold Yld; go_simp; exact ⟨Ext.refl _, rfl⟩); (try simp only [Act.put, List.setIfInBounds_toArray, List.set_cons_zero, List.set_cons_succ])
      (first | apply wpF_val rfl | apply wpF_valg (by rfl)); (intro w' hE hD; unfold Yld; go_simp; exact ⟨Ext.refl _, rfl⟩); (try simp only [Act.put, List.setIfInBounds_toArray, List.set_cons_zero, List.set_cons_succ])
      (first | apply wpF_val rfl | apply wpF_valg (by rfl)); (intro w' hE hD; unfold Yld; go_simp; exact ⟨Ext.refl _, rfl⟩); (try simp only [Act.put, List.setIfInBounds_toArray, List.set_cons_zero, List.set_cons_succ])
      (first | apply wpF_val rfl | apply wpF_valg (by rfl)); (intro w' hE hD; have hcx := Ext.cell hE HC3.out; unfold Yld; go_simp; exact ⟨Ext.refl _, rfl⟩); (try simp only [Act.put, List.setIfInBounds_toArray, List.set_cons_zero, List.set_cons_succ])
      (first | apply wpF_val rfl | apply wpF_valg (by rfl)); (intro w' hE hD; unfold Yld; go_simp; exact ⟨Ext.refl _, rfl⟩); (try simp only [Act.put, List.setIfInBounds_toArray, List.set_cons_zero, List.set_cons_succ])
      (first | apply wpF_val rfl | apply wpF_valg (by rfl)); (intro w' hE hD; unfold Yld; go_simp; exact ⟨Ext.refl _, rfl⟩); (try simp only [Act.put, List.setIfInBounds_toArray, List.set_cons_zero, List.set_cons_succ])
      refine wpF_nil fun w5 hE hA => ?_
      have hb5 := HK5.out.ext hE
      obtain ⟨v0, hv0⟩ := upto_there 64 (first16 b x.toNat) x.toNat .u32 (by omega) (by rw [first16_length]; omega)
      have hcl := hb5.cell x.toNat hv0
      have hfr := hb5.free x.toNat
      have hst := hb5.set x.toNat (.int .u32 (w0 b x))
      have hset := upto_set 64 (first16 b x.toNat) (w0 b x) .u32 (by rw [first16_length]; omega)
      rw [first16_length] at hset
      rw [hset] at hst
      have HST := Aside0.mk hst
      have HW := Aside0.mk (Wrote.setCell w5 (w.heap.size + 1 + 1) x.toNat (.int .u32 (w0 b x)))
      have HK2' := Aside0.mk ((HK2.out.ext hE).wrote HW.out (by omega))
      have HK4' := Aside0.mk ((HK4.out.ext hE).wrote HW.out (by omega))
      have HE' := Aside0.mk (HW.out.ext (HE.out.trans hE) (by omega))
      unfold w0 at HST HW HK2' HK4' HE'
      clear hst hset hb5 hE hA hv0 HK2 HK4 HK5 HE hw0 hw1 hw2 hw3 hl0 hu0 hl1 hu1 hl2 hu2 hl3 hu3 HC0 HC1 HC2 HC3
      simp only [List.drop_succ_cons, List.drop_zero]
      go_wp2_with fail
      go_roundw
      case rel => exact ⟨x + 1, rfl, ⟨by omega, by omega⟩, HK2', HK4', ⟨by rw [show (x + 1).toNat = x.toNat + 1 by omega, show first16 b (x.toNat + 1) = first16 b x.toNat ++ [w0 b x] by rw [first16, Int.toNat_of_nonneg g0]]; exact HST.out⟩, HE'⟩
      case measure => have := HLT.out; simp only [intOf]; omega
    · have hx : x = 16 := by omega
      subst hx
      have HK5 : Aside0 (Blk wx (w.heap.size + 1 + 1) (nums .u32 (upto 64 (wordsA 0 (first16 b 16)))).toArray 64) := HK5
      clear HX g0 g1 hlt
      go_wp2_with fail
      go_loopw [7] (fun i wr => ∃ x : Int, i = .int .i64 x ∧ Aside0 (16 ≤ x ∧ x ≤ 64) ∧ Aside0 (Blk wr w.heap.size (nums .u32 s.l).toArray 54) ∧ Aside0 (Blk wr (w.heap.size + 1) (nums .u32 (List.replicate 8 0)).toArray 54) ∧ Aside0 (Blk wr (w.heap.size + 1 + 1) (nums .u32 (upto 64 (wordsA (x.toNat - 16) (first16 b 16)))).toArray 64) ∧ Aside0 (Ext w wr)) (fun i _ => 64 - (intOf i).toNat)
      case atStart => exact ⟨16, rfl, ⟨by decide⟩, HK2, HK4, HK5, HE⟩
      case round =>
        clear HK2 HK4 HK5 HE
        obtain ⟨x, rfl, HX, HK2, HK4, HK5, HE⟩ := hrel
        obtain ⟨g0, g1⟩ := HX.out
        obtain ⟨wx, hwx⟩ : ∃ wx : World, wx = wr := ⟨_, rfl⟩
        subst hwx
        by_cases hlt : x < 64
        · obtain ⟨W, hW⟩ : ∃ W, W = wordsA (x.toNat - 16) (first16 b 16) := ⟨_, rfl⟩
          rw [← hW] at HK5
          have HWL := Aside0.mk (show W.length = x.toNat by rw [hW, wordsA_length, first16_length]; omega)
          have HWN := Aside0.mk (show wordsA ((x + 1).toNat - 16) (first16 b 16) = W ++ [wNext W x] by rw [show (x + 1).toNat - 16 = (x.toNat - 16) + 1 by omega, wordsA, ← hW, HWL.out, Int.toNat_of_nonneg (by omega)])
          have HLT := Aside0.mk hlt
          have q2 : 2 ≤ x := by omega
          have q7 : 7 ≤ x := by omega
          have q15 : 15 ≤ x := by omega
          have q16 : 16 ≤ x := g0
          clear hW
          have HC0 := Aside0.mk (show wx.cell? ⟨(w.heap.size + 1 + 1), (x - 2).toNat, none⟩ = some (.int .u32 (rd W (x - 2))) by have h := HK5.out.cell (x - 2).toNat (upto_at 64 W (x - 2).toNat .u32 (by rw [HWL.out]; omega)); rwa [Int.toNat_of_nonneg (by omega : 0 ≤ (x - 2))] at h)
          have HC1 := Aside0.mk (show wx.cell? ⟨(w.heap.size + 1 + 1), (x - 15).toNat, none⟩ = some (.int .u32 (rd W (x - 15))) by have h := HK5.out.cell (x - 15).toNat (upto_at 64 W (x - 15).toNat .u32 (by rw [HWL.out]; omega)); rwa [Int.toNat_of_nonneg (by omega : 0 ≤ (x - 15))] at h)
          have HC2 := Aside0.mk (show wx.cell? ⟨(w.heap.size + 1 + 1), (x - 7).toNat, none⟩ = some (.int .u32 (rd W (x - 7))) by have h := HK5.out.cell (x - 7).toNat (upto_at 64 W (x - 7).toNat .u32 (by rw [HWL.out]; omega)); rwa [Int.toNat_of_nonneg (by omega : 0 ≤ (x - 7))] at h)
          have HC3 := Aside0.mk (show wx.cell? ⟨(w.heap.size + 1 + 1), (x - 16).toNat, none⟩ = some (.int .u32 (rd W (x - 16))) by have h := HK5.out.cell (x - 16).toNat (upto_at 64 W (x - 16).toNat .u32 (by rw [HWL.out]; omega)); rwa [Int.toNat_of_nonneg (by omega : 0 ≤ (x - 16))] at h)
          go_wp2_with fail
          have haw0 := wrapI (x := (x - 2)) (by omega) (by omega)
          have haw1 := wrapI (x := (x - 15)) (by omega) (by omega)
          have hal0 : 0 ≤ (x - 2) := by omega
          have hau0 : (x - 2) < 64 := by omega
          have hal1 : 0 ≤ (x - 15) := by omega
          have hau1 : (x - 15) < 64 := by omega
          apply wp_region_facts 10 [RF.val (.int .i64 x), RF.val (.int .i64 (x - 2)), RF.val (.pointer (some ⟨(w.heap.size + 1 + 1), (x - 2).toNat, none⟩)), RF.val (.int .u32 (rd W (x - 2))), RF.val (.int .i64 x), RF.val (.int .i64 (x - 15)), RF.val (.pointer (some ⟨(w.heap.size + 1 + 1), (x - 15).toNat, none⟩)), RF.val (.int .u32 (rd W (x - 15))), RF.val (.int .u32 (rd W (x - 2))), RF.val (.int .u32 (rd W (x - 15)))] (by kernel_rfl) (by kernel_rfl)
          simp only [List.take_succ_cons, List.take_zero, List.zip_cons_cons, List.zip_nil_left]
          (first | apply wpF_val rfl | apply wpF_valg (by rfl)); (intro w' hE hD; unfold Yld; go_simp; exact ⟨Ext.refl _, rfl⟩); (try simp only [Act.put, List.setIfInBounds_toArray, List.set_cons_zero, List.set_cons_succ])
          (first | apply wpF_val rfl | apply wpF_valg (by rfl)); (intro w' hE hD; unfold Yld; go_simp; exact ⟨Ext.refl _, rfl⟩); (try simp only [Act.put, List.setIfInBounds_toArray, List.set_cons_zero, List.set_cons_succ])
          (first | apply wpF_val rfl | apply wpF_valg (by rfl)); (intro w' hE hD; unfold Yld; go_simp; exact ⟨Ext.refl _, rfl⟩); (try simp only [Act.put, List.setIfInBounds_toArray, List.set_cons_zero, List.set_cons_succ])
          (first | apply wpF_val rfl | apply wpF_valg (by rfl)); (intro w' hE hD; have hcx := Ext.cell hE HC0.out; unfold Yld; go_simp; exact ⟨Ext.refl _, rfl⟩); (try simp only [Act.put, List.setIfInBounds_toArray, List.set_cons_zero, List.set_cons_succ])
          (first | apply wpF_val rfl | apply wpF_valg (by rfl)); (intro w' hE hD; unfold Yld; go_simp; exact ⟨Ext.refl _, rfl⟩); (try simp only [Act.put, List.setIfInBounds_toArray, List.set_cons_zero, List.set_cons_succ])
          (first | apply wpF_val rfl | apply wpF_valg (by rfl)); (intro w' hE hD; unfold Yld; go_simp; exact ⟨Ext.refl _, rfl⟩); (try simp only [Act.put, List.setIfInBounds_toArray, List.set_cons_zero, List.set_cons_succ])
          (first | apply wpF_val rfl | apply wpF_valg (by rfl)); (intro w' hE hD; unfold Yld; go_simp; exact ⟨Ext.refl _, rfl⟩); (try simp only [Act.put, List.setIfInBounds_toArray, List.set_cons_zero, List.set_cons_succ])
          (first | apply wpF_val rfl | apply wpF_valg (by rfl)); (intro w' hE hD; have hcx := Ext.cell hE HC1.out; unfold Yld; go_simp; exact ⟨Ext.refl _, rfl⟩); (try simp only [Act.put, List.setIfInBounds_toArray, List.set_cons_zero, List.set_cons_succ])
          (first | apply wpF_val rfl | apply wpF_valg (by rfl)); (intro w' hE hD; unfold Yld; go_simp; exact ⟨Ext.refl _, rfl⟩); (try simp only [Act.put, List.setIfInBounds_toArray, List.set_cons_zero, List.set_cons_succ])
          (first | apply wpF_val rfl | apply wpF_valg (by rfl)); (intro w' hE hD; unfold Yld; go_simp; exact ⟨Ext.refl _, rfl⟩); (try simp only [Act.put, List.setIfInBounds_toArray, List.set_cons_zero, List.set_cons_succ])
          refine wpF_nil fun w4 hE4 hA => ?_
          have HK2a := Aside0.mk (HK2.out.ext hE4)
          have HK4a := Aside0.mk (HK4.out.ext hE4)
          have HK5a := Aside0.mk (HK5.out.ext hE4)
          have HEa := Aside0.mk (HE.out.trans hE4)
          have HD0 := Aside0.mk (Ext.cell hE4 HC0.out)
          have HD1 := Aside0.mk (Ext.cell hE4 HC1.out)
          have HD2 := Aside0.mk (Ext.cell hE4 HC2.out)
          have HD3 := Aside0.mk (Ext.cell hE4 HC3.out)
          simp only [List.drop_succ_cons, List.drop_zero]
          refine wpList_nil ?_
          clear hA hE4 HK2 HK4 HK5 HE
          go_wp2_with fail
          clear haw0 haw1 hal0 hau0 hal1 hau1
          have haw0 := wrapI (x := (x - 2)) (by omega) (by omega)
          have haw1 := wrapI (x := (x - 15)) (by omega) (by omega)
          have hal0 : 0 ≤ (x - 2) := by omega
          have hau0 : (x - 2) < 64 := by omega
          have hal1 : 0 ≤ (x - 15) := by omega
          have hau1 : (x - 15) < 64 := by omega
          have hbw0 := wrapI (x := (x - 7)) (by omega) (by omega)
          have hbw1 := wrapI (x := (x - 16)) (by omega) (by omega)
          have hbl0 : 0 ≤ (x - 7) := by omega
          have hbu0 : (x - 7) < 64 := by omega
          have hbl1 : 0 ≤ (x - 16) := by omega
          have hbu1 : (x - 16) < 64 := by omega
          apply wp_region_facts 28 [RF.val (.int .i64 x), RF.val (.int .u32 (rd W (x - 2))), RF.val (.int .u32 (rotF 17 (rd W (x - 2)))), RF.val (.int .u32 (rd W (x - 2))), RF.val (.int .u32 (rotF 19 (rd W (x - 2)))), RF.val (.int .u32 (xr (rotF 17 (rd W (x - 2))) (rotF 19 (rd W (x - 2))))), RF.val (.int .u32 (rd W (x - 2))), RF.val (.int .u32 ((rd W (x - 2)) / 1024)), RF.val (.int .u32 (xr (xr (rotF 17 (rd W (x - 2))) (rotF 19 (rd W (x - 2)))) ((rd W (x - 2)) / 1024))), RF.val (.int .i64 x), RF.val (.int .i64 (x - 7)), RF.val (.pointer (some ⟨(w.heap.size + 1 + 1), (x - 7).toNat, none⟩)), RF.val (.int .u32 (rd W (x - 7))), RF.val (.int .u32 (ad (xr (xr (rotF 17 (rd W (x - 2))) (rotF 19 (rd W (x - 2)))) ((rd W (x - 2)) / 1024)) (rd W (x - 7)))), RF.val (.int .u32 (rd W (x - 15))), RF.val (.int .u32 (rotF 7 (rd W (x - 15)))), RF.val (.int .u32 (rd W (x - 15))), RF.val (.int .u32 (rotF 18 (rd W (x - 15)))), RF.val (.int .u32 (xr (rotF 7 (rd W (x - 15))) (rotF 18 (rd W (x - 15))))), RF.val (.int .u32 (rd W (x - 15))), RF.val (.int .u32 ((rd W (x - 15)) / 8)), RF.val (.int .u32 (xr (xr (rotF 7 (rd W (x - 15))) (rotF 18 (rd W (x - 15)))) ((rd W (x - 15)) / 8))), RF.val (.int .u32 (ad (ad (xr (xr (rotF 17 (rd W (x - 2))) (rotF 19 (rd W (x - 2)))) ((rd W (x - 2)) / 1024)) (rd W (x - 7))) (xr (xr (rotF 7 (rd W (x - 15))) (rotF 18 (rd W (x - 15)))) ((rd W (x - 15)) / 8)))), RF.val (.int .i64 x), RF.val (.int .i64 (x - 16)), RF.val (.pointer (some ⟨(w.heap.size + 1 + 1), (x - 16).toNat, none⟩)), RF.val (.int .u32 (rd W (x - 16))), RF.val (.int .u32 (ad (ad (ad (xr (xr (rotF 17 (rd W (x - 2))) (rotF 19 (rd W (x - 2)))) ((rd W (x - 2)) / 1024)) (rd W (x - 7))) (xr (xr (rotF 7 (rd W (x - 15))) (rotF 18 (rd W (x - 15)))) ((rd W (x - 15)) / 8))) (rd W (x - 16))))] (by kernel_rfl) (by kernel_rfl)
          simp only [List.take_succ_cons, List.take_zero, List.zip_cons_cons, List.zip_nil_left]
          (first | apply wpF_val rfl | apply wpF_valg (by rfl)); (intro w' hE hD; unfold Yld; go_simp; exact ⟨Ext.refl _, rfl⟩); (try simp only [Act.put, List.setIfInBounds_toArray, List.set_cons_zero, List.set_cons_succ])
          (first | apply wpF_val rfl | apply wpF_valg (by rfl)); (intro w' hE hD; unfold Yld; go_simp; exact ⟨Ext.refl _, rfl⟩); (try simp only [Act.put, List.setIfInBounds_toArray, List.set_cons_zero, List.set_cons_succ])
          (first | apply wpF_val rfl | apply wpF_valg (by rfl)); (intro w' hE hD; unfold Yld; go_simp; exact (turn_n 17 (rd W (x - 2)) (by decide) (by decide) w').mono fun e w2 h => ⟨_, h.1, h.2, rfl⟩); (try simp only [Act.put, List.setIfInBounds_toArray, List.set_cons_zero, List.set_cons_succ])
          (first | apply wpF_val rfl | apply wpF_valg (by rfl)); (intro w' hE hD; unfold Yld; go_simp; exact ⟨Ext.refl _, rfl⟩); (try simp only [Act.put, List.setIfInBounds_toArray, List.set_cons_zero, List.set_cons_succ])
          (first | apply wpF_val rfl | apply wpF_valg (by rfl)); (intro w' hE hD; unfold Yld; go_simp; exact (turn_n 19 (rd W (x - 2)) (by decide) (by decide) w').mono fun e w2 h => ⟨_, h.1, h.2, rfl⟩); (try simp only [Act.put, List.setIfInBounds_toArray, List.set_cons_zero, List.set_cons_succ])
          (first | apply wpF_val rfl | apply wpF_valg (by rfl)); (intro w' hE hD; unfold Yld; go_simp; exact ⟨Ext.refl _, rfl⟩); (try simp only [Act.put, List.setIfInBounds_toArray, List.set_cons_zero, List.set_cons_succ])
          (first | apply wpF_val rfl | apply wpF_valg (by rfl)); (intro w' hE hD; unfold Yld; go_simp; exact ⟨Ext.refl _, rfl⟩); (try simp only [Act.put, List.setIfInBounds_toArray, List.set_cons_zero, List.set_cons_succ])
          (first | apply wpF_val rfl | apply wpF_valg (by rfl)); (intro w' hE hD; unfold Yld; go_simp; exact ⟨Ext.refl _, rfl⟩); (try simp only [Act.put, List.setIfInBounds_toArray, List.set_cons_zero, List.set_cons_succ])
          (first | apply wpF_val rfl | apply wpF_valg (by rfl)); (intro w' hE hD; unfold Yld; go_simp; exact ⟨Ext.refl _, rfl⟩); (try simp only [Act.put, List.setIfInBounds_toArray, List.set_cons_zero, List.set_cons_succ])
          (first | apply wpF_val rfl | apply wpF_valg (by rfl)); (intro w' hE hD; unfold Yld; go_simp; exact ⟨Ext.refl _, rfl⟩); (try simp only [Act.put, List.setIfInBounds_toArray, List.set_cons_zero, List.set_cons_succ])
          (first | apply wpF_val rfl | apply wpF_valg (by rfl)); (intro w' hE hD; unfold Yld; go_simp; exact ⟨Ext.refl _, rfl⟩); (try simp only [Act.put, List.setIfInBounds_toArray, List.set_cons_zero, List.set_cons_succ])
          (first | apply wpF_val rfl | apply wpF_valg (by rfl)); (intro w' hE hD; unfold Yld; go_simp; exact ⟨Ext.refl _, rfl⟩); (try simp only [Act.put, List.setIfInBounds_toArray, List.set_cons_zero, List.set_cons_succ])
          (first | apply wpF_val rfl | apply wpF_valg (by rfl)); (intro w' hE hD; have hcx := Ext.cell hE HD2.out; unfold Yld; go_simp; exact ⟨Ext.refl _, rfl⟩); (try simp only [Act.put, List.setIfInBounds_toArray, List.set_cons_zero, List.set_cons_succ])
          (first | apply wpF_val rfl | apply wpF_valg (by rfl)); (intro w' hE hD; unfold Yld; go_simp; exact ⟨Ext.refl _, congrArg (Value.int .u32) (wrapAd _ _)⟩); (try simp only [Act.put, List.setIfInBounds_toArray, List.set_cons_zero, List.set_cons_succ])
          (first | apply wpF_val rfl | apply wpF_valg (by rfl)); (intro w' hE hD; unfold Yld; go_simp; exact ⟨Ext.refl _, rfl⟩); (try simp only [Act.put, List.setIfInBounds_toArray, List.set_cons_zero, List.set_cons_succ])
          (first | apply wpF_val rfl | apply wpF_valg (by rfl)); (intro w' hE hD; unfold Yld; go_simp; exact (turn_n 7 (rd W (x - 15)) (by decide) (by decide) w').mono fun e w2 h => ⟨_, h.1, h.2, rfl⟩); (try simp only [Act.put, List.setIfInBounds_toArray, List.set_cons_zero, List.set_cons_succ])
          (first | apply wpF_val rfl | apply wpF_valg (by rfl)); (intro w' hE hD; unfold Yld; go_simp; exact ⟨Ext.refl _, rfl⟩); (try simp only [Act.put, List.setIfInBounds_toArray, List.set_cons_zero, List.set_cons_succ])
          (first | apply wpF_val rfl | apply wpF_valg (by rfl)); (intro w' hE hD; unfold Yld; go_simp; exact (turn_n 18 (rd W (x - 15)) (by decide) (by decide) w').mono fun e w2 h => ⟨_, h.1, h.2, rfl⟩); (try simp only [Act.put, List.setIfInBounds_toArray, List.set_cons_zero, List.set_cons_succ])
          (first | apply wpF_val rfl | apply wpF_valg (by rfl)); (intro w' hE hD; unfold Yld; go_simp; exact ⟨Ext.refl _, rfl⟩); (try simp only [Act.put, List.setIfInBounds_toArray, List.set_cons_zero, List.set_cons_succ])
          (first | apply wpF_val rfl | apply wpF_valg (by rfl)); (intro w' hE hD; unfold Yld; go_simp; exact ⟨Ext.refl _, rfl⟩); (try simp only [Act.put, List.setIfInBounds_toArray, List.set_cons_zero, List.set_cons_succ])
          (first | apply wpF_val rfl | apply wpF_valg (by rfl)); (intro w' hE hD; unfold Yld; go_simp; exact ⟨Ext.refl _, rfl⟩); (try simp only [Act.put, List.setIfInBounds_toArray, List.set_cons_zero, List.set_cons_succ])
          (first | apply wpF_val rfl | apply wpF_valg (by rfl)); (intro w' hE hD; unfold Yld; go_simp; exact ⟨Ext.refl _, rfl⟩); (try simp only [Act.put, List.setIfInBounds_toArray, List.set_cons_zero, List.set_cons_succ])
          (first | apply wpF_val rfl | apply wpF_valg (by rfl)); (intro w' hE hD; unfold Yld; go_simp; exact ⟨Ext.refl _, congrArg (Value.int .u32) (wrapAd _ _)⟩); (try simp only [Act.put, List.setIfInBounds_toArray, List.set_cons_zero, List.set_cons_succ])
          (first | apply wpF_val rfl | apply wpF_valg (by rfl)); (intro w' hE hD; unfold Yld; go_simp; exact ⟨Ext.refl _, rfl⟩); (try simp only [Act.put, List.setIfInBounds_toArray, List.set_cons_zero, List.set_cons_succ])
          (first | apply wpF_val rfl | apply wpF_valg (by rfl)); (intro w' hE hD; unfold Yld; go_simp; exact ⟨Ext.refl _, rfl⟩); (try simp only [Act.put, List.setIfInBounds_toArray, List.set_cons_zero, List.set_cons_succ])
          (first | apply wpF_val rfl | apply wpF_valg (by rfl)); (intro w' hE hD; unfold Yld; go_simp; exact ⟨Ext.refl _, rfl⟩); (try simp only [Act.put, List.setIfInBounds_toArray, List.set_cons_zero, List.set_cons_succ])
          (first | apply wpF_val rfl | apply wpF_valg (by rfl)); (intro w' hE hD; have hcx := Ext.cell hE HD3.out; unfold Yld; go_simp; exact ⟨Ext.refl _, rfl⟩); (try simp only [Act.put, List.setIfInBounds_toArray, List.set_cons_zero, List.set_cons_succ])
          (first | apply wpF_val rfl | apply wpF_valg (by rfl)); (intro w' hE hD; unfold Yld; go_simp; exact ⟨Ext.refl _, congrArg (Value.int .u32) (wrapAd _ _)⟩); (try simp only [Act.put, List.setIfInBounds_toArray, List.set_cons_zero, List.set_cons_succ])
          refine wpF_nil fun w5 hE hA => ?_
          have hb5 := HK5a.out.ext hE
          obtain ⟨v0, hv0⟩ := upto_there 64 W x.toNat .u32 (by omega) (by rw [HWL.out]; omega)
          have hcl := hb5.cell x.toNat hv0
          have hfr := hb5.free x.toNat
          have hst := hb5.set x.toNat (.int .u32 (wNext W x))
          have hset := upto_set 64 W (wNext W x) .u32 (by rw [HWL.out]; omega)
          rw [HWL.out] at hset
          rw [hset] at hst
          have HST := Aside0.mk hst
          have HW := Aside0.mk (Wrote.setCell w5 (w.heap.size + 1 + 1) x.toNat (.int .u32 (wNext W x)))
          have HK2' := Aside0.mk ((HK2a.out.ext hE).wrote HW.out (by omega))
          have HK4' := Aside0.mk ((HK4a.out.ext hE).wrote HW.out (by omega))
          have HE' := Aside0.mk (HW.out.ext (HEa.out.trans hE) (by omega))
          unfold wNext at HST HW HK2' HK4' HE'
          clear hst hset hb5 hE hA hv0 HK2a HK4a HK5a HEa haw0 haw1 hal0 hau0 hal1 hau1 hbw0 hbw1 hbl0 hbu0 hbl1 hbu1 HC0 HD0 HC1 HD1 HC2 HD2 HC3 HD3
          simp only [List.drop_succ_cons, List.drop_zero]
          go_wp2_with fail
          go_roundw
          case rel => exact ⟨x + 1, rfl, ⟨by omega, by omega⟩, HK2', HK4', ⟨by rw [HWN.out]; exact HST.out⟩, HE'⟩
          case measure => have := HLT.out; simp only [intOf]; omega
        · have hx : x = 64 := by omega
          subst hx
          have HK5 : Aside0 (Blk wx (w.heap.size + 1 + 1) (nums .u32 (upto 64 (wordsF b))).toArray 64) := HK5
          have hWL : (wordsF b).length = 64 := by unfold wordsF; rw [wordsA_length, first16_length]
          obtain ⟨W, hW⟩ : ∃ W, W = wordsF b := ⟨_, rfl⟩
          rw [← hW] at HK5 hWL
          have HWD := Aside0.mk hW
          have HWL := Aside0.mk hWL
          have HS0 := Aside0.mk (HK2.out.cell 0 (v := .int .u32 s.a) rfl)
          have HS1 := Aside0.mk (HK2.out.cell 1 (v := .int .u32 s.b) rfl)
          have HS2 := Aside0.mk (HK2.out.cell 2 (v := .int .u32 s.c) rfl)
          have HS3 := Aside0.mk (HK2.out.cell 3 (v := .int .u32 s.d) rfl)
          have HS4 := Aside0.mk (HK2.out.cell 4 (v := .int .u32 s.e) rfl)
          have HS5 := Aside0.mk (HK2.out.cell 5 (v := .int .u32 s.f) rfl)
          have HS6 := Aside0.mk (HK2.out.cell 6 (v := .int .u32 s.g) rfl)
          have HS7 := Aside0.mk (HK2.out.cell 7 (v := .int .u32 s.h) rfl)
          have HT1 := Aside0.mk (HT.out.ext HE.out)
          clear HX g0 g1 hlt hW hWL
          go_wp2_with fail
          apply wp_region_facts 24 [RF.val (.pointer (some ⟨w.heap.size, 0, none⟩)), RF.val (.int .u32 s.a), RF.val (.pointer (some ⟨w.heap.size, 1, none⟩)), RF.val (.int .u32 s.b), RF.val (.pointer (some ⟨w.heap.size, 2, none⟩)), RF.val (.int .u32 s.c), RF.val (.pointer (some ⟨w.heap.size, 3, none⟩)), RF.val (.int .u32 s.d), RF.val (.pointer (some ⟨w.heap.size, 4, none⟩)), RF.val (.int .u32 s.e), RF.val (.pointer (some ⟨w.heap.size, 5, none⟩)), RF.val (.int .u32 s.f), RF.val (.pointer (some ⟨w.heap.size, 6, none⟩)), RF.val (.int .u32 s.g), RF.val (.pointer (some ⟨w.heap.size, 7, none⟩)), RF.val (.int .u32 s.h), RF.val (.int .u32 s.a), RF.val (.int .u32 s.b), RF.val (.int .u32 s.c), RF.val (.int .u32 s.d), RF.val (.int .u32 s.e), RF.val (.int .u32 s.f), RF.val (.int .u32 s.g), RF.val (.int .u32 s.h)] (by kernel_rfl) (by kernel_rfl)
          simp only [List.take_succ_cons, List.take_zero, List.zip_cons_cons, List.zip_nil_left]
          (first | apply wpF_val rfl | apply wpF_valg (by rfl)); (intro w' hE hD; unfold Yld; go_simp; exact ⟨Ext.refl _, rfl⟩); (try simp only [Act.put, List.setIfInBounds_toArray, List.set_cons_zero, List.set_cons_succ])
          (first | apply wpF_val rfl | apply wpF_valg (by rfl)); (intro w' hE hD; have hcx := Ext.cell hE HS0.out; unfold Yld; go_simp; exact ⟨Ext.refl _, rfl⟩); (try simp only [Act.put, List.setIfInBounds_toArray, List.set_cons_zero, List.set_cons_succ])
          (first | apply wpF_val rfl | apply wpF_valg (by rfl)); (intro w' hE hD; unfold Yld; go_simp; exact ⟨Ext.refl _, rfl⟩); (try simp only [Act.put, List.setIfInBounds_toArray, List.set_cons_zero, List.set_cons_succ])
          (first | apply wpF_val rfl | apply wpF_valg (by rfl)); (intro w' hE hD; have hcx := Ext.cell hE HS1.out; unfold Yld; go_simp; exact ⟨Ext.refl _, rfl⟩); (try simp only [Act.put, List.setIfInBounds_toArray, List.set_cons_zero, List.set_cons_succ])
          (first | apply wpF_val rfl | apply wpF_valg (by rfl)); (intro w' hE hD; unfold Yld; go_simp; exact ⟨Ext.refl _, rfl⟩); (try simp only [Act.put, List.setIfInBounds_toArray, List.set_cons_zero, List.set_cons_succ])
          (first | apply wpF_val rfl | apply wpF_valg (by rfl)); (intro w' hE hD; have hcx := Ext.cell hE HS2.out; unfold Yld; go_simp; exact ⟨Ext.refl _, rfl⟩); (try simp only [Act.put, List.setIfInBounds_toArray, List.set_cons_zero, List.set_cons_succ])
          (first | apply wpF_val rfl | apply wpF_valg (by rfl)); (intro w' hE hD; unfold Yld; go_simp; exact ⟨Ext.refl _, rfl⟩); (try simp only [Act.put, List.setIfInBounds_toArray, List.set_cons_zero, List.set_cons_succ])
          (first | apply wpF_val rfl | apply wpF_valg (by rfl)); (intro w' hE hD; have hcx := Ext.cell hE HS3.out; unfold Yld; go_simp; exact ⟨Ext.refl _, rfl⟩); (try simp only [Act.put, List.setIfInBounds_toArray, List.set_cons_zero, List.set_cons_succ])
          (first | apply wpF_val rfl | apply wpF_valg (by rfl)); (intro w' hE hD; unfold Yld; go_simp; exact ⟨Ext.refl _, rfl⟩); (try simp only [Act.put, List.setIfInBounds_toArray, List.set_cons_zero, List.set_cons_succ])
          (first | apply wpF_val rfl | apply wpF_valg (by rfl)); (intro w' hE hD; have hcx := Ext.cell hE HS4.out; unfold Yld; go_simp; exact ⟨Ext.refl _, rfl⟩); (try simp only [Act.put, List.setIfInBounds_toArray, List.set_cons_zero, List.set_cons_succ])
          (first | apply wpF_val rfl | apply wpF_valg (by rfl)); (intro w' hE hD; unfold Yld; go_simp; exact ⟨Ext.refl _, rfl⟩); (try simp only [Act.put, List.setIfInBounds_toArray, List.set_cons_zero, List.set_cons_succ])
          (first | apply wpF_val rfl | apply wpF_valg (by rfl)); (intro w' hE hD; have hcx := Ext.cell hE HS5.out; unfold Yld; go_simp; exact ⟨Ext.refl _, rfl⟩); (try simp only [Act.put, List.setIfInBounds_toArray, List.set_cons_zero, List.set_cons_succ])
          (first | apply wpF_val rfl | apply wpF_valg (by rfl)); (intro w' hE hD; unfold Yld; go_simp; exact ⟨Ext.refl _, rfl⟩); (try simp only [Act.put, List.setIfInBounds_toArray, List.set_cons_zero, List.set_cons_succ])
          (first | apply wpF_val rfl | apply wpF_valg (by rfl)); (intro w' hE hD; have hcx := Ext.cell hE HS6.out; unfold Yld; go_simp; exact ⟨Ext.refl _, rfl⟩); (try simp only [Act.put, List.setIfInBounds_toArray, List.set_cons_zero, List.set_cons_succ])
          (first | apply wpF_val rfl | apply wpF_valg (by rfl)); (intro w' hE hD; unfold Yld; go_simp; exact ⟨Ext.refl _, rfl⟩); (try simp only [Act.put, List.setIfInBounds_toArray, List.set_cons_zero, List.set_cons_succ])
          (first | apply wpF_val rfl | apply wpF_valg (by rfl)); (intro w' hE hD; have hcx := Ext.cell hE HS7.out; unfold Yld; go_simp; exact ⟨Ext.refl _, rfl⟩); (try simp only [Act.put, List.setIfInBounds_toArray, List.set_cons_zero, List.set_cons_succ])
          (first | apply wpF_val rfl | apply wpF_valg (by rfl)); (intro w' hE hD; unfold Yld; go_simp; exact ⟨Ext.refl _, rfl⟩); (try simp only [Act.put, List.setIfInBounds_toArray, List.set_cons_zero, List.set_cons_succ])
          (first | apply wpF_val rfl | apply wpF_valg (by rfl)); (intro w' hE hD; unfold Yld; go_simp; exact ⟨Ext.refl _, rfl⟩); (try simp only [Act.put, List.setIfInBounds_toArray, List.set_cons_zero, List.set_cons_succ])
          (first | apply wpF_val rfl | apply wpF_valg (by rfl)); (intro w' hE hD; unfold Yld; go_simp; exact ⟨Ext.refl _, rfl⟩); (try simp only [Act.put, List.setIfInBounds_toArray, List.set_cons_zero, List.set_cons_succ])
          (first | apply wpF_val rfl | apply wpF_valg (by rfl)); (intro w' hE hD; unfold Yld; go_simp; exact ⟨Ext.refl _, rfl⟩); (try simp only [Act.put, List.setIfInBounds_toArray, List.set_cons_zero, List.set_cons_succ])
          (first | apply wpF_val rfl | apply wpF_valg (by rfl)); (intro w' hE hD; unfold Yld; go_simp; exact ⟨Ext.refl _, rfl⟩); (try simp only [Act.put, List.setIfInBounds_toArray, List.set_cons_zero, List.set_cons_succ])
          (first | apply wpF_val rfl | apply wpF_valg (by rfl)); (intro w' hE hD; unfold Yld; go_simp; exact ⟨Ext.refl _, rfl⟩); (try simp only [Act.put, List.setIfInBounds_toArray, List.set_cons_zero, List.set_cons_succ])
          (first | apply wpF_val rfl | apply wpF_valg (by rfl)); (intro w' hE hD; unfold Yld; go_simp; exact ⟨Ext.refl _, rfl⟩); (try simp only [Act.put, List.setIfInBounds_toArray, List.set_cons_zero, List.set_cons_succ])
          (first | apply wpF_val rfl | apply wpF_valg (by rfl)); (intro w' hE hD; unfold Yld; go_simp; exact ⟨Ext.refl _, rfl⟩); (try simp only [Act.put, List.setIfInBounds_toArray, List.set_cons_zero, List.set_cons_succ])
          refine wpF_nil fun w4 hE4 hA => ?_
          have HK2 := Aside0.mk (HK2.out.ext hE4)
          have HK4 := Aside0.mk (HK4.out.ext hE4)
          have HK5 := Aside0.mk (HK5.out.ext hE4)
          have HE := Aside0.mk (HE.out.trans hE4)
          simp only [List.drop_succ_cons, List.drop_zero]
          refine wpList_nil ?_
          clear hA hE4 HS0 HS1 HS2 HS3 HS4 HS5 HS6 HS7 HT1
          go_wp2_with fail
          go_loopw [10, 11, 12, 13, 14, 15, 16, 17, 117] (fun va vb vc vd ve vf vg vh i wr => ∃ x : Int, i = .int .i64 x ∧ Aside0 (0 ≤ x ∧ x ≤ 64) ∧ Aside0 (va = .int .u32 (rounds W x.toNat s).a ∧ vb = .int .u32 (rounds W x.toNat s).b ∧ vc = .int .u32 (rounds W x.toNat s).c ∧ vd = .int .u32 (rounds W x.toNat s).d ∧ ve = .int .u32 (rounds W x.toNat s).e ∧ vf = .int .u32 (rounds W x.toNat s).f ∧ vg = .int .u32 (rounds W x.toNat s).g ∧ vh = .int .u32 (rounds W x.toNat s).h) ∧ Aside0 (Blk wr w.heap.size (nums .u32 s.l).toArray 54) ∧ Aside0 (Blk wr (w.heap.size + 1) (nums .u32 (List.replicate 8 0)).toArray 54) ∧ Aside0 (Blk wr (w.heap.size + 1 + 1) (nums .u32 (upto 64 W)).toArray 64) ∧ Aside0 (Ext w wr)) (fun _ _ _ _ _ _ _ _ i _ => 64 - (intOf i).toNat)
          case atStart => exact ⟨0, rfl, ⟨by decide⟩, ⟨rfl, rfl, rfl, rfl, rfl, rfl, rfl, rfl⟩, HK2, HK4, HK5, HE⟩
          case round =>
            clear HK2 HK4 HK5 HE
            obtain ⟨x, rfl, HX, HV, HK2, HK4, HK5, HE⟩ := hrel
            obtain ⟨g0, g1⟩ := HX.out
            obtain ⟨e10, e11, e12, e13, e14, e15, e16, e17⟩ := HV.out
            subst e10 e11 e12 e13 e14 e15 e16 e17
            clear HV
            obtain ⟨wx, hwx⟩ : ∃ wx : World, wx = wr := ⟨_, rfl⟩
            subst hwx
            by_cases hlt : x < 64
            · have hstep : rounds W (x + 1).toNat s = step (rd kL x) (rd W x) (rounds W x.toNat s) := by
                rw [show (x + 1).toNat = x.toNat + 1 by omega]
                show step (rd kL (x.toNat : Int)) (rd W (x.toNat : Int)) (rounds W x.toNat s) = _
                rw [Int.toNat_of_nonneg g0]
              generalize rounds W x.toNat s = R at hstep ⊢
              have HRN := Aside0.mk hstep
              have HLT := Aside0.mk hlt
              have HCK := Aside0.mk (show wx.cell? ⟨1, x.toNat, none⟩ = some (.int .u32 (rd kL x)) by have h := (HT.out.ext HE.out) x.toNat (by omega); rwa [Int.toNat_of_nonneg g0] at h)
              have HCW := Aside0.mk (show wx.cell? ⟨w.heap.size + 1 + 1, x.toNat, none⟩ = some (.int .u32 (rd W x)) by have h := HK5.out.cell x.toNat (upto_at 64 W x.toNat .u32 (by rw [HWL.out]; omega)); rwa [Int.toNat_of_nonneg g0] at h)
              clear hstep
              go_wp2_with fail
              have hcl0 : 0 ≤ x := by omega
              have hcu0 : x < 64 := by omega
              apply wp_region_facts 27 [RF.val (.int .u32 R.h), RF.val (.int .u32 R.e), RF.val (.int .u32 (rotF 6 R.e)), RF.val (.int .u32 R.e), RF.val (.int .u32 (rotF 11 R.e)), RF.val (.int .u32 (xr (rotF 6 R.e) (rotF 11 R.e))), RF.val (.int .u32 R.e), RF.val (.int .u32 (rotF 25 R.e)), RF.val (.int .u32 (xr (xr (rotF 6 R.e) (rotF 11 R.e)) (rotF 25 R.e))), RF.val (.int .u32 (ad R.h (xr (xr (rotF 6 R.e) (rotF 11 R.e)) (rotF 25 R.e)))), RF.val (.int .u32 R.e), RF.val (.int .u32 R.f), RF.val (.int .u32 (an R.e R.f)), RF.val (.int .u32 R.e), RF.val (.int .u32 (nt R.e)), RF.val (.int .u32 R.g), RF.val (.int .u32 (an (nt R.e) R.g)), RF.val (.int .u32 (xr (an R.e R.f) (an (nt R.e) R.g))), RF.val (.int .u32 (ad (ad R.h (xr (xr (rotF 6 R.e) (rotF 11 R.e)) (rotF 25 R.e))) (xr (an R.e R.f) (an (nt R.e) R.g)))), RF.val (.int .i64 x), RF.val (.pointer (some ⟨1, x.toNat, none⟩)), RF.val (.int .u32 (rd kL x)), RF.val (.int .u32 (ad (ad (ad R.h (xr (xr (rotF 6 R.e) (rotF 11 R.e)) (rotF 25 R.e))) (xr (an R.e R.f) (an (nt R.e) R.g))) (rd kL x))), RF.val (.int .i64 x), RF.val (.pointer (some ⟨(w.heap.size + 1 + 1), x.toNat, none⟩)), RF.val (.int .u32 (rd W x)), RF.val (.int .u32 (ad (ad (ad (ad R.h (xr (xr (rotF 6 R.e) (rotF 11 R.e)) (rotF 25 R.e))) (xr (an R.e R.f) (an (nt R.e) R.g))) (rd kL x)) (rd W x)))] (by kernel_rfl) (by kernel_rfl)
              simp only [List.take_succ_cons, List.take_zero, List.zip_cons_cons, List.zip_nil_left]
              (first | apply wpF_val rfl | apply wpF_valg (by rfl)); (intro w' hE hD; unfold Yld; go_simp; exact ⟨Ext.refl _, rfl⟩); (try simp only [Act.put, List.setIfInBounds_toArray, List.set_cons_zero, List.set_cons_succ])
              (first | apply wpF_val rfl | apply wpF_valg (by rfl)); (intro w' hE hD; unfold Yld; go_simp; exact ⟨Ext.refl _, rfl⟩); (try simp only [Act.put, List.setIfInBounds_toArray, List.set_cons_zero, List.set_cons_succ])
              (first | apply wpF_val rfl | apply wpF_valg (by rfl)); (intro w' hE hD; unfold Yld; go_simp; exact (turn_n 6 R.e (by decide) (by decide) w').mono fun e w2 h => ⟨_, h.1, h.2, rfl⟩); (try simp only [Act.put, List.setIfInBounds_toArray, List.set_cons_zero, List.set_cons_succ])
              (first | apply wpF_val rfl | apply wpF_valg (by rfl)); (intro w' hE hD; unfold Yld; go_simp; exact ⟨Ext.refl _, rfl⟩); (try simp only [Act.put, List.setIfInBounds_toArray, List.set_cons_zero, List.set_cons_succ])
              (first | apply wpF_val rfl | apply wpF_valg (by rfl)); (intro w' hE hD; unfold Yld; go_simp; exact (turn_n 11 R.e (by decide) (by decide) w').mono fun e w2 h => ⟨_, h.1, h.2, rfl⟩); (try simp only [Act.put, List.setIfInBounds_toArray, List.set_cons_zero, List.set_cons_succ])
              (first | apply wpF_val rfl | apply wpF_valg (by rfl)); (intro w' hE hD; unfold Yld; go_simp; exact ⟨Ext.refl _, rfl⟩); (try simp only [Act.put, List.setIfInBounds_toArray, List.set_cons_zero, List.set_cons_succ])
              (first | apply wpF_val rfl | apply wpF_valg (by rfl)); (intro w' hE hD; unfold Yld; go_simp; exact ⟨Ext.refl _, rfl⟩); (try simp only [Act.put, List.setIfInBounds_toArray, List.set_cons_zero, List.set_cons_succ])
              (first | apply wpF_val rfl | apply wpF_valg (by rfl)); (intro w' hE hD; unfold Yld; go_simp; exact (turn_n 25 R.e (by decide) (by decide) w').mono fun e w2 h => ⟨_, h.1, h.2, rfl⟩); (try simp only [Act.put, List.setIfInBounds_toArray, List.set_cons_zero, List.set_cons_succ])
              (first | apply wpF_val rfl | apply wpF_valg (by rfl)); (intro w' hE hD; unfold Yld; go_simp; exact ⟨Ext.refl _, rfl⟩); (try simp only [Act.put, List.setIfInBounds_toArray, List.set_cons_zero, List.set_cons_succ])
              (first | apply wpF_val rfl | apply wpF_valg (by rfl)); (intro w' hE hD; unfold Yld; go_simp; exact ⟨Ext.refl _, congrArg (Value.int .u32) (wrapAd _ _)⟩); (try simp only [Act.put, List.setIfInBounds_toArray, List.set_cons_zero, List.set_cons_succ])
              (first | apply wpF_val rfl | apply wpF_valg (by rfl)); (intro w' hE hD; unfold Yld; go_simp; exact ⟨Ext.refl _, rfl⟩); (try simp only [Act.put, List.setIfInBounds_toArray, List.set_cons_zero, List.set_cons_succ])
              (first | apply wpF_val rfl | apply wpF_valg (by rfl)); (intro w' hE hD; unfold Yld; go_simp; exact ⟨Ext.refl _, rfl⟩); (try simp only [Act.put, List.setIfInBounds_toArray, List.set_cons_zero, List.set_cons_succ])
              (first | apply wpF_val rfl | apply wpF_valg (by rfl)); (intro w' hE hD; unfold Yld; go_simp; exact ⟨Ext.refl _, rfl⟩); (try simp only [Act.put, List.setIfInBounds_toArray, List.set_cons_zero, List.set_cons_succ])
              (first | apply wpF_val rfl | apply wpF_valg (by rfl)); (intro w' hE hD; unfold Yld; go_simp; exact ⟨Ext.refl _, rfl⟩); (try simp only [Act.put, List.setIfInBounds_toArray, List.set_cons_zero, List.set_cons_succ])
              (first | apply wpF_val rfl | apply wpF_valg (by rfl)); (intro w' hE hD; unfold Yld; go_simp; exact ⟨Ext.refl _, rfl⟩); (try simp only [Act.put, List.setIfInBounds_toArray, List.set_cons_zero, List.set_cons_succ])
              (first | apply wpF_val rfl | apply wpF_valg (by rfl)); (intro w' hE hD; unfold Yld; go_simp; exact ⟨Ext.refl _, rfl⟩); (try simp only [Act.put, List.setIfInBounds_toArray, List.set_cons_zero, List.set_cons_succ])
              (first | apply wpF_val rfl | apply wpF_valg (by rfl)); (intro w' hE hD; unfold Yld; go_simp; exact ⟨Ext.refl _, rfl⟩); (try simp only [Act.put, List.setIfInBounds_toArray, List.set_cons_zero, List.set_cons_succ])
              (first | apply wpF_val rfl | apply wpF_valg (by rfl)); (intro w' hE hD; unfold Yld; go_simp; exact ⟨Ext.refl _, rfl⟩); (try simp only [Act.put, List.setIfInBounds_toArray, List.set_cons_zero, List.set_cons_succ])
              (first | apply wpF_val rfl | apply wpF_valg (by rfl)); (intro w' hE hD; unfold Yld; go_simp; exact ⟨Ext.refl _, congrArg (Value.int .u32) (wrapAd _ _)⟩); (try simp only [Act.put, List.setIfInBounds_toArray, List.set_cons_zero, List.set_cons_succ])
              (first | apply wpF_val rfl | apply wpF_valg (by rfl)); (intro w' hE hD; unfold Yld; go_simp; exact ⟨Ext.refl _, rfl⟩); (try simp only [Act.put, List.setIfInBounds_toArray, List.set_cons_zero, List.set_cons_succ])
              (first | apply wpF_val rfl | apply wpF_valg (by rfl)); (intro w' hE hD; unfold Yld; go_simp; exact ⟨Ext.refl _, rfl⟩); (try simp only [Act.put, List.setIfInBounds_toArray, List.set_cons_zero, List.set_cons_succ])
              (first | apply wpF_val rfl | apply wpF_valg (by rfl)); (intro w' hE hD; have hcx := Ext.cell hE HCK.out; unfold Yld; go_simp; exact ⟨Ext.refl _, rfl⟩); (try simp only [Act.put, List.setIfInBounds_toArray, List.set_cons_zero, List.set_cons_succ])
              (first | apply wpF_val rfl | apply wpF_valg (by rfl)); (intro w' hE hD; unfold Yld; go_simp; exact ⟨Ext.refl _, congrArg (Value.int .u32) (wrapAd _ _)⟩); (try simp only [Act.put, List.setIfInBounds_toArray, List.set_cons_zero, List.set_cons_succ])
              (first | apply wpF_val rfl | apply wpF_valg (by rfl)); (intro w' hE hD; unfold Yld; go_simp; exact ⟨Ext.refl _, rfl⟩); (try simp only [Act.put, List.setIfInBounds_toArray, List.set_cons_zero, List.set_cons_succ])
              (first | apply wpF_val rfl | apply wpF_valg (by rfl)); (intro w' hE hD; unfold Yld; go_simp; exact ⟨Ext.refl _, rfl⟩); (try simp only [Act.put, List.setIfInBounds_toArray, List.set_cons_zero, List.set_cons_succ])
              (first | apply wpF_val rfl | apply wpF_valg (by rfl)); (intro w' hE hD; have hcx := Ext.cell hE HCW.out; unfold Yld; go_simp; exact ⟨Ext.refl _, rfl⟩); (try simp only [Act.put, List.setIfInBounds_toArray, List.set_cons_zero, List.set_cons_succ])
              (first | apply wpF_val rfl | apply wpF_valg (by rfl)); (intro w' hE hD; unfold Yld; go_simp; exact ⟨Ext.refl _, congrArg (Value.int .u32) (wrapAd _ _)⟩); (try simp only [Act.put, List.setIfInBounds_toArray, List.set_cons_zero, List.set_cons_succ])
              refine wpF_nil fun w4 hE4 hA => ?_
              have HK2 := Aside0.mk (HK2.out.ext hE4)
              have HK4 := Aside0.mk (HK4.out.ext hE4)
              have HK5 := Aside0.mk (HK5.out.ext hE4)
              have HE := Aside0.mk (HE.out.trans hE4)
              simp only [List.drop_succ_cons, List.drop_zero]
              clear hA hE4 HCK HCW hcl0 hcu0
              go_wp2_with fail
              refine (turn_n 2 R.a (by decide) (by decide) _).mono ?_
              rintro e w5 ⟨rfl, hE5⟩
              have HE5 := Aside0.mk hE5
              clear hE5
              go_wp2_with fail
              refine (turn_n 13 R.a (by decide) (by decide) _).mono ?_
              rintro e w6 ⟨rfl, hE6⟩
              have HE6 := Aside0.mk (HE5.out.trans hE6)
              clear hE6 HE5
              go_wp2_with fail
              refine (turn_n 22 R.a (by decide) (by decide) _).mono ?_
              rintro e w7 ⟨rfl, hE7⟩
              have hE7 := HE6.out.trans hE7
              have HK2 := Aside0.mk (HK2.out.ext hE7)
              have HK4 := Aside0.mk (HK4.out.ext hE7)
              have HK5 := Aside0.mk (HK5.out.ext hE7)
              have HE := Aside0.mk (HE.out.trans hE7)
              clear hE7 HE6
              go_wp2_with fail
              go_roundw
              case rel => exact ⟨x + 1, rfl, ⟨by omega, by omega⟩, ⟨by rw [HRN.out]; exact ⟨rfl, rfl, rfl, rfl, rfl, rfl, rfl, rfl⟩⟩, HK2, HK4, HK5, HE⟩
              case measure => have := HLT.out; simp only [intOf]; omega
            · have hx : x = 64 := by omega
              subst hx
              have HTF := Aside0.mk (show takeF s b = add8 s (rounds W (64 : Int).toNat s) by unfold takeF; rw [HWD.out]; rfl)
              generalize rounds W (64 : Int).toNat s = R at HTF ⊢
              have HI := Aside0.mk (show (Tryd.prog.info? 54).map (·.size) = some (nums .u32 (add8 s R).l).length by kernel_rfl)
              have c0 := HK2.out.cell 0 (v := .int .u32 s.a) rfl
              have c1 := HK2.out.cell 1 (v := .int .u32 s.b) rfl
              have c2 := HK2.out.cell 2 (v := .int .u32 s.c) rfl
              have c3 := HK2.out.cell 3 (v := .int .u32 s.d) rfl
              have c4 := HK2.out.cell 4 (v := .int .u32 s.e) rfl
              have c5 := HK2.out.cell 5 (v := .int .u32 s.f) rfl
              have c6 := HK2.out.cell 6 (v := .int .u32 s.g) rfl
              have c7 := HK2.out.cell 7 (v := .int .u32 s.h) rfl
              clear HX g0 g1 hlt
              go_wp2_with (first | ((with_reducible refine gate_build (ty := 54) rfl ?_); (refine build_at rfl 54 #[(0, .tmp 183), (1, .tmp 187), (2, .tmp 191), (3, .tmp 195), (4, .tmp 199), (5, .tmp 203), (6, .tmp 207), (7, .tmp 211)] rfl (nums .u32 (add8 s R).l).toArray _ rfl (built_s8 (add8 s R)) ?_)) | ((with_reducible refine gate_store (ty := 54) rfl ?_); (refine store_at rfl 54 _ _ rfl (w.heap.size + 1) (nums .u32 (add8 s R).l) rfl rfl _ 54 HK4.out (by rfl) HI.out (one_cells _ _) ?_)) | fail)
              intro w8 hW8 hB8
              have HE8 := Aside0.mk (hW8.ext HE.out (Nat.le_succ _))
              have HB8 := Aside0.mk hB8
              clear hW8 hB8 HE HK2 HK4 HK5
              go_wp2_with fail
              (try simp only [Exit.inBlock, Exit.then])
              refine bodyPost_ret (results_cell_row rfl _ _ (w.heap.size + 1) 54 (nums .u32 (add8 s R).l).toArray (0, 0) _ rfl HB8.out.is Tryd.underlying54 rfl (by simpa using HI.out)) rfl ?_
              rw [HTF.out]
              exact ⟨rfl, HE8.out⟩
end Go.Proofs.YtbnbncnmhhioeaaDoor.By
