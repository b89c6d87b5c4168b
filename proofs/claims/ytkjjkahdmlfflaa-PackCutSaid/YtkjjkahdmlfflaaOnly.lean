/- PackOnly. -/
import Derived.Test.YtkjjkahdmlfflaaEq
namespace Go.Proofs.Ytkjjkahdmlfflaa.By
open Go.RowKit Go.Proofs.Ytkjjkahdmlfflaa.Reg Go.Proofs.YtkjjkahdmlfflaaW.PrintWords Go.Proofs.YtkjjkahdmlfflaaW.PrintLast Go.Proofs.YtkjjkahdmlfflaaW.PrintMore
set_option linter.unusedVariables false

theorem Yld_eql {P : Program} {w : World} {o : Oper} {a : Act} (t yt : TypeId) (x y : Operand) (ho : o.op = .binOp .eql t x y yt) (xs ys : Array Value) (hx : a.eval x = .agg xs) (hy : a.eval y = .agg ys) (hg : P.eqGuardType P.depth t = false) (r : Bool) (he : (Op.equal t (.agg xs) (.agg ys)).run P w = .ok r w) :
    Yld P o a w (.val (.bool r)) := by
  unfold Yld
  rw [run_eql t yt x y ho xs ys hx hy hg r he]
  exact ⟨Ext.refl _, rfl⟩
theorem be8_num8 : ∀ (xs : List Int), xs.length = 8 → isB xs → be8 (numI xs) = xs
  | [a, b, c, d, e, f, g, h], _, hb => be8_numI a b c d e f g h hb
theorem built_sum0 : Program.built Try.prog 24 [] = some (nums .u8 zero32).toArray := by kernel_rfl
theorem nil_int (w : World) (v : Int) : Calls Try.prog 17 #[.slice none 0 0, .int .i64 v] w fun e w' => ∃ V, e = .returned V ∧ NB w' w.heap.size V (be8 v) ∧ Ext w w' :=
  int_at w none 0 0 [] v rfl (Kd.C_nil kb w) (Nat.le_refl _) (by decide)
theorem nil_ref (w : World) (a : Int) (s : List Int) (S : Value) (hS : S = refV a s) (hs : s.length = 32) : Calls Try.prog 19 #[.slice none 0 0, S] w fun e w' => ∃ V, e = .returned V ∧ NB w' w.heap.size V (refB a s) ∧ Ext w w' :=
  ref_at w none 0 0 [] s a S rfl hS hs (Kd.C_nil kb w) (Nat.le_refl _) (by decide)
theorem same_left (w : World) (B : Nat) (X : Value) (A : Option Addr) (c n : Nat) (xs : List Int) (hn : n = xs.length) (h : NB w B X xs) (hC : Kd.C kb w A n xs) (hc : n ≤ c) (hl : n ≤ 9223372036854775806) :
    Calls Try.prog 20 #[X, .slice A n c] w fun e w' => e = .returned (.bool true) ∧ Ext w w' := by
  subst hn
  obtain ⟨A', c', rfl, hc', hC'⟩ := h.reads
  exact same_at w A' A c' c xs xs true rfl rfl (by simp) hC' hc' hC hc hl

set_option maxRecDepth 100000 in
set_option maxHeartbeats 8000000 in
theorem only_ooo (w : World) (A : Option Addr) (c n : Nat) (bs : List Int) (hn : n = bs.length) (hr : Kd.C kb w A n bs) (hc : n ≤ c) (hB : isB bs) (hm : n ≤ 4096) (h1 : 8 ≤ n) (h2 : 32 ≤ n) (h3 : 40 ≤ n) :
    Calls Try.prog 4 #[.slice A n c] w fun e w' => e = .returned (.bool true) ∧ Ext w w' := by
  have HR := Aside0.mk hr
  have HN := Aside0.mk hn
  have HB := Aside0.mk hB
  have hz : ((4096 : Int) < (n : Int)) = False := eq_false (by omega)
  obtain ⟨i0, hi0, _, hsz, _⟩ := info_parts PPackPuts.info5
  have hz1 : ((n : Int) < 8) = False := eq_false (by omega)
  have hcut1 := cut_to (P := Try.prog) 22 5 .i64 Try.underlying22 hi0 A n c 8 (by decide) (by omega) hc
  rw [show (8 : Int).toNat = 8 from rfl] at hcut1
  have HQ1 := Aside0.mk (show Kd.C kb w A 8 (bs.take 8) by
    have := Kd.C_take (m := 8) (hn ▸ hr) (by omega)
    rwa [show (bs.take 8).length = 8 by rw [List.length_take]; omega] at this)
  have hcc1 : 8 ≤ c := by omega
  have hz2 : ((n : Int) < 32) = False := eq_false (by omega)
  have hcut2 := cut_to (P := Try.prog) 22 5 .i64 Try.underlying22 hi0 A n c 32 (by decide) (by omega) hc
  rw [show (32 : Int).toNat = 32 from rfl] at hcut2
  have HQ2 := Aside0.mk (show Kd.C kb w A 32 (bs.take 32) by
    have := Kd.C_take (m := 32) (hn ▸ hr) (by omega)
    rwa [show (bs.take 32).length = 32 by rw [List.length_take]; omega] at this)
  have hcc2 : 32 ≤ c := by omega
  have hz3 : ((n : Int) < 40) = False := eq_false (by omega)
  have hcut3 := cut_to (P := Try.prog) 22 5 .i64 Try.underlying22 hi0 A n c 40 (by decide) (by omega) hc
  rw [show (40 : Int).toNat = 40 from rfl] at hcut3
  have HQ3 := Aside0.mk (show Kd.C kb w A 40 (bs.take 40) by
    have := Kd.C_take (m := 40) (hn ▸ hr) (by omega)
    rwa [show (bs.take 40).length = 40 by rw [List.length_take]; omega] at this)
  have hcc3 : 40 ≤ c := by omega
  clear hr hn hB hi0 hsz
  have HM := Aside0.mk (show n ≤ 4096 from hm)
  go_enter Try.func4, Try.ntmps4
  go_wp2_with fail
  refine (read_calls w A c n bs HN.out HR.out hc (by omega)).mono ?_
  rintro e w1 ⟨b1, rfl, hX, hE⟩
  have HX := Aside0.mk hX
  have HE1 := Aside0.mk hE
  clear hX hE
  go_wp2_with fail
  refine (rdint_ok w1 _ _ b1 bs HX.out HB.out (by have := HN.out; omega)).mono ?_
  rintro e w2 ⟨rfl, hX, hT⟩
  have HX2 := Aside0.mk hX
  have HL2 := Aside0.mk hT.size
  have HE2 := Aside0.mk (hT.ext HE1.out (Nat.le_refl _))
  clear hX hT HX
  go_wp2_with fail
  refine (read_calls w2 A c n bs HN.out (Kd.C_below HR.out HE2.out) hc (by omega)).mono ?_
  rintro e w3 ⟨b2, rfl, hY, hE⟩
  have HY := Aside0.mk hY
  have HX3 := Aside0.mk (HX2.out.ext hE)
  have HL3 := Aside0.mk hE.size
  have HE3 := Aside0.mk (HE2.out.trans hE)
  clear hY hE HX2
  go_wp2_with fail
  refine (rdsum_ok w3 _ _ b2 bs HY.out HB.out (by have := HN.out; omega)).mono ?_
  rintro e w4 ⟨rfl, hY, hT⟩
  have HY4 := Aside0.mk hY
  have HX4 := Aside0.mk (HX3.out.tch hT (.inl HL2.out))
  have HL4 := Aside0.mk hT.size
  have HE4 := Aside0.mk (hT.ext HE3.out (Nat.le_trans HE2.out.size (Nat.le_refl _)))
  have HSL := Aside0.mk (show ((bs.take 32)).length = 32 by rw [List.length_take]; have := HN.out; omega)
  have HI4 := Aside0.mk (show (Try.prog.info? 24).map (·.size) = some (nums .u8 (bs.take 32)).length by rw [nums_length, HSL.out]; kernel_rfl)
  clear hY hT HX3 HY
  go_wp2_with (first | ((with_reducible refine gate_store (ty := 24) rfl ?_); (refine store_at rfl 24 _ _ rfl w4.heap.size (nums .u8 (bs.take 32)) rfl rfl _ 24 (Blk.new w4 #[Value.int .u8 0, Value.int .u8 0, Value.int .u8 0, Value.int .u8 0, Value.int .u8 0, Value.int .u8 0, Value.int .u8 0, Value.int .u8 0, Value.int .u8 0, Value.int .u8 0, Value.int .u8 0, Value.int .u8 0, Value.int .u8 0, Value.int .u8 0, Value.int .u8 0, Value.int .u8 0, Value.int .u8 0, Value.int .u8 0, Value.int .u8 0, Value.int .u8 0, Value.int .u8 0, Value.int .u8 0, Value.int .u8 0, Value.int .u8 0, Value.int .u8 0, Value.int .u8 0, Value.int .u8 0, Value.int .u8 0, Value.int .u8 0, Value.int .u8 0, Value.int .u8 0, Value.int .u8 0] 24) ?c1 HI4.out (one_cells _ _) ?_)) | fail)
  case c1 => exact (show 32 = (nums .u8 (bs.take 32)).length by rw [nums_length, HSL.out])
  intro w5 hW hB5
  have hE := (Ext.refl w4).alloc (.cells #[Value.int .u8 0, Value.int .u8 0, Value.int .u8 0, Value.int .u8 0, Value.int .u8 0, Value.int .u8 0, Value.int .u8 0, Value.int .u8 0, Value.int .u8 0, Value.int .u8 0, Value.int .u8 0, Value.int .u8 0, Value.int .u8 0, Value.int .u8 0, Value.int .u8 0, Value.int .u8 0, Value.int .u8 0, Value.int .u8 0, Value.int .u8 0, Value.int .u8 0, Value.int .u8 0, Value.int .u8 0, Value.int .u8 0, Value.int .u8 0, Value.int .u8 0, Value.int .u8 0, Value.int .u8 0, Value.int .u8 0, Value.int .u8 0, Value.int .u8 0, Value.int .u8 0, Value.int .u8 0] 24)
  have hs := size_alloc w4 (.cells #[Value.int .u8 0, Value.int .u8 0, Value.int .u8 0, Value.int .u8 0, Value.int .u8 0, Value.int .u8 0, Value.int .u8 0, Value.int .u8 0, Value.int .u8 0, Value.int .u8 0, Value.int .u8 0, Value.int .u8 0, Value.int .u8 0, Value.int .u8 0, Value.int .u8 0, Value.int .u8 0, Value.int .u8 0, Value.int .u8 0, Value.int .u8 0, Value.int .u8 0, Value.int .u8 0, Value.int .u8 0, Value.int .u8 0, Value.int .u8 0, Value.int .u8 0, Value.int .u8 0, Value.int .u8 0, Value.int .u8 0, Value.int .u8 0, Value.int .u8 0, Value.int .u8 0, Value.int .u8 0] 24)
  have hw5 := hW.ext hE (Nat.le_refl _)
  have HX5 := Aside0.mk (HX4.out.ext hw5)
  have HY5 := Aside0.mk (HY4.out.ext hw5)
  have HE5 := Aside0.mk (HE4.out.trans hw5)
  have HL5 := Aside0.mk (show w4.heap.size + 1 = w5.heap.size by rw [hW.size, hs])
  have HS5 := Aside0.mk hB5
  clear hW hB5 hE hs hw5 HX4 HY4
  go_wp2_with fail
  refine (read_calls w5 A c n bs HN.out (Kd.C_below HR.out HE5.out) hc (by omega)).mono ?_
  rintro e w6 ⟨b3, rfl, hZ, hE⟩
  have HZ := Aside0.mk hZ
  have HX6 := Aside0.mk (HX5.out.ext hE)
  have HY6 := Aside0.mk (HY5.out.ext hE)
  have HS6 := Aside0.mk (HS5.out.ext hE)
  have HE6 := Aside0.mk (HE5.out.trans hE)
  have HL6 := Aside0.mk hE.size
  clear hZ hE HX5 HY5 HS5
  go_wp2_with fail
  refine (rdref_ok w6 _ _ b3 bs HZ.out HB.out (by have := HN.out; omega)).mono ?_
  rintro e w7 ⟨rfl, hZ, hT⟩
  have HZ7 := Aside0.mk hZ
  have HX7 := Aside0.mk (HX6.out.tch hT (.inl (by have := HL2.out; have := HL3.out; have := HL4.out; have := HL5.out; omega)))
  have HY7 := Aside0.mk (HY6.out.tch hT (.inl (by have := HL4.out; have := HL5.out; omega)))
  have HS7 := Aside0.mk (hT.blk HS6.out (by have := HL5.out; omega))
  have HE7 := Aside0.mk (hT.ext HE6.out HE5.out.size)
  have HRL := Aside0.mk (show (((bs.take 40).drop 8)).length = 32 by rw [List.length_drop, List.length_take]; have := HN.out; omega)
  have HI6 := Aside0.mk (show (Try.prog.info? 26).map (·.size) = some (refC (numI (bs.take 8)) ((bs.take 40).drop 8)).length by unfold refC; rw [List.length_cons, nums_length, HRL.out]; kernel_rfl)
  clear hZ hT HX6 HY6 HS6 HZ
  go_wp2_with (first | ((with_reducible refine gate_store (ty := 26) rfl ?_); (refine store_at rfl 26 _ _ rfl w7.heap.size (refC (numI (bs.take 8)) ((bs.take 40).drop 8)) rfl rfl _ 26 (Blk.new w7 #[Value.int .i64 0, Value.int .u8 0, Value.int .u8 0, Value.int .u8 0, Value.int .u8 0, Value.int .u8 0, Value.int .u8 0, Value.int .u8 0, Value.int .u8 0, Value.int .u8 0, Value.int .u8 0, Value.int .u8 0, Value.int .u8 0, Value.int .u8 0, Value.int .u8 0, Value.int .u8 0, Value.int .u8 0, Value.int .u8 0, Value.int .u8 0, Value.int .u8 0, Value.int .u8 0, Value.int .u8 0, Value.int .u8 0, Value.int .u8 0, Value.int .u8 0, Value.int .u8 0, Value.int .u8 0, Value.int .u8 0, Value.int .u8 0, Value.int .u8 0, Value.int .u8 0, Value.int .u8 0, Value.int .u8 0] 26) ?c1 HI6.out (one_ref _ _) ?_)) | fail)
  case c1 => exact (show 33 = (refC (numI (bs.take 8)) ((bs.take 40).drop 8)).length by unfold refC; rw [List.length_cons, nums_length, HRL.out])
  intro w8 hW hB8
  have hE := (Ext.refl w7).alloc (.cells #[Value.int .i64 0, Value.int .u8 0, Value.int .u8 0, Value.int .u8 0, Value.int .u8 0, Value.int .u8 0, Value.int .u8 0, Value.int .u8 0, Value.int .u8 0, Value.int .u8 0, Value.int .u8 0, Value.int .u8 0, Value.int .u8 0, Value.int .u8 0, Value.int .u8 0, Value.int .u8 0, Value.int .u8 0, Value.int .u8 0, Value.int .u8 0, Value.int .u8 0, Value.int .u8 0, Value.int .u8 0, Value.int .u8 0, Value.int .u8 0, Value.int .u8 0, Value.int .u8 0, Value.int .u8 0, Value.int .u8 0, Value.int .u8 0, Value.int .u8 0, Value.int .u8 0, Value.int .u8 0, Value.int .u8 0] 26)
  have hw8 := hW.ext hE (Nat.le_refl _)
  have HX8 := Aside0.mk (HX7.out.ext hw8)
  have HY8 := Aside0.mk (HY7.out.ext hw8)
  have HZ8 := Aside0.mk (HZ7.out.ext hw8)
  have HS8 := Aside0.mk (HS7.out.ext hw8)
  have HE8 := Aside0.mk (HE7.out.trans hw8)
  have HF8 := Aside0.mk hB8
  clear hW hB8 hE hw8 HX7 HY7 HZ7 HS7
  go_wp2_with fail
  refine (bad_calls _ _ _ b1 _ false HX8.out).mono ?_
  rintro e wq ⟨rfl, hE⟩
  have HX9 := Aside0.mk (HX8.out.ext hE)
  have HY9 := Aside0.mk (HY8.out.ext hE)
  have HZ9 := Aside0.mk (HZ8.out.ext hE)
  have HS9 := Aside0.mk (HS8.out.ext hE)
  have HF9 := Aside0.mk (HF8.out.ext hE)
  have HE9 := Aside0.mk (HE8.out.trans hE)
  clear hE HX8 HY8 HZ8 HS8 HF8 HE8
  have HX8 := HX9
  have HY8 := HY9
  have HZ8 := HZ9
  have HS8 := HS9
  have HF8 := HF9
  have HE8 := HE9
  clear HX9 HY9 HZ9 HS9 HF9 HE9
  go_wp2_with fail
  refine (bad_calls _ _ _ b2 _ false HY8.out).mono ?_
  rintro e wq ⟨rfl, hE⟩
  have HX9 := Aside0.mk (HX8.out.ext hE)
  have HY9 := Aside0.mk (HY8.out.ext hE)
  have HZ9 := Aside0.mk (HZ8.out.ext hE)
  have HS9 := Aside0.mk (HS8.out.ext hE)
  have HF9 := Aside0.mk (HF8.out.ext hE)
  have HE9 := Aside0.mk (HE8.out.trans hE)
  clear hE HX8 HY8 HZ8 HS8 HF8 HE8
  have HX8 := HX9
  have HY8 := HY9
  have HZ8 := HZ9
  have HS8 := HS9
  have HF8 := HF9
  have HE8 := HE9
  clear HX9 HY9 HZ9 HS9 HF9 HE9
  go_wp2_with fail
  refine (bad_calls _ _ _ b3 _ false HZ8.out).mono ?_
  rintro e wq ⟨rfl, hE⟩
  have HX9 := Aside0.mk (HX8.out.ext hE)
  have HY9 := Aside0.mk (HY8.out.ext hE)
  have HZ9 := Aside0.mk (HZ8.out.ext hE)
  have HS9 := Aside0.mk (HS8.out.ext hE)
  have HF9 := Aside0.mk (HF8.out.ext hE)
  have HE9 := Aside0.mk (HE8.out.trans hE)
  clear hE HX8 HY8 HZ8 HS8 HF8 HE8
  have HX8 := HX9
  have HY8 := HY9
  have HZ8 := HZ9
  have HS8 := HS9
  have HF8 := HF9
  have HE8 := HE9
  clear HX9 HY9 HZ9 HS9 HF9 HE9
  go_wp2_with fail
  apply wp_region_facts 19 [RF.val (.pointer (some ⟨b1, 0, none⟩)), RF.val (.bool false), RF.val (.bool false), RF.val undef, RF.val undef, RF.val (.bool false), RF.val (.bool false), RF.val (.pointer (some ⟨b1, 0, none⟩)), RF.val (.bool false), RF.val (.bool true), RF.val (.bool true), RF.val (.int .i64 (numI (bs.take 8))), RF.fact (fun u W => NB W 0 u (be8 (numI (bs.take 8)))), RF.val (.slice A n c), RF.val (.slice A 8 c), RF.val (.bool true), RF.val (.bool true), RF.val (.bool true), RF.val (.bool true)] (by kernel_rfl) (by kernel_rfl)
  simp only [List.take_succ_cons, List.take_zero, List.zip_cons_cons, List.zip_nil_left]
  iterate 1 ((first | apply wpF_val rfl | apply wpF_valg (by rfl)); (intro w' hE hD; unfold Yld; go_simp; exact ⟨Ext.refl _, rfl⟩); (try simp only [Act.put, List.setIfInBounds_toArray, List.set_cons_zero, List.set_cons_succ]))
  (first | apply wpF_val rfl | apply wpF_valg (by rfl)); (intro w' hE hD; unfold Yld; go_simp; exact (bad_calls w' _ _ b1 _ false (HX8.out.ext hE)).mono fun e w2 h => ⟨_, h.1, h.2, rfl⟩); (try simp only [Act.put, List.setIfInBounds_toArray, List.set_cons_zero, List.set_cons_succ])
  iterate 1 ((first | apply wpF_val rfl | apply wpF_valg (by rfl)); (intro w' hE hD; unfold Yld; go_simp; exact ⟨Ext.refl _, rfl⟩); (try simp only [Act.put, List.setIfInBounds_toArray, List.set_cons_zero, List.set_cons_succ]))
  iterate 2 (apply wpF_skip (by rfl); (try simp only [Act.put, List.setIfInBounds_toArray, List.set_cons_zero, List.set_cons_succ]))
  iterate 3 ((first | apply wpF_val rfl | apply wpF_valg (by rfl)); (intro w' hE hD; unfold Yld; go_simp; exact ⟨Ext.refl _, rfl⟩); (try simp only [Act.put, List.setIfInBounds_toArray, List.set_cons_zero, List.set_cons_succ]))
  (first | apply wpF_val rfl | apply wpF_valg (by rfl)); (intro w' hE hD; unfold Yld; go_simp; exact (bad_calls w' _ _ b1 _ false (HX8.out.ext hE)).mono fun e w2 h => ⟨_, h.1, h.2, rfl⟩); (try simp only [Act.put, List.setIfInBounds_toArray, List.set_cons_zero, List.set_cons_succ])
  iterate 3 ((first | apply wpF_val rfl | apply wpF_valg (by rfl)); (intro w' hE hD; unfold Yld; go_simp; exact ⟨Ext.refl _, rfl⟩); (try simp only [Act.put, List.setIfInBounds_toArray, List.set_cons_zero, List.set_cons_succ]))
  refine wpF_factg (by rfl) (fun u W W' h he => NB.ext h he) ?_ ?_
  · intro w' hE hD
    unfold Yld
    go_simp
    exact (nil_int w' (numI (bs.take 8))).mono fun e w2 ⟨V, h1, h2, h3⟩ => ⟨V, h1, h3, NB.lower h2 (Nat.zero_le _)⟩
  intro u
  (try simp only [Act.put, List.setIfInBounds_toArray, List.set_cons_zero, List.set_cons_succ])
  iterate 2 ((first | apply wpF_val rfl | apply wpF_valg (by rfl)); (intro w' hE hD; unfold Yld; go_simp; exact ⟨Ext.refl _, rfl⟩); (try simp only [Act.put, List.setIfInBounds_toArray, List.set_cons_zero, List.set_cons_succ]))
  (first | apply wpF_val rfl | apply wpF_valg (by rfl)); (intro w' hE hD; have hN : NB w' 0 u (be8 (numI (bs.take 8))) := hD.1 (by kernel_rfl); rw [be8_num8 _ (by rw [List.length_take]; have := HN.out; omega) (HB.out.take 8)] at hN; unfold Yld; go_simp; exact (same_left w' 0 u A c 8 (bs.take 8) (by rw [List.length_take]; have := HN.out; omega) hN (Kd.C_below HQ1.out (HE8.out.trans hE)) hcc1 (by decide)).mono fun e w2 h => ⟨_, h.1, h.2, rfl⟩); (try simp only [Act.put, List.setIfInBounds_toArray, List.set_cons_zero, List.set_cons_succ])
  iterate 3 ((first | apply wpF_val rfl | apply wpF_valg (by rfl)); (intro w' hE hD; unfold Yld; go_simp; exact ⟨Ext.refl _, rfl⟩); (try simp only [Act.put, List.setIfInBounds_toArray, List.set_cons_zero, List.set_cons_succ]))
  refine wpF_nil fun wr hE hA => ?_
  have hEE := Aside0.mk hE
  clear hA hE
  simp only [List.drop_succ_cons, List.drop_zero]
  refine wpList_nil ?_
  have HX9 := Aside0.mk (HX8.out.ext hEE.out)
  have HY9 := Aside0.mk (HY8.out.ext hEE.out)
  have HZ9 := Aside0.mk (HZ8.out.ext hEE.out)
  have HS9 := Aside0.mk (HS8.out.ext hEE.out)
  have HF9 := Aside0.mk (HF8.out.ext hEE.out)
  have HE9 := Aside0.mk (HE8.out.trans hEE.out)
  clear hEE HX8 HY8 HZ8 HS8 HF8 HE8
  have HX8 := HX9
  have HY8 := HY9
  have HZ8 := HZ9
  have HS8 := HS9
  have HF8 := HF9
  have HE8 := HE9
  clear HX9 HY9 HZ9 HS9 HF9 HE9
  go_wp2_with fail
  apply wp_region_facts 19 [RF.val (.pointer (some ⟨b2, 0, none⟩)), RF.val (.bool false), RF.val (.bool false), RF.val undef, RF.val undef, RF.val undef, RF.val (.bool false), RF.val (.bool false), RF.val (.pointer (some ⟨b2, 0, none⟩)), RF.val (.bool false), RF.val (.bool true), RF.val (.bool true), RF.val (.slice (some ⟨w4.heap.size, 0, none⟩) 32 32), RF.val (.slice A n c), RF.val (.slice A 32 c), RF.val (.bool true), RF.val (.bool true), RF.val (.bool true), RF.val (.bool true)] (by kernel_rfl) (by kernel_rfl)
  simp only [List.take_succ_cons, List.take_zero, List.zip_cons_cons, List.zip_nil_left]
  iterate 1 ((first | apply wpF_val rfl | apply wpF_valg (by rfl)); (intro w' hE hD; unfold Yld; go_simp; exact ⟨Ext.refl _, rfl⟩); (try simp only [Act.put, List.setIfInBounds_toArray, List.set_cons_zero, List.set_cons_succ]))
  (first | apply wpF_val rfl | apply wpF_valg (by rfl)); (intro w' hE hD; unfold Yld; go_simp; exact (bad_calls w' _ _ b2 _ false (HY8.out.ext hE)).mono fun e w2 h => ⟨_, h.1, h.2, rfl⟩); (try simp only [Act.put, List.setIfInBounds_toArray, List.set_cons_zero, List.set_cons_succ])
  iterate 1 ((first | apply wpF_val rfl | apply wpF_valg (by rfl)); (intro w' hE hD; unfold Yld; go_simp; exact ⟨Ext.refl _, rfl⟩); (try simp only [Act.put, List.setIfInBounds_toArray, List.set_cons_zero, List.set_cons_succ]))
  iterate 3 (apply wpF_skip (by rfl); (try simp only [Act.put, List.setIfInBounds_toArray, List.set_cons_zero, List.set_cons_succ]))
  iterate 3 ((first | apply wpF_val rfl | apply wpF_valg (by rfl)); (intro w' hE hD; unfold Yld; go_simp; exact ⟨Ext.refl _, rfl⟩); (try simp only [Act.put, List.setIfInBounds_toArray, List.set_cons_zero, List.set_cons_succ]))
  (first | apply wpF_val rfl | apply wpF_valg (by rfl)); (intro w' hE hD; unfold Yld; go_simp; exact (bad_calls w' _ _ b2 _ false (HY8.out.ext hE)).mono fun e w2 h => ⟨_, h.1, h.2, rfl⟩); (try simp only [Act.put, List.setIfInBounds_toArray, List.set_cons_zero, List.set_cons_succ])
  iterate 5 ((first | apply wpF_val rfl | apply wpF_valg (by rfl)); (intro w' hE hD; unfold Yld; go_simp; exact ⟨Ext.refl _, rfl⟩); (try simp only [Act.put, List.setIfInBounds_toArray, List.set_cons_zero, List.set_cons_succ]))
  (first | apply wpF_val rfl | apply wpF_valg (by rfl)); (intro w' hE hD; unfold Yld; go_simp; exact (same_at w' (some ⟨w4.heap.size, 0, none⟩) A 32 c (bs.take 32) (bs.take 32) true HSL.out.symm HSL.out.symm (by simp) (by have := C_bytes (HS8.out.ext hE) (bs.take 32) (by rw [HSL.out]; decide) 0 [] (by simp); rwa [HSL.out] at this) (by decide) (Kd.C_below HQ2.out (HE8.out.trans hE)) hcc2 (by rw [HSL.out]; decide)).mono fun e w2 h => ⟨_, h.1, h.2, rfl⟩); (try simp only [Act.put, List.setIfInBounds_toArray, List.set_cons_zero, List.set_cons_succ])
  iterate 3 ((first | apply wpF_val rfl | apply wpF_valg (by rfl)); (intro w' hE hD; unfold Yld; go_simp; exact ⟨Ext.refl _, rfl⟩); (try simp only [Act.put, List.setIfInBounds_toArray, List.set_cons_zero, List.set_cons_succ]))
  refine wpF_nil fun wr2 hE hA => ?_
  have hEE := Aside0.mk hE
  clear hA hE
  simp only [List.drop_succ_cons, List.drop_zero]
  refine wpList_nil ?_
  have HX9 := Aside0.mk (HX8.out.ext hEE.out)
  have HY9 := Aside0.mk (HY8.out.ext hEE.out)
  have HZ9 := Aside0.mk (HZ8.out.ext hEE.out)
  have HS9 := Aside0.mk (HS8.out.ext hEE.out)
  have HF9 := Aside0.mk (HF8.out.ext hEE.out)
  have HE9 := Aside0.mk (HE8.out.trans hEE.out)
  clear hEE HX8 HY8 HZ8 HS8 HF8 HE8
  have HX8 := HX9
  have HY8 := HY9
  have HZ8 := HZ9
  have HS8 := HS9
  have HF8 := HF9
  have HE8 := HE9
  clear HX9 HY9 HZ9 HS9 HF9 HE9
  go_wp2_with fail
  apply wp_region_facts 20 [RF.val (.pointer (some ⟨b3, 0, none⟩)), RF.val (.bool false), RF.val (.bool false), RF.val undef, RF.val undef, RF.val undef, RF.val (.bool false), RF.val (.bool false), RF.val (.pointer (some ⟨b3, 0, none⟩)), RF.val (.bool false), RF.val (.bool true), RF.val (.bool true), RF.val (refV (numI (bs.take 8)) ((bs.take 40).drop 8)), RF.fact (fun u W => NB W 0 u (refB (numI (bs.take 8)) ((bs.take 40).drop 8))), RF.val (.slice A n c), RF.val (.slice A 40 c), RF.val (.bool true), RF.val (.bool true), RF.val (.bool true), RF.val (.bool true)] (by kernel_rfl) (by kernel_rfl)
  simp only [List.take_succ_cons, List.take_zero, List.zip_cons_cons, List.zip_nil_left]
  iterate 1 ((first | apply wpF_val rfl | apply wpF_valg (by rfl)); (intro w' hE hD; unfold Yld; go_simp; exact ⟨Ext.refl _, rfl⟩); (try simp only [Act.put, List.setIfInBounds_toArray, List.set_cons_zero, List.set_cons_succ]))
  (first | apply wpF_val rfl | apply wpF_valg (by rfl)); (intro w' hE hD; unfold Yld; go_simp; exact (bad_calls w' _ _ b3 _ false (HZ8.out.ext hE)).mono fun e w2 h => ⟨_, h.1, h.2, rfl⟩); (try simp only [Act.put, List.setIfInBounds_toArray, List.set_cons_zero, List.set_cons_succ])
  iterate 1 ((first | apply wpF_val rfl | apply wpF_valg (by rfl)); (intro w' hE hD; unfold Yld; go_simp; exact ⟨Ext.refl _, rfl⟩); (try simp only [Act.put, List.setIfInBounds_toArray, List.set_cons_zero, List.set_cons_succ]))
  iterate 3 (apply wpF_skip (by rfl); (try simp only [Act.put, List.setIfInBounds_toArray, List.set_cons_zero, List.set_cons_succ]))
  iterate 3 ((first | apply wpF_val rfl | apply wpF_valg (by rfl)); (intro w' hE hD; unfold Yld; go_simp; exact ⟨Ext.refl _, rfl⟩); (try simp only [Act.put, List.setIfInBounds_toArray, List.set_cons_zero, List.set_cons_succ]))
  (first | apply wpF_val rfl | apply wpF_valg (by rfl)); (intro w' hE hD; unfold Yld; go_simp; exact (bad_calls w' _ _ b3 _ false (HZ8.out.ext hE)).mono fun e w2 h => ⟨_, h.1, h.2, rfl⟩); (try simp only [Act.put, List.setIfInBounds_toArray, List.set_cons_zero, List.set_cons_succ])
  iterate 2 ((first | apply wpF_val rfl | apply wpF_valg (by rfl)); (intro w' hE hD; unfold Yld; go_simp; exact ⟨Ext.refl _, rfl⟩); (try simp only [Act.put, List.setIfInBounds_toArray, List.set_cons_zero, List.set_cons_succ]))
  (first | apply wpF_val rfl | apply wpF_valg (by rfl)); (intro w' hE hD; exact Yld_load 26 (.tmp 8) rfl w7.heap.size 0 rfl (refC (numI (bs.take 8)) ((bs.take 40).drop 8)) _ ((HF8.out.ext hE).range 0 _ [] (by simp)) Try.underlying26 rfl HI6.out); (try simp only [Act.put, List.setIfInBounds_toArray, List.set_cons_zero, List.set_cons_succ])
  refine wpF_factg (by rfl) (fun u W W' h he => NB.ext h he) ?_ ?_
  · intro w' hE hD
    unfold Yld
    go_simp
    exact (nil_ref w' (numI (bs.take 8)) ((bs.take 40).drop 8) _ rfl HRL.out).mono fun e w2 ⟨V, h1, h2, h3⟩ => ⟨V, h1, h3, NB.lower h2 (Nat.zero_le _)⟩
  intro u2
  (try simp only [Act.put, List.setIfInBounds_toArray, List.set_cons_zero, List.set_cons_succ])
  iterate 2 ((first | apply wpF_val rfl | apply wpF_valg (by rfl)); (intro w' hE hD; unfold Yld; go_simp; exact ⟨Ext.refl _, rfl⟩); (try simp only [Act.put, List.setIfInBounds_toArray, List.set_cons_zero, List.set_cons_succ]))
  (first | apply wpF_val rfl | apply wpF_valg (by rfl)); (intro w' hE hD; have hN : NB w' 0 u2 (refB (numI (bs.take 8)) ((bs.take 40).drop 8)) := hD.1 (by kernel_rfl); rw [show refB (numI (bs.take 8)) ((bs.take 40).drop 8) = bs.take 40 by unfold refB; rw [be8_num8 _ (by rw [List.length_take]; have := HN.out; omega) (HB.out.take 8)]; conv => lhs; rw [show bs.take 8 = (bs.take 40).take 8 by rw [List.take_take]; rfl]; rw [List.take_append_drop]] at hN; unfold Yld; go_simp; exact (same_left w' 0 u2 A c 40 (bs.take 40) (by rw [List.length_take]; have := HN.out; omega) hN (Kd.C_below HQ3.out (HE8.out.trans hE)) hcc3 (by decide)).mono fun e w2 h => ⟨_, h.1, h.2, rfl⟩); (try simp only [Act.put, List.setIfInBounds_toArray, List.set_cons_zero, List.set_cons_succ])
  iterate 3 ((first | apply wpF_val rfl | apply wpF_valg (by rfl)); (intro w' hE hD; unfold Yld; go_simp; exact ⟨Ext.refl _, rfl⟩); (try simp only [Act.put, List.setIfInBounds_toArray, List.set_cons_zero, List.set_cons_succ]))
  refine wpF_nil fun wr3 hE hA => ?_
  have hEE := Aside0.mk hE
  clear hA hE
  simp only [List.drop_succ_cons, List.drop_zero]
  refine wpList_nil ?_
  have HX9 := Aside0.mk (HX8.out.ext hEE.out)
  have HY9 := Aside0.mk (HY8.out.ext hEE.out)
  have HZ9 := Aside0.mk (HZ8.out.ext hEE.out)
  have HS9 := Aside0.mk (HS8.out.ext hEE.out)
  have HF9 := Aside0.mk (HF8.out.ext hEE.out)
  have HE9 := Aside0.mk (HE8.out.trans hEE.out)
  clear hEE HX8 HY8 HZ8 HS8 HF8 HE8
  have HX8 := HX9
  have HY8 := HY9
  have HZ8 := HZ9
  have HS8 := HS9
  have HF8 := HF9
  have HE8 := HE9
  clear HX9 HY9 HZ9 HS9 HF9 HE9
  go_wp2_with fail
  refine (known_calls _).mono ?_
  rintro e wz ⟨rfl, hE⟩
  have HEz := Aside0.mk (HE8.out.trans hE)
  clear hE HE8
  go_wp2
  go_ret
  exact ⟨rfl, HEz.out⟩

set_option maxRecDepth 100000 in
set_option maxHeartbeats 8000000 in
theorem only_oob (w : World) (A : Option Addr) (c n : Nat) (bs : List Int) (hn : n = bs.length) (hr : Kd.C kb w A n bs) (hc : n ≤ c) (hB : isB bs) (hm : n ≤ 4096) (h1 : 8 ≤ n) (h2 : 32 ≤ n) (h3 : n < 40) :
    Calls Try.prog 4 #[.slice A n c] w fun e w' => e = .returned (.bool true) ∧ Ext w w' := by
  have HR := Aside0.mk hr
  have HN := Aside0.mk hn
  have HB := Aside0.mk hB
  have hz : ((4096 : Int) < (n : Int)) = False := eq_false (by omega)
  obtain ⟨i0, hi0, _, hsz, _⟩ := info_parts PPackPuts.info5
  have hz1 : ((n : Int) < 8) = False := eq_false (by omega)
  have hcut1 := cut_to (P := Try.prog) 22 5 .i64 Try.underlying22 hi0 A n c 8 (by decide) (by omega) hc
  rw [show (8 : Int).toNat = 8 from rfl] at hcut1
  have HQ1 := Aside0.mk (show Kd.C kb w A 8 (bs.take 8) by
    have := Kd.C_take (m := 8) (hn ▸ hr) (by omega)
    rwa [show (bs.take 8).length = 8 by rw [List.length_take]; omega] at this)
  have hcc1 : 8 ≤ c := by omega
  have hz2 : ((n : Int) < 32) = False := eq_false (by omega)
  have hcut2 := cut_to (P := Try.prog) 22 5 .i64 Try.underlying22 hi0 A n c 32 (by decide) (by omega) hc
  rw [show (32 : Int).toNat = 32 from rfl] at hcut2
  have HQ2 := Aside0.mk (show Kd.C kb w A 32 (bs.take 32) by
    have := Kd.C_take (m := 32) (hn ▸ hr) (by omega)
    rwa [show (bs.take 32).length = 32 by rw [List.length_take]; omega] at this)
  have hcc2 : 32 ≤ c := by omega
  have hz3 : ((n : Int) < 40) = True := eq_true (by omega)
  clear hr hn hB hi0 hsz
  have HM := Aside0.mk (show n ≤ 4096 from hm)
  go_enter Try.func4, Try.ntmps4
  go_wp2_with fail
  refine (read_calls w A c n bs HN.out HR.out hc (by omega)).mono ?_
  rintro e w1 ⟨b1, rfl, hX, hE⟩
  have HX := Aside0.mk hX
  have HE1 := Aside0.mk hE
  clear hX hE
  go_wp2_with fail
  refine (rdint_ok w1 _ _ b1 bs HX.out HB.out (by have := HN.out; omega)).mono ?_
  rintro e w2 ⟨rfl, hX, hT⟩
  have HX2 := Aside0.mk hX
  have HL2 := Aside0.mk hT.size
  have HE2 := Aside0.mk (hT.ext HE1.out (Nat.le_refl _))
  clear hX hT HX
  go_wp2_with fail
  refine (read_calls w2 A c n bs HN.out (Kd.C_below HR.out HE2.out) hc (by omega)).mono ?_
  rintro e w3 ⟨b2, rfl, hY, hE⟩
  have HY := Aside0.mk hY
  have HX3 := Aside0.mk (HX2.out.ext hE)
  have HL3 := Aside0.mk hE.size
  have HE3 := Aside0.mk (HE2.out.trans hE)
  clear hY hE HX2
  go_wp2_with fail
  refine (rdsum_ok w3 _ _ b2 bs HY.out HB.out (by have := HN.out; omega)).mono ?_
  rintro e w4 ⟨rfl, hY, hT⟩
  have HY4 := Aside0.mk hY
  have HX4 := Aside0.mk (HX3.out.tch hT (.inl HL2.out))
  have HL4 := Aside0.mk hT.size
  have HE4 := Aside0.mk (hT.ext HE3.out (Nat.le_trans HE2.out.size (Nat.le_refl _)))
  have HSL := Aside0.mk (show ((bs.take 32)).length = 32 by rw [List.length_take]; have := HN.out; omega)
  have HI4 := Aside0.mk (show (Try.prog.info? 24).map (·.size) = some (nums .u8 (bs.take 32)).length by rw [nums_length, HSL.out]; kernel_rfl)
  clear hY hT HX3 HY
  go_wp2_with (first | ((with_reducible refine gate_store (ty := 24) rfl ?_); (refine store_at rfl 24 _ _ rfl w4.heap.size (nums .u8 (bs.take 32)) rfl rfl _ 24 (Blk.new w4 #[Value.int .u8 0, Value.int .u8 0, Value.int .u8 0, Value.int .u8 0, Value.int .u8 0, Value.int .u8 0, Value.int .u8 0, Value.int .u8 0, Value.int .u8 0, Value.int .u8 0, Value.int .u8 0, Value.int .u8 0, Value.int .u8 0, Value.int .u8 0, Value.int .u8 0, Value.int .u8 0, Value.int .u8 0, Value.int .u8 0, Value.int .u8 0, Value.int .u8 0, Value.int .u8 0, Value.int .u8 0, Value.int .u8 0, Value.int .u8 0, Value.int .u8 0, Value.int .u8 0, Value.int .u8 0, Value.int .u8 0, Value.int .u8 0, Value.int .u8 0, Value.int .u8 0, Value.int .u8 0] 24) ?c1 HI4.out (one_cells _ _) ?_)) | fail)
  case c1 => exact (show 32 = (nums .u8 (bs.take 32)).length by rw [nums_length, HSL.out])
  intro w5 hW hB5
  have hE := (Ext.refl w4).alloc (.cells #[Value.int .u8 0, Value.int .u8 0, Value.int .u8 0, Value.int .u8 0, Value.int .u8 0, Value.int .u8 0, Value.int .u8 0, Value.int .u8 0, Value.int .u8 0, Value.int .u8 0, Value.int .u8 0, Value.int .u8 0, Value.int .u8 0, Value.int .u8 0, Value.int .u8 0, Value.int .u8 0, Value.int .u8 0, Value.int .u8 0, Value.int .u8 0, Value.int .u8 0, Value.int .u8 0, Value.int .u8 0, Value.int .u8 0, Value.int .u8 0, Value.int .u8 0, Value.int .u8 0, Value.int .u8 0, Value.int .u8 0, Value.int .u8 0, Value.int .u8 0, Value.int .u8 0, Value.int .u8 0] 24)
  have hs := size_alloc w4 (.cells #[Value.int .u8 0, Value.int .u8 0, Value.int .u8 0, Value.int .u8 0, Value.int .u8 0, Value.int .u8 0, Value.int .u8 0, Value.int .u8 0, Value.int .u8 0, Value.int .u8 0, Value.int .u8 0, Value.int .u8 0, Value.int .u8 0, Value.int .u8 0, Value.int .u8 0, Value.int .u8 0, Value.int .u8 0, Value.int .u8 0, Value.int .u8 0, Value.int .u8 0, Value.int .u8 0, Value.int .u8 0, Value.int .u8 0, Value.int .u8 0, Value.int .u8 0, Value.int .u8 0, Value.int .u8 0, Value.int .u8 0, Value.int .u8 0, Value.int .u8 0, Value.int .u8 0, Value.int .u8 0] 24)
  have hw5 := hW.ext hE (Nat.le_refl _)
  have HX5 := Aside0.mk (HX4.out.ext hw5)
  have HY5 := Aside0.mk (HY4.out.ext hw5)
  have HE5 := Aside0.mk (HE4.out.trans hw5)
  have HL5 := Aside0.mk (show w4.heap.size + 1 = w5.heap.size by rw [hW.size, hs])
  have HS5 := Aside0.mk hB5
  clear hW hB5 hE hs hw5 HX4 HY4
  go_wp2_with fail
  refine (read_calls w5 A c n bs HN.out (Kd.C_below HR.out HE5.out) hc (by omega)).mono ?_
  rintro e w6 ⟨b3, rfl, hZ, hE⟩
  have HZ := Aside0.mk hZ
  have HX6 := Aside0.mk (HX5.out.ext hE)
  have HY6 := Aside0.mk (HY5.out.ext hE)
  have HS6 := Aside0.mk (HS5.out.ext hE)
  have HE6 := Aside0.mk (HE5.out.trans hE)
  have HL6 := Aside0.mk hE.size
  clear hZ hE HX5 HY5 HS5
  go_wp2_with fail
  refine (rdref_bad w6 _ _ b3 bs false HZ.out (.inr (by have := HN.out; omega))).mono ?_
  rintro e w7 ⟨rfl, hZ, hT⟩
  have HZ7 := Aside0.mk hZ
  have HX7 := Aside0.mk (HX6.out.tch hT (.inl (by have := HL2.out; have := HL3.out; have := HL4.out; have := HL5.out; omega)))
  have HY7 := Aside0.mk (HY6.out.tch hT (.inl (by have := HL4.out; have := HL5.out; omega)))
  have HS7 := Aside0.mk (hT.blk HS6.out (by have := HL5.out; omega))
  have HE7 := Aside0.mk (hT.ext HE6.out HE5.out.size)
  have HRL := Aside0.mk (show (zero32).length = 32 by rfl)
  have HI6 := Aside0.mk (show (Try.prog.info? 26).map (·.size) = some (refC 0 zero32).length by unfold refC; rw [List.length_cons, nums_length, HRL.out]; kernel_rfl)
  clear hZ hT HX6 HY6 HS6 HZ
  go_wp2_with (first | ((with_reducible refine gate_store (ty := 26) rfl ?_); (refine store_at rfl 26 _ _ rfl w7.heap.size (refC 0 zero32) rfl rfl _ 26 (Blk.new w7 #[Value.int .i64 0, Value.int .u8 0, Value.int .u8 0, Value.int .u8 0, Value.int .u8 0, Value.int .u8 0, Value.int .u8 0, Value.int .u8 0, Value.int .u8 0, Value.int .u8 0, Value.int .u8 0, Value.int .u8 0, Value.int .u8 0, Value.int .u8 0, Value.int .u8 0, Value.int .u8 0, Value.int .u8 0, Value.int .u8 0, Value.int .u8 0, Value.int .u8 0, Value.int .u8 0, Value.int .u8 0, Value.int .u8 0, Value.int .u8 0, Value.int .u8 0, Value.int .u8 0, Value.int .u8 0, Value.int .u8 0, Value.int .u8 0, Value.int .u8 0, Value.int .u8 0, Value.int .u8 0, Value.int .u8 0] 26) ?c1 HI6.out (one_ref _ _) ?_)) | fail)
  case c1 => exact (show 33 = (refC 0 zero32).length by unfold refC; rw [List.length_cons, nums_length, HRL.out])
  intro w8 hW hB8
  have hE := (Ext.refl w7).alloc (.cells #[Value.int .i64 0, Value.int .u8 0, Value.int .u8 0, Value.int .u8 0, Value.int .u8 0, Value.int .u8 0, Value.int .u8 0, Value.int .u8 0, Value.int .u8 0, Value.int .u8 0, Value.int .u8 0, Value.int .u8 0, Value.int .u8 0, Value.int .u8 0, Value.int .u8 0, Value.int .u8 0, Value.int .u8 0, Value.int .u8 0, Value.int .u8 0, Value.int .u8 0, Value.int .u8 0, Value.int .u8 0, Value.int .u8 0, Value.int .u8 0, Value.int .u8 0, Value.int .u8 0, Value.int .u8 0, Value.int .u8 0, Value.int .u8 0, Value.int .u8 0, Value.int .u8 0, Value.int .u8 0, Value.int .u8 0] 26)
  have hw8 := hW.ext hE (Nat.le_refl _)
  have HX8 := Aside0.mk (HX7.out.ext hw8)
  have HY8 := Aside0.mk (HY7.out.ext hw8)
  have HZ8 := Aside0.mk (HZ7.out.ext hw8)
  have HS8 := Aside0.mk (HS7.out.ext hw8)
  have HE8 := Aside0.mk (HE7.out.trans hw8)
  have HF8 := Aside0.mk hB8
  clear hW hB8 hE hw8 HX7 HY7 HZ7 HS7
  go_wp2_with fail
  refine (bad_calls _ _ _ b1 _ false HX8.out).mono ?_
  rintro e wq ⟨rfl, hE⟩
  have HX9 := Aside0.mk (HX8.out.ext hE)
  have HY9 := Aside0.mk (HY8.out.ext hE)
  have HZ9 := Aside0.mk (HZ8.out.ext hE)
  have HS9 := Aside0.mk (HS8.out.ext hE)
  have HF9 := Aside0.mk (HF8.out.ext hE)
  have HE9 := Aside0.mk (HE8.out.trans hE)
  clear hE HX8 HY8 HZ8 HS8 HF8 HE8
  have HX8 := HX9
  have HY8 := HY9
  have HZ8 := HZ9
  have HS8 := HS9
  have HF8 := HF9
  have HE8 := HE9
  clear HX9 HY9 HZ9 HS9 HF9 HE9
  go_wp2_with fail
  refine (bad_calls _ _ _ b2 _ false HY8.out).mono ?_
  rintro e wq ⟨rfl, hE⟩
  have HX9 := Aside0.mk (HX8.out.ext hE)
  have HY9 := Aside0.mk (HY8.out.ext hE)
  have HZ9 := Aside0.mk (HZ8.out.ext hE)
  have HS9 := Aside0.mk (HS8.out.ext hE)
  have HF9 := Aside0.mk (HF8.out.ext hE)
  have HE9 := Aside0.mk (HE8.out.trans hE)
  clear hE HX8 HY8 HZ8 HS8 HF8 HE8
  have HX8 := HX9
  have HY8 := HY9
  have HZ8 := HZ9
  have HS8 := HS9
  have HF8 := HF9
  have HE8 := HE9
  clear HX9 HY9 HZ9 HS9 HF9 HE9
  go_wp2_with fail
  refine (bad_calls _ _ _ b3 _ true HZ8.out).mono ?_
  rintro e wq ⟨rfl, hE⟩
  have HX9 := Aside0.mk (HX8.out.ext hE)
  have HY9 := Aside0.mk (HY8.out.ext hE)
  have HZ9 := Aside0.mk (HZ8.out.ext hE)
  have HS9 := Aside0.mk (HS8.out.ext hE)
  have HF9 := Aside0.mk (HF8.out.ext hE)
  have HE9 := Aside0.mk (HE8.out.trans hE)
  clear hE HX8 HY8 HZ8 HS8 HF8 HE8
  have HX8 := HX9
  have HY8 := HY9
  have HZ8 := HZ9
  have HS8 := HS9
  have HF8 := HF9
  have HE8 := HE9
  clear HX9 HY9 HZ9 HS9 HF9 HE9
  go_wp2_with fail
  apply wp_region_facts 19 [RF.val (.pointer (some ⟨b1, 0, none⟩)), RF.val (.bool false), RF.val (.bool false), RF.val undef, RF.val undef, RF.val (.bool false), RF.val (.bool false), RF.val (.pointer (some ⟨b1, 0, none⟩)), RF.val (.bool false), RF.val (.bool true), RF.val (.bool true), RF.val (.int .i64 (numI (bs.take 8))), RF.fact (fun u W => NB W 0 u (be8 (numI (bs.take 8)))), RF.val (.slice A n c), RF.val (.slice A 8 c), RF.val (.bool true), RF.val (.bool true), RF.val (.bool true), RF.val (.bool true)] (by kernel_rfl) (by kernel_rfl)
  simp only [List.take_succ_cons, List.take_zero, List.zip_cons_cons, List.zip_nil_left]
  iterate 1 ((first | apply wpF_val rfl | apply wpF_valg (by rfl)); (intro w' hE hD; unfold Yld; go_simp; exact ⟨Ext.refl _, rfl⟩); (try simp only [Act.put, List.setIfInBounds_toArray, List.set_cons_zero, List.set_cons_succ]))
  (first | apply wpF_val rfl | apply wpF_valg (by rfl)); (intro w' hE hD; unfold Yld; go_simp; exact (bad_calls w' _ _ b1 _ false (HX8.out.ext hE)).mono fun e w2 h => ⟨_, h.1, h.2, rfl⟩); (try simp only [Act.put, List.setIfInBounds_toArray, List.set_cons_zero, List.set_cons_succ])
  iterate 1 ((first | apply wpF_val rfl | apply wpF_valg (by rfl)); (intro w' hE hD; unfold Yld; go_simp; exact ⟨Ext.refl _, rfl⟩); (try simp only [Act.put, List.setIfInBounds_toArray, List.set_cons_zero, List.set_cons_succ]))
  iterate 2 (apply wpF_skip (by rfl); (try simp only [Act.put, List.setIfInBounds_toArray, List.set_cons_zero, List.set_cons_succ]))
  iterate 3 ((first | apply wpF_val rfl | apply wpF_valg (by rfl)); (intro w' hE hD; unfold Yld; go_simp; exact ⟨Ext.refl _, rfl⟩); (try simp only [Act.put, List.setIfInBounds_toArray, List.set_cons_zero, List.set_cons_succ]))
  (first | apply wpF_val rfl | apply wpF_valg (by rfl)); (intro w' hE hD; unfold Yld; go_simp; exact (bad_calls w' _ _ b1 _ false (HX8.out.ext hE)).mono fun e w2 h => ⟨_, h.1, h.2, rfl⟩); (try simp only [Act.put, List.setIfInBounds_toArray, List.set_cons_zero, List.set_cons_succ])
  iterate 3 ((first | apply wpF_val rfl | apply wpF_valg (by rfl)); (intro w' hE hD; unfold Yld; go_simp; exact ⟨Ext.refl _, rfl⟩); (try simp only [Act.put, List.setIfInBounds_toArray, List.set_cons_zero, List.set_cons_succ]))
  refine wpF_factg (by rfl) (fun u W W' h he => NB.ext h he) ?_ ?_
  · intro w' hE hD
    unfold Yld
    go_simp
    exact (nil_int w' (numI (bs.take 8))).mono fun e w2 ⟨V, h1, h2, h3⟩ => ⟨V, h1, h3, NB.lower h2 (Nat.zero_le _)⟩
  intro u
  (try simp only [Act.put, List.setIfInBounds_toArray, List.set_cons_zero, List.set_cons_succ])
  iterate 2 ((first | apply wpF_val rfl | apply wpF_valg (by rfl)); (intro w' hE hD; unfold Yld; go_simp; exact ⟨Ext.refl _, rfl⟩); (try simp only [Act.put, List.setIfInBounds_toArray, List.set_cons_zero, List.set_cons_succ]))
  (first | apply wpF_val rfl | apply wpF_valg (by rfl)); (intro w' hE hD; have hN : NB w' 0 u (be8 (numI (bs.take 8))) := hD.1 (by kernel_rfl); rw [be8_num8 _ (by rw [List.length_take]; have := HN.out; omega) (HB.out.take 8)] at hN; unfold Yld; go_simp; exact (same_left w' 0 u A c 8 (bs.take 8) (by rw [List.length_take]; have := HN.out; omega) hN (Kd.C_below HQ1.out (HE8.out.trans hE)) hcc1 (by decide)).mono fun e w2 h => ⟨_, h.1, h.2, rfl⟩); (try simp only [Act.put, List.setIfInBounds_toArray, List.set_cons_zero, List.set_cons_succ])
  iterate 3 ((first | apply wpF_val rfl | apply wpF_valg (by rfl)); (intro w' hE hD; unfold Yld; go_simp; exact ⟨Ext.refl _, rfl⟩); (try simp only [Act.put, List.setIfInBounds_toArray, List.set_cons_zero, List.set_cons_succ]))
  refine wpF_nil fun wr hE hA => ?_
  have hEE := Aside0.mk hE
  clear hA hE
  simp only [List.drop_succ_cons, List.drop_zero]
  refine wpList_nil ?_
  have HX9 := Aside0.mk (HX8.out.ext hEE.out)
  have HY9 := Aside0.mk (HY8.out.ext hEE.out)
  have HZ9 := Aside0.mk (HZ8.out.ext hEE.out)
  have HS9 := Aside0.mk (HS8.out.ext hEE.out)
  have HF9 := Aside0.mk (HF8.out.ext hEE.out)
  have HE9 := Aside0.mk (HE8.out.trans hEE.out)
  clear hEE HX8 HY8 HZ8 HS8 HF8 HE8
  have HX8 := HX9
  have HY8 := HY9
  have HZ8 := HZ9
  have HS8 := HS9
  have HF8 := HF9
  have HE8 := HE9
  clear HX9 HY9 HZ9 HS9 HF9 HE9
  go_wp2_with fail
  apply wp_region_facts 19 [RF.val (.pointer (some ⟨b2, 0, none⟩)), RF.val (.bool false), RF.val (.bool false), RF.val undef, RF.val undef, RF.val undef, RF.val (.bool false), RF.val (.bool false), RF.val (.pointer (some ⟨b2, 0, none⟩)), RF.val (.bool false), RF.val (.bool true), RF.val (.bool true), RF.val (.slice (some ⟨w4.heap.size, 0, none⟩) 32 32), RF.val (.slice A n c), RF.val (.slice A 32 c), RF.val (.bool true), RF.val (.bool true), RF.val (.bool true), RF.val (.bool true)] (by kernel_rfl) (by kernel_rfl)
  simp only [List.take_succ_cons, List.take_zero, List.zip_cons_cons, List.zip_nil_left]
  iterate 1 ((first | apply wpF_val rfl | apply wpF_valg (by rfl)); (intro w' hE hD; unfold Yld; go_simp; exact ⟨Ext.refl _, rfl⟩); (try simp only [Act.put, List.setIfInBounds_toArray, List.set_cons_zero, List.set_cons_succ]))
  (first | apply wpF_val rfl | apply wpF_valg (by rfl)); (intro w' hE hD; unfold Yld; go_simp; exact (bad_calls w' _ _ b2 _ false (HY8.out.ext hE)).mono fun e w2 h => ⟨_, h.1, h.2, rfl⟩); (try simp only [Act.put, List.setIfInBounds_toArray, List.set_cons_zero, List.set_cons_succ])
  iterate 1 ((first | apply wpF_val rfl | apply wpF_valg (by rfl)); (intro w' hE hD; unfold Yld; go_simp; exact ⟨Ext.refl _, rfl⟩); (try simp only [Act.put, List.setIfInBounds_toArray, List.set_cons_zero, List.set_cons_succ]))
  iterate 3 (apply wpF_skip (by rfl); (try simp only [Act.put, List.setIfInBounds_toArray, List.set_cons_zero, List.set_cons_succ]))
  iterate 3 ((first | apply wpF_val rfl | apply wpF_valg (by rfl)); (intro w' hE hD; unfold Yld; go_simp; exact ⟨Ext.refl _, rfl⟩); (try simp only [Act.put, List.setIfInBounds_toArray, List.set_cons_zero, List.set_cons_succ]))
  (first | apply wpF_val rfl | apply wpF_valg (by rfl)); (intro w' hE hD; unfold Yld; go_simp; exact (bad_calls w' _ _ b2 _ false (HY8.out.ext hE)).mono fun e w2 h => ⟨_, h.1, h.2, rfl⟩); (try simp only [Act.put, List.setIfInBounds_toArray, List.set_cons_zero, List.set_cons_succ])
  iterate 5 ((first | apply wpF_val rfl | apply wpF_valg (by rfl)); (intro w' hE hD; unfold Yld; go_simp; exact ⟨Ext.refl _, rfl⟩); (try simp only [Act.put, List.setIfInBounds_toArray, List.set_cons_zero, List.set_cons_succ]))
  (first | apply wpF_val rfl | apply wpF_valg (by rfl)); (intro w' hE hD; unfold Yld; go_simp; exact (same_at w' (some ⟨w4.heap.size, 0, none⟩) A 32 c (bs.take 32) (bs.take 32) true HSL.out.symm HSL.out.symm (by simp) (by have := C_bytes (HS8.out.ext hE) (bs.take 32) (by rw [HSL.out]; decide) 0 [] (by simp); rwa [HSL.out] at this) (by decide) (Kd.C_below HQ2.out (HE8.out.trans hE)) hcc2 (by rw [HSL.out]; decide)).mono fun e w2 h => ⟨_, h.1, h.2, rfl⟩); (try simp only [Act.put, List.setIfInBounds_toArray, List.set_cons_zero, List.set_cons_succ])
  iterate 3 ((first | apply wpF_val rfl | apply wpF_valg (by rfl)); (intro w' hE hD; unfold Yld; go_simp; exact ⟨Ext.refl _, rfl⟩); (try simp only [Act.put, List.setIfInBounds_toArray, List.set_cons_zero, List.set_cons_succ]))
  refine wpF_nil fun wr2 hE hA => ?_
  have hEE := Aside0.mk hE
  clear hA hE
  simp only [List.drop_succ_cons, List.drop_zero]
  refine wpList_nil ?_
  have HX9 := Aside0.mk (HX8.out.ext hEE.out)
  have HY9 := Aside0.mk (HY8.out.ext hEE.out)
  have HZ9 := Aside0.mk (HZ8.out.ext hEE.out)
  have HS9 := Aside0.mk (HS8.out.ext hEE.out)
  have HF9 := Aside0.mk (HF8.out.ext hEE.out)
  have HE9 := Aside0.mk (HE8.out.trans hEE.out)
  clear hEE HX8 HY8 HZ8 HS8 HF8 HE8
  have HX8 := HX9
  have HY8 := HY9
  have HZ8 := HZ9
  have HS8 := HS9
  have HF8 := HF9
  have HE8 := HE9
  clear HX9 HY9 HZ9 HS9 HF9 HE9
  go_wp2_with fail
  apply wp_region_facts 20 [RF.val (.pointer (some ⟨b3, 0, none⟩)), RF.val (.bool true), RF.val (.bool true), RF.val (refV 0 zero32), RF.val (refV 0 zero32), RF.val (.bool true), RF.val (.bool true), RF.val (.bool true), RF.val undef, RF.val undef, RF.val undef, RF.val undef, RF.val undef, RF.val undef, RF.val undef, RF.val undef, RF.val undef, RF.val undef, RF.val (.bool true), RF.val (.bool true)] (by kernel_rfl) (by kernel_rfl)
  simp only [List.take_succ_cons, List.take_zero, List.zip_cons_cons, List.zip_nil_left]
  iterate 1 ((first | apply wpF_val rfl | apply wpF_valg (by rfl)); (intro w' hE hD; unfold Yld; go_simp; exact ⟨Ext.refl _, rfl⟩); (try simp only [Act.put, List.setIfInBounds_toArray, List.set_cons_zero, List.set_cons_succ]))
  (first | apply wpF_val rfl | apply wpF_valg (by rfl)); (intro w' hE hD; unfold Yld; go_simp; exact (bad_calls w' _ _ b3 _ true (HZ8.out.ext hE)).mono fun e w2 h => ⟨_, h.1, h.2, rfl⟩); (try simp only [Act.put, List.setIfInBounds_toArray, List.set_cons_zero, List.set_cons_succ])
  iterate 1 ((first | apply wpF_val rfl | apply wpF_valg (by rfl)); (intro w' hE hD; unfold Yld; go_simp; exact ⟨Ext.refl _, rfl⟩); (try simp only [Act.put, List.setIfInBounds_toArray, List.set_cons_zero, List.set_cons_succ]))
  (first | apply wpF_val rfl | apply wpF_valg (by rfl)); (intro w' hE hD; exact Yld_load 26 (.tmp 8) rfl w7.heap.size 0 rfl (refC 0 zero32) _ ((HF8.out.ext hE).range 0 _ [] rfl) Try.underlying26 rfl HI6.out); (try simp only [Act.put, List.setIfInBounds_toArray, List.set_cons_zero, List.set_cons_succ])
  (first | apply wpF_val rfl | apply wpF_valg (by rfl)); (intro w' hE hD; exact Yld_build 26 #[] rfl _ [] rfl built_zero); (try simp only [Act.put, List.setIfInBounds_toArray, List.set_cons_zero, List.set_cons_succ])
  (first | apply wpF_val rfl | apply wpF_valg (by rfl)); (intro w' hE hD; exact Yld_eql 26 26 (.tmp 89) (.tmp 90) rfl (refC 0 zero32).toArray (refC 0 zero32).toArray rfl rfl (by kernel_rfl) true (by have := equal_ref 0 0 zero32 zero32 rfl rfl rfl rfl zero32_isB zero32_isB w'; rwa [show decide ((0 : Int) = 0 ∧ zero32 = zero32) = true by simp] at this)); (try simp only [Act.put, List.setIfInBounds_toArray, List.set_cons_zero, List.set_cons_succ])
  iterate 2 ((first | apply wpF_val rfl | apply wpF_valg (by rfl)); (intro w' hE hD; unfold Yld; go_simp; exact ⟨Ext.refl _, rfl⟩); (try simp only [Act.put, List.setIfInBounds_toArray, List.set_cons_zero, List.set_cons_succ]))
  iterate 10 (apply wpF_skip (by rfl); (try simp only [Act.put, List.setIfInBounds_toArray, List.set_cons_zero, List.set_cons_succ]))
  iterate 2 ((first | apply wpF_val rfl | apply wpF_valg (by rfl)); (intro w' hE hD; unfold Yld; go_simp; exact ⟨Ext.refl _, rfl⟩); (try simp only [Act.put, List.setIfInBounds_toArray, List.set_cons_zero, List.set_cons_succ]))
  refine wpF_nil fun wr3 hE hA => ?_
  have hEE := Aside0.mk hE
  clear hA hE
  simp only [List.drop_succ_cons, List.drop_zero]
  refine wpList_nil ?_
  have HX9 := Aside0.mk (HX8.out.ext hEE.out)
  have HY9 := Aside0.mk (HY8.out.ext hEE.out)
  have HZ9 := Aside0.mk (HZ8.out.ext hEE.out)
  have HS9 := Aside0.mk (HS8.out.ext hEE.out)
  have HF9 := Aside0.mk (HF8.out.ext hEE.out)
  have HE9 := Aside0.mk (HE8.out.trans hEE.out)
  clear hEE HX8 HY8 HZ8 HS8 HF8 HE8
  have HX8 := HX9
  have HY8 := HY9
  have HZ8 := HZ9
  have HS8 := HS9
  have HF8 := HF9
  have HE8 := HE9
  clear HX9 HY9 HZ9 HS9 HF9 HE9
  go_wp2_with fail
  refine (known_calls _).mono ?_
  rintro e wz ⟨rfl, hE⟩
  have HEz := Aside0.mk (HE8.out.trans hE)
  clear hE HE8
  go_wp2
  go_ret
  exact ⟨rfl, HEz.out⟩

set_option maxRecDepth 100000 in
set_option maxHeartbeats 8000000 in
theorem only_obb (w : World) (A : Option Addr) (c n : Nat) (bs : List Int) (hn : n = bs.length) (hr : Kd.C kb w A n bs) (hc : n ≤ c) (hB : isB bs) (hm : n ≤ 4096) (h1 : 8 ≤ n) (h2 : n < 32) (h3 : n < 40) :
    Calls Try.prog 4 #[.slice A n c] w fun e w' => e = .returned (.bool true) ∧ Ext w w' := by
  have HR := Aside0.mk hr
  have HN := Aside0.mk hn
  have HB := Aside0.mk hB
  have hz : ((4096 : Int) < (n : Int)) = False := eq_false (by omega)
  obtain ⟨i0, hi0, _, hsz, _⟩ := info_parts PPackPuts.info5
  have hz1 : ((n : Int) < 8) = False := eq_false (by omega)
  have hcut1 := cut_to (P := Try.prog) 22 5 .i64 Try.underlying22 hi0 A n c 8 (by decide) (by omega) hc
  rw [show (8 : Int).toNat = 8 from rfl] at hcut1
  have HQ1 := Aside0.mk (show Kd.C kb w A 8 (bs.take 8) by
    have := Kd.C_take (m := 8) (hn ▸ hr) (by omega)
    rwa [show (bs.take 8).length = 8 by rw [List.length_take]; omega] at this)
  have hcc1 : 8 ≤ c := by omega
  have hz2 : ((n : Int) < 32) = True := eq_true (by omega)
  have hz3 : ((n : Int) < 40) = True := eq_true (by omega)
  clear hr hn hB hi0 hsz
  have HM := Aside0.mk (show n ≤ 4096 from hm)
  go_enter Try.func4, Try.ntmps4
  go_wp2_with fail
  refine (read_calls w A c n bs HN.out HR.out hc (by omega)).mono ?_
  rintro e w1 ⟨b1, rfl, hX, hE⟩
  have HX := Aside0.mk hX
  have HE1 := Aside0.mk hE
  clear hX hE
  go_wp2_with fail
  refine (rdint_ok w1 _ _ b1 bs HX.out HB.out (by have := HN.out; omega)).mono ?_
  rintro e w2 ⟨rfl, hX, hT⟩
  have HX2 := Aside0.mk hX
  have HL2 := Aside0.mk hT.size
  have HE2 := Aside0.mk (hT.ext HE1.out (Nat.le_refl _))
  clear hX hT HX
  go_wp2_with fail
  refine (read_calls w2 A c n bs HN.out (Kd.C_below HR.out HE2.out) hc (by omega)).mono ?_
  rintro e w3 ⟨b2, rfl, hY, hE⟩
  have HY := Aside0.mk hY
  have HX3 := Aside0.mk (HX2.out.ext hE)
  have HL3 := Aside0.mk hE.size
  have HE3 := Aside0.mk (HE2.out.trans hE)
  clear hY hE HX2
  go_wp2_with fail
  refine (rdsum_bad w3 _ _ b2 bs false HY.out (.inr (by have := HN.out; omega))).mono ?_
  rintro e w4 ⟨rfl, hY, hT⟩
  have HY4 := Aside0.mk hY
  have HX4 := Aside0.mk (HX3.out.tch hT (.inl HL2.out))
  have HL4 := Aside0.mk hT.size
  have HE4 := Aside0.mk (hT.ext HE3.out (Nat.le_trans HE2.out.size (Nat.le_refl _)))
  have HSL := Aside0.mk (show (zero32).length = 32 by rfl)
  have HI4 := Aside0.mk (show (Try.prog.info? 24).map (·.size) = some (nums .u8 zero32).length by rw [nums_length, HSL.out]; kernel_rfl)
  clear hY hT HX3 HY
  go_wp2_with (first | ((with_reducible refine gate_store (ty := 24) rfl ?_); (refine store_at rfl 24 _ _ rfl w4.heap.size (nums .u8 zero32) rfl rfl _ 24 (Blk.new w4 #[Value.int .u8 0, Value.int .u8 0, Value.int .u8 0, Value.int .u8 0, Value.int .u8 0, Value.int .u8 0, Value.int .u8 0, Value.int .u8 0, Value.int .u8 0, Value.int .u8 0, Value.int .u8 0, Value.int .u8 0, Value.int .u8 0, Value.int .u8 0, Value.int .u8 0, Value.int .u8 0, Value.int .u8 0, Value.int .u8 0, Value.int .u8 0, Value.int .u8 0, Value.int .u8 0, Value.int .u8 0, Value.int .u8 0, Value.int .u8 0, Value.int .u8 0, Value.int .u8 0, Value.int .u8 0, Value.int .u8 0, Value.int .u8 0, Value.int .u8 0, Value.int .u8 0, Value.int .u8 0] 24) ?c1 HI4.out (one_cells _ _) ?_)) | fail)
  case c1 => exact (show 32 = (nums .u8 zero32).length by rw [nums_length, HSL.out])
  intro w5 hW hB5
  have hE := (Ext.refl w4).alloc (.cells #[Value.int .u8 0, Value.int .u8 0, Value.int .u8 0, Value.int .u8 0, Value.int .u8 0, Value.int .u8 0, Value.int .u8 0, Value.int .u8 0, Value.int .u8 0, Value.int .u8 0, Value.int .u8 0, Value.int .u8 0, Value.int .u8 0, Value.int .u8 0, Value.int .u8 0, Value.int .u8 0, Value.int .u8 0, Value.int .u8 0, Value.int .u8 0, Value.int .u8 0, Value.int .u8 0, Value.int .u8 0, Value.int .u8 0, Value.int .u8 0, Value.int .u8 0, Value.int .u8 0, Value.int .u8 0, Value.int .u8 0, Value.int .u8 0, Value.int .u8 0, Value.int .u8 0, Value.int .u8 0] 24)
  have hs := size_alloc w4 (.cells #[Value.int .u8 0, Value.int .u8 0, Value.int .u8 0, Value.int .u8 0, Value.int .u8 0, Value.int .u8 0, Value.int .u8 0, Value.int .u8 0, Value.int .u8 0, Value.int .u8 0, Value.int .u8 0, Value.int .u8 0, Value.int .u8 0, Value.int .u8 0, Value.int .u8 0, Value.int .u8 0, Value.int .u8 0, Value.int .u8 0, Value.int .u8 0, Value.int .u8 0, Value.int .u8 0, Value.int .u8 0, Value.int .u8 0, Value.int .u8 0, Value.int .u8 0, Value.int .u8 0, Value.int .u8 0, Value.int .u8 0, Value.int .u8 0, Value.int .u8 0, Value.int .u8 0, Value.int .u8 0] 24)
  have hw5 := hW.ext hE (Nat.le_refl _)
  have HX5 := Aside0.mk (HX4.out.ext hw5)
  have HY5 := Aside0.mk (HY4.out.ext hw5)
  have HE5 := Aside0.mk (HE4.out.trans hw5)
  have HL5 := Aside0.mk (show w4.heap.size + 1 = w5.heap.size by rw [hW.size, hs])
  have HS5 := Aside0.mk hB5
  clear hW hB5 hE hs hw5 HX4 HY4
  go_wp2_with fail
  refine (read_calls w5 A c n bs HN.out (Kd.C_below HR.out HE5.out) hc (by omega)).mono ?_
  rintro e w6 ⟨b3, rfl, hZ, hE⟩
  have HZ := Aside0.mk hZ
  have HX6 := Aside0.mk (HX5.out.ext hE)
  have HY6 := Aside0.mk (HY5.out.ext hE)
  have HS6 := Aside0.mk (HS5.out.ext hE)
  have HE6 := Aside0.mk (HE5.out.trans hE)
  have HL6 := Aside0.mk hE.size
  clear hZ hE HX5 HY5 HS5
  go_wp2_with fail
  refine (rdref_bad w6 _ _ b3 bs false HZ.out (.inr (by have := HN.out; omega))).mono ?_
  rintro e w7 ⟨rfl, hZ, hT⟩
  have HZ7 := Aside0.mk hZ
  have HX7 := Aside0.mk (HX6.out.tch hT (.inl (by have := HL2.out; have := HL3.out; have := HL4.out; have := HL5.out; omega)))
  have HY7 := Aside0.mk (HY6.out.tch hT (.inl (by have := HL4.out; have := HL5.out; omega)))
  have HS7 := Aside0.mk (hT.blk HS6.out (by have := HL5.out; omega))
  have HE7 := Aside0.mk (hT.ext HE6.out HE5.out.size)
  have HRL := Aside0.mk (show (zero32).length = 32 by rfl)
  have HI6 := Aside0.mk (show (Try.prog.info? 26).map (·.size) = some (refC 0 zero32).length by unfold refC; rw [List.length_cons, nums_length, HRL.out]; kernel_rfl)
  clear hZ hT HX6 HY6 HS6 HZ
  go_wp2_with (first | ((with_reducible refine gate_store (ty := 26) rfl ?_); (refine store_at rfl 26 _ _ rfl w7.heap.size (refC 0 zero32) rfl rfl _ 26 (Blk.new w7 #[Value.int .i64 0, Value.int .u8 0, Value.int .u8 0, Value.int .u8 0, Value.int .u8 0, Value.int .u8 0, Value.int .u8 0, Value.int .u8 0, Value.int .u8 0, Value.int .u8 0, Value.int .u8 0, Value.int .u8 0, Value.int .u8 0, Value.int .u8 0, Value.int .u8 0, Value.int .u8 0, Value.int .u8 0, Value.int .u8 0, Value.int .u8 0, Value.int .u8 0, Value.int .u8 0, Value.int .u8 0, Value.int .u8 0, Value.int .u8 0, Value.int .u8 0, Value.int .u8 0, Value.int .u8 0, Value.int .u8 0, Value.int .u8 0, Value.int .u8 0, Value.int .u8 0, Value.int .u8 0, Value.int .u8 0] 26) ?c1 HI6.out (one_ref _ _) ?_)) | fail)
  case c1 => exact (show 33 = (refC 0 zero32).length by unfold refC; rw [List.length_cons, nums_length, HRL.out])
  intro w8 hW hB8
  have hE := (Ext.refl w7).alloc (.cells #[Value.int .i64 0, Value.int .u8 0, Value.int .u8 0, Value.int .u8 0, Value.int .u8 0, Value.int .u8 0, Value.int .u8 0, Value.int .u8 0, Value.int .u8 0, Value.int .u8 0, Value.int .u8 0, Value.int .u8 0, Value.int .u8 0, Value.int .u8 0, Value.int .u8 0, Value.int .u8 0, Value.int .u8 0, Value.int .u8 0, Value.int .u8 0, Value.int .u8 0, Value.int .u8 0, Value.int .u8 0, Value.int .u8 0, Value.int .u8 0, Value.int .u8 0, Value.int .u8 0, Value.int .u8 0, Value.int .u8 0, Value.int .u8 0, Value.int .u8 0, Value.int .u8 0, Value.int .u8 0, Value.int .u8 0] 26)
  have hw8 := hW.ext hE (Nat.le_refl _)
  have HX8 := Aside0.mk (HX7.out.ext hw8)
  have HY8 := Aside0.mk (HY7.out.ext hw8)
  have HZ8 := Aside0.mk (HZ7.out.ext hw8)
  have HS8 := Aside0.mk (HS7.out.ext hw8)
  have HE8 := Aside0.mk (HE7.out.trans hw8)
  have HF8 := Aside0.mk hB8
  clear hW hB8 hE hw8 HX7 HY7 HZ7 HS7
  go_wp2_with fail
  refine (bad_calls _ _ _ b1 _ false HX8.out).mono ?_
  rintro e wq ⟨rfl, hE⟩
  have HX9 := Aside0.mk (HX8.out.ext hE)
  have HY9 := Aside0.mk (HY8.out.ext hE)
  have HZ9 := Aside0.mk (HZ8.out.ext hE)
  have HS9 := Aside0.mk (HS8.out.ext hE)
  have HF9 := Aside0.mk (HF8.out.ext hE)
  have HE9 := Aside0.mk (HE8.out.trans hE)
  clear hE HX8 HY8 HZ8 HS8 HF8 HE8
  have HX8 := HX9
  have HY8 := HY9
  have HZ8 := HZ9
  have HS8 := HS9
  have HF8 := HF9
  have HE8 := HE9
  clear HX9 HY9 HZ9 HS9 HF9 HE9
  go_wp2_with fail
  refine (bad_calls _ _ _ b2 _ true HY8.out).mono ?_
  rintro e wq ⟨rfl, hE⟩
  have HX9 := Aside0.mk (HX8.out.ext hE)
  have HY9 := Aside0.mk (HY8.out.ext hE)
  have HZ9 := Aside0.mk (HZ8.out.ext hE)
  have HS9 := Aside0.mk (HS8.out.ext hE)
  have HF9 := Aside0.mk (HF8.out.ext hE)
  have HE9 := Aside0.mk (HE8.out.trans hE)
  clear hE HX8 HY8 HZ8 HS8 HF8 HE8
  have HX8 := HX9
  have HY8 := HY9
  have HZ8 := HZ9
  have HS8 := HS9
  have HF8 := HF9
  have HE8 := HE9
  clear HX9 HY9 HZ9 HS9 HF9 HE9
  go_wp2_with fail
  refine (bad_calls _ _ _ b3 _ true HZ8.out).mono ?_
  rintro e wq ⟨rfl, hE⟩
  have HX9 := Aside0.mk (HX8.out.ext hE)
  have HY9 := Aside0.mk (HY8.out.ext hE)
  have HZ9 := Aside0.mk (HZ8.out.ext hE)
  have HS9 := Aside0.mk (HS8.out.ext hE)
  have HF9 := Aside0.mk (HF8.out.ext hE)
  have HE9 := Aside0.mk (HE8.out.trans hE)
  clear hE HX8 HY8 HZ8 HS8 HF8 HE8
  have HX8 := HX9
  have HY8 := HY9
  have HZ8 := HZ9
  have HS8 := HS9
  have HF8 := HF9
  have HE8 := HE9
  clear HX9 HY9 HZ9 HS9 HF9 HE9
  go_wp2_with fail
  apply wp_region_facts 19 [RF.val (.pointer (some ⟨b1, 0, none⟩)), RF.val (.bool false), RF.val (.bool false), RF.val undef, RF.val undef, RF.val (.bool false), RF.val (.bool false), RF.val (.pointer (some ⟨b1, 0, none⟩)), RF.val (.bool false), RF.val (.bool true), RF.val (.bool true), RF.val (.int .i64 (numI (bs.take 8))), RF.fact (fun u W => NB W 0 u (be8 (numI (bs.take 8)))), RF.val (.slice A n c), RF.val (.slice A 8 c), RF.val (.bool true), RF.val (.bool true), RF.val (.bool true), RF.val (.bool true)] (by kernel_rfl) (by kernel_rfl)
  simp only [List.take_succ_cons, List.take_zero, List.zip_cons_cons, List.zip_nil_left]
  iterate 1 ((first | apply wpF_val rfl | apply wpF_valg (by rfl)); (intro w' hE hD; unfold Yld; go_simp; exact ⟨Ext.refl _, rfl⟩); (try simp only [Act.put, List.setIfInBounds_toArray, List.set_cons_zero, List.set_cons_succ]))
  (first | apply wpF_val rfl | apply wpF_valg (by rfl)); (intro w' hE hD; unfold Yld; go_simp; exact (bad_calls w' _ _ b1 _ false (HX8.out.ext hE)).mono fun e w2 h => ⟨_, h.1, h.2, rfl⟩); (try simp only [Act.put, List.setIfInBounds_toArray, List.set_cons_zero, List.set_cons_succ])
  iterate 1 ((first | apply wpF_val rfl | apply wpF_valg (by rfl)); (intro w' hE hD; unfold Yld; go_simp; exact ⟨Ext.refl _, rfl⟩); (try simp only [Act.put, List.setIfInBounds_toArray, List.set_cons_zero, List.set_cons_succ]))
  iterate 2 (apply wpF_skip (by rfl); (try simp only [Act.put, List.setIfInBounds_toArray, List.set_cons_zero, List.set_cons_succ]))
  iterate 3 ((first | apply wpF_val rfl | apply wpF_valg (by rfl)); (intro w' hE hD; unfold Yld; go_simp; exact ⟨Ext.refl _, rfl⟩); (try simp only [Act.put, List.setIfInBounds_toArray, List.set_cons_zero, List.set_cons_succ]))
  (first | apply wpF_val rfl | apply wpF_valg (by rfl)); (intro w' hE hD; unfold Yld; go_simp; exact (bad_calls w' _ _ b1 _ false (HX8.out.ext hE)).mono fun e w2 h => ⟨_, h.1, h.2, rfl⟩); (try simp only [Act.put, List.setIfInBounds_toArray, List.set_cons_zero, List.set_cons_succ])
  iterate 3 ((first | apply wpF_val rfl | apply wpF_valg (by rfl)); (intro w' hE hD; unfold Yld; go_simp; exact ⟨Ext.refl _, rfl⟩); (try simp only [Act.put, List.setIfInBounds_toArray, List.set_cons_zero, List.set_cons_succ]))
  refine wpF_factg (by rfl) (fun u W W' h he => NB.ext h he) ?_ ?_
  · intro w' hE hD
    unfold Yld
    go_simp
    exact (nil_int w' (numI (bs.take 8))).mono fun e w2 ⟨V, h1, h2, h3⟩ => ⟨V, h1, h3, NB.lower h2 (Nat.zero_le _)⟩
  intro u
  (try simp only [Act.put, List.setIfInBounds_toArray, List.set_cons_zero, List.set_cons_succ])
  iterate 2 ((first | apply wpF_val rfl | apply wpF_valg (by rfl)); (intro w' hE hD; unfold Yld; go_simp; exact ⟨Ext.refl _, rfl⟩); (try simp only [Act.put, List.setIfInBounds_toArray, List.set_cons_zero, List.set_cons_succ]))
  (first | apply wpF_val rfl | apply wpF_valg (by rfl)); (intro w' hE hD; have hN : NB w' 0 u (be8 (numI (bs.take 8))) := hD.1 (by kernel_rfl); rw [be8_num8 _ (by rw [List.length_take]; have := HN.out; omega) (HB.out.take 8)] at hN; unfold Yld; go_simp; exact (same_left w' 0 u A c 8 (bs.take 8) (by rw [List.length_take]; have := HN.out; omega) hN (Kd.C_below HQ1.out (HE8.out.trans hE)) hcc1 (by decide)).mono fun e w2 h => ⟨_, h.1, h.2, rfl⟩); (try simp only [Act.put, List.setIfInBounds_toArray, List.set_cons_zero, List.set_cons_succ])
  iterate 3 ((first | apply wpF_val rfl | apply wpF_valg (by rfl)); (intro w' hE hD; unfold Yld; go_simp; exact ⟨Ext.refl _, rfl⟩); (try simp only [Act.put, List.setIfInBounds_toArray, List.set_cons_zero, List.set_cons_succ]))
  refine wpF_nil fun wr hE hA => ?_
  have hEE := Aside0.mk hE
  clear hA hE
  simp only [List.drop_succ_cons, List.drop_zero]
  refine wpList_nil ?_
  have HX9 := Aside0.mk (HX8.out.ext hEE.out)
  have HY9 := Aside0.mk (HY8.out.ext hEE.out)
  have HZ9 := Aside0.mk (HZ8.out.ext hEE.out)
  have HS9 := Aside0.mk (HS8.out.ext hEE.out)
  have HF9 := Aside0.mk (HF8.out.ext hEE.out)
  have HE9 := Aside0.mk (HE8.out.trans hEE.out)
  clear hEE HX8 HY8 HZ8 HS8 HF8 HE8
  have HX8 := HX9
  have HY8 := HY9
  have HZ8 := HZ9
  have HS8 := HS9
  have HF8 := HF9
  have HE8 := HE9
  clear HX9 HY9 HZ9 HS9 HF9 HE9
  go_wp2_with fail
  apply wp_region_facts 19 [RF.val (.pointer (some ⟨b2, 0, none⟩)), RF.val (.bool true), RF.val (.bool true), RF.val (sumV zero32), RF.val (sumV zero32), RF.val (.bool true), RF.val (.bool true), RF.val (.bool true), RF.val undef, RF.val undef, RF.val undef, RF.val undef, RF.val undef, RF.val undef, RF.val undef, RF.val undef, RF.val undef, RF.val (.bool true), RF.val (.bool true)] (by kernel_rfl) (by kernel_rfl)
  simp only [List.take_succ_cons, List.take_zero, List.zip_cons_cons, List.zip_nil_left]
  iterate 1 ((first | apply wpF_val rfl | apply wpF_valg (by rfl)); (intro w' hE hD; unfold Yld; go_simp; exact ⟨Ext.refl _, rfl⟩); (try simp only [Act.put, List.setIfInBounds_toArray, List.set_cons_zero, List.set_cons_succ]))
  (first | apply wpF_val rfl | apply wpF_valg (by rfl)); (intro w' hE hD; unfold Yld; go_simp; exact (bad_calls w' _ _ b2 _ true (HY8.out.ext hE)).mono fun e w2 h => ⟨_, h.1, h.2, rfl⟩); (try simp only [Act.put, List.setIfInBounds_toArray, List.set_cons_zero, List.set_cons_succ])
  iterate 1 ((first | apply wpF_val rfl | apply wpF_valg (by rfl)); (intro w' hE hD; unfold Yld; go_simp; exact ⟨Ext.refl _, rfl⟩); (try simp only [Act.put, List.setIfInBounds_toArray, List.set_cons_zero, List.set_cons_succ]))
  (first | apply wpF_val rfl | apply wpF_valg (by rfl)); (intro w' hE hD; exact Yld_load 24 (.tmp 6) rfl w4.heap.size 0 rfl (nums .u8 zero32) _ ((HS8.out.ext hE).range 0 _ [] rfl) Try.underlying24 rfl HI4.out); (try simp only [Act.put, List.setIfInBounds_toArray, List.set_cons_zero, List.set_cons_succ])
  (first | apply wpF_val rfl | apply wpF_valg (by rfl)); (intro w' hE hD; exact Yld_build 24 #[] rfl _ [] rfl built_sum0); (try simp only [Act.put, List.setIfInBounds_toArray, List.set_cons_zero, List.set_cons_succ])
  (first | apply wpF_val rfl | apply wpF_valg (by rfl)); (intro w' hE hD; exact Yld_eql 24 24 (.tmp 71) (.tmp 72) rfl (nums .u8 zero32).toArray (nums .u8 zero32).toArray rfl rfl (by kernel_rfl) true (by have := equal_sum zero32 zero32 rfl rfl zero32_isB zero32_isB w'; rwa [show decide (zero32 = zero32) = true by simp] at this)); (try simp only [Act.put, List.setIfInBounds_toArray, List.set_cons_zero, List.set_cons_succ])
  iterate 2 ((first | apply wpF_val rfl | apply wpF_valg (by rfl)); (intro w' hE hD; unfold Yld; go_simp; exact ⟨Ext.refl _, rfl⟩); (try simp only [Act.put, List.setIfInBounds_toArray, List.set_cons_zero, List.set_cons_succ]))
  iterate 9 (apply wpF_skip (by rfl); (try simp only [Act.put, List.setIfInBounds_toArray, List.set_cons_zero, List.set_cons_succ]))
  iterate 2 ((first | apply wpF_val rfl | apply wpF_valg (by rfl)); (intro w' hE hD; unfold Yld; go_simp; exact ⟨Ext.refl _, rfl⟩); (try simp only [Act.put, List.setIfInBounds_toArray, List.set_cons_zero, List.set_cons_succ]))
  refine wpF_nil fun wr2 hE hA => ?_
  have hEE := Aside0.mk hE
  clear hA hE
  simp only [List.drop_succ_cons, List.drop_zero]
  refine wpList_nil ?_
  have HX9 := Aside0.mk (HX8.out.ext hEE.out)
  have HY9 := Aside0.mk (HY8.out.ext hEE.out)
  have HZ9 := Aside0.mk (HZ8.out.ext hEE.out)
  have HS9 := Aside0.mk (HS8.out.ext hEE.out)
  have HF9 := Aside0.mk (HF8.out.ext hEE.out)
  have HE9 := Aside0.mk (HE8.out.trans hEE.out)
  clear hEE HX8 HY8 HZ8 HS8 HF8 HE8
  have HX8 := HX9
  have HY8 := HY9
  have HZ8 := HZ9
  have HS8 := HS9
  have HF8 := HF9
  have HE8 := HE9
  clear HX9 HY9 HZ9 HS9 HF9 HE9
  go_wp2_with fail
  apply wp_region_facts 20 [RF.val (.pointer (some ⟨b3, 0, none⟩)), RF.val (.bool true), RF.val (.bool true), RF.val (refV 0 zero32), RF.val (refV 0 zero32), RF.val (.bool true), RF.val (.bool true), RF.val (.bool true), RF.val undef, RF.val undef, RF.val undef, RF.val undef, RF.val undef, RF.val undef, RF.val undef, RF.val undef, RF.val undef, RF.val undef, RF.val (.bool true), RF.val (.bool true)] (by kernel_rfl) (by kernel_rfl)
  simp only [List.take_succ_cons, List.take_zero, List.zip_cons_cons, List.zip_nil_left]
  iterate 1 ((first | apply wpF_val rfl | apply wpF_valg (by rfl)); (intro w' hE hD; unfold Yld; go_simp; exact ⟨Ext.refl _, rfl⟩); (try simp only [Act.put, List.setIfInBounds_toArray, List.set_cons_zero, List.set_cons_succ]))
  (first | apply wpF_val rfl | apply wpF_valg (by rfl)); (intro w' hE hD; unfold Yld; go_simp; exact (bad_calls w' _ _ b3 _ true (HZ8.out.ext hE)).mono fun e w2 h => ⟨_, h.1, h.2, rfl⟩); (try simp only [Act.put, List.setIfInBounds_toArray, List.set_cons_zero, List.set_cons_succ])
  iterate 1 ((first | apply wpF_val rfl | apply wpF_valg (by rfl)); (intro w' hE hD; unfold Yld; go_simp; exact ⟨Ext.refl _, rfl⟩); (try simp only [Act.put, List.setIfInBounds_toArray, List.set_cons_zero, List.set_cons_succ]))
  (first | apply wpF_val rfl | apply wpF_valg (by rfl)); (intro w' hE hD; exact Yld_load 26 (.tmp 8) rfl w7.heap.size 0 rfl (refC 0 zero32) _ ((HF8.out.ext hE).range 0 _ [] rfl) Try.underlying26 rfl HI6.out); (try simp only [Act.put, List.setIfInBounds_toArray, List.set_cons_zero, List.set_cons_succ])
  (first | apply wpF_val rfl | apply wpF_valg (by rfl)); (intro w' hE hD; exact Yld_build 26 #[] rfl _ [] rfl built_zero); (try simp only [Act.put, List.setIfInBounds_toArray, List.set_cons_zero, List.set_cons_succ])
  (first | apply wpF_val rfl | apply wpF_valg (by rfl)); (intro w' hE hD; exact Yld_eql 26 26 (.tmp 89) (.tmp 90) rfl (refC 0 zero32).toArray (refC 0 zero32).toArray rfl rfl (by kernel_rfl) true (by have := equal_ref 0 0 zero32 zero32 rfl rfl rfl rfl zero32_isB zero32_isB w'; rwa [show decide ((0 : Int) = 0 ∧ zero32 = zero32) = true by simp] at this)); (try simp only [Act.put, List.setIfInBounds_toArray, List.set_cons_zero, List.set_cons_succ])
  iterate 2 ((first | apply wpF_val rfl | apply wpF_valg (by rfl)); (intro w' hE hD; unfold Yld; go_simp; exact ⟨Ext.refl _, rfl⟩); (try simp only [Act.put, List.setIfInBounds_toArray, List.set_cons_zero, List.set_cons_succ]))
  iterate 10 (apply wpF_skip (by rfl); (try simp only [Act.put, List.setIfInBounds_toArray, List.set_cons_zero, List.set_cons_succ]))
  iterate 2 ((first | apply wpF_val rfl | apply wpF_valg (by rfl)); (intro w' hE hD; unfold Yld; go_simp; exact ⟨Ext.refl _, rfl⟩); (try simp only [Act.put, List.setIfInBounds_toArray, List.set_cons_zero, List.set_cons_succ]))
  refine wpF_nil fun wr3 hE hA => ?_
  have hEE := Aside0.mk hE
  clear hA hE
  simp only [List.drop_succ_cons, List.drop_zero]
  refine wpList_nil ?_
  have HX9 := Aside0.mk (HX8.out.ext hEE.out)
  have HY9 := Aside0.mk (HY8.out.ext hEE.out)
  have HZ9 := Aside0.mk (HZ8.out.ext hEE.out)
  have HS9 := Aside0.mk (HS8.out.ext hEE.out)
  have HF9 := Aside0.mk (HF8.out.ext hEE.out)
  have HE9 := Aside0.mk (HE8.out.trans hEE.out)
  clear hEE HX8 HY8 HZ8 HS8 HF8 HE8
  have HX8 := HX9
  have HY8 := HY9
  have HZ8 := HZ9
  have HS8 := HS9
  have HF8 := HF9
  have HE8 := HE9
  clear HX9 HY9 HZ9 HS9 HF9 HE9
  go_wp2_with fail
  refine (known_calls _).mono ?_
  rintro e wz ⟨rfl, hE⟩
  have HEz := Aside0.mk (HE8.out.trans hE)
  clear hE HE8
  go_wp2
  go_ret
  exact ⟨rfl, HEz.out⟩

set_option maxRecDepth 100000 in
set_option maxHeartbeats 8000000 in
theorem only_bbb (w : World) (A : Option Addr) (c n : Nat) (bs : List Int) (hn : n = bs.length) (hr : Kd.C kb w A n bs) (hc : n ≤ c) (hB : isB bs) (hm : n ≤ 4096) (h1 : n < 8) (h2 : n < 32) (h3 : n < 40) :
    Calls Try.prog 4 #[.slice A n c] w fun e w' => e = .returned (.bool true) ∧ Ext w w' := by
  have HR := Aside0.mk hr
  have HN := Aside0.mk hn
  have HB := Aside0.mk hB
  have hz : ((4096 : Int) < (n : Int)) = False := eq_false (by omega)
  obtain ⟨i0, hi0, _, hsz, _⟩ := info_parts PPackPuts.info5
  have hz1 : ((n : Int) < 8) = True := eq_true (by omega)
  have hz2 : ((n : Int) < 32) = True := eq_true (by omega)
  have hz3 : ((n : Int) < 40) = True := eq_true (by omega)
  clear hr hn hB hi0 hsz
  have HM := Aside0.mk (show n ≤ 4096 from hm)
  go_enter Try.func4, Try.ntmps4
  go_wp2_with fail
  refine (read_calls w A c n bs HN.out HR.out hc (by omega)).mono ?_
  rintro e w1 ⟨b1, rfl, hX, hE⟩
  have HX := Aside0.mk hX
  have HE1 := Aside0.mk hE
  clear hX hE
  go_wp2_with fail
  refine (rdint_bad w1 _ _ b1 bs false HX.out (.inr (by have := HN.out; omega))).mono ?_
  rintro e w2 ⟨rfl, hX, hT⟩
  have HX2 := Aside0.mk hX
  have HL2 := Aside0.mk hT.size
  have HE2 := Aside0.mk (hT.ext HE1.out (Nat.le_refl _))
  clear hX hT HX
  go_wp2_with fail
  refine (read_calls w2 A c n bs HN.out (Kd.C_below HR.out HE2.out) hc (by omega)).mono ?_
  rintro e w3 ⟨b2, rfl, hY, hE⟩
  have HY := Aside0.mk hY
  have HX3 := Aside0.mk (HX2.out.ext hE)
  have HL3 := Aside0.mk hE.size
  have HE3 := Aside0.mk (HE2.out.trans hE)
  clear hY hE HX2
  go_wp2_with fail
  refine (rdsum_bad w3 _ _ b2 bs false HY.out (.inr (by have := HN.out; omega))).mono ?_
  rintro e w4 ⟨rfl, hY, hT⟩
  have HY4 := Aside0.mk hY
  have HX4 := Aside0.mk (HX3.out.tch hT (.inl HL2.out))
  have HL4 := Aside0.mk hT.size
  have HE4 := Aside0.mk (hT.ext HE3.out (Nat.le_trans HE2.out.size (Nat.le_refl _)))
  have HSL := Aside0.mk (show (zero32).length = 32 by rfl)
  have HI4 := Aside0.mk (show (Try.prog.info? 24).map (·.size) = some (nums .u8 zero32).length by rw [nums_length, HSL.out]; kernel_rfl)
  clear hY hT HX3 HY
  go_wp2_with (first | ((with_reducible refine gate_store (ty := 24) rfl ?_); (refine store_at rfl 24 _ _ rfl w4.heap.size (nums .u8 zero32) rfl rfl _ 24 (Blk.new w4 #[Value.int .u8 0, Value.int .u8 0, Value.int .u8 0, Value.int .u8 0, Value.int .u8 0, Value.int .u8 0, Value.int .u8 0, Value.int .u8 0, Value.int .u8 0, Value.int .u8 0, Value.int .u8 0, Value.int .u8 0, Value.int .u8 0, Value.int .u8 0, Value.int .u8 0, Value.int .u8 0, Value.int .u8 0, Value.int .u8 0, Value.int .u8 0, Value.int .u8 0, Value.int .u8 0, Value.int .u8 0, Value.int .u8 0, Value.int .u8 0, Value.int .u8 0, Value.int .u8 0, Value.int .u8 0, Value.int .u8 0, Value.int .u8 0, Value.int .u8 0, Value.int .u8 0, Value.int .u8 0] 24) ?c1 HI4.out (one_cells _ _) ?_)) | fail)
  case c1 => exact (show 32 = (nums .u8 zero32).length by rw [nums_length, HSL.out])
  intro w5 hW hB5
  have hE := (Ext.refl w4).alloc (.cells #[Value.int .u8 0, Value.int .u8 0, Value.int .u8 0, Value.int .u8 0, Value.int .u8 0, Value.int .u8 0, Value.int .u8 0, Value.int .u8 0, Value.int .u8 0, Value.int .u8 0, Value.int .u8 0, Value.int .u8 0, Value.int .u8 0, Value.int .u8 0, Value.int .u8 0, Value.int .u8 0, Value.int .u8 0, Value.int .u8 0, Value.int .u8 0, Value.int .u8 0, Value.int .u8 0, Value.int .u8 0, Value.int .u8 0, Value.int .u8 0, Value.int .u8 0, Value.int .u8 0, Value.int .u8 0, Value.int .u8 0, Value.int .u8 0, Value.int .u8 0, Value.int .u8 0, Value.int .u8 0] 24)
  have hs := size_alloc w4 (.cells #[Value.int .u8 0, Value.int .u8 0, Value.int .u8 0, Value.int .u8 0, Value.int .u8 0, Value.int .u8 0, Value.int .u8 0, Value.int .u8 0, Value.int .u8 0, Value.int .u8 0, Value.int .u8 0, Value.int .u8 0, Value.int .u8 0, Value.int .u8 0, Value.int .u8 0, Value.int .u8 0, Value.int .u8 0, Value.int .u8 0, Value.int .u8 0, Value.int .u8 0, Value.int .u8 0, Value.int .u8 0, Value.int .u8 0, Value.int .u8 0, Value.int .u8 0, Value.int .u8 0, Value.int .u8 0, Value.int .u8 0, Value.int .u8 0, Value.int .u8 0, Value.int .u8 0, Value.int .u8 0] 24)
  have hw5 := hW.ext hE (Nat.le_refl _)
  have HX5 := Aside0.mk (HX4.out.ext hw5)
  have HY5 := Aside0.mk (HY4.out.ext hw5)
  have HE5 := Aside0.mk (HE4.out.trans hw5)
  have HL5 := Aside0.mk (show w4.heap.size + 1 = w5.heap.size by rw [hW.size, hs])
  have HS5 := Aside0.mk hB5
  clear hW hB5 hE hs hw5 HX4 HY4
  go_wp2_with fail
  refine (read_calls w5 A c n bs HN.out (Kd.C_below HR.out HE5.out) hc (by omega)).mono ?_
  rintro e w6 ⟨b3, rfl, hZ, hE⟩
  have HZ := Aside0.mk hZ
  have HX6 := Aside0.mk (HX5.out.ext hE)
  have HY6 := Aside0.mk (HY5.out.ext hE)
  have HS6 := Aside0.mk (HS5.out.ext hE)
  have HE6 := Aside0.mk (HE5.out.trans hE)
  have HL6 := Aside0.mk hE.size
  clear hZ hE HX5 HY5 HS5
  go_wp2_with fail
  refine (rdref_bad w6 _ _ b3 bs false HZ.out (.inr (by have := HN.out; omega))).mono ?_
  rintro e w7 ⟨rfl, hZ, hT⟩
  have HZ7 := Aside0.mk hZ
  have HX7 := Aside0.mk (HX6.out.tch hT (.inl (by have := HL2.out; have := HL3.out; have := HL4.out; have := HL5.out; omega)))
  have HY7 := Aside0.mk (HY6.out.tch hT (.inl (by have := HL4.out; have := HL5.out; omega)))
  have HS7 := Aside0.mk (hT.blk HS6.out (by have := HL5.out; omega))
  have HE7 := Aside0.mk (hT.ext HE6.out HE5.out.size)
  have HRL := Aside0.mk (show (zero32).length = 32 by rfl)
  have HI6 := Aside0.mk (show (Try.prog.info? 26).map (·.size) = some (refC 0 zero32).length by unfold refC; rw [List.length_cons, nums_length, HRL.out]; kernel_rfl)
  clear hZ hT HX6 HY6 HS6 HZ
  go_wp2_with (first | ((with_reducible refine gate_store (ty := 26) rfl ?_); (refine store_at rfl 26 _ _ rfl w7.heap.size (refC 0 zero32) rfl rfl _ 26 (Blk.new w7 #[Value.int .i64 0, Value.int .u8 0, Value.int .u8 0, Value.int .u8 0, Value.int .u8 0, Value.int .u8 0, Value.int .u8 0, Value.int .u8 0, Value.int .u8 0, Value.int .u8 0, Value.int .u8 0, Value.int .u8 0, Value.int .u8 0, Value.int .u8 0, Value.int .u8 0, Value.int .u8 0, Value.int .u8 0, Value.int .u8 0, Value.int .u8 0, Value.int .u8 0, Value.int .u8 0, Value.int .u8 0, Value.int .u8 0, Value.int .u8 0, Value.int .u8 0, Value.int .u8 0, Value.int .u8 0, Value.int .u8 0, Value.int .u8 0, Value.int .u8 0, Value.int .u8 0, Value.int .u8 0, Value.int .u8 0] 26) ?c1 HI6.out (one_ref _ _) ?_)) | fail)
  case c1 => exact (show 33 = (refC 0 zero32).length by unfold refC; rw [List.length_cons, nums_length, HRL.out])
  intro w8 hW hB8
  have hE := (Ext.refl w7).alloc (.cells #[Value.int .i64 0, Value.int .u8 0, Value.int .u8 0, Value.int .u8 0, Value.int .u8 0, Value.int .u8 0, Value.int .u8 0, Value.int .u8 0, Value.int .u8 0, Value.int .u8 0, Value.int .u8 0, Value.int .u8 0, Value.int .u8 0, Value.int .u8 0, Value.int .u8 0, Value.int .u8 0, Value.int .u8 0, Value.int .u8 0, Value.int .u8 0, Value.int .u8 0, Value.int .u8 0, Value.int .u8 0, Value.int .u8 0, Value.int .u8 0, Value.int .u8 0, Value.int .u8 0, Value.int .u8 0, Value.int .u8 0, Value.int .u8 0, Value.int .u8 0, Value.int .u8 0, Value.int .u8 0, Value.int .u8 0] 26)
  have hw8 := hW.ext hE (Nat.le_refl _)
  have HX8 := Aside0.mk (HX7.out.ext hw8)
  have HY8 := Aside0.mk (HY7.out.ext hw8)
  have HZ8 := Aside0.mk (HZ7.out.ext hw8)
  have HS8 := Aside0.mk (HS7.out.ext hw8)
  have HE8 := Aside0.mk (HE7.out.trans hw8)
  have HF8 := Aside0.mk hB8
  clear hW hB8 hE hw8 HX7 HY7 HZ7 HS7
  go_wp2_with fail
  refine (bad_calls _ _ _ b1 _ true HX8.out).mono ?_
  rintro e wq ⟨rfl, hE⟩
  have HX9 := Aside0.mk (HX8.out.ext hE)
  have HY9 := Aside0.mk (HY8.out.ext hE)
  have HZ9 := Aside0.mk (HZ8.out.ext hE)
  have HS9 := Aside0.mk (HS8.out.ext hE)
  have HF9 := Aside0.mk (HF8.out.ext hE)
  have HE9 := Aside0.mk (HE8.out.trans hE)
  clear hE HX8 HY8 HZ8 HS8 HF8 HE8
  have HX8 := HX9
  have HY8 := HY9
  have HZ8 := HZ9
  have HS8 := HS9
  have HF8 := HF9
  have HE8 := HE9
  clear HX9 HY9 HZ9 HS9 HF9 HE9
  go_wp2_with fail
  refine (bad_calls _ _ _ b2 _ true HY8.out).mono ?_
  rintro e wq ⟨rfl, hE⟩
  have HX9 := Aside0.mk (HX8.out.ext hE)
  have HY9 := Aside0.mk (HY8.out.ext hE)
  have HZ9 := Aside0.mk (HZ8.out.ext hE)
  have HS9 := Aside0.mk (HS8.out.ext hE)
  have HF9 := Aside0.mk (HF8.out.ext hE)
  have HE9 := Aside0.mk (HE8.out.trans hE)
  clear hE HX8 HY8 HZ8 HS8 HF8 HE8
  have HX8 := HX9
  have HY8 := HY9
  have HZ8 := HZ9
  have HS8 := HS9
  have HF8 := HF9
  have HE8 := HE9
  clear HX9 HY9 HZ9 HS9 HF9 HE9
  go_wp2_with fail
  refine (bad_calls _ _ _ b3 _ true HZ8.out).mono ?_
  rintro e wq ⟨rfl, hE⟩
  have HX9 := Aside0.mk (HX8.out.ext hE)
  have HY9 := Aside0.mk (HY8.out.ext hE)
  have HZ9 := Aside0.mk (HZ8.out.ext hE)
  have HS9 := Aside0.mk (HS8.out.ext hE)
  have HF9 := Aside0.mk (HF8.out.ext hE)
  have HE9 := Aside0.mk (HE8.out.trans hE)
  clear hE HX8 HY8 HZ8 HS8 HF8 HE8
  have HX8 := HX9
  have HY8 := HY9
  have HZ8 := HZ9
  have HS8 := HS9
  have HF8 := HF9
  have HE8 := HE9
  clear HX9 HY9 HZ9 HS9 HF9 HE9
  go_wp2_with fail
  apply wp_region_facts 19 [RF.val (.pointer (some ⟨b1, 0, none⟩)), RF.val (.bool true), RF.val (.bool true), RF.val (.int .i64 0), RF.val (.bool true), RF.val (.bool true), RF.val (.bool true), RF.val undef, RF.val undef, RF.val undef, RF.val undef, RF.val undef, RF.val undef, RF.val undef, RF.val undef, RF.val undef, RF.val undef, RF.val (.bool true), RF.val (.bool true)] (by kernel_rfl) (by kernel_rfl)
  simp only [List.take_succ_cons, List.take_zero, List.zip_cons_cons, List.zip_nil_left]
  iterate 1 ((first | apply wpF_val rfl | apply wpF_valg (by rfl)); (intro w' hE hD; unfold Yld; go_simp; exact ⟨Ext.refl _, rfl⟩); (try simp only [Act.put, List.setIfInBounds_toArray, List.set_cons_zero, List.set_cons_succ]))
  (first | apply wpF_val rfl | apply wpF_valg (by rfl)); (intro w' hE hD; unfold Yld; go_simp; exact (bad_calls w' _ _ b1 _ true (HX8.out.ext hE)).mono fun e w2 h => ⟨_, h.1, h.2, rfl⟩); (try simp only [Act.put, List.setIfInBounds_toArray, List.set_cons_zero, List.set_cons_succ])
  iterate 5 ((first | apply wpF_val rfl | apply wpF_valg (by rfl)); (intro w' hE hD; unfold Yld; go_simp; exact ⟨Ext.refl _, rfl⟩); (try simp only [Act.put, List.setIfInBounds_toArray, List.set_cons_zero, List.set_cons_succ]))
  iterate 10 (apply wpF_skip (by rfl); (try simp only [Act.put, List.setIfInBounds_toArray, List.set_cons_zero, List.set_cons_succ]))
  iterate 2 ((first | apply wpF_val rfl | apply wpF_valg (by rfl)); (intro w' hE hD; unfold Yld; go_simp; exact ⟨Ext.refl _, rfl⟩); (try simp only [Act.put, List.setIfInBounds_toArray, List.set_cons_zero, List.set_cons_succ]))
  refine wpF_nil fun wr hE hA => ?_
  have hEE := Aside0.mk hE
  clear hA hE
  simp only [List.drop_succ_cons, List.drop_zero]
  refine wpList_nil ?_
  have HX9 := Aside0.mk (HX8.out.ext hEE.out)
  have HY9 := Aside0.mk (HY8.out.ext hEE.out)
  have HZ9 := Aside0.mk (HZ8.out.ext hEE.out)
  have HS9 := Aside0.mk (HS8.out.ext hEE.out)
  have HF9 := Aside0.mk (HF8.out.ext hEE.out)
  have HE9 := Aside0.mk (HE8.out.trans hEE.out)
  clear hEE HX8 HY8 HZ8 HS8 HF8 HE8
  have HX8 := HX9
  have HY8 := HY9
  have HZ8 := HZ9
  have HS8 := HS9
  have HF8 := HF9
  have HE8 := HE9
  clear HX9 HY9 HZ9 HS9 HF9 HE9
  go_wp2_with fail
  apply wp_region_facts 19 [RF.val (.pointer (some ⟨b2, 0, none⟩)), RF.val (.bool true), RF.val (.bool true), RF.val (sumV zero32), RF.val (sumV zero32), RF.val (.bool true), RF.val (.bool true), RF.val (.bool true), RF.val undef, RF.val undef, RF.val undef, RF.val undef, RF.val undef, RF.val undef, RF.val undef, RF.val undef, RF.val undef, RF.val (.bool true), RF.val (.bool true)] (by kernel_rfl) (by kernel_rfl)
  simp only [List.take_succ_cons, List.take_zero, List.zip_cons_cons, List.zip_nil_left]
  iterate 1 ((first | apply wpF_val rfl | apply wpF_valg (by rfl)); (intro w' hE hD; unfold Yld; go_simp; exact ⟨Ext.refl _, rfl⟩); (try simp only [Act.put, List.setIfInBounds_toArray, List.set_cons_zero, List.set_cons_succ]))
  (first | apply wpF_val rfl | apply wpF_valg (by rfl)); (intro w' hE hD; unfold Yld; go_simp; exact (bad_calls w' _ _ b2 _ true (HY8.out.ext hE)).mono fun e w2 h => ⟨_, h.1, h.2, rfl⟩); (try simp only [Act.put, List.setIfInBounds_toArray, List.set_cons_zero, List.set_cons_succ])
  iterate 1 ((first | apply wpF_val rfl | apply wpF_valg (by rfl)); (intro w' hE hD; unfold Yld; go_simp; exact ⟨Ext.refl _, rfl⟩); (try simp only [Act.put, List.setIfInBounds_toArray, List.set_cons_zero, List.set_cons_succ]))
  (first | apply wpF_val rfl | apply wpF_valg (by rfl)); (intro w' hE hD; exact Yld_load 24 (.tmp 6) rfl w4.heap.size 0 rfl (nums .u8 zero32) _ ((HS8.out.ext hE).range 0 _ [] rfl) Try.underlying24 rfl HI4.out); (try simp only [Act.put, List.setIfInBounds_toArray, List.set_cons_zero, List.set_cons_succ])
  (first | apply wpF_val rfl | apply wpF_valg (by rfl)); (intro w' hE hD; exact Yld_build 24 #[] rfl _ [] rfl built_sum0); (try simp only [Act.put, List.setIfInBounds_toArray, List.set_cons_zero, List.set_cons_succ])
  (first | apply wpF_val rfl | apply wpF_valg (by rfl)); (intro w' hE hD; exact Yld_eql 24 24 (.tmp 71) (.tmp 72) rfl (nums .u8 zero32).toArray (nums .u8 zero32).toArray rfl rfl (by kernel_rfl) true (by have := equal_sum zero32 zero32 rfl rfl zero32_isB zero32_isB w'; rwa [show decide (zero32 = zero32) = true by simp] at this)); (try simp only [Act.put, List.setIfInBounds_toArray, List.set_cons_zero, List.set_cons_succ])
  iterate 2 ((first | apply wpF_val rfl | apply wpF_valg (by rfl)); (intro w' hE hD; unfold Yld; go_simp; exact ⟨Ext.refl _, rfl⟩); (try simp only [Act.put, List.setIfInBounds_toArray, List.set_cons_zero, List.set_cons_succ]))
  iterate 9 (apply wpF_skip (by rfl); (try simp only [Act.put, List.setIfInBounds_toArray, List.set_cons_zero, List.set_cons_succ]))
  iterate 2 ((first | apply wpF_val rfl | apply wpF_valg (by rfl)); (intro w' hE hD; unfold Yld; go_simp; exact ⟨Ext.refl _, rfl⟩); (try simp only [Act.put, List.setIfInBounds_toArray, List.set_cons_zero, List.set_cons_succ]))
  refine wpF_nil fun wr2 hE hA => ?_
  have hEE := Aside0.mk hE
  clear hA hE
  simp only [List.drop_succ_cons, List.drop_zero]
  refine wpList_nil ?_
  have HX9 := Aside0.mk (HX8.out.ext hEE.out)
  have HY9 := Aside0.mk (HY8.out.ext hEE.out)
  have HZ9 := Aside0.mk (HZ8.out.ext hEE.out)
  have HS9 := Aside0.mk (HS8.out.ext hEE.out)
  have HF9 := Aside0.mk (HF8.out.ext hEE.out)
  have HE9 := Aside0.mk (HE8.out.trans hEE.out)
  clear hEE HX8 HY8 HZ8 HS8 HF8 HE8
  have HX8 := HX9
  have HY8 := HY9
  have HZ8 := HZ9
  have HS8 := HS9
  have HF8 := HF9
  have HE8 := HE9
  clear HX9 HY9 HZ9 HS9 HF9 HE9
  go_wp2_with fail
  apply wp_region_facts 20 [RF.val (.pointer (some ⟨b3, 0, none⟩)), RF.val (.bool true), RF.val (.bool true), RF.val (refV 0 zero32), RF.val (refV 0 zero32), RF.val (.bool true), RF.val (.bool true), RF.val (.bool true), RF.val undef, RF.val undef, RF.val undef, RF.val undef, RF.val undef, RF.val undef, RF.val undef, RF.val undef, RF.val undef, RF.val undef, RF.val (.bool true), RF.val (.bool true)] (by kernel_rfl) (by kernel_rfl)
  simp only [List.take_succ_cons, List.take_zero, List.zip_cons_cons, List.zip_nil_left]
  iterate 1 ((first | apply wpF_val rfl | apply wpF_valg (by rfl)); (intro w' hE hD; unfold Yld; go_simp; exact ⟨Ext.refl _, rfl⟩); (try simp only [Act.put, List.setIfInBounds_toArray, List.set_cons_zero, List.set_cons_succ]))
  (first | apply wpF_val rfl | apply wpF_valg (by rfl)); (intro w' hE hD; unfold Yld; go_simp; exact (bad_calls w' _ _ b3 _ true (HZ8.out.ext hE)).mono fun e w2 h => ⟨_, h.1, h.2, rfl⟩); (try simp only [Act.put, List.setIfInBounds_toArray, List.set_cons_zero, List.set_cons_succ])
  iterate 1 ((first | apply wpF_val rfl | apply wpF_valg (by rfl)); (intro w' hE hD; unfold Yld; go_simp; exact ⟨Ext.refl _, rfl⟩); (try simp only [Act.put, List.setIfInBounds_toArray, List.set_cons_zero, List.set_cons_succ]))
  (first | apply wpF_val rfl | apply wpF_valg (by rfl)); (intro w' hE hD; exact Yld_load 26 (.tmp 8) rfl w7.heap.size 0 rfl (refC 0 zero32) _ ((HF8.out.ext hE).range 0 _ [] rfl) Try.underlying26 rfl HI6.out); (try simp only [Act.put, List.setIfInBounds_toArray, List.set_cons_zero, List.set_cons_succ])
  (first | apply wpF_val rfl | apply wpF_valg (by rfl)); (intro w' hE hD; exact Yld_build 26 #[] rfl _ [] rfl built_zero); (try simp only [Act.put, List.setIfInBounds_toArray, List.set_cons_zero, List.set_cons_succ])
  (first | apply wpF_val rfl | apply wpF_valg (by rfl)); (intro w' hE hD; exact Yld_eql 26 26 (.tmp 89) (.tmp 90) rfl (refC 0 zero32).toArray (refC 0 zero32).toArray rfl rfl (by kernel_rfl) true (by have := equal_ref 0 0 zero32 zero32 rfl rfl rfl rfl zero32_isB zero32_isB w'; rwa [show decide ((0 : Int) = 0 ∧ zero32 = zero32) = true by simp] at this)); (try simp only [Act.put, List.setIfInBounds_toArray, List.set_cons_zero, List.set_cons_succ])
  iterate 2 ((first | apply wpF_val rfl | apply wpF_valg (by rfl)); (intro w' hE hD; unfold Yld; go_simp; exact ⟨Ext.refl _, rfl⟩); (try simp only [Act.put, List.setIfInBounds_toArray, List.set_cons_zero, List.set_cons_succ]))
  iterate 10 (apply wpF_skip (by rfl); (try simp only [Act.put, List.setIfInBounds_toArray, List.set_cons_zero, List.set_cons_succ]))
  iterate 2 ((first | apply wpF_val rfl | apply wpF_valg (by rfl)); (intro w' hE hD; unfold Yld; go_simp; exact ⟨Ext.refl _, rfl⟩); (try simp only [Act.put, List.setIfInBounds_toArray, List.set_cons_zero, List.set_cons_succ]))
  refine wpF_nil fun wr3 hE hA => ?_
  have hEE := Aside0.mk hE
  clear hA hE
  simp only [List.drop_succ_cons, List.drop_zero]
  refine wpList_nil ?_
  have HX9 := Aside0.mk (HX8.out.ext hEE.out)
  have HY9 := Aside0.mk (HY8.out.ext hEE.out)
  have HZ9 := Aside0.mk (HZ8.out.ext hEE.out)
  have HS9 := Aside0.mk (HS8.out.ext hEE.out)
  have HF9 := Aside0.mk (HF8.out.ext hEE.out)
  have HE9 := Aside0.mk (HE8.out.trans hEE.out)
  clear hEE HX8 HY8 HZ8 HS8 HF8 HE8
  have HX8 := HX9
  have HY8 := HY9
  have HZ8 := HZ9
  have HS8 := HS9
  have HF8 := HF9
  have HE8 := HE9
  clear HX9 HY9 HZ9 HS9 HF9 HE9
  go_wp2_with fail
  refine (known_calls _).mono ?_
  rintro e wz ⟨rfl, hE⟩
  have HEz := Aside0.mk (HE8.out.trans hE)
  clear hE HE8
  go_wp2
  go_ret
  exact ⟨rfl, HEz.out⟩

set_option maxRecDepth 100000 in
theorem only_calls (w : World) (A : Option Addr) (c n : Nat) (bs : List Int) (hn : n = bs.length) (hr : Kd.C kb w A n bs) (hc : n ≤ c) (hB : isB bs) :
    Calls Try.prog 4 #[.slice A n c] w fun e w' => e = .returned (.bool true) ∧ Ext w w' := by
  by_cases hbig : n > 4096
  · have hz : ((4096 : Int) < (n : Int)) = True := eq_true (by omega)
    clear hr hB hn hbig
    go_enter Try.func4, Try.ntmps4
    go_wp2_with fail
    refine (known_calls _).mono ?_
    rintro e w1 ⟨rfl, hE⟩
    have HE := Aside0.mk hE
    clear hE
    go_wp2
    go_ret
    exact ⟨rfl, HE.out⟩
  have hm : n ≤ 4096 := by omega
  rcases Nat.lt_or_ge n 8 with h1 | h1
  · exact only_bbb w A c n bs hn hr hc hB hm h1 (by omega) (by omega)
  rcases Nat.lt_or_ge n 32 with h2 | h2
  · exact only_obb w A c n bs hn hr hc hB hm h1 h2 (by omega)
  rcases Nat.lt_or_ge n 40 with h3 | h3
  · exact only_oob w A c n bs hn hr hc hB hm h1 h2 h3
  · exact only_ooo w A c n bs hn hr hc hB hm h1 h2 h3
end Go.Proofs.Ytkjjkahdmlfflaa.By
