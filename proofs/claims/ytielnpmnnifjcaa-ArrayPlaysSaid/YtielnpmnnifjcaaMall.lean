/- The document's own array: a row of changes. -/
import Derived.Test.YtielnpmnnifjcaaDn
import Derived.Test.YtielnpmnnifjcaaRp
import Derived.Test.YtielnpmnnifjcaaRegH
namespace Go.Proofs.Ytielnpmnnifjcaa.By
open Go.RowKit Go.Proofs.Ytielnpmnnifjcaa.Reg Go.Proofs.YtielnpmnnifjcaaW.PrintWords Go.Proofs.YtielnpmnnifjcaaW.PrintLast Go.Proofs.YtielnpmnnifjcaaW.PrintMore
set_option linter.unusedVariables false
set_option linter.unusedSimpArgs false


/-- The document's array: how many blocks, the changes, how many of them last. -/
structure MR (w : World) (B bm n : Nat) (V : Value) (L : List Ch) (last : Nat) : Prop where
  bl : Blk w bm #[.int .i64 (n : Int), V, .int .i64 (last : Int)] 55
  dn : DN w B V L
  le : last ≤ L.length
  ok : ∀ p ∈ L, okC n p
  n64 : n ≤ 64
  ll : L.length ≤ 900
  bb : ∀ j, Ast bm V j → B ≤ j
theorem AR.chgT {w w' : World} {B ba n last : Nat} {V : Value} {L : List Ch} {S : Nat → Prop} (h : AR w B ba n V L last) (k : Chg w w' S) (h66 : NT w S 66) (h71 : NT w S 71) : AR w' B ba n V L last := h.chg k (fun j hj hs => by
  obtain ⟨cs, hB, _⟩ := h.av
  rcases hj with rfl | hj
  · exact h66 _ hs _ _ hB.is
  · obtain ⟨c, e⟩ := h.orr.typed j hj
    exact h71 _ hs _ _ e)
theorem wrap_in (x : Int) (h0 : -9223372036854775808 ≤ x) (h1 : x ≤ 9223372036854775807) : IntKind.i64.wrap x = x := by
  rw [IntKind.wrap_i64]
  omega
theorem own_cut (A : Option Addr) (n c n' c' : Nat) : (Value.slice A n c).ownBlock = (Value.slice A n' c').ownBlock := by cases A <;> rfl
theorem info34' : (Try.prog.info? 34).map (fun i => (i.zero, i.size, i.bytes)) = some (some (.agg #[.bool false, .int .i64 0, .slice none 0 0]), 3, 40) := by kernel_rfl
section
variable {w w' : World} {B bm n : Nat} {V : Value} {L : List Ch} {last : Nat} {S : Nat → Prop}
theorem MR.ext (h : MR w B bm n V L last) (he : Ext w w') : MR w' B bm n V L last := ⟨h.bl.ext he, h.dn.ext he, h.le, h.ok, h.n64, h.ll, h.bb⟩
theorem MR.chgT (h : MR w B bm n V L last) (k : Chg w w' S) (h55 : NT w S 55) (h34 : NT w S 34) (h5 : NT w S 5) : MR w' B bm n V L last :=
  ⟨k.blk h.bl (fun hs => h55 _ hs _ _ h.bl.is), h.dn.nt k h34 h5, h.le, h.ok, h.n64, h.ll, h.bb⟩
theorem MR.nt (h : MR w B bm n V L last) (t : Nat) (h1 : t ≠ 55) (h2 : t ≠ 34) : NT w (Ast bm V) t := by
  intro j hj cells q e
  rcases hj with rfl | hj
  · rw [h.bl.is] at e
    injection e with e
    injection e with _ e
    exact h1 e.symm
  · obtain ⟨c, e2⟩ := h.dn.typed j hj
    rw [e2] at e
    injection e with e
    injection e with _ e
    exact h2 e.symm
set_option maxRecDepth 100000 in
set_option maxHeartbeats 2000000 in
theorem m_new (w : World) (z : Int) (B : Nat) (hB : B ≤ w.heap.size) : Calls Try.prog 16 #[.int .i64 z] w fun e w' => ∃ bm, e = .returned (.pointer (some ⟨bm, 0, none⟩)) ∧ MR w' B bm (clampN z) (.slice none 0 0) [] 0 ∧ Ext w w' ∧ w.heap.size ≤ bm := by
  have HM := Aside0.mk (fun (n : Nat) (hn : n ≤ 64) => show MR (w.alloc (.cells #[.int .i64 (n : Int), .slice none 0 0, .int .i64 ((0 : Nat) : Int)] 55)) B w.heap.size n (.slice none 0 0) [] 0 from
    ⟨Blk.new _ _ _, DN.nil _ _, Nat.le_refl _, fun p hp => (by cases hp), hn, by decide, fun j hj => by
      rcases hj with rfl | hj
      · exact hB
      · exact absurd hj (nilV j)⟩)
  by_cases h0 : z < 0
  · have hd0 : decide (z < 0) = true := decide_eq_true h0
    have hn : clampN z = 0 := by unfold clampN; rw [if_pos h0]
    have h1 : ¬ 64 < z := by omega
    rw [hn]
    go_enter Try.func16, Try.ntmps16
    go_wp2_with fail
    go_ret
    exact ⟨_, rfl, HM.out 0 (by decide), (Ext.refl w).alloc _, Nat.le_refl _⟩
  · have hd0 : decide (z < 0) = false := decide_eq_false h0
    by_cases h1 : 64 < z
    · have hn : clampN z = 64 := by unfold clampN; rw [if_neg h0, if_pos h1]
      rw [hn]
      go_enter Try.func16, Try.ntmps16
      go_wp2_with fail
      go_ret
      exact ⟨_, rfl, HM.out 64 (by decide), (Ext.refl w).alloc _, Nat.le_refl _⟩
    · by_cases hz : z = 0
      · subst hz
        have hn : clampN 0 = 0 := rfl
        rw [hn]
        clear h0 hd0 h1 hn
        go_enter Try.func16, Try.ntmps16
        go_wp2_with fail
        go_ret
        exact ⟨_, rfl, HM.out 0 (by decide), (Ext.refl w).alloc _, Nat.le_refl _⟩
      obtain ⟨k, rfl⟩ : ∃ k : Nat, z = k := ⟨z.toNat, by omega⟩
      have hkp : 0 < k := by omega
      have hn : clampN (k : Int) = k := by unfold clampN; rw [if_neg h0, if_neg h1, Int.toNat_natCast]
      rw [hn]
      have hk1 : (k : Int) ≤ 64 := by omega
      have hk0 : decide ((k : Int) < 0) = false := decide_eq_false (by omega)
      have hk2 : decide ((64 : Int) < k) = false := decide_eq_false (by omega)
      clear h0 hd0 h1 hn hz
      go_enter Try.func16, Try.ntmps16
      go_wp2_with fail
      go_ret
      exact ⟨_, rfl, HM.out k (by omega), (Ext.refl w).alloc _, Nat.le_refl _⟩
set_option maxRecDepth 100000 in
set_option maxHeartbeats 2000000 in
theorem m_open (h : MR w B bm n V L last) : Calls Try.prog 30 #[.pointer (some ⟨bm, 0, none⟩)] w fun e w' => e = .returned (.int .i64 ((L.length - last : Nat) : Int)) ∧ Ext w w' := by
  obtain ⟨nl, hnl⟩ : ∃ nl, nl = L.length := ⟨_, rfl⟩
  obtain ⟨A, c, eV, hc⟩ := h.dn.nat hnl
  subst eV
  have HE := Aside0.mk (show ((L.length - last : Nat) : Int) = (nl : Int) - (last : Int) from by have := h.le; omega)
  have hle := h.le
  have hll := h.ll
  rw [← hnl] at hle hll
  have c1 := h.bl.cell 1 (v := .slice A nl c) rfl
  have c2 := h.bl.cell 2 (v := .int .i64 (last : Int)) rfl
  have HW := Aside0.mk (show IntKind.i64.wrap ((nl : Int) - (last : Int)) = (nl : Int) - (last : Int) from wrap_in _ (by omega) (by omega))
  clear h hnl
  rw [HE.out]
  go_enter Try.func30, Try.ntmps30
  go_wp2_with fail
  apply wp_region_facts 10 [RF.val _, RF.val _, RF.val _, RF.val _, RF.val _, RF.val _, RF.val _, RF.val _, RF.val _, RF.val _]
  case hm => kernel_rfl
  case hB => kernel_rfl
  simp only [List.take_succ_cons, List.take_zero, List.zip_cons_cons, List.zip_nil_left]
  (first | refine wpF_val rfl (fun w' hE hD => by unfold Yld; go_simp; exact ⟨Ext.refl _, rfl⟩) ?_ | refine wpF_valg (by rfl) (fun w' hE hD => by unfold Yld; go_simp; exact ⟨Ext.refl _, rfl⟩) ?_)
  (try simp only [Act.put, List.setIfInBounds_toArray, List.set_cons_zero, List.set_cons_succ])
  (first | refine wpF_val rfl (fun w' hE hD => by unfold Yld; go_simp; exact ⟨Ext.refl _, rfl⟩) ?_ | refine wpF_valg (by rfl) (fun w' hE hD => by unfold Yld; go_simp; exact ⟨Ext.refl _, rfl⟩) ?_)
  (try simp only [Act.put, List.setIfInBounds_toArray, List.set_cons_zero, List.set_cons_succ])
  (first | refine wpF_val rfl (fun w' hE hD => by unfold Yld; go_simp; exact ⟨Ext.refl _, rfl⟩) ?_ | refine wpF_valg (by rfl) (fun w' hE hD => by unfold Yld; go_simp; exact ⟨Ext.refl _, rfl⟩) ?_)
  (try simp only [Act.put, List.setIfInBounds_toArray, List.set_cons_zero, List.set_cons_succ])
  (first | refine wpF_val rfl (fun w' hE hD => by have k1 := Ext.cell hE c1; unfold Yld; go_simp; exact ⟨Ext.refl _, rfl⟩) ?_ | refine wpF_valg (by rfl) (fun w' hE hD => by have k1 := Ext.cell hE c1; unfold Yld; go_simp; exact ⟨Ext.refl _, rfl⟩) ?_)
  (try simp only [Act.put, List.setIfInBounds_toArray, List.set_cons_zero, List.set_cons_succ])
  (first | refine wpF_val rfl (fun w' hE hD => by unfold Yld; go_simp; exact ⟨Ext.refl _, rfl⟩) ?_ | refine wpF_valg (by rfl) (fun w' hE hD => by unfold Yld; go_simp; exact ⟨Ext.refl _, rfl⟩) ?_)
  (try simp only [Act.put, List.setIfInBounds_toArray, List.set_cons_zero, List.set_cons_succ])
  (first | refine wpF_val rfl (fun w' hE hD => by unfold Yld; go_simp; exact ⟨Ext.refl _, rfl⟩) ?_ | refine wpF_valg (by rfl) (fun w' hE hD => by unfold Yld; go_simp; exact ⟨Ext.refl _, rfl⟩) ?_)
  (try simp only [Act.put, List.setIfInBounds_toArray, List.set_cons_zero, List.set_cons_succ])
  (first | refine wpF_val rfl (fun w' hE hD => by unfold Yld; go_simp; exact ⟨Ext.refl _, rfl⟩) ?_ | refine wpF_valg (by rfl) (fun w' hE hD => by unfold Yld; go_simp; exact ⟨Ext.refl _, rfl⟩) ?_)
  (try simp only [Act.put, List.setIfInBounds_toArray, List.set_cons_zero, List.set_cons_succ])
  (first | refine wpF_val rfl (fun w' hE hD => by unfold Yld; go_simp; exact ⟨Ext.refl _, rfl⟩) ?_ | refine wpF_valg (by rfl) (fun w' hE hD => by unfold Yld; go_simp; exact ⟨Ext.refl _, rfl⟩) ?_)
  (try simp only [Act.put, List.setIfInBounds_toArray, List.set_cons_zero, List.set_cons_succ])
  (first | refine wpF_val rfl (fun w' hE hD => by have k2 := Ext.cell hE c2; unfold Yld; go_simp; exact ⟨Ext.refl _, rfl⟩) ?_ | refine wpF_valg (by rfl) (fun w' hE hD => by have k2 := Ext.cell hE c2; unfold Yld; go_simp; exact ⟨Ext.refl _, rfl⟩) ?_)
  (try simp only [Act.put, List.setIfInBounds_toArray, List.set_cons_zero, List.set_cons_succ])
  (first | refine wpF_val rfl (fun w' hE hD => by unfold Yld; go_simp; exact ⟨Ext.refl _, rfl⟩) ?_ | refine wpF_valg (by rfl) (fun w' hE hD => by unfold Yld; go_simp; exact ⟨Ext.refl _, rfl⟩) ?_)
  (try simp only [Act.put, List.setIfInBounds_toArray, List.set_cons_zero, List.set_cons_succ])
  refine wpF_nil fun w2 hE2 hA => ?_
  simp only [List.drop_succ_cons, List.drop_zero]
  have HE2 := Aside0.mk hE2
  clear hA hE2 c1 c2
  go_wp2
  go_ret
  exact ⟨by show Ending.returned (Value.int .i64 (IntKind.i64.wrap ((nl : Int) - (last : Int)))) = _; rw [HW.out], HE2.out⟩
set_option maxRecDepth 100000 in
set_option maxHeartbeats 2000000 in
theorem m_sync (h : MR w B bm n V L last) : Calls Try.prog 24 #[.pointer (some ⟨bm, 0, none⟩)] w fun e w' => e = .returned (.tuple #[]) ∧ MR w' B bm n V L L.length ∧ Chg w w' (Ast bm V) := by
  obtain ⟨nl, hnl⟩ : ∃ nl, nl = L.length := ⟨_, rfl⟩
  obtain ⟨A, c, eV, hc⟩ := h.dn.nat hnl
  subst eV
  have hC := Chg.of_wrote (S := fun j => j = bm) (Wrote.setCell w bm 2 (.int .i64 (nl : Int))) rfl
  have HF := Aside0.mk (show MR (w.setCell ⟨bm, 2, none⟩ (.int .i64 (nl : Int))) B bm n (.slice A nl c) L L.length from
    ⟨by rw [← hnl]; exact h.bl.set 2 (.int .i64 (nl : Int)), h.dn.nt hC (fun j hj cells q e => by subst hj; rw [h.bl.is] at e; injection e with e; injection e with _ e; cases e) (fun j hj cells q e => by subst hj; rw [h.bl.is] at e; injection e with e; injection e with _ e; cases e), Nat.le_refl _, h.ok, h.n64, h.ll, h.bb⟩)
  have HC := Aside0.mk (hC.mono (S' := Ast bm (.slice A nl c)) (fun j hj => .inl hj))
  have c1 := h.bl.cell 1 (v := .slice A nl c) rfl
  have c2 := h.bl.cell 2 (v := .int .i64 (last : Int)) rfl
  have f2 := h.bl.free 2
  clear h hnl hC
  go_enter Try.func24, Try.ntmps24
  go_wp2
  go_end0
  exact ⟨rfl, HF.out, HC.out⟩
theorem DN.take {A : Option Addr} {nl c : Nat} (h : DN w B (.slice A nl c) L) (m : Nat) (hm : m ≤ L.length) : DN w B (.slice A m c) (L.take m) := by
  obtain ⟨ds, h1, h2, h3⟩ := h
  refine ⟨ds.take m, Kd.R_take h1 (by omega), by rw [List.length_take, List.length_take, h2], fun i d c hd hc => ?_⟩
  rw [List.getElem?_take] at hd hc
  split at hd
  · rw [if_pos (by assumption)] at hc
    exact h3 i d c hd hc
  · cases hd
set_option maxRecDepth 100000 in
set_option maxHeartbeats 2000000 in
theorem m_fall_no (h : MR w B bm n V L last) (m : Int) (hm : m < 0 ∨ ((L.length - last : Nat) : Int) < m) : Calls Try.prog 25 #[.pointer (some ⟨bm, 0, none⟩), .int .i64 m] w fun e w' => e = .returned (.int .i64 7) ∧ Ext w w' := by
  have HO := Aside0.mk (m_open h)
  obtain ⟨q, hq⟩ : ∃ q : Nat, q = L.length - last := ⟨_, rfl⟩
  rw [← hq] at HO hm
  clear h hq
  by_cases h0 : m < 0
  · have hd0 : decide (m < 0) = true := decide_eq_true h0
    clear hm
    go_enter Try.func25, Try.ntmps25
    go_wp2
    go_ret
    exact ⟨rfl, Ext.refl _⟩
  · have hd0 : decide (m < 0) = false := decide_eq_false h0
    have h1 : (q : Int) < m := by omega
    have hd1 : decide ((q : Int) < m) = true := decide_eq_true h1
    clear hm
    go_enter Try.func25, Try.ntmps25
    go_wp2_with fail
    refine HO.out.mono ?_
    rintro e w2 ⟨rfl, hE⟩
    have HE := Aside0.mk hE
    clear hE
    go_wp2
    go_ret
    exact ⟨rfl, HE.out⟩
set_option maxRecDepth 100000 in
set_option maxHeartbeats 2000000 in
theorem m_fall (h : MR w B bm n V L last) (m : Nat) (hm : m ≤ L.length - last) : Calls Try.prog 25 #[.pointer (some ⟨bm, 0, none⟩), .int .i64 (m : Int)] w fun e w' => ∃ V', e = .returned (.int .i64 0) ∧ MR w' B bm n V' (L.take (last + m)) (last + m) ∧ Chg w w' (Ast bm V) ∧ V'.ownBlock = V.ownBlock := by
  have HO := Aside0.mk (m_open h)
  obtain ⟨q, hq⟩ : ∃ q : Nat, q = L.length - last := ⟨_, rfl⟩
  rw [← hq] at HO hm
  obtain ⟨nl, hnl⟩ : ∃ nl, nl = L.length := ⟨_, rfl⟩
  obtain ⟨A, c, eV, hc⟩ := h.dn.nat hnl
  subst eV
  have HM := Aside0.mk h
  have HB := Aside0.mk (show last + m ≤ nl from by have := h.le; omega)
  have HNL := Aside0.mk hnl
  have hll : nl ≤ 900 := by have := h.ll; omega
  have hb := HB.out
  have hd1 : decide ((q : Int) < m) = false := decide_eq_false (by omega)
  have hd0 : decide ((m : Int) < 0) = false := decide_eq_false (by omega)
  have hmq : (m : Int) ≤ q := by omega
  clear h hq hnl
  go_enter Try.func25, Try.ntmps25
  go_wp2_with fail
  refine HO.out.mono ?_
  rintro e w2 ⟨rfl, hE⟩
  have HM2 := Aside0.mk (HM.out.ext hE)
  have HE2 := Aside0.mk hE
  clear hE HM hm
  go_wp2_with fail
  have c1 := HM2.out.bl.cell 1 (v := .slice A nl c) rfl
  have c2 := HM2.out.bl.cell 2 (v := .int .i64 (last : Int)) rfl
  obtain ⟨i0, hi0, _, hsz, _⟩ := info_parts info34'
  have hcut := cut_to (P := Try.prog) 53 34 .i64 Try.underlying53 hi0 A nl c ((last : Int) + (m : Int)) (by omega) (by omega) hc
  have hw : IntKind.i64.wrap ((last : Int) + (m : Int)) = (last : Int) + (m : Int) := wrap_in _ (by omega) (by omega)
  have ht : ((last : Int) + (m : Int)).toNat = last + m := by omega
  rw [ht] at hcut
  apply wp_region_facts 12 [RF.val _, RF.val _, RF.val _, RF.val _, RF.val _, RF.val _, RF.val _, RF.val _, RF.val _, RF.val _, RF.val _, RF.val _]
  case hm => kernel_rfl
  case hB => kernel_rfl
  simp only [List.take_succ_cons, List.take_zero, List.zip_cons_cons, List.zip_nil_left]
  (first | refine wpF_val rfl (fun w' hE hD => by unfold Yld; go_simp; exact ⟨Ext.refl _, rfl⟩) ?_ | refine wpF_valg (by rfl) (fun w' hE hD => by unfold Yld; go_simp; exact ⟨Ext.refl _, rfl⟩) ?_)
  (try simp only [Act.put, List.setIfInBounds_toArray, List.set_cons_zero, List.set_cons_succ])
  (first | refine wpF_val rfl (fun w' hE hD => by unfold Yld; go_simp; exact ⟨Ext.refl _, rfl⟩) ?_ | refine wpF_valg (by rfl) (fun w' hE hD => by unfold Yld; go_simp; exact ⟨Ext.refl _, rfl⟩) ?_)
  (try simp only [Act.put, List.setIfInBounds_toArray, List.set_cons_zero, List.set_cons_succ])
  (first | refine wpF_val rfl (fun w' hE hD => by unfold Yld; go_simp; exact ⟨Ext.refl _, rfl⟩) ?_ | refine wpF_valg (by rfl) (fun w' hE hD => by unfold Yld; go_simp; exact ⟨Ext.refl _, rfl⟩) ?_)
  (try simp only [Act.put, List.setIfInBounds_toArray, List.set_cons_zero, List.set_cons_succ])
  (first | refine wpF_val rfl (fun w' hE hD => by unfold Yld; go_simp; exact ⟨Ext.refl _, rfl⟩) ?_ | refine wpF_valg (by rfl) (fun w' hE hD => by unfold Yld; go_simp; exact ⟨Ext.refl _, rfl⟩) ?_)
  (try simp only [Act.put, List.setIfInBounds_toArray, List.set_cons_zero, List.set_cons_succ])
  (first | refine wpF_val rfl (fun w' hE hD => by have k1 := Ext.cell hE c1; unfold Yld; go_simp; exact ⟨Ext.refl _, rfl⟩) ?_ | refine wpF_valg (by rfl) (fun w' hE hD => by have k1 := Ext.cell hE c1; unfold Yld; go_simp; exact ⟨Ext.refl _, rfl⟩) ?_)
  (try simp only [Act.put, List.setIfInBounds_toArray, List.set_cons_zero, List.set_cons_succ])
  (first | refine wpF_val rfl (fun w' hE hD => by unfold Yld; go_simp; exact ⟨Ext.refl _, rfl⟩) ?_ | refine wpF_valg (by rfl) (fun w' hE hD => by unfold Yld; go_simp; exact ⟨Ext.refl _, rfl⟩) ?_)
  (try simp only [Act.put, List.setIfInBounds_toArray, List.set_cons_zero, List.set_cons_succ])
  (first | refine wpF_val rfl (fun w' hE hD => by unfold Yld; go_simp; exact ⟨Ext.refl _, rfl⟩) ?_ | refine wpF_valg (by rfl) (fun w' hE hD => by unfold Yld; go_simp; exact ⟨Ext.refl _, rfl⟩) ?_)
  (try simp only [Act.put, List.setIfInBounds_toArray, List.set_cons_zero, List.set_cons_succ])
  (first | refine wpF_val rfl (fun w' hE hD => by unfold Yld; go_simp; exact ⟨Ext.refl _, rfl⟩) ?_ | refine wpF_valg (by rfl) (fun w' hE hD => by unfold Yld; go_simp; exact ⟨Ext.refl _, rfl⟩) ?_)
  (try simp only [Act.put, List.setIfInBounds_toArray, List.set_cons_zero, List.set_cons_succ])
  (first | refine wpF_val rfl (fun w' hE hD => by have k2 := Ext.cell hE c2; unfold Yld; go_simp; exact ⟨Ext.refl _, rfl⟩) ?_ | refine wpF_valg (by rfl) (fun w' hE hD => by have k2 := Ext.cell hE c2; unfold Yld; go_simp; exact ⟨Ext.refl _, rfl⟩) ?_)
  (try simp only [Act.put, List.setIfInBounds_toArray, List.set_cons_zero, List.set_cons_succ])
  (first | refine wpF_val rfl (fun w' hE hD => by unfold Yld; go_simp; exact ⟨Ext.refl _, rfl⟩) ?_ | refine wpF_valg (by rfl) (fun w' hE hD => by unfold Yld; go_simp; exact ⟨Ext.refl _, rfl⟩) ?_)
  (try simp only [Act.put, List.setIfInBounds_toArray, List.set_cons_zero, List.set_cons_succ])
  (first | refine wpF_val rfl (fun w' hE hD => by unfold Yld; go_simp; exact ⟨Ext.refl _, rfl⟩) ?_ | refine wpF_valg (by rfl) (fun w' hE hD => by unfold Yld; go_simp; exact ⟨Ext.refl _, rfl⟩) ?_)
  (try simp only [Act.put, List.setIfInBounds_toArray, List.set_cons_zero, List.set_cons_succ])
  (first | refine wpF_val rfl (fun w' hE hD => by unfold Yld; go_simp; exact ⟨Ext.refl _, rfl⟩) ?_ | refine wpF_valg (by rfl) (fun w' hE hD => by unfold Yld; go_simp; exact ⟨Ext.refl _, rfl⟩) ?_)
  (try simp only [Act.put, List.setIfInBounds_toArray, List.set_cons_zero, List.set_cons_succ])
  refine wpF_nil fun w3 hE3 hA => ?_
  simp only [List.drop_succ_cons, List.drop_zero]
  have HM3 := Aside0.mk (HM2.out.ext hE3)
  have HE3 := Aside0.mk (HE2.out.trans hE3)
  clear hE3 hA c1 c2 hcut ht hi0 hsz HM2 HE2 hd0 hd1
  have c1 := HM3.out.bl.cell 1 (v := .slice A nl c) rfl
  have c2 := HM3.out.bl.cell 2 (v := .int .i64 (last : Int)) rfl
  have f1 := HM3.out.bl.free 1
  have f2 := HM3.out.bl.free 2
  have hC1 := Chg.of_wrote (S := fun j => j = bm) (Wrote.setCell w3 bm 1 (.slice A (last + m) c)) rfl
  have hB1 := HM3.out.bl.set 1 (.slice A (last + m) c)
  have hC2 := Chg.of_wrote (S := fun j => j = bm) (Wrote.setCell (w3.setCell ⟨bm, 1, none⟩ (.slice A (last + m) c)) bm 2 (.int .i64 ((last + m : Nat) : Int))) rfl
  have hB2 := hB1.set 2 (.int .i64 ((last + m : Nat) : Int))
  have HF := Aside0.mk (show MR ((w3.setCell ⟨bm, 1, none⟩ (.slice A (last + m) c)).setCell ⟨bm, 2, none⟩ (.int .i64 ((last + m : Nat) : Int))) B bm n (.slice A (last + m) c) (L.take (last + m)) (last + m) from by
    have hl : (L.take (last + m)).length = last + m := by rw [List.length_take]; have := HNL.out; omega
    refine ⟨hB2, ((HM3.out.dn.take (last + m) (by have := HNL.out; omega)).nt (hC1.trans hC2) ?_ ?_), by omega, fun p hp => HM3.out.ok p (List.mem_of_mem_take hp), HM3.out.n64, by have := HM3.out.ll; have := HNL.out; omega, fun j hj => HM3.out.bb j (hj.imp id (fun h => (own_cut A nl c (last + m) c).trans h))⟩
    · intro j hj cells q e
      subst hj
      rw [HM3.out.bl.is] at e
      injection e with e
      injection e with _ e
      cases e
    · intro j hj cells q e
      subst hj
      rw [HM3.out.bl.is] at e
      injection e with e
      injection e with _ e
      cases e)
  have HC := Aside0.mk (show Chg w ((w3.setCell ⟨bm, 1, none⟩ (.slice A (last + m) c)).setCell ⟨bm, 2, none⟩ (.int .i64 ((last + m : Nat) : Int))) (Ast bm (.slice A nl c)) from (Chg.of_ext HE3.out _).trans ((hC1.trans hC2).mono (fun j hj => .inl hj)))
  clear hC1 hC2 hB1 hB2 HM3 HE3 HO HB HNL
  go_wp2
  go_ret
  exact ⟨_, rfl, HF.out, HC.out, own_cut _ _ _ _ _⟩
end
end Go.Proofs.Ytielnpmnnifjcaa.By

/- The document's own array: Do. -/
namespace Go.Proofs.Ytielnpmnnifjcaa.By
open Go.RowKit Go.Proofs.Ytielnpmnnifjcaa.Reg Go.Proofs.YtielnpmnnifjcaaW.PrintWords Go.Proofs.YtielnpmnnifjcaaW.PrintLast Go.Proofs.YtielnpmnnifjcaaW.PrintMore
set_option linter.unusedVariables false
set_option linter.unusedSimpArgs false


theorem YldG_appP {α : Type} (d : Kd α) {g : World → World → Prop} {W : World} {o : Oper} {a : Act} (ss x : Operand) (t e : TypeId) (z : Value) (bytes : Nat) (ho : o.op = .call { callee := .builtin .append, args := #[ss, x], argTypes := #[t, t] })
    (ht : Try.prog.underlying t = some (.slice e)) (hinfo : (Try.prog.info? e).map (fun i => (i.zero, i.size, i.bytes)) = some (some z, d.sz, bytes)) (hz : z.cells.size = d.sz) (hs0 : 0 < d.sz) (hb0 : 0 < bytes)
    (V : Value) (AD : Addr) (hs : a.eval ss = V) (hx : a.eval x = .slice (some AD) 1 1) (B : Nat) (xs : List α) (p : α) (cs : List Value) (okp : Nat → Prop) (hO : d.R e W B (fun _ => True) V xs) (hp : d.M W B okp p cs) (hokp : ∀ k, okp k → some k ≠ V.ownBlock) (hc : ∀ j u, cs[j]? = some u → W.cell? (AD.add j) = some u) (hB : B ≤ W.heap.size) (hl : (xs.length + 1) * bytes ≤ 140737488355328)
    (hg : ∀ w1, W.grownBy w1 V.ownBlock → g W w1) (N : Nat) (hN : N ≤ W.heap.size) (q : Value → World → Prop) (hq : ∀ u w1, d.R e w1 B (fun _ => True) u (xs ++ [p]) → OwnQ V N u → g W w1 → q u w1) : YldG g Try.prog o a W (.fact true q) := by
  obtain ⟨V1, w1, h1, h2, h3, h4⟩ := run_appK d W B t e o.type z bytes ht hinfo hz hs0 hb0 V xs p cs AD okp hO hp hokp hc hB hl
  unfold YldG execOp
  simp only [ho, resolve, invoke, builtin, Sem.run_bind, Sem.run_pure, Result.andThen_ok, List.map_toArray, List.map_cons, List.map_nil, hs, hx, h1]
  exact ⟨hg w1 h3, hq _ _ h2 (h4.elim .inl (fun e => .inr ⟨_, e, hN⟩)) (hg w1 h3)⟩
section
variable {w w' : World} {B bm n : Nat} {V : Value} {L : List Ch} {last : Nat} {S : Nat → Prop}
set_option maxRecDepth 100000 in
set_option maxHeartbeats 2000000 in
theorem mdo_t_neg (h : MR w B bm n V L last) (k : Int) (A : Option Addr) (m c : Nat) (hb : k < 0) : Calls Try.prog 20 #[.pointer (some ⟨bm, 0, none⟩), .agg #[.bool true, .int .i64 k, .slice A m c]] w fun e w' => e = .returned (.int .i64 1) ∧ Ext w w' := by
  have c0 := h.bl.cell 0 (v := .int .i64 (n : Int)) rfl
  have hE0 := (Ext.refl w).alloc (.cells #[.bool true, .int .i64 k, .slice A m c] 34)
  have HB := Aside0.mk (Blk.new w #[.bool true, .int .i64 k, .slice A m c] 34)
  have HE0 := Aside0.mk hE0
  replace c0 := Ext.cell hE0 c0
  obtain ⟨bx, hbx⟩ : ∃ bx, bx = w.heap.size := ⟨_, rfl⟩
  obtain ⟨w1, hw1⟩ : ∃ w1, w1 = w.alloc (.cells #[.bool true, .int .i64 k, .slice A m c] 34) := ⟨_, rfl⟩
  rw [← hbx] at HB
  rw [← hw1] at HB HE0 c0
  have HW1 := Aside0.mk hw1
  have HBX := Aside0.mk hbx
  have cb0 := HB.out.cell 0 (v := .bool true) rfl
  have cb1 := HB.out.cell 1 (v := .int .i64 k) rfl
  have cb2 := HB.out.cell 2 (v := .slice A m c) rfl
  clear h hE0 hbx hw1
  have hd0 : decide (k < 0) = true := decide_eq_true hb
  clear hb
  go_enter Try.func20, Try.ntmps20
  go_wp2_with fail
  rw [← HW1.out, ← HBX.out]
  apply wp_region_facts 33 [RF.val _, RF.val _, RF.val _, RF.val _, RF.val _, RF.val _, RF.val _, RF.val _, RF.val _, RF.val _, RF.val _, RF.val _, RF.val _, RF.val _, RF.val _, RF.val _, RF.val _, RF.val _, RF.val _, RF.val _, RF.val _, RF.val _, RF.val _, RF.val _, RF.val _, RF.val _, RF.val _, RF.val _, RF.val _, RF.val _, RF.val _, RF.val _, RF.val _]
  case hm => kernel_rfl
  case hB => kernel_rfl
  simp only [List.take_succ_cons, List.take_zero, List.zip_cons_cons, List.zip_nil_left]
  (first | refine wpF_val rfl (fun w' hE hD => by unfold Yld; go_simp; exact ⟨Ext.refl _, rfl⟩) ?_ | refine wpF_valg (by rfl) (fun w' hE hD => by unfold Yld; go_simp; exact ⟨Ext.refl _, rfl⟩) ?_)
  (try simp only [Act.put, List.setIfInBounds_toArray, List.set_cons_zero, List.set_cons_succ])
  (first | refine wpF_val rfl (fun w' hE hD => by have hb1 := Ext.cell hE cb1; unfold Yld; go_simp; exact ⟨Ext.refl _, rfl⟩) ?_ | refine wpF_valg (by rfl) (fun w' hE hD => by have hb1 := Ext.cell hE cb1; unfold Yld; go_simp; exact ⟨Ext.refl _, rfl⟩) ?_)
  (try simp only [Act.put, List.setIfInBounds_toArray, List.set_cons_zero, List.set_cons_succ])
  (first | refine wpF_val rfl (fun w' hE hD => by unfold Yld; go_simp; exact ⟨Ext.refl _, rfl⟩) ?_ | refine wpF_valg (by rfl) (fun w' hE hD => by unfold Yld; go_simp; exact ⟨Ext.refl _, rfl⟩) ?_)
  (try simp only [Act.put, List.setIfInBounds_toArray, List.set_cons_zero, List.set_cons_succ])
  (first | refine wpF_val rfl (fun w' hE hD => by unfold Yld; go_simp; exact ⟨Ext.refl _, rfl⟩) ?_ | refine wpF_valg (by rfl) (fun w' hE hD => by unfold Yld; go_simp; exact ⟨Ext.refl _, rfl⟩) ?_)
  (try simp only [Act.put, List.setIfInBounds_toArray, List.set_cons_zero, List.set_cons_succ])
  refine wpF_skip (by rfl) ?_
  (try simp only [Act.put, List.setIfInBounds_toArray, List.set_cons_zero, List.set_cons_succ])
  refine wpF_skip (by rfl) ?_
  (try simp only [Act.put, List.setIfInBounds_toArray, List.set_cons_zero, List.set_cons_succ])
  refine wpF_skip (by rfl) ?_
  (try simp only [Act.put, List.setIfInBounds_toArray, List.set_cons_zero, List.set_cons_succ])
  refine wpF_skip (by rfl) ?_
  (try simp only [Act.put, List.setIfInBounds_toArray, List.set_cons_zero, List.set_cons_succ])
  refine wpF_skip (by rfl) ?_
  (try simp only [Act.put, List.setIfInBounds_toArray, List.set_cons_zero, List.set_cons_succ])
  refine wpF_skip (by rfl) ?_
  (try simp only [Act.put, List.setIfInBounds_toArray, List.set_cons_zero, List.set_cons_succ])
  refine wpF_skip (by rfl) ?_
  (try simp only [Act.put, List.setIfInBounds_toArray, List.set_cons_zero, List.set_cons_succ])
  (first | refine wpF_val rfl (fun w' hE hD => by unfold Yld; go_simp; exact ⟨Ext.refl _, rfl⟩) ?_ | refine wpF_valg (by rfl) (fun w' hE hD => by unfold Yld; go_simp; exact ⟨Ext.refl _, rfl⟩) ?_)
  (try simp only [Act.put, List.setIfInBounds_toArray, List.set_cons_zero, List.set_cons_succ])
  (first | refine wpF_val rfl (fun w' hE hD => by unfold Yld; go_simp; exact ⟨Ext.refl _, rfl⟩) ?_ | refine wpF_valg (by rfl) (fun w' hE hD => by unfold Yld; go_simp; exact ⟨Ext.refl _, rfl⟩) ?_)
  (try simp only [Act.put, List.setIfInBounds_toArray, List.set_cons_zero, List.set_cons_succ])
  refine wpF_skip (by rfl) ?_
  (try simp only [Act.put, List.setIfInBounds_toArray, List.set_cons_zero, List.set_cons_succ])
  refine wpF_skip (by rfl) ?_
  (try simp only [Act.put, List.setIfInBounds_toArray, List.set_cons_zero, List.set_cons_succ])
  refine wpF_skip (by rfl) ?_
  (try simp only [Act.put, List.setIfInBounds_toArray, List.set_cons_zero, List.set_cons_succ])
  refine wpF_skip (by rfl) ?_
  (try simp only [Act.put, List.setIfInBounds_toArray, List.set_cons_zero, List.set_cons_succ])
  refine wpF_skip (by rfl) ?_
  (try simp only [Act.put, List.setIfInBounds_toArray, List.set_cons_zero, List.set_cons_succ])
  refine wpF_skip (by rfl) ?_
  (try simp only [Act.put, List.setIfInBounds_toArray, List.set_cons_zero, List.set_cons_succ])
  refine wpF_skip (by rfl) ?_
  (try simp only [Act.put, List.setIfInBounds_toArray, List.set_cons_zero, List.set_cons_succ])
  refine wpF_skip (by rfl) ?_
  (try simp only [Act.put, List.setIfInBounds_toArray, List.set_cons_zero, List.set_cons_succ])
  (first | refine wpF_val rfl (fun w' hE hD => by unfold Yld; go_simp; exact ⟨Ext.refl _, rfl⟩) ?_ | refine wpF_valg (by rfl) (fun w' hE hD => by unfold Yld; go_simp; exact ⟨Ext.refl _, rfl⟩) ?_)
  (try simp only [Act.put, List.setIfInBounds_toArray, List.set_cons_zero, List.set_cons_succ])
  (first | refine wpF_val rfl (fun w' hE hD => by unfold Yld; go_simp; exact ⟨Ext.refl _, rfl⟩) ?_ | refine wpF_valg (by rfl) (fun w' hE hD => by unfold Yld; go_simp; exact ⟨Ext.refl _, rfl⟩) ?_)
  (try simp only [Act.put, List.setIfInBounds_toArray, List.set_cons_zero, List.set_cons_succ])
  refine wpF_skip (by rfl) ?_
  (try simp only [Act.put, List.setIfInBounds_toArray, List.set_cons_zero, List.set_cons_succ])
  refine wpF_skip (by rfl) ?_
  (try simp only [Act.put, List.setIfInBounds_toArray, List.set_cons_zero, List.set_cons_succ])
  refine wpF_skip (by rfl) ?_
  (try simp only [Act.put, List.setIfInBounds_toArray, List.set_cons_zero, List.set_cons_succ])
  refine wpF_skip (by rfl) ?_
  (try simp only [Act.put, List.setIfInBounds_toArray, List.set_cons_zero, List.set_cons_succ])
  refine wpF_skip (by rfl) ?_
  (try simp only [Act.put, List.setIfInBounds_toArray, List.set_cons_zero, List.set_cons_succ])
  refine wpF_skip (by rfl) ?_
  (try simp only [Act.put, List.setIfInBounds_toArray, List.set_cons_zero, List.set_cons_succ])
  refine wpF_skip (by rfl) ?_
  (try simp only [Act.put, List.setIfInBounds_toArray, List.set_cons_zero, List.set_cons_succ])
  refine wpF_skip (by rfl) ?_
  (try simp only [Act.put, List.setIfInBounds_toArray, List.set_cons_zero, List.set_cons_succ])
  refine wpF_skip (by rfl) ?_
  (try simp only [Act.put, List.setIfInBounds_toArray, List.set_cons_zero, List.set_cons_succ])
  (first | refine wpF_val rfl (fun w' hE hD => by unfold Yld; go_simp; exact ⟨Ext.refl _, rfl⟩) ?_ | refine wpF_valg (by rfl) (fun w' hE hD => by unfold Yld; go_simp; exact ⟨Ext.refl _, rfl⟩) ?_)
  (try simp only [Act.put, List.setIfInBounds_toArray, List.set_cons_zero, List.set_cons_succ])
  refine wpF_nil fun w2 hE2 hA => ?_
  refine (show wpList _ _ _ [] _ _ from ?_)
  have HE2 := Aside0.mk (HE0.out.trans hE2)
  clear hE2 hA c0 cb0 cb1 cb2 HB HE0
  go_wp2
  go_ret
  exact ⟨rfl, HE2.out⟩
set_option maxRecDepth 100000 in
set_option maxHeartbeats 2000000 in
theorem mdo_t_ge (h : MR w B bm n V L last) (k : Int) (A : Option Addr) (m c : Nat) (hk0 : 0 ≤ k) (hb : (n : Int) ≤ k) : Calls Try.prog 20 #[.pointer (some ⟨bm, 0, none⟩), .agg #[.bool true, .int .i64 k, .slice A m c]] w fun e w' => e = .returned (.int .i64 1) ∧ Ext w w' := by
  have c0 := h.bl.cell 0 (v := .int .i64 (n : Int)) rfl
  have hE0 := (Ext.refl w).alloc (.cells #[.bool true, .int .i64 k, .slice A m c] 34)
  have HB := Aside0.mk (Blk.new w #[.bool true, .int .i64 k, .slice A m c] 34)
  have HE0 := Aside0.mk hE0
  replace c0 := Ext.cell hE0 c0
  obtain ⟨bx, hbx⟩ : ∃ bx, bx = w.heap.size := ⟨_, rfl⟩
  obtain ⟨w1, hw1⟩ : ∃ w1, w1 = w.alloc (.cells #[.bool true, .int .i64 k, .slice A m c] 34) := ⟨_, rfl⟩
  rw [← hbx] at HB
  rw [← hw1] at HB HE0 c0
  have HW1 := Aside0.mk hw1
  have HBX := Aside0.mk hbx
  have cb0 := HB.out.cell 0 (v := .bool true) rfl
  have cb1 := HB.out.cell 1 (v := .int .i64 k) rfl
  have cb2 := HB.out.cell 2 (v := .slice A m c) rfl
  clear h hE0 hbx hw1
  have hd0 : decide (k < 0) = false := decide_eq_false (by omega)
  have hd1 : decide ((n : Int) ≤ k) = true := decide_eq_true hb
  clear hb
  go_enter Try.func20, Try.ntmps20
  go_wp2_with fail
  rw [← HW1.out, ← HBX.out]
  apply wp_region_facts 33 [RF.val _, RF.val _, RF.val _, RF.val _, RF.val _, RF.val _, RF.val _, RF.val _, RF.val _, RF.val _, RF.val _, RF.val _, RF.val _, RF.val _, RF.val _, RF.val _, RF.val _, RF.val _, RF.val _, RF.val _, RF.val _, RF.val _, RF.val _, RF.val _, RF.val _, RF.val _, RF.val _, RF.val _, RF.val _, RF.val _, RF.val _, RF.val _, RF.val _]
  case hm => kernel_rfl
  case hB => kernel_rfl
  simp only [List.take_succ_cons, List.take_zero, List.zip_cons_cons, List.zip_nil_left]
  (first | refine wpF_val rfl (fun w' hE hD => by unfold Yld; go_simp; exact ⟨Ext.refl _, rfl⟩) ?_ | refine wpF_valg (by rfl) (fun w' hE hD => by unfold Yld; go_simp; exact ⟨Ext.refl _, rfl⟩) ?_)
  (try simp only [Act.put, List.setIfInBounds_toArray, List.set_cons_zero, List.set_cons_succ])
  (first | refine wpF_val rfl (fun w' hE hD => by have hb1 := Ext.cell hE cb1; unfold Yld; go_simp; exact ⟨Ext.refl _, rfl⟩) ?_ | refine wpF_valg (by rfl) (fun w' hE hD => by have hb1 := Ext.cell hE cb1; unfold Yld; go_simp; exact ⟨Ext.refl _, rfl⟩) ?_)
  (try simp only [Act.put, List.setIfInBounds_toArray, List.set_cons_zero, List.set_cons_succ])
  (first | refine wpF_val rfl (fun w' hE hD => by unfold Yld; go_simp; exact ⟨Ext.refl _, rfl⟩) ?_ | refine wpF_valg (by rfl) (fun w' hE hD => by unfold Yld; go_simp; exact ⟨Ext.refl _, rfl⟩) ?_)
  (try simp only [Act.put, List.setIfInBounds_toArray, List.set_cons_zero, List.set_cons_succ])
  (first | refine wpF_val rfl (fun w' hE hD => by unfold Yld; go_simp; exact ⟨Ext.refl _, rfl⟩) ?_ | refine wpF_valg (by rfl) (fun w' hE hD => by unfold Yld; go_simp; exact ⟨Ext.refl _, rfl⟩) ?_)
  (try simp only [Act.put, List.setIfInBounds_toArray, List.set_cons_zero, List.set_cons_succ])
  (first | refine wpF_val rfl (fun w' hE hD => by unfold Yld; go_simp; exact ⟨Ext.refl _, rfl⟩) ?_ | refine wpF_valg (by rfl) (fun w' hE hD => by unfold Yld; go_simp; exact ⟨Ext.refl _, rfl⟩) ?_)
  (try simp only [Act.put, List.setIfInBounds_toArray, List.set_cons_zero, List.set_cons_succ])
  (first | refine wpF_val rfl (fun w' hE hD => by have hb1 := Ext.cell hE cb1; unfold Yld; go_simp; exact ⟨Ext.refl _, rfl⟩) ?_ | refine wpF_valg (by rfl) (fun w' hE hD => by have hb1 := Ext.cell hE cb1; unfold Yld; go_simp; exact ⟨Ext.refl _, rfl⟩) ?_)
  (try simp only [Act.put, List.setIfInBounds_toArray, List.set_cons_zero, List.set_cons_succ])
  (first | refine wpF_val rfl (fun w' hE hD => by unfold Yld; go_simp; exact ⟨Ext.refl _, rfl⟩) ?_ | refine wpF_valg (by rfl) (fun w' hE hD => by unfold Yld; go_simp; exact ⟨Ext.refl _, rfl⟩) ?_)
  (try simp only [Act.put, List.setIfInBounds_toArray, List.set_cons_zero, List.set_cons_succ])
  (first | refine wpF_val rfl (fun w' hE hD => by unfold Yld; go_simp; exact ⟨Ext.refl _, rfl⟩) ?_ | refine wpF_valg (by rfl) (fun w' hE hD => by unfold Yld; go_simp; exact ⟨Ext.refl _, rfl⟩) ?_)
  (try simp only [Act.put, List.setIfInBounds_toArray, List.set_cons_zero, List.set_cons_succ])
  (first | refine wpF_val rfl (fun w' hE hD => by unfold Yld; go_simp; exact ⟨Ext.refl _, rfl⟩) ?_ | refine wpF_valg (by rfl) (fun w' hE hD => by unfold Yld; go_simp; exact ⟨Ext.refl _, rfl⟩) ?_)
  (try simp only [Act.put, List.setIfInBounds_toArray, List.set_cons_zero, List.set_cons_succ])
  (first | refine wpF_val rfl (fun w' hE hD => by have hc0 := Ext.cell hE c0; unfold Yld; go_simp; exact ⟨Ext.refl _, rfl⟩) ?_ | refine wpF_valg (by rfl) (fun w' hE hD => by have hc0 := Ext.cell hE c0; unfold Yld; go_simp; exact ⟨Ext.refl _, rfl⟩) ?_)
  (try simp only [Act.put, List.setIfInBounds_toArray, List.set_cons_zero, List.set_cons_succ])
  (first | refine wpF_val rfl (fun w' hE hD => by unfold Yld; go_simp; exact ⟨Ext.refl _, rfl⟩) ?_ | refine wpF_valg (by rfl) (fun w' hE hD => by unfold Yld; go_simp; exact ⟨Ext.refl _, rfl⟩) ?_)
  (try simp only [Act.put, List.setIfInBounds_toArray, List.set_cons_zero, List.set_cons_succ])
  (first | refine wpF_val rfl (fun w' hE hD => by unfold Yld; go_simp; exact ⟨Ext.refl _, rfl⟩) ?_ | refine wpF_valg (by rfl) (fun w' hE hD => by unfold Yld; go_simp; exact ⟨Ext.refl _, rfl⟩) ?_)
  (try simp only [Act.put, List.setIfInBounds_toArray, List.set_cons_zero, List.set_cons_succ])
  (first | refine wpF_val rfl (fun w' hE hD => by unfold Yld; go_simp; exact ⟨Ext.refl _, rfl⟩) ?_ | refine wpF_valg (by rfl) (fun w' hE hD => by unfold Yld; go_simp; exact ⟨Ext.refl _, rfl⟩) ?_)
  (try simp only [Act.put, List.setIfInBounds_toArray, List.set_cons_zero, List.set_cons_succ])
  refine wpF_skip (by rfl) ?_
  (try simp only [Act.put, List.setIfInBounds_toArray, List.set_cons_zero, List.set_cons_succ])
  refine wpF_skip (by rfl) ?_
  (try simp only [Act.put, List.setIfInBounds_toArray, List.set_cons_zero, List.set_cons_succ])
  refine wpF_skip (by rfl) ?_
  (try simp only [Act.put, List.setIfInBounds_toArray, List.set_cons_zero, List.set_cons_succ])
  refine wpF_skip (by rfl) ?_
  (try simp only [Act.put, List.setIfInBounds_toArray, List.set_cons_zero, List.set_cons_succ])
  refine wpF_skip (by rfl) ?_
  (try simp only [Act.put, List.setIfInBounds_toArray, List.set_cons_zero, List.set_cons_succ])
  refine wpF_skip (by rfl) ?_
  (try simp only [Act.put, List.setIfInBounds_toArray, List.set_cons_zero, List.set_cons_succ])
  refine wpF_skip (by rfl) ?_
  (try simp only [Act.put, List.setIfInBounds_toArray, List.set_cons_zero, List.set_cons_succ])
  refine wpF_skip (by rfl) ?_
  (try simp only [Act.put, List.setIfInBounds_toArray, List.set_cons_zero, List.set_cons_succ])
  (first | refine wpF_val rfl (fun w' hE hD => by unfold Yld; go_simp; exact ⟨Ext.refl _, rfl⟩) ?_ | refine wpF_valg (by rfl) (fun w' hE hD => by unfold Yld; go_simp; exact ⟨Ext.refl _, rfl⟩) ?_)
  (try simp only [Act.put, List.setIfInBounds_toArray, List.set_cons_zero, List.set_cons_succ])
  (first | refine wpF_val rfl (fun w' hE hD => by unfold Yld; go_simp; exact ⟨Ext.refl _, rfl⟩) ?_ | refine wpF_valg (by rfl) (fun w' hE hD => by unfold Yld; go_simp; exact ⟨Ext.refl _, rfl⟩) ?_)
  (try simp only [Act.put, List.setIfInBounds_toArray, List.set_cons_zero, List.set_cons_succ])
  refine wpF_skip (by rfl) ?_
  (try simp only [Act.put, List.setIfInBounds_toArray, List.set_cons_zero, List.set_cons_succ])
  refine wpF_skip (by rfl) ?_
  (try simp only [Act.put, List.setIfInBounds_toArray, List.set_cons_zero, List.set_cons_succ])
  refine wpF_skip (by rfl) ?_
  (try simp only [Act.put, List.setIfInBounds_toArray, List.set_cons_zero, List.set_cons_succ])
  refine wpF_skip (by rfl) ?_
  (try simp only [Act.put, List.setIfInBounds_toArray, List.set_cons_zero, List.set_cons_succ])
  refine wpF_skip (by rfl) ?_
  (try simp only [Act.put, List.setIfInBounds_toArray, List.set_cons_zero, List.set_cons_succ])
  refine wpF_skip (by rfl) ?_
  (try simp only [Act.put, List.setIfInBounds_toArray, List.set_cons_zero, List.set_cons_succ])
  refine wpF_skip (by rfl) ?_
  (try simp only [Act.put, List.setIfInBounds_toArray, List.set_cons_zero, List.set_cons_succ])
  refine wpF_skip (by rfl) ?_
  (try simp only [Act.put, List.setIfInBounds_toArray, List.set_cons_zero, List.set_cons_succ])
  refine wpF_skip (by rfl) ?_
  (try simp only [Act.put, List.setIfInBounds_toArray, List.set_cons_zero, List.set_cons_succ])
  (first | refine wpF_val rfl (fun w' hE hD => by unfold Yld; go_simp; exact ⟨Ext.refl _, rfl⟩) ?_ | refine wpF_valg (by rfl) (fun w' hE hD => by unfold Yld; go_simp; exact ⟨Ext.refl _, rfl⟩) ?_)
  (try simp only [Act.put, List.setIfInBounds_toArray, List.set_cons_zero, List.set_cons_succ])
  refine wpF_nil fun w2 hE2 hA => ?_
  refine (show wpList _ _ _ [] _ _ from ?_)
  have HE2 := Aside0.mk (HE0.out.trans hE2)
  clear hE2 hA c0 cb0 cb1 cb2 HB HE0
  go_wp2
  go_ret
  exact ⟨rfl, HE2.out⟩
set_option maxRecDepth 100000 in
set_option maxHeartbeats 2000000 in
theorem mdo_t_len (h : MR w B bm n V L last) (k : Int) (A : Option Addr) (m c : Nat) (hk0 : 0 ≤ k) (hk1 : k < n) (hb : ¬ m = 0) : Calls Try.prog 20 #[.pointer (some ⟨bm, 0, none⟩), .agg #[.bool true, .int .i64 k, .slice A m c]] w fun e w' => e = .returned (.int .i64 1) ∧ Ext w w' := by
  have c0 := h.bl.cell 0 (v := .int .i64 (n : Int)) rfl
  have hE0 := (Ext.refl w).alloc (.cells #[.bool true, .int .i64 k, .slice A m c] 34)
  have HB := Aside0.mk (Blk.new w #[.bool true, .int .i64 k, .slice A m c] 34)
  have HE0 := Aside0.mk hE0
  replace c0 := Ext.cell hE0 c0
  obtain ⟨bx, hbx⟩ : ∃ bx, bx = w.heap.size := ⟨_, rfl⟩
  obtain ⟨w1, hw1⟩ : ∃ w1, w1 = w.alloc (.cells #[.bool true, .int .i64 k, .slice A m c] 34) := ⟨_, rfl⟩
  rw [← hbx] at HB
  rw [← hw1] at HB HE0 c0
  have HW1 := Aside0.mk hw1
  have HBX := Aside0.mk hbx
  have cb0 := HB.out.cell 0 (v := .bool true) rfl
  have cb1 := HB.out.cell 1 (v := .int .i64 k) rfl
  have cb2 := HB.out.cell 2 (v := .slice A m c) rfl
  clear h hE0 hbx hw1
  have hd0 : decide (k < 0) = false := decide_eq_false (by omega)
  have hd1 : decide ((n : Int) ≤ k) = false := decide_eq_false (by omega)
  have hmd : decide (0 < m) = true := decide_eq_true (by omega)
  clear hb
  go_enter Try.func20, Try.ntmps20
  go_wp2_with fail
  rw [← HW1.out, ← HBX.out]
  apply wp_region_facts 33 [RF.val _, RF.val _, RF.val _, RF.val _, RF.val _, RF.val _, RF.val _, RF.val _, RF.val _, RF.val _, RF.val _, RF.val _, RF.val _, RF.val _, RF.val _, RF.val _, RF.val _, RF.val _, RF.val _, RF.val _, RF.val _, RF.val _, RF.val _, RF.val _, RF.val _, RF.val _, RF.val _, RF.val _, RF.val _, RF.val _, RF.val _, RF.val _, RF.val _]
  case hm => kernel_rfl
  case hB => kernel_rfl
  simp only [List.take_succ_cons, List.take_zero, List.zip_cons_cons, List.zip_nil_left]
  (first | refine wpF_val rfl (fun w' hE hD => by unfold Yld; go_simp; exact ⟨Ext.refl _, rfl⟩) ?_ | refine wpF_valg (by rfl) (fun w' hE hD => by unfold Yld; go_simp; exact ⟨Ext.refl _, rfl⟩) ?_)
  (try simp only [Act.put, List.setIfInBounds_toArray, List.set_cons_zero, List.set_cons_succ])
  (first | refine wpF_val rfl (fun w' hE hD => by have hb1 := Ext.cell hE cb1; unfold Yld; go_simp; exact ⟨Ext.refl _, rfl⟩) ?_ | refine wpF_valg (by rfl) (fun w' hE hD => by have hb1 := Ext.cell hE cb1; unfold Yld; go_simp; exact ⟨Ext.refl _, rfl⟩) ?_)
  (try simp only [Act.put, List.setIfInBounds_toArray, List.set_cons_zero, List.set_cons_succ])
  (first | refine wpF_val rfl (fun w' hE hD => by unfold Yld; go_simp; exact ⟨Ext.refl _, rfl⟩) ?_ | refine wpF_valg (by rfl) (fun w' hE hD => by unfold Yld; go_simp; exact ⟨Ext.refl _, rfl⟩) ?_)
  (try simp only [Act.put, List.setIfInBounds_toArray, List.set_cons_zero, List.set_cons_succ])
  (first | refine wpF_val rfl (fun w' hE hD => by unfold Yld; go_simp; exact ⟨Ext.refl _, rfl⟩) ?_ | refine wpF_valg (by rfl) (fun w' hE hD => by unfold Yld; go_simp; exact ⟨Ext.refl _, rfl⟩) ?_)
  (try simp only [Act.put, List.setIfInBounds_toArray, List.set_cons_zero, List.set_cons_succ])
  (first | refine wpF_val rfl (fun w' hE hD => by unfold Yld; go_simp; exact ⟨Ext.refl _, rfl⟩) ?_ | refine wpF_valg (by rfl) (fun w' hE hD => by unfold Yld; go_simp; exact ⟨Ext.refl _, rfl⟩) ?_)
  (try simp only [Act.put, List.setIfInBounds_toArray, List.set_cons_zero, List.set_cons_succ])
  (first | refine wpF_val rfl (fun w' hE hD => by have hb1 := Ext.cell hE cb1; unfold Yld; go_simp; exact ⟨Ext.refl _, rfl⟩) ?_ | refine wpF_valg (by rfl) (fun w' hE hD => by have hb1 := Ext.cell hE cb1; unfold Yld; go_simp; exact ⟨Ext.refl _, rfl⟩) ?_)
  (try simp only [Act.put, List.setIfInBounds_toArray, List.set_cons_zero, List.set_cons_succ])
  (first | refine wpF_val rfl (fun w' hE hD => by unfold Yld; go_simp; exact ⟨Ext.refl _, rfl⟩) ?_ | refine wpF_valg (by rfl) (fun w' hE hD => by unfold Yld; go_simp; exact ⟨Ext.refl _, rfl⟩) ?_)
  (try simp only [Act.put, List.setIfInBounds_toArray, List.set_cons_zero, List.set_cons_succ])
  (first | refine wpF_val rfl (fun w' hE hD => by unfold Yld; go_simp; exact ⟨Ext.refl _, rfl⟩) ?_ | refine wpF_valg (by rfl) (fun w' hE hD => by unfold Yld; go_simp; exact ⟨Ext.refl _, rfl⟩) ?_)
  (try simp only [Act.put, List.setIfInBounds_toArray, List.set_cons_zero, List.set_cons_succ])
  (first | refine wpF_val rfl (fun w' hE hD => by unfold Yld; go_simp; exact ⟨Ext.refl _, rfl⟩) ?_ | refine wpF_valg (by rfl) (fun w' hE hD => by unfold Yld; go_simp; exact ⟨Ext.refl _, rfl⟩) ?_)
  (try simp only [Act.put, List.setIfInBounds_toArray, List.set_cons_zero, List.set_cons_succ])
  (first | refine wpF_val rfl (fun w' hE hD => by have hc0 := Ext.cell hE c0; unfold Yld; go_simp; exact ⟨Ext.refl _, rfl⟩) ?_ | refine wpF_valg (by rfl) (fun w' hE hD => by have hc0 := Ext.cell hE c0; unfold Yld; go_simp; exact ⟨Ext.refl _, rfl⟩) ?_)
  (try simp only [Act.put, List.setIfInBounds_toArray, List.set_cons_zero, List.set_cons_succ])
  (first | refine wpF_val rfl (fun w' hE hD => by unfold Yld; go_simp; exact ⟨Ext.refl _, rfl⟩) ?_ | refine wpF_valg (by rfl) (fun w' hE hD => by unfold Yld; go_simp; exact ⟨Ext.refl _, rfl⟩) ?_)
  (try simp only [Act.put, List.setIfInBounds_toArray, List.set_cons_zero, List.set_cons_succ])
  (first | refine wpF_val rfl (fun w' hE hD => by unfold Yld; go_simp; exact ⟨Ext.refl _, rfl⟩) ?_ | refine wpF_valg (by rfl) (fun w' hE hD => by unfold Yld; go_simp; exact ⟨Ext.refl _, rfl⟩) ?_)
  (try simp only [Act.put, List.setIfInBounds_toArray, List.set_cons_zero, List.set_cons_succ])
  (first | refine wpF_val rfl (fun w' hE hD => by unfold Yld; go_simp; exact ⟨Ext.refl _, rfl⟩) ?_ | refine wpF_valg (by rfl) (fun w' hE hD => by unfold Yld; go_simp; exact ⟨Ext.refl _, rfl⟩) ?_)
  (try simp only [Act.put, List.setIfInBounds_toArray, List.set_cons_zero, List.set_cons_succ])
  (first | refine wpF_val rfl (fun w' hE hD => by unfold Yld; go_simp; exact ⟨Ext.refl _, rfl⟩) ?_ | refine wpF_valg (by rfl) (fun w' hE hD => by unfold Yld; go_simp; exact ⟨Ext.refl _, rfl⟩) ?_)
  (try simp only [Act.put, List.setIfInBounds_toArray, List.set_cons_zero, List.set_cons_succ])
  (first | refine wpF_val rfl (fun w' hE hD => by have hb0 := Ext.cell hE cb0; unfold Yld; go_simp; exact ⟨Ext.refl _, rfl⟩) ?_ | refine wpF_valg (by rfl) (fun w' hE hD => by have hb0 := Ext.cell hE cb0; unfold Yld; go_simp; exact ⟨Ext.refl _, rfl⟩) ?_)
  (try simp only [Act.put, List.setIfInBounds_toArray, List.set_cons_zero, List.set_cons_succ])
  (first | refine wpF_val rfl (fun w' hE hD => by unfold Yld; go_simp; exact ⟨Ext.refl _, rfl⟩) ?_ | refine wpF_valg (by rfl) (fun w' hE hD => by unfold Yld; go_simp; exact ⟨Ext.refl _, rfl⟩) ?_)
  (try simp only [Act.put, List.setIfInBounds_toArray, List.set_cons_zero, List.set_cons_succ])
  (first | refine wpF_val rfl (fun w' hE hD => by unfold Yld; go_simp; exact ⟨Ext.refl _, rfl⟩) ?_ | refine wpF_valg (by rfl) (fun w' hE hD => by unfold Yld; go_simp; exact ⟨Ext.refl _, rfl⟩) ?_)
  (try simp only [Act.put, List.setIfInBounds_toArray, List.set_cons_zero, List.set_cons_succ])
  (first | refine wpF_val rfl (fun w' hE hD => by have hb2 := Ext.cell hE cb2; unfold Yld; go_simp; exact ⟨Ext.refl _, rfl⟩) ?_ | refine wpF_valg (by rfl) (fun w' hE hD => by have hb2 := Ext.cell hE cb2; unfold Yld; go_simp; exact ⟨Ext.refl _, rfl⟩) ?_)
  (try simp only [Act.put, List.setIfInBounds_toArray, List.set_cons_zero, List.set_cons_succ])
  (first | refine wpF_val rfl (fun w' hE hD => by unfold Yld; go_simp; exact ⟨Ext.refl _, rfl⟩) ?_ | refine wpF_valg (by rfl) (fun w' hE hD => by unfold Yld; go_simp; exact ⟨Ext.refl _, rfl⟩) ?_)
  (try simp only [Act.put, List.setIfInBounds_toArray, List.set_cons_zero, List.set_cons_succ])
  (first | refine wpF_val rfl (fun w' hE hD => by unfold Yld; go_simp; exact ⟨Ext.refl _, rfl⟩) ?_ | refine wpF_valg (by rfl) (fun w' hE hD => by unfold Yld; go_simp; exact ⟨Ext.refl _, rfl⟩) ?_)
  (try simp only [Act.put, List.setIfInBounds_toArray, List.set_cons_zero, List.set_cons_succ])
  (first | refine wpF_val rfl (fun w' hE hD => by unfold Yld; go_simp; exact ⟨Ext.refl _, rfl⟩) ?_ | refine wpF_valg (by rfl) (fun w' hE hD => by unfold Yld; go_simp; exact ⟨Ext.refl _, rfl⟩) ?_)
  (try simp only [Act.put, List.setIfInBounds_toArray, List.set_cons_zero, List.set_cons_succ])
  (first | refine wpF_val rfl (fun w' hE hD => by unfold Yld; go_simp; exact ⟨Ext.refl _, rfl⟩) ?_ | refine wpF_valg (by rfl) (fun w' hE hD => by unfold Yld; go_simp; exact ⟨Ext.refl _, rfl⟩) ?_)
  (try simp only [Act.put, List.setIfInBounds_toArray, List.set_cons_zero, List.set_cons_succ])
  (first | refine wpF_val rfl (fun w' hE hD => by unfold Yld; go_simp; exact ⟨Ext.refl _, rfl⟩) ?_ | refine wpF_valg (by rfl) (fun w' hE hD => by unfold Yld; go_simp; exact ⟨Ext.refl _, rfl⟩) ?_)
  (try simp only [Act.put, List.setIfInBounds_toArray, List.set_cons_zero, List.set_cons_succ])
  refine wpF_skip (by rfl) ?_
  (try simp only [Act.put, List.setIfInBounds_toArray, List.set_cons_zero, List.set_cons_succ])
  refine wpF_skip (by rfl) ?_
  (try simp only [Act.put, List.setIfInBounds_toArray, List.set_cons_zero, List.set_cons_succ])
  refine wpF_skip (by rfl) ?_
  (try simp only [Act.put, List.setIfInBounds_toArray, List.set_cons_zero, List.set_cons_succ])
  refine wpF_skip (by rfl) ?_
  (try simp only [Act.put, List.setIfInBounds_toArray, List.set_cons_zero, List.set_cons_succ])
  refine wpF_skip (by rfl) ?_
  (try simp only [Act.put, List.setIfInBounds_toArray, List.set_cons_zero, List.set_cons_succ])
  refine wpF_skip (by rfl) ?_
  (try simp only [Act.put, List.setIfInBounds_toArray, List.set_cons_zero, List.set_cons_succ])
  refine wpF_skip (by rfl) ?_
  (try simp only [Act.put, List.setIfInBounds_toArray, List.set_cons_zero, List.set_cons_succ])
  refine wpF_skip (by rfl) ?_
  (try simp only [Act.put, List.setIfInBounds_toArray, List.set_cons_zero, List.set_cons_succ])
  refine wpF_skip (by rfl) ?_
  (try simp only [Act.put, List.setIfInBounds_toArray, List.set_cons_zero, List.set_cons_succ])
  (first | refine wpF_val rfl (fun w' hE hD => by unfold Yld; go_simp; exact ⟨Ext.refl _, rfl⟩) ?_ | refine wpF_valg (by rfl) (fun w' hE hD => by unfold Yld; go_simp; exact ⟨Ext.refl _, rfl⟩) ?_)
  (try simp only [Act.put, List.setIfInBounds_toArray, List.set_cons_zero, List.set_cons_succ])
  refine wpF_nil fun w2 hE2 hA => ?_
  refine (show wpList _ _ _ [] _ _ from ?_)
  have HE2 := Aside0.mk (HE0.out.trans hE2)
  clear hE2 hA c0 cb0 cb1 cb2 HB HE0
  go_wp2
  go_ret
  exact ⟨rfl, HE2.out⟩
set_option maxRecDepth 100000 in
set_option maxHeartbeats 2000000 in
theorem mdo_w_neg (h : MR w B bm n V L last) (k : Int) (A : Option Addr) (m c : Nat) (hb : k < 0) : Calls Try.prog 20 #[.pointer (some ⟨bm, 0, none⟩), .agg #[.bool false, .int .i64 k, .slice A m c]] w fun e w' => e = .returned (.int .i64 1) ∧ Ext w w' := by
  have c0 := h.bl.cell 0 (v := .int .i64 (n : Int)) rfl
  have hE0 := (Ext.refl w).alloc (.cells #[.bool false, .int .i64 k, .slice A m c] 34)
  have HB := Aside0.mk (Blk.new w #[.bool false, .int .i64 k, .slice A m c] 34)
  have HE0 := Aside0.mk hE0
  replace c0 := Ext.cell hE0 c0
  obtain ⟨bx, hbx⟩ : ∃ bx, bx = w.heap.size := ⟨_, rfl⟩
  obtain ⟨w1, hw1⟩ : ∃ w1, w1 = w.alloc (.cells #[.bool false, .int .i64 k, .slice A m c] 34) := ⟨_, rfl⟩
  rw [← hbx] at HB
  rw [← hw1] at HB HE0 c0
  have HW1 := Aside0.mk hw1
  have HBX := Aside0.mk hbx
  have cb0 := HB.out.cell 0 (v := .bool false) rfl
  have cb1 := HB.out.cell 1 (v := .int .i64 k) rfl
  have cb2 := HB.out.cell 2 (v := .slice A m c) rfl
  clear h hE0 hbx hw1
  have hd0 : decide (k < 0) = true := decide_eq_true hb
  clear hb
  go_enter Try.func20, Try.ntmps20
  go_wp2_with fail
  rw [← HW1.out, ← HBX.out]
  apply wp_region_facts 33 [RF.val _, RF.val _, RF.val _, RF.val _, RF.val _, RF.val _, RF.val _, RF.val _, RF.val _, RF.val _, RF.val _, RF.val _, RF.val _, RF.val _, RF.val _, RF.val _, RF.val _, RF.val _, RF.val _, RF.val _, RF.val _, RF.val _, RF.val _, RF.val _, RF.val _, RF.val _, RF.val _, RF.val _, RF.val _, RF.val _, RF.val _, RF.val _, RF.val _]
  case hm => kernel_rfl
  case hB => kernel_rfl
  simp only [List.take_succ_cons, List.take_zero, List.zip_cons_cons, List.zip_nil_left]
  (first | refine wpF_val rfl (fun w' hE hD => by unfold Yld; go_simp; exact ⟨Ext.refl _, rfl⟩) ?_ | refine wpF_valg (by rfl) (fun w' hE hD => by unfold Yld; go_simp; exact ⟨Ext.refl _, rfl⟩) ?_)
  (try simp only [Act.put, List.setIfInBounds_toArray, List.set_cons_zero, List.set_cons_succ])
  (first | refine wpF_val rfl (fun w' hE hD => by have hb1 := Ext.cell hE cb1; unfold Yld; go_simp; exact ⟨Ext.refl _, rfl⟩) ?_ | refine wpF_valg (by rfl) (fun w' hE hD => by have hb1 := Ext.cell hE cb1; unfold Yld; go_simp; exact ⟨Ext.refl _, rfl⟩) ?_)
  (try simp only [Act.put, List.setIfInBounds_toArray, List.set_cons_zero, List.set_cons_succ])
  (first | refine wpF_val rfl (fun w' hE hD => by unfold Yld; go_simp; exact ⟨Ext.refl _, rfl⟩) ?_ | refine wpF_valg (by rfl) (fun w' hE hD => by unfold Yld; go_simp; exact ⟨Ext.refl _, rfl⟩) ?_)
  (try simp only [Act.put, List.setIfInBounds_toArray, List.set_cons_zero, List.set_cons_succ])
  (first | refine wpF_val rfl (fun w' hE hD => by unfold Yld; go_simp; exact ⟨Ext.refl _, rfl⟩) ?_ | refine wpF_valg (by rfl) (fun w' hE hD => by unfold Yld; go_simp; exact ⟨Ext.refl _, rfl⟩) ?_)
  (try simp only [Act.put, List.setIfInBounds_toArray, List.set_cons_zero, List.set_cons_succ])
  refine wpF_skip (by rfl) ?_
  (try simp only [Act.put, List.setIfInBounds_toArray, List.set_cons_zero, List.set_cons_succ])
  refine wpF_skip (by rfl) ?_
  (try simp only [Act.put, List.setIfInBounds_toArray, List.set_cons_zero, List.set_cons_succ])
  refine wpF_skip (by rfl) ?_
  (try simp only [Act.put, List.setIfInBounds_toArray, List.set_cons_zero, List.set_cons_succ])
  refine wpF_skip (by rfl) ?_
  (try simp only [Act.put, List.setIfInBounds_toArray, List.set_cons_zero, List.set_cons_succ])
  refine wpF_skip (by rfl) ?_
  (try simp only [Act.put, List.setIfInBounds_toArray, List.set_cons_zero, List.set_cons_succ])
  refine wpF_skip (by rfl) ?_
  (try simp only [Act.put, List.setIfInBounds_toArray, List.set_cons_zero, List.set_cons_succ])
  refine wpF_skip (by rfl) ?_
  (try simp only [Act.put, List.setIfInBounds_toArray, List.set_cons_zero, List.set_cons_succ])
  (first | refine wpF_val rfl (fun w' hE hD => by unfold Yld; go_simp; exact ⟨Ext.refl _, rfl⟩) ?_ | refine wpF_valg (by rfl) (fun w' hE hD => by unfold Yld; go_simp; exact ⟨Ext.refl _, rfl⟩) ?_)
  (try simp only [Act.put, List.setIfInBounds_toArray, List.set_cons_zero, List.set_cons_succ])
  (first | refine wpF_val rfl (fun w' hE hD => by unfold Yld; go_simp; exact ⟨Ext.refl _, rfl⟩) ?_ | refine wpF_valg (by rfl) (fun w' hE hD => by unfold Yld; go_simp; exact ⟨Ext.refl _, rfl⟩) ?_)
  (try simp only [Act.put, List.setIfInBounds_toArray, List.set_cons_zero, List.set_cons_succ])
  refine wpF_skip (by rfl) ?_
  (try simp only [Act.put, List.setIfInBounds_toArray, List.set_cons_zero, List.set_cons_succ])
  refine wpF_skip (by rfl) ?_
  (try simp only [Act.put, List.setIfInBounds_toArray, List.set_cons_zero, List.set_cons_succ])
  refine wpF_skip (by rfl) ?_
  (try simp only [Act.put, List.setIfInBounds_toArray, List.set_cons_zero, List.set_cons_succ])
  refine wpF_skip (by rfl) ?_
  (try simp only [Act.put, List.setIfInBounds_toArray, List.set_cons_zero, List.set_cons_succ])
  refine wpF_skip (by rfl) ?_
  (try simp only [Act.put, List.setIfInBounds_toArray, List.set_cons_zero, List.set_cons_succ])
  refine wpF_skip (by rfl) ?_
  (try simp only [Act.put, List.setIfInBounds_toArray, List.set_cons_zero, List.set_cons_succ])
  refine wpF_skip (by rfl) ?_
  (try simp only [Act.put, List.setIfInBounds_toArray, List.set_cons_zero, List.set_cons_succ])
  refine wpF_skip (by rfl) ?_
  (try simp only [Act.put, List.setIfInBounds_toArray, List.set_cons_zero, List.set_cons_succ])
  (first | refine wpF_val rfl (fun w' hE hD => by unfold Yld; go_simp; exact ⟨Ext.refl _, rfl⟩) ?_ | refine wpF_valg (by rfl) (fun w' hE hD => by unfold Yld; go_simp; exact ⟨Ext.refl _, rfl⟩) ?_)
  (try simp only [Act.put, List.setIfInBounds_toArray, List.set_cons_zero, List.set_cons_succ])
  (first | refine wpF_val rfl (fun w' hE hD => by unfold Yld; go_simp; exact ⟨Ext.refl _, rfl⟩) ?_ | refine wpF_valg (by rfl) (fun w' hE hD => by unfold Yld; go_simp; exact ⟨Ext.refl _, rfl⟩) ?_)
  (try simp only [Act.put, List.setIfInBounds_toArray, List.set_cons_zero, List.set_cons_succ])
  refine wpF_skip (by rfl) ?_
  (try simp only [Act.put, List.setIfInBounds_toArray, List.set_cons_zero, List.set_cons_succ])
  refine wpF_skip (by rfl) ?_
  (try simp only [Act.put, List.setIfInBounds_toArray, List.set_cons_zero, List.set_cons_succ])
  refine wpF_skip (by rfl) ?_
  (try simp only [Act.put, List.setIfInBounds_toArray, List.set_cons_zero, List.set_cons_succ])
  refine wpF_skip (by rfl) ?_
  (try simp only [Act.put, List.setIfInBounds_toArray, List.set_cons_zero, List.set_cons_succ])
  refine wpF_skip (by rfl) ?_
  (try simp only [Act.put, List.setIfInBounds_toArray, List.set_cons_zero, List.set_cons_succ])
  refine wpF_skip (by rfl) ?_
  (try simp only [Act.put, List.setIfInBounds_toArray, List.set_cons_zero, List.set_cons_succ])
  refine wpF_skip (by rfl) ?_
  (try simp only [Act.put, List.setIfInBounds_toArray, List.set_cons_zero, List.set_cons_succ])
  refine wpF_skip (by rfl) ?_
  (try simp only [Act.put, List.setIfInBounds_toArray, List.set_cons_zero, List.set_cons_succ])
  refine wpF_skip (by rfl) ?_
  (try simp only [Act.put, List.setIfInBounds_toArray, List.set_cons_zero, List.set_cons_succ])
  (first | refine wpF_val rfl (fun w' hE hD => by unfold Yld; go_simp; exact ⟨Ext.refl _, rfl⟩) ?_ | refine wpF_valg (by rfl) (fun w' hE hD => by unfold Yld; go_simp; exact ⟨Ext.refl _, rfl⟩) ?_)
  (try simp only [Act.put, List.setIfInBounds_toArray, List.set_cons_zero, List.set_cons_succ])
  refine wpF_nil fun w2 hE2 hA => ?_
  refine (show wpList _ _ _ [] _ _ from ?_)
  have HE2 := Aside0.mk (HE0.out.trans hE2)
  clear hE2 hA c0 cb0 cb1 cb2 HB HE0
  go_wp2
  go_ret
  exact ⟨rfl, HE2.out⟩
set_option maxRecDepth 100000 in
set_option maxHeartbeats 2000000 in
theorem mdo_w_ge (h : MR w B bm n V L last) (k : Int) (A : Option Addr) (m c : Nat) (hk0 : 0 ≤ k) (hb : (n : Int) ≤ k) : Calls Try.prog 20 #[.pointer (some ⟨bm, 0, none⟩), .agg #[.bool false, .int .i64 k, .slice A m c]] w fun e w' => e = .returned (.int .i64 1) ∧ Ext w w' := by
  have c0 := h.bl.cell 0 (v := .int .i64 (n : Int)) rfl
  have hE0 := (Ext.refl w).alloc (.cells #[.bool false, .int .i64 k, .slice A m c] 34)
  have HB := Aside0.mk (Blk.new w #[.bool false, .int .i64 k, .slice A m c] 34)
  have HE0 := Aside0.mk hE0
  replace c0 := Ext.cell hE0 c0
  obtain ⟨bx, hbx⟩ : ∃ bx, bx = w.heap.size := ⟨_, rfl⟩
  obtain ⟨w1, hw1⟩ : ∃ w1, w1 = w.alloc (.cells #[.bool false, .int .i64 k, .slice A m c] 34) := ⟨_, rfl⟩
  rw [← hbx] at HB
  rw [← hw1] at HB HE0 c0
  have HW1 := Aside0.mk hw1
  have HBX := Aside0.mk hbx
  have cb0 := HB.out.cell 0 (v := .bool false) rfl
  have cb1 := HB.out.cell 1 (v := .int .i64 k) rfl
  have cb2 := HB.out.cell 2 (v := .slice A m c) rfl
  clear h hE0 hbx hw1
  have hd0 : decide (k < 0) = false := decide_eq_false (by omega)
  have hd1 : decide ((n : Int) ≤ k) = true := decide_eq_true hb
  clear hb
  go_enter Try.func20, Try.ntmps20
  go_wp2_with fail
  rw [← HW1.out, ← HBX.out]
  apply wp_region_facts 33 [RF.val _, RF.val _, RF.val _, RF.val _, RF.val _, RF.val _, RF.val _, RF.val _, RF.val _, RF.val _, RF.val _, RF.val _, RF.val _, RF.val _, RF.val _, RF.val _, RF.val _, RF.val _, RF.val _, RF.val _, RF.val _, RF.val _, RF.val _, RF.val _, RF.val _, RF.val _, RF.val _, RF.val _, RF.val _, RF.val _, RF.val _, RF.val _, RF.val _]
  case hm => kernel_rfl
  case hB => kernel_rfl
  simp only [List.take_succ_cons, List.take_zero, List.zip_cons_cons, List.zip_nil_left]
  (first | refine wpF_val rfl (fun w' hE hD => by unfold Yld; go_simp; exact ⟨Ext.refl _, rfl⟩) ?_ | refine wpF_valg (by rfl) (fun w' hE hD => by unfold Yld; go_simp; exact ⟨Ext.refl _, rfl⟩) ?_)
  (try simp only [Act.put, List.setIfInBounds_toArray, List.set_cons_zero, List.set_cons_succ])
  (first | refine wpF_val rfl (fun w' hE hD => by have hb1 := Ext.cell hE cb1; unfold Yld; go_simp; exact ⟨Ext.refl _, rfl⟩) ?_ | refine wpF_valg (by rfl) (fun w' hE hD => by have hb1 := Ext.cell hE cb1; unfold Yld; go_simp; exact ⟨Ext.refl _, rfl⟩) ?_)
  (try simp only [Act.put, List.setIfInBounds_toArray, List.set_cons_zero, List.set_cons_succ])
  (first | refine wpF_val rfl (fun w' hE hD => by unfold Yld; go_simp; exact ⟨Ext.refl _, rfl⟩) ?_ | refine wpF_valg (by rfl) (fun w' hE hD => by unfold Yld; go_simp; exact ⟨Ext.refl _, rfl⟩) ?_)
  (try simp only [Act.put, List.setIfInBounds_toArray, List.set_cons_zero, List.set_cons_succ])
  (first | refine wpF_val rfl (fun w' hE hD => by unfold Yld; go_simp; exact ⟨Ext.refl _, rfl⟩) ?_ | refine wpF_valg (by rfl) (fun w' hE hD => by unfold Yld; go_simp; exact ⟨Ext.refl _, rfl⟩) ?_)
  (try simp only [Act.put, List.setIfInBounds_toArray, List.set_cons_zero, List.set_cons_succ])
  (first | refine wpF_val rfl (fun w' hE hD => by unfold Yld; go_simp; exact ⟨Ext.refl _, rfl⟩) ?_ | refine wpF_valg (by rfl) (fun w' hE hD => by unfold Yld; go_simp; exact ⟨Ext.refl _, rfl⟩) ?_)
  (try simp only [Act.put, List.setIfInBounds_toArray, List.set_cons_zero, List.set_cons_succ])
  (first | refine wpF_val rfl (fun w' hE hD => by have hb1 := Ext.cell hE cb1; unfold Yld; go_simp; exact ⟨Ext.refl _, rfl⟩) ?_ | refine wpF_valg (by rfl) (fun w' hE hD => by have hb1 := Ext.cell hE cb1; unfold Yld; go_simp; exact ⟨Ext.refl _, rfl⟩) ?_)
  (try simp only [Act.put, List.setIfInBounds_toArray, List.set_cons_zero, List.set_cons_succ])
  (first | refine wpF_val rfl (fun w' hE hD => by unfold Yld; go_simp; exact ⟨Ext.refl _, rfl⟩) ?_ | refine wpF_valg (by rfl) (fun w' hE hD => by unfold Yld; go_simp; exact ⟨Ext.refl _, rfl⟩) ?_)
  (try simp only [Act.put, List.setIfInBounds_toArray, List.set_cons_zero, List.set_cons_succ])
  (first | refine wpF_val rfl (fun w' hE hD => by unfold Yld; go_simp; exact ⟨Ext.refl _, rfl⟩) ?_ | refine wpF_valg (by rfl) (fun w' hE hD => by unfold Yld; go_simp; exact ⟨Ext.refl _, rfl⟩) ?_)
  (try simp only [Act.put, List.setIfInBounds_toArray, List.set_cons_zero, List.set_cons_succ])
  (first | refine wpF_val rfl (fun w' hE hD => by unfold Yld; go_simp; exact ⟨Ext.refl _, rfl⟩) ?_ | refine wpF_valg (by rfl) (fun w' hE hD => by unfold Yld; go_simp; exact ⟨Ext.refl _, rfl⟩) ?_)
  (try simp only [Act.put, List.setIfInBounds_toArray, List.set_cons_zero, List.set_cons_succ])
  (first | refine wpF_val rfl (fun w' hE hD => by have hc0 := Ext.cell hE c0; unfold Yld; go_simp; exact ⟨Ext.refl _, rfl⟩) ?_ | refine wpF_valg (by rfl) (fun w' hE hD => by have hc0 := Ext.cell hE c0; unfold Yld; go_simp; exact ⟨Ext.refl _, rfl⟩) ?_)
  (try simp only [Act.put, List.setIfInBounds_toArray, List.set_cons_zero, List.set_cons_succ])
  (first | refine wpF_val rfl (fun w' hE hD => by unfold Yld; go_simp; exact ⟨Ext.refl _, rfl⟩) ?_ | refine wpF_valg (by rfl) (fun w' hE hD => by unfold Yld; go_simp; exact ⟨Ext.refl _, rfl⟩) ?_)
  (try simp only [Act.put, List.setIfInBounds_toArray, List.set_cons_zero, List.set_cons_succ])
  (first | refine wpF_val rfl (fun w' hE hD => by unfold Yld; go_simp; exact ⟨Ext.refl _, rfl⟩) ?_ | refine wpF_valg (by rfl) (fun w' hE hD => by unfold Yld; go_simp; exact ⟨Ext.refl _, rfl⟩) ?_)
  (try simp only [Act.put, List.setIfInBounds_toArray, List.set_cons_zero, List.set_cons_succ])
  (first | refine wpF_val rfl (fun w' hE hD => by unfold Yld; go_simp; exact ⟨Ext.refl _, rfl⟩) ?_ | refine wpF_valg (by rfl) (fun w' hE hD => by unfold Yld; go_simp; exact ⟨Ext.refl _, rfl⟩) ?_)
  (try simp only [Act.put, List.setIfInBounds_toArray, List.set_cons_zero, List.set_cons_succ])
  refine wpF_skip (by rfl) ?_
  (try simp only [Act.put, List.setIfInBounds_toArray, List.set_cons_zero, List.set_cons_succ])
  refine wpF_skip (by rfl) ?_
  (try simp only [Act.put, List.setIfInBounds_toArray, List.set_cons_zero, List.set_cons_succ])
  refine wpF_skip (by rfl) ?_
  (try simp only [Act.put, List.setIfInBounds_toArray, List.set_cons_zero, List.set_cons_succ])
  refine wpF_skip (by rfl) ?_
  (try simp only [Act.put, List.setIfInBounds_toArray, List.set_cons_zero, List.set_cons_succ])
  refine wpF_skip (by rfl) ?_
  (try simp only [Act.put, List.setIfInBounds_toArray, List.set_cons_zero, List.set_cons_succ])
  refine wpF_skip (by rfl) ?_
  (try simp only [Act.put, List.setIfInBounds_toArray, List.set_cons_zero, List.set_cons_succ])
  refine wpF_skip (by rfl) ?_
  (try simp only [Act.put, List.setIfInBounds_toArray, List.set_cons_zero, List.set_cons_succ])
  refine wpF_skip (by rfl) ?_
  (try simp only [Act.put, List.setIfInBounds_toArray, List.set_cons_zero, List.set_cons_succ])
  (first | refine wpF_val rfl (fun w' hE hD => by unfold Yld; go_simp; exact ⟨Ext.refl _, rfl⟩) ?_ | refine wpF_valg (by rfl) (fun w' hE hD => by unfold Yld; go_simp; exact ⟨Ext.refl _, rfl⟩) ?_)
  (try simp only [Act.put, List.setIfInBounds_toArray, List.set_cons_zero, List.set_cons_succ])
  (first | refine wpF_val rfl (fun w' hE hD => by unfold Yld; go_simp; exact ⟨Ext.refl _, rfl⟩) ?_ | refine wpF_valg (by rfl) (fun w' hE hD => by unfold Yld; go_simp; exact ⟨Ext.refl _, rfl⟩) ?_)
  (try simp only [Act.put, List.setIfInBounds_toArray, List.set_cons_zero, List.set_cons_succ])
  refine wpF_skip (by rfl) ?_
  (try simp only [Act.put, List.setIfInBounds_toArray, List.set_cons_zero, List.set_cons_succ])
  refine wpF_skip (by rfl) ?_
  (try simp only [Act.put, List.setIfInBounds_toArray, List.set_cons_zero, List.set_cons_succ])
  refine wpF_skip (by rfl) ?_
  (try simp only [Act.put, List.setIfInBounds_toArray, List.set_cons_zero, List.set_cons_succ])
  refine wpF_skip (by rfl) ?_
  (try simp only [Act.put, List.setIfInBounds_toArray, List.set_cons_zero, List.set_cons_succ])
  refine wpF_skip (by rfl) ?_
  (try simp only [Act.put, List.setIfInBounds_toArray, List.set_cons_zero, List.set_cons_succ])
  refine wpF_skip (by rfl) ?_
  (try simp only [Act.put, List.setIfInBounds_toArray, List.set_cons_zero, List.set_cons_succ])
  refine wpF_skip (by rfl) ?_
  (try simp only [Act.put, List.setIfInBounds_toArray, List.set_cons_zero, List.set_cons_succ])
  refine wpF_skip (by rfl) ?_
  (try simp only [Act.put, List.setIfInBounds_toArray, List.set_cons_zero, List.set_cons_succ])
  refine wpF_skip (by rfl) ?_
  (try simp only [Act.put, List.setIfInBounds_toArray, List.set_cons_zero, List.set_cons_succ])
  (first | refine wpF_val rfl (fun w' hE hD => by unfold Yld; go_simp; exact ⟨Ext.refl _, rfl⟩) ?_ | refine wpF_valg (by rfl) (fun w' hE hD => by unfold Yld; go_simp; exact ⟨Ext.refl _, rfl⟩) ?_)
  (try simp only [Act.put, List.setIfInBounds_toArray, List.set_cons_zero, List.set_cons_succ])
  refine wpF_nil fun w2 hE2 hA => ?_
  refine (show wpList _ _ _ [] _ _ from ?_)
  have HE2 := Aside0.mk (HE0.out.trans hE2)
  clear hE2 hA c0 cb0 cb1 cb2 HB HE0
  go_wp2
  go_ret
  exact ⟨rfl, HE2.out⟩
set_option maxRecDepth 100000 in
set_option maxHeartbeats 2000000 in
theorem mdo_w_len (h : MR w B bm n V L last) (k : Int) (A : Option Addr) (m c : Nat) (hk0 : 0 ≤ k) (hk1 : k < n) (hb : ¬ m = 32) : Calls Try.prog 20 #[.pointer (some ⟨bm, 0, none⟩), .agg #[.bool false, .int .i64 k, .slice A m c]] w fun e w' => e = .returned (.int .i64 1) ∧ Ext w w' := by
  have c0 := h.bl.cell 0 (v := .int .i64 (n : Int)) rfl
  have hE0 := (Ext.refl w).alloc (.cells #[.bool false, .int .i64 k, .slice A m c] 34)
  have HB := Aside0.mk (Blk.new w #[.bool false, .int .i64 k, .slice A m c] 34)
  have HE0 := Aside0.mk hE0
  replace c0 := Ext.cell hE0 c0
  obtain ⟨bx, hbx⟩ : ∃ bx, bx = w.heap.size := ⟨_, rfl⟩
  obtain ⟨w1, hw1⟩ : ∃ w1, w1 = w.alloc (.cells #[.bool false, .int .i64 k, .slice A m c] 34) := ⟨_, rfl⟩
  rw [← hbx] at HB
  rw [← hw1] at HB HE0 c0
  have HW1 := Aside0.mk hw1
  have HBX := Aside0.mk hbx
  have cb0 := HB.out.cell 0 (v := .bool false) rfl
  have cb1 := HB.out.cell 1 (v := .int .i64 k) rfl
  have cb2 := HB.out.cell 2 (v := .slice A m c) rfl
  clear h hE0 hbx hw1
  have hd0 : decide (k < 0) = false := decide_eq_false (by omega)
  have hd1 : decide ((n : Int) ≤ k) = false := decide_eq_false (by omega)
  have hml : ¬ (m : Int) = 32 := by omega
  have hmb : ((m : Int) == 32) = false := by simpa using hml
  clear hb
  go_enter Try.func20, Try.ntmps20
  go_wp2_with fail
  rw [← HW1.out, ← HBX.out]
  apply wp_region_facts 33 [RF.val _, RF.val _, RF.val _, RF.val _, RF.val _, RF.val _, RF.val _, RF.val _, RF.val _, RF.val _, RF.val _, RF.val _, RF.val _, RF.val _, RF.val _, RF.val _, RF.val _, RF.val _, RF.val _, RF.val _, RF.val _, RF.val _, RF.val _, RF.val _, RF.val _, RF.val _, RF.val _, RF.val _, RF.val _, RF.val _, RF.val _, RF.val _, RF.val _]
  case hm => kernel_rfl
  case hB => kernel_rfl
  simp only [List.take_succ_cons, List.take_zero, List.zip_cons_cons, List.zip_nil_left]
  (first | refine wpF_val rfl (fun w' hE hD => by unfold Yld; go_simp; exact ⟨Ext.refl _, rfl⟩) ?_ | refine wpF_valg (by rfl) (fun w' hE hD => by unfold Yld; go_simp; exact ⟨Ext.refl _, rfl⟩) ?_)
  (try simp only [Act.put, List.setIfInBounds_toArray, List.set_cons_zero, List.set_cons_succ])
  (first | refine wpF_val rfl (fun w' hE hD => by have hb1 := Ext.cell hE cb1; unfold Yld; go_simp; exact ⟨Ext.refl _, rfl⟩) ?_ | refine wpF_valg (by rfl) (fun w' hE hD => by have hb1 := Ext.cell hE cb1; unfold Yld; go_simp; exact ⟨Ext.refl _, rfl⟩) ?_)
  (try simp only [Act.put, List.setIfInBounds_toArray, List.set_cons_zero, List.set_cons_succ])
  (first | refine wpF_val rfl (fun w' hE hD => by unfold Yld; go_simp; exact ⟨Ext.refl _, rfl⟩) ?_ | refine wpF_valg (by rfl) (fun w' hE hD => by unfold Yld; go_simp; exact ⟨Ext.refl _, rfl⟩) ?_)
  (try simp only [Act.put, List.setIfInBounds_toArray, List.set_cons_zero, List.set_cons_succ])
  (first | refine wpF_val rfl (fun w' hE hD => by unfold Yld; go_simp; exact ⟨Ext.refl _, rfl⟩) ?_ | refine wpF_valg (by rfl) (fun w' hE hD => by unfold Yld; go_simp; exact ⟨Ext.refl _, rfl⟩) ?_)
  (try simp only [Act.put, List.setIfInBounds_toArray, List.set_cons_zero, List.set_cons_succ])
  (first | refine wpF_val rfl (fun w' hE hD => by unfold Yld; go_simp; exact ⟨Ext.refl _, rfl⟩) ?_ | refine wpF_valg (by rfl) (fun w' hE hD => by unfold Yld; go_simp; exact ⟨Ext.refl _, rfl⟩) ?_)
  (try simp only [Act.put, List.setIfInBounds_toArray, List.set_cons_zero, List.set_cons_succ])
  (first | refine wpF_val rfl (fun w' hE hD => by have hb1 := Ext.cell hE cb1; unfold Yld; go_simp; exact ⟨Ext.refl _, rfl⟩) ?_ | refine wpF_valg (by rfl) (fun w' hE hD => by have hb1 := Ext.cell hE cb1; unfold Yld; go_simp; exact ⟨Ext.refl _, rfl⟩) ?_)
  (try simp only [Act.put, List.setIfInBounds_toArray, List.set_cons_zero, List.set_cons_succ])
  (first | refine wpF_val rfl (fun w' hE hD => by unfold Yld; go_simp; exact ⟨Ext.refl _, rfl⟩) ?_ | refine wpF_valg (by rfl) (fun w' hE hD => by unfold Yld; go_simp; exact ⟨Ext.refl _, rfl⟩) ?_)
  (try simp only [Act.put, List.setIfInBounds_toArray, List.set_cons_zero, List.set_cons_succ])
  (first | refine wpF_val rfl (fun w' hE hD => by unfold Yld; go_simp; exact ⟨Ext.refl _, rfl⟩) ?_ | refine wpF_valg (by rfl) (fun w' hE hD => by unfold Yld; go_simp; exact ⟨Ext.refl _, rfl⟩) ?_)
  (try simp only [Act.put, List.setIfInBounds_toArray, List.set_cons_zero, List.set_cons_succ])
  (first | refine wpF_val rfl (fun w' hE hD => by unfold Yld; go_simp; exact ⟨Ext.refl _, rfl⟩) ?_ | refine wpF_valg (by rfl) (fun w' hE hD => by unfold Yld; go_simp; exact ⟨Ext.refl _, rfl⟩) ?_)
  (try simp only [Act.put, List.setIfInBounds_toArray, List.set_cons_zero, List.set_cons_succ])
  (first | refine wpF_val rfl (fun w' hE hD => by have hc0 := Ext.cell hE c0; unfold Yld; go_simp; exact ⟨Ext.refl _, rfl⟩) ?_ | refine wpF_valg (by rfl) (fun w' hE hD => by have hc0 := Ext.cell hE c0; unfold Yld; go_simp; exact ⟨Ext.refl _, rfl⟩) ?_)
  (try simp only [Act.put, List.setIfInBounds_toArray, List.set_cons_zero, List.set_cons_succ])
  (first | refine wpF_val rfl (fun w' hE hD => by unfold Yld; go_simp; exact ⟨Ext.refl _, rfl⟩) ?_ | refine wpF_valg (by rfl) (fun w' hE hD => by unfold Yld; go_simp; exact ⟨Ext.refl _, rfl⟩) ?_)
  (try simp only [Act.put, List.setIfInBounds_toArray, List.set_cons_zero, List.set_cons_succ])
  (first | refine wpF_val rfl (fun w' hE hD => by unfold Yld; go_simp; exact ⟨Ext.refl _, rfl⟩) ?_ | refine wpF_valg (by rfl) (fun w' hE hD => by unfold Yld; go_simp; exact ⟨Ext.refl _, rfl⟩) ?_)
  (try simp only [Act.put, List.setIfInBounds_toArray, List.set_cons_zero, List.set_cons_succ])
  (first | refine wpF_val rfl (fun w' hE hD => by unfold Yld; go_simp; exact ⟨Ext.refl _, rfl⟩) ?_ | refine wpF_valg (by rfl) (fun w' hE hD => by unfold Yld; go_simp; exact ⟨Ext.refl _, rfl⟩) ?_)
  (try simp only [Act.put, List.setIfInBounds_toArray, List.set_cons_zero, List.set_cons_succ])
  (first | refine wpF_val rfl (fun w' hE hD => by unfold Yld; go_simp; exact ⟨Ext.refl _, rfl⟩) ?_ | refine wpF_valg (by rfl) (fun w' hE hD => by unfold Yld; go_simp; exact ⟨Ext.refl _, rfl⟩) ?_)
  (try simp only [Act.put, List.setIfInBounds_toArray, List.set_cons_zero, List.set_cons_succ])
  (first | refine wpF_val rfl (fun w' hE hD => by have hb0 := Ext.cell hE cb0; unfold Yld; go_simp; exact ⟨Ext.refl _, rfl⟩) ?_ | refine wpF_valg (by rfl) (fun w' hE hD => by have hb0 := Ext.cell hE cb0; unfold Yld; go_simp; exact ⟨Ext.refl _, rfl⟩) ?_)
  (try simp only [Act.put, List.setIfInBounds_toArray, List.set_cons_zero, List.set_cons_succ])
  (first | refine wpF_val rfl (fun w' hE hD => by unfold Yld; go_simp; exact ⟨Ext.refl _, rfl⟩) ?_ | refine wpF_valg (by rfl) (fun w' hE hD => by unfold Yld; go_simp; exact ⟨Ext.refl _, rfl⟩) ?_)
  (try simp only [Act.put, List.setIfInBounds_toArray, List.set_cons_zero, List.set_cons_succ])
  refine wpF_skip (by rfl) ?_
  (try simp only [Act.put, List.setIfInBounds_toArray, List.set_cons_zero, List.set_cons_succ])
  refine wpF_skip (by rfl) ?_
  (try simp only [Act.put, List.setIfInBounds_toArray, List.set_cons_zero, List.set_cons_succ])
  refine wpF_skip (by rfl) ?_
  (try simp only [Act.put, List.setIfInBounds_toArray, List.set_cons_zero, List.set_cons_succ])
  refine wpF_skip (by rfl) ?_
  (try simp only [Act.put, List.setIfInBounds_toArray, List.set_cons_zero, List.set_cons_succ])
  (first | refine wpF_val rfl (fun w' hE hD => by unfold Yld; go_simp; exact ⟨Ext.refl _, rfl⟩) ?_ | refine wpF_valg (by rfl) (fun w' hE hD => by unfold Yld; go_simp; exact ⟨Ext.refl _, rfl⟩) ?_)
  (try simp only [Act.put, List.setIfInBounds_toArray, List.set_cons_zero, List.set_cons_succ])
  (first | refine wpF_val rfl (fun w' hE hD => by unfold Yld; go_simp; exact ⟨Ext.refl _, rfl⟩) ?_ | refine wpF_valg (by rfl) (fun w' hE hD => by unfold Yld; go_simp; exact ⟨Ext.refl _, rfl⟩) ?_)
  (try simp only [Act.put, List.setIfInBounds_toArray, List.set_cons_zero, List.set_cons_succ])
  (first | refine wpF_val rfl (fun w' hE hD => by unfold Yld; go_simp; exact ⟨Ext.refl _, rfl⟩) ?_ | refine wpF_valg (by rfl) (fun w' hE hD => by unfold Yld; go_simp; exact ⟨Ext.refl _, rfl⟩) ?_)
  (try simp only [Act.put, List.setIfInBounds_toArray, List.set_cons_zero, List.set_cons_succ])
  (first | refine wpF_val rfl (fun w' hE hD => by unfold Yld; go_simp; exact ⟨Ext.refl _, rfl⟩) ?_ | refine wpF_valg (by rfl) (fun w' hE hD => by unfold Yld; go_simp; exact ⟨Ext.refl _, rfl⟩) ?_)
  (try simp only [Act.put, List.setIfInBounds_toArray, List.set_cons_zero, List.set_cons_succ])
  (first | refine wpF_val rfl (fun w' hE hD => by have hb0 := Ext.cell hE cb0; unfold Yld; go_simp; exact ⟨Ext.refl _, rfl⟩) ?_ | refine wpF_valg (by rfl) (fun w' hE hD => by have hb0 := Ext.cell hE cb0; unfold Yld; go_simp; exact ⟨Ext.refl _, rfl⟩) ?_)
  (try simp only [Act.put, List.setIfInBounds_toArray, List.set_cons_zero, List.set_cons_succ])
  (first | refine wpF_val rfl (fun w' hE hD => by unfold Yld; go_simp; exact ⟨Ext.refl _, rfl⟩) ?_ | refine wpF_valg (by rfl) (fun w' hE hD => by unfold Yld; go_simp; exact ⟨Ext.refl _, rfl⟩) ?_)
  (try simp only [Act.put, List.setIfInBounds_toArray, List.set_cons_zero, List.set_cons_succ])
  (first | refine wpF_val rfl (fun w' hE hD => by unfold Yld; go_simp; exact ⟨Ext.refl _, rfl⟩) ?_ | refine wpF_valg (by rfl) (fun w' hE hD => by unfold Yld; go_simp; exact ⟨Ext.refl _, rfl⟩) ?_)
  (try simp only [Act.put, List.setIfInBounds_toArray, List.set_cons_zero, List.set_cons_succ])
  (first | refine wpF_val rfl (fun w' hE hD => by unfold Yld; go_simp; exact ⟨Ext.refl _, rfl⟩) ?_ | refine wpF_valg (by rfl) (fun w' hE hD => by unfold Yld; go_simp; exact ⟨Ext.refl _, rfl⟩) ?_)
  (try simp only [Act.put, List.setIfInBounds_toArray, List.set_cons_zero, List.set_cons_succ])
  (first | refine wpF_val rfl (fun w' hE hD => by have hb2 := Ext.cell hE cb2; unfold Yld; go_simp; exact ⟨Ext.refl _, rfl⟩) ?_ | refine wpF_valg (by rfl) (fun w' hE hD => by have hb2 := Ext.cell hE cb2; unfold Yld; go_simp; exact ⟨Ext.refl _, rfl⟩) ?_)
  (try simp only [Act.put, List.setIfInBounds_toArray, List.set_cons_zero, List.set_cons_succ])
  (first | refine wpF_val rfl (fun w' hE hD => by unfold Yld; go_simp; exact ⟨Ext.refl _, rfl⟩) ?_ | refine wpF_valg (by rfl) (fun w' hE hD => by unfold Yld; go_simp; exact ⟨Ext.refl _, rfl⟩) ?_)
  (try simp only [Act.put, List.setIfInBounds_toArray, List.set_cons_zero, List.set_cons_succ])
  (first | refine wpF_val rfl (fun w' hE hD => by unfold Yld; go_simp; exact ⟨Ext.refl _, rfl⟩) ?_ | refine wpF_valg (by rfl) (fun w' hE hD => by unfold Yld; go_simp; exact ⟨Ext.refl _, rfl⟩) ?_)
  (try simp only [Act.put, List.setIfInBounds_toArray, List.set_cons_zero, List.set_cons_succ])
  (first | refine wpF_val rfl (fun w' hE hD => by unfold Yld; go_simp; exact ⟨Ext.refl _, rfl⟩) ?_ | refine wpF_valg (by rfl) (fun w' hE hD => by unfold Yld; go_simp; exact ⟨Ext.refl _, rfl⟩) ?_)
  (try simp only [Act.put, List.setIfInBounds_toArray, List.set_cons_zero, List.set_cons_succ])
  (first | refine wpF_val rfl (fun w' hE hD => by unfold Yld; go_simp; exact ⟨Ext.refl _, rfl⟩) ?_ | refine wpF_valg (by rfl) (fun w' hE hD => by unfold Yld; go_simp; exact ⟨Ext.refl _, rfl⟩) ?_)
  (try simp only [Act.put, List.setIfInBounds_toArray, List.set_cons_zero, List.set_cons_succ])
  refine wpF_nil fun w2 hE2 hA => ?_
  refine (show wpList _ _ _ [] _ _ from ?_)
  have HE2 := Aside0.mk (HE0.out.trans hE2)
  clear hE2 hA c0 cb0 cb1 cb2 HB HE0
  go_wp2
  go_ret
  exact ⟨rfl, HE2.out⟩
/-- A change that may not be. -/
theorem m_do_bad (h : MR w B bm n V L last) (trim : Bool) (k : Int) (A : Option Addr) (m c : Nat) (hb : k < 0 ∨ (n : Int) ≤ k ∨ ¬ m = if trim = true then 0 else 32) :
    Calls Try.prog 20 #[.pointer (some ⟨bm, 0, none⟩), .agg #[.bool trim, .int .i64 k, .slice A m c]] w fun e w' => e = .returned (.int .i64 1) ∧ Ext w w' := by
  by_cases h0 : k < 0
  · cases trim with
    | true => exact mdo_t_neg h k A m c h0
    | false => exact mdo_w_neg h k A m c h0
  · by_cases h1 : (n : Int) ≤ k
    · cases trim with
      | true => exact mdo_t_ge h k A m c (by omega) h1
      | false => exact mdo_w_ge h k A m c (by omega) h1
    · have h2 : ¬ m = if trim = true then 0 else 32 := by
        rcases hb with hb | hb | hb
        · exact absurd hb h0
        · exact absurd hb h1
        · exact hb
      cases trim with
      | true => exact mdo_t_len h k A m c (by omega) (by omega) (by simpa using h2)
      | false => exact mdo_w_len h k A m c (by omega) (by omega) (by simpa using h2)
set_option maxRecDepth 100000 in
set_option maxHeartbeats 2000000 in
theorem mdo_t_ok (h : MR w B bm n V L last) (hll : L.length ≤ 800) {w0 : World} (he0 : Ext w0 w) (hB : w0.heap.size ≤ B) (k : Nat) (hk : k < n) (A : Option Addr) (c : Nat) (xs : List Int) (hx : xs.length = 0) (hr : Kd.C kb w0 A 0 xs) (hc : 0 ≤ c) (hBw : B ≤ w.heap.size) :
    Calls Try.prog 20 #[.pointer (some ⟨bm, 0, none⟩), .agg #[.bool true, .int .i64 (k : Int), .slice A 0 c]] w fun e w' => ∃ V' ds s, e = .returned (.int .i64 0) ∧ MR w' B bm n V' (L ++ [(true, (k : Int), z32)]) last ∧ Chg w w' (Ast bm V) ∧ OwnQ V w.heap.size V' ∧ RD w B V ds ∧ RD w' B V' (ds ++ [(true, (k : Int), s)]) ∧ ∀ j, (slV s).ownBlock = some j → w.heap.size ≤ j := by
  obtain ⟨nl, hnl⟩ : ∃ nl, nl = L.length := ⟨_, rfl⟩
  obtain ⟨AV, cV, eV, hcV⟩ := h.dn.nat hnl
  subst eV
  obtain ⟨V, hVN⟩ : ∃ V, V = Value.slice AV nl cV := ⟨_, rfl⟩
  rw [← hVN] at h ⊢
  have c0 := h.bl.cell 0 (v := .int .i64 (n : Int)) rfl
  have hE0 := (Ext.refl w).alloc (.cells #[.bool true, .int .i64 (k : Int), .slice A 0 c] 34)
  have HB := Aside0.mk (Blk.new w #[.bool true, .int .i64 (k : Int), .slice A 0 c] 34)
  have HE0 := Aside0.mk hE0
  replace c0 := Ext.cell hE0 c0
  obtain ⟨bx, hbx⟩ : ∃ bx, bx = w.heap.size := ⟨_, rfl⟩
  obtain ⟨w1, hw1⟩ : ∃ w1, w1 = w.alloc (.cells #[.bool true, .int .i64 (k : Int), .slice A 0 c] 34) := ⟨_, rfl⟩
  rw [← hbx] at HB
  rw [← hw1] at HB HE0 c0
  have HW1 := Aside0.mk hw1
  have HBX := Aside0.mk hbx
  have cb0 := HB.out.cell 0 (v := .bool true) rfl
  have cb1 := HB.out.cell 1 (v := .int .i64 (k : Int)) rfl
  have cb2 := HB.out.cell 2 (v := .slice A 0 c) rfl
  have HM := Aside0.mk (h.ext HE0.out)
  have HH := Aside0.mk h
  have HVN := Aside0.mk hVN
  have HR := Aside0.mk (And.intro hr (And.intro he0 hB))
  have HLL := Aside0.mk hll
  have HK := Aside0.mk hk
  have HX := Aside0.mk hx
  have HBW := Aside0.mk hBw
  clear h hE0 hbx hw1 hVN hr he0 hB hll hnl hcV hx hBw
  have hd0 : decide ((k : Int) < 0) = false := decide_eq_false (by omega)
  have hd1 : decide ((n : Int) ≤ (k : Int)) = false := decide_eq_false (by omega)
  have hkn : k < n := hk
  have hd2 : decide (n ≤ k) = false := decide_eq_false (by omega)
  clear hk
  go_enter Try.func20, Try.ntmps20
  go_wp2_with fail
  rw [← HW1.out, ← HBX.out]
  apply wp_region_facts 33 [RF.val _, RF.val _, RF.val _, RF.val _, RF.val _, RF.val _, RF.val _, RF.val _, RF.val _, RF.val _, RF.val _, RF.val _, RF.val _, RF.val _, RF.val _, RF.val _, RF.val _, RF.val _, RF.val _, RF.val _, RF.val _, RF.val _, RF.val _, RF.val _, RF.val _, RF.val _, RF.val _, RF.val _, RF.val _, RF.val _, RF.val _, RF.val _, RF.val _]
  case hm => kernel_rfl
  case hB => kernel_rfl
  simp only [List.take_succ_cons, List.take_zero, List.zip_cons_cons, List.zip_nil_left]
  (first | refine wpF_val rfl (fun w' hE hD => by unfold Yld; go_simp; exact ⟨Ext.refl _, rfl⟩) ?_ | refine wpF_valg (by rfl) (fun w' hE hD => by unfold Yld; go_simp; exact ⟨Ext.refl _, rfl⟩) ?_)
  (try simp only [Act.put, List.setIfInBounds_toArray, List.set_cons_zero, List.set_cons_succ])
  (first | refine wpF_val rfl (fun w' hE hD => by have hb1 := Ext.cell hE cb1; unfold Yld; go_simp; exact ⟨Ext.refl _, rfl⟩) ?_ | refine wpF_valg (by rfl) (fun w' hE hD => by have hb1 := Ext.cell hE cb1; unfold Yld; go_simp; exact ⟨Ext.refl _, rfl⟩) ?_)
  (try simp only [Act.put, List.setIfInBounds_toArray, List.set_cons_zero, List.set_cons_succ])
  (first | refine wpF_val rfl (fun w' hE hD => by unfold Yld; go_simp; exact ⟨Ext.refl _, rfl⟩) ?_ | refine wpF_valg (by rfl) (fun w' hE hD => by unfold Yld; go_simp; exact ⟨Ext.refl _, rfl⟩) ?_)
  (try simp only [Act.put, List.setIfInBounds_toArray, List.set_cons_zero, List.set_cons_succ])
  (first | refine wpF_val rfl (fun w' hE hD => by unfold Yld; go_simp; exact ⟨Ext.refl _, rfl⟩) ?_ | refine wpF_valg (by rfl) (fun w' hE hD => by unfold Yld; go_simp; exact ⟨Ext.refl _, rfl⟩) ?_)
  (try simp only [Act.put, List.setIfInBounds_toArray, List.set_cons_zero, List.set_cons_succ])
  (first | refine wpF_val rfl (fun w' hE hD => by unfold Yld; go_simp; exact ⟨Ext.refl _, rfl⟩) ?_ | refine wpF_valg (by rfl) (fun w' hE hD => by unfold Yld; go_simp; exact ⟨Ext.refl _, rfl⟩) ?_)
  (try simp only [Act.put, List.setIfInBounds_toArray, List.set_cons_zero, List.set_cons_succ])
  (first | refine wpF_val rfl (fun w' hE hD => by have hb1 := Ext.cell hE cb1; unfold Yld; go_simp; exact ⟨Ext.refl _, rfl⟩) ?_ | refine wpF_valg (by rfl) (fun w' hE hD => by have hb1 := Ext.cell hE cb1; unfold Yld; go_simp; exact ⟨Ext.refl _, rfl⟩) ?_)
  (try simp only [Act.put, List.setIfInBounds_toArray, List.set_cons_zero, List.set_cons_succ])
  (first | refine wpF_val rfl (fun w' hE hD => by unfold Yld; go_simp; exact ⟨Ext.refl _, rfl⟩) ?_ | refine wpF_valg (by rfl) (fun w' hE hD => by unfold Yld; go_simp; exact ⟨Ext.refl _, rfl⟩) ?_)
  (try simp only [Act.put, List.setIfInBounds_toArray, List.set_cons_zero, List.set_cons_succ])
  (first | refine wpF_val rfl (fun w' hE hD => by unfold Yld; go_simp; exact ⟨Ext.refl _, rfl⟩) ?_ | refine wpF_valg (by rfl) (fun w' hE hD => by unfold Yld; go_simp; exact ⟨Ext.refl _, rfl⟩) ?_)
  (try simp only [Act.put, List.setIfInBounds_toArray, List.set_cons_zero, List.set_cons_succ])
  (first | refine wpF_val rfl (fun w' hE hD => by unfold Yld; go_simp; exact ⟨Ext.refl _, rfl⟩) ?_ | refine wpF_valg (by rfl) (fun w' hE hD => by unfold Yld; go_simp; exact ⟨Ext.refl _, rfl⟩) ?_)
  (try simp only [Act.put, List.setIfInBounds_toArray, List.set_cons_zero, List.set_cons_succ])
  (first | refine wpF_val rfl (fun w' hE hD => by have hc0 := Ext.cell hE c0; unfold Yld; go_simp; exact ⟨Ext.refl _, rfl⟩) ?_ | refine wpF_valg (by rfl) (fun w' hE hD => by have hc0 := Ext.cell hE c0; unfold Yld; go_simp; exact ⟨Ext.refl _, rfl⟩) ?_)
  (try simp only [Act.put, List.setIfInBounds_toArray, List.set_cons_zero, List.set_cons_succ])
  (first | refine wpF_val rfl (fun w' hE hD => by unfold Yld; go_simp; exact ⟨Ext.refl _, rfl⟩) ?_ | refine wpF_valg (by rfl) (fun w' hE hD => by unfold Yld; go_simp; exact ⟨Ext.refl _, rfl⟩) ?_)
  (try simp only [Act.put, List.setIfInBounds_toArray, List.set_cons_zero, List.set_cons_succ])
  (first | refine wpF_val rfl (fun w' hE hD => by unfold Yld; go_simp; exact ⟨Ext.refl _, rfl⟩) ?_ | refine wpF_valg (by rfl) (fun w' hE hD => by unfold Yld; go_simp; exact ⟨Ext.refl _, rfl⟩) ?_)
  (try simp only [Act.put, List.setIfInBounds_toArray, List.set_cons_zero, List.set_cons_succ])
  (first | refine wpF_val rfl (fun w' hE hD => by unfold Yld; go_simp; exact ⟨Ext.refl _, rfl⟩) ?_ | refine wpF_valg (by rfl) (fun w' hE hD => by unfold Yld; go_simp; exact ⟨Ext.refl _, rfl⟩) ?_)
  (try simp only [Act.put, List.setIfInBounds_toArray, List.set_cons_zero, List.set_cons_succ])
  (first | refine wpF_val rfl (fun w' hE hD => by unfold Yld; go_simp; exact ⟨Ext.refl _, rfl⟩) ?_ | refine wpF_valg (by rfl) (fun w' hE hD => by unfold Yld; go_simp; exact ⟨Ext.refl _, rfl⟩) ?_)
  (try simp only [Act.put, List.setIfInBounds_toArray, List.set_cons_zero, List.set_cons_succ])
  (first | refine wpF_val rfl (fun w' hE hD => by have hb0 := Ext.cell hE cb0; unfold Yld; go_simp; exact ⟨Ext.refl _, rfl⟩) ?_ | refine wpF_valg (by rfl) (fun w' hE hD => by have hb0 := Ext.cell hE cb0; unfold Yld; go_simp; exact ⟨Ext.refl _, rfl⟩) ?_)
  (try simp only [Act.put, List.setIfInBounds_toArray, List.set_cons_zero, List.set_cons_succ])
  (first | refine wpF_val rfl (fun w' hE hD => by unfold Yld; go_simp; exact ⟨Ext.refl _, rfl⟩) ?_ | refine wpF_valg (by rfl) (fun w' hE hD => by unfold Yld; go_simp; exact ⟨Ext.refl _, rfl⟩) ?_)
  (try simp only [Act.put, List.setIfInBounds_toArray, List.set_cons_zero, List.set_cons_succ])
  (first | refine wpF_val rfl (fun w' hE hD => by unfold Yld; go_simp; exact ⟨Ext.refl _, rfl⟩) ?_ | refine wpF_valg (by rfl) (fun w' hE hD => by unfold Yld; go_simp; exact ⟨Ext.refl _, rfl⟩) ?_)
  (try simp only [Act.put, List.setIfInBounds_toArray, List.set_cons_zero, List.set_cons_succ])
  (first | refine wpF_val rfl (fun w' hE hD => by have hb2 := Ext.cell hE cb2; unfold Yld; go_simp; exact ⟨Ext.refl _, rfl⟩) ?_ | refine wpF_valg (by rfl) (fun w' hE hD => by have hb2 := Ext.cell hE cb2; unfold Yld; go_simp; exact ⟨Ext.refl _, rfl⟩) ?_)
  (try simp only [Act.put, List.setIfInBounds_toArray, List.set_cons_zero, List.set_cons_succ])
  (first | refine wpF_val rfl (fun w' hE hD => by unfold Yld; go_simp; exact ⟨Ext.refl _, rfl⟩) ?_ | refine wpF_valg (by rfl) (fun w' hE hD => by unfold Yld; go_simp; exact ⟨Ext.refl _, rfl⟩) ?_)
  (try simp only [Act.put, List.setIfInBounds_toArray, List.set_cons_zero, List.set_cons_succ])
  (first | refine wpF_val rfl (fun w' hE hD => by unfold Yld; go_simp; exact ⟨Ext.refl _, rfl⟩) ?_ | refine wpF_valg (by rfl) (fun w' hE hD => by unfold Yld; go_simp; exact ⟨Ext.refl _, rfl⟩) ?_)
  (try simp only [Act.put, List.setIfInBounds_toArray, List.set_cons_zero, List.set_cons_succ])
  (first | refine wpF_val rfl (fun w' hE hD => by unfold Yld; go_simp; exact ⟨Ext.refl _, rfl⟩) ?_ | refine wpF_valg (by rfl) (fun w' hE hD => by unfold Yld; go_simp; exact ⟨Ext.refl _, rfl⟩) ?_)
  (try simp only [Act.put, List.setIfInBounds_toArray, List.set_cons_zero, List.set_cons_succ])
  (first | refine wpF_val rfl (fun w' hE hD => by unfold Yld; go_simp; exact ⟨Ext.refl _, rfl⟩) ?_ | refine wpF_valg (by rfl) (fun w' hE hD => by unfold Yld; go_simp; exact ⟨Ext.refl _, rfl⟩) ?_)
  (try simp only [Act.put, List.setIfInBounds_toArray, List.set_cons_zero, List.set_cons_succ])
  (first | refine wpF_val rfl (fun w' hE hD => by unfold Yld; go_simp; exact ⟨Ext.refl _, rfl⟩) ?_ | refine wpF_valg (by rfl) (fun w' hE hD => by unfold Yld; go_simp; exact ⟨Ext.refl _, rfl⟩) ?_)
  (try simp only [Act.put, List.setIfInBounds_toArray, List.set_cons_zero, List.set_cons_succ])
  (first | refine wpF_val rfl (fun w' hE hD => by unfold Yld; go_simp; exact ⟨Ext.refl _, rfl⟩) ?_ | refine wpF_valg (by rfl) (fun w' hE hD => by unfold Yld; go_simp; exact ⟨Ext.refl _, rfl⟩) ?_)
  (try simp only [Act.put, List.setIfInBounds_toArray, List.set_cons_zero, List.set_cons_succ])
  (first | refine wpF_val rfl (fun w' hE hD => by have hb0 := Ext.cell hE cb0; unfold Yld; go_simp; exact ⟨Ext.refl _, rfl⟩) ?_ | refine wpF_valg (by rfl) (fun w' hE hD => by have hb0 := Ext.cell hE cb0; unfold Yld; go_simp; exact ⟨Ext.refl _, rfl⟩) ?_)
  (try simp only [Act.put, List.setIfInBounds_toArray, List.set_cons_zero, List.set_cons_succ])
  (first | refine wpF_val rfl (fun w' hE hD => by unfold Yld; go_simp; exact ⟨Ext.refl _, rfl⟩) ?_ | refine wpF_valg (by rfl) (fun w' hE hD => by unfold Yld; go_simp; exact ⟨Ext.refl _, rfl⟩) ?_)
  (try simp only [Act.put, List.setIfInBounds_toArray, List.set_cons_zero, List.set_cons_succ])
  (first | refine wpF_val rfl (fun w' hE hD => by unfold Yld; go_simp; exact ⟨Ext.refl _, rfl⟩) ?_ | refine wpF_valg (by rfl) (fun w' hE hD => by unfold Yld; go_simp; exact ⟨Ext.refl _, rfl⟩) ?_)
  (try simp only [Act.put, List.setIfInBounds_toArray, List.set_cons_zero, List.set_cons_succ])
  refine wpF_skip (by rfl) ?_
  (try simp only [Act.put, List.setIfInBounds_toArray, List.set_cons_zero, List.set_cons_succ])
  refine wpF_skip (by rfl) ?_
  (try simp only [Act.put, List.setIfInBounds_toArray, List.set_cons_zero, List.set_cons_succ])
  refine wpF_skip (by rfl) ?_
  (try simp only [Act.put, List.setIfInBounds_toArray, List.set_cons_zero, List.set_cons_succ])
  refine wpF_skip (by rfl) ?_
  (try simp only [Act.put, List.setIfInBounds_toArray, List.set_cons_zero, List.set_cons_succ])
  (first | refine wpF_val rfl (fun w' hE hD => by unfold Yld; go_simp; exact ⟨Ext.refl _, rfl⟩) ?_ | refine wpF_valg (by rfl) (fun w' hE hD => by unfold Yld; go_simp; exact ⟨Ext.refl _, rfl⟩) ?_)
  (try simp only [Act.put, List.setIfInBounds_toArray, List.set_cons_zero, List.set_cons_succ])
  (first | refine wpF_val rfl (fun w' hE hD => by unfold Yld; go_simp; exact ⟨Ext.refl _, rfl⟩) ?_ | refine wpF_valg (by rfl) (fun w' hE hD => by unfold Yld; go_simp; exact ⟨Ext.refl _, rfl⟩) ?_)
  (try simp only [Act.put, List.setIfInBounds_toArray, List.set_cons_zero, List.set_cons_succ])
  refine wpF_nil fun w2 hE2 hA => ?_
  refine (show wpList _ _ _ [] _ _ from ?_)
  have HE2 := Aside0.mk (HE0.out.trans hE2)
  have HM2 := Aside0.mk (HM.out.ext hE2)
  have HB2 := Aside0.mk (HB.out.ext hE2)
  clear hE2 hA c0 cb0 cb1 cb2 HB HE0 HM
  go_wp2_with fail
  obtain ⟨N, hN⟩ : ∃ N, N = w2.heap.size := ⟨_, rfl⟩
  obtain ⟨ds, hd0, hd2, hd3'⟩ : ∃ ds, RD w B V ds ∧ ds.length = L.length ∧ ∀ (i : Nat) d c, ds[i]? = some d → L[i]? = some c → DE w B d c := HH.out.dn
  have hd1 : RD w2 B V ds := Kd.R_below hd0 HE2.out
  have hd3 := fun i d c q1 q2 => (hd3' i d c q1 q2).ext HE2.out
  have HD0 := Aside0.mk hd0
  have HNV := Aside0.mk (show ∀ j, V.ownBlock = some j → j ≠ bm ∧ j ≠ bx ∧ w0.heap.size ≤ j ∧ j < N from fun j hj => by
    have hlt := Kd.R_lt (HH.out.dn.choose_spec.1) j hj
    refine ⟨fun e => ?_, ?_, Nat.le_trans HR.out.2.2 (HH.out.bb j (.inr hj)), ?_⟩
    · obtain ⟨cells, e2⟩ := HH.out.dn.typed j hj
      rw [e, HH.out.bl.is] at e2
      injection e2 with e2
      injection e2 with _ e2
      cases e2
    · have := HBX.out
      omega
    · have := HE2.out.size
      omega)
  have HN := Aside0.mk (show w.heap.size ≤ N ∧ N = w2.heap.size from ⟨by rw [hN]; exact HE2.out.size, hN⟩)
  have HDS := Aside0.mk (And.intro hd1 (And.intro hd2 hd3))
  have HL1 := Aside0.mk (show (ds.length + 1) * 40 ≤ 140737488355328 from by have := HLL.out; omega)
  clear hN hd1 hd2 hd3 hd0 hd3'
  apply wp_region_G 15 14 (fun a b' => Chg a b' (fun j => V.ownBlock = some j)) (fun a b h => Chg.of_ext h _) (fun a b c h k => h.trans k) [GF.val _, GF.val _, GF.val _, GF.val _, GF.val _, GF.val _, GF.val _, GF.val _, GF.val _, GF.val _, GF.val _, GF.fact true (fun u w' => NB w' N u xs), GF.fact true (fun u w' => ∃ s, u = .agg #[.bool true, .int .i64 (k : Int), slV s] ∧ NB w' N (slV s) xs), GF.fact true (fun u w' => ∃ b s, u = .slice (some ⟨b, 0, none⟩) 1 1 ∧ N ≤ b ∧ Blk w' b (dL (true, (k : Int), s)).toArray 34 ∧ NB w' N (slV s) xs), GF.fact true (fun u w' => ∃ s, RD w' B u (ds ++ [(true, (k : Int), s)]) ∧ OwnQ V w.heap.size u ∧ NB w' N (slV s) xs)]
  case hm => kernel_rfl
  case hB => kernel_rfl
  simp only [List.take_succ_cons, List.take_zero, List.zip_cons_cons, List.zip_nil_left]
  refine wpG_val (by rfl) (by decide) (fun w' hE hD => by unfold YldG; go_simp; exact ⟨Ext.refl _, rfl⟩) ?_
  (try simp only [Act.put, List.setIfInBounds_toArray, List.set_cons_zero, List.set_cons_succ])
  refine wpG_val (by rfl) (by decide) (fun w' hE hD => by unfold YldG; go_simp; exact ⟨Ext.refl _, rfl⟩) ?_
  (try simp only [Act.put, List.setIfInBounds_toArray, List.set_cons_zero, List.set_cons_succ])
  refine wpG_val (by rfl) (by decide) (fun w' hE hD => by unfold YldG; go_simp; exact ⟨Ext.refl _, rfl⟩) ?_
  (try simp only [Act.put, List.setIfInBounds_toArray, List.set_cons_zero, List.set_cons_succ])
  refine wpG_val (by rfl) (by decide) (fun w' hE hD => by unfold YldG; go_simp; exact ⟨Ext.refl _, rfl⟩) ?_
  (try simp only [Act.put, List.setIfInBounds_toArray, List.set_cons_zero, List.set_cons_succ])
  refine wpG_val (by rfl) (by decide) (fun w' hE hD => by have hcv := (hE.blk HM2.out.bl (fun h => (HNV.out _ h).1 rfl)).cell 1 (v := V) rfl; unfold YldG; go_simp; exact ⟨Ext.refl _, rfl⟩) ?_
  (try simp only [Act.put, List.setIfInBounds_toArray, List.set_cons_zero, List.set_cons_succ])
  refine wpG_val (by rfl) (by decide) (fun w' hE hD => by unfold YldG; go_simp; exact ⟨Ext.refl _, rfl⟩) ?_
  (try simp only [Act.put, List.setIfInBounds_toArray, List.set_cons_zero, List.set_cons_succ])
  refine wpG_val (by rfl) (by decide) (fun w' hE hD => by have hcb := (hE.blk HB2.out (fun h => (HNV.out _ h).2.1 rfl)).cell 0 (v := .bool true) rfl; unfold YldG; go_simp; exact ⟨Ext.refl _, rfl⟩) ?_
  (try simp only [Act.put, List.setIfInBounds_toArray, List.set_cons_zero, List.set_cons_succ])
  refine wpG_val (by rfl) (by decide) (fun w' hE hD => by unfold YldG; go_simp; exact ⟨Ext.refl _, rfl⟩) ?_
  (try simp only [Act.put, List.setIfInBounds_toArray, List.set_cons_zero, List.set_cons_succ])
  refine wpG_val (by rfl) (by decide) (fun w' hE hD => by have hcb := (hE.blk HB2.out (fun h => (HNV.out _ h).2.1 rfl)).cell 1 (v := .int .i64 (k : Int)) rfl; unfold YldG; go_simp; exact ⟨Ext.refl _, rfl⟩) ?_
  (try simp only [Act.put, List.setIfInBounds_toArray, List.set_cons_zero, List.set_cons_succ])
  refine wpG_val (by rfl) (by decide) (fun w' hE hD => by unfold YldG; go_simp; exact ⟨Ext.refl _, rfl⟩) ?_
  (try simp only [Act.put, List.setIfInBounds_toArray, List.set_cons_zero, List.set_cons_succ])
  refine wpG_val (by rfl) (by decide) (fun w' hE hD => by have hcb := (hE.blk HB2.out (fun h => (HNV.out _ h).2.1 rfl)).cell 2 (v := .slice A 0 c) rfl; unfold YldG; go_simp; exact ⟨Ext.refl _, rfl⟩) ?_
  (try simp only [Act.put, List.setIfInBounds_toArray, List.set_cons_zero, List.set_cons_succ])
  refine wpG_fact (by rfl) (by decide) (fun _ u Wa Wb h hg => NB.chg h hg (fun j hj hs => by have h1 := Kd.R_base h j hj; have h2 := (HNV.out j hs).2.2.2; omega)) (fun u Wa Wb h he => h.ext he) (fun w' hE hD => by have hx0 := (hE.to_ext (HR.out.2.1.trans HE2.out) (fun j hj => (HNV.out j hj).2.2.1)); have hcc := copy_calls w' A c xs (by rw [HX.out]; exact Kd.C_below HR.out.1 hx0) (by rw [HX.out]; exact hc) (by rw [HX.out]; decide); rw [HX.out] at hcc; unfold YldG; go_simp; exact hcc.mono fun e w3 h => by obtain ⟨U, h1, h2, h3⟩ := h; exact ⟨U, h1, h3, h2.lower (by rw [HN.out.2]; exact hE.size)⟩) (fun u49 => ?_)
  (try simp only [Act.put, List.setIfInBounds_toArray, List.set_cons_zero, List.set_cons_succ])
  refine wpG_fact (by rfl) (by decide) (fun _ u Wa Wb h hg => by obtain ⟨s, e9, h9⟩ := h; exact ⟨s, e9, NB.chg h9 hg (fun j hj hs => by have h1 := Kd.R_base h9 j hj; have h2 := (HNV.out j hs).2.2.2; omega)⟩) (fun u Wa Wb h he => by obtain ⟨s, e9, h9⟩ := h; exact ⟨s, e9, h9.ext he⟩) (fun w' hE hD => by have h9 := hD.1 rfl (by kernel_rfl); obtain ⟨s, rfl⟩ := NB.slv h9; obtain ⟨sa, sb, sc⟩ := s; unfold YldG; simp only [slV] at *; go_simp; exact ⟨Ext.refl _, sa, sb, sc, rfl, h9⟩) (fun u50 => ?_)
  (try simp only [Act.put, List.setIfInBounds_toArray, List.set_cons_zero, List.set_cons_succ])
  refine wpG_fact (by rfl) (by decide) (fun _ u Wa Wb h hg => by obtain ⟨b, s, e9, h1, h2, h9⟩ := h; exact ⟨b, s, e9, h1, hg.blk h2 (fun hs => by have h3 := (HNV.out b hs).2.2.2; omega), NB.chg h9 hg (fun j hj hs => by have h1 := Kd.R_base h9 j hj; have h2 := (HNV.out j hs).2.2.2; omega)⟩) (fun u Wa Wb h he => by obtain ⟨b, s, e9, h1, h2, h9⟩ := h; exact ⟨b, s, e9, h1, h2.ext he, h9.ext he⟩) (fun w' hE hD => by obtain ⟨s, e9, h9⟩ := hD.2.1 rfl (by kernel_rfl); obtain ⟨sa, sb, sc⟩ := s; subst e9; simp only [slV] at *; unfold YldG; go_simp; exact ⟨(Ext.refl _).alloc _, _, rfl, by rw [HN.out.2]; exact hE.size, sa, sb, sc, Blk.new _ _ _, h9.ext ((Ext.refl _).alloc _)⟩) (fun u51 => ?_)
  (try simp only [Act.put, List.setIfInBounds_toArray, List.set_cons_zero, List.set_cons_succ])
  refine wpG_here (by rfl) (by decide) (fun u Wa Wb h he => by obtain ⟨s, h1, h2, h3⟩ := h; exact ⟨s, Kd.R_below h1 he, h2, h3.ext he⟩) (fun w' hE hD => by obtain ⟨b9, s, e9, hn9, hb9, hnb9⟩ := hD.2.2.1 rfl (by kernel_rfl); subst e9; exact YldG_appP kD (.tmp 42) (.tmp 51) 53 34 (.agg #[.bool false, .int .i64 0, .slice none 0 0]) 40 rfl Try.underlying53 info34' rfl (by decide) (by decide) V ⟨b9, 0, none⟩ rfl rfl B ds (true, (k : Int), s) (dL (true, (k : Int), s)) (fun _ => False) (Kd.R_below HDS.out.1 hE) (dL_M _ _ _ _) (fun _ h => h.elim) (fun j u hu => addr0_cell hb9 hu) (Nat.le_trans HBW.out (Nat.le_trans HE2.out.size hE.size)) HL1.out (fun w3 hg => Chg.of_grown hg (fun j hj => hj)) w.heap.size (Nat.le_trans HE2.out.size hE.size) _ (fun u w3 h1 h2 hg => ⟨s, h1, h2, NB.chg hnb9 hg (fun j hj hs => by have h1 := Kd.R_base hnb9 j hj; have h2 := (HNV.out j hs).2.2.2; omega)⟩)) (fun u52 => ?_)
  (try simp only [Act.put, List.setIfInBounds_toArray, List.set_cons_zero, List.set_cons_succ])
  refine wpG_nil fun w6 hC6 hA => ?_
  simp only [List.drop_succ_cons, List.drop_zero]
  obtain ⟨s9, hR9, hO9, hN9⟩ := hA.2.2.2.1 rfl
  obtain ⟨n2, hn2⟩ : ∃ z, z = L.length + 1 := ⟨_, rfl⟩
  have HDN := Aside0.mk (show DN w6 B u52 (L ++ [(true, (k : Int), z32)]) from DN.grow HDS.out.2.1 HDS.out.2.2 hC6 HDS.out.1.nt hR9 (⟨rfl, rfl, .inl ⟨rfl, rfl, by obtain ⟨A9, c9, e9, _, _⟩ := hN9.nat HX.out.symm; injection e9⟩⟩))
  obtain ⟨A6, c6, e6, _⟩ := HDN.out.nat (n := n2) (by rw [List.length_append, hn2]; rfl)
  subst e6
  have HB6 := Aside0.mk (hC6.blk HM2.out.bl (fun h => (HNV.out _ h).1 rfl))
  have c1 := HB6.out.cell 1 (v := V) rfl
  rw [HVN.out] at c1
  have f1 := HB6.out.free 1
  have hcw := Chg.of_wrote (S := fun j => j = bm) (Wrote.setCell w6 bm 1 (.slice A6 n2 c6)) rfl
  have HF := Aside0.mk (show MR (w6.setCell ⟨bm, 1, none⟩ (.slice A6 n2 c6)) B bm n (.slice A6 n2 c6) (L ++ [(true, (k : Int), z32)]) last from by
    refine ⟨HB6.out.set 1 (.slice A6 n2 c6), HDN.out.nt hcw ?_ ?_, ?_, ?_, HH.out.n64, ?_, ?_⟩
    · intro j hj cells q e
      subst hj
      rw [HB6.out.is] at e
      injection e with e
      injection e with _ e
      cases e
    · intro j hj cells q e
      subst hj
      rw [HB6.out.is] at e
      injection e with e
      injection e with _ e
      cases e
    · rw [List.length_append]
      exact Nat.le_trans HH.out.le (Nat.le_add_right _ _)
    · intro p hp
      rcases List.mem_append.1 hp with hp | hp
      · exact HH.out.ok p hp
      · rw [List.mem_singleton.1 hp]
        exact ⟨by dsimp only; omega, by have := HK.out; dsimp only; omega, z32_len⟩
    · rw [List.length_append]
      have := HLL.out
      simp only [List.length_singleton]
      omega
    · rintro j (rfl | hj)
      · exact HH.out.bb _ (.inl rfl)
      · rcases hO9 with h | ⟨b, hb, hn⟩
        · exact HH.out.bb j (.inr (h ▸ hj))
        · rw [hb] at hj
          injection hj with hj
          have := HBW.out
          omega)
  have HFC := Aside0.mk (show Chg w (w6.setCell ⟨bm, 1, none⟩ (.slice A6 n2 c6)) (Ast bm V) from ((Chg.of_ext HE2.out _).trans (hC6.mono (fun j hj => .inr hj))).trans (hcw.mono (fun j hj => .inl hj)))
  have HOQ := Aside0.mk hO9
  have HR10 := Aside0.mk (RD.chg hR9 hcw (fun j hj hs => by
    obtain ⟨cells, e2⟩ := hR9.typed j hj
    rw [hs, HB6.out.is] at e2
    injection e2 with e2
    injection e2 with _ e2
    cases e2))
  have HS9 := Aside0.mk (show ∀ j, (slV s9).ownBlock = some j → w.heap.size ≤ j from fun j hj => Nat.le_trans HN.out.1 (Kd.R_base hN9 j hj))
  clear hcw hA hC6 hR9 hO9 hN9 HB6 HDN HM2 HB2 HDS hn2
  go_wp2
  go_ret
  exact ⟨_, _, _, rfl, HF.out, HFC.out, HOQ.out, HD0.out, HR10.out, HS9.out⟩
set_option maxRecDepth 100000 in
set_option maxHeartbeats 2000000 in
theorem mdo_w_ok (h : MR w B bm n V L last) (hll : L.length ≤ 800) {w0 : World} (he0 : Ext w0 w) (hB : w0.heap.size ≤ B) (k : Nat) (hk : k < n) (A : Option Addr) (c : Nat) (xs : List Int) (hx : xs.length = 32) (hr : Kd.C kb w0 A 32 xs) (hc : 32 ≤ c) (hBw : B ≤ w.heap.size) :
    Calls Try.prog 20 #[.pointer (some ⟨bm, 0, none⟩), .agg #[.bool false, .int .i64 (k : Int), .slice A 32 c]] w fun e w' => ∃ V' ds s, e = .returned (.int .i64 0) ∧ MR w' B bm n V' (L ++ [(false, (k : Int), xs)]) last ∧ Chg w w' (Ast bm V) ∧ OwnQ V w.heap.size V' ∧ RD w B V ds ∧ RD w' B V' (ds ++ [(false, (k : Int), s)]) ∧ ∀ j, (slV s).ownBlock = some j → w.heap.size ≤ j := by
  obtain ⟨nl, hnl⟩ : ∃ nl, nl = L.length := ⟨_, rfl⟩
  obtain ⟨AV, cV, eV, hcV⟩ := h.dn.nat hnl
  subst eV
  obtain ⟨V, hVN⟩ : ∃ V, V = Value.slice AV nl cV := ⟨_, rfl⟩
  rw [← hVN] at h ⊢
  have c0 := h.bl.cell 0 (v := .int .i64 (n : Int)) rfl
  have hE0 := (Ext.refl w).alloc (.cells #[.bool false, .int .i64 (k : Int), .slice A 32 c] 34)
  have HB := Aside0.mk (Blk.new w #[.bool false, .int .i64 (k : Int), .slice A 32 c] 34)
  have HE0 := Aside0.mk hE0
  replace c0 := Ext.cell hE0 c0
  obtain ⟨bx, hbx⟩ : ∃ bx, bx = w.heap.size := ⟨_, rfl⟩
  obtain ⟨w1, hw1⟩ : ∃ w1, w1 = w.alloc (.cells #[.bool false, .int .i64 (k : Int), .slice A 32 c] 34) := ⟨_, rfl⟩
  rw [← hbx] at HB
  rw [← hw1] at HB HE0 c0
  have HW1 := Aside0.mk hw1
  have HBX := Aside0.mk hbx
  have cb0 := HB.out.cell 0 (v := .bool false) rfl
  have cb1 := HB.out.cell 1 (v := .int .i64 (k : Int)) rfl
  have cb2 := HB.out.cell 2 (v := .slice A 32 c) rfl
  have HM := Aside0.mk (h.ext HE0.out)
  have HH := Aside0.mk h
  have HVN := Aside0.mk hVN
  have HR := Aside0.mk (And.intro hr (And.intro he0 hB))
  have HLL := Aside0.mk hll
  have HK := Aside0.mk hk
  have HX := Aside0.mk hx
  have HBW := Aside0.mk hBw
  clear h hE0 hbx hw1 hVN hr he0 hB hll hnl hcV hx hBw
  have hd0 : decide ((k : Int) < 0) = false := decide_eq_false (by omega)
  have hd1 : decide ((n : Int) ≤ (k : Int)) = false := decide_eq_false (by omega)
  have hkn : k < n := hk
  have hd2 : decide (n ≤ k) = false := decide_eq_false (by omega)
  clear hk
  go_enter Try.func20, Try.ntmps20
  go_wp2_with fail
  rw [← HW1.out, ← HBX.out]
  apply wp_region_facts 33 [RF.val _, RF.val _, RF.val _, RF.val _, RF.val _, RF.val _, RF.val _, RF.val _, RF.val _, RF.val _, RF.val _, RF.val _, RF.val _, RF.val _, RF.val _, RF.val _, RF.val _, RF.val _, RF.val _, RF.val _, RF.val _, RF.val _, RF.val _, RF.val _, RF.val _, RF.val _, RF.val _, RF.val _, RF.val _, RF.val _, RF.val _, RF.val _, RF.val _]
  case hm => kernel_rfl
  case hB => kernel_rfl
  simp only [List.take_succ_cons, List.take_zero, List.zip_cons_cons, List.zip_nil_left]
  (first | refine wpF_val rfl (fun w' hE hD => by unfold Yld; go_simp; exact ⟨Ext.refl _, rfl⟩) ?_ | refine wpF_valg (by rfl) (fun w' hE hD => by unfold Yld; go_simp; exact ⟨Ext.refl _, rfl⟩) ?_)
  (try simp only [Act.put, List.setIfInBounds_toArray, List.set_cons_zero, List.set_cons_succ])
  (first | refine wpF_val rfl (fun w' hE hD => by have hb1 := Ext.cell hE cb1; unfold Yld; go_simp; exact ⟨Ext.refl _, rfl⟩) ?_ | refine wpF_valg (by rfl) (fun w' hE hD => by have hb1 := Ext.cell hE cb1; unfold Yld; go_simp; exact ⟨Ext.refl _, rfl⟩) ?_)
  (try simp only [Act.put, List.setIfInBounds_toArray, List.set_cons_zero, List.set_cons_succ])
  (first | refine wpF_val rfl (fun w' hE hD => by unfold Yld; go_simp; exact ⟨Ext.refl _, rfl⟩) ?_ | refine wpF_valg (by rfl) (fun w' hE hD => by unfold Yld; go_simp; exact ⟨Ext.refl _, rfl⟩) ?_)
  (try simp only [Act.put, List.setIfInBounds_toArray, List.set_cons_zero, List.set_cons_succ])
  (first | refine wpF_val rfl (fun w' hE hD => by unfold Yld; go_simp; exact ⟨Ext.refl _, rfl⟩) ?_ | refine wpF_valg (by rfl) (fun w' hE hD => by unfold Yld; go_simp; exact ⟨Ext.refl _, rfl⟩) ?_)
  (try simp only [Act.put, List.setIfInBounds_toArray, List.set_cons_zero, List.set_cons_succ])
  (first | refine wpF_val rfl (fun w' hE hD => by unfold Yld; go_simp; exact ⟨Ext.refl _, rfl⟩) ?_ | refine wpF_valg (by rfl) (fun w' hE hD => by unfold Yld; go_simp; exact ⟨Ext.refl _, rfl⟩) ?_)
  (try simp only [Act.put, List.setIfInBounds_toArray, List.set_cons_zero, List.set_cons_succ])
  (first | refine wpF_val rfl (fun w' hE hD => by have hb1 := Ext.cell hE cb1; unfold Yld; go_simp; exact ⟨Ext.refl _, rfl⟩) ?_ | refine wpF_valg (by rfl) (fun w' hE hD => by have hb1 := Ext.cell hE cb1; unfold Yld; go_simp; exact ⟨Ext.refl _, rfl⟩) ?_)
  (try simp only [Act.put, List.setIfInBounds_toArray, List.set_cons_zero, List.set_cons_succ])
  (first | refine wpF_val rfl (fun w' hE hD => by unfold Yld; go_simp; exact ⟨Ext.refl _, rfl⟩) ?_ | refine wpF_valg (by rfl) (fun w' hE hD => by unfold Yld; go_simp; exact ⟨Ext.refl _, rfl⟩) ?_)
  (try simp only [Act.put, List.setIfInBounds_toArray, List.set_cons_zero, List.set_cons_succ])
  (first | refine wpF_val rfl (fun w' hE hD => by unfold Yld; go_simp; exact ⟨Ext.refl _, rfl⟩) ?_ | refine wpF_valg (by rfl) (fun w' hE hD => by unfold Yld; go_simp; exact ⟨Ext.refl _, rfl⟩) ?_)
  (try simp only [Act.put, List.setIfInBounds_toArray, List.set_cons_zero, List.set_cons_succ])
  (first | refine wpF_val rfl (fun w' hE hD => by unfold Yld; go_simp; exact ⟨Ext.refl _, rfl⟩) ?_ | refine wpF_valg (by rfl) (fun w' hE hD => by unfold Yld; go_simp; exact ⟨Ext.refl _, rfl⟩) ?_)
  (try simp only [Act.put, List.setIfInBounds_toArray, List.set_cons_zero, List.set_cons_succ])
  (first | refine wpF_val rfl (fun w' hE hD => by have hc0 := Ext.cell hE c0; unfold Yld; go_simp; exact ⟨Ext.refl _, rfl⟩) ?_ | refine wpF_valg (by rfl) (fun w' hE hD => by have hc0 := Ext.cell hE c0; unfold Yld; go_simp; exact ⟨Ext.refl _, rfl⟩) ?_)
  (try simp only [Act.put, List.setIfInBounds_toArray, List.set_cons_zero, List.set_cons_succ])
  (first | refine wpF_val rfl (fun w' hE hD => by unfold Yld; go_simp; exact ⟨Ext.refl _, rfl⟩) ?_ | refine wpF_valg (by rfl) (fun w' hE hD => by unfold Yld; go_simp; exact ⟨Ext.refl _, rfl⟩) ?_)
  (try simp only [Act.put, List.setIfInBounds_toArray, List.set_cons_zero, List.set_cons_succ])
  (first | refine wpF_val rfl (fun w' hE hD => by unfold Yld; go_simp; exact ⟨Ext.refl _, rfl⟩) ?_ | refine wpF_valg (by rfl) (fun w' hE hD => by unfold Yld; go_simp; exact ⟨Ext.refl _, rfl⟩) ?_)
  (try simp only [Act.put, List.setIfInBounds_toArray, List.set_cons_zero, List.set_cons_succ])
  (first | refine wpF_val rfl (fun w' hE hD => by unfold Yld; go_simp; exact ⟨Ext.refl _, rfl⟩) ?_ | refine wpF_valg (by rfl) (fun w' hE hD => by unfold Yld; go_simp; exact ⟨Ext.refl _, rfl⟩) ?_)
  (try simp only [Act.put, List.setIfInBounds_toArray, List.set_cons_zero, List.set_cons_succ])
  (first | refine wpF_val rfl (fun w' hE hD => by unfold Yld; go_simp; exact ⟨Ext.refl _, rfl⟩) ?_ | refine wpF_valg (by rfl) (fun w' hE hD => by unfold Yld; go_simp; exact ⟨Ext.refl _, rfl⟩) ?_)
  (try simp only [Act.put, List.setIfInBounds_toArray, List.set_cons_zero, List.set_cons_succ])
  (first | refine wpF_val rfl (fun w' hE hD => by have hb0 := Ext.cell hE cb0; unfold Yld; go_simp; exact ⟨Ext.refl _, rfl⟩) ?_ | refine wpF_valg (by rfl) (fun w' hE hD => by have hb0 := Ext.cell hE cb0; unfold Yld; go_simp; exact ⟨Ext.refl _, rfl⟩) ?_)
  (try simp only [Act.put, List.setIfInBounds_toArray, List.set_cons_zero, List.set_cons_succ])
  (first | refine wpF_val rfl (fun w' hE hD => by unfold Yld; go_simp; exact ⟨Ext.refl _, rfl⟩) ?_ | refine wpF_valg (by rfl) (fun w' hE hD => by unfold Yld; go_simp; exact ⟨Ext.refl _, rfl⟩) ?_)
  (try simp only [Act.put, List.setIfInBounds_toArray, List.set_cons_zero, List.set_cons_succ])
  refine wpF_skip (by rfl) ?_
  (try simp only [Act.put, List.setIfInBounds_toArray, List.set_cons_zero, List.set_cons_succ])
  refine wpF_skip (by rfl) ?_
  (try simp only [Act.put, List.setIfInBounds_toArray, List.set_cons_zero, List.set_cons_succ])
  refine wpF_skip (by rfl) ?_
  (try simp only [Act.put, List.setIfInBounds_toArray, List.set_cons_zero, List.set_cons_succ])
  refine wpF_skip (by rfl) ?_
  (try simp only [Act.put, List.setIfInBounds_toArray, List.set_cons_zero, List.set_cons_succ])
  (first | refine wpF_val rfl (fun w' hE hD => by unfold Yld; go_simp; exact ⟨Ext.refl _, rfl⟩) ?_ | refine wpF_valg (by rfl) (fun w' hE hD => by unfold Yld; go_simp; exact ⟨Ext.refl _, rfl⟩) ?_)
  (try simp only [Act.put, List.setIfInBounds_toArray, List.set_cons_zero, List.set_cons_succ])
  (first | refine wpF_val rfl (fun w' hE hD => by unfold Yld; go_simp; exact ⟨Ext.refl _, rfl⟩) ?_ | refine wpF_valg (by rfl) (fun w' hE hD => by unfold Yld; go_simp; exact ⟨Ext.refl _, rfl⟩) ?_)
  (try simp only [Act.put, List.setIfInBounds_toArray, List.set_cons_zero, List.set_cons_succ])
  (first | refine wpF_val rfl (fun w' hE hD => by unfold Yld; go_simp; exact ⟨Ext.refl _, rfl⟩) ?_ | refine wpF_valg (by rfl) (fun w' hE hD => by unfold Yld; go_simp; exact ⟨Ext.refl _, rfl⟩) ?_)
  (try simp only [Act.put, List.setIfInBounds_toArray, List.set_cons_zero, List.set_cons_succ])
  (first | refine wpF_val rfl (fun w' hE hD => by unfold Yld; go_simp; exact ⟨Ext.refl _, rfl⟩) ?_ | refine wpF_valg (by rfl) (fun w' hE hD => by unfold Yld; go_simp; exact ⟨Ext.refl _, rfl⟩) ?_)
  (try simp only [Act.put, List.setIfInBounds_toArray, List.set_cons_zero, List.set_cons_succ])
  (first | refine wpF_val rfl (fun w' hE hD => by have hb0 := Ext.cell hE cb0; unfold Yld; go_simp; exact ⟨Ext.refl _, rfl⟩) ?_ | refine wpF_valg (by rfl) (fun w' hE hD => by have hb0 := Ext.cell hE cb0; unfold Yld; go_simp; exact ⟨Ext.refl _, rfl⟩) ?_)
  (try simp only [Act.put, List.setIfInBounds_toArray, List.set_cons_zero, List.set_cons_succ])
  (first | refine wpF_val rfl (fun w' hE hD => by unfold Yld; go_simp; exact ⟨Ext.refl _, rfl⟩) ?_ | refine wpF_valg (by rfl) (fun w' hE hD => by unfold Yld; go_simp; exact ⟨Ext.refl _, rfl⟩) ?_)
  (try simp only [Act.put, List.setIfInBounds_toArray, List.set_cons_zero, List.set_cons_succ])
  (first | refine wpF_val rfl (fun w' hE hD => by unfold Yld; go_simp; exact ⟨Ext.refl _, rfl⟩) ?_ | refine wpF_valg (by rfl) (fun w' hE hD => by unfold Yld; go_simp; exact ⟨Ext.refl _, rfl⟩) ?_)
  (try simp only [Act.put, List.setIfInBounds_toArray, List.set_cons_zero, List.set_cons_succ])
  (first | refine wpF_val rfl (fun w' hE hD => by unfold Yld; go_simp; exact ⟨Ext.refl _, rfl⟩) ?_ | refine wpF_valg (by rfl) (fun w' hE hD => by unfold Yld; go_simp; exact ⟨Ext.refl _, rfl⟩) ?_)
  (try simp only [Act.put, List.setIfInBounds_toArray, List.set_cons_zero, List.set_cons_succ])
  (first | refine wpF_val rfl (fun w' hE hD => by have hb2 := Ext.cell hE cb2; unfold Yld; go_simp; exact ⟨Ext.refl _, rfl⟩) ?_ | refine wpF_valg (by rfl) (fun w' hE hD => by have hb2 := Ext.cell hE cb2; unfold Yld; go_simp; exact ⟨Ext.refl _, rfl⟩) ?_)
  (try simp only [Act.put, List.setIfInBounds_toArray, List.set_cons_zero, List.set_cons_succ])
  (first | refine wpF_val rfl (fun w' hE hD => by unfold Yld; go_simp; exact ⟨Ext.refl _, rfl⟩) ?_ | refine wpF_valg (by rfl) (fun w' hE hD => by unfold Yld; go_simp; exact ⟨Ext.refl _, rfl⟩) ?_)
  (try simp only [Act.put, List.setIfInBounds_toArray, List.set_cons_zero, List.set_cons_succ])
  (first | refine wpF_val rfl (fun w' hE hD => by unfold Yld; go_simp; exact ⟨Ext.refl _, rfl⟩) ?_ | refine wpF_valg (by rfl) (fun w' hE hD => by unfold Yld; go_simp; exact ⟨Ext.refl _, rfl⟩) ?_)
  (try simp only [Act.put, List.setIfInBounds_toArray, List.set_cons_zero, List.set_cons_succ])
  (first | refine wpF_val rfl (fun w' hE hD => by unfold Yld; go_simp; exact ⟨Ext.refl _, rfl⟩) ?_ | refine wpF_valg (by rfl) (fun w' hE hD => by unfold Yld; go_simp; exact ⟨Ext.refl _, rfl⟩) ?_)
  (try simp only [Act.put, List.setIfInBounds_toArray, List.set_cons_zero, List.set_cons_succ])
  (first | refine wpF_val rfl (fun w' hE hD => by unfold Yld; go_simp; exact ⟨Ext.refl _, rfl⟩) ?_ | refine wpF_valg (by rfl) (fun w' hE hD => by unfold Yld; go_simp; exact ⟨Ext.refl _, rfl⟩) ?_)
  (try simp only [Act.put, List.setIfInBounds_toArray, List.set_cons_zero, List.set_cons_succ])
  refine wpF_nil fun w2 hE2 hA => ?_
  refine (show wpList _ _ _ [] _ _ from ?_)
  have HE2 := Aside0.mk (HE0.out.trans hE2)
  have HM2 := Aside0.mk (HM.out.ext hE2)
  have HB2 := Aside0.mk (HB.out.ext hE2)
  clear hE2 hA c0 cb0 cb1 cb2 HB HE0 HM
  go_wp2_with fail
  obtain ⟨N, hN⟩ : ∃ N, N = w2.heap.size := ⟨_, rfl⟩
  obtain ⟨ds, hd0, hd2, hd3'⟩ : ∃ ds, RD w B V ds ∧ ds.length = L.length ∧ ∀ (i : Nat) d c, ds[i]? = some d → L[i]? = some c → DE w B d c := HH.out.dn
  have hd1 : RD w2 B V ds := Kd.R_below hd0 HE2.out
  have hd3 := fun i d c q1 q2 => (hd3' i d c q1 q2).ext HE2.out
  have HD0 := Aside0.mk hd0
  have HNV := Aside0.mk (show ∀ j, V.ownBlock = some j → j ≠ bm ∧ j ≠ bx ∧ w0.heap.size ≤ j ∧ j < N from fun j hj => by
    have hlt := Kd.R_lt (HH.out.dn.choose_spec.1) j hj
    refine ⟨fun e => ?_, ?_, Nat.le_trans HR.out.2.2 (HH.out.bb j (.inr hj)), ?_⟩
    · obtain ⟨cells, e2⟩ := HH.out.dn.typed j hj
      rw [e, HH.out.bl.is] at e2
      injection e2 with e2
      injection e2 with _ e2
      cases e2
    · have := HBX.out
      omega
    · have := HE2.out.size
      omega)
  have HN := Aside0.mk (show w.heap.size ≤ N ∧ N = w2.heap.size from ⟨by rw [hN]; exact HE2.out.size, hN⟩)
  have HDS := Aside0.mk (And.intro hd1 (And.intro hd2 hd3))
  have HL1 := Aside0.mk (show (ds.length + 1) * 40 ≤ 140737488355328 from by have := HLL.out; omega)
  clear hN hd1 hd2 hd3 hd0 hd3'
  apply wp_region_G 15 14 (fun a b' => Chg a b' (fun j => V.ownBlock = some j)) (fun a b h => Chg.of_ext h _) (fun a b c h k => h.trans k) [GF.val _, GF.val _, GF.val _, GF.val _, GF.val _, GF.val _, GF.val _, GF.val _, GF.val _, GF.val _, GF.val _, GF.fact true (fun u w' => NB w' N u xs), GF.fact true (fun u w' => ∃ s, u = .agg #[.bool false, .int .i64 (k : Int), slV s] ∧ NB w' N (slV s) xs), GF.fact true (fun u w' => ∃ b s, u = .slice (some ⟨b, 0, none⟩) 1 1 ∧ N ≤ b ∧ Blk w' b (dL (false, (k : Int), s)).toArray 34 ∧ NB w' N (slV s) xs), GF.fact true (fun u w' => ∃ s, RD w' B u (ds ++ [(false, (k : Int), s)]) ∧ OwnQ V w.heap.size u ∧ NB w' N (slV s) xs)]
  case hm => kernel_rfl
  case hB => kernel_rfl
  simp only [List.take_succ_cons, List.take_zero, List.zip_cons_cons, List.zip_nil_left]
  refine wpG_val (by rfl) (by decide) (fun w' hE hD => by unfold YldG; go_simp; exact ⟨Ext.refl _, rfl⟩) ?_
  (try simp only [Act.put, List.setIfInBounds_toArray, List.set_cons_zero, List.set_cons_succ])
  refine wpG_val (by rfl) (by decide) (fun w' hE hD => by unfold YldG; go_simp; exact ⟨Ext.refl _, rfl⟩) ?_
  (try simp only [Act.put, List.setIfInBounds_toArray, List.set_cons_zero, List.set_cons_succ])
  refine wpG_val (by rfl) (by decide) (fun w' hE hD => by unfold YldG; go_simp; exact ⟨Ext.refl _, rfl⟩) ?_
  (try simp only [Act.put, List.setIfInBounds_toArray, List.set_cons_zero, List.set_cons_succ])
  refine wpG_val (by rfl) (by decide) (fun w' hE hD => by unfold YldG; go_simp; exact ⟨Ext.refl _, rfl⟩) ?_
  (try simp only [Act.put, List.setIfInBounds_toArray, List.set_cons_zero, List.set_cons_succ])
  refine wpG_val (by rfl) (by decide) (fun w' hE hD => by have hcv := (hE.blk HM2.out.bl (fun h => (HNV.out _ h).1 rfl)).cell 1 (v := V) rfl; unfold YldG; go_simp; exact ⟨Ext.refl _, rfl⟩) ?_
  (try simp only [Act.put, List.setIfInBounds_toArray, List.set_cons_zero, List.set_cons_succ])
  refine wpG_val (by rfl) (by decide) (fun w' hE hD => by unfold YldG; go_simp; exact ⟨Ext.refl _, rfl⟩) ?_
  (try simp only [Act.put, List.setIfInBounds_toArray, List.set_cons_zero, List.set_cons_succ])
  refine wpG_val (by rfl) (by decide) (fun w' hE hD => by have hcb := (hE.blk HB2.out (fun h => (HNV.out _ h).2.1 rfl)).cell 0 (v := .bool false) rfl; unfold YldG; go_simp; exact ⟨Ext.refl _, rfl⟩) ?_
  (try simp only [Act.put, List.setIfInBounds_toArray, List.set_cons_zero, List.set_cons_succ])
  refine wpG_val (by rfl) (by decide) (fun w' hE hD => by unfold YldG; go_simp; exact ⟨Ext.refl _, rfl⟩) ?_
  (try simp only [Act.put, List.setIfInBounds_toArray, List.set_cons_zero, List.set_cons_succ])
  refine wpG_val (by rfl) (by decide) (fun w' hE hD => by have hcb := (hE.blk HB2.out (fun h => (HNV.out _ h).2.1 rfl)).cell 1 (v := .int .i64 (k : Int)) rfl; unfold YldG; go_simp; exact ⟨Ext.refl _, rfl⟩) ?_
  (try simp only [Act.put, List.setIfInBounds_toArray, List.set_cons_zero, List.set_cons_succ])
  refine wpG_val (by rfl) (by decide) (fun w' hE hD => by unfold YldG; go_simp; exact ⟨Ext.refl _, rfl⟩) ?_
  (try simp only [Act.put, List.setIfInBounds_toArray, List.set_cons_zero, List.set_cons_succ])
  refine wpG_val (by rfl) (by decide) (fun w' hE hD => by have hcb := (hE.blk HB2.out (fun h => (HNV.out _ h).2.1 rfl)).cell 2 (v := .slice A 32 c) rfl; unfold YldG; go_simp; exact ⟨Ext.refl _, rfl⟩) ?_
  (try simp only [Act.put, List.setIfInBounds_toArray, List.set_cons_zero, List.set_cons_succ])
  refine wpG_fact (by rfl) (by decide) (fun _ u Wa Wb h hg => NB.chg h hg (fun j hj hs => by have h1 := Kd.R_base h j hj; have h2 := (HNV.out j hs).2.2.2; omega)) (fun u Wa Wb h he => h.ext he) (fun w' hE hD => by have hx0 := (hE.to_ext (HR.out.2.1.trans HE2.out) (fun j hj => (HNV.out j hj).2.2.1)); have hcc := copy_calls w' A c xs (by rw [HX.out]; exact Kd.C_below HR.out.1 hx0) (by rw [HX.out]; exact hc) (by rw [HX.out]; decide); rw [HX.out] at hcc; unfold YldG; go_simp; exact hcc.mono fun e w3 h => by obtain ⟨U, h1, h2, h3⟩ := h; exact ⟨U, h1, h3, h2.lower (by rw [HN.out.2]; exact hE.size)⟩) (fun u49 => ?_)
  (try simp only [Act.put, List.setIfInBounds_toArray, List.set_cons_zero, List.set_cons_succ])
  refine wpG_fact (by rfl) (by decide) (fun _ u Wa Wb h hg => by obtain ⟨s, e9, h9⟩ := h; exact ⟨s, e9, NB.chg h9 hg (fun j hj hs => by have h1 := Kd.R_base h9 j hj; have h2 := (HNV.out j hs).2.2.2; omega)⟩) (fun u Wa Wb h he => by obtain ⟨s, e9, h9⟩ := h; exact ⟨s, e9, h9.ext he⟩) (fun w' hE hD => by have h9 := hD.1 rfl (by kernel_rfl); obtain ⟨s, rfl⟩ := NB.slv h9; obtain ⟨sa, sb, sc⟩ := s; unfold YldG; simp only [slV] at *; go_simp; exact ⟨Ext.refl _, sa, sb, sc, rfl, h9⟩) (fun u50 => ?_)
  (try simp only [Act.put, List.setIfInBounds_toArray, List.set_cons_zero, List.set_cons_succ])
  refine wpG_fact (by rfl) (by decide) (fun _ u Wa Wb h hg => by obtain ⟨b, s, e9, h1, h2, h9⟩ := h; exact ⟨b, s, e9, h1, hg.blk h2 (fun hs => by have h3 := (HNV.out b hs).2.2.2; omega), NB.chg h9 hg (fun j hj hs => by have h1 := Kd.R_base h9 j hj; have h2 := (HNV.out j hs).2.2.2; omega)⟩) (fun u Wa Wb h he => by obtain ⟨b, s, e9, h1, h2, h9⟩ := h; exact ⟨b, s, e9, h1, h2.ext he, h9.ext he⟩) (fun w' hE hD => by obtain ⟨s, e9, h9⟩ := hD.2.1 rfl (by kernel_rfl); obtain ⟨sa, sb, sc⟩ := s; subst e9; simp only [slV] at *; unfold YldG; go_simp; exact ⟨(Ext.refl _).alloc _, _, rfl, by rw [HN.out.2]; exact hE.size, sa, sb, sc, Blk.new _ _ _, h9.ext ((Ext.refl _).alloc _)⟩) (fun u51 => ?_)
  (try simp only [Act.put, List.setIfInBounds_toArray, List.set_cons_zero, List.set_cons_succ])
  refine wpG_here (by rfl) (by decide) (fun u Wa Wb h he => by obtain ⟨s, h1, h2, h3⟩ := h; exact ⟨s, Kd.R_below h1 he, h2, h3.ext he⟩) (fun w' hE hD => by obtain ⟨b9, s, e9, hn9, hb9, hnb9⟩ := hD.2.2.1 rfl (by kernel_rfl); subst e9; exact YldG_appP kD (.tmp 42) (.tmp 51) 53 34 (.agg #[.bool false, .int .i64 0, .slice none 0 0]) 40 rfl Try.underlying53 info34' rfl (by decide) (by decide) V ⟨b9, 0, none⟩ rfl rfl B ds (false, (k : Int), s) (dL (false, (k : Int), s)) (fun _ => False) (Kd.R_below HDS.out.1 hE) (dL_M _ _ _ _) (fun _ h => h.elim) (fun j u hu => addr0_cell hb9 hu) (Nat.le_trans HBW.out (Nat.le_trans HE2.out.size hE.size)) HL1.out (fun w3 hg => Chg.of_grown hg (fun j hj => hj)) w.heap.size (Nat.le_trans HE2.out.size hE.size) _ (fun u w3 h1 h2 hg => ⟨s, h1, h2, NB.chg hnb9 hg (fun j hj hs => by have h1 := Kd.R_base hnb9 j hj; have h2 := (HNV.out j hs).2.2.2; omega)⟩)) (fun u52 => ?_)
  (try simp only [Act.put, List.setIfInBounds_toArray, List.set_cons_zero, List.set_cons_succ])
  refine wpG_nil fun w6 hC6 hA => ?_
  simp only [List.drop_succ_cons, List.drop_zero]
  obtain ⟨s9, hR9, hO9, hN9⟩ := hA.2.2.2.1 rfl
  obtain ⟨n2, hn2⟩ : ∃ z, z = L.length + 1 := ⟨_, rfl⟩
  have HDN := Aside0.mk (show DN w6 B u52 (L ++ [(false, (k : Int), xs)]) from DN.grow HDS.out.2.1 HDS.out.2.2 hC6 HDS.out.1.nt hR9 (⟨rfl, rfl, .inr ⟨rfl, hN9.lower (Nat.le_trans HBW.out HN.out.1)⟩⟩))
  obtain ⟨A6, c6, e6, _⟩ := HDN.out.nat (n := n2) (by rw [List.length_append, hn2]; rfl)
  subst e6
  have HB6 := Aside0.mk (hC6.blk HM2.out.bl (fun h => (HNV.out _ h).1 rfl))
  have c1 := HB6.out.cell 1 (v := V) rfl
  rw [HVN.out] at c1
  have f1 := HB6.out.free 1
  have hcw := Chg.of_wrote (S := fun j => j = bm) (Wrote.setCell w6 bm 1 (.slice A6 n2 c6)) rfl
  have HF := Aside0.mk (show MR (w6.setCell ⟨bm, 1, none⟩ (.slice A6 n2 c6)) B bm n (.slice A6 n2 c6) (L ++ [(false, (k : Int), xs)]) last from by
    refine ⟨HB6.out.set 1 (.slice A6 n2 c6), HDN.out.nt hcw ?_ ?_, ?_, ?_, HH.out.n64, ?_, ?_⟩
    · intro j hj cells q e
      subst hj
      rw [HB6.out.is] at e
      injection e with e
      injection e with _ e
      cases e
    · intro j hj cells q e
      subst hj
      rw [HB6.out.is] at e
      injection e with e
      injection e with _ e
      cases e
    · rw [List.length_append]
      exact Nat.le_trans HH.out.le (Nat.le_add_right _ _)
    · intro p hp
      rcases List.mem_append.1 hp with hp | hp
      · exact HH.out.ok p hp
      · rw [List.mem_singleton.1 hp]
        exact ⟨by dsimp only; omega, by have := HK.out; dsimp only; omega, HX.out⟩
    · rw [List.length_append]
      have := HLL.out
      simp only [List.length_singleton]
      omega
    · rintro j (rfl | hj)
      · exact HH.out.bb _ (.inl rfl)
      · rcases hO9 with h | ⟨b, hb, hn⟩
        · exact HH.out.bb j (.inr (h ▸ hj))
        · rw [hb] at hj
          injection hj with hj
          have := HBW.out
          omega)
  have HFC := Aside0.mk (show Chg w (w6.setCell ⟨bm, 1, none⟩ (.slice A6 n2 c6)) (Ast bm V) from ((Chg.of_ext HE2.out _).trans (hC6.mono (fun j hj => .inr hj))).trans (hcw.mono (fun j hj => .inl hj)))
  have HOQ := Aside0.mk hO9
  have HR10 := Aside0.mk (RD.chg hR9 hcw (fun j hj hs => by
    obtain ⟨cells, e2⟩ := hR9.typed j hj
    rw [hs, HB6.out.is] at e2
    injection e2 with e2
    injection e2 with _ e2
    cases e2))
  have HS9 := Aside0.mk (show ∀ j, (slV s9).ownBlock = some j → w.heap.size ≤ j from fun j hj => Nat.le_trans HN.out.1 (Kd.R_base hN9 j hj))
  clear hcw hA hC6 hR9 hO9 hN9 HB6 HDN HM2 HB2 HDS hn2
  go_wp2
  go_ret
  exact ⟨_, _, _, rfl, HF.out, HFC.out, HOQ.out, HD0.out, HR10.out, HS9.out⟩
end
end Go.Proofs.Ytielnpmnnifjcaa.By

/- The document's own array: what the blocks are behind some changes. -/
namespace Go.Proofs.Ytielnpmnnifjcaa.By
open Go.RowKit Go.Proofs.Ytielnpmnnifjcaa.Reg Go.Proofs.YtielnpmnnifjcaaW.PrintWords Go.Proofs.YtielnpmnnifjcaaW.PrintLast Go.Proofs.YtielnpmnnifjcaaW.PrintMore
set_option linter.unusedVariables false
set_option linter.unusedSimpArgs false


abbrev BN (w : World) (B : Nat) (V : Value) (bs : List Bool) : Prop := Kd.R Kd.bool 4 w B (fun _ => True) V bs
def boolsOf (M : Nat → Bool) (n : Nat) : List Bool := (List.range n).map M
theorem boolsOf_len (M : Nat → Bool) (n : Nat) : (boolsOf M n).length = n := by simp [boolsOf]
theorem boolsOf_snoc (M : Nat → Bool) (n : Nat) : boolsOf M (n + 1) = boolsOf M n ++ [M n] := by simp [boolsOf, List.range_succ]
theorem boolsOf_at (M : Nat → Bool) (n i : Nat) (hi : i < n) : (boolsOf M n)[i]? = some (M i) := by
  unfold boolsOf
  rw [List.getElem?_map, List.getElem?_range hi]
  rfl
section
variable {w w' : World} {B bm n : Nat} {V : Value} {L : List Ch} {last : Nat}
theorem BN.chg {S : Nat → Prop} {bs : List Bool} {B' : Nat} {V' : Value} (h : BN w B' V' bs) (k : Chg w w' S) (hn : ∀ j, V'.ownBlock = some j → ¬ S j) : BN w' B' V' bs := by
  have h1 := Kd.R_tight (d := Kd.bool) rfl h
  exact Kd.R_mono (Kd.R_step h1 (fun j hj hlt => k.block j hlt (hn j hj.symm))) (fun _ _ => trivial)
theorem RS.chg {S : Nat → Prop} {ss : List SlT} {B' : Nat} {V' : Value} (h : RS w B' V' ss) (k : Chg w w' S) (hn : ∀ j, V'.ownBlock = some j → ¬ S j) : RS w' B' V' ss := by
  have h1 := Kd.R_tight (d := kSl) rfl h
  exact Kd.R_mono (Kd.R_step h1 (fun j hj hlt => k.block j hlt (hn j hj.symm))) (fun _ _ => trivial)
theorem NRs.nt {S : Nat → Prop} {rows : List (List Int)} {B' : Nat} {V' : Value} (h : NRs w B' V' rows) (k : Chg w w' S) (h31 : NT w S 31) (h5 : NT w S 5) : NRs w' B' V' rows := by
  obtain ⟨ss, h1, h2, h3, h4⟩ := h
  refine ⟨ss, h1.chg k (fun j hj hs => ?_), h2, fun i s r hs hr => (h3 i s r hs hr).nt k h5, h4⟩
  obtain ⟨c, e⟩ := Kd.R_typed h1 j hj
  exact h31 j hs _ _ e
theorem nt_own {V' : Value} {u : Nat} (h : ∀ k, V'.ownBlock = some k → ∃ cells, w.heap[k]? = some (.cells cells u (0, 0))) (t : Nat) (ht : t ≠ u) : NT w (fun j => V'.ownBlock = some j) t := by
  intro j hj cells q e
  obtain ⟨c, e2⟩ := h j hj
  rw [e2] at e
  injection e with e
  injection e with _ e
  exact ht e.symm
set_option maxRecDepth 100000 in
set_option maxHeartbeats 2000000 in
theorem m_behind (h : MR w B bm n V L last) (k : Nat) (hk : k ≤ L.length) : Calls Try.prog 39 #[.pointer (some ⟨bm, 0, none⟩), .int .i64 (k : Int)] w fun e w' => ∃ U W, e = .returned (.tuple #[U, W]) ∧ NRs w' w.heap.size U (rowsOf (aftR zR (L.take k)) n) ∧ BN w' w.heap.size W (boolsOf (aftM zM (L.take k)) n) ∧ Ext w w' := by
  obtain ⟨nl, hnl⟩ : ∃ nl, nl = L.length := ⟨_, rfl⟩
  obtain ⟨A, cv, eV, hcv⟩ := h.dn.nat hnl
  subst eV
  have HM := Aside0.mk h
  have HNL := Aside0.mk hnl
  have HKL := Aside0.mk hk
  have hkl : k ≤ nl := by omega
  have hn9 : nl ≤ 900 := by have := h.ll; omega
  have HIN := Aside0.mk (show (Try.prog.info? 31).map (fun i => (i.zero, i.size, i.bytes)) = some (some (.slice none 0 0), 1, 24) by kernel_rfl)
  have HI4 := Aside0.mk (show (Try.prog.info? 4).map (fun i => (i.zero, i.size, i.bytes)) = some (some (.bool false), 1, 1) by kernel_rfl)
  clear h hnl hk
  go_enter Try.func39, Try.ntmps39
  go_wp2_with fail
  go_loopw [6, 7, 8] (fun u6 u7 j wr => ∃ x : Nat, j = .int .i64 x ∧ Aside0 (x ≤ n) ∧ Aside0 (NRs wr w.heap.size u6 (rowsOf (aftR zR (L.take k)) x)) ∧ Aside0 (BN wr w.heap.size u7 (boolsOf (aftM zM (L.take k)) x)) ∧ Aside0 (Ext w wr)) (fun _ _ j _ => n - (intOf j).toNat)
  case atStart => exact ⟨0, rfl, ⟨Nat.zero_le _⟩, ⟨NRs.nil _ _⟩, ⟨Kd.R_nil _ _ _ _ _⟩, ⟨Ext.refl _⟩⟩
  case round =>
    obtain ⟨x, rfl, HX, HV, HW, HE⟩ := hrel
    have g1 := HX.out
    have gn := HM.out.n64
    obtain ⟨wx, hwx⟩ : ∃ wx : World, wx = wr := ⟨_, rfl⟩
    subst hwx
    have HM1 := Aside0.mk (HM.out.ext HE.out)
    have c0 := HM1.out.bl.cell 0 (v := .int .i64 (n : Int)) rfl
    by_cases hlt : x < n
    · have HLT := Aside0.mk hlt
      have hxn : (x : Int) < n := by omega
      go_wp2_with (first | ((with_reducible refine gate_dst (N := 20) rfl ?_); refine mk_at rfl _ _ rfl rfl rfl ?_) | fail)
      intro w2 hE2 hb2
      have HN2 := Aside0.mk (show NB w2 wx.heap.size (.slice (some ⟨wx.heap.size, 0, none⟩) 32 32) z32 from NB.made z32 32 z32_len.symm (by decide) hb2 (Nat.le_refl _))
      have HE2 := Aside0.mk hE2
      clear hE2 hb2 c0 hlt
      go_wp2_with fail
      go_loopw [9, 10, 11] (fun u9 u10 j wr => ∃ (y : Nat), j = .int .i64 y ∧ Aside0 (y ≤ k) ∧ u10 = .bool (aftM zM (L.take y) x) ∧ Aside0 (NB wr wx.heap.size u9 (aftR zR (L.take y) x)) ∧ Aside0 (Ext wx wr)) (fun _ _ j _ => k - (intOf j).toNat)
      case atStart => exact ⟨0, rfl, ⟨Nat.zero_le _⟩, rfl, ⟨HN2.out⟩, HE2⟩
      case round =>
        clear HN2 HE2
        obtain ⟨y, rfl, HY, e10, HN, HE3⟩ := hrel
        obtain ⟨w3, hw3⟩ : ∃ w3 : World, w3 = wr := ⟨_, rfl⟩
        subst hw3
        obtain ⟨V9, hV9⟩ : ∃ z, z = u9 := ⟨_, rfl⟩
        subst hV9
        subst e10
        have g2 := HY.out
        have HM3 := Aside0.mk (HM1.out.ext HE3.out)
        have c1 := HM3.out.bl.cell 1 (v := .slice A nl cv) rfl
        by_cases hy : y < k
        · have HYK := Aside0.mk hy
          have hyk : (y : Int) < k := by omega
          have hynl : (y : Int) < nl := by omega
          have hget : L[y]? = some (L[y]'(by have := HNL.out; omega)) := List.getElem?_eq_getElem _
          obtain ⟨b1, o1, s1, eA, hrg, hcs⟩ := HM3.out.dn.at y _ hget
          have HTR := Aside0.mk (aftR_take (R := zR) hget)
          have HTM := Aside0.mk (aftM_take (M := zM) hget)
          have HOK := Aside0.mk (HM3.out.ok _ (List.getElem_mem (l := L) (n := y) (by have := HNL.out; omega)))
          generalize L[y]'(by have := HNL.out; omega) = c at hrg hcs HTR HTM HOK hget
          clear hget hy
          obtain ⟨trim, at', data⟩ := c
          obtain ⟨q, rfl⟩ : ∃ q : Nat, at' = q := ⟨at'.toNat, by have := HOK.out.1; dsimp only at this; omega⟩
          subst eA
          have d0 : w3.cell? ⟨b1, o1 + y * 3, none⟩ = some (.bool trim) := hrg 0 _ rfl
          have d1 : w3.cell? ⟨b1, o1 + y * 3 + 1, none⟩ = some (.int .i64 (q : Int)) := hrg 1 _ rfl
          have d2 : w3.cell? ⟨b1, o1 + y * 3 + 2, none⟩ = some (slV s1) := hrg 2 _ rfl
          have HCS := Aside0.mk hcs
          clear hrg hcs
          by_cases hq : q = x
          · subst hq
            have hqq : ((q : Int) == (q : Int)) = true := by simp
            cases trim with
            | true =>
              go_wp2_with (first | ((with_reducible refine gate_dst (N := 46) rfl ?_); refine mk_at rfl _ _ rfl rfl rfl ?_) | fail)
              intro w4 hE4 hb4
              have HN4 := Aside0.mk (show NB w4 wx.heap.size (.slice (some ⟨w3.heap.size, 0, none⟩) 32 32) (aftR zR (L.take (y + 1)) q) from by
                rw [HTR.out]
                have e : doR (aftR zR (L.take y)) (true, (q : Int), data) q = z32 := by
                  have h0 : data = z32 := by
                    rcases HCS.out with h | h
                    · exact h.2.1
                    · exact absurd h.1 (by simp)
                  simp [doR, upd, h0]
                rw [e]
                exact NB.made z32 32 z32_len.symm (by decide) hb4 HE3.out.size)
              have HM4 := Aside0.mk (show aftM zM (L.take (y + 1)) q = false from by rw [HTM.out]; simp [doM, upd])
              have HE4 := Aside0.mk (HE3.out.trans hE4)
              replace c1 := Ext.cell hE4 c1
              replace d0 := Ext.cell hE4 d0
              replace d1 := Ext.cell hE4 d1
              replace d2 := Ext.cell hE4 d2
              clear hE4 hb4 HN HE3 HTR HTM HCS
              go_wp2_with fail
              go_roundw
              case rel => exact ⟨y + 1, by go_num, ⟨HYK.out⟩, by rw [HM4.out], HN4, HE4⟩
              case measure => have := HYK.out; simp only [intOf]; omega
            | false =>
              have hcs := HCS.out
              have hnb : NB w3 B (slV s1) data := by
                rcases hcs with h | h
                · exact absurd h.1 (by simp)
                · exact h.2
              obtain ⟨A1, C1, e1, hC1, hCC⟩ := NB.nat (n := 32) hnb (HOK.out.2.2).symm
              rw [e1] at d2
              have HCP := Aside0.mk (copy_calls w3 A1 C1 data (by rw [HOK.out.2.2]; exact hCC) (by rw [HOK.out.2.2]; exact hC1) (by rw [HOK.out.2.2]; decide))
              rw [show data.length = 32 from HOK.out.2.2] at HCP
              clear hcs hnb hC1 hCC e1
              go_wp2_with fail
              refine HCP.out.mono ?_
              rintro e w4 ⟨U4, rfl, hN4, hE4⟩
              have HN4 := Aside0.mk (show NB w4 wx.heap.size U4 (aftR zR (L.take (y + 1)) q) from by
                rw [HTR.out]
                have e : doR (aftR zR (L.take y)) (false, (q : Int), data) q = data := by simp [doR, upd]
                rw [e]
                exact hN4.lower HE3.out.size)
              have HM4 := Aside0.mk (show aftM zM (L.take (y + 1)) q = true from by rw [HTM.out]; simp [doM, upd])
              have HE4 := Aside0.mk (HE3.out.trans hE4)
              clear hE4 hN4 HN HE3 HTR HTM HCS HCP c1 d0 d1 d2
              go_wp2_with fail
              go_roundw
              case rel => exact ⟨y + 1, by go_num, ⟨HYK.out⟩, by rw [HM4.out], HN4, HE4⟩
              case measure => have := HYK.out; simp only [intOf]; omega
          · have hqq : ((q : Int) == (x : Int)) = false := by simp; omega
            have HN4 := Aside0.mk (show NB w3 wx.heap.size V9 (aftR zR (L.take (y + 1)) x) from by
              rw [HTR.out]
              have e : doR (aftR zR (L.take y)) (trim, (q : Int), data) x = aftR zR (L.take y) x := by
                unfold doR upd
                rw [if_neg (by dsimp only; rw [Int.toNat_natCast]; omega)]
              rw [e]
              exact HN.out)
            have HM4 := Aside0.mk (show aftM zM (L.take (y + 1)) x = aftM zM (L.take y) x from by
              rw [HTM.out]
              unfold doM upd
              rw [if_neg (by dsimp only; rw [Int.toNat_natCast]; omega)])
            clear HN HTR HTM HCS d0 d2 hq
            go_wp2_with fail
            go_roundw
            case rel => exact ⟨y + 1, by go_num, ⟨HYK.out⟩, by rw [HM4.out], HN4, HE3⟩
            case measure => have := HYK.out; simp only [intOf]; omega
        · obtain rfl : y = k := by omega
          obtain ⟨V1, hV1⟩ : ∃ V1, V1 = u6 := ⟨_, rfl⟩
          subst hV1
          obtain ⟨V5, hV5⟩ : ∃ V5, V5 = u7 := ⟨_, rfl⟩
          subst hV5
          obtain ⟨ss, hs1, hs2, hs3, hs4⟩ := HV.out
          have HS := Aside0.mk (show RS wx w.heap.size V1 ss ∧ ss.length = (rowsOf (aftR zR (L.take y)) x).length ∧ (∀ (i : Nat) s r, ss[i]? = some s → (rowsOf (aftR zR (L.take y)) x)[i]? = some r → NB wx w.heap.size (slV s) r) ∧ (∀ (i j : Nat) s t, i < j → ss[i]? = some s → ss[j]? = some t → ∀ k, (slV s).ownBlock = some k → (slV t).ownBlock = some k → False) from ⟨hs1, hs2, hs3, hs4⟩)
          clear hs1 hs2 hs3 hs4
          obtain ⟨A1, C1, hV1, _, _⟩ := Kd.R_reads HS.out.1
          obtain ⟨N1, hN1⟩ : ∃ N1, N1 = ss.length := ⟨_, rfl⟩
          rw [← hN1] at hV1
          clear hN1
          subst hV1
          obtain ⟨bs, hbs⟩ : ∃ bs, bs = boolsOf (aftM zM (L.take y)) x := ⟨_, rfl⟩
          rw [← hbs] at HW
          obtain ⟨A5, C5, hV5, _, _⟩ := Kd.R_reads HW.out
          obtain ⟨N5, hN5⟩ : ∃ N5, N5 = bs.length := ⟨_, rfl⟩
          have HN5 := Aside0.mk (show bs.length = x from by rw [hbs, boolsOf_len])
          rw [← hN5] at hV5
          have HBS := Aside0.mk hbs
          clear hN5 hbs
          subst hV5
          obtain ⟨s, rfl⟩ := HN.out.slv
          obtain ⟨A2, N2, C2⟩ := s
          rw [show slV (A2, N2, C2) = Value.slice A2 N2 C2 from rfl]
          have HV3 := Aside0.mk (Kd.R_below HS.out.1 HE3.out)
          have HB3 := Aside0.mk (show w.heap.size ≤ w3.heap.size from Nat.le_trans HE.out.size HE3.out.size)
          have HL1 := Aside0.mk (show (ss.length + 1) * 24 ≤ 140737488355328 from by have := HS.out.2.1; rw [rowsOf_len] at this; omega)
          have HL2 := Aside0.mk (show (bs.length + 1) * 1 ≤ 140737488355328 from by have := HN5.out; omega)
          obtain ⟨mz, hmz⟩ : ∃ z, z = aftM zM (L.take y) x := ⟨_, rfl⟩
          rw [← hmz]
          have HMZ := Aside0.mk hmz
          clear c1 hy hmz
          go_wp2_with (first | (at_builtin; refine Kd.R_append kSl (w0 := w3) w.heap.size rfl (.tmp 77) (.tmp 79) 27 31 (.slice none 0 0) 24 rfl Try.underlying27 HIN.out rfl (by decide) (by decide) (.slice A1 N1 C1) ss (A2, N2, C2) [Value.slice A2 N2 C2] (fun _ => True) (fun _ => False) rfl rfl rfl (fun _ hk => hk.elim) (fun _ _ => trivial) HV3.out (Below.refl _ _) HB3.out HL1.out ?_) | fail)
          intro V3 w4 hR hBl hg _
          have hcg := Chg.of_grown hg (S := fun j => (Value.slice A1 N1 C1).ownBlock = some j) (fun k hk => hk)
          have HV4 := Aside0.mk (show NRs w4 w.heap.size V3 (rowsOf (aftR zR (L.take y)) (x + 1)) from by
            rw [rowsOf_snoc]
            refine HV.out.snoc HS.out.1 HS.out.2.1 HS.out.2.2.1 HS.out.2.2.2 HN.out HE.out.size HE3.out hBl hR (fun {V} {xs} {B'} hx => hx.nt hcg (nt_own (Kd.R_typed HV3.out) 5 (by decide))))
          have HW4 := Aside0.mk (BN.chg (Kd.R_below HW.out HE3.out) hcg (fun j hj hs => by
            obtain ⟨c1, e1⟩ := Kd.R_typed (Kd.R_below HW.out HE3.out) j hj
            obtain ⟨c2, e2⟩ := Kd.R_typed HV3.out j hs
            rw [e1] at e2
            injection e2 with e2
            injection e2 with _ e3
            cases e3))
          have HE4 := Aside0.mk (show Ext w w4 from Below.trans (HE.out.trans HE3.out) hBl)
          have HB4 := Aside0.mk HE4.out.size
          clear hR hBl hg hcg HS HV3 HB3 HV HW HN
          go_wp2_with (first | (at_builtin; refine Kd.R_append Kd.bool (w0 := w4) w.heap.size rfl (.tmp 81) (.tmp 83) 72 4 (.bool false) 1 rfl Try.underlying72 HI4.out rfl (by decide) (by decide) (.slice A5 N5 C5) bs mz [Value.bool mz] (fun _ => True) (fun _ => False) rfl rfl rfl (fun _ hk => hk.elim) (fun _ _ => trivial) HW4.out (Below.refl _ _) HB4.out HL2.out ?_) | fail)
          intro V6 w5 hR hBl hg _
          have hcg := Chg.of_grown hg (S := fun j => (Value.slice A5 N5 C5).ownBlock = some j) (fun k hk => hk)
          have HV5 := Aside0.mk (HV4.out.nt hcg (nt_own (Kd.R_typed HW4.out) 31 (by decide)) (nt_own (Kd.R_typed HW4.out) 5 (by decide)))
          have HW5 := Aside0.mk (show BN w5 w.heap.size V6 (boolsOf (aftM zM (L.take y)) (x + 1)) from by
            rw [boolsOf_snoc, ← HBS.out, ← HMZ.out]
            exact hR)
          have HE5 := Aside0.mk (show Ext w w5 from Below.trans HE4.out hBl)
          clear hR hBl hg hcg HV4 HW4 HE4
          go_wp2_with fail
          go_roundw
          case rel => exact ⟨x + 1, by go_num, ⟨HLT.out⟩, HV5, HW5, HE5⟩
          case measure => have := HLT.out; simp only [intOf]; omega
    · obtain rfl : x = n := by omega
      go_wp2_with fail
      go_ret2
      exact ⟨_, _, rfl, HV.out, HW.out, HE.out⟩
end
end Go.Proofs.Ytielnpmnnifjcaa.By

/- The document's own array: Rows, Match, Mapped, Read. -/
namespace Go.Proofs.Ytielnpmnnifjcaa.By
open Go.RowKit Go.Proofs.Ytielnpmnnifjcaa.Reg Go.Proofs.YtielnpmnnifjcaaW.PrintWords Go.Proofs.YtielnpmnnifjcaaW.PrintLast Go.Proofs.YtielnpmnnifjcaaW.PrintMore
set_option linter.unusedVariables false
set_option linter.unusedSimpArgs false


theorem aft_len : ∀ (L : List Ch) (R : Nat → List Int), (∀ i, (R i).length = 32) → (∀ p ∈ L, p.2.2.length = 32) → ∀ i, (aftR R L i).length = 32
  | [], R, hR, _, i => hR i
  | p :: L, R, hR, hL, i => by
    show (aftR (doR R p) L i).length = 32
    refine aft_len L (doR R p) (fun j => ?_) (fun q hq => hL q (List.mem_cons_of_mem _ hq)) i
    unfold doR upd
    split
    · exact hL p (List.mem_cons_self ..)
    · exact hR j
theorem rows32 {R : Nat → List Int} {n : Nat} (h : ∀ i, (R i).length = 32) : ∀ r ∈ rowsOf R n, r.length ≤ 32 := by
  intro r hr
  unfold rowsOf at hr
  obtain ⟨i, hi, rfl⟩ := List.mem_map.1 hr
  exact Nat.le_of_eq (h i)
section
variable {w w' : World} {B bm n : Nat} {V : Value} {L : List Ch} {last : Nat}
theorem MR.row (h : MR w B bm n V L last) : ∃ A c, V = .slice A L.length c ∧ L.length ≤ c := h.dn.nat rfl
set_option maxRecDepth 100000 in
set_option maxHeartbeats 2000000 in
theorem m_rows (h : MR w B bm n V L last) : Calls Try.prog 29 #[.pointer (some ⟨bm, 0, none⟩)] w fun e w' => ∃ U, e = .returned U ∧ NRs w' w.heap.size U (rowsOf (aftR zR L) n) ∧ Ext w w' := by
  obtain ⟨nl, hnl⟩ : ∃ nl, nl = L.length := ⟨_, rfl⟩
  obtain ⟨A, cv, eV, hcv⟩ := h.dn.nat hnl
  subst eV
  have HBH := Aside0.mk (m_behind h nl (Nat.le_of_eq hnl))
  rw [show L.take nl = L from by rw [hnl]; exact List.take_length] at HBH
  have c1 := h.bl.cell 1 (v := .slice A nl cv) rfl
  clear h hnl hcv
  go_enter Try.func29, Try.ntmps29
  go_wp2_with fail
  refine HBH.out.mono ?_
  rintro e w2 ⟨U, W, rfl, hN, hW, hE⟩
  have HN := Aside0.mk hN
  have HE := Aside0.mk hE
  clear hN hE hW HBH c1
  go_wp2_with fail
  go_ret
  exact ⟨U, rfl, HN.out, HE.out⟩
set_option maxRecDepth 100000 in
set_option maxHeartbeats 2000000 in
theorem m_match (h : MR w B bm n V L last) (Ar : Option Addr) (m cr : Nat) (rows : List (List Int)) (hm : m = rows.length) (hr : Kd.C kBB w Ar m rows) (hcr : m ≤ cr) :
    Calls Try.prog 27 #[.pointer (some ⟨bm, 0, none⟩), .slice Ar m cr] w fun e w' => ∃ k ok, e = .returned (.tuple #[.int .i64 ((k : Nat) : Int), .bool ok]) ∧ AQ n L last rows k ok ∧ Ext w w' := by
  have HM := Aside0.mk h
  have HCR := Aside0.mk hr
  have HMR := Aside0.mk hm
  obtain ⟨q, hq⟩ : ∃ q : Nat, q = L.length - last := ⟨_, rfl⟩
  have HQL := Aside0.mk (show last + q = L.length ∧ L.length ≤ 900 from ⟨by have := h.le; omega, h.ll⟩)
  have hq9 : q ≤ 900 := by have := h.ll; omega
  have hl9 : last ≤ 900 := by have := h.ll; have := h.le; omega
  have HQ := Aside0.mk hq
  clear h hr hm hq
  go_enter Try.func27, Try.ntmps27
  go_wp2_with fail
  go_loopw [6] (fun j wr => ∃ x : Nat, j = .int .i64 x ∧ Aside0 (x ≤ q + 1) ∧ Aside0 (∀ j, j < x → rowsOf (aftR (aftR zR (L.take last)) ((L.drop last).take j)) n ≠ rows) ∧ Aside0 (Ext w wr)) (fun j _ => q + 1 - (intOf j).toNat)
  case atStart => exact ⟨0, rfl, ⟨Nat.zero_le _⟩, ⟨fun j hj => by omega⟩, ⟨Ext.refl _⟩⟩
  case round =>
    obtain ⟨x, rfl, HX, HN, HE⟩ := hrel
    have g1 := HX.out
    obtain ⟨wx, hwx⟩ : ∃ wx : World, wx = wr := ⟨_, rfl⟩
    subst hwx
    have HO := Aside0.mk (m_open (HM.out.ext HE.out))
    rw [← HQ.out] at HO
    by_cases hlt : x ≤ q
    · have hxq : (x : Int) ≤ q := by omega
      have HLT := Aside0.mk hlt
      clear hlt
      go_wp2_with fail
      refine HO.out.mono ?_
      rintro e w2 ⟨rfl, hE⟩
      have HE2 := Aside0.mk (HE.out.trans hE)
      have HM2 := Aside0.mk (HM.out.ext HE2.out)
      clear hE HO HE
      have c2 := HM2.out.bl.cell 2 (v := .int .i64 (last : Int)) rfl
      have HBH := Aside0.mk (m_behind HM2.out (last + x) (by have := HQL.out.1; have := HLT.out; omega))
      have hcast : ((last + x : Nat) : Int) = (last : Int) + (x : Int) := by omega
      rw [hcast] at HBH
      clear hcast
      go_wp2_with fail
      refine HBH.out.mono ?_
      rintro e w3 ⟨U, W, rfl, hN, hW, hE⟩
      obtain ⟨AU, cU, rfl, hcU, hCU⟩ := hN.C (n := n) (rowsOf_len _ _).symm
      obtain ⟨b, hb⟩ : ∃ b, b = decide (rowsOf (aftR zR (L.take (last + x))) n = rows) := ⟨_, rfl⟩
      have HSR := Aside0.mk (sameR_at w3 AU Ar cU cr (rowsOf (aftR zR (L.take (last + x))) n) rows b 32 (by decide) (by rw [rowsOf_len]; have := HM2.out.n64; omega) (rows32 (aft_len _ _ zR_len (fun p hp => (HM2.out.ok p (List.mem_of_mem_take hp)).2.2))) (rowsOf_len _ _).symm HMR.out hb hCU hcU (Kd.C_below HCR.out (HE2.out.trans hE)) hcr)
      have HBB := Aside0.mk hb
      have HE3 := Aside0.mk (HE2.out.trans hE)
      have e2 := aft_two zR L last x
      clear hN hW hE hcU hCU hb HBH HE2 c2
      by_cases he : rowsOf (aftR zR (L.take (last + x))) n = rows
      · obtain rfl : b = true := by rw [HBB.out]; exact decide_eq_true he
        have HMQ := Aside0.mk (show AQ n L last rows x true from .inl ⟨rfl, by rw [List.length_drop]; have := HQ.out; have := HLT.out; omega, by rw [e2]; exact he, HN.out⟩)
        clear he e2 HN HBB
        go_wp2_with fail
        refine HSR.out.mono ?_
        rintro e w4 ⟨rfl, hE⟩
        have HE4 := Aside0.mk (HE3.out.trans hE)
        clear hE HSR HE3
        go_wp2_with fail
        go_ret2
        exact ⟨x, true, rfl, HMQ.out, HE4.out⟩
      · obtain rfl : b = false := by rw [HBB.out]; exact decide_eq_false he
        have HN5 := Aside0.mk (show ∀ j, j < x + 1 → rowsOf (aftR (aftR zR (L.take last)) ((L.drop last).take j)) n ≠ rows from fun j hj => by
          by_cases h : j < x
          · exact HN.out j h
          · obtain rfl : j = x := by omega
            rw [e2]
            exact he)
        clear he e2 HN HBB
        go_wp2_with fail
        refine HSR.out.mono ?_
        rintro e w4 ⟨rfl, hE⟩
        have HE4 := Aside0.mk (HE3.out.trans hE)
        clear hE HSR HE3
        go_wp2_with fail
        go_roundw
        case rel => exact ⟨x + 1, by go_num, ⟨by have := HLT.out; omega⟩, HN5, HE4⟩
        case measure => have := HLT.out; simp only [intOf]; omega
    · obtain rfl : x = q + 1 := by omega
      have HMQ := Aside0.mk (show AQ n L last rows 0 false from .inr ⟨rfl, rfl, fun j hj => HN.out j (by rw [List.length_drop, ← HQ.out] at hj; omega)⟩)
      clear HN hlt
      go_wp2_with fail
      refine HO.out.mono ?_
      rintro e w2 ⟨rfl, hE⟩
      have HE2 := Aside0.mk (HE.out.trans hE)
      clear hE HO HE
      go_wp2_with fail
      go_ret2
      exact ⟨0, false, rfl, HMQ.out, HE2.out⟩
theorem bool_at {w : World} {B' N c : Nat} {A : Option Addr} {bs : List Bool} (h : BN w B' (.slice A N c) bs) (x : Nat) (hx : x < bs.length) : ∃ b off, A = some ⟨b, off, none⟩ ∧ w.cell? ⟨b, off + x, none⟩ = some (.bool bs[x]) := by
  obtain ⟨A', c', e, hl, hC⟩ := Kd.R_reads h
  injection e with e1 e2 e3
  subst e1
  obtain ⟨b, off, cs, e, _, hK, hr⟩ := row_at hC (by decide) x hx bs[x] (List.getElem?_eq_getElem hx)
  have hK' : cs = [.bool bs[x]] := hK
  subst hK'
  refine ⟨b, off, e, ?_⟩
  have := hr 0 _ rfl
  have e1 : off + x * Kd.bool.sz + 0 = off + x := by show off + x * 1 + 0 = off + x; omega
  rw [e1] at this
  exact this
set_option maxRecDepth 100000 in
set_option maxHeartbeats 2000000 in
theorem m_mapped (h : MR w B bm n V L last) : Calls Try.prog 31 #[.pointer (some ⟨bm, 0, none⟩)] w fun e w' => e = .returned (.int .i64 (cntM (aftM zM L) n)) ∧ Ext w w' := by
  obtain ⟨nl, hnl⟩ : ∃ nl, nl = L.length := ⟨_, rfl⟩
  obtain ⟨A, cv, eV, hcv⟩ := h.dn.nat hnl
  subst eV
  have HBH := Aside0.mk (m_behind h nl (Nat.le_of_eq hnl))
  rw [show L.take nl = L from by rw [hnl]; exact List.take_length] at HBH
  have c1 := h.bl.cell 1 (v := .slice A nl cv) rfl
  have hn64 := h.n64
  obtain ⟨M, hM⟩ : ∃ M, M = aftM zM L := ⟨_, rfl⟩
  rw [← hM] at HBH ⊢
  clear h hnl hcv hM
  go_enter Try.func31, Try.ntmps31
  go_wp2_with fail
  refine HBH.out.mono ?_
  rintro e w2 ⟨U, W, rfl, hN, hW, hE⟩
  obtain ⟨AW, cW, eW, hlW, _⟩ := Kd.R_reads hW
  rw [boolsOf_len] at eW hlW
  subst eW
  have HW := Aside0.mk hW
  have HE := Aside0.mk hE
  clear hN hE hW HBH c1
  go_wp2_with fail
  go_loopw [5, 6] (fun u5 j wr => ∃ x : Nat, j = .int .i64 x ∧ Aside0 (x ≤ n) ∧ u5 = .int .i64 ((cntM M x : Nat) : Int) ∧ Aside0 (Ext w2 wr)) (fun _ j _ => n - (intOf j).toNat)
  case atStart => exact ⟨0, rfl, ⟨Nat.zero_le _⟩, rfl, ⟨Ext.refl _⟩⟩
  case round =>
    obtain ⟨x, rfl, HX, e5, HE2⟩ := hrel
    have g1 := HX.out
    subst e5
    obtain ⟨wx, hwx⟩ : ∃ wx : World, wx = wr := ⟨_, rfl⟩
    subst hwx
    by_cases hlt : x < n
    · have HLT := Aside0.mk hlt
      have hxn : (x : Int) < n := by omega
      obtain ⟨b, off, eA, hcell⟩ := bool_at HW.out x (by rw [boolsOf_len]; exact hlt)
      subst eA
      have hb : (boolsOf M n)[x]'(by rw [boolsOf_len]; exact hlt) = M x := by
        have := boolsOf_at M n x hlt
        rw [List.getElem?_eq_getElem (by rw [boolsOf_len]; exact hlt)] at this
        injection this
      rw [hb] at hcell
      replace hcell := Ext.cell HE2.out hcell
      have hle := cntM_le M x
      have hc9 : cntM M x ≤ 64 := by omega
      clear hb hlt
      cases hMx : M x with
      | true =>
        rw [hMx] at hcell
        have HC := Aside0.mk (show cntM M (x + 1) = cntM M x + 1 from by simp [cntM, hMx])
        go_wp2_with fail
        go_roundw
        case rel => exact ⟨x + 1, by go_num, ⟨HLT.out⟩, by rw [HC.out]; go_num, HE2⟩
        case measure => have := HLT.out; simp only [intOf]; omega
      | false =>
        rw [hMx] at hcell
        have HC := Aside0.mk (show cntM M (x + 1) = cntM M x from by simp [cntM, hMx])
        go_wp2_with fail
        go_roundw
        case rel => exact ⟨x + 1, by go_num, ⟨HLT.out⟩, by rw [HC.out], HE2⟩
        case measure => have := HLT.out; simp only [intOf]; omega
    · obtain rfl : x = n := by omega
      have HE3 := Aside0.mk (HE.out.trans HE2.out)
      go_wp2_with fail
      go_ret
      exact ⟨rfl, HE3.out⟩
end
end Go.Proofs.Ytielnpmnnifjcaa.By

/- The document's own array: Read. -/
namespace Go.Proofs.Ytielnpmnnifjcaa.By
open Go.RowKit Go.Proofs.Ytielnpmnnifjcaa.Reg Go.Proofs.YtielnpmnnifjcaaW.PrintWords Go.Proofs.YtielnpmnnifjcaaW.PrintLast Go.Proofs.YtielnpmnnifjcaaW.PrintMore
set_option linter.unusedVariables false
set_option linter.unusedSimpArgs false


section
variable {w w' : World} {B bm n : Nat} {V : Value} {L : List Ch} {last : Nat}
set_option maxRecDepth 100000 in
set_option maxHeartbeats 2000000 in
theorem m_read_no (h : MR w B bm n V L last) (i : Int) (hi : i < 0 ∨ (n : Int) ≤ i) : Calls Try.prog 33 #[.pointer (some ⟨bm, 0, none⟩), .int .i64 i] w fun e w' => e = .returned (.tuple #[.slice none 0 0, .bool false]) ∧ w = w' := by
  have c0 := h.bl.cell 0 (v := .int .i64 (n : Int)) rfl
  clear h
  by_cases h0 : i < 0
  · have hd0 : decide (i < 0) = true := decide_eq_true h0
    clear hi
    go_enter Try.func33, Try.ntmps33
    go_wp2
    go_ret2
    exact ⟨rfl, rfl⟩
  · have hd0 : decide (i < 0) = false := decide_eq_false h0
    have h1 : (n : Int) ≤ i := by omega
    have hd1 : decide ((n : Int) ≤ i) = true := decide_eq_true h1
    clear hi
    go_enter Try.func33, Try.ntmps33
    go_wp2
    go_ret2
    exact ⟨rfl, rfl⟩
set_option maxRecDepth 100000 in
set_option maxHeartbeats 2000000 in
theorem m_read (h : MR w B bm n V L last) (i : Nat) (hi : i < n) : Calls Try.prog 33 #[.pointer (some ⟨bm, 0, none⟩), .int .i64 (i : Int)] w fun e w' => ∃ A c, e = .returned (.tuple #[.slice A 32 c, .bool (aftM zM L i)]) ∧ 32 ≤ c ∧ Kd.C kb w' A 32 (aftR zR L i) ∧ Ext w w' := by
  obtain ⟨nl, hnl⟩ : ∃ nl, nl = L.length := ⟨_, rfl⟩
  obtain ⟨A, cv, eV, hcv⟩ := h.dn.nat hnl
  subst eV
  have HL32 := Aside0.mk (aft_len L zR zR_len (fun p hp => (h.ok p hp).2.2) i)
  obtain ⟨M, hM⟩ : ∃ M, M = aftM zM L := ⟨_, rfl⟩
  obtain ⟨R, hR⟩ : ∃ R, R = aftR zR L := ⟨_, rfl⟩
  have HBH := Aside0.mk (m_behind h nl (Nat.le_of_eq hnl))
  rw [show L.take nl = L from by rw [hnl]; exact List.take_length] at HBH
  rw [← hM, ← hR] at HBH ⊢
  rw [← hR] at HL32
  have c0 := h.bl.cell 0 (v := .int .i64 (n : Int)) rfl
  have c1 := h.bl.cell 1 (v := .slice A nl cv) rfl
  have hn64 := h.n64
  have HI := Aside0.mk hi
  have hin : (i : Int) < n := by omega
  have hd0 : decide ((i : Int) < 0) = false := decide_eq_false (by omega)
  have hd1 : decide ((n : Int) ≤ (i : Int)) = false := decide_eq_false (by omega)
  have hd2 : decide (n ≤ i) = false := decide_eq_false (by omega)
  clear h hnl hcv hM hR
  go_enter Try.func33, Try.ntmps33
  go_wp2_with fail
  refine HBH.out.mono ?_
  rintro e w2 ⟨U, W, rfl, hN, hW, hE⟩
  obtain ⟨AW, cW, eW, hlW, _⟩ := Kd.R_reads hW
  rw [boolsOf_len] at eW hlW
  subst eW
  obtain ⟨AU, cU, rfl, hcU, hCU⟩ := hN.C (n := n) (rowsOf_len _ _).symm
  obtain ⟨b, off, eA, hcell⟩ := bool_at hW i (by rw [boolsOf_len]; exact hi)
  subst eA
  have hb : (boolsOf M n)[i]'(by rw [boolsOf_len]; exact hi) = M i := by
    have := boolsOf_at M n i hi
    rw [List.getElem?_eq_getElem (by rw [boolsOf_len]; exact hi)] at this
    injection this
  rw [hb] at hcell
  obtain ⟨bu, ou, cs, eU, _, hK, hr⟩ := row_at hCU (by decide) i hi (R i) (rowsOf_at R n i hi)
  obtain ⟨A2, c2, h3, hc2, hC2⟩ := hK
  subst h3
  rw [HL32.out] at hr hc2 hC2
  subst eU
  have hu : w2.cell? ⟨bu, ou + i, none⟩ = some (.slice A2 32 c2) := by
    have := hr 0 _ rfl
    have e1 : ou + i * kBB.sz + 0 = ou + i := by show ou + i * 1 + 0 = ou + i; omega
    rw [e1] at this
    exact this
  have HFC := Aside0.mk (And.intro hc2 (And.intro hC2 hE))
  clear hr hc2 hC2 hb hN hW hE hcU hCU c0 c1 hi HBH hlW
  go_wp2_with fail
  apply wp_region_facts 10 [RF.val _, RF.val _, RF.val _, RF.val _, RF.val _, RF.val _, RF.val _, RF.val _, RF.val _, RF.val _]
  case hm => kernel_rfl
  case hB => kernel_rfl
  simp only [List.take_succ_cons, List.take_zero, List.zip_cons_cons, List.zip_nil_left]
  (first | refine wpF_val rfl (fun w' hE hD => by unfold Yld; go_simp; exact ⟨Ext.refl _, rfl⟩) ?_ | refine wpF_valg (by rfl) (fun w' hE hD => by unfold Yld; go_simp; exact ⟨Ext.refl _, rfl⟩) ?_)
  (try simp only [Act.put, List.setIfInBounds_toArray, List.set_cons_zero, List.set_cons_succ])
  (first | refine wpF_val rfl (fun w' hE hD => by unfold Yld; go_simp; exact ⟨Ext.refl _, rfl⟩) ?_ | refine wpF_valg (by rfl) (fun w' hE hD => by unfold Yld; go_simp; exact ⟨Ext.refl _, rfl⟩) ?_)
  (try simp only [Act.put, List.setIfInBounds_toArray, List.set_cons_zero, List.set_cons_succ])
  (first | refine wpF_val rfl (fun w' hE hD => by unfold Yld; go_simp; exact ⟨Ext.refl _, rfl⟩) ?_ | refine wpF_valg (by rfl) (fun w' hE hD => by unfold Yld; go_simp; exact ⟨Ext.refl _, rfl⟩) ?_)
  (try simp only [Act.put, List.setIfInBounds_toArray, List.set_cons_zero, List.set_cons_succ])
  (first | refine wpF_val rfl (fun w' hE hD => by have ku := Ext.cell hE hu; unfold Yld; go_simp; exact ⟨Ext.refl _, rfl⟩) ?_ | refine wpF_valg (by rfl) (fun w' hE hD => by have ku := Ext.cell hE hu; unfold Yld; go_simp; exact ⟨Ext.refl _, rfl⟩) ?_)
  (try simp only [Act.put, List.setIfInBounds_toArray, List.set_cons_zero, List.set_cons_succ])
  (first | refine wpF_val rfl (fun w' hE hD => by unfold Yld; go_simp; exact ⟨Ext.refl _, rfl⟩) ?_ | refine wpF_valg (by rfl) (fun w' hE hD => by unfold Yld; go_simp; exact ⟨Ext.refl _, rfl⟩) ?_)
  (try simp only [Act.put, List.setIfInBounds_toArray, List.set_cons_zero, List.set_cons_succ])
  (first | refine wpF_val rfl (fun w' hE hD => by unfold Yld; go_simp; exact ⟨Ext.refl _, rfl⟩) ?_ | refine wpF_valg (by rfl) (fun w' hE hD => by unfold Yld; go_simp; exact ⟨Ext.refl _, rfl⟩) ?_)
  (try simp only [Act.put, List.setIfInBounds_toArray, List.set_cons_zero, List.set_cons_succ])
  (first | refine wpF_val rfl (fun w' hE hD => by unfold Yld; go_simp; exact ⟨Ext.refl _, rfl⟩) ?_ | refine wpF_valg (by rfl) (fun w' hE hD => by unfold Yld; go_simp; exact ⟨Ext.refl _, rfl⟩) ?_)
  (try simp only [Act.put, List.setIfInBounds_toArray, List.set_cons_zero, List.set_cons_succ])
  (first | refine wpF_val rfl (fun w' hE hD => by have kw := Ext.cell hE hcell; unfold Yld; go_simp; exact ⟨Ext.refl _, rfl⟩) ?_ | refine wpF_valg (by rfl) (fun w' hE hD => by have kw := Ext.cell hE hcell; unfold Yld; go_simp; exact ⟨Ext.refl _, rfl⟩) ?_)
  (try simp only [Act.put, List.setIfInBounds_toArray, List.set_cons_zero, List.set_cons_succ])
  (first | refine wpF_val rfl (fun w' hE hD => by unfold Yld; go_simp; exact ⟨Ext.refl _, rfl⟩) ?_ | refine wpF_valg (by rfl) (fun w' hE hD => by unfold Yld; go_simp; exact ⟨Ext.refl _, rfl⟩) ?_)
  (try simp only [Act.put, List.setIfInBounds_toArray, List.set_cons_zero, List.set_cons_succ])
  (first | refine wpF_val rfl (fun w' hE hD => by unfold Yld; go_simp; exact ⟨Ext.refl _, rfl⟩) ?_ | refine wpF_valg (by rfl) (fun w' hE hD => by unfold Yld; go_simp; exact ⟨Ext.refl _, rfl⟩) ?_)
  (try simp only [Act.put, List.setIfInBounds_toArray, List.set_cons_zero, List.set_cons_succ])
  refine wpF_nil fun w3 hE3 hA => ?_
  simp only [List.drop_succ_cons, List.drop_zero]
  have HF := Aside0.mk (show 32 ≤ c2 ∧ Kd.C kb w3 A2 32 (R i) ∧ Ext w w3 from ⟨HFC.out.1, Kd.C_below HFC.out.2.1 hE3, HFC.out.2.2.trans hE3⟩)
  clear hA hE3 hu hcell HFC
  go_wp2
  go_ret2
  exact ⟨A2, c2, rfl, HF.out.1, HF.out.2.1, HF.out.2.2⟩
end
end Go.Proofs.Ytielnpmnnifjcaa.By

/- The document's own array: what lies in none of some blocks; SpoilRows; Big. -/
namespace Go.Proofs.Ytielnpmnnifjcaa.By
open Go.RowKit Go.Proofs.Ytielnpmnnifjcaa.Reg Go.Proofs.YtielnpmnnifjcaaW.PrintWords Go.Proofs.YtielnpmnnifjcaaW.PrintLast Go.Proofs.YtielnpmnnifjcaaW.PrintMore
set_option linter.unusedVariables false
set_option linter.unusedSimpArgs false


theorem slV_inj {s t : SlT} (h : slV s = slV t) : s = t := by
  obtain ⟨a, b, c⟩ := s
  obtain ⟨a', b', c'⟩ := t
  unfold slV at h
  injection h with h1 h2 h3
  dsimp only at h1 h2 h3
  rw [h1, h2, h3]
theorem RD.one {w : World} {B B' : Nat} {V : Value} {ds ds' : List Ce} (h : RD w B V ds) (h' : RD w B' V ds') : ds = ds' := by
  obtain ⟨A, c, e, hl, hC⟩ := Kd.R_reads h
  obtain ⟨A', c', e', hl', hC'⟩ := Kd.R_reads h'
  have e2 := e.symm.trans e'
  injection e2 with e1 e3 _
  subst e1
  refine List.ext_getElem e3 fun i h1 h2 => ?_
  obtain ⟨b, off, cs, ea, _, hK, hr⟩ := row_at hC (by decide) i h1 _ (List.getElem?_eq_getElem h1)
  obtain ⟨b', off', cs', ea', _, hK', hr'⟩ := row_at hC' (by decide) i h2 _ (List.getElem?_eq_getElem h2)
  have := dL_K hK
  subst this
  have := dL_K hK'
  subst this
  subst ea
  injection ea' with ea'
  injection ea' with eb eo _
  subst eb eo
  have q0 := (hr 0 _ rfl).symm.trans (hr' 0 _ rfl)
  have q1 := (hr 1 _ rfl).symm.trans (hr' 1 _ rfl)
  have q2 := (hr 2 _ rfl).symm.trans (hr' 2 _ rfl)
  injection q0 with q0
  injection q0 with q0
  injection q1 with q1
  injection q1 with _ q1
  injection q2 with q2
  exact Prod.ext q0 (Prod.ext q1 (slV_inj q2))
/-- The document's array, of which no change's bytes lie in X. -/
structure MX (X : Nat → Prop) (w : World) (B bm n : Nat) (V : Value) (L : List Ch) (last : Nat) : Prop where
  m : MR w B bm n V L last
  x : ∃ ds, RD w B V ds ∧ ∀ d ∈ ds, d.1 = false → ∀ k, (slV d.2.2).ownBlock = some k → ¬ X k
section
variable {w w' : World} {B bm n : Nat} {V : Value} {L : List Ch} {last : Nat} {S X : Nat → Prop}
theorem MX.ext (h : MX X w B bm n V L last) (he : Ext w w') : MX X w' B bm n V L last := by
  obtain ⟨ds, h1, h2⟩ := h.x
  exact ⟨h.m.ext he, ds, Kd.R_below h1 he, h2⟩
theorem MX.chgT (h : MX X w B bm n V L last) (k : Chg w w' S) (h55 : NT w S 55) (h34 : NT w S 34) (h5 : NT w S 5) : MX X w' B bm n V L last := by
  obtain ⟨ds, h1, h2⟩ := h.x
  refine ⟨h.m.chgT k h55 h34 h5, ds, h1.chg k (fun j hj hs => ?_), h2⟩
  obtain ⟨c, e⟩ := h1.typed j hj
  exact h34 j hs _ _ e
theorem MX.start (h : MR w B bm n V L last) (hX : ∀ k, X k → w.heap.size ≤ k) : MX X w B bm n V L last := by
  refine ⟨h, ?_⟩
  obtain ⟨ds, h1, h2, h3⟩ := h.dn
  refine ⟨ds, h1, fun d hd h0 k hk hx => ?_⟩
  obtain ⟨i, hi, e⟩ := List.getElem_of_mem hd
  have q := h3 i d (L[i]'(by omega)) (by rw [List.getElem?_eq_getElem hi, e]) (List.getElem?_eq_getElem _)
  rcases q.2.2 with q2 | q2
  · rw [← q.1, h0] at q2
    exact Bool.noConfusion q2.1
  · have := q2.2.blt k hk
    have := hX k hx
    omega
theorem MX.spoil (h : MX X w B bm n V L last) (k : Chg w w' S) (h55 : NT w S 55) (h34 : NT w S 34) (hS : ∀ j, S j → X j) : MR w' B bm n V L last := by
  obtain ⟨ds, h1, h2⟩ := h.x
  obtain ⟨ds', g1, g2, g3⟩ := h.m.dn
  obtain rfl := RD.one h1 g1
  refine ⟨k.blk h.m.bl (fun hs => h55 _ hs _ _ h.m.bl.is), ⟨ds, h1.chg k (fun j hj hs => ?_), g2, fun i d c hd hc => ?_⟩, h.m.le, h.m.ok, h.m.n64, h.m.ll, h.m.bb⟩
  · obtain ⟨c, e⟩ := h1.typed j hj
    exact h34 j hs _ _ e
  · obtain ⟨q1, q2, q3⟩ := g3 i d c hd hc
    refine ⟨q1, q2, ?_⟩
    rcases q3 with q3 | q3
    · exact .inl q3
    · refine .inr ⟨q3.1, q3.2.chg k (fun j hj hs => ?_)⟩
      exact h2 d (List.mem_of_getElem? hd) (q1.trans q3.1) j hj (hS j hs)
theorem MX.sync (h : MX X w B bm n V L last) : Calls Try.prog 24 #[.pointer (some ⟨bm, 0, none⟩)] w fun e w' => e = .returned (.tuple #[]) ∧ MR w' B bm n V L L.length ∧ Chg w w' (Ast bm V) := m_sync h.m
theorem mx_do_t (h : MX X w B bm n V L last) (hll : L.length ≤ 800) {w0 : World} (he0 : Ext w0 w) (hB : w0.heap.size ≤ B) (k : Nat) (hk : k < n) (A : Option Addr) (c : Nat) (xs : List Int) (hx : xs.length = 0) (hr : Kd.C kb w0 A 0 xs) (hc : 0 ≤ c) (hBw : B ≤ w.heap.size) (hX : ∀ k, X k → k < w.heap.size) :
    Calls Try.prog 20 #[.pointer (some ⟨bm, 0, none⟩), .agg #[.bool true, .int .i64 (k : Int), .slice A 0 c]] w fun e w' => ∃ V', e = .returned (.int .i64 0) ∧ MX X w' B bm n V' (L ++ [(true, (k : Int), z32)]) last ∧ Chg w w' (Ast bm V) ∧ OwnQ V w.heap.size V' := by
  refine (mdo_t_ok h.m hll he0 hB k hk A c xs hx hr hc hBw).mono ?_
  rintro e w2 ⟨V', ds, s, he, hm, hC, hO, h1, h2, h3⟩
  obtain ⟨ds', g1, g2⟩ := h.x
  obtain rfl := RD.one h1 g1
  refine ⟨V', he, ⟨hm, _, h2, fun d hd h0 j hj hxj => ?_⟩, hC, hO⟩
  rcases List.mem_append.1 hd with hd | hd
  · exact g2 d hd h0 j hj hxj
  · rw [List.mem_singleton.1 hd] at h0
    exact Bool.noConfusion h0
theorem mx_do_w (h : MX X w B bm n V L last) (hll : L.length ≤ 800) {w0 : World} (he0 : Ext w0 w) (hB : w0.heap.size ≤ B) (k : Nat) (hk : k < n) (A : Option Addr) (c : Nat) (xs : List Int) (hx : xs.length = 32) (hr : Kd.C kb w0 A 32 xs) (hc : 32 ≤ c) (hBw : B ≤ w.heap.size) (hX : ∀ k, X k → k < w.heap.size) :
    Calls Try.prog 20 #[.pointer (some ⟨bm, 0, none⟩), .agg #[.bool false, .int .i64 (k : Int), .slice A 32 c]] w fun e w' => ∃ V', e = .returned (.int .i64 0) ∧ MX X w' B bm n V' (L ++ [(false, (k : Int), xs)]) last ∧ Chg w w' (Ast bm V) ∧ OwnQ V w.heap.size V' := by
  refine (mdo_w_ok h.m hll he0 hB k hk A c xs hx hr hc hBw).mono ?_
  rintro e w2 ⟨V', ds, s, he, hm, hC, hO, h1, h2, h3⟩
  obtain ⟨ds', g1, g2⟩ := h.x
  obtain rfl := RD.one h1 g1
  refine ⟨V', he, ⟨hm, _, h2, fun d hd h0 j hj hxj => ?_⟩, hC, hO⟩
  rcases List.mem_append.1 hd with hd | hd
  · exact g2 d hd h0 j hj hxj
  · rw [List.mem_singleton.1 hd] at hj
    have := h3 j hj
    have := hX j hxj
    omega
end
/-! Rows are written over. -/
set_option maxRecDepth 100000 in
set_option maxHeartbeats 2000000 in
theorem spoilR_calls (w0 w : World) (V : Value) (rows : List (List Int)) (he : Ext w0 w) (h : NRs w w0.heap.size V rows) (hl : ∀ r ∈ rows, r.length ≤ 1000000) (hn : rows.length ≤ 1000000) : Calls Try.prog 32 #[V] w fun e w' => e = .returned (.tuple #[]) ∧ Ext w0 w' := by
  obtain ⟨ss, h1, h2, h3, h4⟩ := h
  obtain ⟨A, c, e, hlc, _⟩ := Kd.R_reads h1
  obtain ⟨n, hn'⟩ : ∃ n, n = ss.length := ⟨_, rfl⟩
  rw [← hn'] at e hlc
  subst e
  have HN := Aside0.mk (And.intro hn' (And.intro h2 hn))
  have H4 := Aside0.mk h4
  have HL := Aside0.mk hl
  have H3 := Aside0.mk (show ∀ (i : Nat) s r, 0 ≤ i → ss[i]? = some s → rows[i]? = some r → NB w w0.heap.size (slV s) r from fun i s r _ => h3 i s r)
  have H1 := Aside0.mk h1
  have HE0 := Aside0.mk he
  have hn9 : n ≤ 1000000 := by omega
  clear h1 h2 h3 h4 hn' hn hl he hlc
  go_enter Try.func32, Try.ntmps32
  go_wp2_with fail
  go_loopw [2] (fun j wr => ∃ x : Nat, j = .int .i64 x ∧ Aside0 (x ≤ n) ∧ Aside0 (Ext w0 wr) ∧ Aside0 (RS wr w0.heap.size (.slice A n c) ss) ∧ Aside0 (∀ (i : Nat) s r, x ≤ i → ss[i]? = some s → rows[i]? = some r → NB wr w0.heap.size (slV s) r)) (fun j _ => n - (intOf j).toNat)
  case atStart => exact ⟨0, rfl, ⟨Nat.zero_le _⟩, HE0, H1, H3⟩
  case round =>
    clear H3 H1 HE0
    obtain ⟨x, rfl, HX, HE, H1, H3⟩ := hrel
    have g1 := HX.out
    obtain ⟨wx, hwx⟩ : ∃ wx : World, wx = wr := ⟨_, rfl⟩
    subst hwx
    by_cases hlt : x < n
    · have hxn : (x : Int) < n := by omega
      have HLT := Aside0.mk hlt
      have hsx : x < ss.length := by have := HN.out.1; omega
      have hrx : x < rows.length := by have := HN.out.2.1; omega
      have hget : ss[x]? = some (ss[x]) := List.getElem?_eq_getElem _
      have hgetr : rows[x]? = some (rows[x]) := List.getElem?_eq_getElem _
      obtain ⟨A', c', e', _, hC⟩ := Kd.R_reads H1.out
      injection e' with e1 e2 e3
      rw [← e1] at hC
      obtain ⟨b, off, cs, eA, hcl, hK, hr⟩ := row_at hC (by decide) x hsx _ hget
      clear hcl
      have hK' : cs = [slV ss[x]] := hK
      subst hK'
      have hcell : wx.cell? ⟨b, off + x, none⟩ = some (slV ss[x]) := by
        have := hr 0 _ rfl
        have e9 : off + x * kSl.sz + 0 = off + x := by show off + x * 1 + 0 = off + x; omega
        rw [e9] at this
        exact this
      have HNB := Aside0.mk (H3.out x _ _ (Nat.le_refl _) hget hgetr)
      have HRL := Aside0.mk (HL.out _ (List.getElem_mem hrx))
      have HG := Aside0.mk hget
      clear hK hr hC e1 e2 e3 hget hgetr
      generalize ss[x] = s at hcell HNB HG
      generalize rows[x] = r at HNB HRL
      obtain ⟨sa, sb, sc⟩ := s
      have hcell : wx.cell? ⟨b, off + x, none⟩ = some (.slice sa sb sc) := hcell
      subst eA
      clear hlt hsx hrx
      go_wp2_with fail
      refine (spoil_calls wx r w0 (.slice sa sb sc) HE.out HNB.out (by have := HRL.out; omega)).mono ?_
      rintro e w2 ⟨rfl, hE, hK⟩
      have hC := Chg.of_kept HE.out hE hK
      have HE2 := Aside0.mk hE
      have HR2 := Aside0.mk (RS.chg H1.out hC (fun j hj hs => by
        obtain ⟨c1, e1⟩ := Kd.R_typed H1.out j hj
        obtain ⟨c2, e2⟩ := HNB.out.typed j hs
        rw [e2] at e1
        injection e1 with e1
        injection e1 with _ e1
        cases e1))
      have H32 := Aside0.mk (show ∀ (i : Nat) s r, x + 1 ≤ i → ss[i]? = some s → rows[i]? = some r → NB w2 w0.heap.size (slV s) r from fun i s r hi hs hr => (H3.out i s r (by omega) hs hr).chg hC (fun j hj hs2 => H4.out x i _ _ (by omega) HG.out hs j hs2 hj))
      clear hE hK hC H1 H3 HE hcell
      go_wp2_with fail
      go_roundw
      case rel => exact ⟨x + 1, by go_num, ⟨HLT.out⟩, HE2, HR2, H32⟩
      case measure => have := HLT.out; simp only [intOf]; omega
    · obtain rfl : x = n := by omega
      clear hlt
      go_wp2_with fail
      go_end0
      exact ⟨rfl, HE.out⟩
/-! Rows that are too many, or too long. -/
theorem mn_le (a b : Int) : mn a b ≤ b ∧ mn a b ≤ a ∧ (mn a b = a ∨ mn a b = b) := by
  unfold mn
  split <;> omega
theorem big_loop (l : List (List Int)) (hl : l.length ≤ 1000000) (d : Nat) : ∀ (k : Nat) (i x : Int), 0 ≤ i → i ≤ l.length → (l.length : Int) - i = d → d < k → 0 ≤ x → x ≤ 4000 → ∃ b, PArrayPlays.rillkit_Big.l0 k l 4000 x i = some b ∧ (b = false → ∀ r ∈ l.drop i.toNat, r.length ≤ 4000) := by
  induction d with
  | zero =>
    intro k i x h0 h1 hd hk hx0 hx1
    obtain ⟨k, rfl⟩ : ∃ m, k = m + 1 := ⟨k - 1, by omega⟩
    simp only [PArrayPlays.rillkit_Big.l0]
    rw [if_neg (by omega)]
    exact ⟨false, rfl, fun _ r hr => by rw [List.drop_of_length_le (by omega)] at hr; cases hr⟩
  | succ d ih =>
    intro k i x h0 h1 hd hk hx0 hx1
    obtain ⟨k, rfl⟩ : ∃ m, k = m + 1 := ⟨k - 1, by omega⟩
    simp only [PArrayPlays.rillkit_Big.l0]
    rw [if_pos (by omega), if_pos h0, wrap64_in (x := 4000 + 1) (by omega) (by omega)]
    obtain ⟨m1, m2, m3⟩ := mn_le ((PArrayPlays.rd_L3 l i).length : Int) (4000 + 1)
    generalize hm : mn ((PArrayPlays.rd_L3 l i).length : Int) (4000 + 1) = m at m1 m2 m3
    rw [wrap64_in (x := x + m) (by omega) (by omega)]
    by_cases hb : x + m > 4000
    · rw [if_pos hb]
      exact ⟨true, rfl, fun h => by cases h⟩
    · rw [if_neg hb, wrap64_in (x := i + 1) (by omega) (by omega)]
      obtain ⟨b, h3, h4⟩ := ih k (i + 1) (x + m) (by omega) (by omega) (by omega) (by omega) (by omega) (by omega)
      refine ⟨b, h3, fun hbf r hr => ?_⟩
      rw [rdL_at l i h0 (by omega)] at hr
      rcases List.mem_cons.1 hr with rfl | hr
      · omega
      · exact h4 hbf r hr
theorem big_at (w : World) (A : Option Addr) (c : Nat) (l : List (List Int)) {n : Nat} (hn : n = l.length) (hr : Kd.C kBB w A n l) (hc : n ≤ c) :
    Calls Try.prog 17 #[.slice A n c, .int .i64 80, .int .i64 4000] w fun e w' => ∃ b, e = .returned (.bool b) ∧ (b = false → l.length ≤ 80 ∧ ∀ r ∈ l, r.length ≤ 4000) ∧ Ext w w' := by
  subst hn
  by_cases h : (l.length : Int) > 80
  · exact (PArrayPlays.rillkit_Big.calls 0 A c l 80 4000 true w hr hc (by unfold PArrayPlays.rillkit_Big.f; rw [if_pos h])).mono fun e w' h => ⟨true, h.1, (fun h => by cases h), h.2⟩
  · obtain ⟨b, h1, h2⟩ := big_loop l (by omega) l.length (l.length + 1) 0 0 (by omega) (by omega) (by omega) (by omega) (by omega) (by omega)
    exact (PArrayPlays.rillkit_Big.calls (l.length + 1) A c l 80 4000 b w hr hc (by unfold PArrayPlays.rillkit_Big.f; rw [if_neg h]; exact h1)).mono fun e w' h => ⟨b, h.1, (fun hb => ⟨by omega, fun r hr => h2 hb r hr⟩), h.2⟩
end Go.Proofs.Ytielnpmnnifjcaa.By

/- Both arrays: whatever is asked, each answers the same. -/
namespace Go.Proofs.Ytielnpmnnifjcaa.By
open Go.RowKit Go.Proofs.Ytielnpmnnifjcaa.Reg Go.Proofs.YtielnpmnnifjcaaW.PrintWords Go.Proofs.YtielnpmnnifjcaaW.PrintLast Go.Proofs.YtielnpmnnifjcaaW.PrintMore
set_option linter.unusedVariables false
set_option linter.unusedSimpArgs false


def doE (n : Nat) (tr : Bool) (k : Int) (m : Nat) : Int := if 0 ≤ k ∧ k < (n : Int) ∧ m = (if tr = true then 0 else 32) then 0 else 1
def doL (n : Nat) (L : List Ch) (tr : Bool) (k : Int) (xs : List Int) : List Ch := if 0 ≤ k ∧ k < (n : Int) ∧ xs.length = (if tr = true then 0 else 32) then L ++ [(tr, k, if tr = true then z32 else xs)] else L
theorem doL_len (n : Nat) (L : List Ch) (tr : Bool) (k : Int) (xs : List Int) : (doL n L tr k xs).length ≤ L.length + 1 := by
  by_cases h : 0 ≤ k ∧ k < (n : Int) ∧ xs.length = (if tr = true then 0 else 32)
  · have e : doL n L tr k xs = L ++ [(tr, k, if tr = true then z32 else xs)] := if_pos h
    rw [e, List.length_append]
    exact Nat.le_refl _
  · have e : doL n L tr k xs = L := if_neg h
    rw [e]
    exact Nat.le_succ _
def faE (L : List Ch) (last : Nat) (m : Int) : Int := if m < 0 ∨ ((L.length - last : Nat) : Int) < m then 7 else 0
def faL (L : List Ch) (last : Nat) (m : Int) : List Ch := if m < 0 ∨ ((L.length - last : Nat) : Int) < m then L else L.take (last + m.toNat)
def faN (L : List Ch) (last : Nat) (m : Int) : Nat := if m < 0 ∨ ((L.length - last : Nat) : Int) < m then last else last + m.toNat
theorem faL_len (L : List Ch) (last : Nat) (m : Int) : (faL L last m).length ≤ L.length := by
  unfold faL
  split
  · exact Nat.le_refl _
  · rw [List.length_take]
    omega
section
variable {w w' : World} {B ba bm n : Nat} {V U : Value} {L : List Ch} {last : Nat} {S X : Nat → Prop}
theorem MR.lt (h : MR w B bm n V L last) : ∀ j, Ast bm V j → j < w.heap.size := by
  rintro j (rfl | hj)
  · exact h.bl.lt
  · obtain ⟨ds, h1, _⟩ := h.dn
    exact Kd.R_lt h1 j hj
theorem ar_do_any (h : AR w B ba n V L last) (hl : L.length ≤ 900) (hB : B ≤ w.heap.size) (tr : Bool) (k : Int) (A : Option Addr) (m c : Nat) (xs : List Int) (hm : m = xs.length) (hr : Kd.C kb w A m xs) (hc : m ≤ c) :
    Calls Try.prog 9 #[.pointer (some ⟨ba, 0, none⟩), .agg #[.bool tr, .int .i64 k, .slice A m c]] w fun e w' => ∃ V', e = .returned (.int .i64 (doE n tr k m)) ∧ AR w' B ba n V' (doL n L tr k xs) last ∧ Chg w w' (Ast ba V) := by
  by_cases hok : 0 ≤ k ∧ k < (n : Int) ∧ m = (if tr = true then 0 else 32)
  · have e1 : doE n tr k m = 0 := if_pos hok
    have e2 : doL n L tr k xs = L ++ [(tr, k, if tr = true then z32 else xs)] := if_pos (hm ▸ hok)
    rw [e1, e2]
    obtain ⟨h0, h1, h2⟩ := hok
    obtain ⟨j, rfl⟩ : ∃ j : Nat, k = j := ⟨k.toNat, by omega⟩
    cases tr with
    | true =>
      have h2 : m = 0 := h2
      subst h2
      exact (ar_do_t h hl j (by omega) A c hB).mono fun e w' ⟨V', a, b, c, _⟩ => ⟨V', a, b, c⟩
    | false =>
      have h2 : m = 32 := h2
      subst h2
      exact (ar_do_w h hl j (by omega) A c xs hm.symm hr hc hB).mono fun e w' ⟨V', a, b, c, _⟩ => ⟨V', a, b, c⟩
  · have e1 : doE n tr k m = 1 := if_neg hok
    have e2 : doL n L tr k xs = L := if_neg (hm ▸ hok)
    rw [e1, e2]
    refine (ar_do_bad h tr k A m c ?_).mono fun e w' ⟨a, b⟩ => ⟨V, a, h.ext b, Chg.of_ext b _⟩
    by_cases h0 : k < 0
    · exact .inl h0
    · by_cases h1 : (n : Int) ≤ k
      · exact .inr (.inl h1)
      · exact .inr (.inr (fun h2 => hok ⟨by omega, by omega, h2⟩))
theorem mx_do_any (h : MX X w B bm n V L last) (hll : L.length ≤ 800) {w0 : World} (he0 : Ext w0 w) (hB : w0.heap.size ≤ B) (hBw : B ≤ w.heap.size) (hX : ∀ k, X k → k < w.heap.size) (tr : Bool) (k : Int) (A : Option Addr) (m c : Nat) (xs : List Int) (hm : m = xs.length) (hr : Kd.C kb w0 A m xs) (hc : m ≤ c) :
    Calls Try.prog 20 #[.pointer (some ⟨bm, 0, none⟩), .agg #[.bool tr, .int .i64 k, .slice A m c]] w fun e w' => ∃ V', e = .returned (.int .i64 (doE n tr k m)) ∧ MX X w' B bm n V' (doL n L tr k xs) last ∧ Chg w w' (Ast bm V) := by
  by_cases hok : 0 ≤ k ∧ k < (n : Int) ∧ m = (if tr = true then 0 else 32)
  · have e1 : doE n tr k m = 0 := if_pos hok
    have e2 : doL n L tr k xs = L ++ [(tr, k, if tr = true then z32 else xs)] := if_pos (hm ▸ hok)
    rw [e1, e2]
    obtain ⟨h0, h1, h2⟩ := hok
    obtain ⟨j, rfl⟩ : ∃ j : Nat, k = j := ⟨k.toNat, by omega⟩
    cases tr with
    | true =>
      have h2 : m = 0 := h2
      subst h2
      exact (mx_do_t h hll he0 hB j (by omega) A c xs hm.symm hr hc hBw hX).mono fun e w' ⟨V', a, b, c, _⟩ => ⟨V', a, b, c⟩
    | false =>
      have h2 : m = 32 := h2
      subst h2
      exact (mx_do_w h hll he0 hB j (by omega) A c xs hm.symm hr hc hBw hX).mono fun e w' ⟨V', a, b, c, _⟩ => ⟨V', a, b, c⟩
  · have e1 : doE n tr k m = 1 := if_neg hok
    have e2 : doL n L tr k xs = L := if_neg (hm ▸ hok)
    rw [e1, e2]
    refine (m_do_bad h.m tr k A m c ?_).mono fun e w' ⟨a, b⟩ => ⟨V, a, h.ext b, Chg.of_ext b _⟩
    by_cases h0 : k < 0
    · exact .inl h0
    · by_cases h1 : (n : Int) ≤ k
      · exact .inr (.inl h1)
      · exact .inr (.inr (fun h2 => hok ⟨by omega, by omega, h2⟩))
theorem ar_fall_any (h : AR w B ba n V L last) (m : Int) :
    Calls Try.prog 11 #[.pointer (some ⟨ba, 0, none⟩), .int .i64 m] w fun e w' => ∃ V', e = .returned (.int .i64 (faE L last m)) ∧ AR w' B ba n V' (faL L last m) (faN L last m) ∧ Chg w w' (Ast ba V) := by
  by_cases hb : m < 0 ∨ ((L.length - last : Nat) : Int) < m
  · have e1 : faE L last m = 7 := if_pos hb
    have e2 : faL L last m = L := if_pos hb
    have e3 : faN L last m = last := if_pos hb
    rw [e1, e2, e3]
    exact (ar_fall_no h m hb).mono fun e w' ⟨a, b⟩ => ⟨V, a, b ▸ h, b ▸ Chg.refl _ _⟩
  · have e1 : faE L last m = 0 := if_neg hb
    have e2 : faL L last m = L.take (last + m.toNat) := if_neg hb
    have e3 : faN L last m = last + m.toNat := if_neg hb
    rw [e1, e2, e3]
    obtain ⟨j, rfl⟩ : ∃ j : Nat, m = j := ⟨m.toNat, by omega⟩
    rw [Int.toNat_natCast]
    exact (ar_fall h j (by omega)).mono fun e w' ⟨a, b, c⟩ => ⟨_, a, b, c⟩
theorem m_fall_any (h : MR w B bm n V L last) (m : Int) :
    Calls Try.prog 25 #[.pointer (some ⟨bm, 0, none⟩), .int .i64 m] w fun e w' => ∃ V', e = .returned (.int .i64 (faE L last m)) ∧ MR w' B bm n V' (faL L last m) (faN L last m) ∧ Chg w w' (Ast bm V) := by
  by_cases hb : m < 0 ∨ ((L.length - last : Nat) : Int) < m
  · have e1 : faE L last m = 7 := if_pos hb
    have e2 : faL L last m = L := if_pos hb
    have e3 : faN L last m = last := if_pos hb
    rw [e1, e2, e3]
    exact (m_fall_no h m hb).mono fun e w' ⟨a, b⟩ => ⟨V, a, h.ext b, Chg.of_ext b _⟩
  · have e1 : faE L last m = 0 := if_neg hb
    have e2 : faL L last m = L.take (last + m.toNat) := if_neg hb
    have e3 : faN L last m = last + m.toNat := if_neg hb
    rw [e1, e2, e3]
    obtain ⟨j, rfl⟩ : ∃ j : Nat, m = j := ⟨m.toNat, by omega⟩
    rw [Int.toNat_natCast]
    exact (m_fall h j (by omega)).mono fun e w' ⟨V', a, b, c, _⟩ => ⟨V', a, b, c⟩
theorem aftM_far (n : Nat) : ∀ (L : List Ch) (M : Nat → Bool), (∀ p ∈ L, okC n p) → (∀ i, n ≤ i → M i = false) → ∀ i, n ≤ i → aftM M L i = false
  | [], M, _, hM, i, hi => hM i hi
  | p :: L, M, hL, hM, i, hi => by
    show aftM (doM M p) L i = false
    refine aftM_far n L (doM M p) (fun q hq => hL q (List.mem_cons_of_mem _ hq)) (fun j hj => ?_) i hi
    have h := hL p (List.mem_cons_self ..)
    unfold doM upd
    rw [if_neg (by have := h.1; have := h.2.1; omega)]
    exact hM j hj
theorem cntM_far {M : Nat → Bool} {n : Nat} (h : ∀ i, n ≤ i → M i = false) : ∀ d, cntM M (n + d) = cntM M n
  | 0 => rfl
  | d + 1 => by
    show cntM M (n + d) + (if M (n + d) = true then 1 else 0) = cntM M n
    rw [cntM_far h d, h (n + d) (Nat.le_add_right _ _)]
    rfl
theorem MR.cnt (h : MR w B bm n V L last) : cntM (aftM zM L) 64 = cntM (aftM zM L) n := by
  have := h.n64
  obtain ⟨d, hd⟩ : ∃ d, 64 = n + d := ⟨64 - n, by omega⟩
  rw [hd]
  exact cntM_far (aftM_far n L zM h.ok (fun i _ => rfl)) d
theorem m_mapped64 (h : MR w B bm n V L last) : Calls Try.prog 31 #[.pointer (some ⟨bm, 0, none⟩)] w fun e w' => e = .returned (.int .i64 (cntM (aftM zM L) 64)) ∧ Ext w w' := by
  rw [h.cnt]
  exact m_mapped h
theorem m_match_at (h : MR w B bm n V L last) (Ar : Option Addr) (m cr : Nat) (rows : List (List Int)) (hm : m = rows.length) (hr : Kd.C kBB w Ar m rows) (hcr : m ≤ cr) (k : Nat) (ok : Bool) (hq : AQ n L last rows k ok) :
    Calls Try.prog 27 #[.pointer (some ⟨bm, 0, none⟩), .slice Ar m cr] w fun e w' => e = .returned (.tuple #[.int .i64 (k : Int), .bool ok]) ∧ Ext w w' :=
  (m_match h Ar m cr rows hm hr hcr).mono fun e w' ⟨k', ok', he, h1, h2⟩ => by
    obtain ⟨a, b⟩ := h1.one hq
    subst a b
    exact ⟨he, h2⟩
end
def PD1 (X : Nat → Prop) (B ba bm n : Nat) (U : Value) (L' L : List Ch) (l' last : Nat) (z : World) : Prop := ∃ V', AR z B ba n V' L' l' ∧ MX X z B bm n U L last
def PD2 (X : Nat → Prop) (B ba bm n : Nat) (L' : List Ch) (l' : Nat) (z : World) : Prop := ∃ V' U', AR z B ba n V' L' l' ∧ MX X z B bm n U' L' l'
def PF1 (B ba bm n : Nat) (U : Value) (L' L : List Ch) (l' last : Nat) (z : World) : Prop := ∃ V', AR z B ba n V' L' l' ∧ MR z B bm n U L last
def PF2 (B ba bm n : Nat) (L' : List Ch) (l' : Nat) (z : World) : Prop := ∃ V' U', AR z B ba n V' L' l' ∧ MR z B bm n U' L' l'
/-! The acts. -/
abbrev Ac := Int × Int × Ch × List (List Int)
abbrev kAct : Kd Ac := Kd.pair (Kd.int .i64) (Kd.pair (Kd.int .i64) (Kd.pair kIn (Kd.slice 31 kBB)))
theorem act_at {w : World} {A : Option Addr} {n : Nat} {L : List Ac} (h : Kd.C kAct w A n L) (x : Nat) (hx : x < n) (p : Ac) (hp : L[x]? = some p) :
    ∃ b off AD cd AR cr, A = some ⟨b, off, none⟩ ∧ w.rangeAt b (off + x * 6) [.int .i64 p.1, .int .i64 p.2.1, .bool p.2.2.1.1, .int .i64 p.2.2.1.2.1, .slice AD p.2.2.1.2.2.length cd, .slice AR p.2.2.2.length cr] ∧ p.2.2.1.2.2.length ≤ cd ∧ Kd.C kb w AD p.2.2.1.2.2.length p.2.2.1.2.2 ∧ p.2.2.2.length ≤ cr ∧ Kd.C kBB w AR p.2.2.2.length p.2.2.2 := by
  obtain ⟨b, off, cs, e, h1, h2, h3⟩ := row_at h (by decide) x hx p hp
  obtain ⟨a0, r0, e0, k0, h2⟩ := h2
  obtain ⟨a1, r1, e1, k1, h2⟩ := h2
  obtain ⟨a2, r2, e2, k2, ⟨AR, cr, k3, l3, m3⟩⟩ := h2
  obtain ⟨AD, cd, k2, l2, m2⟩ := kIn_K k2
  have k0' : a0 = [.int .i64 p.1] := k0
  have k1' : a1 = [.int .i64 p.2.1] := k1
  subst k0' k1' k2 k3 e2 e1 e0
  exact ⟨b, off, AD, cd, AR, cr, e, h3, l2, m2, l3, m3⟩
theorem range_part {w : World} {b off : Nat} {cs : List Value} (h : w.rangeAt b off cs) (i n : Nat) : w.rangeAt b (off + i) ((cs.drop i).take n) := fun j v hv => by
  rw [List.getElem?_take] at hv
  split at hv
  · rw [List.getElem?_drop] at hv
    have := h (i + j) v hv
    rw [show off + i + j = off + (i + j) by omega]
    exact this
  · cases hv
theorem YldR_load {P : Program} {w : World} {o : Oper} {a : Act} (ty : TypeId) (x : Operand) (ho : o.op = .load ty x) (b off : Nat) (hx : a.eval x = .pointer (some ⟨b, off, none⟩)) (cs : List Value) (d : TypeDesc) (hc : w.rangeAt b off cs)
    (hu : P.underlying ty = some d) (hd : d.isRow = true) (hi : (P.info? ty).map (·.size) = some cs.length) : YldR Ext P o a w (.val (.agg cs.toArray)) := by
  have h := Yld_load (P := P) (w := w) (o := o) (a := a) ty x ho b off hx cs d hc hu hd hi
  unfold Yld at h
  unfold YldR
  generalize (execOp a.eval o).run P w = r at h
  cases r with
  | ok n w' => cases n <;> exact h
  | halt x w' => exact h
theorem lent_at (w : World) (A : Option Addr) (c : Nat) (xs : List Int) {m : Nat} (hn : m = xs.length) (hr : Kd.C kb w A m xs) (hc : m ≤ c) (hl : m ≤ 2000) : Calls Try.prog 19 #[.slice A m c] w fun e w' => ∃ V, e = .returned V ∧ NB w' w.heap.size V (lent xs) ∧ Ext w w' := by
  subst hn
  exact lent_calls w A c xs hr hc (by omega)
theorem kept_at (w : World) (A B : Option Addr) (c d : Nat) (xs : List Int) {m5 m : Nat} (h5 : m5 = (lent xs).length) (hn : m = xs.length) (hr : Kd.C kb w A m5 (lent xs)) (hc : m5 ≤ c) (hr' : Kd.C kb w B m xs) (hc' : m ≤ d) (hl : m ≤ 2000) : Calls Try.prog 21 #[.slice A m5 c, .slice B m d] w fun e w' => e = .returned (.bool true) ∧ Ext w w' := by
  subst h5; subst hn
  exact kept_calls w A B c d xs (lent xs) rfl hr hc hr' hc' (by omega)
theorem nt_own5 {w : World} {B : Nat} {V : Value} {xs : List Int} (h : NB w B V xs) (t : Nat) (ht : t ≠ 5) : NT w (fun j => V.ownBlock = some j) t := nt_own h.typed t ht
end Go.Proofs.Ytielnpmnnifjcaa.By
