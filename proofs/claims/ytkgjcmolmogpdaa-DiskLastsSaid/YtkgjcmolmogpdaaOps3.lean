/- The disk's methods: Tamper, New. -/
import Derived.Test.YtkgjcmolmogpdaaOps2
namespace Go.Proofs.Ytkgjcmolmogpdaa.By
open Go.RowKit Go.Proofs.Ytkgjcmolmogpdaa.Reg Go.Proofs.YtkgjcmolmogpdaaW.PrintWords Go.Proofs.YtkgjcmolmogpdaaW.PrintLast Go.Proofs.YtkgjcmolmogpdaaW.PrintMore
set_option linter.unusedVariables false
set_option linter.unusedSimpArgs false


set_option maxRecDepth 100000 in
set_option maxHeartbeats 2000000 in
theorem tamper_wrong {w : World} {bd bl bc br n : Nat} {LV : List Value} {CV : List (Int × Value)} {ar : Bool} {lf : Int} {of : Bool} {wr : Int} {rd : List Int} (h : DV w bd bl bc br n LV CV ar lf of wr rd) (i : Int) (A : Option Addr) (m c : Nat) (q : Int) (hq : wrongF i n m = q) (hq0 : ¬ q = 0) :
    Calls Try.prog 28 #[.pointer (some ⟨bd, 0, none⟩), .int .i64 i, .slice A m c] w fun e w' => e = .returned (.int .i64 q) ∧ w = w' := by
  have HW := Aside0.mk (wrong_calls h i A m c)
  have HD := Aside0.mk h
  obtain ⟨c0, c1, c2, c3, c4, c5, c6⟩ := h.cells
  clear h
  rw [hq] at HW
  clear hq
  go_enter Try.func28, Try.ntmps28
  go_wp2_with fail
  refine HW.out.mono ?_
  rintro e w1 ⟨rfl, rfl⟩
  clear HW
  go_wp2
  go_ret
  exact ⟨rfl, rfl⟩
theorem delA_range {α : Type} {l : List (Int × α)} {n : Nat} (h : ∀ p ∈ l, 0 ≤ p.1 ∧ p.1 < n) (i : Int) : ∀ p ∈ delA l i, 0 ≤ p.1 ∧ p.1 < n := fun p hp => h p (mem_delA.1 hp).1
set_option maxRecDepth 100000 in
set_option maxHeartbeats 8000000 in
theorem tamper_ok {w : World} {bd bl bc br n : Nat} {LV : List Value} {CV : List (Int × Value)} {ar : Bool} {lf : Int} {of : Bool} {wr : Int} {rd : List Int} (h : DV w bd bl bc br n LV CV ar lf of wr rd) (i : Int) (A : Option Addr) (m c : Nat) (xs : List Int) (hn : m = xs.length) (hr : Kd.F kb w (fun k => ¬ Dst bd bl bc br k) A m xs) (hc : m ≤ c) (hq : wrongF i n m = 0) :
    Calls Try.prog 28 #[.pointer (some ⟨bd, 0, none⟩), .int .i64 i, .slice A m c] w fun e w' => ∃ U, e = .returned (.int .i64 0) ∧ NB w' w.heap.size U xs ∧ DV w' bd bl bc br n (LV.set i.toNat U) (delA CV i) ar lf of wr rd ∧ Chg w w' (Dst bd bl bc br) := by
  have HW := Aside0.mk (wrong_calls h i A m c)
  have HD := Aside0.mk h
  obtain ⟨c0, c1, c2, c3, c4, c5, c6⟩ := h.cells
  clear h
  rw [hq] at HW
  have hin : inB i n = true := by
    cases hb : inB i n with
    | true => rfl
    | false => unfold wrongF at hq; rw [hb, if_pos rfl] at hq; cases hq
  have hm : m ≤ 1024 := by
    unfold wrongF at hq
    rw [hin, if_neg (by decide)] at hq
    rcases Nat.lt_or_ge 1024 m with h | h
    · rw [if_pos h] at hq; cases hq
    · exact h
  obtain ⟨h0, h1⟩ := inB_t hin
  have hnn := HD.out.nn
  obtain ⟨k, rfl⟩ : ∃ k : Nat, i = k := ⟨i.toNat, by omega⟩
  have hkl : k < LV.length := by rw [HD.out.ll]; omega
  have HI := Aside0.mk (show -9223372036854775808 ≤ (k : Int) ∧ (k : Int) ≤ 9223372036854775807 from ⟨by omega, by omega⟩)
  have HN := Aside0.mk hn
  have HR := Aside0.mk (Kd.F_now hr)
  have hkn : (k : Int) < n := h1
  clear hq hn hr hin h0 h1
  go_enter Try.func28, Try.ntmps28
  go_wp2_with fail
  refine HW.out.mono ?_
  rintro e w1 ⟨rfl, rfl⟩
  clear HW
  go_wp2_with fail
  apply wp_region_facts 8 [RF.val _, RF.val _, RF.val _, RF.val _, RF.val _, RF.val _, RF.fact (fun u w' => NbQ w.heap.size xs u w'), RF.val _]
  case hm => kernel_rfl
  case hB => kernel_rfl
  simp only [List.take_succ_cons, List.take_zero, List.zip_cons_cons, List.zip_nil_left]
  (first | refine wpF_val rfl (fun w' hE hD => by unfold Yld; go_simp; exact ⟨Ext.refl _, rfl⟩) ?_ | refine wpF_valg (by rfl) (fun w' hE hD => by unfold Yld; go_simp; exact ⟨Ext.refl _, rfl⟩) ?_)
  (try simp only [Act.put, List.setIfInBounds_toArray, List.set_cons_zero, List.set_cons_succ])
  (first | refine wpF_val rfl (fun w' hE hD => by unfold Yld; go_simp; exact ⟨Ext.refl _, rfl⟩) ?_ | refine wpF_valg (by rfl) (fun w' hE hD => by unfold Yld; go_simp; exact ⟨Ext.refl _, rfl⟩) ?_)
  (try simp only [Act.put, List.setIfInBounds_toArray, List.set_cons_zero, List.set_cons_succ])
  (first | refine wpF_val rfl (fun w' hE hD => by unfold Yld; go_simp; exact ⟨Ext.refl _, rfl⟩) ?_ | refine wpF_valg (by rfl) (fun w' hE hD => by unfold Yld; go_simp; exact ⟨Ext.refl _, rfl⟩) ?_)
  (try simp only [Act.put, List.setIfInBounds_toArray, List.set_cons_zero, List.set_cons_succ])
  (first | refine wpF_val rfl (fun w' hE hD => by have hc0 := Ext.cell hE c0; unfold Yld; go_simp; exact ⟨Ext.refl _, rfl⟩) ?_ | refine wpF_valg (by rfl) (fun w' hE hD => by have hc0 := Ext.cell hE c0; unfold Yld; go_simp; exact ⟨Ext.refl _, rfl⟩) ?_)
  (try simp only [Act.put, List.setIfInBounds_toArray, List.set_cons_zero, List.set_cons_succ])
  (first | refine wpF_val rfl (fun w' hE hD => by unfold Yld; go_simp; exact ⟨Ext.refl _, rfl⟩) ?_ | refine wpF_valg (by rfl) (fun w' hE hD => by unfold Yld; go_simp; exact ⟨Ext.refl _, rfl⟩) ?_)
  (try simp only [Act.put, List.setIfInBounds_toArray, List.set_cons_zero, List.set_cons_succ])
  (first | refine wpF_val rfl (fun w' hE hD => by unfold Yld; go_simp; exact ⟨Ext.refl _, rfl⟩) ?_ | refine wpF_valg (by rfl) (fun w' hE hD => by unfold Yld; go_simp; exact ⟨Ext.refl _, rfl⟩) ?_)
  (try simp only [Act.put, List.setIfInBounds_toArray, List.set_cons_zero, List.set_cons_succ])
  refine wpF_fact rfl (fun u Wa Wb h he => h.ext he) (fun w' hE hD => ?_) (fun u21 => ?_)
  · unfold Yld; go_simp; exact (clone_calls w' A m c xs HN.out (Kd.C_below HR.out hE) hc (by omega)).mono fun e w2 h => by obtain ⟨U, h1, h2, h3⟩ := h; exact ⟨U, h1, h3, h2.lower hE.size⟩
  (try simp only [Act.put, List.setIfInBounds_toArray, List.set_cons_zero, List.set_cons_succ])
  (first | refine wpF_val rfl (fun w' hE hD => by unfold Yld; go_simp; exact ⟨Ext.refl _, rfl⟩) ?_ | refine wpF_valg (by rfl) (fun w' hE hD => by unfold Yld; go_simp; exact ⟨Ext.refl _, rfl⟩) ?_)
  (try simp only [Act.put, List.setIfInBounds_toArray, List.set_cons_zero, List.set_cons_succ])
  refine wpF_nil fun w3 hE3 hA => ?_
  simp only [List.drop_succ_cons, List.drop_zero]
  have hu := show NB w3 w.heap.size u21 xs from hA.1
  obtain ⟨A1, c1', hU, _, _⟩ := hu.reads
  subst hU
  have HU := Aside0.mk hu
  have HD3 := Aside0.mk (HD.out.ext hE3)
  have HC3 := Aside0.mk (Chg.of_ext hE3 (Dst bd bl bc br))
  clear hA hE3 c0 c1 c2 c3 c4 c5 c6 hu
  have hvL := HD3.out.hl.cell k (v := LV[k]) (by simp [hkl])
  have hfL := HD3.out.hl.free k
  obtain ⟨AL, nL, cL, hLV⟩ := HD3.out.sl _ (List.getElem_mem hkl)
  rw [hLV] at hvL
  obtain ⟨nx, hnx⟩ : ∃ q, q = xs.length := ⟨_, rfl⟩
  rw [← hnx] at HU ⊢
  have HD4 := Aside0.mk (HD3.out.setL k (.slice A1 nx c1') ⟨_, _, _, rfl⟩)
  have hcc := Chg.of_wrote (S := Dst bd bl bc br) (Wrote.setCell w3 bl k (.slice A1 nx c1')) (.inr (.inl rfl))
  have HU4 := Aside0.mk (HU.out.chg hcc (HU.out.apart HD3.out))
  have HC4 := Aside0.mk (HC3.out.trans hcc)
  have HM := Aside0.mk HD4.out.hm
  obtain ⟨c0, c1, c2, c3, c4, c5, c6⟩ := HD3.out.cells
  have hbl : bl ≠ bd := Ne.symm HD3.out.ne_dl
  clear hcc HC3 HU hLV hnx HD3
  go_wp2_with (first | (at_delete; refine wpList_delete_own _ rfl _ _ 70 3 rfl 29 (Maps.int_keyed Try.underlying3) Try.underlying70 RM bc CV.length (mapD CV) rfl HM.out _ (.int .i64 (k : Int)) rfl (Maps.keyOf_int_mk Try.underlying3 (i64_wf HI.out)) ?_) | fail)
  clear hvL hfL c0 c1 c2 c3 c4 c5 c6
  generalize w3.setCell ⟨bl, k, none⟩ (.slice A1 nx c1') = w4 at *
  intro w5 hM hT
  rw [mapD_del] at hM
  have HD5 := Aside0.mk (HD4.out.setM hT hM (rise_delA HD4.out.ks _) (delA_range HD4.out.kr _) (fun p hp => HD4.out.sc p (mem_delA.1 hp).1))
  have hcc := HD4.out.maps hT
  have HU5 := Aside0.mk (HU4.out.chg hcc (HU4.out.apart HD4.out))
  have HC5 := Aside0.mk (HC4.out.trans hcc)
  clear hM hT hcc HM HD4 HU4 HC4
  go_wp2_with fail
  go_ret
  exact ⟨_, rfl, HU5.out, HD5.out, HC5.out⟩

/-! New -/
section
variable {P : Program} {w : World} {ops : Array Oper} {rest : List Oper} {o : Oper} {a : Act} {Q : Exit → Act → World → Prop}
theorem Yld_build (t : TypeId) (parts : Array (Nat × Operand)) (ho : o.op = .build t parts) (cells : Array Value) (vals : List (Nat × Value)) (he : parts.toList.map (fun p => (p.1, a.eval p.2)) = vals) (h : P.built t vals = some cells) : Yld P o a w (.val (.agg cells)) := by
  have h' : P.built t (parts.map fun (i, x) => (i, a.eval x)).toList = some cells := by rw [Array.toList_map, ← h, ← he]
  unfold Yld execOp
  simp only [ho, Sem.run_bind, run_build w t _ _ h', Result.andThen_ok, Sem.run_pure]
  exact ⟨Ext.refl _, rfl⟩
theorem gate_build {ty : TypeId} {x : Array (Nat × Operand)} (_ho : o.op = .build ty x) (h : wpList P ops Q (o :: rest) a w) : wpList P ops Q (o :: rest) a w := h
theorem build_at (hw : Region.wanted o (yielded ops a.tmps) = true) (t : TypeId) (parts : Array (Nat × Operand)) (ho : o.op = .build t parts) (cells : Array Value) (vals : List (Nat × Value)) (he : parts.toList.map (fun p => (p.1, a.eval p.2)) = vals) (hb : P.built t vals = some cells)
    (h : wpList P ops Q rest (a.put o.dst (.agg cells)) w) : wpList P ops Q (o :: rest) a w :=
  have h' : P.built t (parts.map fun (i, x) => (i, a.eval x)).toList = some cells := by rw [Array.toList_map, ← hb, ← he]
  BigFrame.wpList_want hw fun K hK => wp_build t parts ho (by rw [h']; rfl) (by rw [h']; exact hK _ _ h)
end
theorem made_one (z : Value) (h : z.cells = #[z]) (n : Nat) : madeCells z.cells (n * 1) = (List.replicate n z).toArray := by
  rw [h, Nat.mul_one]
  unfold madeCells
  apply Array.ext
  · simp
  · intro i h1 h2
    simp [Nat.mod_one]
def RowQ (B n : Nat) (z : Value) (t : TypeId) (u : Value) (w : World) : Prop := ∃ b, u = .slice (some ⟨b, 0, none⟩) n n ∧ B ≤ b ∧ Blk w b (List.replicate n z).toArray t
def MapQ (B : Nat) (u : Value) (w : World) : Prop := ∃ b, u = .map (some b) ∧ B ≤ b ∧ w.ownsMap Try.prog 3 RM b 0 (mapD [])
theorem RowQ.ext {B n : Nat} {z : Value} {t : TypeId} {u : Value} {w w' : World} (h : RowQ B n z t u w) (he : Ext w w') : RowQ B n z t u w' := by
  obtain ⟨b, h1, h2, h3⟩ := h
  exact ⟨b, h1, h2, h3.ext he⟩
theorem MapQ.ext {B : Nat} {u : Value} {w w' : World} (h : MapQ B u w) (he : Ext w w') : MapQ B u w' := by
  obtain ⟨b, h1, h2, h3⟩ := h
  exact ⟨b, h1, h2, (Chg.of_ext he (fun _ => False)).map h3 (fun h => h)⟩
def BoxQ (B : Nat) (cs : Array Value) (t : TypeId) (u : Value) (w : World) : Prop := ∃ b, u = .pointer (some ⟨b, 0, none⟩) ∧ B ≤ b ∧ Blk w b cs t
theorem BoxQ.ext {B : Nat} {cs : Array Value} {t : TypeId} {u : Value} {w w' : World} (h : BoxQ B cs t u w) (he : Ext w w') : BoxQ B cs t u w' := by
  obtain ⟨b, h1, h2, h3⟩ := h
  exact ⟨b, h1, h2, h3.ext he⟩
theorem info_of {e : TypeId} {x : Option Value × Nat × Nat} (h : (Try.prog.info? e).map (fun i => (i.zero, i.size, i.bytes)) = some x) : ∃ i, Try.prog.info? e = some i ∧ (i.zero, i.size, i.bytes) = x := Option.map_eq_some_iff.1 h
/-- 'make([]T, n)' in a drawn region. -/
theorem Yld_make {w : World} {o : Oper} {a : Act} (B : Nat) (t e : TypeId) (x y : Operand) (ho : o.op = .makeSlice t x y) (n : Nat) (hx : a.eval x = .int .i64 n) (hy : a.eval y = .int .i64 n) (ht : Try.prog.underlying t = some (.slice e)) (z : Value) (bytes : Nat)
    (hi : (Try.prog.info? e).map (fun i => (i.zero, i.size, i.bytes)) = some (some z, 1, bytes)) (hz : z.cells = #[z]) (hb : bytes ≤ 64) (hn : n ≤ 4096) (hB : B ≤ w.heap.size) : Yld Try.prog o a w (.fact (fun u w => RowQ B n z e u w)) := by
  obtain ⟨i, hi1, hi2⟩ := info_of hi
  injection hi2 with h1 h2
  injection h2 with h2 h3
  have hr := run_make (P := Try.prog) (w := w) t e i z ht hi1 h1 .i64 .i64 (n : Int) (n : Int) (by omega) (by omega) (by
    rw [h3]
    have : ((bytes * n : Nat) : Int) ≤ ((64 * 4096 : Nat) : Int) := Int.ofNat_le.2 (Nat.mul_le_mul hb hn)
    rw [Int.natCast_mul] at this
    omega) (by omega)
  rw [h2, Int.toNat_natCast, made_one z hz n] at hr
  unfold Yld execOp
  simp only [ho, hx, hy, Sem.run_bind, hr, Result.andThen_ok, Sem.run_pure]
  exact ⟨(Ext.refl w).alloc _, w.heap.size, rfl, hB, Blk.new _ _ _⟩
theorem Yld_map {w : World} {o : Oper} {a : Act} (B : Nat) (ho : o.op = .makeMap 70 none) (hB : B ≤ w.heap.size) : Yld Try.prog o a w (.fact (fun u w => MapQ B u w)) := by
  have hr := run_makeMap (P := Try.prog) 70 w
  unfold Yld execOp
  simp only [ho, Sem.run_bind, Option.map_none, hr, Result.andThen_ok, Sem.run_pure]
  exact ⟨(Ext.refl w).alloc _, w.heap.size, rfl, hB, World.ownsMap_made w Try.prog 3 RM⟩
theorem Yld_box {w : World} {o : Oper} {a : Act} (B : Nat) (t : TypeId) (x : Operand) (ho : o.op = .box t x) (cs : Array Value) (hx : a.eval x = .agg cs) (hB : B ≤ w.heap.size) : Yld Try.prog o a w (.fact (fun u w => BoxQ B cs t u w)) := by
  unfold Yld execOp
  simp only [ho, hx]
  go_simp
  exact ⟨(Ext.refl w).alloc _, w.heap.size, rfl, hB, Blk.new _ _ _⟩
theorem Yld_imp {P : Program} {o : Oper} {a : Act} {w : World} {v : Value} {p : Value → World → Prop} (h : Yld P o a w (.val v)) (hp : ∀ w', Ext w w' → p v w') : Yld P o a w (.fact p) := by
  unfold Yld at h ⊢
  generalize (execOp a.eval o).run P w = r at *
  cases r with
  | halt x w' => exact h.elim
  | ok n w' =>
    cases n with
    | value u => obtain ⟨h1, rfl⟩ := (show Ext w w' ∧ u = v from h); exact ⟨h1, hp w' h1⟩
    | skip => obtain ⟨h1, h2⟩ := (show Ext w w' ∧ undef = v from h); exact ⟨h1, by rw [h2]; exact hp w' h1⟩
    | enter g args =>
      obtain ⟨h1⟩ := (show Nonempty (Calls P g args w' fun e w2 => ∃ u, e = .returned u ∧ Ext w w2 ∧ u = v) from ⟨h⟩)
      exact h1.mono fun e w2 ⟨u, e1, e2, e3⟩ => ⟨u, e1, e2, by subst e3; exact hp w2 e2⟩
    | _ => exact h.elim
def BldQ (B n : Nat) (u : Value) (w : World) : Prop := ∃ bl bc br, u = .agg (dskC bl bc br n false 0 false 0).toArray ∧ (B ≤ bl ∧ B ≤ bc ∧ B ≤ br) ∧ Blk w bl (List.replicate n (.slice none 0 0)).toArray 29 ∧ w.ownsMap Try.prog 3 RM bc 0 (mapD []) ∧ Blk w br (List.replicate n (.int .i64 0)).toArray 3
theorem BldQ.ext {B n : Nat} {u : Value} {w w' : World} (h : BldQ B n u w) (he : Ext w w') : BldQ B n u w' := by
  obtain ⟨bl, bc, br, h1, h2, h3, h4, h5⟩ := h
  exact ⟨bl, bc, br, h1, h2, h3.ext he, (Chg.of_ext he (fun _ => False)).map h4 (fun h => h), h5.ext he⟩
def NewQ (B n : Nat) (u : Value) (w : World) : Prop := ∃ bd bl bc br, u = .pointer (some ⟨bd, 0, none⟩) ∧ DV w bd bl bc br n (List.replicate n (.slice none 0 0)) [] false 0 false 0 (List.replicate n 0) ∧ (∀ k, Dst bd bl bc br k → B ≤ k)
theorem NewQ.ext {B n : Nat} {u : Value} {w w' : World} (h : NewQ B n u w) (he : Ext w w') : NewQ B n u w' := by
  obtain ⟨bd, bl, bc, br, h1, h2, h3⟩ := h
  exact ⟨bd, bl, bc, br, h1, h2.ext he, h3⟩
theorem built_dsk (b1 b2 b3 n : Nat) : Program.built Try.prog 72 [(0, .slice (some ⟨b1, 0, none⟩) n n), (1, .map (some b2)), (6, .slice (some ⟨b3, 0, none⟩) n n)] = some (dskC b1 b2 b3 n false 0 false 0).toArray := by kernel_rfl
set_option maxRecDepth 100000 in
set_option maxHeartbeats 2000000 in
theorem new_no (w : World) (x : Int) (hx : x < 1 ∨ 4096 < x) : Calls Try.prog 15 #[.int .i64 x] w fun e w' => e = .returned (.tuple #[.pointer none, .int .i64 7]) ∧ w = w' := by
  by_cases h1 : x < 1
  · go_enter Try.func15, Try.ntmps15
    go_wp2
    go_ret2
    exact ⟨rfl, rfl⟩
  · have h2 : 4096 < x := by omega
    go_enter Try.func15, Try.ntmps15
    go_wp2
    go_ret2
    exact ⟨rfl, rfl⟩
set_option maxRecDepth 100000 in
set_option maxHeartbeats 8000000 in
theorem new_ok (w : World) (n : Nat) (h0 : 1 ≤ n) (h1 : n ≤ 4096) : Calls Try.prog 15 #[.int .i64 n] w fun e w' => ∃ bd bl bc br, e = .returned (.tuple #[.pointer (some ⟨bd, 0, none⟩), .int .i64 0]) ∧
    DV w' bd bl bc br n (List.replicate n (.slice none 0 0)) [] false 0 false 0 (List.replicate n 0) ∧ Ext w w' ∧ (∀ k, Dst bd bl bc br k → w.heap.size ≤ k) := by
  go_enter Try.func15, Try.ntmps15
  go_wp2_with fail
  apply wp_region_facts 9 [RF.val _, RF.fact (fun u w' => RowQ w.heap.size n (.slice none 0 0) 29 u w'), RF.fact (fun u w' => MapQ w.heap.size u w'), RF.val _, RF.fact (fun u w' => RowQ w.heap.size n (.int .i64 0) 3 u w'), RF.fact (fun u w' => BldQ w.heap.size n u w'), RF.fact (fun u w' => NewQ w.heap.size n u w'), RF.fact (fun u w' => NewQ w.heap.size n u w'), RF.val _]
  case hm => kernel_rfl
  case hB => kernel_rfl
  simp only [List.take_succ_cons, List.take_zero, List.zip_cons_cons, List.zip_nil_left]
  (first | refine wpF_val rfl (fun w' hE hD => by unfold Yld; go_simp; exact ⟨Ext.refl _, rfl⟩) ?_ | refine wpF_valg (by rfl) (fun w' hE hD => by unfold Yld; go_simp; exact ⟨Ext.refl _, rfl⟩) ?_)
  (try simp only [Act.put, List.setIfInBounds_toArray, List.set_cons_zero, List.set_cons_succ])
  refine wpF_fact rfl (fun u Wa Wb h he => h.ext he) (fun w' hE hD => ?_) (fun u11 => ?_)
  · exact Yld_make w.heap.size 22 29 (.tmp 10) (.tmp 10) rfl n rfl rfl Try.underlying22 (.slice none 0 0) 24 (by kernel_rfl) rfl (by decide) h1 hE.size
  (try simp only [Act.put, List.setIfInBounds_toArray, List.set_cons_zero, List.set_cons_succ])
  refine wpF_fact rfl (fun u Wa Wb h he => h.ext he) (fun w' hE hD => ?_) (fun u12 => ?_)
  · exact Yld_map w.heap.size rfl hE.size
  (try simp only [Act.put, List.setIfInBounds_toArray, List.set_cons_zero, List.set_cons_succ])
  (first | refine wpF_val rfl (fun w' hE hD => by unfold Yld; go_simp; exact ⟨Ext.refl _, rfl⟩) ?_ | refine wpF_valg (by rfl) (fun w' hE hD => by unfold Yld; go_simp; exact ⟨Ext.refl _, rfl⟩) ?_)
  (try simp only [Act.put, List.setIfInBounds_toArray, List.set_cons_zero, List.set_cons_succ])
  refine wpF_fact rfl (fun u Wa Wb h he => h.ext he) (fun w' hE hD => ?_) (fun u14 => ?_)
  · exact Yld_make w.heap.size 23 3 (.tmp 13) (.tmp 13) rfl n rfl rfl Try.underlying23 (.int .i64 0) 8 (by kernel_rfl) rfl (by decide) h1 hE.size
  (try simp only [Act.put, List.setIfInBounds_toArray, List.set_cons_zero, List.set_cons_succ])
  refine wpF_fact rfl (fun u Wa Wb h he => h.ext he) (fun w' hE hD => ?_) (fun u15 => ?_)
  · obtain ⟨b1, e1, g1, k1⟩ := hD.1 (by kernel_rfl)
    obtain ⟨b2, e2, g2, k2⟩ := hD.2.1 (by kernel_rfl)
    obtain ⟨b3, e3, g3, k3⟩ := hD.2.2.1 (by kernel_rfl)
    subst e1
    subst e2
    subst e3
    exact Yld_imp (Yld_build 72 #[(0, .tmp 11), (1, .tmp 12), (6, .tmp 14)] rfl _ [(0, .slice (some ⟨b1, 0, none⟩) n n), (1, .map (some b2)), (6, .slice (some ⟨b3, 0, none⟩) n n)] rfl (built_dsk b1 b2 b3 n)) (fun w2 he2 => ⟨b1, b2, b3, rfl, ⟨g1, g2, g3⟩, k1.ext he2, (Chg.of_ext he2 (fun _ => False)).map k2 (fun h => h), k3.ext he2⟩)
  (try simp only [Act.put, List.setIfInBounds_toArray, List.set_cons_zero, List.set_cons_succ])
  refine wpF_fact rfl (fun u Wa Wb h he => h.ext he) (fun w' hE hD => ?_) (fun u16 => ?_)
  · obtain ⟨b1, b2, b3, e1, g1, k1, k2, k3⟩ := hD.2.2.2.1 (by kernel_rfl)
    subst e1
    unfold Yld
    go_simp
    have he2 := (Ext.refl w').alloc (.cells (dskC b1 b2 b3 n false 0 false 0).toArray 72)
    exact ⟨he2, w'.heap.size, b1, b2, b3, rfl, ⟨Blk.new _ _ _, k1.ext he2, (Chg.of_ext he2 (fun _ => False)).map k2 (fun h => h), by rw [List.map_replicate]; exact k3.ext he2, List.length_replicate, List.length_replicate, List.Pairwise.nil, fun p hp => (by cases hp), ⟨h0, h1⟩, fun V hV => ⟨none, 0, 0, (List.mem_replicate.1 hV).2⟩, fun p hp => (by cases hp)⟩, fun k hk => by rcases hk with rfl | rfl | rfl | rfl; exact hE.size; exact g1.1; exact g1.2.1; exact g1.2.2⟩
  (try simp only [Act.put, List.setIfInBounds_toArray, List.set_cons_zero, List.set_cons_succ])
  refine wpF_fact rfl (fun u Wa Wb h he => h.ext he) (fun w' hE hD => ?_) (fun u2 => ?_)
  · have d := hD.2.2.2.2.1 (by kernel_rfl)
    unfold Yld
    go_simp
    exact ⟨Ext.refl _, d⟩
  (try simp only [Act.put, List.setIfInBounds_toArray, List.set_cons_zero, List.set_cons_succ])
  (first | refine wpF_val rfl (fun w' hE hD => by unfold Yld; go_simp; exact ⟨Ext.refl _, rfl⟩) ?_ | refine wpF_valg (by rfl) (fun w' hE hD => by unfold Yld; go_simp; exact ⟨Ext.refl _, rfl⟩) ?_)
  (try simp only [Act.put, List.setIfInBounds_toArray, List.set_cons_zero, List.set_cons_succ])
  refine wpF_nil fun w3 hE3 hA => ?_
  simp only [List.drop_succ_cons, List.drop_zero]
  obtain ⟨_, _, _, _, _, ⟨bd, bl, bc, br, rfl, hd, hk⟩, _⟩ := hA
  have HD := Aside0.mk hd
  clear hd
  go_wp2_with fail
  go_ret2
  exact ⟨bd, bl, bc, br, rfl, HD.out, hE3, hk⟩
end Go.Proofs.Ytkgjcmolmogpdaa.By
