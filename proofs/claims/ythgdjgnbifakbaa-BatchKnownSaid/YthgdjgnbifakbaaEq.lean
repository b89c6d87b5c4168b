/- '==' of digests and of refs. -/
import Derived.Test.YthgdjgnbifakbaaDocB
import Derived.DeepKeys
import Derived.Laws.StructEq
namespace Go.Proofs.Ythgdjgnbifakbaa.By
open Go.RowKit Go.Proofs.Ythgdjgnbifakbaa.Reg Go.Proofs.YthgdjgnbifakbaaW.PrintWords Go.Proofs.YthgdjgnbifakbaaW.PrintLast Go.Proofs.YthgdjgnbifakbaaW.PrintMore
set_option linter.unusedVariables false

def lits (s : List Int) : List Lit := s.map (Lit.int .u8)
theorem lits_inj {s t : List Int} : lits s = lits t ↔ s = t := by
  constructor
  · intro h
    exact List.map_inj_right (fun x y e => by injection e) |>.1 h
  · intro h; rw [h]
theorem mapM_some {α β : Type} (f : α → Option β) (g : α → β) : ∀ (l : List α), (∀ i ∈ l, f i = some (g i)) → l.mapM f = some (l.map g)
  | [], _ => rfl
  | x :: l, h => by
    rw [List.mapM_cons, h x (by simp), mapM_some f g l (fun i hi => h i (by simp [hi]))]
    rfl
theorem byte_lit {x : Int} (h : 0 ≤ x ∧ x < 256) : (Lit.int .u8 x).wf = true := by simp [Lit.wf, IntKind.min, IntKind.max, IntKind.signed, IntKind.bits]; omega
theorem flat_one {α β : Type} (f : α → β) : ∀ (l : List α), (l.map fun i => [f i]).flatten = l.map f
  | [] => rfl
  | x :: l => by rw [List.map_cons, List.flatten_cons, flat_one f l]; rfl
theorem keyLits_sum (d : Nat) (s : List Int) (hs : s.length = 32) (hb : isB s) : Try.prog.keyLits (d + 2) 24 (nums .u8 s) = some (lits s) := by
  unfold Program.keyLits
  rw [Try.underlying24]
  simp only []
  have hc : Try.prog.cellsOf 24 = 32 := by kernel_rfl
  have h5 : Try.prog.cellsOf 5 = 1 := by kernel_rfl
  rw [if_pos (by rw [nums_length, hs, hc]), h5]
  rw [mapM_some _ (fun i : Nat => [Lit.int .u8 (rd s i)]) (List.range 32) ?_]
  · rw [Option.map_some, flat_one (fun i : Nat => Lit.int .u8 (rd s i))]
    congr 1
    apply List.ext_getElem
    · simp [lits, hs]
    · intro i h1 h2
      simp only [lits, List.getElem_map, List.getElem_range]
      have hi' : i < s.length := by simpa [lits] using h2
      simp [rd, List.getD_eq_getElem?_getD, List.getElem?_eq_getElem hi']
  · intro i hi
    have hi' : i < s.length := by rw [hs]; exact List.mem_range.1 hi
    have e : ((nums .u8 s).drop (i * 1)).take 1 = [.int .u8 (rd s i)] := by
      rw [Nat.mul_one, List.drop_eq_getElem_cons (by rw [nums_length]; exact hi')]
      simp [nums, rd, List.getD_eq_getElem?_getD, List.getElem?_eq_getElem hi']
    rw [e]
    unfold Program.keyLits
    rw [Try.underlying5]
    simp only []
    rw [if_pos ⟨trivial, byte_lit (isB_rd hb _)⟩]
theorem keyLits_ref (d : Nat) (a : Int) (s : List Int) (ha : (Lit.int .i64 a).wf = true) (hs : s.length = 32) (hb : isB s) : Try.prog.keyLits (d + 3) 26 (refC a s) = some (Lit.int .i64 a :: lits s) := by
  unfold Program.keyLits
  rw [Try.underlying26]
  simp only []
  have hc : Try.prog.cellsOf 26 = 33 := by kernel_rfl
  have h24 : Try.prog.cellsOf 24 = 32 := by kernel_rfl
  have h3 : Try.prog.cellsOf 3 = 1 := by kernel_rfl
  rw [if_pos ⟨by unfold refC; rw [List.length_cons, nums_length, hs, hc], by kernel_rfl⟩]
  simp only [List.mapM_cons, List.mapM_nil, h24, h3]
  have e1 : ((refC a s).drop 0).take 1 = [.int .i64 a] := rfl
  have e2 : ((refC a s).drop 1).take 32 = nums .u8 s := by
    unfold refC
    rw [List.drop_succ_cons, List.drop_zero, List.take_of_length_le (by rw [nums_length, hs]; exact Nat.le_refl _)]
  rw [e1, e2, keyLits_sum d s hs hb]
  have e3 : Try.prog.keyLits (d + 2) 3 [.int .i64 a] = some [Lit.int .i64 a] := by
    unfold Program.keyLits
    rw [Try.underlying3]
    simp only []
    rw [if_pos ⟨trivial, ha⟩]
  rw [e3]
  simp [lits]
theorem equal_sum (s t : List Int) (hs : s.length = 32) (ht : t.length = 32) (hb : isB s) (hb' : isB t) (w : World) : (Op.equal 24 (sumV s) (sumV t)).run Try.prog w = .ok (decide (s = t)) w := by
  have f : ∀ u : List Int, u.length = 32 → (sumV u).formed Try.prog 24 = true := by
    intro u hu
    simp only [sumV, Value.formed, Try.underlying24]
    have hc : Try.prog.cellsOf 24 = 32 := by kernel_rfl
    rw [hc]
    simp [nums_length, hu]
  obtain ⟨r, hr, hiff⟩ := run_equalIn_deep (P := Try.prog) 9998 2 24 (by kernel_rfl) w 2 2 (sumV s) (sumV t) (lits s) (lits t) (f s hs) (f t ht) (by simpa [sumV, Value.cells] using keyLits_sum 0 s hs hb) (by simpa [sumV, Value.cells] using keyLits_sum 0 t ht hb')
  have : r = decide (s = t) := by
    rw [lits_inj] at hiff
    cases r
    · simp at hiff; simp [hiff]
    · simp at hiff; simp [hiff]
  rw [← this]
  exact hr
theorem equal_ref (a b : Int) (s t : List Int) (ha : (Lit.int .i64 a).wf = true) (hb0 : (Lit.int .i64 b).wf = true) (hs : s.length = 32) (ht : t.length = 32) (hb : isB s) (hb' : isB t) (w : World) : (Op.equal 26 (refV a s) (refV b t)).run Try.prog w = .ok (decide (a = b ∧ s = t)) w := by
  have f : ∀ (c : Int) (u : List Int), u.length = 32 → (refV c u).formed Try.prog 26 = true := by
    intro c u hu
    simp only [refV, Value.formed, Try.underlying26]
    have hc : Try.prog.cellsOf 26 = 33 := by kernel_rfl
    rw [hc]
    simp [refC, nums_length, hu]
  obtain ⟨r, hr, hiff⟩ := run_equalIn_deep (P := Try.prog) 9997 3 26 (by kernel_rfl) w 3 3 (refV a s) (refV b t) _ _ (f a s hs) (f b t ht) (by simpa [refV, Value.cells] using keyLits_ref 0 a s ha hs hb) (by simpa [refV, Value.cells] using keyLits_ref 0 b t hb0 ht hb')
  have : r = decide (a = b ∧ s = t) := by
    rw [List.cons.injEq, lits_inj] at hiff
    have h2 : (Lit.int .i64 a = Lit.int .i64 b) ↔ a = b := ⟨fun h => by injection h, fun h => by rw [h]⟩
    rw [h2] at hiff
    cases r
    · simp at hiff; simpa using hiff
    · simp at hiff; simpa using hiff
  rw [← this]
  exact hr
section
variable {P : Program} {w : World} {ops : Array Oper} {rest : List Oper} {o : Oper} {a : Act} {Q : Exit → Act → World → Prop}
theorem gate_eql {ty : TypeId} {x y : Operand} {yt : TypeId} (_ho : o.op = .binOp .eql ty x y yt) (h : wpList P ops Q (o :: rest) a w) : wpList P ops Q (o :: rest) a w := h
theorem run_eql (t yt : TypeId) (x y : Operand) (ho : o.op = .binOp .eql t x y yt) (xs ys : Array Value) (hx : a.eval x = .agg xs) (hy : a.eval y = .agg ys) (hg : P.eqGuardType P.depth t = false) (r : Bool) (he : (Op.equal t (.agg xs) (.agg ys)).run P w = .ok r w) :
    (execOp a.eval o).run P w = .ok (.value (.bool r)) w := by
  unfold execOp
  simp only [ho, hx, hy, Sem.run_bind, run_eqGuard_agg w BinOp.eql t x y xs ys hg, Result.andThen_ok, binOp, he, Sem.run_pure]
theorem eql_at (hw : Region.wanted o (yielded ops a.tmps) = true) (t yt : TypeId) (x y : Operand) (ho : o.op = .binOp .eql t x y yt) (xs ys : Array Value) (hx : a.eval x = .agg xs) (hy : a.eval y = .agg ys) (hg : P.eqGuardType P.depth t = false) (r : Bool) (he : (Op.equal t (.agg xs) (.agg ys)).run P w = .ok r w)
    (h : wpList P ops Q rest (a.put o.dst (.bool r)) w) : wpList P ops Q (o :: rest) a w :=
  BigFrame.wpList_want hw fun K hK => by
    unfold Oper.wp
    rw [run_eql t yt x y ho xs ys hx hy hg r he]
    exact hK _ _ h
theorem YldG_eql (t yt : TypeId) (x y : Operand) (ho : o.op = .binOp .eql t x y yt) (xs ys : Array Value) (hx : a.eval x = .agg xs) (hy : a.eval y = .agg ys) (hg : P.eqGuardType P.depth t = false) (r : Bool) (he : (Op.equal t (.agg xs) (.agg ys)).run P w = .ok r w) :
    YldG Ext P o a w (.val (.bool r)) := by
  unfold YldG
  rw [run_eql t yt x y ho xs ys hx hy hg r he]
  exact ⟨Ext.refl _, rfl⟩
end
end Go.Proofs.Ythgdjgnbifakbaa.By
