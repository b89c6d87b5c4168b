/- An array in memory; New, Open, Sync. -/
import Derived.Test.YtielnpmnnifjcaaAv
namespace Go.Proofs.Ytielnpmnnifjcaa.By
open Go.RowKit Go.Proofs.Ytielnpmnnifjcaa.Reg Go.Proofs.YtielnpmnnifjcaaW.PrintWords Go.Proofs.YtielnpmnnifjcaaW.PrintLast Go.Proofs.YtielnpmnnifjcaaW.PrintMore
set_option linter.unusedVariables false
set_option linter.unusedSimpArgs false


section
variable {P : Program} {w : World} {ops : Array Oper} {rest : List Oper} {o : Oper} {a : Act} {Q : Exit → Act → World → Prop}
theorem gate_alloc {ty : TypeId} (_ho : o.op = .alloc ty) (h : wpList P ops Q (o :: rest) a w) : wpList P ops Q (o :: rest) a w := h
theorem alloc_at (hw : Region.wanted o (yielded ops a.tmps) = true) (ty : TypeId) (ho : o.op = .alloc ty) (z : Value) (hi : (P.info? ty).map (·.zero) = some (some z))
    (h : wpList P ops Q rest (a.put o.dst (.pointer (some ⟨w.heap.size, 0, none⟩))) (w.alloc (.cells z.cells ty))) : wpList P ops Q (o :: rest) a w :=
  BigFrame.wpList_want hw fun K hK => by
    have hr : (Instr.alloc ty true (.tuple #[])).run P w = .ok (.pointer (some ⟨w.heap.size, 0, none⟩)) (w.alloc (.cells z.cells ty)) := by
      cases hq : P.info? ty with
      | none => simp [hq] at hi
      | some i =>
        have hz : i.zero = some z := by simpa [hq] using hi
        simp only [Instr.alloc, zeroValue, typeInfo, Sem.run_bind, run_program, Result.andThen_ok, hq, hz, Sem.run_pure]
        rfl
    unfold Oper.wp execOp
    simp only [ho, Sem.run_bind, hr, Result.andThen_ok, Sem.run_pure]
    exact hK _ _ h
theorem gate_build {ty : TypeId} {x : Array (Nat × Operand)} (_ho : o.op = .build ty x) (h : wpList P ops Q (o :: rest) a w) : wpList P ops Q (o :: rest) a w := h
theorem build_at (hw : Region.wanted o (yielded ops a.tmps) = true) (t : TypeId) (parts : Array (Nat × Operand)) (ho : o.op = .build t parts) (cells : Array Value) (vals : List (Nat × Value)) (he : parts.toList.map (fun p => (p.1, a.eval p.2)) = vals) (hb : P.built t vals = some cells)
    (h : wpList P ops Q rest (a.put o.dst (.agg cells)) w) : wpList P ops Q (o :: rest) a w :=
  have h' : P.built t (parts.map fun (i, x) => (i, a.eval x)).toList = some cells := by rw [Array.toList_map, ← hb, ← he]
  BigFrame.wpList_want hw fun K hK => wp_build t parts ho (by rw [h']; rfl) (by rw [h']; exact hK _ _ h)
/-- A store of several cells into the midst of a block. -/
theorem storem_at (hw : Region.wanted o (yielded ops a.tmps) = true) (ty : TypeId) (x y : Operand) (ho : o.op = .store ty x y)
    (b off : Nat) (vs : List Value) (hx : a.eval x = .pointer (some ⟨b, off, none⟩)) (hy : a.eval y = .agg vs.toArray) (cs : Array Value) (t : TypeId) (h : Blk w b cs t) (hsz : off + vs.length ≤ cs.size)
    (hi : (P.info? ty).map (·.size) = some vs.length) (h1 : ∀ v ∈ vs, v.oneCell' = true)
    (hk : ∀ w', Wrote w w' b → Blk w' b (splice cs off vs) t → wpList P ops Q rest (a.put o.dst undef) w') : wpList P ops Q (o :: rest) a w :=
  BigFrame.wpList_want hw fun K hK => by
    obtain ⟨w', hr, hwr, hb⟩ := run_store_blk (P := P) h off ty vs.toArray (by simpa using hsz) (by simpa using hi) (by simpa using h1)
    unfold Oper.wp execOp
    simp only [ho, hx, hy, Instr.storeAt, Instr.sureAddr, Sem.run_bind, Sem.run_pure, Result.andThen_ok, hr]
    exact hK _ _ (hk w' hwr hb)
end
def zR : Nat → List Int := fun _ => List.replicate 32 0
def zM : Nat → Bool := fun _ => false
/-- Blocks of noughts, as cells. -/
def zB : List Value := List.replicate 2048 (.int .u8 0) ++ List.replicate 64 (.bool false)
theorem zB_len : zB.length = 2112 := by unfold zB; rw [List.length_append, List.length_replicate, List.length_replicate]
/-- An array's cells: how many blocks, what lasts, what is now, what is open. -/
structure AC (cs : Array Value) (n : Nat) (R : Nat → List Int) (M : Nat → Bool) (R' : Nat → List Int) (M' : Nat → Bool) (V : Value) : Prop where
  sz : cs.size = 4226
  c0 : cs[0]? = some (.int .i64 n)
  la : BV cs 1 R M
  no : BV cs 2113 R' M'
  op : cs[4225]? = some V
/-- An array at ba. -/
def AV (w : World) (ba n : Nat) (R : Nat → List Int) (M : Nat → Bool) (R' : Nat → List Int) (M' : Nat → Bool) (V : Value) : Prop := ∃ cs, Blk w ba cs 66 ∧ AC cs n R M R' M' V
section
variable {w w' : World} {ba n : Nat} {R R' : Nat → List Int} {M M' : Nat → Bool} {V : Value}
theorem AV.ext (h : AV w ba n R M R' M' V) (k : Ext w w') : AV w' ba n R M R' M' V := by
  obtain ⟨cs, h1, h2⟩ := h
  exact ⟨cs, h1.ext k, h2⟩
theorem AV.chg {S : Nat → Prop} (h : AV w ba n R M R' M' V) (k : Chg w w' S) (hn : ¬ S ba) : AV w' ba n R M R' M' V := by
  obtain ⟨cs, h1, h2⟩ := h
  exact ⟨cs, k.blk h1 hn, h2⟩
theorem AV.lt (h : AV w ba n R M R' M' V) : ba < w.heap.size := by
  obtain ⟨cs, h1, h2⟩ := h
  exact h1.lt
theorem AV.cells (h : AV w ba n R M R' M' V) : w.cell? ⟨ba, 0, none⟩ = some (.int .i64 n) ∧ w.cell? ⟨ba, 4225, none⟩ = some V := by
  obtain ⟨cs, h1, h2⟩ := h
  exact ⟨h1.cell 0 h2.c0, h1.cell 4225 h2.op⟩
end
/-- The blocks as they lie in the cells from off on. -/
def segB (cs : Array Value) (off : Nat) : List Value := (cs.toList.drop off).take 2112
theorem segB_at (cs : Array Value) (off j : Nat) (hj : j < 2112) : (segB cs off)[j]? = cs[off + j]? := by
  unfold segB
  rw [List.getElem?_take, if_pos hj, List.getElem?_drop, Array.getElem?_toList]
theorem segB_len (cs : Array Value) (off : Nat) (h : off + 2112 ≤ cs.size) : (segB cs off).length = 2112 := by
  unfold segB
  rw [List.length_take, List.length_drop, Array.length_toList]
  omega
theorem segB_range {w : World} {b t off : Nat} {cs : Array Value} (h : Blk w b cs t) (hs : off + 2112 ≤ cs.size) : w.rangeAt b off (segB cs off) := fun j v hv => by
  have hj : j < 2112 := by have := (List.getElem?_eq_some_iff.1 hv).1; rw [segB_len cs off hs] at this; exact this
  rw [segB_at cs off j hj] at hv
  exact h.cell (off + j) hv
theorem segB_one {cs : Array Value} {off : Nat} {R : Nat → List Int} {M : Nat → Bool} (h : BV cs off R M) (hs : off + 2112 ≤ cs.size) : ∀ v ∈ segB cs off, v.oneCell' = true := by
  intro v hv
  obtain ⟨j, hj, e⟩ := List.getElem_of_mem hv
  have hjl : j < 2112 := by rw [segB_len cs off hs] at hj; exact hj
  have h1 := segB_at cs off j hjl
  rw [List.getElem?_eq_getElem hj, e] at h1
  by_cases hb : j < 2048
  · have := h.2.1 (j / 32) (j % 32) (by omega) (by omega)
    rw [show off + j / 32 * 32 + j % 32 = off + j by omega, ← h1] at this
    injection this with this
    rw [this]; rfl
  · have := h.2.2 (j - 2048) (by omega)
    rw [show off + 2048 + (j - 2048) = off + j by omega, ← h1] at this
    injection this with this
    rw [this]; rfl
theorem BV.moved {cs ds : Array Value} {off off' : Nat} {R : Nat → List Int} {M : Nat → Bool} (h : BV cs off R M) (hs : ∀ j, j < 2112 → ds[off' + j]? = cs[off + j]?) : BV ds off' R M := by
  obtain ⟨h1, h2, h3⟩ := h
  refine ⟨h1, fun i x hi hx => ?_, fun i hi => ?_⟩
  · rw [show off' + i * 32 + x = off' + (i * 32 + x) by omega, hs _ (by omega), show off + (i * 32 + x) = off + i * 32 + x by omega]
    exact h2 i x hi hx
  · rw [show off' + 2048 + i = off' + (2048 + i) by omega, hs _ (by omega), show off + (2048 + i) = off + 2048 + i by omega]
    exact h3 i hi
/-- The last becomes the now, or the now the last. -/
def cpC (cs : Array Value) (src dst : Nat) (V : Value) : Array Value := (splice cs dst (segB cs src)).setIfInBounds 4225 V
theorem AC.sync {cs : Array Value} {n : Nat} {R : Nat → List Int} {M : Nat → Bool} {R' : Nat → List Int} {M' : Nat → Bool} {V : Value} (h : AC cs n R M R' M' V) (U : Value) : AC (cpC cs 2113 1 U) n R' M' R' M' U := by
  have hl : (segB cs 2113).length = 2112 := segB_len _ _ (by have := h.sz; omega)
  have hz := splice_size cs 1 (segB cs 2113) (by rw [hl]; have := h.sz; omega)
  have hat : ∀ j, j ≠ 4225 → (cpC cs 2113 1 U)[j]? = if 1 ≤ j ∧ j < 2113 then cs[j + 2112]? else cs[j]? := by
    intro j hj
    unfold cpC
    rw [Array.getElem?_setIfInBounds, if_neg (fun e => hj e.symm), splice_at _ _ _ (by rw [hl]; have := h.sz; omega), hl]
    by_cases h1 : 1 ≤ j ∧ j < 1 + 2112
    · rw [if_pos h1, if_pos (by omega), segB_at _ _ _ (by omega)]
      rw [show 2113 + (j - 1) = j + 2112 by omega]
    · rw [if_neg h1, if_neg (by omega)]
  refine ⟨?_, ?_, ?_, ?_, ?_⟩
  · unfold cpC; rw [Array.size_setIfInBounds, hz, h.sz]
  · rw [hat 0 (by decide), if_neg (by omega), h.c0]
  · exact h.no.moved (fun j hj => by rw [hat _ (by omega), if_pos (by omega), show 1 + j + 2112 = 2113 + j by omega])
  · exact h.no.moved (fun j hj => by rw [hat _ (by omega), if_neg (by omega)])
  · unfold cpC; rw [Array.getElem?_setIfInBounds, if_pos rfl, if_pos (by rw [hz, h.sz]; decide)]
theorem AC.fall {cs : Array Value} {n : Nat} {R : Nat → List Int} {M : Nat → Bool} {R' : Nat → List Int} {M' : Nat → Bool} {V : Value} (h : AC cs n R M R' M' V) (U : Value) : AC (cpC cs 1 2113 U) n R M R M U := by
  have hl : (segB cs 1).length = 2112 := segB_len _ _ (by have := h.sz; omega)
  have hz := splice_size cs 2113 (segB cs 1) (by rw [hl]; have := h.sz; omega)
  have hat : ∀ j, j ≠ 4225 → (cpC cs 1 2113 U)[j]? = if 2113 ≤ j ∧ j < 4225 then cs[j - 2112]? else cs[j]? := by
    intro j hj
    unfold cpC
    rw [Array.getElem?_setIfInBounds, if_neg (fun e => hj e.symm), splice_at _ _ _ (by rw [hl]; have := h.sz; omega), hl]
    by_cases h1 : 2113 ≤ j ∧ j < 2113 + 2112
    · rw [if_pos h1, if_pos (by omega), segB_at _ _ _ (by omega)]
      rw [show 1 + (j - 2113) = j - 2112 by omega]
    · rw [if_neg h1, if_neg (by omega)]
  refine ⟨?_, ?_, ?_, ?_, ?_⟩
  · unfold cpC; rw [Array.size_setIfInBounds, hz, h.sz]
  · rw [hat 0 (by decide), if_neg (by omega), h.c0]
  · exact h.la.moved (fun j hj => by rw [hat _ (by omega), if_neg (by omega)])
  · exact h.la.moved (fun j hj => by rw [hat _ (by omega), if_pos (by omega), show 2113 + j - 2112 = 1 + j by omega])
  · unfold cpC; rw [Array.getElem?_setIfInBounds, if_pos rfl, if_pos (by rw [hz, h.sz]; decide)]
theorem rep_lo {α : Type} (a b j : Nat) (x y : α) (h : j < a) : (List.replicate a x ++ List.replicate b y)[j]? = some x := by
  rw [List.getElem?_append_left (by rw [List.length_replicate]; exact h), List.getElem?_replicate, if_pos h]
theorem rep_hi {α : Type} (a b j : Nat) (x y : α) (h : j < b) : (List.replicate a x ++ List.replicate b y)[a + j]? = some y := by
  rw [List.getElem?_append_right (by rw [List.length_replicate]; omega), List.length_replicate, List.getElem?_replicate, if_pos (by omega)]
theorem rep_getD (a k : Nat) : (List.replicate a (0 : Int)).getD k 0 = 0 := by
  rw [List.getD_eq_getElem?_getD, List.getElem?_replicate]
  split <;> rfl
theorem zB_lo (j : Nat) (h : j < 2048) : zB[j]? = some (.int .u8 0) := rep_lo 2048 64 j _ _ h
theorem zB_hi (j : Nat) (h : j < 64) : zB[2048 + j]? = some (.bool false) := rep_hi 2048 64 j _ _ h
theorem zR_at (i k : Nat) : (zR i).getD k 0 = 0 := rep_getD 32 k
theorem zR_len (i : Nat) : (zR i).length = 32 := List.length_replicate ..
theorem zB_BV (pre post : List Value) : BV (pre ++ zB ++ post).toArray pre.length zR zM := by
  have hat : ∀ j, j < 2112 → (pre ++ zB ++ post).toArray[pre.length + j]? = zB[j]? := by
    intro j hj
    rw [List.getElem?_toArray, List.append_assoc, List.getElem?_append_right (by omega), List.getElem?_append_left (by rw [zB_len]; omega)]
    congr 1
    omega
  refine ⟨fun i _ => zR_len i, fun i x hi hx => ?_, fun i hi => ?_⟩
  · rw [show pre.length + i * 32 + x = pre.length + (i * 32 + x) by omega, hat _ (by omega), zR_at]
    exact zB_lo _ (by omega)
  · rw [show pre.length + 2048 + i = pre.length + (2048 + i) by omega, hat _ (by omega)]
    exact zB_hi i hi
def zA (v : Value) : List Value := [v] ++ zB ++ (zB ++ [.slice none 0 0])
theorem app_len (v u : Value) (l : List Value) : ([v] ++ l ++ (l ++ [u])).length = l.length + l.length + 2 := by
  simp only [List.length_append, List.length_singleton]
  omega
theorem app_last (v u : Value) (l : List Value) : ([v] ++ l ++ (l ++ [u]))[l.length + l.length + 1]? = some u := by
  rw [List.getElem?_append_right (by simp only [List.length_append, List.length_singleton]; omega), List.getElem?_append_right (by simp only [List.length_append, List.length_singleton]; omega)]
  simp only [List.length_append, List.length_singleton]
  rw [show l.length + l.length + 1 - (1 + l.length) - l.length = 0 by omega]
  rfl
theorem zA_AC (n : Nat) : AC (zA (.int .i64 n)).toArray n zR zM zR zM (.slice none 0 0) := by
  have e2 : zA (.int .i64 n) = ([.int .i64 n] ++ zB) ++ zB ++ [.slice none 0 0] := by unfold zA; simp only [List.append_assoc]
  refine ⟨?_, by rw [List.getElem?_toArray]; rfl, ?_, ?_, ?_⟩
  · unfold zA
    rw [List.size_toArray, app_len, zB_len]
  · have := zB_BV [Value.int .i64 n] (zB ++ [Value.slice none 0 0])
    unfold zA
    exact this
  · rw [e2]
    have := zB_BV ([Value.int .i64 n] ++ zB) [Value.slice none 0 0]
    rwa [List.length_append, zB_len] at this
  · have := app_last (Value.int .i64 n) (Value.slice none 0 0) zB
    rw [zB_len] at this
    rw [List.getElem?_toArray]
    exact this
theorem zA_built (x : Int) : Program.built Try.prog 66 [(0, .int .i64 x)] = some (zA (.int .i64 x)).toArray := by kernel_rfl
theorem zero63 : (Try.prog.info? 63).map (·.zero) = some (some (.agg zB.toArray)) := by kernel_rfl
end Go.Proofs.Ytielnpmnnifjcaa.By
