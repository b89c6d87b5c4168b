/- Arrays and structs by value: read from, and written into, a block known whole. No Go program in sight. -/
import Derived.Test.YtielnpmnnifjcaaAid
import Derived.Deep.MidRow
import Derived.Laws.CopyRow
import Derived.Laws.AppendOwn
namespace Go.Proofs.Ytielnpmnnifjcaa.Reg
open Go Go.RowKit

section
variable {P : Program} {w : World} {b : Nat} {cs : Array Value} {t : TypeId}
theorem Blk.range (h : Blk w b cs t) (off : Nat) (mid post : List Value) (hcs : cs.toList.drop off = mid ++ post) : w.rangeAt b off mid := fun j v hv => by
  refine h.cell _ ?_
  have hj : j < mid.length := (List.getElem?_eq_some_iff.1 hv).1
  have e1 : cs[off + j]? = (cs.toList.drop off)[j]? := by rw [List.getElem?_drop, Array.getElem?_toList]
  rw [e1, hcs, List.getElem?_append_left hj, hv]
theorem Blk.whole (h : Blk w b cs t) : w.rangeAt b 0 cs.toList := h.range 0 cs.toList [] (by simp)
theorem rangeAt_ext {w w' : World} {b o : Nat} {cs : List Value} (h : w.rangeAt b o cs) (he : Ext w w') : w'.rangeAt b o cs := fun j v hv => Ext.cell he (h j v hv)

/-- A load of several cells, in a region that draws its order. -/
theorem Yld_load {o : Oper} {a : Act} (ty : TypeId) (x : Operand) (ho : o.op = .load ty x) (b off : Nat) (hx : a.eval x = .pointer (some ⟨b, off, none⟩)) (cs : List Value) (d : TypeDesc) (hc : w.rangeAt b off cs)
    (hu : P.underlying ty = some d) (hd : d.isRow = true) (hi : (P.info? ty).map (·.size) = some cs.length) : Yld P o a w (.val (.agg cs.toArray)) := by
  unfold Yld execOp
  simp only [ho, hx, Instr.loadAt, Instr.sureAddr, Sem.run_bind, Sem.run_pure, Result.andThen_ok, run_loadVar_mid w b off ty cs d hc hu hd hi]
  exact ⟨Ext.refl _, rfl⟩

/-- Block b alone may have been written, and no block has come. -/
structure Wrote (w w' : World) (b : Nat) : Prop where
  os : w'.os = w.os
  tape : w'.tape = w.tape
  output : w'.output = w.output
  size : w'.heap.size = w.heap.size
  block : ∀ k, k ≠ b → w'.heap[k]? = w.heap[k]?
theorem Wrote.below {w w' : World} {B : Nat} (h : Wrote w w' b) (hb : B ≤ b) : Below B w w' := ⟨h.os, h.tape, h.output, Nat.le_of_eq h.size.symm, fun k hk => h.block k (by omega)⟩
theorem Wrote.ext {w0 w w' : World} (h : Wrote w w' b) (he : Ext w0 w) (hb : w0.heap.size ≤ b) : Ext w0 w' :=
  ⟨h.os.trans he.os, h.tape.trans he.tape, h.output.trans he.output, Nat.le_trans he.size (Nat.le_of_eq h.size.symm), fun k hk => (h.block k (by omega)).trans (he.block k hk)⟩
theorem Blk.wrote {w w' : World} {c : Nat} (h : Blk w b cs t) (hw : Wrote w w' c) (hne : b ≠ c) : Blk w' b cs t := ⟨(hw.block b hne).trans h.is⟩
theorem Wrote.trans {w w' w'' : World} (h : Wrote w w' b) (k : Wrote w' w'' b) : Wrote w w'' b :=
  ⟨k.os.trans h.os, k.tape.trans h.tape, k.output.trans h.output, k.size.trans h.size, fun i hi => (k.block i hi).trans (h.block i hi)⟩
theorem Wrote.setCell (w : World) (b j : Nat) (v : Value) : Wrote w (w.setCell ⟨b, j, none⟩ v) b :=
  ⟨rfl, rfl, rfl, by simp [World.setCell], fun k hk => heap_setCell_other w ⟨b, j, none⟩ k v hk⟩

def splice (cs : Array Value) (off : Nat) (vs : List Value) : Array Value := (cs.toList.take off ++ vs ++ cs.toList.drop (off + vs.length)).toArray
theorem splice_all (cs : Array Value) (vs : List Value) (h : cs.size = vs.length) : splice cs 0 vs = vs.toArray := by
  simp [splice, ← h]
theorem splice_mid (pre mid post vs : List Value) (h : mid.length = vs.length) : splice (pre ++ mid ++ post).toArray pre.length vs = (pre ++ vs ++ post).toArray := by
  simp only [splice]
  congr 1
  rw [List.append_assoc pre mid post, List.take_left, ← h, ← List.drop_drop, List.drop_left, List.drop_left]

theorem wrote_setRow (h : Blk w b cs t) (cs' : Array Value) : Wrote w (w.setRow b cs') b ∧ Blk (w.setRow b cs') b cs' t :=
  ⟨⟨rfl, rfl, rfl, by simp, fun k hk => setRow_other w b k cs' hk⟩, ⟨setRow_heap w b cs _ t _ h.is⟩⟩

theorem run_store_blk (h : Blk w b cs t) (off : Nat) (ty : TypeId) (cells : Array Value) (hsz : off + cells.size ≤ cs.size) (hi : (P.info? ty).map (·.size) = some cells.size) (h1 : ∀ v ∈ cells.toList, v.oneCell' = true) :
    ∃ w', (storeVar ty ⟨b, off, none⟩ (.agg cells)).run P w = .ok () w' ∧ Wrote w w' b ∧ Blk w' b (splice cs off cells.toList) t := by
  have := run_storeCells_at P b off t cells.toList 0 cs w h.is (by simpa using hsz) h1
  cases hq : P.info? ty with
  | none => simp [hq] at hi
  | some i =>
    have hs : cells.size = i.size := by simp [hq] at hi; omega
    simp only [Nat.add_zero] at this
    refine ⟨_, ?_, (wrote_setRow h (splice cs off cells.toList)).1, (wrote_setRow h (splice cs off cells.toList)).2⟩
    simp [storeVar, sizeOf, typeInfo, hq, Value.cells, hs, this, splice]

/-- A store of several cells into a block known whole. -/
theorem wpList_store_blk {ops : Array Oper} {rest : List Oper} {o : Oper} {a : Act} {Q : Exit → Act → World → Prop} (hgd : o.guard = none) (ty : TypeId) (x y : Operand) (ho : o.op = .store ty x y)
    (b off : Nat) (cells : Array Value) (hx : a.eval x = .pointer (some ⟨b, off, none⟩)) (hy : a.eval y = .agg cells) (cs : Array Value) (t : TypeId) (h : Blk w b cs t) (hsz : off + cells.size ≤ cs.size)
    (hi : (P.info? ty).map (·.size) = some cells.size) (h1 : ∀ v ∈ cells.toList, v.oneCell' = true)
    (hk : ∀ w', Wrote w w' b → Blk w' b (splice cs off cells.toList) t → wpList P ops Q rest (a.put o.dst undef) w') : wpList P ops Q (o :: rest) a w :=
  wpList_plain hgd fun K hK => by
    obtain ⟨w', hr, hw, hb⟩ := run_store_blk (P := P) h off ty cells hsz hi h1
    unfold Oper.wp execOp
    simp only [ho, hx, hy, Instr.storeAt, Instr.sureAddr, Sem.run_bind, Sem.run_pure, Result.andThen_ok, hr]
    exact hK _ _ (hk w' hw hb)
/-- .. of the whole block. -/
theorem wpList_store_all {ops : Array Oper} {rest : List Oper} {o : Oper} {a : Act} {Q : Exit → Act → World → Prop} (hgd : o.guard = none) (ty : TypeId) (x y : Operand) (ho : o.op = .store ty x y)
    (b : Nat) (vs : List Value) (hx : a.eval x = .pointer (some ⟨b, 0, none⟩)) (hy : a.eval y = .agg vs.toArray) (cs : Array Value) (t : TypeId) (h : Blk w b cs t) (hsz : cs.size = vs.length)
    (hi : (P.info? ty).map (·.size) = some vs.length) (h1 : ∀ v ∈ vs, v.oneCell' = true)
    (hk : ∀ w', Wrote w w' b → Blk w' b vs.toArray t → wpList P ops Q rest (a.put o.dst undef) w') : wpList P ops Q (o :: rest) a w :=
  wpList_store_blk hgd ty x y ho b 0 vs.toArray hx hy cs t h (by simp; omega) (by simpa using hi) (by simpa using h1) fun w' hw hb => hk w' hw (by
    have := splice_all cs vs hsz
    simp only at hb
    rwa [this] at hb)
/-- A load of several cells. -/
theorem wpList_load_at {ops : Array Oper} {rest : List Oper} {o : Oper} {a : Act} {Q : Exit → Act → World → Prop} (hgd : o.guard = none) (ty : TypeId) (x : Operand) (ho : o.op = .load ty x)
    (b off : Nat) (hx : a.eval x = .pointer (some ⟨b, off, none⟩)) (vs : List Value) (d : TypeDesc) (hc : w.rangeAt b off vs)
    (hu : P.underlying ty = some d) (hd : d.isRow = true) (hi : (P.info? ty).map (·.size) = some vs.length)
    (h : wpList P ops Q rest (a.put o.dst (.agg vs.toArray)) w) : wpList P ops Q (o :: rest) a w := wpList_load_mid hgd ty x ho b off hx vs d hc hu hd hi h
end
end Go.Proofs.Ytielnpmnnifjcaa.Reg
