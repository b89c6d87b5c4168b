/- Small laws on blocks of memory: what a block holds behind an allocation, a store, a growth of memory. No Go program in sight. -/
import Derived.Test.YtielnpmnnifjcaaReg
import Derived.Laws.Rows
import Derived.Laws.NewBlocks
import Derived.Deep.Draws
namespace Go.Proofs.Ytielnpmnnifjcaa.Reg
open Go Go.RowKit

/-- Block b is a row of these cells, of type t, that may be written. -/
structure Blk (w : World) (b : Nat) (cs : Array Value) (t : TypeId) : Prop where
  is : w.heap[b]? = some (.cells cs t (0, 0))
section
variable {w w' : World} {b : Nat} {cs : Array Value} {t : TypeId}
theorem Blk.lt (h : Blk w b cs t) : b < w.heap.size := (Array.getElem?_eq_some_iff.1 h.is).1
theorem Blk.cell (h : Blk w b cs t) (j : Nat) {v : Value} (hv : cs[j]? = some v) : w.cell? ⟨b, j, none⟩ = some v := by simp [World.cell?, h.is, hv]
theorem Blk.free (h : Blk w b cs t) (j : Nat) : w.frozen? ⟨b, j, none⟩ = false := by simp [World.frozen?, h.is]
theorem Blk.ext (h : Blk w b cs t) (he : Ext w w') : Blk w' b cs t := ⟨(he.block b h.lt).trans h.is⟩
theorem Blk.below (h : Blk w b cs t) {B : Nat} (hb : b < B) (he : Below B w w') : Blk w' b cs t := ⟨(he.block b hb).trans h.is⟩
theorem Blk.alloc (h : Blk w b cs t) (o : Obj) : Blk (w.alloc o) b cs t := ⟨by rw [← h.is]; show (w.heap.push o)[b]? = _; rw [Array.getElem?_push, if_neg (Nat.ne_of_lt h.lt)]⟩
theorem Blk.new (w : World) (cs : Array Value) (t : TypeId) : Blk (w.alloc (.cells cs t)) w.heap.size cs t := ⟨by show (w.heap.push _)[w.heap.size]? = _; simp⟩
theorem Blk.drew (h : Blk w b cs t) : Blk w.drew b cs t := ⟨h.is⟩
theorem Blk.drewN (h : Blk w b cs t) (n : Nat) : Blk (w.drewN n) b cs t := ⟨h.is⟩
theorem Blk.set (h : Blk w b cs t) (j : Nat) (v : Value) : Blk (w.setCell ⟨b, j, none⟩ v) b (cs.setIfInBounds j v) t := ⟨heap_setCell_same w b j cs t v h.is⟩
theorem Blk.far (h : Blk w b cs t) {c : Nat} (hne : b ≠ c) (j : Nat) (v : Value) : Blk (w.setCell ⟨c, j, none⟩ v) b cs t := ⟨(heap_setCell_other w ⟨c, j, none⟩ b v hne).trans h.is⟩
end
theorem size_alloc (w : World) (o : Obj) : (w.alloc o).heap.size = w.heap.size + 1 := by show (w.heap.push o).size = _; simp
theorem Ext.alloc {w w' : World} (h : Ext w w') (o : Obj) : Ext w (w'.alloc o) := Below.alloc h h.size o
theorem Ext.drew {w w' : World} (h : Ext w w') : Ext w w'.drew := Below.drew h
theorem Ext.drewN {w w' : World} (h : Ext w w') (n : Nat) : Ext w (w'.drewN n) := by
  induction n generalizing w' with
  | zero => exact h
  | succ n ih => rw [← World.drew_drewN]; exact (ih h).drew
theorem Ext.cell {w w' : World} (h : Ext w w') {a : Addr} {v : Value} (hc : w.cell? a = some v) : w'.cell? a = some v := (Below.cell h (World.block_lt_of_cell? w a hc)).trans hc
theorem Below.extend {B : Nat} {w w1 w2 : World} (h : Below B w w1) (hB : B ≤ w1.heap.size) (k : Ext w1 w2) : Below B w w2 :=
  h.trans ⟨k.os, k.tape, k.output, k.size, fun i hi => k.block i (Nat.lt_of_lt_of_le hi hB)⟩
end Go.Proofs.Ytielnpmnnifjcaa.Reg
