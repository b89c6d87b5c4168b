/- Rules for arrays and digests; the contracts of the statements' own functions in other words. -/
import Derived.Test.YtbnbncnmhhioeaaDoorKit
import Derived.Test.YtbnbncnmhhioeaaDoorGate
import Derived.DeepKeys
import Derived.Laws.StructEq
import Derived.Laws.Cover3
namespace Go.Proofs.YtbnbncnmhhioeaaDoor.By
open Go.RowKit Go.Proofs.YtbnbncnmhhioeaaDoor.Reg Go.Proofs.YtbnbncnmhhioeaaDoorW.PrintWords Go.Proofs.YtbnbncnmhhioeaaDoorW.PrintLast Go.Proofs.YtbnbncnmhhioeaaDoorW.PrintMore
set_option linter.unusedVariables false

def isB (xs : List Int) : Prop := ∀ x ∈ xs, 0 ≤ x ∧ x < 256
theorem isB_rd {xs : List Int} (h : isB xs) (i : Int) : 0 ≤ rd xs i ∧ rd xs i < 256 := by
  unfold rd
  rw [List.getD_eq_getElem?_getD]
  cases e : xs[i.toNat]? with
  | none => exact ⟨by decide, by decide⟩
  | some x => exact h x (List.mem_of_getElem? e)
theorem isB.app {xs ys : List Int} (h : isB xs) (k : isB ys) : isB (xs ++ ys) := fun x hx => (List.mem_append.1 hx).elim (h x) (k x)
theorem isB.take {xs : List Int} (h : isB xs) (n : Nat) : isB (xs.take n) := fun x hx => h x (List.mem_of_mem_take hx)
theorem isB.drop {xs : List Int} (h : isB xs) (n : Nat) : isB (xs.drop n) := fun x hx => h x (List.mem_of_mem_drop hx)
def sumV (s : List Int) : Value := .agg (nums .u8 s).toArray
theorem kb_KM {w W : World} {base : Nat} {ok : Nat → Prop} (x : Int) (cs : List Value) (h : kb.K w x cs) : kb.M W base ok x cs := h
theorem nums_cell (s : List Int) (i : Nat) (h : i < s.length) : (nums .u8 s).toArray[i]? = some (.int .u8 (rd s i)) := by
  simp only [nums, List.getElem?_toArray, List.getElem?_map, rd, Int.toNat_natCast, List.getD_eq_getElem?_getD, List.getElem?_eq_getElem h]
  rfl
theorem kb_stays {w w' : World} {A : Option Addr} {n : Nat} {xs : List Int} (h : Kd.C kb w A n xs) (hs : ∀ a, A = some a → w'.heap[a.block]? = w.heap[a.block]?) : Kd.C kb w' A n xs := by
  refine ⟨h.1, h.2.1, fun hp => ?_⟩
  obtain ⟨ad, e, hc⟩ := h.2.2 hp
  refine ⟨ad, e, fun j p hj => ?_⟩
  obtain ⟨cs, h1, h2, h3⟩ := hc j p hj
  refine ⟨cs, h1, h2, fun i u hu => ?_⟩
  rw [← h3 i u hu]
  show World.cell? w' _ = World.cell? w _
  unfold World.cell?
  have hk : ∀ m, (ad.add m).block = ad.block := fun m => by unfold Addr.add; split <;> rfl
  rw [hk, hs ad e]
theorem kb_range {w : World} {A : Option Addr} {n : Nat} {xs : List Int} (h : Kd.C kb w A n xs) (hp : 0 < n) : ∃ b off, A = some ⟨b, off, none⟩ ∧ w.rangeAt b off (nums .u8 xs) := by
  obtain ⟨ad, rfl, hc⟩ := h.2.2 hp
  have key : ∀ j (p : Int), xs[j]? = some p → w.cell? (ad.add j) = some (.int .u8 p) := by
    intro j p hj
    obtain ⟨cs, h1, h2, h3⟩ := hc j p hj
    have h2' : cs = [.int .u8 p] := h2
    subst h2'
    have := h3 0 _ rfl
    rwa [show j * kb.sz + 0 = j by show j * 1 + 0 = j; omega] at this
  have hs : ad.spot = none := by
    have hl : 0 < xs.length := by rw [h.1]; exact hp
    have := key 0 _ (List.getElem?_eq_getElem hl)
    cases hsp : ad.spot with
    | none => rfl
    | some s =>
      exfalso
      simp only [Addr.add, World.cell?] at this
      simp [hsp] at this
      split at this <;> cases this
  obtain ⟨b, off, sp⟩ := ad
  subst hs
  refine ⟨b, off, rfl, fun j v hv => ?_⟩
  simp only [nums, List.getElem?_map] at hv
  obtain ⟨p, hp', rfl⟩ := Option.map_eq_some_iff.1 hv
  have := key j p hp'
  unfold Addr.add at this
  split at this
  · rename_i h0
    simpa [h0] using this
  · exact this
theorem one_cells (k : IntKind) (s : List Int) : ∀ v ∈ nums k s, v.oneCell' = true := by
  intro v hv
  obtain ⟨p, _, rfl⟩ := List.mem_map.1 hv
  rfl
section
variable {P : Program} {w : World} {ops : Array Oper} {rest : List Oper} {o : Oper} {a : Act} {Q : Exit → Act → World → Prop}
theorem gate_build {ty : TypeId} {x : Array (Nat × Operand)} (_ho : o.op = .build ty x) (h : wpList P ops Q (o :: rest) a w) : wpList P ops Q (o :: rest) a w := h
theorem build_at (hw : Region.wanted o (yielded ops a.tmps) = true) (t : TypeId) (parts : Array (Nat × Operand)) (ho : o.op = .build t parts) (cells : Array Value) (vals : List (Nat × Value)) (he : parts.toList.map (fun p => (p.1, a.eval p.2)) = vals) (hb : P.built t vals = some cells)
    (h : wpList P ops Q rest (a.put o.dst (.agg cells)) w) : wpList P ops Q (o :: rest) a w :=
  have h' : P.built t (parts.map fun (i, x) => (i, a.eval x)).toList = some cells := by rw [Array.toList_map, ← hb, ← he]
  BigFrame.wpList_want hw fun K hK => wp_build t parts ho (by rw [h']; rfl) (by rw [h']; exact hK _ _ h)
theorem gate_eql {ty : TypeId} {x y : Operand} {yt : TypeId} (_ho : o.op = .binOp .eql ty x y yt) (h : wpList P ops Q (o :: rest) a w) : wpList P ops Q (o :: rest) a w := h
theorem run_eql (t yt : TypeId) (x y : Operand) (ho : o.op = .binOp .eql t x y yt) (xs ys : Array Value) (hx : a.eval x = .agg xs) (hy : a.eval y = .agg ys) (hg : P.eqGuardType P.depth t = false) (r : Bool) (he : (Op.equal t (.agg xs) (.agg ys)).run P w = .ok r w) :
    (execOp a.eval o).run P w = .ok (.value (.bool r)) w := by
  unfold execOp
  simp only [ho, hx, hy, Sem.run_bind, run_eqGuard_agg w BinOp.eql t x y xs ys hg, Result.andThen_ok, binOp, he, Sem.run_pure]
theorem eql_at (hw : Region.wanted o (yielded ops a.tmps) = true) (t yt : TypeId) (x y : Operand) (ho : o.op = .binOp .eql t x y yt) (xs ys : Array Value) (hx : a.eval x = .agg xs) (hy : a.eval y = .agg ys) (hg : P.eqGuardType P.depth t = false) (r : Bool) (he : (Op.equal t (.agg xs) (.agg ys)).run P w = .ok r w)
    (h : wpList P ops Q rest (a.put o.dst (.bool r)) w) : wpList P ops Q (o :: rest) a w :=
  BigFrame.wpList_want hw fun K hK => by
    unfold Oper.wp
    rw [run_eql t yt x y ho xs ys hx hy hg r he]
    exact hK _ _ h
end

theorem NB.top {w : World} {B : Nat} {V : Value} {xs : List Int} (h : NB w B V xs) (k : Nat) (hk : V.ownBlock = some k) : k < w.heap.size := own_lt (Kd.own_of_R h) k hk
theorem lent_at (w : World) (A : Option Addr) (c n : Nat) (xs : List Int) (hn : n = xs.length) (hr : Kd.C kb w A n xs) (hc : n ≤ c) (hl : n ≤ 281474976710651) :
    Calls Tryd.prog 15 #[.slice A n c] w fun e w' => ∃ B d, e = .returned (.slice B (n + 5) d) ∧ NB w' w.heap.size (.slice B (n + 5) d) (lent xs) ∧ n + 5 ≤ d ∧ Kd.C kb w' B (n + 5) (lent xs) ∧ Kd.C kb w' B n xs ∧ Ext w w' := by
  subst hn
  refine (lent_calls w A c xs hr hc hl).mono ?_
  rintro e w' ⟨V, rfl, hN, hE⟩
  obtain ⟨B, d, rfl, hd, hC⟩ := hN.reads
  have ht := Kd.C_take (m := xs.length) hC (by rw [lent_length]; omega)
  rw [lent_take] at ht
  rw [lent_length] at hd hC hN ⊢
  exact ⟨B, d, rfl, hN, hd, hC, ht, hE⟩
theorem kept_n (w : World) (A B : Option Addr) (c d n : Nat) (xs : List Int) (hn : n = xs.length) (hr : Kd.C kb w A (n + 5) (lent xs)) (hc : n + 5 ≤ c) (hr' : Kd.C kb w B n xs) (hc' : n ≤ d) (hl : n ≤ 281474976710651) :
    Calls Tryd.prog 18 #[.slice A (n + 5) c, .slice B n d] w fun e w' => e = .returned (.bool true) ∧ Ext w w' := by
  subst hn
  have := kept_calls w A B c d xs (lent xs) rfl (by rw [lent_length]; exact hr) (by rw [lent_length]; exact hc) hr' hc' hl
  rwa [lent_length] at this
def lits (s : List Int) : List Lit := s.map (Lit.int .u8)
theorem lits_inj {s t : List Int} : lits s = lits t ↔ s = t := by
  constructor
  · intro h
    exact List.map_inj_right (fun x y e => by injection e) |>.1 h
  · intro h; rw [h]
theorem mapM_some {α β : Type} (f : α → Option β) (g : α → β) : ∀ (l : List α), (∀ i ∈ l, f i = some (g i)) → l.mapM f = some (l.map g)
  | [], _ => rfl
  | x :: l, h => by
    rw [List.mapM_cons, h x (by simp), mapM_some f g l (fun i hi => h i (by simp [hi]))]
    rfl
theorem byte_lit {x : Int} (h : 0 ≤ x ∧ x < 256) : (Lit.int .u8 x).wf = true := by simp [Lit.wf, IntKind.min, IntKind.max, IntKind.signed, IntKind.bits]; omega
theorem flat_one {α β : Type} (f : α → β) : ∀ (l : List α), (l.map fun i => [f i]).flatten = l.map f
  | [] => rfl
  | x :: l => by rw [List.map_cons, List.flatten_cons, flat_one f l]; rfl
theorem keyLits_sum (d : Nat) (s : List Int) (hs : s.length = 32) (hb : isB s) : Tryd.prog.keyLits (d + 2) 26 (nums .u8 s) = some (lits s) := by
  unfold Program.keyLits
  rw [Tryd.underlying26]
  simp only []
  have hc : Tryd.prog.cellsOf 26 = 32 := by kernel_rfl
  have h5 : Tryd.prog.cellsOf 5 = 1 := by kernel_rfl
  rw [if_pos (by rw [nums_length, hs, hc]), h5]
  rw [mapM_some _ (fun i : Nat => [Lit.int .u8 (rd s i)]) (List.range 32) ?_]
  · rw [Option.map_some, flat_one (fun i : Nat => Lit.int .u8 (rd s i))]
    congr 1
    apply List.ext_getElem
    · simp [lits, hs]
    · intro i h1 h2
      simp only [lits, List.getElem_map, List.getElem_range]
      have hi' : i < s.length := by simpa [lits] using h2
      simp [rd, List.getD_eq_getElem?_getD, List.getElem?_eq_getElem hi']
  · intro i hi
    have hi' : i < s.length := by rw [hs]; exact List.mem_range.1 hi
    have e : ((nums .u8 s).drop (i * 1)).take 1 = [.int .u8 (rd s i)] := by
      rw [Nat.mul_one, List.drop_eq_getElem_cons (by rw [nums_length]; exact hi')]
      simp [nums, rd, List.getD_eq_getElem?_getD, List.getElem?_eq_getElem hi']
    rw [e]
    unfold Program.keyLits
    rw [Tryd.underlying5]
    simp only []
    rw [if_pos ⟨trivial, byte_lit (isB_rd hb _)⟩]
theorem equal_sum (s t : List Int) (hs : s.length = 32) (ht : t.length = 32) (hb : isB s) (hb' : isB t) (w : World) : (Op.equal 26 (sumV s) (sumV t)).run Tryd.prog w = .ok (decide (s = t)) w := by
  have f : ∀ u : List Int, u.length = 32 → (sumV u).formed Tryd.prog 26 = true := by
    intro u hu
    simp only [sumV, Value.formed, Tryd.underlying26]
    have hc : Tryd.prog.cellsOf 26 = 32 := by kernel_rfl
    rw [hc]
    simp [nums_length, hu]
  obtain ⟨r, hr, hiff⟩ := run_equalIn_deep (P := Tryd.prog) 9998 2 26 (by kernel_rfl) w 2 2 (sumV s) (sumV t) (lits s) (lits t) (f s hs) (f t ht) (by simpa [sumV, Value.cells] using keyLits_sum 0 s hs hb) (by simpa [sumV, Value.cells] using keyLits_sum 0 t ht hb')
  have : r = decide (s = t) := by
    rw [lits_inj] at hiff
    cases r
    · simp at hiff; simp [hiff]
    · simp at hiff; simp [hiff]
  rw [← this]
  exact hr
end Go.Proofs.YtbnbncnmhhioeaaDoor.By
