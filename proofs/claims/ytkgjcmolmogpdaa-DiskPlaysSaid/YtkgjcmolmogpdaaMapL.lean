/- Maps from whole numbers, as lists by rising keys: plain laws. No Go program in sight. -/
import Derived.Maps.RangeWalk
import Derived.Maps.OwnSet
import Derived.Lib.SlKeysI
namespace Go.Proofs.Ytkgjcmolmogpdaa.Reg
open Go Go.RowKit
set_option linter.unusedVariables false
section
variable {α β : Type}
def insA (x : Int × α) : List (Int × α) → List (Int × α)
  | [] => [x]
  | y :: r => if x.1 < y.1 then x :: y :: r else y :: insA x r
def delA (l : List (Int × α)) (i : Int) : List (Int × α) := l.filter (fun p => !(decide (p.1 = i)))
def putA (l : List (Int × α)) (i : Int) (v : α) : List (Int × α) := insA (i, v) (delA l i)
def getA (l : List (Int × α)) (i : Int) : Option α := (l.find? (fun p => decide (p.1 = i))).map (·.2)
def Rise (l : List (Int × α)) : Prop := l.Pairwise (fun p q => p.1 < q.1)
theorem mem_insA (x : Int × α) : ∀ (l : List (Int × α)) (y : Int × α), y ∈ insA x l ↔ y = x ∨ y ∈ l
  | [], y => by simp [insA]
  | z :: r, y => by
    unfold insA
    split
    · simp
    · rw [List.mem_cons, mem_insA x r, List.mem_cons]
      constructor
      · rintro (h | h | h)
        · exact .inr (.inl h)
        · exact .inl h
        · exact .inr (.inr h)
      · rintro (h | h | h)
        · exact .inr (.inl h)
        · exact .inl h
        · exact .inr (.inr h)
theorem rise_insA (x : Int × α) : ∀ (l : List (Int × α)), Rise l → (∀ p ∈ l, p.1 ≠ x.1) → Rise (insA x l)
  | [], _, _ => by simp [insA, Rise]
  | z :: r, h, hn => by
    obtain ⟨h1, h2⟩ := List.pairwise_cons.1 h
    unfold insA
    split
    · rename_i hlt
      refine List.pairwise_cons.2 ⟨fun p hp => ?_, h⟩
      rcases List.mem_cons.1 hp with rfl | hp
      · exact hlt
      · exact Int.lt_trans hlt (h1 p hp)
    · rename_i hlt
      have hne := hn z List.mem_cons_self
      refine List.pairwise_cons.2 ⟨fun p hp => ?_, rise_insA x r h2 (fun p hp => hn p (List.mem_cons_of_mem _ hp))⟩
      rcases (mem_insA x r p).1 hp with rfl | hp
      · omega
      · exact h1 p hp
theorem mem_delA {l : List (Int × α)} {i : Int} {p : Int × α} : p ∈ delA l i ↔ p ∈ l ∧ p.1 ≠ i := by simp [delA]
theorem rise_delA {l : List (Int × α)} (h : Rise l) (i : Int) : Rise (delA l i) := h.sublist List.filter_sublist
theorem rise_putA {l : List (Int × α)} (h : Rise l) (i : Int) (v : α) : Rise (putA l i v) := rise_insA _ _ (rise_delA h i) (fun p hp => (mem_delA.1 hp).2)
theorem find_insA (x : Int × α) (f : Int × α → Bool) : ∀ (l : List (Int × α)), (∀ p ∈ l, f p = true → f x = false) → (insA x l).find? f = if f x = true then some x else l.find? f
  | [], _ => by
    cases h : f x <;> simp [insA, h]
  | z :: r, hn => by
    unfold insA
    split
    · cases h : f x <;> simp [List.find?_cons, h]
    · rw [List.find?_cons, find_insA x f r (fun p hp => hn p (List.mem_cons_of_mem _ hp)), List.find?_cons]
      cases hz : f z with
      | false => simp
      | true =>
        have := hn z List.mem_cons_self hz
        simp [this]
theorem get_delA (l : List (Int × α)) (i j : Int) : getA (delA l i) j = if j = i then none else getA l j := by
  unfold getA delA
  rw [List.find?_filter]
  by_cases h : j = i
  · subst h
    rw [if_pos rfl]
    have : ∀ (o : Option (Int × α)), o = none → o.map (·.2) = none := by rintro _ rfl; rfl
    exact this _ (List.find?_eq_none.2 (fun p _ => by simp))
  · rw [if_neg h]
    congr 1
    congr 1
    funext p
    by_cases hp : p.1 = j
    · simp [hp, h]
    · simp [hp]
theorem get_putA (l : List (Int × α)) (i : Int) (v : α) (j : Int) : getA (putA l i v) j = if j = i then some v else getA l j := by
  unfold putA
  have h1 : getA (insA (i, v) (delA l i)) j = if j = i then some v else getA (delA l i) j := by
    unfold getA
    rw [find_insA]
    · by_cases h : i = j
      · simp [h]
      · simp [h, Ne.symm h]
    · intro p hp hf
      have h2 := (mem_delA.1 hp).2
      have h3 : p.1 = j := by simpa using hf
      simp only [decide_eq_false_iff_not]
      omega
  rw [h1, get_delA]
  by_cases h : j = i
  · simp [h]
  · simp [h]
theorem getA_none {l : List (Int × α)} {i : Int} : getA l i = none ↔ ∀ p ∈ l, p.1 ≠ i := by simp [getA]
theorem getA_some {l : List (Int × α)} {i : Int} {v : α} (h : getA l i = some v) : (i, v) ∈ l := by
  unfold getA at h
  obtain ⟨p, hp, rfl⟩ := Option.map_eq_some_iff.1 h
  have h1 := List.find?_some hp
  have h2 := List.mem_of_find?_eq_some hp
  have : p.1 = i := by simpa using h1
  subst this
  exact h2
theorem getA_mem {l : List (Int × α)} (hr : Rise l) {i : Int} {v : α} (h : (i, v) ∈ l) : getA l i = some v := by
  induction l with
  | nil => cases h
  | cons z r ih =>
    obtain ⟨h1, h2⟩ := List.pairwise_cons.1 hr
    unfold getA
    rw [List.find?_cons]
    rcases List.mem_cons.1 h with e | h
    · subst e
      simp
    · have := h1 _ h
      have hz : ¬ z.1 = i := by have h3 : z.1 < i := this; omega
      rw [decide_eq_false hz]
      exact ih h2 h
/-- Two lists by rising keys that answer alike are one. -/
theorem rise_ext : ∀ {l m : List (Int × α)}, Rise l → Rise m → (∀ i, getA l i = getA m i) → l = m
  | [], [], _, _, _ => rfl
  | [], z :: m, _, hm, h => by
    have := h z.1
    rw [getA_mem hm (v := z.2) List.mem_cons_self] at this
    simp [getA] at this
  | z :: l, [], hl, _, h => by
    have := h z.1
    rw [getA_mem hl (v := z.2) List.mem_cons_self] at this
    simp [getA] at this
  | z :: l, y :: m, hl, hm, h => by
    obtain ⟨l1, l2⟩ := List.pairwise_cons.1 hl
    obtain ⟨m1, m2⟩ := List.pairwise_cons.1 hm
    have hz := h z.1
    rw [getA_mem hl (v := z.2) List.mem_cons_self] at hz
    have hy := h y.1
    rw [getA_mem hm (v := y.2) List.mem_cons_self] at hy
    have hzm := getA_some hz.symm
    have hyl := getA_some hy
    have e1 : z.1 = y.1 := by
      rcases List.mem_cons.1 hzm with e | hzm
      · exact congrArg Prod.fst e
      · rcases List.mem_cons.1 hyl with e | hyl
        · exact (congrArg Prod.fst e).symm
        · have a := m1 _ hzm
          have b := l1 _ hyl
          have a' : y.1 < z.1 := a
          have b' : z.1 < y.1 := b
          omega
    have e2 : z = y := by
      rcases List.mem_cons.1 hzm with e | hzm
      · exact e
      · have a := m1 _ hzm
        have a' : y.1 < z.1 := a
        omega
    subst e2
    congr 1
    refine rise_ext l2 m2 (fun i => ?_)
    have hi := h i
    by_cases hiz : z.1 = i
    · have a : getA l i = none := getA_none.2 (fun p hp => by have := l1 p hp; omega)
      have b : getA m i = none := getA_none.2 (fun p hp => by have := m1 p hp; omega)
      rw [a, b]
    · unfold getA at hi ⊢
      rw [List.find?_cons, List.find?_cons] at hi
      simpa [hiz] using hi
theorem insA_map (f : α → β) (x : Int × α) : ∀ (l : List (Int × α)), insA (x.1, f x.2) (l.map fun p => (p.1, f p.2)) = (insA x l).map fun p => (p.1, f p.2)
  | [] => rfl
  | z :: r => by
    rw [List.map_cons]
    unfold insA
    split
    · rfl
    · rw [List.map_cons, ← insA_map f x r]
theorem delA_map (f : α → β) (l : List (Int × α)) (i : Int) : delA (l.map fun p => (p.1, f p.2)) i = (delA l i).map fun p => (p.1, f p.2) := by
  unfold delA
  rw [List.filter_map]
  rfl
theorem putA_map (f : α → β) (l : List (Int × α)) (i : Int) (v : α) : putA (l.map fun p => (p.1, f p.2)) i (f v) = (putA l i v).map fun p => (p.1, f p.2) := by
  unfold putA
  rw [delA_map]
  exact insA_map f (i, v) (delA l i)
theorem putA_keys (l : List (Int × α)) (m : List (Int × β)) (i : Int) (v : α) (u : β) (h : l.map (·.1) = m.map (·.1)) : (putA l i v).map (·.1) = (putA m i u).map (·.1) := by
  have e1 := putA_map (fun _ : α => ()) l i v
  have e2 := putA_map (fun _ : β => ()) m i u
  have e3 : (l.map fun p => (p.1, ())) = (m.map fun p => (p.1, ())) := by
    have := congrArg (List.map fun k : Int => (k, ())) h
    simpa [List.map_map, Function.comp_def] using this
  rw [e3] at e1
  have := e1.symm.trans e2
  have := congrArg (List.map (fun p : Int × Unit => p.1)) this
  simpa [List.map_map, Function.comp_def] using this
theorem length_insA (x : Int × α) : ∀ (l : List (Int × α)), (insA x l).length = l.length + 1
  | [] => rfl
  | z :: r => by
    unfold insA
    split
    · rfl
    · simp [length_insA x r]
/-- Keys that rise between two bounds are not many. -/
theorem rise_length : ∀ {l : List (Int × α)} {a b : Int}, Rise l → a ≤ b → (∀ p ∈ l, a ≤ p.1 ∧ p.1 < b) → (l.length : Int) ≤ b - a
  | [], a, b, _, hab, _ => by simp; omega
  | z :: r, a, b, h, hab, hk => by
    obtain ⟨h1, h2⟩ := List.pairwise_cons.1 h
    have hz := hk z List.mem_cons_self
    have := rise_length (a := z.1 + 1) (b := b) h2 (by omega) (fun p hp => ⟨by have := h1 p hp; omega, (hk p (List.mem_cons_of_mem _ hp)).2⟩)
    simp only [List.length_cons]
    omega
end

/-! the map's datum -/
def RM (v : Value) : Option (DataW Value × List MemPlace) := some (.held v, [])
def mapD (l : List (Int × Value)) : DataW Value := .map (l.map fun p => (Lit.int .i64 p.1, .held p.2))
theorem same_int (a b : Int) : Lit.sameKey (.int .i64 a) (.int .i64 b) = decide (a = b) := by simp [Lit.sameKey]
theorem mapD_has (l : List (Int × Value)) (i : Int) : Maps.has (mapD l) (.int .i64 i) = (getA l i).isSome := by
  unfold mapD
  rw [Maps.has_eq, List.any_map]
  unfold getA
  rw [Option.isSome_map, List.isSome_find?]
  congr 1
  funext p
  simp [same_int]
theorem mapD_at (l : List (Int × Value)) (i : Int) (z : Value) : (mapD l).atKey (.int .i64 i) (.held z) = .held ((getA l i).getD z) := by
  unfold mapD DataW.atKey getA
  simp only [List.find?_map]
  rw [show ((fun p : Lit × DataW Value => p.1.sameKey (.int .i64 i)) ∘ fun p : Int × Value => (Lit.int .i64 p.1, DataW.held p.2)) = fun p => decide (p.1 = i) by funext p; simp [same_int]]
  cases l.find? (fun p => decide (p.1 = i)) <;> rfl
theorem insert_mapD (x : Int × Value) : ∀ (l : List (Int × Value)), DataW.insert (Lit.int .i64 x.1, DataW.held x.2) (l.map fun p => (Lit.int .i64 p.1, .held p.2)) = (insA x l).map fun p => (Lit.int .i64 p.1, DataW.held p.2)
  | [] => rfl
  | z :: r => by
    rw [List.map_cons]
    unfold DataW.insert insA
    simp only [Lit.before]
    by_cases h : x.1 < z.1
    · simp [h]
    · simp [h, insert_mapD x r]
theorem filter_mapD (l : List (Int × Value)) (i : Int) : (l.map fun p => (Lit.int .i64 p.1, (DataW.held p.2 : DataW Value))).filter (fun p => !p.1.sameKey (.int .i64 i)) = (delA l i).map fun p => (Lit.int .i64 p.1, DataW.held p.2) := by
  unfold delA
  rw [List.filter_map]
  congr 1
  congr 1
  funext p
  simp [same_int]
theorem mapD_put (l : List (Int × Value)) (i : Int) (v : Value) : (mapD l).put (.int .i64 i) (.held v) = mapD (putA l i v) := by
  unfold mapD DataW.put
  simp only [filter_mapD]
  rw [show (i : Int) = (i, v).1 from rfl, show v = (i, v).2 from rfl, insert_mapD]
  rfl
theorem mapD_del (l : List (Int × Value)) (i : Int) : (mapD l).del (.int .i64 i) = mapD (delA l i) := by
  unfold mapD DataW.del
  simp only [filter_mapD]
theorem mapD_size (l : List (Int × Value)) : Maps.size (mapD l) = l.length := by simp [mapD, Maps.size]
end Go.Proofs.Ytkgjcmolmogpdaa.Reg
