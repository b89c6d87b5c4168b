/- A rule for a region whose order is drawn: each operation gives a value, or a fact that stays as memory grows; the facts of what it waits for serve each. No Go program in sight. -/
import Derived.StillTail
import Derived.Below
import Derived.Deep.Draws
namespace Go.Proofs.Ytielnpmnnifjcaa.Reg
open Go Go.RowKit

/-- Memory has grown: no block that was there has turned. -/
def Ext (w w' : World) : Prop := Below w.heap.size w w'
theorem Ext.refl (w : World) : Ext w w := Below.refl _ _
theorem Ext.trans {a b c : World} (h : Ext a b) (k : Ext b c) : Ext a c := Below.trans h (Below.mono k h.size)

inductive RF where
  | val (v : Value)
  | fact (p : Value → World → Prop)
def RF.ok : RF → Value → World → Prop
  | .val v, u, _ => u = v
  | .fact p, u, w => p u w
def RF.stable : RF → Prop
  | .val _ => True
  | .fact p => ∀ u w w', p u w → Ext w w' → p u w'
theorem RF.ok_ext {f : RF} (hs : f.stable) {u : Value} {w w' : World} (h : f.ok u w) (he : Ext w w') : f.ok u w' := by
  cases f with
  | val v => exact h
  | fact p => exact hs u w w' h he

/-- What an operation yields. -/
def Upon (P : Program) (w : World) (f : RF) : Result Next → Prop
  | .ok (.value u) w' => Ext w w' ∧ f.ok u w'
  | .ok .skip w' => Ext w w' ∧ f.ok undef w'
  | .ok (.enter g args) w' => Calls P g args w' fun e w2 => ∃ u, e = .returned u ∧ Ext w w2 ∧ f.ok u w2
  | _ => False
def Yld (P : Program) (o : Oper) (a : Act) (w : World) (f : RF) : Prop := Upon P w f ((execOp a.eval o).run P w)
theorem Yld.wp {P : Program} {o : Oper} {a : Act} {w : World} {f : RF} (h : Yld P o a w f) (K : Act → World → Prop) (Q : Exit → Act → World → Prop) (hK : ∀ u w', Ext w w' → f.ok u w' → K (a.put o.dst u) w') : o.wp P a w K Q := by
  unfold Yld at h
  unfold Oper.wp
  generalize (execOp a.eval o).run P w = r at *
  cases r with
  | ok n w' =>
    cases n <;> simp only [Upon] at h <;> simp only [Oper.upon]
    case value u => exact hK _ _ h.1 h.2
    case skip => exact hK _ _ h.1 h.2
    case enter g args =>
      refine h.mono fun e w2 ⟨u, he, h1, h2⟩ => ?_
      subst he
      exact hK _ _ h1 h2
  | halt x w' => simp only [Upon] at h

/-! the rule's own walk, in the text's order -/
def depB (o : Oper) (j : Nat) : Bool := o.after.any fun e => Region.binds .any e && e.on == j
/-- What is told of the operations that this one waits for. -/
def Deps (o : Oper) : List (Nat × (World → Prop)) → World → Prop
  | [], _ => True
  | (j, p) :: r, w => (depB o j = true → p w) ∧ Deps o r w
def AllR : List (Nat × (World → Prop)) → World → Prop
  | [], _ => True
  | (_, p) :: r, w => p w ∧ AllR r w
def wpF (P : Program) (ops : Array Oper) (W : World) (End : Act → World → Prop) : Nat → List (Oper × RF) → List (Nat × (World → Prop)) → Act → Prop
  | _, [], R, a => ∀ w, Ext W w → AllR R w → End a w
  | k, (o, f) :: rest, R, a =>
    (if Region.wanted o (yielded ops a.tmps) then ∀ w, Ext W w → Deps o R w → Yld P o a w f else f = .val undef) ∧ f.stable ∧
    (match f with
      | .val v => wpF P ops W End (k + 1) rest R (a.put o.dst v)
      | .fact p => ∀ u, wpF P ops W End (k + 1) rest (R ++ [(k, p u)]) (a.put o.dst u))

def lexP (vals : Nat → Value) : Nat → List Oper → Act → Act
  | _, [], a => a
  | k, o :: r, a => lexP vals (k + 1) r (a.put o.dst (vals k))

section
variable {P : Program} {ops : Array Oper} {W : World} {End : Act → World → Prop}

theorem deps_append (o : Oper) (R : List (Nat × (World → Prop))) (j : Nat) (p : World → Prop) (w : World) (h : Deps o R w) (hp : depB o j = true → p w) : Deps o (R ++ [(j, p)]) w := by
  induction R with
  | nil => exact ⟨hp, trivial⟩
  | cons r R ih => exact ⟨h.1, ih h.2⟩
theorem deps_of (o : Oper) (R : List (Nat × (World → Prop))) (w : World) (h : ∀ r ∈ R, depB o r.1 = true → r.2 w) : Deps o R w := by
  induction R with
  | nil => trivial
  | cons r R ih => exact ⟨h r List.mem_cons_self, ih (fun x hx => h x (List.mem_cons_of_mem _ hx))⟩
theorem allR_of (R : List (Nat × (World → Prop))) (w : World) (h : ∀ r ∈ R, r.2 w) : AllR R w := by
  induction R with
  | nil => trivial
  | cons r R ih => exact ⟨h r List.mem_cons_self, ih (fun x hx => h x (List.mem_cons_of_mem _ hx))⟩

def Fits (vals : Nat → Value) (k : Nat) (fl : List (Oper × RF)) : Prop := ∀ (i : Nat) (o : Oper) (v : Value), fl[i]? = some (o, .val v) → vals (k + i) = v

/-- What the walk gives, operation by operation, for any values that fit. -/
theorem wpF_all (vals : Nat → Value) : ∀ (fl : List (Oper × RF)) (k : Nat) (R : List (Nat × (World → Prop))) (a : Act), Fits vals k fl → wpF P ops W End k fl R a →
    (∀ (i : Nat) (o : Oper) (f : RF), fl[i]? = some (o, f) → f.stable ∧
      (Region.wanted o (yielded ops (lexP vals k ((fl.take i).map (·.1)) a).tmps) = true → ∀ w, Ext W w → (∀ r ∈ R, depB o r.1 = true → r.2 w) → (∀ j oj (p : Value → World → Prop), j < i → fl[j]? = some (oj, .fact p) → depB o (k + j) = true → p (vals (k + j)) w) → Yld P o (lexP vals k ((fl.take i).map (·.1)) a) w f) ∧
      (Region.wanted o (yielded ops (lexP vals k ((fl.take i).map (·.1)) a).tmps) = false → f = .val undef)) ∧
    (∀ w, Ext W w → (∀ r ∈ R, r.2 w) → (∀ j oj (p : Value → World → Prop), fl[j]? = some (oj, .fact p) → p (vals (k + j)) w) → End (lexP vals k (fl.map (·.1)) a) w)
  | [], k, R, a, _, h => ⟨fun i o f hi => by simp at hi, fun w hw hr _ => h w hw (allR_of R w hr)⟩
  | (o0, f0) :: fl, k, R, a, hf, h => by
    obtain ⟨h1, h2, h3⟩ := h
    have hf' : Fits vals (k + 1) fl := fun i o v hi => by have := hf (i + 1) o v (by simpa using hi); rwa [Nat.add_assoc, Nat.add_comm 1 i]
    have key : ∃ R', wpF P ops W End (k + 1) fl R' (a.put o0.dst (vals k)) ∧ (∀ w, (∀ r ∈ R, r.2 w) → (∀ p, f0 = .fact p → p (vals k) w) → ∀ r ∈ R', r.2 w) ∧
        (∀ (o : Oper) w, (∀ r ∈ R, depB o r.1 = true → r.2 w) → (∀ p, f0 = .fact p → depB o k = true → p (vals k) w) → ∀ r ∈ R', depB o r.1 = true → r.2 w) := by
      cases f0 with
      | val v =>
        have hv : vals k = v := by have := hf 0 o0 v (by simp); simpa using this
        exact ⟨R, by rw [hv]; exact h3, fun w hr _ => hr, fun o w hr _ => hr⟩
      | fact p =>
        refine ⟨R ++ [(k, p (vals k))], h3 (vals k), fun w hr hp r hm => ?_, fun o w hr hp r hm => ?_⟩
        · rcases List.mem_append.1 hm with hm | hm
          · exact hr r hm
          · rw [List.mem_singleton.1 hm]; exact hp p rfl
        · rcases List.mem_append.1 hm with hm | hm
          · exact hr r hm
          · rw [List.mem_singleton.1 hm]; exact hp p rfl
    obtain ⟨R', hw, ha, hd⟩ := key
    obtain ⟨g1, g2⟩ := wpF_all vals fl (k + 1) R' _ hf' hw
    refine ⟨fun i o f hi => ?_, fun w hW hr hj => ?_⟩
    · cases i with
      | zero =>
        obtain ⟨rfl, rfl⟩ : o0 = o ∧ f0 = f := by simpa using hi
        refine ⟨h2, fun hwa w hW hr _ => ?_, fun hwa => ?_⟩
        · simp only [List.take_zero, List.map_nil, lexP] at hwa ⊢
          rw [if_pos hwa] at h1
          exact h1 w hW (deps_of _ _ _ hr)
        · simp only [List.take_zero, List.map_nil, lexP] at hwa
          rw [if_neg (by rw [hwa]; simp)] at h1
          exact h1
      | succ i =>
        have hi' : fl[i]? = some (o, f) := by simpa using hi
        obtain ⟨s1, s2, s3⟩ := g1 i o f hi'
        refine ⟨s1, fun hwa w hW hr hj => ?_, fun hwa => ?_⟩
        · simp only [List.take_succ_cons, List.map_cons, lexP] at hwa ⊢
          refine s2 hwa w hW (hd o w hr fun p hp hdep => ?_) fun j oj p hjl hjf hdep => ?_
          · subst hp
            have := hj 0 o0 p (by omega) (by simp)
            simpa using this (by simpa using hdep)
          · have := hj (j + 1) oj p (by omega) (by simpa using hjf)
            have e : k + (j + 1) = k + 1 + j := by omega
            rw [e] at this
            exact this hdep
        · simp only [List.take_succ_cons, List.map_cons, lexP] at hwa
          exact s3 hwa
    · simp only [List.map_cons, lexP]
      refine g2 w hW (ha w hr fun p hp => ?_) fun j oj p hjf => ?_
      · subst hp
        simpa using hj 0 o0 p (by simp)
      · have := hj (j + 1) oj p (by simpa using hjf)
        have e : k + (j + 1) = k + 1 + j := by omega
        rwa [e] at this
end

/-! a frame in which some operations have put their values -/
def wrote (ops : Array Oper) (S : Nat → Bool) (t : Nat) : Option Nat := (List.range ops.size).find? fun j => S j && ((ops[j]?).bind (·.dst)) == some t
def actOf (ops : Array Oper) (S : Nat → Bool) (vals : Nat → Value) (a : Act) : Act :=
  { a with tmps := a.tmps.mapIdx fun t x => match wrote ops S t with | some j => vals j | none => x }
def distinctB (ops : Array Oper) : Bool :=
  (List.range ops.size).all fun i => (List.range ops.size).all fun j => i == j || !(((ops[i]?).bind (·.dst)).isSome && ((ops[i]?).bind (·.dst)) == ((ops[j]?).bind (·.dst)))
theorem distinct_spec {ops : Array Oper} (h : distinctB ops = true) {i j d : Nat} (hi : (ops[i]?).bind (·.dst) = some d) (hj : (ops[j]?).bind (·.dst) = some d) : i = j := by
  have li : i < ops.size := by
    rcases Nat.lt_or_ge i ops.size with l | l
    · exact l
    · simp [Array.getElem?_eq_none l] at hi
  have lj : j < ops.size := by
    rcases Nat.lt_or_ge j ops.size with l | l
    · exact l
    · simp [Array.getElem?_eq_none l] at hj
  have h1 := List.all_eq_true.1 (List.all_eq_true.1 h i (List.mem_range.2 li)) j (List.mem_range.2 lj)
  rw [hi, hj] at h1
  simpa using h1
theorem wrote_some {ops : Array Oper} {S : Nat → Bool} {t j : Nat} (h : wrote ops S t = some j) : S j = true ∧ (ops[j]?).bind (·.dst) = some t := by
  have := List.find?_some h
  simpa using this
theorem wrote_is {ops : Array Oper} {S : Nat → Bool} {t j : Nat} (hd : distinctB ops = true) (hs : S j = true) (ht : (ops[j]?).bind (·.dst) = some t) : wrote ops S t = some j := by
  have lj : j < ops.size := by
    rcases Nat.lt_or_ge j ops.size with l | l
    · exact l
    · simp [Array.getElem?_eq_none l] at ht
  cases h : wrote ops S t with
  | none =>
    have h1 := List.find?_eq_none.1 h j (List.mem_range.2 lj)
    rw [ht, hs] at h1
    simp at h1
  | some k =>
    have := wrote_some h
    rw [distinct_spec hd this.2 ht]
theorem wrote_none {ops : Array Oper} {S : Nat → Bool} {t : Nat} (h : ∀ j, (ops[j]?).bind (·.dst) = some t → S j = false) : wrote ops S t = none := by
  cases hw : wrote ops S t with
  | none => rfl
  | some k => have := wrote_some hw; rw [h k this.2] at this; simp at this
theorem actOf_none (ops : Array Oper) (vals : Nat → Value) (a : Act) (S : Nat → Bool) (h : ∀ j, j < ops.size → S j = false) : actOf ops S vals a = a := by
  have hw : ∀ t, wrote ops S t = none := fun t => wrote_none fun j hj => h j (by
    rcases Nat.lt_or_ge j ops.size with l | l
    · exact l
    · simp [Array.getElem?_eq_none l] at hj)
  obtain ⟨tm, df⟩ := a
  simp only [actOf, hw, Act.mk.injEq, and_true]
  apply Array.ext
  · simp
  · intro i h1 h2; simp
theorem actOf_put {ops : Array Oper} (hd : distinctB ops = true) (S S' : Nat → Bool) (vals vals' : Nat → Value) (a : Act) (i : Nat) (o : Oper) (u : Value) (hi : ops[i]? = some o) (hn : S i = false)
    (hS : ∀ j, j < ops.size → S' j = (S j || j == i)) (hv : ∀ j, j ≠ i → vals' j = vals j) (hu : vals' i = u) : (actOf ops S vals a).put o.dst u = actOf ops S' vals' a := by
  have lt_of : ∀ {j d}, (ops[j]?).bind (·.dst) = some d → j < ops.size := fun {j d} hj => by
    rcases Nat.lt_or_ge j ops.size with l | l
    · exact l
    · simp [Array.getElem?_eq_none l] at hj
  obtain ⟨tm, df⟩ := a
  have hdst : (ops[i]?).bind (·.dst) = o.dst := by rw [hi]; rfl
  have other : ∀ t, o.dst ≠ some t → (match wrote ops S' t with | some j => some (vals' j) | none => none) = (match wrote ops S t with | some j => some (vals j) | none => none) := by
    intro t ht
    cases hw : wrote ops S t with
    | some j =>
      have h1 := wrote_some hw
      have hji : j ≠ i := fun e => by subst e; rw [h1.1] at hn; cases hn
      rw [wrote_is hd (j := j) (by rw [hS j (lt_of h1.2), h1.1]; rfl) h1.2]
      simp only [hv j hji]
    | none =>
      rw [wrote_none (S := S') fun j hj => by
        have hji : j ≠ i := fun e => by subst e; exact ht (hdst.symm.trans hj)
        rw [hS j (lt_of hj)]
        cases hs : S j with
        | false => simp [hji]
        | true => rw [wrote_is hd hs hj] at hw; cases hw]
  cases hdo : o.dst with
  | none =>
    simp only [Act.put, actOf, Act.mk.injEq, and_true]
    apply Array.ext
    · simp
    · intro t h1 h2
      have := other t (by rw [hdo]; simp)
      simp only [Array.getElem_mapIdx]
      revert this
      cases wrote ops S' t <;> cases wrote ops S t <;> simp
      intro e; exact e.symm
  | some d =>
    simp only [Act.put, actOf, Act.mk.injEq, and_true]
    apply Array.ext
    · simp
    · intro t h1 h2
      by_cases htd : d = t
      · subst htd
        rw [Array.getElem_setIfInBounds_self, Array.getElem_mapIdx, wrote_is hd (j := i) (by rw [hS i (lt_of (hdst.trans hdo))]; simp) (hdst.trans hdo)]
        exact hu.symm
      · have h1' : t < tm.size := by simpa using h1
        rw [Array.getElem_setIfInBounds_ne (by simpa using h1') htd, Array.getElem_mapIdx, Array.getElem_mapIdx]
        have := other t (by rw [hdo]; simpa using htd)
        revert this
        cases wrote ops S' t <;> cases wrote ops S t <;> simp
        intro e; exact e.symm
theorem lexP_actOf {ops : Array Oper} (hd : distinctB ops = true) (vals : Nat → Value) (a : Act) : ∀ (l : List Oper) (k : Nat), (∀ i o, l[i]? = some o → ops[k + i]? = some o) →
    lexP vals k l (actOf ops (fun j => decide (j < k)) vals a) = actOf ops (fun j => decide (j < k + l.length)) vals a
  | [], k, _ => rfl
  | o :: l, k, h => by
    have h0 : ops[k]? = some o := h 0 o (by simp)
    simp only [lexP]
    rw [actOf_put hd (fun j => decide (j < k)) (fun j => decide (j < k + 1)) vals vals a k o (vals k) h0 (by simp) (fun j _ => by rw [Bool.eq_iff_iff]; simp; omega) (fun _ _ => rfl) rfl]
    have := lexP_actOf hd vals a l (k + 1) (fun i o hi => by have := h (i + 1) o (by simpa using hi); rwa [Nat.add_assoc, Nat.add_comm 1 i])
    rw [this]
    congr 1
    funext j
    simp only [List.length_cons]
    congr 1
    rw [eq_iff_iff]; omega
theorem actOf_eval {ops : Array Oper} (hd : distinctB ops = true) (S S' : Nat → Bool) (vals : Nat → Value) (a : Act) (t : Nat) (h : ∀ j, (ops[j]?).bind (·.dst) = some t → S j = S' j) :
    (actOf ops S vals a).tmps[t]? = (actOf ops S' vals a).tmps[t]? := by
  have e : wrote ops S t = wrote ops S' t := by
    cases hw : wrote ops S t with
    | some j =>
      have h1 := wrote_some hw
      rw [wrote_is hd (by rw [← h j h1.2]; exact h1.1) h1.2]
    | none =>
      rw [wrote_none fun j hj => ?_]
      rw [← h j hj]
      cases hs : S j with
      | false => rfl
      | true => rw [wrote_is hd hs hj] at hw; cases hw
  simp only [actOf, Array.getElem?_mapIdx, e]

/-! the checks, and the rule -/
def seenB (ops : Array Oper) (n : Nat) : Bool := (List.range n).all fun i => match ops[i]? with
  | none => true
  | some o => (o.looksAt ops).all fun t => (List.range ops.size).all fun j => !(((ops[j]?).bind (·.dst)) == some t) || (Region.waitsFor .any ops i j && decide (j < i)) || (Region.waitsFor .any ops j i && decide (i < j)) || decide (n ≤ j)
def backB (ops : Array Oper) (n : Nat) : Bool := (List.range n).all fun i => match ops[i]? with
  | none => true
  | some o => o.after.all fun e => !Region.binds .any e || decide (e.on < i)
def factsB (ops : Array Oper) (n : Nat) : Bool :=
  Region.noSelect ops && distinctB ops && seenB ops n && backB ops n && decide (n ≤ ops.size) && (n == ops.size || (Region.sinkB .any ops n && Region.chainB .any ops n)) && Region.seqB .any ops (ops.size - n) n ((Array.range ops.size).map fun j => decide (j < n))

section
variable {P : Program} {ops : Array Oper} {W : World} {Q : Exit → Act → World → Prop}

theorem seen_spec {n i j t : Nat} {o : Oper} (h : seenB ops n = true) (hi : i < n) (ho : ops[i]? = some o) (ht : t ∈ o.looksAt ops) (hj : (ops[j]?).bind (·.dst) = some t) :
    (Region.waitsFor .any ops i j = true ∧ j < i) ∨ (Region.waitsFor .any ops j i = true ∧ i < j) ∨ n ≤ j := by
  have lj : j < ops.size := by
    rcases Nat.lt_or_ge j ops.size with l | l
    · exact l
    · simp [Array.getElem?_eq_none l] at hj
  have h1 := List.all_eq_true.1 h i (List.mem_range.2 hi)
  rw [ho] at h1
  have h2 := List.all_eq_true.1 (List.all_eq_true.1 h1 t ht) j (List.mem_range.2 lj)
  rw [hj] at h2
  simp only [beq_self_eq_true, Bool.not_true, Bool.false_or, Bool.or_eq_true, Bool.and_eq_true, decide_eq_true_eq] at h2
  rcases h2 with (h2 | h2) | h2
  · exact .inl h2
  · exact .inr (.inl h2)
  · exact .inr (.inr h2)

def pend (n : Nat) (listed : Array Bool) : Nat := (List.range n).countP fun j => !listed.getD j false

theorem pend_set {n i : Nat} {listed : Array Bool} (hs : i < listed.size) (hi : i < n) (hun : listed.getD i false = false) : pend n (listed.setIfInBounds i true) + 1 = pend n listed := by
  unfold pend
  induction n with
  | zero => omega
  | succ n ih =>
    rw [List.range_succ, List.countP_append, List.countP_append]
    by_cases hin : i = n
    · subst hin
      have e : (List.range i).countP (fun j => !(listed.setIfInBounds i true).getD j false) = (List.range i).countP fun j => !listed.getD j false := by
        apply List.countP_congr
        intro j hj
        have := List.mem_range.1 hj
        rw [getD_set_ne false (by omega)]
      rw [e]
      have h1 : (listed.setIfInBounds i true).getD i false = true := by simp [hs]
      rw [List.countP_singleton, List.countP_singleton, h1, hun]
      simp
    · rw [← ih (by omega)]
      have e : (listed.setIfInBounds i true).getD n false = listed.getD n false := getD_set_ne false hin
      rw [List.countP_singleton, List.countP_singleton, e]
      omega
theorem pend_zero {n : Nat} {listed : Array Bool} (h : pend n listed = 0) : ∀ j, j < n → listed.getD j false = true := by
  intro j hj
  have := List.countP_eq_zero.1 h j (List.mem_range.2 hj)
  simpa using this
theorem pend_pos {n : Nat} {listed : Array Bool} {f : Nat} (h : pend n listed = f + 1) : ∃ j, j < n ∧ listed.getD j false = false := by
  have : 0 < pend n listed := by omega
  obtain ⟨j, hj, hp⟩ := List.countP_pos_iff.1 this
  exact ⟨j, List.mem_range.1 hj, by simpa using hp⟩

structure Inv (ops : Array Oper) (W : World) (fl : List (Oper × RF)) (a : Act) (listed : Array Bool) (a' : Act) (w' : World) (vals : Nat → Value) : Prop where
  fits : Fits vals 0 fl
  act : a' = actOf ops (fun j => listed.getD j false) vals a
  ext : Ext W w'
  facts : ∀ j oj (p : Value → World → Prop), fl[j]? = some (oj, .fact p) → listed.getD j false = true → p (vals j) w'

theorem wanted_same {o : Oper} {a b : Act} (h : ∀ t ∈ o.looksAt ops, a.tmps[t]? = b.tmps[t]?) : Region.wanted o (yielded ops a.tmps) = Region.wanted o (yielded ops b.tmps) := by
  unfold Region.wanted
  cases hg : o.guard with
  | none => rfl
  | some gw =>
    obtain ⟨g, want⟩ := gw
    have hy : yielded ops a.tmps g = yielded ops b.tmps g := by
      unfold yielded
      cases ht : (ops[g]?).bind (·.dst) with
      | none => rfl
      | some t =>
        have := h t (by simp [Oper.looksAt, hg, ht])
        simp only [Option.bind_some, this]
    simp only [hy]
theorem exec_same {o : Oper} {a b : Act} (hs : ∀ cs b, o.op ≠ .select cs b) (h : ∀ t ∈ o.looksAt ops, a.tmps[t]? = b.tmps[t]?) : execOp a.eval o = execOp b.eval o :=
  execOp_congr o hs fun x hx => by
    cases x with
    | tmp t =>
      have ht := h t (List.mem_append_left _ (List.mem_filterMap.2 ⟨.tmp t, by simpa using hx, rfl⟩))
      simp only [Act.eval, Array.getD_eq_getD_getElem?, ht]
    | const v => rfl
    | global g => rfl
    | func f => rfl

theorem wpAny_facts {n : Nat} {fl : List (Oper × RF)} {a : Act} (hB : factsB ops n = true) (hfl : fl.map (·.1) = ops.toList.take n)
    (h : wpF P ops W (fun a' w' => wpList P ops Q (ops.toList.drop n) a' w') 0 fl [] a) :
    ∀ (f : Nat) (listed : Array Bool) (a' : Act) (w' : World) (vals : Nat → Value), HeadInv .any ops n listed → pend n listed = f → Inv ops W fl a listed a' w' vals →
      wpAny P .any ops Q (f + (ops.size - n)) listed a' w' := by
  simp only [factsB, Bool.and_eq_true, decide_eq_true_eq, Bool.or_eq_true, beq_iff_eq] at hB
  obtain ⟨⟨⟨⟨⟨⟨hsel, hd⟩, hseen⟩, hback⟩, hn⟩, htail⟩, hseq⟩ := hB
  have hlen : fl.length = n := by
    have := congrArg List.length hfl
    simp only [List.length_map, List.length_take, Array.length_toList] at this
    omega
  have hget : ∀ (i : Nat) (o : Oper) (r : RF), fl[i]? = some (o, r) → ops[i]? = some o := by
    intro i o r hi
    have hil : i < n := by rw [← hlen]; exact (List.getElem?_eq_some_iff.1 hi).1
    have h1 : (fl.map (·.1))[i]? = some o := by rw [List.getElem?_map, hi]; rfl
    rw [hfl, List.getElem?_take] at h1
    simpa [hil] using h1
  have hlex : ∀ (vals : Nat → Value) (i : Nat), i ≤ n → lexP vals 0 ((fl.take i).map (·.1)) a = actOf ops (fun j => decide (j < i)) vals a := by
    intro vals i hi
    have h0 : a = actOf ops (fun j => decide (j < 0)) vals a := (actOf_none ops vals a _ (fun j _ => by simp)).symm
    have := lexP_actOf (ops := ops) hd vals a ((fl.take i).map (·.1)) 0 (fun j o hj => by
      rw [List.getElem?_map] at hj
      obtain ⟨⟨o', r⟩, h1, h2⟩ := Option.map_eq_some_iff.1 hj
      subst h2
      rw [Nat.zero_add]
      rw [List.getElem?_take] at h1
      split at h1
      · exact hget j o' r h1
      · cases h1)
    rw [← h0] at this
    rw [this]
    congr 1
    funext j
    simp only [List.length_map, List.length_take, Nat.zero_add]
    rw [Nat.min_eq_left (by omega)]
  intro f
  induction f with
  | zero =>
    intro listed a' w' vals hinv hp hI
    have hall := pend_zero hp
    have hlisted : listed = (Array.range ops.size).map fun j => decide (j < n) := by
      apply Array.ext
      · simp [hinv.size]
      · intro j h1 h2
        simp only [Array.getElem_map, Array.getElem_range]
        by_cases hj : j < n
        · have := hall j hj
          simp [h1] at this
          simp [this, hj]
        · have := hinv.tail j (by omega) (by rw [← hinv.size]; exact h1)
          simp [h1] at this
          simp [this, hj]
    rw [← hlisted] at hseq
    obtain ⟨_, hend⟩ := wpF_all vals fl 0 [] a hI.fits h
    have hE := hend w' hI.ext (by simp) (fun j oj p hj => by
      have hjl : j < n := by rw [← hlen]; exact (List.getElem?_eq_some_iff.1 hj).1
      have := hI.facts j oj p hj (hall j hjl)
      rwa [Nat.zero_add])
    have e : lexP vals 0 (fl.map (·.1)) a = a' := by
      have h1 := hlex vals n (Nat.le_refl _)
      rw [List.take_of_length_le (by omega)] at h1
      rw [h1, hI.act]
      have : ∀ t, wrote ops (fun j => decide (j < n)) t = wrote ops (fun j => listed.getD j false) t := by
        intro t
        unfold wrote
        congr 1
        funext j
        congr 1
        rw [hlisted]
        by_cases hj : j < ops.size
        · simp [hj]
        · simp [hj]; omega
      simp only [actOf, this]
    rw [e] at hE
    rw [Nat.zero_add]
    have hdl : (ops.toList.drop n).length = ops.size - n := by simp
    have := wpAny_of_seq (md := .any) (Q' := Q) (ops.toList.drop n) n listed a' w' (fun j => by simp [List.getElem?_drop]) (by rw [hdl]; exact hseq) hE
    rwa [hdl] at this
  | succ f ih =>
    intro listed a' w' vals hinv hp hI
    obtain ⟨i0, hi0, hun0⟩ := pend_pos hp
    obtain ⟨hobl, _⟩ := wpF_all vals fl 0 [] a hI.fits h
    rw [Nat.succ_add]
    refine ⟨fun hr => ?_, fun i hi => ?_⟩
    · exfalso
      -- the first one that is not listed is ready
      have : ∀ d j, j < n → listed.getD j false = false → j = d → ∃ k, k ∈ Region.ready .any ops listed := by
        intro d
        induction d using Nat.strongRecOn with
        | _ d ihd =>
          intro j hj hju hjd
          subst hjd
          have hjs : j < ops.size := by omega
          by_cases hre : j ∈ Region.ready .any ops listed
          · exact ⟨j, hre⟩
          · have hoj : ops[j]? = some ops[j] := Array.getElem?_eq_getElem hjs
            have hb := List.all_eq_true.1 hback j (List.mem_range.2 hj)
            rw [hoj] at hb
            by_cases hall : ∀ e ∈ ops[j].after, Region.binds .any e = true → listed.getD e.on false = true
            · exact absurd (mem_ready.2 ⟨getD_in (by rw [hinv.size]; exact hjs) hju, ops[j], hoj, hall⟩) hre
            · simp only [Classical.not_forall] at hall
              obtain ⟨e, he, hbe, hne⟩ := hall
              have h1 := Array.all_eq_true'.1 hb e he
              simp only [hbe, Bool.not_true, Bool.false_or, decide_eq_true_eq] at h1
              exact ihd e.on h1 e.on (by omega) (by simpa using hne) rfl
      obtain ⟨k, hk⟩ := this i0 i0 hi0 hun0 rfl
      rw [hr] at hk
      cases hk
    · obtain ⟨hiun, oi, hoi, hwait⟩ := mem_ready.1 hi
      have his : i < ops.size := (Array.getElem?_eq_some_iff.1 hoi).1
      have hin : i < n := by
        rcases Nat.lt_or_ge i n with hl | hl
        · exact hl
        · exfalso
          rcases htail with he | ⟨hs, hc⟩
          · omega
          · exact tail_waits hs hc (by omega) hinv _ i0 rfl hi0 (getD_in (by rw [hinv.size]; omega) hun0) i hl hi
      have hiun' : listed.getD i false = false := getD_both hiun
      obtain ⟨r, hr⟩ : ∃ r, fl[i]? = some (oi, r) := by
        have hfi : i < fl.length := by omega
        have h1 := hget i fl[i].1 fl[i].2 (List.getElem?_eq_getElem hfi)
        rw [hoi] at h1
        exact ⟨fl[i].2, by rw [List.getElem?_eq_getElem hfi, Option.some.inj h1]⟩
      obtain ⟨hst, hyes, hno⟩ := hobl i oi r hr
      rw [hlex vals i (by omega)] at hyes hno
      have hsame : ∀ t ∈ oi.looksAt ops, a'.tmps[t]? = (actOf ops (fun j => decide (j < i)) vals a).tmps[t]? := by
        intro t ht
        rw [hI.act]
        refine actOf_eval hd _ _ vals a t fun j hj => ?_
        rcases seen_spec hseen hin hoi ht hj with ⟨h1, h2⟩ | ⟨h1, h2⟩ | h1
        · obtain ⟨o', ho', e, he, hbe, hon⟩ := Region.waitsFor_spec h1
          have : o' = oi := Option.some.inj (ho'.symm.trans hoi)
          subst this
          have := hwait e he hbe
          rw [hon] at this
          simp only [this, h2, decide_true]
        · obtain ⟨o', ho', e, he, hbe, hon⟩ := Region.waitsFor_spec h1
          have h3 : listed.getD j false = false := by
            cases hl : listed.getD j false with
            | false => rfl
            | true =>
              have := hinv.closed j o' ho' hl e he hbe
              rw [hon, hiun'] at this
              cases this
          simp only [h3]
          simp; omega
        · have ljs : j < ops.size := by
            rcases Nat.lt_or_ge j ops.size with l | l
            · exact l
            · simp [Array.getElem?_eq_none l] at hj
          have h3 : listed.getD j false = false := getD_both (hinv.tail j h1 ljs)
          simp only [h3]
          simp; omega
      have hex := exec_same (Region.noSelect_spec hsel i oi · · hoi) hsame
      have hwa := wanted_same hsame
      have next : ∀ u w2, Ext w' w2 → r.ok u w2 → wpAny P .any ops Q (f + (ops.size - n)) (listed.setIfInBounds i true) (a'.put oi.dst u) w2 := by
        intro u w2 he hu
        refine ih (listed.setIfInBounds i true) _ w2 (fun j => if j = i then u else vals j) (hinv.set hi hin) ?_ ?_
        · have := pend_set (by rw [hinv.size]; exact his) hin hiun'
          omega
        · refine ⟨fun j o v hj => ?_, ?_, Ext.trans hI.ext he, fun j oj p hj hl => ?_⟩
          · rw [Nat.zero_add]
            by_cases hji : j = i
            · subst hji
              rw [hr] at hj
              obtain ⟨rfl, rfl⟩ : oi = o ∧ r = .val v := by simpa using hj
              simp only [if_true]
              exact hu
            · simp only [if_neg hji]
              have := hI.fits j o v hj
              rwa [Nat.zero_add] at this
          · rw [hI.act]
            exact actOf_put hd _ _ vals _ a i oi u hoi hiun' (fun j hj => by
              by_cases hji : j = i
              · subst hji; simp [hinv.size, his]
              · rw [getD_set_ne false (Ne.symm hji)]; simp [hji]) (fun j hj => if_neg hj) (if_pos rfl)
          · by_cases hji : j = i
            · subst hji
              rw [hr] at hj
              obtain ⟨rfl, rfl⟩ : oi = oj ∧ r = .fact p := by simpa using hj
              simp only [if_true]
              exact hu
            · simp only [if_neg hji]
              rw [getD_set_ne false (Ne.symm hji)] at hl
              obtain ⟨hsj, _⟩ := hobl j oj (.fact p) hj
              exact hsj _ _ _ (hI.facts j oj p hj hl) he
      unfold wpOp
      rw [hoi]
      simp only []
      by_cases hw : Region.wanted oi (yielded ops a'.tmps) = true
      · rw [if_pos hw]
        refine .inl (Yld.wp (f := r) ?_ _ _ next)
        have hy := hyes (hwa ▸ hw) w' hI.ext (by simp) (fun j oj p hji hj hdep => by
          rw [Nat.zero_add] at hdep ⊢
          obtain ⟨e, he, hb⟩ := Array.any_eq_true'.1 hdep
          simp only [Bool.and_eq_true, beq_iff_eq] at hb
          have := hwait e he hb.1
          rw [hb.2] at this
          exact hI.facts j oj p hj this)
        unfold Yld at hy ⊢
        rw [hex]
        exact hy
      · rw [if_neg hw]
        have hw' : Region.wanted oi (yielded ops a'.tmps) = false := by simpa using hw
        have := hno (hwa ▸ hw')
        exact next undef w' (Ext.refl _) (by rw [this]; rfl)

/-- THE RULE: n operations in whatever order, then those that are last, in the text's order. -/
theorem wp_region_facts {id : Nat} {a : Act} {w : World} {l : List Oper} (n : Nat) (fs : List RF) (hm : P.follows .mixedOrders = true) (hB : (factsB l.toArray n && fs.length == n) = true)
    (h : wpF P l.toArray w (fun a' w' => wpList P l.toArray Q (l.drop n) a' w') 0 ((l.take n).zip fs) [] a) : (Code.region id l.toArray true).wp P Q a w := by
  rw [Bool.and_eq_true, beq_iff_eq] at hB
  obtain ⟨hB, hfs⟩ := hB
  have hn : n ≤ l.length := by
    simp only [factsB, Bool.and_eq_true, decide_eq_true_eq] at hB
    simpa using hB.1.1.2
  refine wp_region_any hm ?_
  have hinv : HeadInv .any l.toArray n (Array.replicate l.toArray.size false) :=
    ⟨by simp, fun j oj _ hl => (by rw [getD_replicate_false] at hl; cases hl), fun t _ ht => getD_in (by simpa using ht) (getD_replicate_false _ _)⟩
  have hp : pend n (Array.replicate l.toArray.size false) = n := by
    unfold pend
    rw [List.countP_eq_length.2 (fun j _ => by rw [getD_replicate_false]; rfl), List.length_range]
  -- values that fit
  let vals : Nat → Value := fun j => match ((l.take n).zip fs)[j]? with | some (_, .val v) => v | _ => undef
  have := wpAny_facts (P := P) (W := w) (Q := Q) (ops := l.toArray) (n := n) (fl := (l.take n).zip fs) (a := a) hB (by
      rw [List.map_fst_zip (by simp; omega)]) (by simpa using h) n (Array.replicate l.toArray.size false) a { w with drawn := w.drawn + 1 } vals hinv hp
    ⟨fun i o v hi => by simp only [vals, Nat.zero_add, hi], (actOf_none _ _ _ _ (fun j _ => getD_replicate_false _ _)).symm, ⟨rfl, rfl, rfl, Nat.le_refl _, fun _ _ => rfl⟩, fun j oj p _ hl => by rw [getD_replicate_false] at hl; cases hl⟩
  have e : n + (l.toArray.size - n) = l.toArray.size := by simp; omega
  rwa [e] at this
end
section
variable {P : Program} {ops : Array Oper} {W : World} {End : Act → World → Prop} {k : Nat} {o : Oper} {rest : List (Oper × RF)} {R : List (Nat × (World → Prop))} {a : Act}
theorem wpF_val {v : Value} (hg : o.guard = none) (h1 : ∀ w, Ext W w → Deps o R w → Yld P o a w (.val v)) (h2 : wpF P ops W End (k + 1) rest R (a.put o.dst v)) : wpF P ops W End k ((o, .val v) :: rest) R a :=
  ⟨by rw [if_pos (by simp [Region.wanted, hg])]; exact h1, trivial, h2⟩
theorem wpF_fact {p : Value → World → Prop} (hg : o.guard = none) (hs : ∀ u w w', p u w → Ext w w' → p u w') (h1 : ∀ w, Ext W w → Deps o R w → Yld P o a w (.fact p)) (h2 : ∀ u, wpF P ops W End (k + 1) rest (R ++ [(k, p u)]) (a.put o.dst u)) : wpF P ops W End k ((o, .fact p) :: rest) R a :=
  ⟨by rw [if_pos (by simp [Region.wanted, hg])]; exact h1, hs, h2⟩
theorem wpF_valg {v : Value} (hg : Region.wanted o (yielded ops a.tmps) = true) (h1 : ∀ w, Ext W w → Deps o R w → Yld P o a w (.val v)) (h2 : wpF P ops W End (k + 1) rest R (a.put o.dst v)) : wpF P ops W End k ((o, .val v) :: rest) R a :=
  ⟨by rw [if_pos hg]; exact h1, trivial, h2⟩
theorem wpF_factg {p : Value → World → Prop} (hg : Region.wanted o (yielded ops a.tmps) = true) (hs : ∀ u w w', p u w → Ext w w' → p u w') (h1 : ∀ w, Ext W w → Deps o R w → Yld P o a w (.fact p)) (h2 : ∀ u, wpF P ops W End (k + 1) rest (R ++ [(k, p u)]) (a.put o.dst u)) : wpF P ops W End k ((o, .fact p) :: rest) R a :=
  ⟨by rw [if_pos hg]; exact h1, hs, h2⟩
theorem wpF_skip (hg : Region.wanted o (yielded ops a.tmps) = false) (h2 : wpF P ops W End (k + 1) rest R (a.put o.dst undef)) : wpF P ops W End k ((o, .val undef) :: rest) R a :=
  ⟨by rw [if_neg (by rw [hg]; simp)], trivial, h2⟩
theorem wpF_nil (h : ∀ w, Ext W w → AllR R w → End a w) : wpF P ops W End k [] R a := h
theorem Upon_value {f : RF} {w w' : World} {u : Value} : Upon P w f (.ok (.value u) w') = (Ext w w' ∧ f.ok u w') := rfl
theorem Upon_skip {f : RF} {w w' : World} : Upon P w f (.ok .skip w') = (Ext w w' ∧ f.ok undef w') := rfl
theorem Upon_enter {f : RF} {w w' : World} {g : FuncId} {args : Array Value} : Upon P w f (.ok (.enter g args) w') = Calls P g args w' fun e w2 => ∃ u, e = .returned u ∧ Ext w w2 ∧ f.ok u w2 := rfl
end
end Go.Proofs.Ytielnpmnnifjcaa.Reg
