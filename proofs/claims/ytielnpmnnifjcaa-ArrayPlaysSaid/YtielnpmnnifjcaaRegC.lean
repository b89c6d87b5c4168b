/- A rule for a region whose order is drawn, of which one operation may write into old memory: the others give values, or facts that stay. No Go program in sight. -/
import Derived.Test.YtielnpmnnifjcaaReg
namespace Go.Proofs.Ytielnpmnnifjcaa.Reg
open Go Go.RowKit

/-- What is told of an operation: its value; or a fact. A fact that is not kept ends with the one that writes. -/
inductive GF where
  | val (v : Value)
  | fact (keep : Bool) (p : Value → World → Prop)
def GF.ok : GF → Value → World → Prop
  | .val v, u, _ => u = v
  | .fact _ p, u, w => p u w
/-- g: how memory may turn by the one that writes; here: is it this one? -/
def GF.stable (g : World → World → Prop) (here : Prop) : GF → Prop
  | .val _ => True
  | .fact s p => (s = true ∧ ¬ here → ∀ u w w', p u w → g w w' → p u w') ∧ (∀ u w w', p u w → Ext w w' → p u w') ∧ (here → s = true)

def UponG (g : World → World → Prop) (P : Program) (w : World) (f : GF) : Result Next → Prop
  | .ok (.value u) w' => g w w' ∧ f.ok u w'
  | .ok .skip w' => g w w' ∧ f.ok undef w'
  | .ok (.enter h args) w' => Calls P h args w' fun e w2 => ∃ u, e = .returned u ∧ g w w2 ∧ f.ok u w2
  | _ => False
def YldG (g : World → World → Prop) (P : Program) (o : Oper) (a : Act) (w : World) (f : GF) : Prop := UponG g P w f ((execOp a.eval o).run P w)
theorem YldG.wp {g : World → World → Prop} {P : Program} {o : Oper} {a : Act} {w : World} {f : GF} (h : YldG g P o a w f) (K : Act → World → Prop) (Q : Exit → Act → World → Prop) (hK : ∀ u w', g w w' → f.ok u w' → K (a.put o.dst u) w') : o.wp P a w K Q := by
  unfold YldG at h
  unfold Oper.wp
  generalize (execOp a.eval o).run P w = r at *
  cases r with
  | ok n w' =>
    cases n <;> simp only [UponG] at h <;> simp only [Oper.upon]
    case value u => exact hK _ _ h.1 h.2
    case skip => exact hK _ _ h.1 h.2
    case enter g args =>
      refine h.mono fun e w2 ⟨u, he, h1, h2⟩ => ?_
      subst he
      exact hK _ _ h1 h2
  | halt x w' => simp only [UponG] at h

abbrev GL := List (Nat × Bool × (World → Prop))
/-- What is told of the operations that this one waits for (all; or those facts alone that are kept). -/
def DepsG (all : Bool) (o : Oper) : GL → World → Prop
  | [], _ => True
  | (j, s, p) :: r, w => ((all || s) = true → depB o j = true → p w) ∧ DepsG all o r w
def AllG : GL → World → Prop
  | [], _ => True
  | (_, s, p) :: r, w => (s = true → p w) ∧ AllG r w
def wpG (P : Program) (ops : Array Oper) (W : World) (g : World → World → Prop) (c : Nat) (End : Act → World → Prop) : Nat → List (Oper × GF) → GL → Act → Prop
  | _, [], R, a => ∀ w, g W w → AllG R w → End a w
  | k, (o, f) :: rest, R, a =>
    (if Region.wanted o (yielded ops a.tmps) then (if k = c then ∀ w, Ext W w → DepsG true o R w → YldG g P o a w f else ∀ w, g W w → DepsG false o R w → YldG Ext P o a w f) else f = .val undef) ∧ f.stable g (k = c) ∧
    (match f with
      | .val v => wpG P ops W g c End (k + 1) rest R (a.put o.dst v)
      | .fact s p => ∀ u, wpG P ops W g c End (k + 1) rest (R ++ [(k, s, p u)]) (a.put o.dst u))

section
variable {P : Program} {ops : Array Oper} {W : World} {g : World → World → Prop} {c : Nat} {End : Act → World → Prop} {Q : Exit → Act → World → Prop}
theorem depsG_of (all : Bool) (o : Oper) (R : GL) (w : World) (h : ∀ r ∈ R, (all || r.2.1) = true → depB o r.1 = true → r.2.2 w) : DepsG all o R w := by
  induction R with
  | nil => trivial
  | cons r R ih => exact ⟨h r List.mem_cons_self, ih (fun x hx => h x (List.mem_cons_of_mem _ hx))⟩
theorem allG_of (R : GL) (w : World) (h : ∀ r ∈ R, r.2.1 = true → r.2.2 w) : AllG R w := by
  induction R with
  | nil => trivial
  | cons r R ih => exact ⟨h r List.mem_cons_self, ih (fun x hx => h x (List.mem_cons_of_mem _ hx))⟩

def FitsG (vals : Nat → Value) (k : Nat) (fl : List (Oper × GF)) : Prop := ∀ (i : Nat) (o : Oper) (v : Value), fl[i]? = some (o, .val v) → vals (k + i) = v

theorem wpG_all (vals : Nat → Value) : ∀ (fl : List (Oper × GF)) (k : Nat) (R : GL) (a : Act), FitsG vals k fl → wpG P ops W g c End k fl R a →
    (∀ (i : Nat) (o : Oper) (f : GF), fl[i]? = some (o, f) → f.stable g (k + i = c) ∧
      (Region.wanted o (yielded ops (lexP vals k ((fl.take i).map (·.1)) a).tmps) = true →
        (k + i = c → ∀ w, Ext W w → (∀ r ∈ R, depB o r.1 = true → r.2.2 w) → (∀ j oj s (p : Value → World → Prop), j < i → fl[j]? = some (oj, .fact s p) → depB o (k + j) = true → p (vals (k + j)) w) → YldG g P o (lexP vals k ((fl.take i).map (·.1)) a) w f) ∧
        (k + i ≠ c → ∀ w, g W w → (∀ r ∈ R, r.2.1 = true → depB o r.1 = true → r.2.2 w) → (∀ j oj (p : Value → World → Prop), j < i → fl[j]? = some (oj, .fact true p) → depB o (k + j) = true → p (vals (k + j)) w) → YldG Ext P o (lexP vals k ((fl.take i).map (·.1)) a) w f)) ∧
      (Region.wanted o (yielded ops (lexP vals k ((fl.take i).map (·.1)) a).tmps) = false → f = .val undef)) ∧
    (∀ w, g W w → (∀ r ∈ R, r.2.1 = true → r.2.2 w) → (∀ j oj (p : Value → World → Prop), fl[j]? = some (oj, .fact true p) → p (vals (k + j)) w) → End (lexP vals k (fl.map (·.1)) a) w)
  | [], k, R, a, _, h => ⟨fun i o f hi => by simp at hi, fun w hw hr _ => h w hw (allG_of R w hr)⟩
  | (o0, f0) :: fl, k, R, a, hf, h => by
    obtain ⟨h1, h2, h3⟩ := h
    have hf' : FitsG vals (k + 1) fl := fun i o v hi => by have := hf (i + 1) o v (by simpa using hi); rwa [Nat.add_assoc, Nat.add_comm 1 i]
    have key : ∃ R', wpG P ops W g c End (k + 1) fl R' (a.put o0.dst (vals k)) ∧ (∀ w, (∀ r ∈ R, r.2.1 = true → r.2.2 w) → (∀ p, f0 = .fact true p → p (vals k) w) → ∀ r ∈ R', r.2.1 = true → r.2.2 w) ∧
        (∀ (o : Oper) w, (∀ r ∈ R, depB o r.1 = true → r.2.2 w) → (∀ s p, f0 = .fact s p → depB o k = true → p (vals k) w) → ∀ r ∈ R', depB o r.1 = true → r.2.2 w) ∧
        (∀ (o : Oper) w, (∀ r ∈ R, r.2.1 = true → depB o r.1 = true → r.2.2 w) → (∀ p, f0 = .fact true p → depB o k = true → p (vals k) w) → ∀ r ∈ R', r.2.1 = true → depB o r.1 = true → r.2.2 w) := by
      cases f0 with
      | val v =>
        have hv : vals k = v := by have := hf 0 o0 v (by simp); simpa using this
        exact ⟨R, by rw [hv]; exact h3, fun w hr _ => hr, fun o w hr _ => hr, fun o w hr _ => hr⟩
      | fact s p =>
        refine ⟨R ++ [(k, s, p (vals k))], h3 (vals k), fun w hr hp r hm hs => ?_, fun o w hr hp r hm => ?_, fun o w hr hp r hm hs => ?_⟩
        · rcases List.mem_append.1 hm with hm | hm
          · exact hr r hm hs
          · rw [List.mem_singleton.1 hm] at hs ⊢
            have hs' : s = true := hs
            subst hs'
            exact hp p rfl
        · rcases List.mem_append.1 hm with hm | hm
          · exact hr r hm
          · rw [List.mem_singleton.1 hm]; exact hp s p rfl
        · rcases List.mem_append.1 hm with hm | hm
          · exact hr r hm hs
          · rw [List.mem_singleton.1 hm] at hs ⊢
            have hs' : s = true := hs
            subst hs'
            exact hp p rfl
    obtain ⟨R', hw, ha, hd, hd2⟩ := key
    obtain ⟨g1, g2⟩ := wpG_all vals fl (k + 1) R' _ hf' hw
    refine ⟨fun i o f hi => ?_, fun w hW hr hj => ?_⟩
    · cases i with
      | zero =>
        obtain ⟨rfl, rfl⟩ : o0 = o ∧ f0 = f := by simpa using hi
        refine ⟨h2, fun hwa => ⟨fun hc w hW hr _ => ?_, fun hc w hW hr _ => ?_⟩, fun hwa => ?_⟩
        · simp only [List.take_zero, List.map_nil, lexP] at hwa ⊢
          rw [if_pos hwa, if_pos (show k = c from hc)] at h1
          exact h1 w hW (depsG_of _ _ _ _ (fun r hm _ => hr r hm))
        · simp only [List.take_zero, List.map_nil, lexP] at hwa ⊢
          rw [if_pos hwa, if_neg (show ¬ k = c from hc)] at h1
          exact h1 w hW (depsG_of _ _ _ _ (fun r hm hs => hr r hm (by simpa using hs)))
        · simp only [List.take_zero, List.map_nil, lexP] at hwa
          rw [if_neg (by rw [hwa]; simp)] at h1
          exact h1
      | succ i =>
        have hi' : fl[i]? = some (o, f) := by simpa using hi
        obtain ⟨s1, s2, s3⟩ := g1 i o f hi'
        have ek : k + (i + 1) = k + 1 + i := by omega
        rw [ek]
        refine ⟨s1, fun hwa => ⟨fun hc w hW hr hj => ?_, fun hc w hW hr hj => ?_⟩, fun hwa => ?_⟩
        · simp only [List.take_succ_cons, List.map_cons, lexP] at hwa ⊢
          refine (s2 hwa).1 hc w hW (hd o w hr fun s p hp hdep => ?_) fun j oj s p hjl hjf hdep => ?_
          · subst hp
            have := hj 0 o0 s p (by omega) (by simp)
            simpa using this (by simpa using hdep)
          · have := hj (j + 1) oj s p (by omega) (by simpa using hjf)
            have e : k + (j + 1) = k + 1 + j := by omega
            rw [e] at this
            exact this hdep
        · simp only [List.take_succ_cons, List.map_cons, lexP] at hwa ⊢
          refine (s2 hwa).2 hc w hW (hd2 o w hr fun p hp hdep => ?_) fun j oj p hjl hjf hdep => ?_
          · subst hp
            have := hj 0 o0 p (by omega) (by simp)
            simpa using this (by simpa using hdep)
          · have := hj (j + 1) oj p (by omega) (by simpa using hjf)
            have e : k + (j + 1) = k + 1 + j := by omega
            rw [e] at this
            exact this hdep
        · simp only [List.take_succ_cons, List.map_cons, lexP] at hwa
          exact s3 hwa
    · simp only [List.map_cons, lexP]
      refine g2 w hW (ha w hr fun p hp => ?_) fun j oj p hjf => ?_
      · subst hp
        simpa using hj 0 o0 p (by simp)
      · have := hj (j + 1) oj p (by simpa using hjf)
        have e : k + (j + 1) = k + 1 + j := by omega
        rwa [e] at this

structure InvG (ops : Array Oper) (W : World) (g : World → World → Prop) (c : Nat) (fl : List (Oper × GF)) (a : Act) (listed : Array Bool) (a' : Act) (w' : World) (vals : Nat → Value) : Prop where
  fits : FitsG vals 0 fl
  act : a' = actOf ops (fun j => listed.getD j false) vals a
  rel : g W w'
  ext : listed.getD c false = false → Ext W w'
  facts : ∀ j oj (p : Value → World → Prop), fl[j]? = some (oj, .fact true p) → listed.getD j false = true → p (vals j) w'
  soft : ∀ j oj s (p : Value → World → Prop), fl[j]? = some (oj, .fact s p) → listed.getD j false = true → listed.getD c false = false → p (vals j) w'

theorem wpAny_G (hgE : ∀ w w', Ext w w' → g w w') (hgT : ∀ w w' w'', g w w' → g w' w'' → g w w'') {n : Nat} {fl : List (Oper × GF)} {a : Act} (hB : factsB ops n = true) (hfl : fl.map (·.1) = ops.toList.take n)
    (h : wpG P ops W g c (fun a' w' => wpList P ops Q (ops.toList.drop n) a' w') 0 fl [] a) :
    ∀ (f : Nat) (listed : Array Bool) (a' : Act) (w' : World) (vals : Nat → Value), HeadInv .any ops n listed → pend n listed = f → InvG ops W g c fl a listed a' w' vals →
      wpAny P .any ops Q (f + (ops.size - n)) listed a' w' := by
  simp only [factsB, Bool.and_eq_true, decide_eq_true_eq, Bool.or_eq_true, beq_iff_eq] at hB
  obtain ⟨⟨⟨⟨⟨⟨hsel, hd⟩, hseen⟩, hback⟩, hn⟩, htail⟩, hseq⟩ := hB
  have hlen : fl.length = n := by
    have := congrArg List.length hfl
    simp only [List.length_map, List.length_take, Array.length_toList] at this
    omega
  have hget : ∀ (i : Nat) (o : Oper) (r : GF), fl[i]? = some (o, r) → ops[i]? = some o := by
    intro i o r hi
    have hil : i < n := by rw [← hlen]; exact (List.getElem?_eq_some_iff.1 hi).1
    have h1 : (fl.map (·.1))[i]? = some o := by rw [List.getElem?_map, hi]; rfl
    rw [hfl, List.getElem?_take] at h1
    simpa [hil] using h1
  have hlex : ∀ (vals : Nat → Value) (i : Nat), i ≤ n → lexP vals 0 ((fl.take i).map (·.1)) a = actOf ops (fun j => decide (j < i)) vals a := by
    intro vals i hi
    have h0 : a = actOf ops (fun j => decide (j < 0)) vals a := (actOf_none ops vals a _ (fun j _ => by simp)).symm
    have := lexP_actOf (ops := ops) hd vals a ((fl.take i).map (·.1)) 0 (fun j o hj => by
      rw [List.getElem?_map] at hj
      obtain ⟨⟨o', r⟩, h1, h2⟩ := Option.map_eq_some_iff.1 hj
      subst h2
      rw [Nat.zero_add]
      rw [List.getElem?_take] at h1
      split at h1
      · exact hget j o' r h1
      · cases h1)
    rw [← h0] at this
    rw [this]
    congr 1
    funext j
    simp only [List.length_map, List.length_take, Nat.zero_add]
    rw [Nat.min_eq_left (by omega)]
  intro f
  induction f with
  | zero =>
    intro listed a' w' vals hinv hp hI
    have hall := pend_zero hp
    have hlisted : listed = (Array.range ops.size).map fun j => decide (j < n) := by
      apply Array.ext
      · simp [hinv.size]
      · intro j h1 h2
        simp only [Array.getElem_map, Array.getElem_range]
        by_cases hj : j < n
        · have := hall j hj
          simp [h1] at this
          simp [this, hj]
        · have := hinv.tail j (by omega) (by rw [← hinv.size]; exact h1)
          simp [h1] at this
          simp [this, hj]
    rw [← hlisted] at hseq
    obtain ⟨_, hend⟩ := wpG_all vals fl 0 [] a hI.fits h
    have hE := hend w' hI.rel (by simp) (fun j oj p hj => by
      have hjl : j < n := by rw [← hlen]; exact (List.getElem?_eq_some_iff.1 hj).1
      have := hI.facts j oj p hj (hall j hjl)
      rwa [Nat.zero_add])
    have e : lexP vals 0 (fl.map (·.1)) a = a' := by
      have h1 := hlex vals n (Nat.le_refl _)
      rw [List.take_of_length_le (by omega)] at h1
      rw [h1, hI.act]
      have : ∀ t, wrote ops (fun j => decide (j < n)) t = wrote ops (fun j => listed.getD j false) t := by
        intro t
        unfold wrote
        congr 1
        funext j
        congr 1
        rw [hlisted]
        by_cases hj : j < ops.size
        · simp [hj]
        · simp [hj]; omega
      simp only [actOf, this]
    rw [e] at hE
    rw [Nat.zero_add]
    have hdl : (ops.toList.drop n).length = ops.size - n := by simp
    have := wpAny_of_seq (md := .any) (Q' := Q) (ops.toList.drop n) n listed a' w' (fun j => by simp [List.getElem?_drop]) (by rw [hdl]; exact hseq) hE
    rwa [hdl] at this
  | succ f ih =>
    intro listed a' w' vals hinv hp hI
    obtain ⟨i0, hi0, hun0⟩ := pend_pos hp
    obtain ⟨hobl, _⟩ := wpG_all vals fl 0 [] a hI.fits h
    rw [Nat.succ_add]
    refine ⟨fun hr => ?_, fun i hi => ?_⟩
    · exfalso
      -- the first one that is not listed is ready
      have : ∀ d j, j < n → listed.getD j false = false → j = d → ∃ k, k ∈ Region.ready .any ops listed := by
        intro d
        induction d using Nat.strongRecOn with
        | _ d ihd =>
          intro j hj hju hjd
          subst hjd
          have hjs : j < ops.size := by omega
          by_cases hre : j ∈ Region.ready .any ops listed
          · exact ⟨j, hre⟩
          · have hoj : ops[j]? = some ops[j] := Array.getElem?_eq_getElem hjs
            have hb := List.all_eq_true.1 hback j (List.mem_range.2 hj)
            rw [hoj] at hb
            by_cases hall : ∀ e ∈ ops[j].after, Region.binds .any e = true → listed.getD e.on false = true
            · exact absurd (mem_ready.2 ⟨getD_in (by rw [hinv.size]; exact hjs) hju, ops[j], hoj, hall⟩) hre
            · simp only [Classical.not_forall] at hall
              obtain ⟨e, he, hbe, hne⟩ := hall
              have h1 := Array.all_eq_true'.1 hb e he
              simp only [hbe, Bool.not_true, Bool.false_or, decide_eq_true_eq] at h1
              exact ihd e.on h1 e.on (by omega) (by simpa using hne) rfl
      obtain ⟨k, hk⟩ := this i0 i0 hi0 hun0 rfl
      rw [hr] at hk
      cases hk
    · obtain ⟨hiun, oi, hoi, hwait⟩ := mem_ready.1 hi
      have his : i < ops.size := (Array.getElem?_eq_some_iff.1 hoi).1
      have hin : i < n := by
        rcases Nat.lt_or_ge i n with hl | hl
        · exact hl
        · exfalso
          rcases htail with he | ⟨hs, hc⟩
          · omega
          · exact tail_waits hs hc (by omega) hinv _ i0 rfl hi0 (getD_in (by rw [hinv.size]; omega) hun0) i hl hi
      have hiun' : listed.getD i false = false := getD_both hiun
      obtain ⟨r, hr⟩ : ∃ r, fl[i]? = some (oi, r) := by
        have hfi : i < fl.length := by omega
        have h1 := hget i fl[i].1 fl[i].2 (List.getElem?_eq_getElem hfi)
        rw [hoi] at h1
        exact ⟨fl[i].2, by rw [List.getElem?_eq_getElem hfi, Option.some.inj h1]⟩
      obtain ⟨hst, hyes, hno⟩ := hobl i oi r hr
      rw [hlex vals i (by omega)] at hyes hno
      rw [Nat.zero_add] at hst hyes
      have hsame : ∀ t ∈ oi.looksAt ops, a'.tmps[t]? = (actOf ops (fun j => decide (j < i)) vals a).tmps[t]? := by
        intro t ht
        rw [hI.act]
        refine actOf_eval hd _ _ vals a t fun j hj => ?_
        rcases seen_spec hseen hin hoi ht hj with ⟨h1, h2⟩ | ⟨h1, h2⟩ | h1
        · obtain ⟨o', ho', e, he, hbe, hon⟩ := Region.waitsFor_spec h1
          have : o' = oi := Option.some.inj (ho'.symm.trans hoi)
          subst this
          have := hwait e he hbe
          rw [hon] at this
          simp only [this, h2, decide_true]
        · obtain ⟨o', ho', e, he, hbe, hon⟩ := Region.waitsFor_spec h1
          have h3 : listed.getD j false = false := by
            cases hl : listed.getD j false with
            | false => rfl
            | true =>
              have := hinv.closed j o' ho' hl e he hbe
              rw [hon, hiun'] at this
              cases this
          simp only [h3]
          simp; omega
        · have ljs : j < ops.size := by
            rcases Nat.lt_or_ge j ops.size with l | l
            · exact l
            · simp [Array.getElem?_eq_none l] at hj
          have h3 : listed.getD j false = false := getD_both (hinv.tail j h1 ljs)
          simp only [h3]
          simp; omega
      have hex := exec_same (Region.noSelect_spec hsel i oi · · hoi) hsame
      have hwa := wanted_same hsame
      have hset : ∀ j, (listed.setIfInBounds i true).getD j false = (listed.getD j false || j == i) := by
        intro j
        by_cases hji : j = i
        · subst hji; simp [hinv.size, his]
        · rw [getD_set_ne false (Ne.symm hji)]; simp [hji]
      have next : ∀ u w2, g w' w2 → (i ≠ c → Ext w' w2) → r.ok u w2 → wpAny P .any ops Q (f + (ops.size - n)) (listed.setIfInBounds i true) (a'.put oi.dst u) w2 := by
        intro u w2 he hex hu
        refine ih (listed.setIfInBounds i true) _ w2 (fun j => if j = i then u else vals j) (hinv.set hi hin) ?_ ?_
        · have := pend_set (by rw [hinv.size]; exact his) hin hiun'
          omega
        · refine ⟨fun j o v hj => ?_, ?_, hgT _ _ _ hI.rel he, fun hc => ?_, fun j oj p hj hl => ?_, fun j oj s p hj hl hc => ?_⟩
          · rw [Nat.zero_add]
            by_cases hji : j = i
            · subst hji
              rw [hr] at hj
              obtain ⟨rfl, rfl⟩ : oi = o ∧ r = .val v := by simpa using hj
              simp only [if_true]
              exact hu
            · simp only [if_neg hji]
              have := hI.fits j o v hj
              rwa [Nat.zero_add] at this
          · rw [hI.act]
            exact actOf_put hd _ _ vals _ a i oi u hoi hiun' (fun j hj => hset j) (fun j hj => if_neg hj) (if_pos rfl)
          · rw [hset] at hc
            have hic : i ≠ c := by intro e; rw [e] at hc; simp at hc
            exact Ext.trans (hI.ext (by cases h : listed.getD c false with | false => rfl | true => rw [h] at hc; simp at hc)) (hex hic)
          · by_cases hji : j = i
            · subst hji
              rw [hr] at hj
              obtain ⟨rfl, rfl⟩ : oi = oj ∧ r = .fact true p := by simpa using hj
              simp only [if_true]
              exact hu
            · simp only [if_neg hji]
              rw [getD_set_ne false (Ne.symm hji)] at hl
              obtain ⟨hsj, _⟩ := hobl j oj (.fact true p) hj
              rw [Nat.zero_add] at hsj
              by_cases hjc : j = c
              · exact hsj.2.1 _ _ _ (hI.facts j oj p hj hl) (hex (fun e => hji (hjc.trans e.symm)))
              · exact hsj.1 ⟨rfl, hjc⟩ _ _ _ (hI.facts j oj p hj hl) he
          · rw [hset] at hc
            have hic : i ≠ c := by intro e; rw [e] at hc; simp at hc
            have hc' : listed.getD c false = false := by cases h : listed.getD c false with | false => rfl | true => rw [h] at hc; simp at hc
            by_cases hji : j = i
            · subst hji
              rw [hr] at hj
              obtain ⟨rfl, rfl⟩ : oi = oj ∧ r = .fact s p := by simpa using hj
              simp only [if_true]
              exact hu
            · simp only [if_neg hji]
              rw [getD_set_ne false (Ne.symm hji)] at hl
              obtain ⟨hsj, _⟩ := hobl j oj (.fact s p) hj
              exact hsj.2.1 _ _ _ (hI.soft j oj s p hj hl hc') (hex hic)
      unfold wpOp
      rw [hoi]
      simp only []
      by_cases hw : Region.wanted oi (yielded ops a'.tmps) = true
      · rw [if_pos hw]
        refine .inl ?_
        by_cases hic : i = c
        · refine YldG.wp (g := g) (f := r) ?_ _ _ (fun u w2 h1 h2 => next u w2 h1 (fun h => absurd hic h) h2)
          have hcl : listed.getD c false = false := by rw [← hic]; exact hiun'
          have hy := (hyes (hwa ▸ hw)).1 hic w' (hI.ext hcl) (by simp) (fun j oj s p hji hj hdep => by
            rw [Nat.zero_add] at hdep ⊢
            obtain ⟨e, he, hb⟩ := Array.any_eq_true'.1 hdep
            simp only [Bool.and_eq_true, beq_iff_eq] at hb
            have := hwait e he hb.1
            rw [hb.2] at this
            exact hI.soft j oj s p hj this hcl)
          unfold YldG at hy ⊢
          rw [hex]
          exact hy
        · refine YldG.wp (g := Ext) (f := r) ?_ _ _ (fun u w2 h1 h2 => next u w2 (hgE _ _ h1) (fun _ => h1) h2)
          have hy := (hyes (hwa ▸ hw)).2 hic w' hI.rel (by simp) (fun j oj p hji hj hdep => by
            rw [Nat.zero_add] at hdep ⊢
            obtain ⟨e, he, hb⟩ := Array.any_eq_true'.1 hdep
            simp only [Bool.and_eq_true, beq_iff_eq] at hb
            have := hwait e he hb.1
            rw [hb.2] at this
            exact hI.facts j oj p hj this)
          unfold YldG at hy ⊢
          rw [hex]
          exact hy
      · rw [if_neg hw]
        have hw' : Region.wanted oi (yielded ops a'.tmps) = false := by simpa using hw
        have := hno (hwa ▸ hw')
        exact next undef w' (hgE _ _ (Ext.refl _)) (fun _ => Ext.refl _) (by rw [this]; rfl)

/-- THE RULE: n operations in whatever order, of which operation c may turn memory as g says, then those that are last, in the text's order. -/
theorem wp_region_G {id : Nat} {a : Act} {w : World} {l : List Oper} (n c : Nat) (g : World → World → Prop) (hgE : ∀ w w', Ext w w' → g w w') (hgT : ∀ w w' w'', g w w' → g w' w'' → g w w'') (fs : List GF) (hm : P.follows .mixedOrders = true) (hB : (factsB l.toArray n && fs.length == n) = true)
    (h : wpG P l.toArray w g c (fun a' w' => wpList P l.toArray Q (l.drop n) a' w') 0 ((l.take n).zip fs) [] a) : (Code.region id l.toArray true).wp P Q a w := by
  rw [Bool.and_eq_true, beq_iff_eq] at hB
  obtain ⟨hB, hfs⟩ := hB
  have hn : n ≤ l.length := by
    simp only [factsB, Bool.and_eq_true, decide_eq_true_eq] at hB
    simpa using hB.1.1.2
  refine wp_region_any hm ?_
  have hinv : HeadInv .any l.toArray n (Array.replicate l.toArray.size false) :=
    ⟨by simp, fun j oj _ hl => (by rw [getD_replicate_false] at hl; cases hl), fun t _ ht => getD_in (by simpa using ht) (getD_replicate_false _ _)⟩
  have hp : pend n (Array.replicate l.toArray.size false) = n := by
    unfold pend
    rw [List.countP_eq_length.2 (fun j _ => by rw [getD_replicate_false]; rfl), List.length_range]
  let vals : Nat → Value := fun j => match ((l.take n).zip fs)[j]? with | some (_, .val v) => v | _ => undef
  have hdr : Ext w { w with drawn := w.drawn + 1 } := ⟨rfl, rfl, rfl, Nat.le_refl _, fun _ _ => rfl⟩
  have := wpAny_G (P := P) (W := w) (g := g) (c := c) (Q := Q) hgE hgT (ops := l.toArray) (n := n) (fl := (l.take n).zip fs) (a := a) hB (by
      rw [List.map_fst_zip (by simp; omega)]) (by simpa using h) n (Array.replicate l.toArray.size false) a { w with drawn := w.drawn + 1 } vals hinv hp
    ⟨fun i o v hi => by simp only [vals, Nat.zero_add, hi], (actOf_none _ _ _ _ (fun j _ => getD_replicate_false _ _)).symm, hgE _ _ hdr, fun _ => hdr, fun j oj p _ hl => (by rw [getD_replicate_false] at hl; cases hl), fun j oj s p _ hl => by rw [getD_replicate_false] at hl; cases hl⟩
  have e : n + (l.toArray.size - n) = l.toArray.size := by simp; omega
  rwa [e] at this
end
section
variable {P : Program} {ops : Array Oper} {W : World} {g : World → World → Prop} {c : Nat} {End : Act → World → Prop} {k : Nat} {o : Oper} {rest : List (Oper × GF)} {R : GL} {a : Act}
theorem wpG_val {v : Value} (hg : Region.wanted o (yielded ops a.tmps) = true) (hc : k ≠ c) (h1 : ∀ w, g W w → DepsG false o R w → YldG Ext P o a w (.val v)) (h2 : wpG P ops W g c End (k + 1) rest R (a.put o.dst v)) : wpG P ops W g c End k ((o, .val v) :: rest) R a :=
  ⟨by rw [if_pos hg, if_neg hc]; exact h1, trivial, h2⟩
theorem wpG_fact {s : Bool} {p : Value → World → Prop} (hg : Region.wanted o (yielded ops a.tmps) = true) (hc : k ≠ c) (hs : s = true → ∀ u w w', p u w → g w w' → p u w') (hs2 : ∀ u w w', p u w → Ext w w' → p u w') (h1 : ∀ w, g W w → DepsG false o R w → YldG Ext P o a w (.fact s p)) (h2 : ∀ u, wpG P ops W g c End (k + 1) rest (R ++ [(k, s, p u)]) (a.put o.dst u)) : wpG P ops W g c End k ((o, .fact s p) :: rest) R a :=
  ⟨by rw [if_pos hg, if_neg hc]; exact h1, ⟨fun h => hs h.1, hs2, fun h => absurd h hc⟩, h2⟩
theorem wpG_here {p : Value → World → Prop} (hg : Region.wanted o (yielded ops a.tmps) = true) (hc : k = c) (hs2 : ∀ u w w', p u w → Ext w w' → p u w') (h1 : ∀ w, Ext W w → DepsG true o R w → YldG g P o a w (.fact true p)) (h2 : ∀ u, wpG P ops W g c End (k + 1) rest (R ++ [(k, true, p u)]) (a.put o.dst u)) : wpG P ops W g c End k ((o, .fact true p) :: rest) R a :=
  ⟨by rw [if_pos hg, if_pos hc]; exact h1, ⟨fun h => absurd hc h.2, hs2, fun _ => rfl⟩, h2⟩
theorem wpG_skip (hg : Region.wanted o (yielded ops a.tmps) = false) (h2 : wpG P ops W g c End (k + 1) rest R (a.put o.dst undef)) : wpG P ops W g c End k ((o, .val undef) :: rest) R a :=
  ⟨by rw [if_neg (by rw [hg]; simp)], trivial, h2⟩
theorem wpG_nil (h : ∀ w, g W w → AllG R w → End a w) : wpG P ops W g c End k [] R a := h
end
end Go.Proofs.Ytielnpmnnifjcaa.Reg
