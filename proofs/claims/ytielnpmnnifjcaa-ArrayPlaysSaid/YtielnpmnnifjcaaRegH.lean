/- A rule for a region whose order is drawn, of which two operations write into old memory, the second one behind the first; the others give values, or facts that stay. No Go program in sight. -/
import Derived.Test.YtielnpmnnifjcaaRegC
namespace Go.Proofs.Ytielnpmnnifjcaa.Reg
open Go Go.RowKit

def RF.stabG (g : World → World → Prop) : RF → Prop
  | .val _ => True
  | .fact p => ∀ u w w', p u w → g w w' → p u w'
theorem RF.ok_g {g : World → World → Prop} {f : RF} (hs : f.stabG g) {u : Value} {w w' : World} (h : f.ok u w) (he : g w w') : f.ok u w' := by
  cases f with
  | val v => exact h
  | fact p => exact hs _ _ _ h he
def UponR (g : World → World → Prop) (P : Program) (w : World) (f : RF) : Result Next → Prop
  | .ok (.value u) w' => g w w' ∧ f.ok u w'
  | .ok .skip w' => g w w' ∧ f.ok undef w'
  | .ok (.enter h args) w' => Calls P h args w' fun e w2 => ∃ u, e = .returned u ∧ g w w2 ∧ f.ok u w2
  | _ => False
def YldR (g : World → World → Prop) (P : Program) (o : Oper) (a : Act) (w : World) (f : RF) : Prop := UponR g P w f ((execOp a.eval o).run P w)
theorem YldR.wp {g : World → World → Prop} {P : Program} {o : Oper} {a : Act} {w : World} {f : RF} (h : YldR g P o a w f) (K : Act → World → Prop) (Q : Exit → Act → World → Prop) (hK : ∀ u w', g w w' → f.ok u w' → K (a.put o.dst u) w') : o.wp P a w K Q := by
  unfold YldR at h
  unfold Oper.wp
  generalize (execOp a.eval o).run P w = r at *
  cases r with
  | ok n w' =>
    cases n <;> simp only [UponR] at h <;> simp only [Oper.upon]
    case value u => exact hK _ _ h.1 h.2
    case skip => exact hK _ _ h.1 h.2
    case enter g args =>
      refine h.mono fun e w2 ⟨u, he, h1, h2⟩ => ?_
      subst he
      exact hK _ _ h1 h2
  | halt x w' => simp only [UponR] at h

def wpH (P : Program) (ops : Array Oper) (W : World) (g : World → World → Prop) (c1 c2 : Nat) (P1 P2 : World → Prop) (End : Act → World → Prop) : Nat → List (Oper × RF) → List (Nat × (World → Prop)) → Act → Prop
  | _, [], R, a => ∀ w, g W w → P2 w → AllR R w → End a w
  | k, (o, f) :: rest, R, a =>
    (if Region.wanted o (yielded ops a.tmps) then
      (if k = c1 then ∀ w, Ext W w → Deps o R w → YldR (fun w w' => g w w' ∧ P1 w') P o a w f
       else if k = c2 then ∀ w, g W w → P1 w → Deps o R w → YldR (fun w w' => g w w' ∧ P2 w') P o a w f
       else ∀ w, g W w → Deps o R w → YldR Ext P o a w f)
     else f = .val undef ∧ k ≠ c1 ∧ k ≠ c2) ∧ f.stabG g ∧
    (match f with
      | .val v => wpH P ops W g c1 c2 P1 P2 End (k + 1) rest R (a.put o.dst v)
      | .fact p => ∀ u, wpH P ops W g c1 c2 P1 P2 End (k + 1) rest (R ++ [(k, p u)]) (a.put o.dst u))

section
variable {P : Program} {ops : Array Oper} {W : World} {g : World → World → Prop} {c1 c2 : Nat} {P1 P2 : World → Prop} {End : Act → World → Prop} {Q : Exit → Act → World → Prop}

theorem wpH_all (vals : Nat → Value) : ∀ (fl : List (Oper × RF)) (k : Nat) (R : List (Nat × (World → Prop))) (a : Act), Fits vals k fl → wpH P ops W g c1 c2 P1 P2 End k fl R a →
    (∀ (i : Nat) (o : Oper) (f : RF), fl[i]? = some (o, f) → f.stabG g ∧
      (Region.wanted o (yielded ops (lexP vals k ((fl.take i).map (·.1)) a).tmps) = true → ∀ w, Deps o R w → (∀ j oj (p : Value → World → Prop), j < i → fl[j]? = some (oj, .fact p) → depB o (k + j) = true → p (vals (k + j)) w) →
        (k + i = c1 → Ext W w → YldR (fun w w' => g w w' ∧ P1 w') P o (lexP vals k ((fl.take i).map (·.1)) a) w f) ∧
        (k + i ≠ c1 → k + i = c2 → g W w → P1 w → YldR (fun w w' => g w w' ∧ P2 w') P o (lexP vals k ((fl.take i).map (·.1)) a) w f) ∧
        (k + i ≠ c1 → k + i ≠ c2 → g W w → YldR Ext P o (lexP vals k ((fl.take i).map (·.1)) a) w f)) ∧
      (Region.wanted o (yielded ops (lexP vals k ((fl.take i).map (·.1)) a).tmps) = false → f = .val undef ∧ k + i ≠ c1 ∧ k + i ≠ c2)) ∧
    (∀ w, g W w → P2 w → AllR R w → (∀ j oj (p : Value → World → Prop), fl[j]? = some (oj, .fact p) → p (vals (k + j)) w) → End (lexP vals k (fl.map (·.1)) a) w)
  | [], k, R, a, _, h => ⟨fun i o f hi => by simp at hi, fun w hw h2 hr _ => h w hw h2 hr⟩
  | (o0, f0) :: fl, k, R, a, hf, h => by
    obtain ⟨h1, h2, h3⟩ := h
    have hf' : Fits vals (k + 1) fl := fun i o v hi => by have := hf (i + 1) o v (by simpa using hi); rwa [Nat.add_assoc, Nat.add_comm 1 i]
    have key : ∃ R', wpH P ops W g c1 c2 P1 P2 End (k + 1) fl R' (a.put o0.dst (vals k)) ∧ (∀ w, AllR R w → (∀ p, f0 = .fact p → p (vals k) w) → AllR R' w) ∧
        (∀ (o : Oper) w, Deps o R w → (∀ p, f0 = .fact p → depB o k = true → p (vals k) w) → Deps o R' w) := by
      cases f0 with
      | val v =>
        have hv : vals k = v := by have := hf 0 o0 v (by simp); simpa using this
        exact ⟨R, by rw [hv]; exact h3, fun w hr _ => hr, fun o w hr _ => hr⟩
      | fact p =>
        refine ⟨R ++ [(k, p (vals k))], h3 (vals k), fun w hr hp => ?_, fun o w hr hp => deps_append o R k _ w hr (hp p rfl)⟩
        have : ∀ (R : List (Nat × (World → Prop))), AllR R w → AllR (R ++ [(k, p (vals k))]) w := by
          intro R
          induction R with
          | nil => exact fun _ => ⟨hp p rfl, trivial⟩
          | cons r R ih => exact fun h => ⟨h.1, ih h.2⟩
        exact this R hr
    obtain ⟨R', hw, ha, hd⟩ := key
    obtain ⟨g1, g2⟩ := wpH_all vals fl (k + 1) R' _ hf' hw
    refine ⟨fun i o f hi => ?_, fun w hW hP2 hr hj => ?_⟩
    · cases i with
      | zero =>
        obtain ⟨rfl, rfl⟩ : o0 = o ∧ f0 = f := by simpa using hi
        refine ⟨h2, fun hwa w hr _ => ?_, fun hwa => ?_⟩
        · simp only [List.take_zero, List.map_nil, lexP] at hwa ⊢
          rw [if_pos hwa] at h1
          refine ⟨fun hc hW => ?_, fun hc hc2 hW hP => ?_, fun hc hc2 hW => ?_⟩
          · rw [if_pos (show k = c1 from hc)] at h1
            exact h1 w hW hr
          · rw [if_neg (show ¬ k = c1 from hc), if_pos (show k = c2 from hc2)] at h1
            exact h1 w hW hP hr
          · rw [if_neg (show ¬ k = c1 from hc), if_neg (show ¬ k = c2 from hc2)] at h1
            exact h1 w hW hr
        · simp only [List.take_zero, List.map_nil, lexP] at hwa
          rw [if_neg (by rw [hwa]; simp)] at h1
          exact h1
      | succ i =>
        have hi' : fl[i]? = some (o, f) := by simpa using hi
        obtain ⟨s1, s2, s3⟩ := g1 i o f hi'
        have ek : k + (i + 1) = k + 1 + i := by omega
        rw [ek]
        refine ⟨s1, fun hwa w hr hj => ?_, fun hwa => ?_⟩
        · simp only [List.take_succ_cons, List.map_cons, lexP] at hwa ⊢
          refine s2 hwa w (hd o w hr fun p hp hdep => ?_) fun j oj p hjl hjf hdep => ?_
          · subst hp
            have := hj 0 o0 p (by omega) (by simp)
            simpa using this (by simpa using hdep)
          · have := hj (j + 1) oj p (by omega) (by simpa using hjf)
            have e : k + (j + 1) = k + 1 + j := by omega
            rw [e] at this
            exact this hdep
        · simp only [List.take_succ_cons, List.map_cons, lexP] at hwa
          exact s3 hwa
    · simp only [List.map_cons, lexP]
      refine g2 w hW hP2 (ha w hr fun p hp => ?_) fun j oj p hjf => ?_
      · subst hp
        simpa using hj 0 o0 p (by simp)
      · have := hj (j + 1) oj p (by simpa using hjf)
        have e : k + (j + 1) = k + 1 + j := by omega
        rwa [e] at this

structure InvH (ops : Array Oper) (W : World) (g : World → World → Prop) (c1 c2 : Nat) (P1 P2 : World → Prop) (fl : List (Oper × RF)) (a : Act) (listed : Array Bool) (a' : Act) (w' : World) (vals : Nat → Value) : Prop where
  fits : Fits vals 0 fl
  act : a' = actOf ops (fun j => listed.getD j false) vals a
  rel : g W w'
  ext : listed.getD c1 false = false → Ext W w'
  mid : listed.getD c1 false = true → listed.getD c2 false = false → P1 w'
  fin : listed.getD c2 false = true → P2 w'
  facts : ∀ j oj (p : Value → World → Prop), fl[j]? = some (oj, .fact p) → listed.getD j false = true → p (vals j) w'

theorem wpAny_H (hgE : ∀ w w', Ext w w' → g w w') (hgT : ∀ w w' w'', g w w' → g w' w'' → g w w'') (h12 : c1 ≠ c2) (hP1 : ∀ w w', P1 w → Ext w w' → P1 w') (hP2 : ∀ w w', P2 w → Ext w w' → P2 w') {n : Nat} (hc2 : c2 < n) (hdep12 : (match ops[c2]? with | some o => depB o c1 | none => false) = true)
    {fl : List (Oper × RF)} {a : Act} (hB : factsB ops n = true) (hfl : fl.map (·.1) = ops.toList.take n)
    (h : wpH P ops W g c1 c2 P1 P2 (fun a' w' => wpList P ops Q (ops.toList.drop n) a' w') 0 fl [] a) :
    ∀ (f : Nat) (listed : Array Bool) (a' : Act) (w' : World) (vals : Nat → Value), HeadInv .any ops n listed → pend n listed = f → InvH ops W g c1 c2 P1 P2 fl a listed a' w' vals →
      wpAny P .any ops Q (f + (ops.size - n)) listed a' w' := by
  simp only [factsB, Bool.and_eq_true, decide_eq_true_eq, Bool.or_eq_true, beq_iff_eq] at hB
  obtain ⟨⟨⟨⟨⟨⟨hsel, hd⟩, hseen⟩, hback⟩, hn⟩, htail⟩, hseq⟩ := hB
  have hlen : fl.length = n := by
    have := congrArg List.length hfl
    simp only [List.length_map, List.length_take, Array.length_toList] at this
    omega
  have hget : ∀ (i : Nat) (o : Oper) (r : RF), fl[i]? = some (o, r) → ops[i]? = some o := by
    intro i o r hi
    have hil : i < n := by rw [← hlen]; exact (List.getElem?_eq_some_iff.1 hi).1
    have h1 : (fl.map (·.1))[i]? = some o := by rw [List.getElem?_map, hi]; rfl
    rw [hfl, List.getElem?_take] at h1
    simpa [hil] using h1
  have hlex : ∀ (vals : Nat → Value) (i : Nat), i ≤ n → lexP vals 0 ((fl.take i).map (·.1)) a = actOf ops (fun j => decide (j < i)) vals a := by
    intro vals i hi
    have h0 : a = actOf ops (fun j => decide (j < 0)) vals a := (actOf_none ops vals a _ (fun j _ => by simp)).symm
    have := lexP_actOf (ops := ops) hd vals a ((fl.take i).map (·.1)) 0 (fun j o hj => by
      rw [List.getElem?_map] at hj
      obtain ⟨⟨o', r⟩, h1, h2⟩ := Option.map_eq_some_iff.1 hj
      subst h2
      rw [Nat.zero_add]
      rw [List.getElem?_take] at h1
      split at h1
      · exact hget j o' r h1
      · cases h1)
    rw [← h0] at this
    rw [this]
    congr 1
    funext j
    simp only [List.length_map, List.length_take, Nat.zero_add]
    rw [Nat.min_eq_left (by omega)]
  intro f
  induction f with
  | zero =>
    intro listed a' w' vals hinv hp hI
    have hall := pend_zero hp
    have hlisted : listed = (Array.range ops.size).map fun j => decide (j < n) := by
      apply Array.ext
      · simp [hinv.size]
      · intro j h1 h2
        simp only [Array.getElem_map, Array.getElem_range]
        by_cases hj : j < n
        · have := hall j hj
          simp [h1] at this
          simp [this, hj]
        · have := hinv.tail j (by omega) (by rw [← hinv.size]; exact h1)
          simp [h1] at this
          simp [this, hj]
    rw [← hlisted] at hseq
    obtain ⟨_, hend⟩ := wpH_all vals fl 0 [] a hI.fits h
    have hE := hend w' hI.rel (hI.fin (hall c2 hc2)) trivial (fun j oj p hj => by
      have hjl : j < n := by rw [← hlen]; exact (List.getElem?_eq_some_iff.1 hj).1
      have := hI.facts j oj p hj (hall j hjl)
      rwa [Nat.zero_add])
    have e : lexP vals 0 (fl.map (·.1)) a = a' := by
      have h1 := hlex vals n (Nat.le_refl _)
      rw [List.take_of_length_le (by omega)] at h1
      rw [h1, hI.act]
      have : ∀ t, wrote ops (fun j => decide (j < n)) t = wrote ops (fun j => listed.getD j false) t := by
        intro t
        unfold wrote
        congr 1
        funext j
        congr 1
        rw [hlisted]
        by_cases hj : j < ops.size
        · simp [hj]
        · simp [hj]; omega
      simp only [actOf, this]
    rw [e] at hE
    rw [Nat.zero_add]
    have hdl : (ops.toList.drop n).length = ops.size - n := by simp
    have := wpAny_of_seq (md := .any) (Q' := Q) (ops.toList.drop n) n listed a' w' (fun j => by simp [List.getElem?_drop]) (by rw [hdl]; exact hseq) hE
    rwa [hdl] at this
  | succ f ih =>
    intro listed a' w' vals hinv hp hI
    obtain ⟨i0, hi0, hun0⟩ := pend_pos hp
    obtain ⟨hobl, _⟩ := wpH_all vals fl 0 [] a hI.fits h
    rw [Nat.succ_add]
    refine ⟨fun hr => ?_, fun i hi => ?_⟩
    · exfalso
      -- the first one that is not listed is ready
      have : ∀ d j, j < n → listed.getD j false = false → j = d → ∃ k, k ∈ Region.ready .any ops listed := by
        intro d
        induction d using Nat.strongRecOn with
        | _ d ihd =>
          intro j hj hju hjd
          subst hjd
          have hjs : j < ops.size := by omega
          by_cases hre : j ∈ Region.ready .any ops listed
          · exact ⟨j, hre⟩
          · have hoj : ops[j]? = some ops[j] := Array.getElem?_eq_getElem hjs
            have hb := List.all_eq_true.1 hback j (List.mem_range.2 hj)
            rw [hoj] at hb
            by_cases hall : ∀ e ∈ ops[j].after, Region.binds .any e = true → listed.getD e.on false = true
            · exact absurd (mem_ready.2 ⟨getD_in (by rw [hinv.size]; exact hjs) hju, ops[j], hoj, hall⟩) hre
            · simp only [Classical.not_forall] at hall
              obtain ⟨e, he, hbe, hne⟩ := hall
              have h1 := Array.all_eq_true'.1 hb e he
              simp only [hbe, Bool.not_true, Bool.false_or, decide_eq_true_eq] at h1
              exact ihd e.on h1 e.on (by omega) (by simpa using hne) rfl
      obtain ⟨k, hk⟩ := this i0 i0 hi0 hun0 rfl
      rw [hr] at hk
      cases hk
    · obtain ⟨hiun, oi, hoi, hwait⟩ := mem_ready.1 hi
      have his : i < ops.size := (Array.getElem?_eq_some_iff.1 hoi).1
      have hin : i < n := by
        rcases Nat.lt_or_ge i n with hl | hl
        · exact hl
        · exfalso
          rcases htail with he | ⟨hs, hc⟩
          · omega
          · exact tail_waits hs hc (by omega) hinv _ i0 rfl hi0 (getD_in (by rw [hinv.size]; omega) hun0) i hl hi
      have hiun' : listed.getD i false = false := getD_both hiun
      obtain ⟨r, hr⟩ : ∃ r, fl[i]? = some (oi, r) := by
        have hfi : i < fl.length := by omega
        have h1 := hget i fl[i].1 fl[i].2 (List.getElem?_eq_getElem hfi)
        rw [hoi] at h1
        exact ⟨fl[i].2, by rw [List.getElem?_eq_getElem hfi, Option.some.inj h1]⟩
      obtain ⟨hst, hyes, hno⟩ := hobl i oi r hr
      rw [hlex vals i (by omega)] at hyes hno
      rw [Nat.zero_add] at hyes hno
      have hsame : ∀ t ∈ oi.looksAt ops, a'.tmps[t]? = (actOf ops (fun j => decide (j < i)) vals a).tmps[t]? := by
        intro t ht
        rw [hI.act]
        refine actOf_eval hd _ _ vals a t fun j hj => ?_
        rcases seen_spec hseen hin hoi ht hj with ⟨h1, h2⟩ | ⟨h1, h2⟩ | h1
        · obtain ⟨o', ho', e, he, hbe, hon⟩ := Region.waitsFor_spec h1
          have : o' = oi := Option.some.inj (ho'.symm.trans hoi)
          subst this
          have := hwait e he hbe
          rw [hon] at this
          simp only [this, h2, decide_true]
        · obtain ⟨o', ho', e, he, hbe, hon⟩ := Region.waitsFor_spec h1
          have h3 : listed.getD j false = false := by
            cases hl : listed.getD j false with
            | false => rfl
            | true =>
              have := hinv.closed j o' ho' hl e he hbe
              rw [hon, hiun'] at this
              cases this
          simp only [h3]
          simp; omega
        · have ljs : j < ops.size := by
            rcases Nat.lt_or_ge j ops.size with l | l
            · exact l
            · simp [Array.getElem?_eq_none l] at hj
          have h3 : listed.getD j false = false := getD_both (hinv.tail j h1 ljs)
          simp only [h3]
          simp; omega
      have hex := exec_same (Region.noSelect_spec hsel i oi · · hoi) hsame
      have hwa := wanted_same hsame
      have hset : ∀ j, (listed.setIfInBounds i true).getD j false = (listed.getD j false || j == i) := by
        intro j
        by_cases hji : j = i
        · subst hji; simp [hinv.size, his]
        · rw [getD_set_ne false (Ne.symm hji)]; simp [hji]
      -- the second one waits for the first
      have hclosed : listed.getD c2 false = true → listed.getD c1 false = true := by
        intro hl
        cases ho2 : ops[c2]? with
        | none => rw [ho2] at hdep12; cases hdep12
        | some o2 =>
          rw [ho2] at hdep12
          obtain ⟨e, he, hb⟩ := Array.any_eq_true'.1 hdep12
          simp only [Bool.and_eq_true, beq_iff_eq] at hb
          have := hinv.closed c2 o2 ho2 hl e he hb.1
          rwa [hb.2] at this
      have hwait12 : i = c2 → listed.getD c1 false = true := by
        intro hic
        subst hic
        rw [hoi] at hdep12
        obtain ⟨e, he, hb⟩ := Array.any_eq_true'.1 hdep12
        simp only [Bool.and_eq_true, beq_iff_eq] at hb
        have := hwait e he hb.1
        rwa [hb.2] at this
      have next : ∀ u w2, g w' w2 → (i ≠ c1 → i ≠ c2 → Ext w' w2) → (i = c1 → P1 w2) → (i = c2 → P2 w2) → r.ok u w2 → wpAny P .any ops Q (f + (ops.size - n)) (listed.setIfInBounds i true) (a'.put oi.dst u) w2 := by
        intro u w2 he hex h1 h2 hu
        refine ih (listed.setIfInBounds i true) _ w2 (fun j => if j = i then u else vals j) (hinv.set hi hin) ?_ ?_
        · have := pend_set (by rw [hinv.size]; exact his) hin hiun'
          omega
        · refine ⟨fun j o v hj => ?_, ?_, hgT _ _ _ hI.rel he, fun hc => ?_, fun hc hcc => ?_, fun hc => ?_, fun j oj p hj hl => ?_⟩
          · rw [Nat.zero_add]
            by_cases hji : j = i
            · subst hji
              rw [hr] at hj
              obtain ⟨rfl, rfl⟩ : oi = o ∧ r = .val v := by simpa using hj
              simp only [if_true]
              exact hu
            · simp only [if_neg hji]
              have := hI.fits j o v hj
              rwa [Nat.zero_add] at this
          · rw [hI.act]
            exact actOf_put hd _ _ vals _ a i oi u hoi hiun' (fun j hj => hset j) (fun j hj => if_neg hj) (if_pos rfl)
          · rw [hset] at hc
            have hic : i ≠ c1 := by intro e; rw [e] at hc; simp at hc
            have hl1 : listed.getD c1 false = false := by cases h : listed.getD c1 false with | false => rfl | true => rw [h] at hc; simp at hc
            have hic2 : i ≠ c2 := by intro e; rw [hwait12 e] at hl1; cases hl1
            exact Ext.trans (hI.ext hl1) (hex hic hic2)
          · rw [hset] at hc hcc
            have hic2 : i ≠ c2 := by intro e; rw [e] at hcc; simp at hcc
            have hl2 : listed.getD c2 false = false := by cases h : listed.getD c2 false with | false => rfl | true => rw [h] at hcc; simp at hcc
            by_cases hic : i = c1
            · exact h1 hic
            · have hl1 : listed.getD c1 false = true := by
                cases h : listed.getD c1 false with
                | true => rfl
                | false => rw [h] at hc; simp at hc; exact absurd hc.symm hic
              exact hP1 _ _ (hI.mid hl1 hl2) (hex hic hic2)
          · rw [hset] at hc
            by_cases hic2 : i = c2
            · exact h2 hic2
            · have hl2 : listed.getD c2 false = true := by
                cases h : listed.getD c2 false with
                | true => rfl
                | false => rw [h] at hc; simp at hc; exact absurd hc.symm hic2
              have hic : i ≠ c1 := by
                intro e
                have := hclosed hl2
                rw [← e, hiun'] at this
                cases this
              exact hP2 _ _ (hI.fin hl2) (hex hic hic2)
          · by_cases hji : j = i
            · subst hji
              rw [hr] at hj
              obtain ⟨rfl, rfl⟩ : oi = oj ∧ r = .fact p := by simpa using hj
              simp only [if_true]
              exact hu
            · simp only [if_neg hji]
              rw [getD_set_ne false (Ne.symm hji)] at hl
              obtain ⟨hsj, _⟩ := hobl j oj (.fact p) hj
              exact hsj _ _ _ (hI.facts j oj p hj hl) he
      unfold wpOp
      rw [hoi]
      simp only []
      by_cases hw : Region.wanted oi (yielded ops a'.tmps) = true
      · rw [if_pos hw]
        refine .inl ?_
        have hy0 := hyes (hwa ▸ hw) w' trivial (fun j oj p hji hj hdep => by
            rw [Nat.zero_add] at hdep ⊢
            obtain ⟨e, he, hb⟩ := Array.any_eq_true'.1 hdep
            simp only [Bool.and_eq_true, beq_iff_eq] at hb
            have := hwait e he hb.1
            rw [hb.2] at this
            exact hI.facts j oj p hj this)
        by_cases hic : i = c1
        · refine YldR.wp (g := fun w w' => g w w' ∧ P1 w') (f := r) ?_ _ _ (fun u w2 h1 h2 => next u w2 h1.1 (fun h => absurd hic h) (fun _ => h1.2) (fun e => absurd (hic.symm.trans e) h12) h2)
          have hy := hy0.1 hic (hI.ext (by rw [← hic]; exact hiun'))
          unfold YldR at hy ⊢
          rw [hex]
          exact hy
        · by_cases hic2 : i = c2
          · refine YldR.wp (g := fun w w' => g w w' ∧ P2 w') (f := r) ?_ _ _ (fun u w2 h1 h2 => next u w2 h1.1 (fun _ h => absurd hic2 h) (fun e => absurd e hic) (fun _ => h1.2) h2)
            have hy := hy0.2.1 hic hic2 hI.rel (hI.mid (hwait12 hic2) (by rw [← hic2]; exact hiun'))
            unfold YldR at hy ⊢
            rw [hex]
            exact hy
          · refine YldR.wp (g := Ext) (f := r) ?_ _ _ (fun u w2 h1 h2 => next u w2 (hgE _ _ h1) (fun _ _ => h1) (fun e => absurd e hic) (fun e => absurd e hic2) h2)
            have hy := hy0.2.2 hic hic2 hI.rel
            unfold YldR at hy ⊢
            rw [hex]
            exact hy
      · rw [if_neg hw]
        have hw' : Region.wanted oi (yielded ops a'.tmps) = false := by simpa using hw
        have := hno (hwa ▸ hw')
        exact next undef w' (hgE _ _ (Ext.refl _)) (fun _ _ => Ext.refl _) (fun e => absurd e this.2.1) (fun e => absurd e this.2.2) (by rw [this.1]; rfl)

/-- THE RULE: n operations in whatever order, of which c1 and then c2 may turn old memory (g; behind them P1, P2 hold), then those that are last, in the text's order. -/
theorem wp_region_H {id : Nat} {a : Act} {w : World} {l : List Oper} (n c1 c2 : Nat) (g : World → World → Prop) (P1 P2 : World → Prop) (fs : List RF) (hm : P.follows .mixedOrders = true) (hB : (factsB l.toArray n && fs.length == n && decide (c1 ≠ c2) && decide (c2 < n) && (match l.toArray[c2]? with | some o => depB o c1 | none => false)) = true)
    (hgE : ∀ w w', Ext w w' → g w w') (hgT : ∀ w w' w'', g w w' → g w' w'' → g w w'') (hP1 : ∀ w w', P1 w → Ext w w' → P1 w') (hP2 : ∀ w w', P2 w → Ext w w' → P2 w')
    (h : wpH P l.toArray w g c1 c2 P1 P2 (fun a' w' => wpList P l.toArray Q (l.drop n) a' w') 0 ((l.take n).zip fs) [] a) : (Code.region id l.toArray true).wp P Q a w := by
  simp only [Bool.and_eq_true, beq_iff_eq, decide_eq_true_eq] at hB
  obtain ⟨⟨⟨⟨hB, hfs⟩, h12⟩, hc2⟩, hdep⟩ := hB
  have hn : n ≤ l.length := by
    simp only [factsB, Bool.and_eq_true, decide_eq_true_eq] at hB
    simpa using hB.1.1.2
  refine wp_region_any hm ?_
  have hinv : HeadInv .any l.toArray n (Array.replicate l.toArray.size false) :=
    ⟨by simp, fun j oj _ hl => (by rw [getD_replicate_false] at hl; cases hl), fun t _ ht => getD_in (by simpa using ht) (getD_replicate_false _ _)⟩
  have hp : pend n (Array.replicate l.toArray.size false) = n := by
    unfold pend
    rw [List.countP_eq_length.2 (fun j _ => by rw [getD_replicate_false]; rfl), List.length_range]
  let vals : Nat → Value := fun j => match ((l.take n).zip fs)[j]? with | some (_, .val v) => v | _ => undef
  have hdr : Ext w { w with drawn := w.drawn + 1 } := ⟨rfl, rfl, rfl, Nat.le_refl _, fun _ _ => rfl⟩
  have := wpAny_H (P := P) (W := w) (g := g) (c1 := c1) (c2 := c2) (P1 := P1) (P2 := P2) (Q := Q) hgE hgT h12 hP1 hP2 (ops := l.toArray) (n := n) hc2 hdep (fl := (l.take n).zip fs) (a := a) hB (by
      rw [List.map_fst_zip (by simp; omega)]) (by simpa using h) n (Array.replicate l.toArray.size false) a { w with drawn := w.drawn + 1 } vals hinv hp
    ⟨fun i o v hi => by simp only [vals, Nat.zero_add, hi], (actOf_none _ _ _ _ (fun j _ => getD_replicate_false _ _)).symm, hgE _ _ hdr, fun _ => hdr, fun hl => (by rw [getD_replicate_false] at hl; cases hl), fun hl => (by rw [getD_replicate_false] at hl; cases hl), fun j oj p _ hl => by rw [getD_replicate_false] at hl; cases hl⟩
  have e : n + (l.toArray.size - n) = l.toArray.size := by simp; omega
  rwa [e] at this
end
section
variable {P : Program} {ops : Array Oper} {W : World} {g : World → World → Prop} {c1 c2 : Nat} {P1 P2 : World → Prop} {End : Act → World → Prop} {k : Nat} {o : Oper} {rest : List (Oper × RF)} {R : List (Nat × (World → Prop))} {a : Act}
theorem wpH_val {v : Value} (hg : Region.wanted o (yielded ops a.tmps) = true) (hc : k ≠ c1) (hc2 : k ≠ c2) (h1 : ∀ w, g W w → Deps o R w → YldR Ext P o a w (.val v)) (h2 : wpH P ops W g c1 c2 P1 P2 End (k + 1) rest R (a.put o.dst v)) : wpH P ops W g c1 c2 P1 P2 End k ((o, .val v) :: rest) R a :=
  ⟨by rw [if_pos hg, if_neg hc, if_neg hc2]; exact h1, trivial, h2⟩
theorem wpH_fact {p : Value → World → Prop} (hg : Region.wanted o (yielded ops a.tmps) = true) (hc : k ≠ c1) (hc2 : k ≠ c2) (hs : ∀ u w w', p u w → g w w' → p u w') (h1 : ∀ w, g W w → Deps o R w → YldR Ext P o a w (.fact p)) (h2 : ∀ u, wpH P ops W g c1 c2 P1 P2 End (k + 1) rest (R ++ [(k, p u)]) (a.put o.dst u)) : wpH P ops W g c1 c2 P1 P2 End k ((o, .fact p) :: rest) R a :=
  ⟨by rw [if_pos hg, if_neg hc, if_neg hc2]; exact h1, hs, h2⟩
theorem wpH_one {f : RF} {v : Value} (hf : f = .val v) (hg : Region.wanted o (yielded ops a.tmps) = true) (hc : k = c1) (h1 : ∀ w, Ext W w → Deps o R w → YldR (fun w w' => g w w' ∧ P1 w') P o a w (.val v)) (h2 : wpH P ops W g c1 c2 P1 P2 End (k + 1) rest R (a.put o.dst v)) : wpH P ops W g c1 c2 P1 P2 End k ((o, f) :: rest) R a := by
  subst hf
  exact ⟨by rw [if_pos hg, if_pos hc]; exact h1, trivial, h2⟩
theorem wpH_two {f : RF} {v : Value} (hf : f = .val v) (hg : Region.wanted o (yielded ops a.tmps) = true) (hc : k ≠ c1) (hc2 : k = c2) (h1 : ∀ w, g W w → P1 w → Deps o R w → YldR (fun w w' => g w w' ∧ P2 w') P o a w (.val v)) (h2 : wpH P ops W g c1 c2 P1 P2 End (k + 1) rest R (a.put o.dst v)) : wpH P ops W g c1 c2 P1 P2 End k ((o, f) :: rest) R a := by
  subst hf
  exact ⟨by rw [if_pos hg, if_neg hc, if_pos hc2]; exact h1, trivial, h2⟩
theorem wpH_skip (hg : Region.wanted o (yielded ops a.tmps) = false) (hc : k ≠ c1) (hc2 : k ≠ c2) (h2 : wpH P ops W g c1 c2 P1 P2 End (k + 1) rest R (a.put o.dst undef)) : wpH P ops W g c1 c2 P1 P2 End k ((o, .val undef) :: rest) R a :=
  ⟨by rw [if_neg (by rw [hg]; simp)]; exact ⟨rfl, hc, hc2⟩, trivial, h2⟩
theorem wpH_nil (h : ∀ w, g W w → P2 w → AllR R w → End a w) : wpH P ops W g c1 c2 P1 P2 End k [] R a := h
theorem UponR_value {g : World → World → Prop} {f : RF} {w w' : World} {u : Value} : UponR g P w f (.ok (.value u) w') = (g w w' ∧ f.ok u w') := rfl
theorem UponR_skip {g : World → World → Prop} {f : RF} {w w' : World} : UponR g P w f (.ok .skip w') = (g w w' ∧ f.ok undef w') := rfl
theorem UponR_enter {g : World → World → Prop} {f : RF} {w w' : World} {h : FuncId} {args : Array Value} : UponR g P w f (.ok (.enter h args) w') = Calls P h args w' fun e w2 => ∃ u, e = .returned u ∧ g w w2 ∧ f.ok u w2 := rfl
end
end Go.Proofs.Ytielnpmnnifjcaa.Reg
