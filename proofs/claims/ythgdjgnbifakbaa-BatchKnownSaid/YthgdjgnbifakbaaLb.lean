/- What Get answers, as plain functions; rows of entries. -/
import Derived.Test.YthgdjgnbifakbaaLa
import Derived.Deep.RegionHeld3
import Derived.OrdersHeld
import Derived.Great.BuildSlice
namespace Go.Proofs.Ythgdjgnbifakbaa.By
open Go.RowKit Go.Proofs.Ythgdjgnbifakbaa.Reg Go.Proofs.YthgdjgnbifakbaaW.PrintWords Go.Proofs.YthgdjgnbifakbaaW.PrintLast Go.Proofs.YthgdjgnbifakbaaW.PrintMore
set_option linter.unusedVariables false
set_option linter.unusedSimpArgs false


def tkE (s : RS) : Th × RS := (((tkInt s).1, (tkInt (tkInt s).2).1, (tkInt (tkInt (tkInt s).2).2).1, (tkSum (tkInt (tkInt (tkInt s).2).2).2).1), (tkSum (tkInt (tkInt (tkInt s).2).2).2).2)
def tkEs : Nat → RS → List Th × RS
  | 0, s => ([], s)
  | n + 1, s => ((tkEs n s).1 ++ [(tkE (tkEs n s).2).1], (tkE (tkEs n s).2).2)
def g1 (bs : List Int) : Int × RS := tkInt (bs, false)
def g2 (bs : List Int) : List Int × RS := tkSum (g1 bs).2
def g3 (bs : List Int) : Int × RS := tkInt (g2 bs).2
def g4 (bs : List Int) : Int × RS := tkInt (g3 bs).2
def gForm (bs : List Int) : Bool := decide ((g4 bs).1 < 0) || decide (leftI (g4 bs).2.1 (g4 bs).2.2 / 8 < (g4 bs).1)
def gR (bs : List Int) : List Th × RS := tkEs (g4 bs).1.toNat (g4 bs).2
def gEnd (bs : List Int) : Int := endI (gR bs).2.1 (gR bs).2.2
def gE (bs : List Int) : Int := if gForm bs = true then 4 else if gEnd bs = 0 then checkF (g1 bs).1 (g3 bs).1 (gR bs).1 else gEnd bs
def oSt (bs : List Int) : Int := if gE bs = 0 then (g1 bs).1 else 0
def oPr (bs : List Int) : List Int := if gE bs = 0 then (g2 bs).1 else zero32
def oNx (bs : List Int) : Int := if gE bs = 0 then (g3 bs).1 else 0
def oEs (bs : List Int) : List Th := if gE bs = 0 then (gR bs).1 else []
theorem tkInt_r (s : RS) : -9223372036854775808 ≤ (tkInt s).1 ∧ (tkInt s).1 ≤ 9223372036854775807 := by
  unfold tkInt
  split
  · exact ⟨show (-9223372036854775808 : Int) ≤ 0 by decide, show (0 : Int) ≤ 9223372036854775807 by decide⟩
  · exact numI_range _
theorem tkSum_ok {s : RS} (h : isB s.1) : (tkSum s).1.length = 32 ∧ isB (tkSum s).1 := by
  unfold tkSum
  split
  · exact ⟨zero32_length, zero32_isB⟩
  · rename_i hn
    have hl : 32 ≤ s.1.length := by
      rcases Nat.lt_or_ge s.1.length 32 with hh | hh
      · exact absurd ((short_spec s 32).2 (.inr hh)) hn
      · exact hh
    exact ⟨by show (s.1.take 32).length = 32; rw [List.length_take]; omega, h.take 32⟩
theorem tkE_ok {s : RS} (h : isB s.1) : Th.ok (tkE s).1 ∧ isB (tkE s).2.1 := by
  have h1 := tkInt_isB h
  have h2 := tkInt_isB h1
  have h3 := tkInt_isB h2
  have h4 := tkSum_ok h3
  exact ⟨⟨tkInt_r _, tkInt_r _, tkInt_r _, h4.1, h4.2⟩, tkSum_isB h3⟩
theorem tkEs_ok (n : Nat) (s : RS) (h : isB s.1) : (tkEs n s).1.length = n ∧ (∀ e ∈ (tkEs n s).1, Th.ok e) ∧ isB (tkEs n s).2.1 := by
  induction n with
  | zero => exact ⟨rfl, (fun r hr => by simp [tkEs] at hr), h⟩
  | succ n ih =>
    obtain ⟨h1, h2, h3⟩ := ih
    obtain ⟨k1, k2⟩ := tkE_ok h3
    refine ⟨by simp [tkEs, h1], fun r hr => ?_, k2⟩
    simp only [tkEs, List.mem_append, List.mem_singleton] at hr
    rcases hr with hr | rfl
    · exact h2 r hr
    · exact k1
theorem tkInt_bad {s : RS} (h : s.2 = true) : (tkInt s).2.2 = true := by unfold tkInt; rw [if_pos ((short_spec s 8).2 (.inl h))]
theorem tkSum_bad {s : RS} (h : s.2 = true) : (tkSum s).2.2 = true := by unfold tkSum; rw [if_pos ((short_spec s 32).2 (.inl h))]
theorem tkE_bad {s : RS} (h : s.2 = true) : (tkE s).2.2 = true := tkSum_bad (tkInt_bad (tkInt_bad (tkInt_bad h)))
theorem tkEs_bad (s : RS) (i : Nat) (h : (tkEs i s).2.2 = true) : ∀ d, (tkEs (i + d) s).2.2 = true
  | 0 => h
  | d + 1 => tkE_bad (tkEs_bad s i h d)
theorem g_isB {bs : List Int} (h : isB bs) : isB (g1 bs).2.1 ∧ isB (g2 bs).2.1 ∧ isB (g3 bs).2.1 ∧ isB (g4 bs).2.1 := by
  have h1 : isB (g1 bs).2.1 := tkInt_isB h
  have h2 : isB (g2 bs).2.1 := tkSum_isB h1
  have h3 : isB (g3 bs).2.1 := tkInt_isB h2
  exact ⟨h1, h2, h3, tkInt_isB h3⟩
theorem tkInt_len (s : RS) : (tkInt s).2.1.length ≤ s.1.length := by
  unfold tkInt; split
  · exact Nat.le_refl _
  · show (s.1.drop 8).length ≤ _; rw [List.length_drop]; omega
theorem tkSum_len (s : RS) : (tkSum s).2.1.length ≤ s.1.length := by
  unfold tkSum; split
  · exact Nat.le_refl _
  · show (s.1.drop 32).length ≤ _; rw [List.length_drop]; omega
theorem g4_len (bs : List Int) : (g4 bs).2.1.length ≤ bs.length :=
  Nat.le_trans (tkInt_len _) (Nat.le_trans (tkInt_len _) (Nat.le_trans (tkSum_len _) (tkInt_len (bs, false))))
theorem gN_le {bs : List Int} (h : gForm bs = false) : 0 ≤ (g4 bs).1 ∧ (g4 bs).1 ≤ bs.length := by
  unfold gForm at h
  simp only [Bool.or_eq_false_iff, decide_eq_false_iff_not] at h
  have h1 := g4_len bs
  have h2 : leftI (g4 bs).2.1 (g4 bs).2.2 ≤ bs.length := by unfold leftI; split <;> omega
  have h3 : 0 ≤ leftI (g4 bs).2.1 (g4 bs).2.2 := by unfold leftI; split <;> omega
  omega
theorem g_ok {bs : List Int} (h : isB bs) : (g2 bs).1.length = 32 ∧ isB (g2 bs).1 ∧ (∀ e ∈ (gR bs).1, Th.ok e) ∧ (gR bs).1.length = (g4 bs).1.toNat := by
  have h0 := g_isB h
  have h1 := tkSum_ok h0.1
  have h2 := tkEs_ok (g4 bs).1.toNat (g4 bs).2 h0.2.2.2
  exact ⟨h1.1, h1.2, h2.2.1, h2.1⟩
theorem o_ok {bs : List Int} (h : isB bs) : (-9223372036854775808 ≤ oSt bs ∧ oSt bs ≤ 9223372036854775807) ∧ (oPr bs).length = 32 ∧ isB (oPr bs) ∧ (-9223372036854775808 ≤ oNx bs ∧ oNx bs ≤ 9223372036854775807) ∧ (∀ e ∈ oEs bs, Th.ok e) := by
  have h1 := g_ok h
  unfold oSt oPr oNx oEs
  split
  · exact ⟨tkInt_r _, h1.1, h1.2.1, tkInt_r _, h1.2.2.1⟩
  · exact ⟨⟨by decide, by decide⟩, zero32_length, zero32_isB, ⟨by decide, by decide⟩, fun e he => by cases he⟩

/-! memory -/
theorem Rd.blw {w w' : World} {lo hi b : Nat} {xs : List Int} {bad : Bool} (h : Rd w lo hi b xs bad) (k : Below hi w w') : Rd w' lo hi b xs bad := by
  obtain ⟨A, c, h⟩ := h
  exact ⟨A, c, h.low, h.high, Nat.le_trans h.size k.size, ⟨(k.block b h.high).trans h.blk.is⟩, kb_stays h.row (fun a ha => k.block _ (h.far a ha).2.1), h.cap, h.far⟩
theorem Rr.blw {w w' : World} {lo hi b : Nat} {xs : List Int} {p : Int} {bad : Bool} (h : Rr w lo hi b xs p bad) (k : Below hi w w') : Rr w' lo hi b xs p bad := by
  obtain ⟨A, c, h⟩ := h
  exact ⟨A, c, h.low, h.high, Nat.le_trans h.size k.size, ⟨(k.block b h.high).trans h.blk.is⟩, kb_stays h.row (fun a ha => k.block _ (h.far a ha).2.1), h.cap, h.far⟩
/-- A row of entries of one's own. -/
abbrev EB (w : World) (B : Nat) (V : Value) (es : List Th) : Prop := Kd.R kTh 73 w B (fun _ => True) V es
theorem EB.ext {w w' : World} {B : Nat} {V : Value} {es : List Th} (h : EB w B V es) (he : Ext w w') : EB w' B V es := Kd.R_below h he
theorem EB.at_ {w w' : World} {B : Nat} {V : Value} {es : List Th} (h : EB w B V es) (hb : ∀ k, V.ownBlock = some k → w'.heap[k]? = w.heap[k]?) : EB w' B V es := by
  have h1 := Kd.R_tight (d := kTh) rfl h
  exact Kd.R_mono (Kd.R_step h1 (fun k hok _ => hb k hok.symm)) (fun _ _ => trivial)
theorem EB.tch {w w' : World} {B lo hi : Nat} {V : Value} {es : List Th} (h : EB w B V es) (k : Tch w w' lo hi) (hh : hi ≤ B) : EB w' B V es :=
  h.at_ (fun j hj => k.block j (Kd.R_lt h j hj) (fun hx => by have := Kd.R_base h j hj; omega))
theorem EB.wrote {w w' : World} {B b : Nat} {V : Value} {es : List Th} (h : EB w B V es) (k : Wrote w w' b) (hn : V.ownBlock ≠ some b) : EB w' B V es :=
  h.at_ (fun j hj => k.block j (fun e => hn (by rw [hj, e])))
theorem EB.lower {w : World} {B B' : Nat} {V : Value} {es : List Th} (h : EB w B V es) (hb : B' ≤ B) : EB w B' V es := Kd.R_lower h hb
theorem EB.reads {w : World} {B : Nat} {V : Value} {es : List Th} (h : EB w B V es) : ∃ A c, V = .slice A es.length c ∧ es.length ≤ c ∧ Kd.C kTh w A es.length es := Kd.R_reads h
theorem EB.nil (w : World) (B : Nat) : EB w B (.slice none 0 0) [] := Kd.R_nil kTh 73 w B (fun _ => True)
theorem Tch.blw {w w' : World} {lo hi : Nat} (h : Tch w w' lo hi) (hl : lo ≤ w.heap.size) : Below lo w w' := ⟨h.os, h.tape, h.output, h.size, fun k hk => by
  rcases Nat.lt_or_ge k w.heap.size with h1 | h1
  · exact h.block k h1 (by omega)
  · exact absurd hk (by omega)⟩

theorem built_smy (st nx : Int) : ∀ (pr : List Int), pr.length = 32 → Program.built Try.prog 58 [(0, .int .i64 st), (1, sumV pr), (2, .int .i64 nx)] = some (smyC st pr nx (.slice none 0 0)).toArray
  | [x0, x1, x2, x3, x4, x5, x6, x7, x8, x9, x10, x11, x12, x13, x14, x15, x16, x17, x18, x19, x20, x21, x22, x23, x24, x25, x26, x27, x28, x29, x30, x31], _ => by kernel_rfl
theorem built_smy0 : Program.built Try.prog 58 [] = some (smyC 0 zero32 0 (.slice none 0 0)).toArray := by kernel_rfl
theorem built_th (k b s : Int) : ∀ (sm : List Int), sm.length = 32 → Program.built Try.prog 73 [(0, .int .i64 k), (1, .int .i64 b), (2, .int .i64 s), (3, sumV sm)] = some (thC (k, b, s, sm)).toArray
  | [x0, x1, x2, x3, x4, x5, x6, x7, x8, x9, x10, x11, x12, x13, x14, x15, x16, x17, x18, x19, x20, x21, x22, x23, x24, x25, x26, x27, x28, x29, x30, x31], _ => by kernel_rfl
theorem built_th0 : Program.built Try.prog 73 [] = some (thC (0, 0, 0, zero32)).toArray := by kernel_rfl
theorem th_cells_of (e : Th) (h : e.2.2.2.length = 32) (w W : World) (base : Nat) (ok : Nat → Prop) : kTh.M W base ok e (thC e) := by
  obtain ⟨k, b, s, sm⟩ := e
  exact ⟨[.int .i64 k], _, rfl, rfl, [.int .i64 b], _, rfl, rfl, [.int .i64 s], _, rfl, rfl, Kd.arr_of_cells h⟩
theorem results_ct {P : Program} {fn : Func} {p u : Tmp} {ty : TypeId} (h : fn.results = #[.cell p ty, .tmp u]) (tmps : Array Value) (w : World) (g : Nat) (tt : TypeId) (cs : Array Value) (fr : Nat × Nat) (d : TypeDesc)
    (hp : tmps.getD p undef = .pointer (some ⟨g, 0, none⟩)) (hg : w.heap[g]? = some (.cells cs tt fr))
    (hu : P.underlying ty = some d) (hd : (match d with | .struct _ | .array _ _ => true | _ => false) = true) (hi : (P.info? ty).map (·.size) = some cs.size) :
    (results fn tmps).run P w = .ok (.tuple #[.agg cs, tmps.getD u undef]) w := by
  have hp' : tmps[p]?.getD undef = .pointer (some ⟨g, 0, none⟩) := by simpa using hp
  simp [results, h, hp', asAddr, run_loadVar_row w g tt ty cs fr d hg hu hd hi]
end Go.Proofs.Ythgdjgnbifakbaa.By

/- A region that draws its order, walked by hand: what yields in every world that meets S while number k has not come up is taken first; where one alone may come up it is met. -/
namespace Go.Proofs.Ythgdjgnbifakbaa.By
open Go.RowKit Go.Proofs.Ythgdjgnbifakbaa.Reg Go.Proofs.YthgdjgnbifakbaaW.PrintWords Go.Proofs.YthgdjgnbifakbaaW.PrintLast Go.Proofs.YthgdjgnbifakbaaW.PrintMore
set_option linter.unusedVariables false
set_option linter.unusedSimpArgs false


/-- Whatever order is picked, and S holds as long as number k has not come up. -/
def wpAnyU (P : Program) (ops : Array Oper) (Q : Exit → Act → World → Prop) (S : World → Prop) (k : Nat) : Nat → Array Bool → Act → World → Prop
  | 0, listed, a, w => Region.ready .any ops listed = [] ∧ Q .normal a w
  | fuel + 1, listed, a, w =>
    (Region.ready .any ops listed = [] → Q .normal a w) ∧
    ∀ i ∈ Region.ready .any ops listed, wpOp P ops Q i (fun a' w' => ((listed.setIfInBounds i true).getD k false = false → S w') ∧ wpAnyU P ops Q S k fuel (listed.setIfInBounds i true) a' w') a w
section
variable {P : Program} {ops : Array Oper} {Q : Exit → Act → World → Prop} {S : World → Prop} {k : Nat}
theorem wpAny_of_u : ∀ (fuel : Nat) (listed : Array Bool) (a : Act) (w : World), wpAnyU P ops Q S k fuel listed a w → wpAny P .any ops Q fuel listed a w
  | 0, _, _, _, h => h
  | fuel + 1, _, _, _, h => ⟨h.1, fun i hi => wpOp_mono (fun a' w' h' => wpAny_of_u fuel _ a' w' h'.2) (h.2 i hi)⟩
theorem getD_set_same_ne {l : Array Bool} {i j : Nat} (b : Bool) (h : i ≠ j) : (l.setIfInBounds i b).getD j false = l.getD j false := by
  simp [Array.getElem?_setIfInBounds, h]
theorem wpAnyU_first {i : Nat} {oi ok : Oper} {v : Value} (hi : ops[i]? = some oi) (hsel : ∀ (j : Nat) (o : Oper) cs b, ops[j]? = some o → o.op ≠ .select cs b)
    (hk : ops[k]? = some ok) (hki : k ≠ i) (hko : ok.after.any (fun e => Region.binds .any e && e.on == i) = true)
    (hQ : ∀ c a w, Q (.panic c) (a.put oi.dst v) w → Q (.panic c) a w) :
    ∀ (fuel : Nat) (listed : Array Bool) (a : Act) (w : World),
      (∀ j oj, ops[j]? = some oj → j ≠ i → listed.getD j true = false → (∀ e ∈ oj.after, Region.binds .any e = true → e.on ≠ i) → oi.apart ops oj = true) →
      i ∈ Region.ready .any ops listed → YieldsIf P ops S oi v a → S w → listed.getD k false = false →
      wpAnyU P ops Q S k fuel (listed.setIfInBounds i true) (a.put oi.dst v) w → wpAnyU P ops Q S k (fuel + 1) listed a w := by
  intro fuel
  induction fuel with
  | zero =>
    intro listed a w _ hr hy hS hun H
    refine ⟨fun h => (by rw [h] at hr; cases hr), fun j hj => ?_⟩
    by_cases hji : j = i
    · subst hji; exact hy.wpOp hi hS ⟨fun _ => hS, H⟩
    · have := ready_mono hj hji
      rw [H.1] at this
      cases this
  | succ fuel ih =>
    intro listed a w hfree hr hy hS hun H
    refine ⟨fun h => (by rw [h] at hr; cases hr), fun j hj => ?_⟩
    by_cases hji : j = i
    · subst hji; exact hy.wpOp hi hS ⟨fun _ => hS, H⟩
    · have h1 := H.2 j (ready_mono hj hji)
      obtain ⟨hjun, oj, hoj, hall⟩ := mem_ready.1 hj
      have hnot : ∀ e ∈ oj.after, Region.binds .any e = true → e.on ≠ i := fun e he hb heq => by
        have h1 := hall e he hb
        have h0 := (mem_ready.1 hr).1
        rw [heq] at h1
        rcases Nat.lt_or_ge i listed.size with h' | h'
        · simp [h'] at h0 h1; rw [h0] at h1; cases h1
        · simp [Array.getElem?_eq_none h'] at h1
      have hjk : j ≠ k := by
        rintro rfl
        rw [hoj] at hk
        obtain rfl : oj = ok := Option.some.inj hk
        obtain ⟨e, he, hb⟩ := Array.any_eq_true'.1 hko
        rw [Bool.and_eq_true] at hb
        exact hnot e he hb.1 (by simpa using hb.2)
      have h2 := wpOp_putIf hoj (hfree j oj hoj hji hjun hnot) (fun cs b => hsel i oi cs b hi) (fun cs b => hsel j oj cs b hoj) hQ hy h1
      have hfree' : ∀ k ok, ops[k]? = some ok → k ≠ i → (listed.setIfInBounds j true).getD k true = false →
          (∀ e ∈ ok.after, Region.binds .any e = true → e.on ≠ i) → oi.apart ops ok = true := fun k ok hk hki hun hno => by
        refine hfree k ok hk hki ?_ hno
        by_cases hjk : j = k
        · subst hjk; exact hjun
        · rw [getD_set_ne true hjk] at hun; exact hun
      have hun' : (listed.setIfInBounds j true).getD k false = false := by rw [getD_set_same_ne true hjk]; exact hun
      refine wpOp_mono (fun a' w' h3 => ?_) h2
      have hS' : S w' := h3.2.1 (by rw [getD_set_same_ne true hjk, getD_set_same_ne true (Ne.symm hki)]; exact hun)
      refine ⟨fun _ => hS', ih (listed.setIfInBounds j true) a' w' hfree' (ready_mono hr (Ne.symm hji)) h3.1 hS' hun' ?_⟩
      rw [Array.setIfInBounds_comm _ _ hji]
      exact h3.2.2
theorem u_take {fuel : Nat} {listed : Array Bool} {a : Act} {w : World} {l : List Oper} {o ok : Oper} (i : Nat) (v : Value) (hi : l[i]? = some o) (hs : Region.noSelect l.toArray = true) (hf : Region.free .any l.toArray listed i = true)
    (hr : (Region.ready .any l.toArray listed).contains i = true) (hk : l[k]? = some ok) (hki : (k == i) = false) (hko : ok.after.any (fun e => Region.binds .any e && e.on == i) = true) (hun : listed.getD k false = false)
    (hQ : ∀ c a w, Q (.panic c) (a.put o.dst v) w → Q (.panic c) a w) (hw : Region.wanted o (yielded l.toArray a.tmps) = true) (hS : S w) (hy : ∀ w, S w → (execOp a.eval o).run P w = .ok (.value v) w)
    (h : wpAnyU P l.toArray Q S k fuel (listed.setIfInBounds i true) (a.put o.dst v) w) : wpAnyU P l.toArray Q S k (fuel + 1) listed a w :=
  wpAnyU_first (show l.toArray[i]? = some o by simpa using hi) (Region.noSelect_spec hs) (show l.toArray[k]? = some ok by simpa using hk) (by simpa using hki) hko hQ fuel listed a w (Region.free_spec (show l.toArray[i]? = some o by simpa using hi) hf) (by simpa using hr) (.inl ⟨hw, hy⟩) hS hun h
theorem u_all {rs : List Nat} {fuel : Nat} {listed : Array Bool} {a : Act} {w : World} (hr : Region.ready .any ops listed = rs) (hne : rs ≠ [])
    (h : ∀ i ∈ rs, wpOp P ops Q i (fun a' w' => ((listed.setIfInBounds i true).getD k false = false → S w') ∧ wpAnyU P ops Q S k fuel (listed.setIfInBounds i true) a' w') a w) : wpAnyU P ops Q S k (fuel + 1) listed a w :=
  ⟨fun h0 => absurd (hr ▸ h0) hne, hr ▸ h⟩
theorem u_done {listed : Array Bool} {a : Act} {w : World} (hr : Region.ready .any ops listed = []) (h : Q .normal a w) :
    ∀ fuel, wpAnyU P ops Q S k fuel listed a w
  | 0 => ⟨hr, h⟩
  | _ + 1 => ⟨fun _ => h, by rw [hr]; simp⟩
theorem wp_region_u {id : Nat} {a : Act} {w : World} (S : World → Prop) (k : Nat) (hm : P.follows .mixedOrders = true)
    (h : wpAnyU P ops Q S k ops.size (Array.replicate ops.size false) a { w with drawn := w.drawn + 1 }) : (Code.region id ops true).wp P Q a w :=
  wp_region_any hm (wpAny_of_u _ _ _ _ h)
/-- One alone may come up: it yields a value, and what it leaves is said. -/
theorem u_next {fuel : Nat} {listed : Array Bool} {a : Act} {w : World} {l : List Oper} {o : Oper} (i : Nat) (p : Value → World → Prop) (hi : l[i]? = some o) (hr : Region.ready .any l.toArray listed = [i]) (hw : Region.wanted o (yielded l.toArray a.tmps) = true)
    (hy : YldG (fun _ _ => True) P o a w (.fact true p)) (h : ∀ u w', p u w' → ((listed.setIfInBounds i true).getD k false = false → S w') ∧ wpAnyU P l.toArray Q S k fuel (listed.setIfInBounds i true) (a.put o.dst u) w') : wpAnyU P l.toArray Q S k (fuel + 1) listed a w := by
  have hi' : l.toArray[i]? = some o := by simpa using hi
  refine u_all (rs := [i]) hr (by simp) (fun j hj => ?_)
  obtain rfl : j = i := by simpa using hj
  unfold wpOp
  simp only [hi', hw, if_true]
  exact .inl (hy.wp _ _ (fun u w' _ hp => h u w' hp))
/-- One alone may come up: its own law. -/
theorem u_next_wp {fuel : Nat} {listed : Array Bool} {a : Act} {w : World} {l : List Oper} {o : Oper} (i : Nat) (hi : l[i]? = some o) (hr : Region.ready .any l.toArray listed = [i]) (hw : Region.wanted o (yielded l.toArray a.tmps) = true)
    (h : Oper.wp P o a w (fun a' w' => ((listed.setIfInBounds i true).getD k false = false → S w') ∧ wpAnyU P l.toArray Q S k fuel (listed.setIfInBounds i true) a' w') Q) : wpAnyU P l.toArray Q S k (fuel + 1) listed a w := by
  have hi' : l.toArray[i]? = some o := by simpa using hi
  refine u_all (rs := [i]) hr (by simp) (fun j hj => ?_)
  obtain rfl : j = i := by simpa using hj
  unfold wpOp
  simp only [hi', hw, if_true]
  exact .inl h
theorem u_next_if {fuel : Nat} {listed : Array Bool} {a : Act} {w : World} {l : List Oper} {o : Oper} (i : Nat) (hi : l[i]? = some o) (hr : Region.ready .any l.toArray listed = [i]) (hw : Region.wanted o (yielded l.toArray a.tmps) = true)
    (h : if Region.wanted o (yielded l.toArray a.tmps) = true then Oper.wp P o a w (fun a' w' => ((listed.setIfInBounds i true).getD k false = false → S w') ∧ wpAnyU P l.toArray Q S k fuel (listed.setIfInBounds i true) a' w') Q
      else (((listed.setIfInBounds i true).getD k false = false → S w) ∧ wpAnyU P l.toArray Q S k fuel (listed.setIfInBounds i true) (a.put o.dst undef) w)) : wpAnyU P l.toArray Q S k (fuel + 1) listed a w :=
  u_next_wp i hi hr hw (by rw [if_pos hw] at h; exact h)
end
theorem YldG_val {P : Program} {o : Oper} {a : Act} {w : World} {v : Value} (h : Yld P o a w (.val v)) : YldG (fun _ _ => True) P o a w (.fact true (fun u w' => u = v ∧ Ext w w')) := by
  unfold Yld at h
  unfold YldG
  generalize (execOp a.eval o).run P w = r at *
  cases r with
  | halt x w' => exact h.elim
  | ok n w' =>
    cases n with
    | value u => exact ⟨trivial, h.2, h.1⟩
    | skip => exact ⟨trivial, h.2, h.1⟩
    | enter g args => exact h.mono fun e w2 ⟨u, h1, h2, h3⟩ => ⟨u, h1, trivial, h3, h2⟩
    | _ => exact h.elim
/-- The operation, run. -/
theorem YldG_run {P : Program} {o : Oper} {a : Act} {w w1 : World} {v : Value} (p : Value → World → Prop) (hr : (execOp a.eval o).run P w = .ok (.value v) w1) (hp : p v w1) : YldG (fun _ _ => True) P o a w (.fact true p) := by
  unfold YldG
  rw [hr]
  exact ⟨trivial, hp⟩
end Go.Proofs.Ythgdjgnbifakbaa.By

/- The summary that bytes are: batch.Get. -/
namespace Go.Proofs.Ythgdjgnbifakbaa.By
open Go.RowKit Go.Proofs.Ythgdjgnbifakbaa.Reg Go.Proofs.YthgdjgnbifakbaaW.PrintWords Go.Proofs.YthgdjgnbifakbaaW.PrintLast Go.Proofs.YthgdjgnbifakbaaW.PrintMore
set_option linter.unusedVariables false
set_option linter.unusedSimpArgs false

theorem Tch.cell_ {w w' : World} {lo hi : Nat} (h : Tch w w' lo hi) {a : Addr} {v : Value} (hc : w.cell? a = some v) (hn : ¬ (lo ≤ a.block ∧ a.block < hi)) : w'.cell? a = some v :=
  (World.cell?_of_block (h.block a.block (World.block_lt_of_cell? w a hc) hn)).trans hc
theorem wp_slice1 {P : Program} {o : Oper} {a : Act} {w : World} {K : Act → World → Prop} {Q : Exit → Act → World → Prop} (t e : TypeId) (x : Operand) (ho : o.op = .buildSlice t 1 #[(0, x)])
    (cells : Array Value) (hx : a.eval x = .agg cells) (ie : TypeInfo) (z : Value)
    (hu : P.underlying t = some (.slice e)) (hie : P.info? e = some ie) (hz : ie.zero = some z) (hsmall : ¬ 1 * ie.size > 2 ^ 24) (hpos : ¬ 1 * ie.size = 0)
    (hf : Instr.fill (fun i => some (i * ie.size, ie.size)) ((Array.range (1 * ie.size)).map (z.cells[· % z.cells.size]!)) [(0, .agg cells)] = some cells)
    (h : K (a.put o.dst (.slice (some ⟨w.heap.size, 0, none⟩) 1 1)) (w.alloc (.cells cells e))) : o.wp P a w K Q := by
  have h1 : ((#[(0, x)] : Array (Nat × Operand)).map fun (i, x) => (i, a.eval x)).toList = [(0, .agg cells)] := by simp [hx]
  exact wp_buildSlice (a := a) t e 1 #[(0, x)] ho cells ie z hu hie hz hsmall hpos (by rw [h1]; exact hf) h
theorem fill_th : ∀ (e : Th), e.2.2.2.length = 32 → Instr.fill (fun i => some (i * 35, 35)) ((Array.range (1 * 35)).map ((Value.agg #[Value.int .i64 0, Value.int .i64 0, Value.int .i64 0, Value.int .u8 0, Value.int .u8 0, Value.int .u8 0, Value.int .u8 0, Value.int .u8 0, Value.int .u8 0, Value.int .u8 0, Value.int .u8 0, Value.int .u8 0, Value.int .u8 0, Value.int .u8 0, Value.int .u8 0, Value.int .u8 0, Value.int .u8 0, Value.int .u8 0, Value.int .u8 0, Value.int .u8 0, Value.int .u8 0, Value.int .u8 0, Value.int .u8 0, Value.int .u8 0, Value.int .u8 0, Value.int .u8 0, Value.int .u8 0, Value.int .u8 0, Value.int .u8 0, Value.int .u8 0, Value.int .u8 0, Value.int .u8 0, Value.int .u8 0, Value.int .u8 0, Value.int .u8 0]).cells[· % (Value.agg #[Value.int .i64 0, Value.int .i64 0, Value.int .i64 0, Value.int .u8 0, Value.int .u8 0, Value.int .u8 0, Value.int .u8 0, Value.int .u8 0, Value.int .u8 0, Value.int .u8 0, Value.int .u8 0, Value.int .u8 0, Value.int .u8 0, Value.int .u8 0, Value.int .u8 0, Value.int .u8 0, Value.int .u8 0, Value.int .u8 0, Value.int .u8 0, Value.int .u8 0, Value.int .u8 0, Value.int .u8 0, Value.int .u8 0, Value.int .u8 0, Value.int .u8 0, Value.int .u8 0, Value.int .u8 0, Value.int .u8 0, Value.int .u8 0, Value.int .u8 0, Value.int .u8 0, Value.int .u8 0, Value.int .u8 0, Value.int .u8 0, Value.int .u8 0]).cells.size]!)) [(0, .agg (thC e).toArray)] = some (thC e).toArray
  | (_, _, _, [x0, x1, x2, x3, x4, x5, x6, x7, x8, x9, x10, x11, x12, x13, x14, x15, x16, x17, x18, x19, x20, x21, x22, x23, x24, x25, x26, x27, x28, x29, x30, x31]), _ => by kernel_rfl
theorem smy_set {w : World} {b : Nat} {st nx : Int} {pr : List Int} {V : Value} (h : Blk w b (smyC st pr nx V).toArray 58) (hp : pr.length = 32) (V1 : Value) : Blk (w.setCell ⟨b, 34, none⟩ V1) b (smyC st pr nx V1).toArray 58 := by
  have h1 := h.set 34 V1
  have : (smyC st pr nx V).toArray.setIfInBounds 34 V1 = (smyC st pr nx V1).toArray := by
    have hn : (nums .u8 pr).length = 32 := by rw [nums_length, hp]
    unfold smyC
    rw [List.setIfInBounds_toArray, List.set_cons_succ, List.set_append_right _ _ (by rw [hn]; decide), hn]
    rfl
  rw [this] at h1
  exact h1
theorem ext_below {w0 w w' : World} {B : Nat} (h : Ext w0 w) (k : Below B w w') (hB : w0.heap.size ≤ B) : Ext w0 w' := Below.trans h (k.mono hB)

set_option maxRecDepth 100000 in
set_option maxHeartbeats 32000000 in
theorem get_calls (w : World) (A : Option Addr) (c n : Nat) (bs : List Int) (hn : n = bs.length) (hr : Kd.C kb w A n bs) (hc : n ≤ c) (hB : isB bs) (hl : n ≤ 100000) :
    Calls Try.prog 51 #[.slice A n c] w fun e w' => ∃ V, e = .returned (.tuple #[smyV (oSt bs) (oPr bs) (oNx bs) V, .int .i64 (gE bs)]) ∧ EB w' w.heap.size V (oEs bs) ∧ Ext w w' := by
  have HK0 := Aside0.mk (Blk.new w #[Value.int .i64 0, Value.int .u8 0, Value.int .u8 0, Value.int .u8 0, Value.int .u8 0, Value.int .u8 0, Value.int .u8 0, Value.int .u8 0, Value.int .u8 0, Value.int .u8 0, Value.int .u8 0, Value.int .u8 0, Value.int .u8 0, Value.int .u8 0, Value.int .u8 0, Value.int .u8 0, Value.int .u8 0, Value.int .u8 0, Value.int .u8 0, Value.int .u8 0, Value.int .u8 0, Value.int .u8 0, Value.int .u8 0, Value.int .u8 0, Value.int .u8 0, Value.int .u8 0, Value.int .u8 0, Value.int .u8 0, Value.int .u8 0, Value.int .u8 0, Value.int .u8 0, Value.int .u8 0, Value.int .u8 0, Value.int .i64 0, Value.slice none 0 0] 58)
  have HE0 := Aside0.mk ((Ext.refl w).alloc (.cells #[Value.int .i64 0, Value.int .u8 0, Value.int .u8 0, Value.int .u8 0, Value.int .u8 0, Value.int .u8 0, Value.int .u8 0, Value.int .u8 0, Value.int .u8 0, Value.int .u8 0, Value.int .u8 0, Value.int .u8 0, Value.int .u8 0, Value.int .u8 0, Value.int .u8 0, Value.int .u8 0, Value.int .u8 0, Value.int .u8 0, Value.int .u8 0, Value.int .u8 0, Value.int .u8 0, Value.int .u8 0, Value.int .u8 0, Value.int .u8 0, Value.int .u8 0, Value.int .u8 0, Value.int .u8 0, Value.int .u8 0, Value.int .u8 0, Value.int .u8 0, Value.int .u8 0, Value.int .u8 0, Value.int .u8 0, Value.int .i64 0, Value.slice none 0 0] 58))
  have HR := Aside0.mk (Kd.C_below hr HE0.out)
  have HN := Aside0.mk hn
  have HLO := Aside0.mk (show w.heap.size < (w.alloc (.cells #[Value.int .i64 0, Value.int .u8 0, Value.int .u8 0, Value.int .u8 0, Value.int .u8 0, Value.int .u8 0, Value.int .u8 0, Value.int .u8 0, Value.int .u8 0, Value.int .u8 0, Value.int .u8 0, Value.int .u8 0, Value.int .u8 0, Value.int .u8 0, Value.int .u8 0, Value.int .u8 0, Value.int .u8 0, Value.int .u8 0, Value.int .u8 0, Value.int .u8 0, Value.int .u8 0, Value.int .u8 0, Value.int .u8 0, Value.int .u8 0, Value.int .u8 0, Value.int .u8 0, Value.int .u8 0, Value.int .u8 0, Value.int .u8 0, Value.int .u8 0, Value.int .u8 0, Value.int .u8 0, Value.int .u8 0, Value.int .i64 0, Value.slice none 0 0] 58)).heap.size by rw [size_alloc]; exact Nat.lt_succ_self _)
  have HGB := Aside0.mk (g_isB hB)
  have HBB := Aside0.mk (show isB ((bs, false) : RS).1 from hB)
  have HGO := Aside0.mk (g_ok hB)
  have HSB := Aside0.mk (fun i => tkEs_ok i (g4 bs).2 (g_isB hB).2.2.2)
  clear hr hn hB
  go_enter Try.func51, Try.ntmps51
  go_wp2_with fail
  refine (read_calls _ A c n bs HN.out HR.out hc (by omega)).mono ?_
  rintro e w1 ⟨b, rfl, hRd, hE1⟩
  have HX1 := Aside0.mk (HE0.out.trans hE1)
  have HK1 := Aside0.mk (HK0.out.ext hE1)
  have HLH := Aside0.mk (show (w.alloc (.cells #[Value.int .i64 0, Value.int .u8 0, Value.int .u8 0, Value.int .u8 0, Value.int .u8 0, Value.int .u8 0, Value.int .u8 0, Value.int .u8 0, Value.int .u8 0, Value.int .u8 0, Value.int .u8 0, Value.int .u8 0, Value.int .u8 0, Value.int .u8 0, Value.int .u8 0, Value.int .u8 0, Value.int .u8 0, Value.int .u8 0, Value.int .u8 0, Value.int .u8 0, Value.int .u8 0, Value.int .u8 0, Value.int .u8 0, Value.int .u8 0, Value.int .u8 0, Value.int .u8 0, Value.int .u8 0, Value.int .u8 0, Value.int .u8 0, Value.int .u8 0, Value.int .u8 0, Value.int .u8 0, Value.int .u8 0, Value.int .i64 0, Value.slice none 0 0] 58)).heap.size ≤ w1.heap.size from hE1.size)
  generalize (w.alloc (.cells #[Value.int .i64 0, Value.int .u8 0, Value.int .u8 0, Value.int .u8 0, Value.int .u8 0, Value.int .u8 0, Value.int .u8 0, Value.int .u8 0, Value.int .u8 0, Value.int .u8 0, Value.int .u8 0, Value.int .u8 0, Value.int .u8 0, Value.int .u8 0, Value.int .u8 0, Value.int .u8 0, Value.int .u8 0, Value.int .u8 0, Value.int .u8 0, Value.int .u8 0, Value.int .u8 0, Value.int .u8 0, Value.int .u8 0, Value.int .u8 0, Value.int .u8 0, Value.int .u8 0, Value.int .u8 0, Value.int .u8 0, Value.int .u8 0, Value.int .u8 0, Value.int .u8 0, Value.int .u8 0, Value.int .u8 0, Value.int .i64 0, Value.slice none 0 0] 58)).heap.size = lo at hRd HLO HLH
  obtain ⟨hi, hhi⟩ : ∃ hi, hi = w1.heap.size := ⟨_, rfl⟩
  rw [← hhi] at hRd HLH
  have HHI := Aside0.mk (Nat.le_of_eq hhi)
  have HRD := Aside0.mk (show Rd w1 lo hi b ((bs, false) : RS).1 ((bs, false) : RS).2 from hRd)
  clear hRd hE1 HK0 HE0 HR hhi
  go_wp2_with fail
  refine (tkint_calls w1 lo hi b (bs, false) HRD.out HBB.out).mono ?_
  rintro e w2 ⟨rfl, hR, hT⟩
  obtain ⟨a1, ha1⟩ : ∃ a1, a1 = (g1 bs).1 := ⟨_, rfl⟩
  rw [show (tkInt (bs, false)).1 = a1 from ha1.symm]
  have HA1 := Aside0.mk ha1
  have HRD2 := Aside0.mk (show Rd w2 lo hi b (g1 bs).2.1 (g1 bs).2.2 from hR)
  have HT2 := Aside0.mk hT
  clear hR hT ha1 HRD
  go_wp2_with fail
  refine (tksum_calls w2 lo hi b (g1 bs).2 HRD2.out HGB.out.1).mono ?_
  rintro e w3 ⟨rfl, hR, hT⟩
  obtain ⟨pr, hpr⟩ : ∃ pr, pr = (g2 bs).1 := ⟨_, rfl⟩
  rw [show (tkSum (g1 bs).2).1 = pr from hpr.symm]
  have HPR := Aside0.mk hpr
  have HRD3 := Aside0.mk (show Rd w3 lo hi b (g2 bs).2.1 (g2 bs).2.2 from hR)
  have HT3 := Aside0.mk (HT2.out.trans hT)
  have HPL := Aside0.mk (show pr.length = 32 by rw [hpr]; exact HGO.out.1)
  clear hR hT hpr HRD2 HT2
  go_wp2_with fail
  refine (tkint_calls w3 lo hi b (g2 bs).2 HRD3.out HGB.out.2.1).mono ?_
  rintro e w4 ⟨rfl, hR, hT⟩
  obtain ⟨a3, ha3⟩ : ∃ a3, a3 = (g3 bs).1 := ⟨_, rfl⟩
  rw [show (tkInt (g2 bs).2).1 = a3 from ha3.symm]
  have HA3 := Aside0.mk ha3
  have HRD4 := Aside0.mk (show Rd w4 lo hi b (g3 bs).2.1 (g3 bs).2.2 from hR)
  have HT4 := Aside0.mk (HT3.out.trans hT)
  have HX4 := Aside0.mk (HT4.out.ext HX1.out (Nat.le_of_lt HLO.out))
  have HK4 := Aside0.mk (HT4.out.blk HK1.out (by have := HLO.out; omega))
  have HH4 := Aside0.mk (show hi ≤ w4.heap.size from Nat.le_trans HHI.out HT4.out.size)
  have HIS := Aside0.mk (fun V => show (Try.prog.info? 58).map (·.size) = some (smyC a1 pr a3 V).length by rw [smyC_len HPL.out]; kernel_rfl)
  have HSS := Aside0.mk (fun V => show #[Value.int .i64 0, Value.int .u8 0, Value.int .u8 0, Value.int .u8 0, Value.int .u8 0, Value.int .u8 0, Value.int .u8 0, Value.int .u8 0, Value.int .u8 0, Value.int .u8 0, Value.int .u8 0, Value.int .u8 0, Value.int .u8 0, Value.int .u8 0, Value.int .u8 0, Value.int .u8 0, Value.int .u8 0, Value.int .u8 0, Value.int .u8 0, Value.int .u8 0, Value.int .u8 0, Value.int .u8 0, Value.int .u8 0, Value.int .u8 0, Value.int .u8 0, Value.int .u8 0, Value.int .u8 0, Value.int .u8 0, Value.int .u8 0, Value.int .u8 0, Value.int .u8 0, Value.int .u8 0, Value.int .u8 0, Value.int .i64 0, Value.slice none 0 0].size = (smyC a1 pr a3 V).length by rw [smyC_len HPL.out]; rfl)
  clear hR hT ha3 HRD3 HT3 HX1 HK1 HT4
  go_wp2_with (first | ((with_reducible refine gate_build (ty := 58) rfl ?_); refine build_at rfl 58 #[(0, .tmp 12), (1, .tmp 14), (2, .tmp 16)] rfl _ _ rfl (built_smy a1 a3 pr HPL.out) ?_) | ((with_reducible refine gate_store (ty := 58) rfl ?_); (refine store_at rfl 58 _ _ rfl w4.heap.size (smyC a1 pr a3 (.slice none 0 0)) rfl rfl #[Value.int .i64 0, Value.int .u8 0, Value.int .u8 0, Value.int .u8 0, Value.int .u8 0, Value.int .u8 0, Value.int .u8 0, Value.int .u8 0, Value.int .u8 0, Value.int .u8 0, Value.int .u8 0, Value.int .u8 0, Value.int .u8 0, Value.int .u8 0, Value.int .u8 0, Value.int .u8 0, Value.int .u8 0, Value.int .u8 0, Value.int .u8 0, Value.int .u8 0, Value.int .u8 0, Value.int .u8 0, Value.int .u8 0, Value.int .u8 0, Value.int .u8 0, Value.int .u8 0, Value.int .u8 0, Value.int .u8 0, Value.int .u8 0, Value.int .u8 0, Value.int .u8 0, Value.int .u8 0, Value.int .u8 0, Value.int .i64 0, Value.slice none 0 0] 58 (Blk.new w4 _ 58) (HSS.out _) (HIS.out _) (smyC_one _ _ _ _ _ _) ?_)) | fail)
  intro w5 hW5 hB5
  have hx5 := hW5.ext ((Ext.refl w4).alloc _) (Nat.le_refl _)
  have HX5 := Aside0.mk (HX4.out.trans hx5)
  have HK5 := Aside0.mk (HK4.out.ext hx5)
  have HRD5 := Aside0.mk (HRD4.out.ext hx5)
  have HB5 := Aside0.mk hB5
  have HH5 := Aside0.mk (show hi ≤ w5.heap.size from Nat.le_trans HH4.out hx5.size)
  have HBX := Aside0.mk (show w.heap.size < w4.heap.size from Nat.lt_of_lt_of_le HLO.out (Nat.le_trans HLH.out HH4.out))
  clear hW5 hB5 hx5 HX4 HK4 HRD4
  generalize w4.heap.size = b5 at HB5 HH4 HBX ⊢
  go_wp2_with fail
  refine (tkint_calls w5 lo hi b (g3 bs).2 HRD5.out HGB.out.2.2.1).mono ?_
  rintro e w6 ⟨rfl, hR, hT⟩
  obtain ⟨a4, ha4⟩ : ∃ a4, a4 = (g4 bs).1 := ⟨_, rfl⟩
  rw [show (tkInt (g3 bs).2).1 = a4 from ha4.symm]
  have HA4 := Aside0.mk ha4
  have HRD6 := Aside0.mk (show Rd w6 lo hi b (g4 bs).2.1 (g4 bs).2.2 from hR)
  have HX6 := Aside0.mk (hT.ext HX5.out (Nat.le_of_lt HLO.out))
  have HK6 := Aside0.mk (hT.blk HK5.out (by have := HLO.out; omega))
  have HB6 := Aside0.mk (hT.blk HB5.out (by have := HH4.out; omega))
  have HH6 := Aside0.mk (show hi ≤ w6.heap.size from Nat.le_trans HH5.out hT.size)
  have hr4 : -9223372036854775808 ≤ a4 ∧ a4 ≤ 9223372036854775807 := by rw [ha4]; exact tkInt_r _
  obtain ⟨r40, r41⟩ := hr4
  obtain ⟨lf, hlf⟩ : ∃ lf, lf = leftI (g4 bs).2.1 (g4 bs).2.2 := ⟨_, rfl⟩
  have HLF := Aside0.mk hlf
  have hlf0 : 0 ≤ lf := by rw [hlf]; unfold leftI; split <;> omega
  have hlf1 : lf ≤ 100000 := by
    have h := g4_len bs
    rw [hlf]; unfold leftI; have := HN.out; split <;> omega
  have HGF := Aside0.mk (show gForm bs = (decide (a4 < 0) || decide (lf / 8 < a4)) by unfold gForm; rw [← ha4, ← hlf])
  clear hR hT ha4 hlf HX5 HK5 HRD5 HB5 HH5
  by_cases hneg : a4 < 0
  · skip
    have HNEG := Aside0.mk hneg
    have HIZ := Aside0.mk (show (Try.prog.info? 58).map (·.size) = some (smyC 0 zero32 0 (.slice none 0 0)).length by kernel_rfl)
    have HZS := Aside0.mk (show #[Value.int .i64 0, Value.int .u8 0, Value.int .u8 0, Value.int .u8 0, Value.int .u8 0, Value.int .u8 0, Value.int .u8 0, Value.int .u8 0, Value.int .u8 0, Value.int .u8 0, Value.int .u8 0, Value.int .u8 0, Value.int .u8 0, Value.int .u8 0, Value.int .u8 0, Value.int .u8 0, Value.int .u8 0, Value.int .u8 0, Value.int .u8 0, Value.int .u8 0, Value.int .u8 0, Value.int .u8 0, Value.int .u8 0, Value.int .u8 0, Value.int .u8 0, Value.int .u8 0, Value.int .u8 0, Value.int .u8 0, Value.int .u8 0, Value.int .u8 0, Value.int .u8 0, Value.int .u8 0, Value.int .u8 0, Value.int .i64 0, Value.slice none 0 0].size = (smyC 0 zero32 0 (.slice none 0 0)).length by rfl)
    have HG := Aside0.mk (show gE bs = 4 by unfold gE; rw [if_pos (by rw [HGF.out, decide_eq_true HNEG.out]; rfl)])
    have HO := Aside0.mk (show oSt bs = 0 ∧ oPr bs = zero32 ∧ oNx bs = 0 ∧ oEs bs = [] by
      have h : ¬ gE bs = 0 := by rw [HG.out]; decide
      unfold oSt oPr oNx oEs; rw [if_neg h, if_neg h, if_neg h, if_neg h]; exact ⟨rfl, rfl, rfl, rfl⟩)
    go_wp2_with (first | ((with_reducible refine gate_build (ty := 58) rfl ?_); refine build_at rfl 58 #[] rfl _ [] rfl built_smy0 ?_) | ((with_reducible refine gate_store (ty := 58) rfl ?_); (refine store_at rfl 58 _ _ rfl w.heap.size (smyC 0 zero32 0 (.slice none 0 0)) rfl rfl #[Value.int .i64 0, Value.int .u8 0, Value.int .u8 0, Value.int .u8 0, Value.int .u8 0, Value.int .u8 0, Value.int .u8 0, Value.int .u8 0, Value.int .u8 0, Value.int .u8 0, Value.int .u8 0, Value.int .u8 0, Value.int .u8 0, Value.int .u8 0, Value.int .u8 0, Value.int .u8 0, Value.int .u8 0, Value.int .u8 0, Value.int .u8 0, Value.int .u8 0, Value.int .u8 0, Value.int .u8 0, Value.int .u8 0, Value.int .u8 0, Value.int .u8 0, Value.int .u8 0, Value.int .u8 0, Value.int .u8 0, Value.int .u8 0, Value.int .u8 0, Value.int .u8 0, Value.int .u8 0, Value.int .u8 0, Value.int .i64 0, Value.slice none 0 0] 58 HK6.out HZS.out HIZ.out (smyC_one _ _ _ _ _ _) ?_)) | fail)
    intro wf hWf hBf
    have HEF := Aside0.mk (hWf.ext HX6.out (Nat.le_refl _))
    have HBf := Aside0.mk hBf
    clear hWf hBf
    go_wp2_with fail
    (try simp only [Exit.inBlock, Exit.then])
    refine bodyPost_ret (results_ct rfl _ _ w.heap.size 58 (smyC 0 zero32 0 (.slice none 0 0)).toArray (0, 0) _ rfl HBf.out.is Try.underlying58 rfl (by kernel_rfl)) rfl ?_
    exact ⟨.slice none 0 0, by rw [HO.out.1, HO.out.2.1, HO.out.2.2.1, HG.out]; rfl, by rw [HO.out.2.2.2]; exact EB.nil _ _, HEF.out⟩
  have HNG := Aside0.mk hneg
  have hneg' : 0 ≤ a4 := by omega
  by_cases hbig : lf / 8 < a4
  · skip
    have HBIG := Aside0.mk hbig
    have hbig' : (lf / 8 < a4) = True := eq_true hbig
    clear hbig hneg
    go_wp2_with fail
    refine (left_calls w6 lo hi b (g4 bs).2.1 (g4 bs).2.2 HRD6.out).mono ?_
    rintro e w7 ⟨rfl, hE7⟩
    rw [← HLF.out]
    have HX7 := Aside0.mk (HX6.out.trans hE7)
    have HK7 := Aside0.mk (HK6.out.ext hE7)
    clear hE7
    have HIZ := Aside0.mk (show (Try.prog.info? 58).map (·.size) = some (smyC 0 zero32 0 (.slice none 0 0)).length by kernel_rfl)
    have HZS := Aside0.mk (show #[Value.int .i64 0, Value.int .u8 0, Value.int .u8 0, Value.int .u8 0, Value.int .u8 0, Value.int .u8 0, Value.int .u8 0, Value.int .u8 0, Value.int .u8 0, Value.int .u8 0, Value.int .u8 0, Value.int .u8 0, Value.int .u8 0, Value.int .u8 0, Value.int .u8 0, Value.int .u8 0, Value.int .u8 0, Value.int .u8 0, Value.int .u8 0, Value.int .u8 0, Value.int .u8 0, Value.int .u8 0, Value.int .u8 0, Value.int .u8 0, Value.int .u8 0, Value.int .u8 0, Value.int .u8 0, Value.int .u8 0, Value.int .u8 0, Value.int .u8 0, Value.int .u8 0, Value.int .u8 0, Value.int .u8 0, Value.int .i64 0, Value.slice none 0 0].size = (smyC 0 zero32 0 (.slice none 0 0)).length by rfl)
    have HG := Aside0.mk (show gE bs = 4 by unfold gE; rw [if_pos (by rw [HGF.out, decide_eq_true HBIG.out, Bool.or_true])])
    have HO := Aside0.mk (show oSt bs = 0 ∧ oPr bs = zero32 ∧ oNx bs = 0 ∧ oEs bs = [] by
      have h : ¬ gE bs = 0 := by rw [HG.out]; decide
      unfold oSt oPr oNx oEs; rw [if_neg h, if_neg h, if_neg h, if_neg h]; exact ⟨rfl, rfl, rfl, rfl⟩)
    go_wp2_with (first | ((with_reducible refine gate_build (ty := 58) rfl ?_); refine build_at rfl 58 #[] rfl _ [] rfl built_smy0 ?_) | ((with_reducible refine gate_store (ty := 58) rfl ?_); (refine store_at rfl 58 _ _ rfl w.heap.size (smyC 0 zero32 0 (.slice none 0 0)) rfl rfl #[Value.int .i64 0, Value.int .u8 0, Value.int .u8 0, Value.int .u8 0, Value.int .u8 0, Value.int .u8 0, Value.int .u8 0, Value.int .u8 0, Value.int .u8 0, Value.int .u8 0, Value.int .u8 0, Value.int .u8 0, Value.int .u8 0, Value.int .u8 0, Value.int .u8 0, Value.int .u8 0, Value.int .u8 0, Value.int .u8 0, Value.int .u8 0, Value.int .u8 0, Value.int .u8 0, Value.int .u8 0, Value.int .u8 0, Value.int .u8 0, Value.int .u8 0, Value.int .u8 0, Value.int .u8 0, Value.int .u8 0, Value.int .u8 0, Value.int .u8 0, Value.int .u8 0, Value.int .u8 0, Value.int .u8 0, Value.int .i64 0, Value.slice none 0 0] 58 HK7.out HZS.out HIZ.out (smyC_one _ _ _ _ _ _) ?_)) | fail)
    intro wf hWf hBf
    have HEF := Aside0.mk (hWf.ext HX7.out (Nat.le_refl _))
    have HBf := Aside0.mk hBf
    clear hWf hBf
    go_wp2_with fail
    (try simp only [Exit.inBlock, Exit.then])
    refine bodyPost_ret (results_ct rfl _ _ w.heap.size 58 (smyC 0 zero32 0 (.slice none 0 0)).toArray (0, 0) _ rfl HBf.out.is Try.underlying58 rfl (by kernel_rfl)) rfl ?_
    exact ⟨.slice none 0 0, by rw [HO.out.1, HO.out.2.1, HO.out.2.2.1, HG.out]; rfl, by rw [HO.out.2.2.2]; exact EB.nil _ _, HEF.out⟩
  have HGF0 := Aside0.mk (show gForm bs = false by rw [HGF.out, decide_eq_false hneg, decide_eq_false hbig]; rfl)
  have hbig' : a4 ≤ lf / 8 := by omega
  have hbig'' : (lf / 8 < a4) = False := eq_false hbig
  clear hneg hbig
  go_wp2_with fail
  refine (left_calls w6 lo hi b (g4 bs).2.1 (g4 bs).2.2 HRD6.out).mono ?_
  rintro e w7 ⟨rfl, hE7⟩
  rw [← HLF.out]
  have HRD7 := Aside0.mk (show Rd w7 lo hi b (tkEs 0 (g4 bs).2).2.1 (tkEs 0 (g4 bs).2).2.2 from HRD6.out.ext hE7)
  have HX7 := Aside0.mk (HX6.out.trans hE7)
  have HK7 := Aside0.mk (HK6.out.ext hE7)
  have HB7 := Aside0.mk (HB6.out.ext hE7)
  have HV7 := Aside0.mk (show EB w7 (b5 + 1) (.slice none 0 0) (tkEs 0 (g4 bs).2).1 from EB.nil w7 (b5 + 1))
  have HH7 := Aside0.mk (show hi ≤ w7.heap.size from Nat.le_trans HH6.out hE7.size)
  clear hE7 HRD6 HX6 HK6 HB6 HH6
  go_wp2_with fail
  go_loopw [7] (fun v wr => ∃ i : Nat, v = .int .i64 i ∧ Aside0 ((i : Int) ≤ a4) ∧ Aside0 (Rd wr lo hi b (tkEs i (g4 bs).2).2.1 (tkEs i (g4 bs).2).2.2) ∧ (∃ V, Aside0 (Blk wr b5 (smyC a1 pr a3 V).toArray 58) ∧ Aside0 (EB wr (b5 + 1) V (tkEs i (g4 bs).2).1)) ∧ Aside0 (Blk wr w.heap.size #[Value.int .i64 0, Value.int .u8 0, Value.int .u8 0, Value.int .u8 0, Value.int .u8 0, Value.int .u8 0, Value.int .u8 0, Value.int .u8 0, Value.int .u8 0, Value.int .u8 0, Value.int .u8 0, Value.int .u8 0, Value.int .u8 0, Value.int .u8 0, Value.int .u8 0, Value.int .u8 0, Value.int .u8 0, Value.int .u8 0, Value.int .u8 0, Value.int .u8 0, Value.int .u8 0, Value.int .u8 0, Value.int .u8 0, Value.int .u8 0, Value.int .u8 0, Value.int .u8 0, Value.int .u8 0, Value.int .u8 0, Value.int .u8 0, Value.int .u8 0, Value.int .u8 0, Value.int .u8 0, Value.int .u8 0, Value.int .i64 0, Value.slice none 0 0] 58) ∧ Aside0 (Ext w wr) ∧ Aside0 (hi ≤ wr.heap.size)) (fun v _ => a4.toNat - (intOf v).toNat)
  case atStart => exact ⟨0, rfl, ⟨hneg'⟩, HRD7, ⟨_, HB7, HV7⟩, HK7, HX7, HH7⟩
  case round =>
    clear HRD7 HB7 HV7 HK7 HX7 HH7
    obtain ⟨i, rfl, HI, HRD, ⟨V, HB, HV⟩, HK, HX, HH⟩ := hrel
    have hia := HI.out
    obtain ⟨wx, hwx⟩ : ∃ wx : World, wx = wr := ⟨_, rfl⟩
    subst hwx
    by_cases hlt : (i : Int) < a4
    · have HLT := Aside0.mk hlt
      obtain ⟨bad, hbad⟩ : ∃ bad, bad = (tkEs i (g4 bs).2).2.2 := ⟨_, rfl⟩
      have HBAD := Aside0.mk hbad
      have HBC := Aside0.mk (bad_calls wx lo hi b _ _ HRD.out)
      rw [← hbad] at HBC
      clear hbad
      go_wp2_with fail
      refine HBC.out.mono ?_
      rintro e w8 ⟨rfl, hE8⟩
      have HRD8 := Aside0.mk (HRD.out.ext hE8)
      have HB8 := Aside0.mk (HB.out.ext hE8)
      have HV8 := Aside0.mk (HV.out.ext hE8)
      have HK8 := Aside0.mk (HK.out.ext hE8)
      have HX8 := Aside0.mk (HX.out.trans hE8)
      have HH8 := Aside0.mk (Nat.le_trans HH.out hE8.size)
      clear hE8 HBC HRD HB HV HK HX HH
      cases bad
      · skip
        have HV9 := Aside0.mk (HV8.out.ext (Ext.refl w8).drew)
        have HB9 := Aside0.mk (HB8.out.drew)
        have c34 : w8.drew.cell? ⟨b5, 34, none⟩ = some V := (smyBlk HB8.out HPL.out).2.2.2
        have c0 := Aside0.mk c34
        obtain ⟨s, hs⟩ : ∃ s, s = (tkEs i (g4 bs).2).2 := ⟨_, rfl⟩
        have HS := Aside0.mk hs
        have HIB := Aside0.mk (show isB s.1 by rw [hs]; exact (HSB.out i).2.2)
        have HRD := Aside0.mk (show Rd w8.drew lo hi b s.1 s.2 by rw [hs]; exact HRD8.out.ext (Ext.refl w8).drew)
        have HT := Aside0.mk (Tch.of_ext (Ext.refl w8.drew) lo hi)
        have HHB := Aside0.mk (show ¬ (lo ≤ b5 ∧ b5 < hi) by have := HH4.out; omega)
        have HTK := Aside0.mk (tkE_ok HIB.out)
        have HIN : Aside0 ((Try.prog.info? 73).map (fun i => (i.zero, i.size, i.bytes)) = some (some (.agg #[Value.int .i64 0, Value.int .i64 0, Value.int .i64 0, Value.int .u8 0, Value.int .u8 0, Value.int .u8 0, Value.int .u8 0, Value.int .u8 0, Value.int .u8 0, Value.int .u8 0, Value.int .u8 0, Value.int .u8 0, Value.int .u8 0, Value.int .u8 0, Value.int .u8 0, Value.int .u8 0, Value.int .u8 0, Value.int .u8 0, Value.int .u8 0, Value.int .u8 0, Value.int .u8 0, Value.int .u8 0, Value.int .u8 0, Value.int .u8 0, Value.int .u8 0, Value.int .u8 0, Value.int .u8 0, Value.int .u8 0, Value.int .u8 0, Value.int .u8 0, Value.int .u8 0, Value.int .u8 0, Value.int .u8 0, Value.int .u8 0, Value.int .u8 0]), 35, 56)) := ⟨by kernel_rfl⟩
        have HBU := Aside0.mk (built_th (tkInt s).1 (tkInt (tkInt s).2).1 (tkInt (tkInt (tkInt s).2).2).1 (tkSum (tkInt (tkInt (tkInt s).2).2).2).1 (tkSum_ok (tkInt_isB (tkInt_isB (tkInt_isB HIB.out)))).1)
        clear hs HRD8
        go_wp2_with fail
        refine wp_region_u (fun w' => w'.cell? ⟨b5, 34, none⟩ = some V) 14 (by kernel_rfl) ?_
        show wpAnyU _ _ _ _ 14 15 (Array.replicate 15 false) _ w8.drew
        refine u_take 0 _ rfl (by kernel_rfl) (by kernel_rfl) (by kernel_rfl) rfl rfl (by kernel_rfl) rfl (fun _ _ _ h => h) (by rfl) c34 (fun w' hc => by (try dsimp only at hc); (go_simp <;> rfl)) ?_
        (try simp only [Act.put, List.setIfInBounds_toArray, List.set_cons_zero, List.set_cons_succ])
        refine u_take 1 _ rfl (by kernel_rfl) (by kernel_rfl) (by kernel_rfl) rfl rfl (by kernel_rfl) rfl (fun _ _ _ h => h) (by rfl) c34 (fun w' hc => by (try dsimp only at hc); (go_simp <;> rfl)) ?_
        (try simp only [Act.put, List.setIfInBounds_toArray, List.set_cons_zero, List.set_cons_succ])
        refine u_take 2 _ rfl (by kernel_rfl) (by kernel_rfl) (by kernel_rfl) rfl rfl (by kernel_rfl) rfl (fun _ _ _ h => h) (by rfl) c34 (fun w' hc => by (try dsimp only at hc); (go_simp <;> rfl)) ?_
        (try simp only [Act.put, List.setIfInBounds_toArray, List.set_cons_zero, List.set_cons_succ])
        refine u_take 4 _ rfl (by kernel_rfl) (by kernel_rfl) (by kernel_rfl) rfl rfl (by kernel_rfl) rfl (fun _ _ _ h => h) (by rfl) c34 (fun w' hc => by (try dsimp only at hc); (go_simp <;> rfl)) ?_
        (try simp only [Act.put, List.setIfInBounds_toArray, List.set_cons_zero, List.set_cons_succ])
        refine u_take 6 _ rfl (by kernel_rfl) (by kernel_rfl) (by kernel_rfl) rfl rfl (by kernel_rfl) rfl (fun _ _ _ h => h) (by rfl) c34 (fun w' hc => by (try dsimp only at hc); (go_simp <;> rfl)) ?_
        (try simp only [Act.put, List.setIfInBounds_toArray, List.set_cons_zero, List.set_cons_succ])
        refine u_take 8 _ rfl (by kernel_rfl) (by kernel_rfl) (by kernel_rfl) rfl rfl (by kernel_rfl) rfl (fun _ _ _ h => h) (by rfl) c34 (fun w' hc => by (try dsimp only at hc); (go_simp <;> rfl)) ?_
        (try simp only [Act.put, List.setIfInBounds_toArray, List.set_cons_zero, List.set_cons_succ])
        refine u_next 3 (fun u w2 => u = .int .i64 (tkInt s).1 ∧ Rd w2 lo hi b (tkInt s).2.1 (tkInt s).2.2 ∧ Tch w8.drew w2 lo hi) rfl (by kernel_rfl) (by rfl) (by unfold YldG; go_simp; exact (tkint_calls _ lo hi b _ HRD.out HIB.out).mono fun e w2 h => ⟨_, h.1, trivial, rfl, h.2.1, HT.out.trans h.2.2⟩) ?_
        rintro _ wn ⟨rfl, hR, hT⟩
        refine ⟨fun _ => hT.cell_ c0.out HHB.out, ?_⟩
        (try simp only [Act.put, List.setIfInBounds_toArray, List.set_cons_zero, List.set_cons_succ])
        have c34 := hT.cell_ c0.out HHB.out
        replace HRD := Aside0.mk hR
        replace HIB := Aside0.mk (tkInt_isB HIB.out)
        replace HT := Aside0.mk hT
        clear hR hT
        refine u_next 5 (fun u w2 => u = .int .i64 (tkInt (tkInt s).2).1 ∧ Rd w2 lo hi b (tkInt (tkInt s).2).2.1 (tkInt (tkInt s).2).2.2 ∧ Tch w8.drew w2 lo hi) rfl (by kernel_rfl) (by rfl) (by unfold YldG; go_simp; exact (tkint_calls _ lo hi b _ HRD.out HIB.out).mono fun e w2 h => ⟨_, h.1, trivial, rfl, h.2.1, HT.out.trans h.2.2⟩) ?_
        rintro _ wn ⟨rfl, hR, hT⟩
        refine ⟨fun _ => hT.cell_ c0.out HHB.out, ?_⟩
        (try simp only [Act.put, List.setIfInBounds_toArray, List.set_cons_zero, List.set_cons_succ])
        have c34 := hT.cell_ c0.out HHB.out
        replace HRD := Aside0.mk hR
        replace HIB := Aside0.mk (tkInt_isB HIB.out)
        replace HT := Aside0.mk hT
        clear hR hT
        refine u_next 7 (fun u w2 => u = .int .i64 (tkInt (tkInt (tkInt s).2).2).1 ∧ Rd w2 lo hi b (tkInt (tkInt (tkInt s).2).2).2.1 (tkInt (tkInt (tkInt s).2).2).2.2 ∧ Tch w8.drew w2 lo hi) rfl (by kernel_rfl) (by rfl) (by unfold YldG; go_simp; exact (tkint_calls _ lo hi b _ HRD.out HIB.out).mono fun e w2 h => ⟨_, h.1, trivial, rfl, h.2.1, HT.out.trans h.2.2⟩) ?_
        rintro _ wn ⟨rfl, hR, hT⟩
        refine ⟨fun _ => hT.cell_ c0.out HHB.out, ?_⟩
        (try simp only [Act.put, List.setIfInBounds_toArray, List.set_cons_zero, List.set_cons_succ])
        have c34 := hT.cell_ c0.out HHB.out
        replace HRD := Aside0.mk hR
        replace HIB := Aside0.mk (tkInt_isB HIB.out)
        replace HT := Aside0.mk hT
        clear hR hT
        refine u_next 9 (fun u w2 => u = sumV (tkSum (tkInt (tkInt (tkInt s).2).2).2).1 ∧ Rd w2 lo hi b (tkSum (tkInt (tkInt (tkInt s).2).2).2).2.1 (tkSum (tkInt (tkInt (tkInt s).2).2).2).2.2 ∧ Tch w8.drew w2 lo hi) rfl (by kernel_rfl) (by rfl) (by unfold YldG; go_simp; exact (tksum_calls _ lo hi b _ HRD.out HIB.out).mono fun e w2 h => ⟨_, h.1, trivial, rfl, h.2.1, HT.out.trans h.2.2⟩) ?_
        rintro _ wn ⟨rfl, hR, hT⟩
        refine ⟨fun _ => hT.cell_ c0.out HHB.out, ?_⟩
        (try simp only [Act.put, List.setIfInBounds_toArray, List.set_cons_zero, List.set_cons_succ])
        have c34 := hT.cell_ c0.out HHB.out
        replace HRD := Aside0.mk hR
        replace HIB := Aside0.mk (tkSum_isB HIB.out)
        replace HT := Aside0.mk hT
        clear hR hT
        refine u_next 10 (fun u w2 => u = .agg (thC (tkE s).1).toArray ∧ Ext wn w2) rfl (by kernel_rfl) (by rfl) (by exact YldG_val (Yld_build 73 #[(0, .tmp 43), (1, .tmp 45), (2, .tmp 47), (3, .tmp 49)] rfl (thC (tkE s).1).toArray [(0, .int .i64 (tkInt s).1), (1, .int .i64 (tkInt (tkInt s).2).1), (2, .int .i64 (tkInt (tkInt (tkInt s).2).2).1), (3, sumV (tkSum (tkInt (tkInt (tkInt s).2).2).2).1)] rfl HBU.out)) ?_
        rintro _ wb ⟨rfl, hE⟩
        refine ⟨fun _ => Ext.cell hE c34, ?_⟩
        (try simp only [Act.put, List.setIfInBounds_toArray, List.set_cons_zero, List.set_cons_succ])

        have HVb := Aside0.mk (show EB wb (b5 + 1) V (tkEs i (g4 bs).2).1 from (HV9.out.tch HT.out (by have := HH4.out; omega)).ext hE)
        have HBb := Aside0.mk ((HT.out.blk HB9.out HHB.out).ext hE)
        have HKb := Aside0.mk ((HT.out.blk HK8.out.drew (by have := HLO.out; omega)).ext hE)
        have HRb := Aside0.mk (HRD.out.ext hE)
        have HXb := Aside0.mk ((HT.out.ext HX8.out.drew (Nat.le_of_lt HLO.out)).trans hE)
        have cb := Ext.cell hE c34
        have HL1 := Aside0.mk (show ((tkEs i (g4 bs).2).1.length + 1) * 56 ≤ 140737488355328 by rw [(HSB.out i).1]; omega)
        have HTO := Aside0.mk (show (tkE s).1.2.2.2.length = 32 from HTK.out.1.2.2.2.1)
        clear hE HRD HIB HT HV9 HB9 HV8 HB8 HK8 HX8
        refine u_next_wp 11 rfl (by kernel_rfl) (by rfl) ?_
        obtain ⟨ie, hie, hx⟩ := Option.map_eq_some_iff.1 HIN.out
        have hz : ie.zero = some (.agg #[Value.int .i64 0, Value.int .i64 0, Value.int .i64 0, Value.int .u8 0, Value.int .u8 0, Value.int .u8 0, Value.int .u8 0, Value.int .u8 0, Value.int .u8 0, Value.int .u8 0, Value.int .u8 0, Value.int .u8 0, Value.int .u8 0, Value.int .u8 0, Value.int .u8 0, Value.int .u8 0, Value.int .u8 0, Value.int .u8 0, Value.int .u8 0, Value.int .u8 0, Value.int .u8 0, Value.int .u8 0, Value.int .u8 0, Value.int .u8 0, Value.int .u8 0, Value.int .u8 0, Value.int .u8 0, Value.int .u8 0, Value.int .u8 0, Value.int .u8 0, Value.int .u8 0, Value.int .u8 0, Value.int .u8 0, Value.int .u8 0, Value.int .u8 0]) := congrArg (·.1) hx
        have hsz : ie.size = 35 := congrArg (·.2.1) hx
        refine wp_slice1 56 73 (.tmp 50) rfl (thC (tkE s).1).toArray rfl ie (.agg #[Value.int .i64 0, Value.int .i64 0, Value.int .i64 0, Value.int .u8 0, Value.int .u8 0, Value.int .u8 0, Value.int .u8 0, Value.int .u8 0, Value.int .u8 0, Value.int .u8 0, Value.int .u8 0, Value.int .u8 0, Value.int .u8 0, Value.int .u8 0, Value.int .u8 0, Value.int .u8 0, Value.int .u8 0, Value.int .u8 0, Value.int .u8 0, Value.int .u8 0, Value.int .u8 0, Value.int .u8 0, Value.int .u8 0, Value.int .u8 0, Value.int .u8 0, Value.int .u8 0, Value.int .u8 0, Value.int .u8 0, Value.int .u8 0, Value.int .u8 0, Value.int .u8 0, Value.int .u8 0, Value.int .u8 0, Value.int .u8 0, Value.int .u8 0]) Try.underlying56 hie hz (by rw [hsz]; decide) (by rw [hsz]; decide) (by rw [hsz]; exact fill_th (tkE s).1 HTO.out) ?_
        clear hie hx hz hsz
        refine ⟨fun _ => Ext.cell ((Ext.refl wb).alloc _) cb, ?_⟩
        (try simp only [Act.put, List.setIfInBounds_toArray, List.set_cons_zero, List.set_cons_succ])
        refine u_next_if 12 rfl (by kernel_rfl) (by rfl) ?_
        refine Kd.R_append_step kTh (w0 := wb) (b5 + 1) (by rfl) (.tmp 41) (.tmp 51) 56 73 (.agg #[Value.int .i64 0, Value.int .i64 0, Value.int .i64 0, Value.int .u8 0, Value.int .u8 0, Value.int .u8 0, Value.int .u8 0, Value.int .u8 0, Value.int .u8 0, Value.int .u8 0, Value.int .u8 0, Value.int .u8 0, Value.int .u8 0, Value.int .u8 0, Value.int .u8 0, Value.int .u8 0, Value.int .u8 0, Value.int .u8 0, Value.int .u8 0, Value.int .u8 0, Value.int .u8 0, Value.int .u8 0, Value.int .u8 0, Value.int .u8 0, Value.int .u8 0, Value.int .u8 0, Value.int .u8 0, Value.int .u8 0, Value.int .u8 0, Value.int .u8 0, Value.int .u8 0, Value.int .u8 0, Value.int .u8 0, Value.int .u8 0, Value.int .u8 0]) 56 rfl Try.underlying56 HIN.out rfl (by decide) (by decide) V (tkEs i (g4 bs).2).1 (tkE s).1 (thC (tkE s).1) (fun _ => True) (fun _ => False) rfl rfl (th_cells_of (tkE s).1 HTO.out wb wb (b5 + 1) (fun _ => False)) (fun _ hk => hk.elim) (fun _ _ => trivial) HVb.out (Below.refl _ _) HBb.out.lt HL1.out ?_
        intro V1 wa hR hBl _ _
        obtain ⟨A1, C1, hV1, _, _⟩ := EB.reads hR
        obtain ⟨N1, hN1⟩ : ∃ N1, N1 = ((tkEs i (g4 bs).2).1 ++ [(tkE s).1]).length := ⟨_, rfl⟩
        rw [← hN1] at hV1
        subst hV1
        clear hN1
        have HVa := Aside0.mk (show EB wa (b5 + 1) (.slice A1 N1 C1) (tkEs (i + 1) (g4 bs).2).1 by unfold tkEs; rw [← HS.out]; exact hR)
        have HBa := Aside0.mk (HBb.out.below (Nat.lt_succ_self _) hBl)
        have HKa := Aside0.mk (HKb.out.below (Nat.lt_succ_of_lt HBX.out) hBl)
        have HRa := Aside0.mk (show Rd wa lo hi b (tkEs (i + 1) (g4 bs).2).2.1 (tkEs (i + 1) (g4 bs).2).2.2 by unfold tkEs; rw [← HS.out]; exact HRb.out.blw (hBl.mono (by have := HH4.out; omega)))
        have HXa := Aside0.mk (ext_below HXb.out hBl (by have := HBX.out; omega))
        have HHa := Aside0.mk (show hi ≤ wa.heap.size by have := HBa.out.lt; have := HH4.out; omega)
        refine ⟨fun _ => (smyBlk HBa.out HPL.out).2.2.2, ?_⟩
        clear hR hBl HVb HBb HKb HRb HXb cb
        (try simp only [Act.put, List.setIfInBounds_toArray, List.set_cons_zero, List.set_cons_succ])
        refine u_next_wp 13 rfl (by kernel_rfl) (by rfl) ?_
        go_simp
        refine ⟨(smyBlk HBa.out HPL.out).2.2.2, ?_⟩
        (try simp only [Act.put, List.setIfInBounds_toArray, List.set_cons_zero, List.set_cons_succ])
        refine u_next_wp 14 rfl (by kernel_rfl) (by rfl) ?_
        have ca := (smyBlk HBa.out HPL.out).2.2.2
        have cf := HBa.out.free 34
        go_simp
        (try simp only [Act.put, List.setIfInBounds_toArray, List.set_cons_zero, List.set_cons_succ])
        refine u_done (by kernel_rfl) ?_ _
        have HWs := Aside0.mk (Wrote.setCell wa b5 34 (.slice A1 N1 C1))
        have HBs := Aside0.mk (show Blk (wa.setCell ⟨b5, 34, none⟩ (.slice A1 N1 C1)) b5 (smyC a1 pr a3 (.slice A1 N1 C1)).toArray 58 from smy_set HBa.out HPL.out (.slice A1 N1 C1))
        have HVs := Aside0.mk (HVa.out.wrote HWs.out (fun h => by have := Kd.R_base HVa.out _ h; omega))
        have HKs := Aside0.mk (HKa.out.wrote HWs.out (by have := HBX.out; omega))
        have HRs := Aside0.mk (HRa.out.tch (Tch.of_wrote HWs.out (Nat.le_refl b5) (Nat.lt_succ_self b5)) (.inl HH4.out))
        have HXs := Aside0.mk (HWs.out.ext HXa.out (by have := HBX.out; omega))
        have HHs := Aside0.mk (show hi ≤ (wa.setCell ⟨b5, 34, none⟩ (.slice A1 N1 C1)).heap.size by rw [HWs.out.size]; exact HHa.out)
        clear HWs HBa HVa HKa HRa HXa HHa ca cf
        generalize wa.setCell ⟨b5, 34, none⟩ (.slice A1 N1 C1) = wz at *
        go_wp2_with fail
        go_roundw
        case rel => exact ⟨i + 1, by simp, ⟨by omega⟩, HRs, ⟨_, HBs, HVs⟩, HKs, HXs, HHs⟩
        case measure => have := HLT.out; simp only [intOf]; omega
      · skip
        have HEN : Aside0 (endI (tkEs i (g4 bs).2).2.1 (tkEs i (g4 bs).2).2.2 = gEnd bs) := ⟨by have h := tkEs_bad (g4 bs).2 i HBAD.out.symm (a4.toNat - i); rw [show i + (a4.toNat - i) = a4.toNat by (have := HLT.out; omega), HA4.out] at h; unfold gEnd endI; rw [if_pos HBAD.out.symm, if_pos (show (gR bs).2.2 = true from h)]⟩
        have HES : Aside0 (gEnd bs = 0 → (tkEs i (g4 bs).2).1 = (gR bs).1) := ⟨by intro h0; have h := tkEs_bad (g4 bs).2 i HBAD.out.symm (a4.toNat - i); rw [show i + (a4.toNat - i) = a4.toNat by (have := HLT.out; omega), HA4.out] at h; unfold gEnd endI at h0; rw [if_pos (show (gR bs).2.2 = true from h)] at h0; exact absurd h0 (by decide)⟩
        have HCE := Aside0.mk (end_calls w8 lo hi b _ _ HRD8.out)
        rw [HEN.out] at HCE
        obtain ⟨en, hen⟩ : ∃ en, en = gEnd bs := ⟨_, rfl⟩
        rw [← hen] at HCE HES
        have HE2 := Aside0.mk hen
        obtain ⟨es, hes⟩ : ∃ es, es = (tkEs i (g4 bs).2).1 := ⟨_, rfl⟩
        have HOK := Aside0.mk (show ∀ e ∈ es, Th.ok e by rw [hes]; exact (HSB.out i).2.1)
        have HV0 := HV8.out
        rw [← hes] at HV0 HES
        have HVx := Aside0.mk HV0
        clear hen hes HV0 HEN HV8
        go_wp2_with fail
        refine HCE.out.mono ?_
        rintro e wa ⟨rfl, hEa⟩
        have HVa := Aside0.mk (HVx.out.ext hEa)
        have HBa := Aside0.mk (HB8.out.ext hEa)
        have HKa := Aside0.mk (HK8.out.ext hEa)
        have HXa := Aside0.mk (HX8.out.trans hEa)
        clear hEa HCE HVx HB8 HK8 HX8
        by_cases hz : en = 0
        · subst hz
          have HGR := Aside0.mk (HES.out rfl)
          obtain ⟨A1, C1, hV, hc1, hr1⟩ := EB.reads HVa.out
          subst hV
          have HHC := Aside0.mk hc1
          have HRR := Aside0.mk hr1
          clear hc1 hr1
          have HRW := Aside0.mk (HBa.out.whole)
          have HCK := Aside0.mk (check_calls wa a1 a3 pr A1 C1 es.length es HRR.out HHC.out HPL.out HOK.out)
          obtain ⟨F, hF⟩ : ∃ F, F = checkF a1 a3 es := ⟨_, rfl⟩
          rw [← hF] at HCK
          have HF := Aside0.mk hF
          clear hF
          have HGE := Aside0.mk (show gE bs = F by
            unfold gE
            rw [if_neg (by rw [HGF0.out]; decide), if_pos HE2.out.symm, HF.out, HGR.out, HA1.out, HA3.out])
          go_wp2_with (first | ((with_reducible refine gate_load (ty := 58) rfl ?_); refine load_at rfl 58 _ rfl b5 0 rfl (smyC a1 pr a3 (.slice A1 es.length C1)) _ HRW.out Try.underlying58 rfl (HIS.out _) ?_) | fail)
          refine HCK.out.mono ?_
          rintro e wc ⟨rfl, hEc⟩
          have HVc := Aside0.mk (HVa.out.ext hEc)
          have HBc := Aside0.mk (HBa.out.ext hEc)
          have HKc := Aside0.mk (HKa.out.ext hEc)
          have HXc := Aside0.mk (HXa.out.trans hEc)
          clear hEc HCK HVa HBa HKa HXa HRW HRR
          by_cases hF0 : F = 0
          · subst hF0
            have HRW := Aside0.mk (HBc.out.whole)
            go_wp2_with (first | ((with_reducible refine gate_load (ty := 58) rfl ?_); refine load_at rfl 58 _ rfl b5 0 rfl (smyC a1 pr a3 (.slice A1 es.length C1)) _ HRW.out Try.underlying58 rfl (HIS.out _) ?_) | ((with_reducible refine gate_store (ty := 58) rfl ?_); (refine store_at rfl 58 _ _ rfl w.heap.size (smyC a1 pr a3 (.slice A1 es.length C1)) rfl rfl #[Value.int .i64 0, Value.int .u8 0, Value.int .u8 0, Value.int .u8 0, Value.int .u8 0, Value.int .u8 0, Value.int .u8 0, Value.int .u8 0, Value.int .u8 0, Value.int .u8 0, Value.int .u8 0, Value.int .u8 0, Value.int .u8 0, Value.int .u8 0, Value.int .u8 0, Value.int .u8 0, Value.int .u8 0, Value.int .u8 0, Value.int .u8 0, Value.int .u8 0, Value.int .u8 0, Value.int .u8 0, Value.int .u8 0, Value.int .u8 0, Value.int .u8 0, Value.int .u8 0, Value.int .u8 0, Value.int .u8 0, Value.int .u8 0, Value.int .u8 0, Value.int .u8 0, Value.int .u8 0, Value.int .u8 0, Value.int .i64 0, Value.slice none 0 0] 58 HKc.out (HSS.out _) (HIS.out _) (smyC_one _ _ _ _ _ _) ?_)) | fail)
            intro wf hWf hBf
            have HEF := Aside0.mk (hWf.ext HXc.out (Nat.le_refl _))
            have HBf := Aside0.mk hBf
            have HVf := Aside0.mk (HVc.out.wrote hWf (fun h => by have := Kd.R_base HVc.out _ h; have := HBX.out; omega))
            clear hWf hBf
            go_wp2_with fail
            (try simp only [Exit.inBlock, Exit.then])
            refine bodyPost_ret (results_ct rfl _ _ w.heap.size 58 (smyC a1 pr a3 (.slice A1 es.length C1)).toArray (0, 0) _ rfl HBf.out.is Try.underlying58 rfl (by have := HIS.out (.slice A1 es.length C1); simpa using this)) rfl ?_
            have HO := Aside0.mk (show oSt bs = a1 ∧ oPr bs = pr ∧ oNx bs = a3 ∧ oEs bs = es by
              unfold oSt oPr oNx oEs; rw [if_pos HGE.out, if_pos HGE.out, if_pos HGE.out, if_pos HGE.out]; exact ⟨HA1.out.symm, HPR.out.symm, HA3.out.symm, HGR.out.symm⟩)
            exact ⟨.slice A1 es.length C1, by rw [HO.out.1, HO.out.2.1, HO.out.2.2.1, HGE.out]; rfl, by rw [HO.out.2.2.2]; exact HVf.out.lower (by have := HBX.out; omega), HEF.out⟩
          · have HNZ := Aside0.mk hF0
            have HGG := HGE
            have HIZ := Aside0.mk (show (Try.prog.info? 58).map (·.size) = some (smyC 0 zero32 0 (.slice none 0 0)).length by kernel_rfl)
            have HZS := Aside0.mk (show #[Value.int .i64 0, Value.int .u8 0, Value.int .u8 0, Value.int .u8 0, Value.int .u8 0, Value.int .u8 0, Value.int .u8 0, Value.int .u8 0, Value.int .u8 0, Value.int .u8 0, Value.int .u8 0, Value.int .u8 0, Value.int .u8 0, Value.int .u8 0, Value.int .u8 0, Value.int .u8 0, Value.int .u8 0, Value.int .u8 0, Value.int .u8 0, Value.int .u8 0, Value.int .u8 0, Value.int .u8 0, Value.int .u8 0, Value.int .u8 0, Value.int .u8 0, Value.int .u8 0, Value.int .u8 0, Value.int .u8 0, Value.int .u8 0, Value.int .u8 0, Value.int .u8 0, Value.int .u8 0, Value.int .u8 0, Value.int .i64 0, Value.slice none 0 0].size = (smyC 0 zero32 0 (.slice none 0 0)).length by rfl)
            have HG := Aside0.mk (show gE bs = F by exact HGG.out)
            have HO := Aside0.mk (show oSt bs = 0 ∧ oPr bs = zero32 ∧ oNx bs = 0 ∧ oEs bs = [] by
              have h : ¬ gE bs = 0 := by rw [HG.out]; exact HNZ.out
              unfold oSt oPr oNx oEs; rw [if_neg h, if_neg h, if_neg h, if_neg h]; exact ⟨rfl, rfl, rfl, rfl⟩)
            go_wp2_with (first | ((with_reducible refine gate_build (ty := 58) rfl ?_); refine build_at rfl 58 #[] rfl _ [] rfl built_smy0 ?_) | ((with_reducible refine gate_store (ty := 58) rfl ?_); (refine store_at rfl 58 _ _ rfl w.heap.size (smyC 0 zero32 0 (.slice none 0 0)) rfl rfl #[Value.int .i64 0, Value.int .u8 0, Value.int .u8 0, Value.int .u8 0, Value.int .u8 0, Value.int .u8 0, Value.int .u8 0, Value.int .u8 0, Value.int .u8 0, Value.int .u8 0, Value.int .u8 0, Value.int .u8 0, Value.int .u8 0, Value.int .u8 0, Value.int .u8 0, Value.int .u8 0, Value.int .u8 0, Value.int .u8 0, Value.int .u8 0, Value.int .u8 0, Value.int .u8 0, Value.int .u8 0, Value.int .u8 0, Value.int .u8 0, Value.int .u8 0, Value.int .u8 0, Value.int .u8 0, Value.int .u8 0, Value.int .u8 0, Value.int .u8 0, Value.int .u8 0, Value.int .u8 0, Value.int .u8 0, Value.int .i64 0, Value.slice none 0 0] 58 HKc.out HZS.out HIZ.out (smyC_one _ _ _ _ _ _) ?_)) | fail)
            intro wf hWf hBf
            have HEF := Aside0.mk (hWf.ext HXc.out (Nat.le_refl _))
            have HBf := Aside0.mk hBf
            clear hWf hBf
            go_wp2_with fail
            (try simp only [Exit.inBlock, Exit.then])
            refine bodyPost_ret (results_ct rfl _ _ w.heap.size 58 (smyC 0 zero32 0 (.slice none 0 0)).toArray (0, 0) _ rfl HBf.out.is Try.underlying58 rfl (by kernel_rfl)) rfl ?_
            exact ⟨.slice none 0 0, by rw [HO.out.1, HO.out.2.1, HO.out.2.2.1, HG.out]; rfl, by rw [HO.out.2.2.2]; exact EB.nil _ _, HEF.out⟩
        · have HNZ := Aside0.mk hz
          have HIZ := Aside0.mk (show (Try.prog.info? 58).map (·.size) = some (smyC 0 zero32 0 (.slice none 0 0)).length by kernel_rfl)
          have HZS := Aside0.mk (show #[Value.int .i64 0, Value.int .u8 0, Value.int .u8 0, Value.int .u8 0, Value.int .u8 0, Value.int .u8 0, Value.int .u8 0, Value.int .u8 0, Value.int .u8 0, Value.int .u8 0, Value.int .u8 0, Value.int .u8 0, Value.int .u8 0, Value.int .u8 0, Value.int .u8 0, Value.int .u8 0, Value.int .u8 0, Value.int .u8 0, Value.int .u8 0, Value.int .u8 0, Value.int .u8 0, Value.int .u8 0, Value.int .u8 0, Value.int .u8 0, Value.int .u8 0, Value.int .u8 0, Value.int .u8 0, Value.int .u8 0, Value.int .u8 0, Value.int .u8 0, Value.int .u8 0, Value.int .u8 0, Value.int .u8 0, Value.int .i64 0, Value.slice none 0 0].size = (smyC 0 zero32 0 (.slice none 0 0)).length by rfl)
          have HG := Aside0.mk (show gE bs = en by unfold gE; rw [if_neg (by rw [HGF0.out]; decide), if_neg (by rw [← HE2.out]; exact HNZ.out), ← HE2.out])
          have HO := Aside0.mk (show oSt bs = 0 ∧ oPr bs = zero32 ∧ oNx bs = 0 ∧ oEs bs = [] by
            have h : ¬ gE bs = 0 := by rw [HG.out]; exact HNZ.out
            unfold oSt oPr oNx oEs; rw [if_neg h, if_neg h, if_neg h, if_neg h]; exact ⟨rfl, rfl, rfl, rfl⟩)
          go_wp2_with (first | ((with_reducible refine gate_build (ty := 58) rfl ?_); refine build_at rfl 58 #[] rfl _ [] rfl built_smy0 ?_) | ((with_reducible refine gate_store (ty := 58) rfl ?_); (refine store_at rfl 58 _ _ rfl w.heap.size (smyC 0 zero32 0 (.slice none 0 0)) rfl rfl #[Value.int .i64 0, Value.int .u8 0, Value.int .u8 0, Value.int .u8 0, Value.int .u8 0, Value.int .u8 0, Value.int .u8 0, Value.int .u8 0, Value.int .u8 0, Value.int .u8 0, Value.int .u8 0, Value.int .u8 0, Value.int .u8 0, Value.int .u8 0, Value.int .u8 0, Value.int .u8 0, Value.int .u8 0, Value.int .u8 0, Value.int .u8 0, Value.int .u8 0, Value.int .u8 0, Value.int .u8 0, Value.int .u8 0, Value.int .u8 0, Value.int .u8 0, Value.int .u8 0, Value.int .u8 0, Value.int .u8 0, Value.int .u8 0, Value.int .u8 0, Value.int .u8 0, Value.int .u8 0, Value.int .u8 0, Value.int .i64 0, Value.slice none 0 0] 58 HKa.out HZS.out HIZ.out (smyC_one _ _ _ _ _ _) ?_)) | fail)
          intro wf hWf hBf
          have HEF := Aside0.mk (hWf.ext HXa.out (Nat.le_refl _))
          have HBf := Aside0.mk hBf
          clear hWf hBf
          go_wp2_with fail
          (try simp only [Exit.inBlock, Exit.then])
          refine bodyPost_ret (results_ct rfl _ _ w.heap.size 58 (smyC 0 zero32 0 (.slice none 0 0)).toArray (0, 0) _ rfl HBf.out.is Try.underlying58 rfl (by kernel_rfl)) rfl ?_
          exact ⟨.slice none 0 0, by rw [HO.out.1, HO.out.2.1, HO.out.2.2.1, HG.out]; rfl, by rw [HO.out.2.2.2]; exact EB.nil _ _, HEF.out⟩
    · skip
      have HIA := Aside0.mk (show a4.toNat = i by have := HI.out; omega)
      have HGI := Aside0.mk (show gR bs = tkEs i (g4 bs).2 by unfold gR; rw [← HA4.out, HIA.out])
      have HEN : Aside0 (endI (tkEs i (g4 bs).2).2.1 (tkEs i (g4 bs).2).2.2 = gEnd bs) := ⟨by unfold gEnd; rw [HGI.out]⟩
      have HES : Aside0 (gEnd bs = 0 → (tkEs i (g4 bs).2).1 = (gR bs).1) := ⟨by intro _; rw [HGI.out]⟩
      have HCE := Aside0.mk (end_calls wx lo hi b _ _ HRD.out)
      rw [HEN.out] at HCE
      obtain ⟨en, hen⟩ : ∃ en, en = gEnd bs := ⟨_, rfl⟩
      rw [← hen] at HCE HES
      have HE2 := Aside0.mk hen
      obtain ⟨es, hes⟩ : ∃ es, es = (tkEs i (g4 bs).2).1 := ⟨_, rfl⟩
      have HOK := Aside0.mk (show ∀ e ∈ es, Th.ok e by rw [hes]; exact (HSB.out i).2.1)
      have HV0 := HV.out
      rw [← hes] at HV0 HES
      have HVx := Aside0.mk HV0
      clear hen hes HV0 HEN HV
      go_wp2_with fail
      refine HCE.out.mono ?_
      rintro e wa ⟨rfl, hEa⟩
      have HVa := Aside0.mk (HVx.out.ext hEa)
      have HBa := Aside0.mk (HB.out.ext hEa)
      have HKa := Aside0.mk (HK.out.ext hEa)
      have HXa := Aside0.mk (HX.out.trans hEa)
      clear hEa HCE HVx HB HK HX
      by_cases hz : en = 0
      · subst hz
        have HGR := Aside0.mk (HES.out rfl)
        obtain ⟨A1, C1, hV, hc1, hr1⟩ := EB.reads HVa.out
        subst hV
        have HHC := Aside0.mk hc1
        have HRR := Aside0.mk hr1
        clear hc1 hr1
        have HRW := Aside0.mk (HBa.out.whole)
        have HCK := Aside0.mk (check_calls wa a1 a3 pr A1 C1 es.length es HRR.out HHC.out HPL.out HOK.out)
        obtain ⟨F, hF⟩ : ∃ F, F = checkF a1 a3 es := ⟨_, rfl⟩
        rw [← hF] at HCK
        have HF := Aside0.mk hF
        clear hF
        have HGE := Aside0.mk (show gE bs = F by
          unfold gE
          rw [if_neg (by rw [HGF0.out]; decide), if_pos HE2.out.symm, HF.out, HGR.out, HA1.out, HA3.out])
        go_wp2_with (first | ((with_reducible refine gate_load (ty := 58) rfl ?_); refine load_at rfl 58 _ rfl b5 0 rfl (smyC a1 pr a3 (.slice A1 es.length C1)) _ HRW.out Try.underlying58 rfl (HIS.out _) ?_) | fail)
        refine HCK.out.mono ?_
        rintro e wc ⟨rfl, hEc⟩
        have HVc := Aside0.mk (HVa.out.ext hEc)
        have HBc := Aside0.mk (HBa.out.ext hEc)
        have HKc := Aside0.mk (HKa.out.ext hEc)
        have HXc := Aside0.mk (HXa.out.trans hEc)
        clear hEc HCK HVa HBa HKa HXa HRW HRR
        by_cases hF0 : F = 0
        · subst hF0
          have HRW := Aside0.mk (HBc.out.whole)
          go_wp2_with (first | ((with_reducible refine gate_load (ty := 58) rfl ?_); refine load_at rfl 58 _ rfl b5 0 rfl (smyC a1 pr a3 (.slice A1 es.length C1)) _ HRW.out Try.underlying58 rfl (HIS.out _) ?_) | ((with_reducible refine gate_store (ty := 58) rfl ?_); (refine store_at rfl 58 _ _ rfl w.heap.size (smyC a1 pr a3 (.slice A1 es.length C1)) rfl rfl #[Value.int .i64 0, Value.int .u8 0, Value.int .u8 0, Value.int .u8 0, Value.int .u8 0, Value.int .u8 0, Value.int .u8 0, Value.int .u8 0, Value.int .u8 0, Value.int .u8 0, Value.int .u8 0, Value.int .u8 0, Value.int .u8 0, Value.int .u8 0, Value.int .u8 0, Value.int .u8 0, Value.int .u8 0, Value.int .u8 0, Value.int .u8 0, Value.int .u8 0, Value.int .u8 0, Value.int .u8 0, Value.int .u8 0, Value.int .u8 0, Value.int .u8 0, Value.int .u8 0, Value.int .u8 0, Value.int .u8 0, Value.int .u8 0, Value.int .u8 0, Value.int .u8 0, Value.int .u8 0, Value.int .u8 0, Value.int .i64 0, Value.slice none 0 0] 58 HKc.out (HSS.out _) (HIS.out _) (smyC_one _ _ _ _ _ _) ?_)) | fail)
          intro wf hWf hBf
          have HEF := Aside0.mk (hWf.ext HXc.out (Nat.le_refl _))
          have HBf := Aside0.mk hBf
          have HVf := Aside0.mk (HVc.out.wrote hWf (fun h => by have := Kd.R_base HVc.out _ h; have := HBX.out; omega))
          clear hWf hBf
          go_wp2_with fail
          (try simp only [Exit.inBlock, Exit.then])
          refine bodyPost_ret (results_ct rfl _ _ w.heap.size 58 (smyC a1 pr a3 (.slice A1 es.length C1)).toArray (0, 0) _ rfl HBf.out.is Try.underlying58 rfl (by have := HIS.out (.slice A1 es.length C1); simpa using this)) rfl ?_
          have HO := Aside0.mk (show oSt bs = a1 ∧ oPr bs = pr ∧ oNx bs = a3 ∧ oEs bs = es by
            unfold oSt oPr oNx oEs; rw [if_pos HGE.out, if_pos HGE.out, if_pos HGE.out, if_pos HGE.out]; exact ⟨HA1.out.symm, HPR.out.symm, HA3.out.symm, HGR.out.symm⟩)
          exact ⟨.slice A1 es.length C1, by rw [HO.out.1, HO.out.2.1, HO.out.2.2.1, HGE.out]; rfl, by rw [HO.out.2.2.2]; exact HVf.out.lower (by have := HBX.out; omega), HEF.out⟩
        · have HNZ := Aside0.mk hF0
          have HGG := HGE
          have HIZ := Aside0.mk (show (Try.prog.info? 58).map (·.size) = some (smyC 0 zero32 0 (.slice none 0 0)).length by kernel_rfl)
          have HZS := Aside0.mk (show #[Value.int .i64 0, Value.int .u8 0, Value.int .u8 0, Value.int .u8 0, Value.int .u8 0, Value.int .u8 0, Value.int .u8 0, Value.int .u8 0, Value.int .u8 0, Value.int .u8 0, Value.int .u8 0, Value.int .u8 0, Value.int .u8 0, Value.int .u8 0, Value.int .u8 0, Value.int .u8 0, Value.int .u8 0, Value.int .u8 0, Value.int .u8 0, Value.int .u8 0, Value.int .u8 0, Value.int .u8 0, Value.int .u8 0, Value.int .u8 0, Value.int .u8 0, Value.int .u8 0, Value.int .u8 0, Value.int .u8 0, Value.int .u8 0, Value.int .u8 0, Value.int .u8 0, Value.int .u8 0, Value.int .u8 0, Value.int .i64 0, Value.slice none 0 0].size = (smyC 0 zero32 0 (.slice none 0 0)).length by rfl)
          have HG := Aside0.mk (show gE bs = F by exact HGG.out)
          have HO := Aside0.mk (show oSt bs = 0 ∧ oPr bs = zero32 ∧ oNx bs = 0 ∧ oEs bs = [] by
            have h : ¬ gE bs = 0 := by rw [HG.out]; exact HNZ.out
            unfold oSt oPr oNx oEs; rw [if_neg h, if_neg h, if_neg h, if_neg h]; exact ⟨rfl, rfl, rfl, rfl⟩)
          go_wp2_with (first | ((with_reducible refine gate_build (ty := 58) rfl ?_); refine build_at rfl 58 #[] rfl _ [] rfl built_smy0 ?_) | ((with_reducible refine gate_store (ty := 58) rfl ?_); (refine store_at rfl 58 _ _ rfl w.heap.size (smyC 0 zero32 0 (.slice none 0 0)) rfl rfl #[Value.int .i64 0, Value.int .u8 0, Value.int .u8 0, Value.int .u8 0, Value.int .u8 0, Value.int .u8 0, Value.int .u8 0, Value.int .u8 0, Value.int .u8 0, Value.int .u8 0, Value.int .u8 0, Value.int .u8 0, Value.int .u8 0, Value.int .u8 0, Value.int .u8 0, Value.int .u8 0, Value.int .u8 0, Value.int .u8 0, Value.int .u8 0, Value.int .u8 0, Value.int .u8 0, Value.int .u8 0, Value.int .u8 0, Value.int .u8 0, Value.int .u8 0, Value.int .u8 0, Value.int .u8 0, Value.int .u8 0, Value.int .u8 0, Value.int .u8 0, Value.int .u8 0, Value.int .u8 0, Value.int .u8 0, Value.int .i64 0, Value.slice none 0 0] 58 HKc.out HZS.out HIZ.out (smyC_one _ _ _ _ _ _) ?_)) | fail)
          intro wf hWf hBf
          have HEF := Aside0.mk (hWf.ext HXc.out (Nat.le_refl _))
          have HBf := Aside0.mk hBf
          clear hWf hBf
          go_wp2_with fail
          (try simp only [Exit.inBlock, Exit.then])
          refine bodyPost_ret (results_ct rfl _ _ w.heap.size 58 (smyC 0 zero32 0 (.slice none 0 0)).toArray (0, 0) _ rfl HBf.out.is Try.underlying58 rfl (by kernel_rfl)) rfl ?_
          exact ⟨.slice none 0 0, by rw [HO.out.1, HO.out.2.1, HO.out.2.2.1, HG.out]; rfl, by rw [HO.out.2.2.2]; exact EB.nil _ _, HEF.out⟩
      · have HNZ := Aside0.mk hz
        have HIZ := Aside0.mk (show (Try.prog.info? 58).map (·.size) = some (smyC 0 zero32 0 (.slice none 0 0)).length by kernel_rfl)
        have HZS := Aside0.mk (show #[Value.int .i64 0, Value.int .u8 0, Value.int .u8 0, Value.int .u8 0, Value.int .u8 0, Value.int .u8 0, Value.int .u8 0, Value.int .u8 0, Value.int .u8 0, Value.int .u8 0, Value.int .u8 0, Value.int .u8 0, Value.int .u8 0, Value.int .u8 0, Value.int .u8 0, Value.int .u8 0, Value.int .u8 0, Value.int .u8 0, Value.int .u8 0, Value.int .u8 0, Value.int .u8 0, Value.int .u8 0, Value.int .u8 0, Value.int .u8 0, Value.int .u8 0, Value.int .u8 0, Value.int .u8 0, Value.int .u8 0, Value.int .u8 0, Value.int .u8 0, Value.int .u8 0, Value.int .u8 0, Value.int .u8 0, Value.int .i64 0, Value.slice none 0 0].size = (smyC 0 zero32 0 (.slice none 0 0)).length by rfl)
        have HG := Aside0.mk (show gE bs = en by unfold gE; rw [if_neg (by rw [HGF0.out]; decide), if_neg (by rw [← HE2.out]; exact HNZ.out), ← HE2.out])
        have HO := Aside0.mk (show oSt bs = 0 ∧ oPr bs = zero32 ∧ oNx bs = 0 ∧ oEs bs = [] by
          have h : ¬ gE bs = 0 := by rw [HG.out]; exact HNZ.out
          unfold oSt oPr oNx oEs; rw [if_neg h, if_neg h, if_neg h, if_neg h]; exact ⟨rfl, rfl, rfl, rfl⟩)
        go_wp2_with (first | ((with_reducible refine gate_build (ty := 58) rfl ?_); refine build_at rfl 58 #[] rfl _ [] rfl built_smy0 ?_) | ((with_reducible refine gate_store (ty := 58) rfl ?_); (refine store_at rfl 58 _ _ rfl w.heap.size (smyC 0 zero32 0 (.slice none 0 0)) rfl rfl #[Value.int .i64 0, Value.int .u8 0, Value.int .u8 0, Value.int .u8 0, Value.int .u8 0, Value.int .u8 0, Value.int .u8 0, Value.int .u8 0, Value.int .u8 0, Value.int .u8 0, Value.int .u8 0, Value.int .u8 0, Value.int .u8 0, Value.int .u8 0, Value.int .u8 0, Value.int .u8 0, Value.int .u8 0, Value.int .u8 0, Value.int .u8 0, Value.int .u8 0, Value.int .u8 0, Value.int .u8 0, Value.int .u8 0, Value.int .u8 0, Value.int .u8 0, Value.int .u8 0, Value.int .u8 0, Value.int .u8 0, Value.int .u8 0, Value.int .u8 0, Value.int .u8 0, Value.int .u8 0, Value.int .u8 0, Value.int .i64 0, Value.slice none 0 0] 58 HKa.out HZS.out HIZ.out (smyC_one _ _ _ _ _ _) ?_)) | fail)
        intro wf hWf hBf
        have HEF := Aside0.mk (hWf.ext HXa.out (Nat.le_refl _))
        have HBf := Aside0.mk hBf
        clear hWf hBf
        go_wp2_with fail
        (try simp only [Exit.inBlock, Exit.then])
        refine bodyPost_ret (results_ct rfl _ _ w.heap.size 58 (smyC 0 zero32 0 (.slice none 0 0)).toArray (0, 0) _ rfl HBf.out.is Try.underlying58 rfl (by kernel_rfl)) rfl ?_
        exact ⟨.slice none 0 0, by rw [HO.out.1, HO.out.2.1, HO.out.2.2.1, HG.out]; rfl, by rw [HO.out.2.2.2]; exact EB.nil _ _, HEF.out⟩
end Go.Proofs.Ythgdjgnbifakbaa.By
