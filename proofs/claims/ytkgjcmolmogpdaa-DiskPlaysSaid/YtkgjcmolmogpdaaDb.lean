/- The disk at the level of bytes: what lasts (f), what is cached (g), and what each method makes of them. -/
import Derived.Test.YtkgjcmolmogpdaaCe
namespace Go.Proofs.Ytkgjcmolmogpdaa.By
open Go.RowKit Go.Proofs.Ytkgjcmolmogpdaa.Reg Go.Proofs.YtkgjcmolmogpdaaW.PrintWords Go.Proofs.YtkgjcmolmogpdaaW.PrintLast Go.Proofs.YtkgjcmolmogpdaaW.PrintMore
set_option linter.unusedVariables false
set_option linter.unusedSimpArgs false


/-- What a sector's slice reads as; its bytes lie in none of the blocks X. -/
def Kx (X : Nat → Prop) (w : World) (V : Value) (xs : List Int) : Prop := NB w 0 V xs ∧ xs.length ≤ 1024 ∧ ∀ k, V.ownBlock = some k → ¬ X k
def OptR (X : Nat → Prop) (w : World) : Option Value → Option (List Int) → Prop
  | none, none => True
  | some V, some xs => Kx X w V xs
  | _, _ => False
def Fit (X : Nat → Prop) (w : World) (n : Nat) (LV : List Value) (CV : List (Int × Value)) (f : Nat → List Int) (g : Nat → Option (List Int)) : Prop :=
  (∀ i, i < n → Kx X w (LV.getD i (.slice none 0 0)) (f i)) ∧ ∀ i : Nat, i < n → OptR X w (getA CV (i : Int)) (g i)
def upd {α : Type} (g : Nat → α) (i : Nat) (x : α) : Nat → α := fun j => if j = i then x else g j
def atB (f : Nat → List Int) (g : Nat → Option (List Int)) (i : Nat) : List Int := (g i).getD (f i)
def cntB (g : Nat → Option (List Int)) (i : Nat) : Nat := ((List.range i).filter (fun j => (g j).isSome)).length
def dirtyB (g : Nat → Option (List Int)) (n : Nat) : List Int := ((List.range n).filter (fun j => (g j).isSome)).map (fun j : Nat => (j : Int))
def crashB (f : Nat → List Int) (g : Nat → Option (List Int)) (fl : List Int) (i : Nat) : List Int := if fl.getD (cntB g i) 0 = 0 then f i else (g i).getD (f i)
/-- The disk at bd, n sectors: what lasts, what is cached. -/
def DBX (X : Nat → Prop) (w : World) (bd bl bc br n : Nat) (f : Nat → List Int) (g : Nat → Option (List Int)) (ar : Bool) (lf : Int) (of : Bool) (wt : Int) (rd : List Int) : Prop :=
  ∃ LV CV, DV w bd bl bc br n LV CV ar lf of wt rd ∧ Fit X w n LV CV f g
abbrev DB : World → Nat → Nat → Nat → Nat → Nat → (Nat → List Int) → (Nat → Option (List Int)) → Bool → Int → Bool → Int → List Int → Prop := DBX (fun _ => False)
variable {X : Nat → Prop}
theorem OptR.is {w : World} {a : Option Value} {b : Option (List Int)} (h : OptR X w a b) : a.isSome = b.isSome := by
  cases a <;> cases b <;> first | rfl | exact h.elim
theorem OptR.get {w : World} {a : Option Value} {b : Option (List Int)} (h : OptR X w a b) {V : Value} {xs : List Int} (h' : Kx X w V xs) : Kx X w (a.getD V) (b.getD xs) := by
  cases a <;> cases b <;> first | exact h' | exact h | exact h.elim
theorem Kx.nil (w : World) : Kx X w (.slice none 0 0) [] := ⟨Kd.R_nil _ _ _ _ _, by simp, fun k h => by simp [Value.ownBlock] at h⟩
section
variable {w w' : World} {bd bl bc br n : Nat} {LV : List Value} {CV : List (Int × Value)} {f : Nat → List Int} {g : Nat → Option (List Int)} {ar : Bool} {lf : Int} {of : Bool} {wt : Int} {rd : List Int}
theorem Kx.dst {V : Value} {xs : List Int} (h : Kx X w V xs) (hd : DV w bd bl bc br n LV CV ar lf of wt rd) (k : Chg w w' (Dst bd bl bc br)) : Kx X w' V xs := ⟨h.1.chg k (h.1.apart hd), h.2⟩
theorem Kx.ext {V : Value} {xs : List Int} (h : Kx X w V xs) (k : Ext w w') : Kx X w' V xs := ⟨h.1.ext k, h.2⟩
theorem OptR.map {a : Option Value} {b : Option (List Int)} (h : OptR X w a b) (k : ∀ V xs, Kx X w V xs → Kx X w' V xs) : OptR X w' a b := by
  cases a <;> cases b <;> first | exact h | exact k _ _ h
theorem Fit.map (h : Fit X w n LV CV f g) (k : ∀ V xs, Kx X w V xs → Kx X w' V xs) : Fit X w' n LV CV f g := ⟨fun i hi => k _ _ (h.1 i hi), fun i hi => (h.2 i hi).map k⟩
theorem Fit.at_ (h : Fit X w n LV CV f g) (i : Nat) (hi : i < n) : Kx X w (atV LV CV (i : Int)) (atB f g i) := by
  unfold atV atB
  rw [Int.toNat_natCast]
  exact (h.2 i hi).get (h.1 i hi)
theorem Fit.put (h : Fit X w n LV CV f g) {U : Value} {xs : List Int} (hx : Kx X w U xs) (i : Nat) : Fit X w n LV (putA CV (i : Int) U) f (upd g i (some xs)) := by
  refine ⟨h.1, fun j hj => ?_⟩
  rw [get_putA]
  unfold upd
  by_cases e : j = i
  · subst e
    rw [if_pos rfl, if_pos rfl]
    exact hx
  · rw [if_neg (by omega), if_neg e]
    exact h.2 j hj
theorem Fit.sync (h : Fit X w n LV CV f g) (hl : LV.length = n) : Fit X w n (syncV LV CV) [] (atB f g) (fun _ => none) := by
  refine ⟨fun i hi => ?_, fun i hi => ?_⟩
  · have e : (syncV LV CV).getD i (.slice none 0 0) = (getA CV (i : Int)).getD (LV.getD i (.slice none 0 0)) := by
      unfold syncV
      rw [List.getD_eq_getElem?_getD, List.getElem?_map, List.getElem?_range (by omega)]
      rfl
    rw [e]
    exact (h.2 i hi).get (h.1 i hi)
  · rw [getA_none.2 (fun p hp => by cases hp)]
    trivial
theorem Fit.tam (h : Fit X w n LV CV f g) (hl : LV.length = n) {U : Value} {xs : List Int} (hx : Kx X w U xs) (i : Nat) : Fit X w n (LV.set i U) (delA CV (i : Int)) (upd f i xs) (upd g i none) := by
  refine ⟨fun j hj => ?_, fun j hj => ?_⟩
  · unfold upd
    rw [List.getD_eq_getElem?_getD, List.getElem?_set]
    by_cases e : i = j
    · subst e
      rw [if_pos rfl, if_pos rfl, if_pos (by omega)]
      exact hx
    · rw [if_neg e, if_neg (fun h => e h.symm), ← List.getD_eq_getElem?_getD]
      exact h.1 j hj
  · rw [get_delA]
    unfold upd
    by_cases e : j = i
    · subst e
      rw [if_pos rfl, if_pos rfl]
      trivial
    · rw [if_neg (by omega), if_neg e]
      exact h.2 j hj
end
/-! rising keys -/
theorem rise_eq : ∀ {l m : List Int}, l.Pairwise (· < ·) → m.Pairwise (· < ·) → (∀ x, x ∈ l ↔ x ∈ m) → l = m := by
  intro l m hl hm h
  have h1 : Rise (l.map fun x => (x, ())) := by
    unfold Rise; rw [List.pairwise_map]; exact hl
  have h2 : Rise (m.map fun x => (x, ())) := by
    unfold Rise; rw [List.pairwise_map]; exact hm
  have h3 := rise_ext h1 h2 (fun i => by
    have key : ∀ (q : List Int), getA (q.map fun x => (x, ())) i = if i ∈ q then some () else none := by
      intro q
      by_cases hi : i ∈ q
      · rw [if_pos hi]
        cases e : getA (q.map fun x => (x, ())) i with
        | some u => rfl
        | none =>
          have := getA_none.1 e (i, ()) (List.mem_map.2 ⟨i, hi, rfl⟩)
          exact absurd rfl this
      · rw [if_neg hi, getA_none]
        intro p hp e
        obtain ⟨x, hx, rfl⟩ := List.mem_map.1 hp
        exact hi (e ▸ hx)
    rw [key l, key m]
    simp [h i])
  have := congrArg (List.map Prod.fst) h3
  simpa [List.map_map, Function.comp_def] using this
theorem dirtyB_rise (g : Nat → Option (List Int)) (n : Nat) : (dirtyB g n).Pairwise (· < ·) := by
  unfold dirtyB
  rw [List.pairwise_map]
  exact (List.pairwise_lt_range.sublist List.filter_sublist).imp (fun h => by omega)
theorem dirtyB_mem (g : Nat → Option (List Int)) (n : Nat) (x : Int) : x ∈ dirtyB g n ↔ ∃ j : Nat, x = j ∧ j < n ∧ (g j).isSome = true := by
  unfold dirtyB
  simp only [List.mem_map, List.mem_filter, List.mem_range]
  constructor
  · rintro ⟨j, ⟨h1, h2⟩, rfl⟩; exact ⟨j, rfl, h1, h2⟩
  · rintro ⟨j, rfl, h1, h2⟩; exact ⟨j, ⟨h1, h2⟩, rfl⟩
section
variable {w w' : World} {bd bl bc br n : Nat} {LV : List Value} {CV : List (Int × Value)} {f : Nat → List Int} {g : Nat → Option (List Int)} {ar : Bool} {lf : Int} {of : Bool} {wt : Int} {rd : List Int}
theorem Fit.keys (h : Fit X w n LV CV f g) (hr : Rise CV) (hk : ∀ p ∈ CV, 0 ≤ p.1 ∧ p.1 < n) : CV.map (·.1) = dirtyB g n := by
  refine rise_eq (by rw [List.pairwise_map]; exact hr) (dirtyB_rise g n) (fun x => ?_)
  rw [dirtyB_mem]
  constructor
  · intro hx
    obtain ⟨p, hp, rfl⟩ := List.mem_map.1 hx
    obtain ⟨h0, h1⟩ := hk p hp
    refine ⟨p.1.toNat, by omega, by omega, ?_⟩
    rw [← (h.2 p.1.toNat (by omega)).is, show ((p.1.toNat : Nat) : Int) = p.1 by omega, getA_mem hr (v := p.2) hp]
    rfl
  · rintro ⟨j, rfl, hj, hs⟩
    rw [← (h.2 j hj).is] at hs
    cases e : getA CV (j : Int) with
    | none => rw [e] at hs; cases hs
    | some V => exact List.mem_map.2 ⟨_, getA_some e, rfl⟩
theorem dirtyB_at (g : Nat → Option (List Int)) (n i : Nat) (hi : i < n) (hs : (g i).isSome = true) : (dirtyB g n)[cntB g i]? = some (i : Int) := by
  obtain ⟨d, rfl⟩ : ∃ d, n = i + (d + 1) := ⟨n - i - 1, by omega⟩
  unfold dirtyB cntB
  rw [List.range_add, List.filter_append, List.map_append, List.getElem?_append_right (by simp)]
  rw [List.length_map, Nat.sub_self, List.range_succ_eq_map, List.map_cons, Nat.add_zero, List.filter_cons, if_pos hs]
  rfl
theorem crashN_len (LV : List Value) (CV : List (Int × Value)) (fl : List Int) : ∀ j, (crashN LV CV fl j).length = LV.length
  | 0 => rfl
  | j + 1 => by
    rw [crashN]
    split
    · exact crashN_len LV CV fl j
    · split
      · rw [List.length_set]; exact crashN_len LV CV fl j
      · exact crashN_len LV CV fl j
theorem rise_at {CV : List (Int × Value)} (hr : Rise CV) {a b : Nat} {p q : Int × Value} (ha : CV[a]? = some p) (hb : CV[b]? = some q) (e : p.1 = q.1) : a = b := by
  obtain ⟨h1, e1⟩ := List.getElem?_eq_some_iff.1 ha
  obtain ⟨h2, e2⟩ := List.getElem?_eq_some_iff.1 hb
  rcases Nat.lt_trichotomy a b with h | h | h
  · have := List.pairwise_iff_getElem.1 hr a b h1 h2 h
    rw [e1, e2] at this
    omega
  · exact h
  · have := List.pairwise_iff_getElem.1 hr b a h2 h1 h
    rw [e1, e2] at this
    omega
theorem crashN_at (hr : Rise CV) (fl : List Int) (i t : Nat) (V : Value) (ht : CV[t]? = some ((i : Int), V)) (hk : ∀ p ∈ CV, 0 ≤ p.1) (hi : i < LV.length) : ∀ j,
    (crashN LV CV fl j).getD i (.slice none 0 0) = if t < j ∧ ¬ fl.getD t 0 = 0 then V else LV.getD i (.slice none 0 0)
  | 0 => by rw [if_neg (by omega)]; rfl
  | j + 1 => by
    have ih := crashN_at hr fl i t V ht hk hi j
    rw [crashN]
    by_cases hf : fl.getD j 0 = 0
    · rw [if_pos hf, ih]
      by_cases e : t = j
      · subst e
        rw [if_neg (by omega), if_neg (by intro h; exact h.2 hf)]
      · by_cases h : t < j ∧ ¬ fl.getD t 0 = 0
        · rw [if_pos h, if_pos ⟨by omega, h.2⟩]
        · rw [if_neg h, if_neg (by intro h2; exact h ⟨by omega, h2.2⟩)]
    · rw [if_neg hf]
      cases hp : CV[j]? with
      | none =>
        have e : ¬ t = j := by rintro rfl; rw [ht] at hp; cases hp
        simp only []
        rw [ih]
        by_cases h : t < j ∧ ¬ fl.getD t 0 = 0
        · rw [if_pos h, if_pos ⟨by omega, h.2⟩]
        · rw [if_neg h, if_neg (by intro h2; exact h ⟨by omega, h2.2⟩)]
      | some p =>
        simp only []
        by_cases e : t = j
        · subst e
          rw [ht] at hp
          injection hp with hp
          subst hp
          rw [if_pos ⟨by omega, hf⟩, List.getD_eq_getElem?_getD, List.getElem?_set, if_pos (by simp), if_pos (by rw [crashN_len]; simpa using hi)]
          rfl
        · have hne : ¬ p.1.toNat = i := by
            intro h
            have h0 := hk p (List.mem_of_getElem? hp)
            exact e (rise_at hr ht hp (show (i : Int) = p.1 by omega))
          rw [List.getD_eq_getElem?_getD, List.getElem?_set, if_neg hne, ← List.getD_eq_getElem?_getD, ih]
          by_cases h : t < j ∧ ¬ fl.getD t 0 = 0
          · rw [if_pos h, if_pos ⟨by omega, h.2⟩]
          · rw [if_neg h, if_neg (by intro h2; exact h ⟨by omega, h2.2⟩)]
theorem crashN_not (fl : List Int) (i : Nat) (hn : ∀ p ∈ CV, 0 ≤ p.1 ∧ p.1 ≠ (i : Int)) : ∀ j, (crashN LV CV fl j).getD i (.slice none 0 0) = LV.getD i (.slice none 0 0)
  | 0 => rfl
  | j + 1 => by
    have ih := crashN_not fl i hn j
    rw [crashN]
    split
    · exact ih
    · split
      · rename_i p hp
        have hm := hn _ (List.mem_of_getElem? hp)
        rw [List.getD_eq_getElem?_getD, List.getElem?_set, if_neg (by omega), ← List.getD_eq_getElem?_getD, ih]
      · exact ih
theorem Fit.crash (h : Fit X w n LV CV f g) (hl : LV.length = n) (hr : Rise CV) (hk : ∀ p ∈ CV, 0 ≤ p.1 ∧ p.1 < n) (fl : List Int) : Fit X w n (crashV LV CV fl) [] (crashB f g fl) (fun _ => none) := by
  refine ⟨fun i hi => ?_, fun i hi => by rw [getA_none.2 (fun p hp => by cases hp)]; trivial⟩
  have hO := h.2 i hi
  have hf := h.1 i hi
  unfold crashV crashB
  cases e : getA CV (i : Int) with
  | none =>
    rw [e] at hO
    have hg : g i = none := by
      cases hg : g i with
      | none => rfl
      | some xs => rw [hg] at hO; exact hO.elim
    rw [crashN_not fl i (fun p hp => ⟨(hk p hp).1, getA_none.1 e p hp⟩), hg]
    split <;> exact hf
  | some V =>
    rw [e] at hO
    obtain ⟨xs, hg⟩ : ∃ xs, g i = some xs := by
      cases hg : g i with
      | none => rw [hg] at hO; exact hO.elim
      | some xs => exact ⟨xs, rfl⟩
    rw [hg] at hO
    have hd := dirtyB_at g n i hi (by rw [hg]; rfl)
    rw [← h.keys hr hk, List.getElem?_map] at hd
    cases hq : CV[cntB g i]? with
    | none => rw [hq] at hd; cases hd
    | some p =>
      rw [hq] at hd
      injection hd with hd
      have hp : p = ((i : Int), V) := by
        have h2 := getA_mem hr (i := p.1) (v := p.2) (List.mem_of_getElem? hq)
        rw [show p.1 = (i : Int) from hd, e] at h2
        injection h2 with h2
        exact Prod.ext hd h2.symm
      rw [hp] at hq
      rw [crashN_at hr fl i _ V hq (fun p hp => (hk p hp).1) (by omega) CV.length, hg]
      have hlt : cntB g i < CV.length := by
        obtain ⟨h1, _⟩ := List.getElem?_eq_some_iff.1 hq
        exact h1
      by_cases hz : fl.getD (cntB g i) 0 = 0
      · rw [if_pos hz, if_neg (fun h => h.2 hz)]
        exact hf
      · rw [if_neg hz, if_pos ⟨hlt, hz⟩]
        exact hO
/-! the methods -/
theorem DBX.lt (h : DBX X w bd bl bc br n f g ar lf of wt rd) : ∀ j, Dst bd bl bc br j → j < w.heap.size := by
  obtain ⟨LV, CV, hd, hf⟩ := h
  exact hd.lt
theorem DBX.ext (h : DBX X w bd bl bc br n f g ar lf of wt rd) (k : Ext w w') : DBX X w' bd bl bc br n f g ar lf of wt rd := by
  obtain ⟨LV, CV, hd, hf⟩ := h
  exact ⟨LV, CV, hd.ext k, hf.map (fun V xs hx => hx.ext k)⟩
/-- Another disk, with nothing in common, stays. -/
theorem DBX.other {bd2 bl2 bc2 br2 n2 : Nat} {f2 : Nat → List Int} {g2 : Nat → Option (List Int)} {ar2 : Bool} {lf2 : Int} {of2 : Bool} {wt2 : Int} {rd2 : List Int} (h2 : DBX X w bd2 bl2 bc2 br2 n2 f2 g2 ar2 lf2 of2 wt2 rd2)
    (h : DBX X w bd bl bc br n f g ar lf of wt rd) (k : Chg w w' (Dst bd bl bc br)) (hs : ∀ j, Dst bd2 bl2 bc2 br2 j → ¬ Dst bd bl bc br j) : DBX X w' bd2 bl2 bc2 br2 n2 f2 g2 ar2 lf2 of2 wt2 rd2 := by
  obtain ⟨LV, CV, hd, hf⟩ := h
  obtain ⟨LV2, CV2, hd2, hf2⟩ := h2
  exact ⟨LV2, CV2, hd2.chg k hs, hf2.map (fun V xs hx => hx.dst hd k)⟩
theorem DBX.byt (h : DBX X w bd bl bc br n f g ar lf of wt rd) {B : Nat} {V : Value} {xs : List Int} (hx : NB w B V xs) (k : Chg w w' (Dst bd bl bc br)) : NB w' B V xs := by
  obtain ⟨LV, CV, hd, hf⟩ := h
  exact hx.chg k (hx.apart hd)
theorem d_spend (h : DBX X w bd bl bc br n f g ar lf of wt rd) : Calls Try.prog 30 #[.pointer (some ⟨bd, 0, none⟩)] w fun e w' => e = .returned (.int .i64 (spendE ar lf of)) ∧ DBX X w' bd bl bc br n f g ar (spendL ar lf of) (downF ar lf of) wt rd ∧ Chg w w' (Dst bd bl bc br) := by
  obtain ⟨LV, CV, hd, hf⟩ := h
  refine (spend_calls hd).mono fun e w' ⟨he, h1, hc⟩ => ?_
  have hc' : Chg w w' (Dst bd bl bc br) := hc.mono (fun k hk => .inl hk)
  exact ⟨he, ⟨LV, CV, h1, hf.map (fun V xs hx => hx.dst hd hc')⟩, hc'⟩
theorem d_arm (h : DBX X w bd bl bc br n f g ar lf of wt rd) (x : Int) : Calls Try.prog 29 #[.pointer (some ⟨bd, 0, none⟩), .int .i64 x] w fun e w' => e = .returned (.tuple #[]) ∧ DBX X w' bd bl bc br n f g (decide (0 ≤ x)) x of wt rd ∧ Chg w w' (Dst bd bl bc br) := by
  obtain ⟨LV, CV, hd, hf⟩ := h
  refine (arm_calls hd x).mono fun e w' ⟨he, h1, hc⟩ => ?_
  have hc' : Chg w w' (Dst bd bl bc br) := hc.mono (fun k hk => .inl hk)
  exact ⟨he, ⟨LV, CV, h1, hf.map (fun V xs hx => hx.dst hd hc')⟩, hc'⟩
theorem d_down (h : DBX X w bd bl bc br n f g ar lf of wt rd) : Calls Try.prog 24 #[.pointer (some ⟨bd, 0, none⟩)] w fun e w' => e = .returned (.bool of) ∧ w = w' := by
  obtain ⟨LV, CV, hd, hf⟩ := h
  exact down_calls hd
theorem d_writes (h : DBX X w bd bl bc br n f g ar lf of wt rd) : Calls Try.prog 26 #[.pointer (some ⟨bd, 0, none⟩)] w fun e w' => e = .returned (.int .i64 wt) ∧ w = w' := by
  obtain ⟨LV, CV, hd, hf⟩ := h
  exact writes_calls hd
theorem d_reads (h : DBX X w bd bl bc br n f g ar lf of wt rd) (i : Int) : Calls Try.prog 25 #[.pointer (some ⟨bd, 0, none⟩), .int .i64 i] w fun e w' => e = .returned (.int .i64 (cntF rd i n)) ∧ w = w' := by
  obtain ⟨LV, CV, hd, hf⟩ := h
  exact reads_calls hd i
theorem d_dirty (h : DBX X w bd bl bc br n f g ar lf of wt rd) : Calls Try.prog 23 #[.pointer (some ⟨bd, 0, none⟩)] w fun e w' => ∃ V, e = .returned V ∧ Kd.R (Kd.int .i64) 3 w' w.heap.size (fun _ => True) V (dirtyB g n) ∧ Ext w w' := by
  obtain ⟨LV, CV, hd, hf⟩ := h
  rw [← hf.keys hd.ks hd.kr]
  exact dirty_calls hd
theorem d_read (h : DBX X w bd bl bc br n f g ar lf of wt rd) (i : Nat) (hi : i < n) : Calls Try.prog 21 #[.pointer (some ⟨bd, 0, none⟩), .int .i64 (i : Int)] w fun e w' => ∃ U, e = .returned (.tuple #[U, .int .i64 0]) ∧ NB w' w.heap.size U (atB f g i) ∧ DBX X w' bd bl bc br n f g ar lf of wt (rd.set i (wrap64 (rd.getD i 0 + 1))) ∧ Chg w w' (Dst bd bl bc br) := by
  obtain ⟨LV, CV, hd, hf⟩ := h
  have hx := hf.at_ i hi
  refine (read_calls hd (i : Int) (by unfold inB; simp; omega) 0 _ hx.1 (by have := hx.2; omega)).mono fun e w' ⟨U, he, hU, h1, hc⟩ => ?_
  rw [Int.toNat_natCast] at h1
  have hc' : Chg w w' (Dst bd bl bc br) := hc.mono (fun k hk => .inr (.inr (.inr hk)))
  exact ⟨U, he, hU, ⟨LV, CV, h1, hf.map (fun V xs hx => hx.dst hd hc')⟩, hc'⟩
theorem d_read_no (h : DBX X w bd bl bc br n f g ar lf of wt rd) (i : Int) (hi : inB i n = false) : Calls Try.prog 21 #[.pointer (some ⟨bd, 0, none⟩), .int .i64 i] w fun e w' => e = .returned (.tuple #[.slice none 0 0, .int .i64 7]) ∧ w = w' := by
  obtain ⟨LV, CV, hd, hf⟩ := h
  exact read_no hd i hi
theorem wrongF_0 {i n m : Nat} (hi : i < n) (hm : m ≤ 1024) : wrongF (i : Int) n m = 0 := by
  unfold wrongF inB
  rw [if_neg (by simp; omega), if_neg (by omega)]
theorem d_write_wrong (h : DBX X w bd bl bc br n f g ar lf false wt rd) (i : Int) (A : Option Addr) (m c : Nat) (q : Int) (hq : wrongF i n m = q) (hq0 : ¬ q = 0) : Calls Try.prog 18 #[.pointer (some ⟨bd, 0, none⟩), .int .i64 i, .slice A m c] w fun e w' => e = .returned (.int .i64 q) ∧ w = w' := by
  obtain ⟨LV, CV, hd, hf⟩ := h
  exact write_wrong hd i A m c q hq hq0
theorem d_write_down (h : DBX X w bd bl bc br n f g ar lf true wt rd) (i : Int) (A : Option Addr) (m c : Nat) : Calls Try.prog 18 #[.pointer (some ⟨bd, 0, none⟩), .int .i64 i, .slice A m c] w fun e w' => e = .returned (.int .i64 12) ∧ w = w' := by
  obtain ⟨LV, CV, hd, hf⟩ := h
  exact write_down hd i A m c
theorem d_write_spent (h : DBX X w bd bl bc br n f g ar lf false wt rd) (i : Nat) (A : Option Addr) (m c : Nat) (hi : i < n) (hm : m ≤ 1024) (hs : downF ar lf false = true) : Calls Try.prog 18 #[.pointer (some ⟨bd, 0, none⟩), .int .i64 (i : Int), .slice A m c] w fun e w' => e = .returned (.int .i64 12) ∧ DBX X w' bd bl bc br n f g ar lf true wt rd ∧ Chg w w' (Dst bd bl bc br) := by
  obtain ⟨LV, CV, hd, hf⟩ := h
  refine (write_spent hd i A m c (wrongF_0 hi hm) hs).mono fun e w' ⟨he, h1, hc⟩ => ?_
  have hc' : Chg w w' (Dst bd bl bc br) := hc.mono (fun k hk => .inl hk)
  exact ⟨he, ⟨LV, CV, h1, hf.map (fun V xs hx => hx.dst hd hc')⟩, hc'⟩
theorem d_writeX (h : DBX X w bd bl bc br n f g ar lf false wt rd) (i : Nat) (A : Option Addr) (m c : Nat) (xs : List Int) (hn : m = xs.length) (hr : Kd.F kb w (fun k => ¬ Dst bd bl bc br k) A m xs) (hc : m ≤ c) (hi : i < n) (hm : m ≤ 1024) (hs : downF ar lf false = false) (hX : ∀ k, X k → k < w.heap.size) : Calls Try.prog 18 #[.pointer (some ⟨bd, 0, none⟩), .int .i64 (i : Int), .slice A m c] w fun e w' => e = .returned (.int .i64 0) ∧ DBX X w' bd bl bc br n f (upd g i (some xs)) ar (wrap64 (lf - 1)) false (wrap64 (wt + 1)) rd ∧ Chg w w' (Dst bd bl bc br) := by
  obtain ⟨LV, CV, hd, hf⟩ := h
  refine (write_ok hd i A m c xs hn hr hc (wrongF_0 hi hm) hs).mono fun e w' ⟨U, he, hU, h1, hc'⟩ => ?_
  exact ⟨he, ⟨LV, _, h1, (hf.map (fun V xs hx => hx.dst hd hc')).put ⟨hU.lower (Nat.zero_le _), by omega, fun k hk hx => by have h1 := Kd.R_base hU k hk; have h2 := hX k hx; omega⟩ i⟩, hc'⟩
theorem d_write (h : DB w bd bl bc br n f g ar lf false wt rd) (i : Nat) (A : Option Addr) (m c : Nat) (xs : List Int) (hn : m = xs.length) (hr : Kd.F kb w (fun k => ¬ Dst bd bl bc br k) A m xs) (hc : m ≤ c) (hi : i < n) (hm : m ≤ 1024) (hs : downF ar lf false = false) : Calls Try.prog 18 #[.pointer (some ⟨bd, 0, none⟩), .int .i64 (i : Int), .slice A m c] w fun e w' => e = .returned (.int .i64 0) ∧ DB w' bd bl bc br n f (upd g i (some xs)) ar (wrap64 (lf - 1)) false (wrap64 (wt + 1)) rd ∧ Chg w w' (Dst bd bl bc br) := d_writeX h i A m c xs hn hr hc hi hm hs (fun k h => h.elim)
theorem d_tamper_wrong (h : DBX X w bd bl bc br n f g ar lf of wt rd) (i : Int) (A : Option Addr) (m c : Nat) (q : Int) (hq : wrongF i n m = q) (hq0 : ¬ q = 0) : Calls Try.prog 28 #[.pointer (some ⟨bd, 0, none⟩), .int .i64 i, .slice A m c] w fun e w' => e = .returned (.int .i64 q) ∧ w = w' := by
  obtain ⟨LV, CV, hd, hf⟩ := h
  exact tamper_wrong hd i A m c q hq hq0
theorem d_tamperX (h : DBX X w bd bl bc br n f g ar lf of wt rd) (i : Nat) (A : Option Addr) (m c : Nat) (xs : List Int) (hn : m = xs.length) (hr : Kd.F kb w (fun k => ¬ Dst bd bl bc br k) A m xs) (hc : m ≤ c) (hi : i < n) (hm : m ≤ 1024) (hX : ∀ k, X k → k < w.heap.size) : Calls Try.prog 28 #[.pointer (some ⟨bd, 0, none⟩), .int .i64 (i : Int), .slice A m c] w fun e w' => e = .returned (.int .i64 0) ∧ DBX X w' bd bl bc br n (upd f i xs) (upd g i none) ar lf of wt rd ∧ Chg w w' (Dst bd bl bc br) := by
  obtain ⟨LV, CV, hd, hf⟩ := h
  refine (tamper_ok hd i A m c xs hn hr hc (wrongF_0 hi hm)).mono fun e w' ⟨U, he, hU, h1, hc'⟩ => ?_
  rw [Int.toNat_natCast] at h1
  exact ⟨he, ⟨_, _, h1, (hf.map (fun V xs hx => hx.dst hd hc')).tam hd.ll ⟨hU.lower (Nat.zero_le _), by omega, fun k hk hx => by have h1 := Kd.R_base hU k hk; have h2 := hX k hx; omega⟩ i⟩, hc'⟩
theorem d_tamper (h : DB w bd bl bc br n f g ar lf of wt rd) (i : Nat) (A : Option Addr) (m c : Nat) (xs : List Int) (hn : m = xs.length) (hr : Kd.F kb w (fun k => ¬ Dst bd bl bc br k) A m xs) (hc : m ≤ c) (hi : i < n) (hm : m ≤ 1024) : Calls Try.prog 28 #[.pointer (some ⟨bd, 0, none⟩), .int .i64 (i : Int), .slice A m c] w fun e w' => e = .returned (.int .i64 0) ∧ DB w' bd bl bc br n (upd f i xs) (upd g i none) ar lf of wt rd ∧ Chg w w' (Dst bd bl bc br) := d_tamperX h i A m c xs hn hr hc hi hm (fun k h => h.elim)
theorem d_sync_spent (h : DBX X w bd bl bc br n f g ar lf of wt rd) (hs : downF ar lf of = true) : Calls Try.prog 19 #[.pointer (some ⟨bd, 0, none⟩)] w fun e w' => e = .returned (.int .i64 12) ∧ DBX X w' bd bl bc br n f g ar lf true wt rd ∧ Chg w w' (Dst bd bl bc br) := by
  obtain ⟨LV, CV, hd, hf⟩ := h
  refine (sync_spent hd hs).mono fun e w' ⟨he, h1, hc⟩ => ?_
  have hc' : Chg w w' (Dst bd bl bc br) := hc.mono (fun k hk => .inl hk)
  exact ⟨he, ⟨LV, CV, h1, hf.map (fun V xs hx => hx.dst hd hc')⟩, hc'⟩
theorem d_sync (h : DBX X w bd bl bc br n f g ar lf of wt rd) (hs : downF ar lf of = false) : Calls Try.prog 19 #[.pointer (some ⟨bd, 0, none⟩)] w fun e w' => e = .returned (.int .i64 0) ∧ DBX X w' bd bl bc br n (atB f g) (fun _ => none) ar (wrap64 (lf - 1)) false wt rd ∧ Chg w w' (Dst bd bl bc br) := by
  obtain ⟨LV, CV, hd, hf⟩ := h
  refine (sync_ok hd hs).mono fun e w' ⟨he, h1, hc'⟩ => ?_
  exact ⟨he, ⟨_, _, h1, (hf.map (fun V xs hx => hx.dst hd hc')).sync hd.ll⟩, hc'⟩
theorem d_crash (h : DBX X w bd bl bc br n f g ar lf of wt rd) (A : Option Addr) (m c : Nat) (fl : List Int) (hn : m = fl.length) (hr : Kd.F kI w (fun k => ¬ Dst bd bl bc br k) A m fl) (hc : m ≤ c) : Calls Try.prog 20 #[.pointer (some ⟨bd, 0, none⟩), .slice A m c] w fun e w' => e = .returned (.tuple #[]) ∧ DBX X w' bd bl bc br n (crashB f g fl) (fun _ => none) false lf false wt rd ∧ Chg w w' (Dst bd bl bc br) := by
  obtain ⟨LV, CV, hd, hf⟩ := h
  refine (crash_calls hd A m c fl hn hr hc).mono fun e w' ⟨he, h1, hc'⟩ => ?_
  exact ⟨he, ⟨_, _, h1, (hf.map (fun V xs hx => hx.dst hd hc')).crash hd.ll hd.ks hd.kr fl⟩, hc'⟩
end
theorem d_new (w : World) (n : Nat) (h0 : 1 ≤ n) (h1 : n ≤ 4096) : Calls Try.prog 15 #[.int .i64 n] w fun e w' => ∃ bd bl bc br, e = .returned (.tuple #[.pointer (some ⟨bd, 0, none⟩), .int .i64 0]) ∧
    DB w' bd bl bc br n (fun _ => []) (fun _ => none) false 0 false 0 (List.replicate n 0) ∧ Ext w w' ∧ (∀ k, Dst bd bl bc br k → w.heap.size ≤ k) := by
  refine (new_ok w n h0 h1).mono fun e w' ⟨bd, bl, bc, br, he, hd, hE, hk⟩ => ⟨bd, bl, bc, br, he, ⟨_, _, hd, fun i hi => ?_, fun i hi => ?_⟩, hE, hk⟩
  · rw [List.getD_eq_getElem?_getD, List.getElem?_replicate, if_pos hi]
    exact Kx.nil w'
  · rw [getA_none.2 (fun p hp => by cases hp)]
    trivial
section
variable {w w' : World} {bd bl bc br n : Nat} {f : Nat → List Int} {g : Nat → Option (List Int)} {ar : Bool} {lf : Int} {of : Bool} {wt : Int} {rd : List Int}
theorem NB.blt {w : World} {B : Nat} {V : Value} {xs : List Int} (h : NB w B V xs) : ∀ k, V.ownBlock = some k → k < w.heap.size := fun k hk => Kd.R_lt h k hk
theorem OptR.to {Y : Nat → Prop} {a : Option Value} {b : Option (List Int)} (h : OptR X w a b) (k : ∀ V xs, Kx X w V xs → Kx Y w V xs) : OptR Y w a b := by
  cases a <;> cases b <;> first | exact h | exact k _ _ h
theorem Fit.to {Y : Nat → Prop} {LV : List Value} {CV : List (Int × Value)} (h : Fit X w n LV CV f g) (k : ∀ V xs, Kx X w V xs → Kx Y w V xs) : Fit Y w n LV CV f g := ⟨fun i hi => k _ _ (h.1 i hi), fun i hi => (h.2 i hi).to k⟩
theorem Kx.off {V : Value} {xs : List Int} {Y : Nat → Prop} (h : Kx X w V xs) (hY : ∀ k, Y k → w.heap.size ≤ k) : Kx Y w V xs := ⟨h.1, h.2.1, fun k hk hy => by
  have h1 := h.1.blt k hk
  have h2 := hY k hy
  omega⟩
theorem Kx.sub {V : Value} {xs : List Int} {Y : Nat → Prop} (h : Kx X w V xs) (hY : ∀ k, Y k → X k) : Kx Y w V xs := ⟨h.1, h.2.1, fun k hk hy => h.2.2 k hk (hY k hy)⟩
theorem Kx.spoil {V : Value} {xs : List Int} {S : Nat → Prop} (h : Kx X w V xs) (k : Chg w w' S) (hS : ∀ j, S j → X j) : Kx X w' V xs := ⟨h.1.chg k (fun j hj hs => h.2.2 j hj (hS j hs)), h.2⟩
/-- Blocks that are still to come are in no use. -/
theorem DBX.off {Y : Nat → Prop} (h : DBX X w bd bl bc br n f g ar lf of wt rd) (hY : ∀ k, Y k → w.heap.size ≤ k) : DBX Y w bd bl bc br n f g ar lf of wt rd := by
  obtain ⟨LV, CV, h1, h2⟩ := h
  exact ⟨LV, CV, h1, h2.to (fun V xs hx => hx.off hY)⟩
theorem DBX.sub {Y : Nat → Prop} (h : DBX X w bd bl bc br n f g ar lf of wt rd) (hY : ∀ k, Y k → X k) : DBX Y w bd bl bc br n f g ar lf of wt rd := by
  obtain ⟨LV, CV, h1, h2⟩ := h
  exact ⟨LV, CV, h1, h2.to (fun V xs hx => hx.sub hY)⟩
/-- What is not in use may be written over. -/
theorem DBX.spoil {S : Nat → Prop} (h : DBX X w bd bl bc br n f g ar lf of wt rd) (k : Chg w w' S) (hS : ∀ j, S j → X j) (hd : ∀ j, Dst bd bl bc br j → ¬ S j) : DBX X w' bd bl bc br n f g ar lf of wt rd := by
  obtain ⟨LV, CV, h1, h2⟩ := h
  exact ⟨LV, CV, h1.chg k hd, h2.map (fun V xs hx => hx.spoil k hS)⟩
end
/-! SameInts -/
theorem sameI_loop (x y : List Int) (hn : x.length = y.length) (hm : x.length ≤ 9223372036854775806) : ∀ (d k : Nat) (i : Int), 0 ≤ i → i ≤ x.length → x.length - i.toNat = d → d < k → PDiskPlays.rillkit_SameInts.l0 k x y i = some (decide (x.drop i.toNat = y.drop i.toNat)) := by
  intro d
  induction d with
  | zero =>
    intro k i h0 h1 hd hk
    obtain ⟨k, rfl⟩ : ∃ m, k = m + 1 := ⟨k - 1, by omega⟩
    simp only [PDiskPlays.rillkit_SameInts.l0]
    rw [if_neg (by omega), List.drop_of_length_le (by omega), List.drop_of_length_le (by omega)]
    simp
  | succ d ih =>
    intro k i h0 h1 hd hk
    obtain ⟨k, rfl⟩ : ∃ m, k = m + 1 := ⟨k - 1, by omega⟩
    simp only [PDiskPlays.rillkit_SameInts.l0]
    rw [if_pos (by omega), if_pos h0, if_pos (by omega), rd_at x i h0 (by omega), rd_at y i h0 (by omega)]
    by_cases e : rd x i = rd y i
    · rw [if_pos e, wrap64_in (by omega) (by omega), ih k (i + 1) (by omega) (by omega) (by omega) (by omega), e]
      simp
    · rw [if_neg e]
      simp [e]
theorem sameI_eq (k : Nat) (x y : List Int) (hm : x.length ≤ 9223372036854775806) (hk : x.length < k) : PDiskPlays.rillkit_SameInts.f k x y = some (decide (x = y)) := by
  unfold PDiskPlays.rillkit_SameInts.f
  by_cases h : x.length = y.length
  · rw [if_pos (by omega), sameI_loop x y h hm x.length k 0 (by omega) (by omega) (by omega) hk]
    simp
  · rw [if_neg (by omega)]
    have : x ≠ y := fun e => h (by rw [e])
    simp [this]
theorem sameI_at (w : World) (A B : Option Addr) (c d : Nat) (xs ys : List Int) (b : Bool) {n m : Nat} (hn : n = xs.length) (hm : m = ys.length) (hb : b = decide (xs = ys)) (hr : Kd.C kI w A n xs) (hc : n ≤ c) (hr' : Kd.C kI w B m ys) (hc' : m ≤ d) (hl : xs.length ≤ 9223372036854775806) :
    Calls Try.prog 27 #[.slice A n c, .slice B m d] w fun e w' => e = .returned (.bool b) ∧ Ext w w' := by
  subst hn; subst hm; subst hb
  exact (PDiskPlays.rillkit_SameInts.calls (xs.length + 1) A c xs B d ys _ w hr hc hr' hc' (sameI_eq _ xs ys hl (by omega))).mono fun e w' h => ⟨h.1, h.2.below⟩
end Go.Proofs.Ytkgjcmolmogpdaa.By
