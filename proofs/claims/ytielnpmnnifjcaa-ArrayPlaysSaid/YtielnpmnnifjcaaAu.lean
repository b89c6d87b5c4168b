/- An array at the level of its changes. -/
import Derived.Test.YtielnpmnnifjcaaAt
namespace Go.Proofs.Ytielnpmnnifjcaa.By
open Go.RowKit Go.Proofs.Ytielnpmnnifjcaa.Reg Go.Proofs.YtielnpmnnifjcaaW.PrintWords Go.Proofs.YtielnpmnnifjcaaW.PrintLast Go.Proofs.YtielnpmnnifjcaaW.PrintMore
set_option linter.unusedVariables false
set_option linter.unusedSimpArgs false


def Ast (ba : Nat) (V : Value) (j : Nat) : Prop := j = ba ∨ V.ownBlock = some j
/-- An array to which the changes L were done, of which the first last ones last. -/
structure AR (w : World) (B ba n : Nat) (V : Value) (L : List Ch) (last : Nat) : Prop where
  av : AV w ba n (aftR zR (L.take last)) (aftM zM (L.take last)) (aftR zR L) (aftM zM L) V
  orr : OR w V (L.drop last)
  le : last ≤ L.length
  ok : ∀ p ∈ L, okC n p
  n64 : n ≤ 64
  ll : L.length ≤ 1000
  bb : ∀ j, Ast ba V j → B ≤ j
theorem nilV (k : Nat) : (Value.slice none 0 0).ownBlock ≠ some k := by simp [Value.ownBlock]
section
variable {w w' : World} {B ba n : Nat} {V : Value} {L : List Ch} {last : Nat}
theorem AR.ext (h : AR w B ba n V L last) (he : Ext w w') : AR w' B ba n V L last := ⟨h.av.ext he, h.orr.ext he, h.le, h.ok, h.n64, h.ll, h.bb⟩
theorem AR.chg {S : Nat → Prop} (h : AR w B ba n V L last) (k : Chg w w' S) (hn : ∀ j, Ast ba V j → ¬ S j) : AR w' B ba n V L last :=
  ⟨h.av.chg k (hn ba (.inl rfl)), h.orr.chg k (fun j hj => hn j (.inr hj)), h.le, h.ok, h.n64, h.ll, h.bb⟩
theorem AR.lt (h : AR w B ba n V L last) : ∀ j, Ast ba V j → j < w.heap.size := by
  rintro j (rfl | hj)
  · exact h.av.lt
  · exact h.orr.blt j hj
theorem AR.sl (h : AR w B ba n V L last) : ∃ A c, V = .slice A (L.length - last) c := by
  obtain ⟨A, c, e, _, _⟩ := h.orr.nat rfl
  rw [List.length_drop] at e
  exact ⟨A, c, e⟩
theorem ar_new (w : World) (z : Int) (B : Nat) (hB : B ≤ w.heap.size) : Calls Try.prog 6 #[.int .i64 z] w fun e w' => ∃ ba, e = .returned (.pointer (some ⟨ba, 0, none⟩)) ∧ AR w' B ba (clampN z) (.slice none 0 0) [] 0 ∧ Ext w w' ∧ w.heap.size ≤ ba := by
  refine (anew_calls w z).mono fun e w' ⟨ba, he, hv, hE, hb⟩ => ⟨ba, he, ⟨hv, OR.nil w', Nat.le_refl _, fun p hp => (by cases hp), clampN_le z, by simp, ?_⟩, hE, hb⟩
  rintro j (rfl | hj)
  · omega
  · exact absurd hj (nilV j)
theorem ar_open (h : AR w B ba n V L last) : Calls Try.prog 13 #[.pointer (some ⟨ba, 0, none⟩)] w fun e w' => e = .returned (.int .i64 ((L.length - last : Nat) : Int)) ∧ w = w' := by
  obtain ⟨A, c, e⟩ := h.sl
  have := h.av
  rw [e] at this
  exact aopen_calls this
theorem ar_read_no (h : AR w B ba n V L last) (i : Int) (hi : i < 0 ∨ (n : Int) ≤ i) : Calls Try.prog 12 #[.pointer (some ⟨ba, 0, none⟩), .int .i64 i] w fun e w' => e = .returned (.tuple #[.slice none 0 0, .bool false]) ∧ w = w' := aread_no h.av i hi
theorem ar_read (h : AR w B ba n V L last) (i : Nat) (hi : i < n) : Calls Try.prog 12 #[.pointer (some ⟨ba, 0, none⟩), .int .i64 (i : Int)] w fun e w' => ∃ U, e = .returned (.tuple #[U, .bool (aftM zM L i)]) ∧ NB w' w.heap.size U (aftR zR L i) ∧ Ext w w' := aread_ok h.av i hi h.n64
theorem ar_mapped (h : AR w B ba n V L last) : Calls Try.prog 14 #[.pointer (some ⟨ba, 0, none⟩)] w fun e w' => e = .returned (.int .i64 (cntM (aftM zM L) 64)) ∧ w = w' := amapped_calls h.av
theorem ar_rows (h : AR w B ba n V L last) : Calls Try.prog 8 #[.pointer (some ⟨ba, 0, none⟩)] w fun e w' => ∃ U, e = .returned U ∧ NRs w' w.heap.size U (rowsOf (aftR zR L) n) ∧ Ext w w' := arows_calls h.av h.n64
theorem ar_sync (h : AR w B ba n V L last) : Calls Try.prog 23 #[.pointer (some ⟨ba, 0, none⟩)] w fun e w' => e = .returned (.tuple #[]) ∧ AR w' B ba n (.slice none 0 0) L L.length ∧ Chg w w' (Ast ba V) := by
  refine (async_calls h.av).mono fun e w' ⟨he, hv, hc⟩ => ⟨he, ⟨by rw [List.take_length]; exact hv, by rw [List.drop_length]; exact OR.nil w', Nat.le_refl _, h.ok, h.n64, h.ll, ?_⟩, hc.mono (fun j hj => .inl hj)⟩
  rintro j (rfl | hj)
  · exact h.bb _ (.inl rfl)
  · exact absurd hj (nilV j)
theorem ar_fall_no (h : AR w B ba n V L last) (m : Int) (hm : m < 0 ∨ ((L.length - last : Nat) : Int) < m) : Calls Try.prog 11 #[.pointer (some ⟨ba, 0, none⟩), .int .i64 m] w fun e w' => e = .returned (.int .i64 7) ∧ w = w' := by
  obtain ⟨A, c, e⟩ := h.sl
  have := h.av
  rw [e] at this
  exact afall_no this m hm
theorem aft_two (R : Nat → List Int) (L : List Ch) (a m : Nat) : aftR (aftR R (L.take a)) ((L.drop a).take m) = aftR R (L.take (a + m)) := by
  unfold aftR
  rw [← List.foldl_append, List.take_add]
theorem aftM_two (M : Nat → Bool) (L : List Ch) (a m : Nat) : aftM (aftM M (L.take a)) ((L.drop a).take m) = aftM M (L.take (a + m)) := by
  unfold aftM
  rw [← List.foldl_append, List.take_add]
theorem ar_fall (h : AR w B ba n V L last) (m : Nat) (hm : m ≤ L.length - last) : Calls Try.prog 11 #[.pointer (some ⟨ba, 0, none⟩), .int .i64 (m : Int)] w fun e w' => e = .returned (.int .i64 0) ∧ AR w' B ba n (.slice none 0 0) (L.take (last + m)) (last + m) ∧ Chg w w' (Ast ba V) := by
  obtain ⟨A, c, e⟩ := h.sl
  have h1 := h.av
  have h2 := h.orr
  have hle := h.le
  have hlen : (L.take (last + m)).length = last + m := by rw [List.length_take]; omega
  rw [e] at h1 h2
  refine (afall_ok h1 h2 (by rw [List.length_drop]) (fun p hp => h.ok p (List.mem_of_mem_drop hp)) h.n64 m hm (by have := h.ll; omega)).mono fun e w' ⟨he, hv, hc⟩ => ⟨he, ⟨?_, ?_, by omega, fun p hp => h.ok p (List.mem_of_mem_take hp), h.n64, by have := h.ll; omega, ?_⟩, hc.mono (fun j hj => .inl hj)⟩
  · rw [aft_two, aftM_two] at hv
    rw [List.take_of_length_le (by omega)]
    exact hv
  · rw [List.drop_of_length_le (by omega)]
    exact OR.nil w'
  · rintro j (rfl | hj)
    · exact h.bb _ (.inl rfl)
    · exact absurd hj (nilV j)
/-- What Match finds: the least number of open changes behind which the blocks are these. -/
def AQ (n : Nat) (L : List Ch) (last : Nat) (rows : List (List Int)) (k : Nat) (ok : Bool) : Prop := MQ n (aftR zR (L.take last)) (L.drop last) rows k ok
theorem ar_match (h : AR w B ba n V L last) (Ar : Option Addr) (m cr : Nat) (rows : List (List Int)) (hm : m = rows.length) (hr : Kd.C kBB w Ar m rows) (hcr : m ≤ cr) :
    Calls Try.prog 7 #[.pointer (some ⟨ba, 0, none⟩), .slice Ar m cr] w fun e w' => ∃ k ok, e = .returned (.tuple #[.int .i64 ((k : Nat) : Int), .bool ok]) ∧ AQ n L last rows k ok ∧ Ext w w' := by
  obtain ⟨A, c, e⟩ := h.sl
  have h1 := h.av
  have h2 := h.orr
  rw [e] at h1 h2
  exact amatch_calls h1 h2 (by rw [List.length_drop]) (fun p hp => h.ok p (List.mem_of_mem_drop hp)) h.n64 (by have := h.ll; omega) Ar m cr rows hm hr hcr
theorem ar_match_at (h : AR w B ba n V L last) (Ar : Option Addr) (m cr : Nat) (rows : List (List Int)) (hm : m = rows.length) (hr : Kd.C kBB w Ar m rows) (hcr : m ≤ cr) (k : Nat) (ok : Bool) (hq : AQ n L last rows k ok) :
    Calls Try.prog 7 #[.pointer (some ⟨ba, 0, none⟩), .slice Ar m cr] w fun e w' => e = .returned (.tuple #[.int .i64 (k : Int), .bool ok]) ∧ Ext w w' :=
  (ar_match h Ar m cr rows hm hr hcr).mono fun e w' ⟨k', ok', he, h1, h2⟩ => by
    obtain ⟨a, b⟩ := h1.one hq
    subst a b
    exact ⟨he, h2⟩
theorem drop_snoc (L : List Ch) (last : Nat) (p : Ch) (h : last ≤ L.length) : (L ++ [p]).drop last = L.drop last ++ [p] := List.drop_append_of_le_length h
theorem take_snoc (L : List Ch) (last : Nat) (p : Ch) (h : last ≤ L.length) : (L ++ [p]).take last = L.take last := List.take_append_of_le_length h
theorem ar_do_t (h : AR w B ba n V L last) (hl : L.length ≤ 900) (k : Nat) (hk : k < n) (A : Option Addr) (c : Nat) (hB : B ≤ w.heap.size) :
    Calls Try.prog 9 #[.pointer (some ⟨ba, 0, none⟩), .agg #[.bool true, .int .i64 (k : Int), .slice A 0 c]] w fun e w' => ∃ V', e = .returned (.int .i64 0) ∧ AR w' B ba n V' (L ++ [(true, (k : Int), z32)]) last ∧ Chg w w' (Ast ba V) ∧ OwnQ V w.heap.size V' := by
  have hle := h.le
  have h0 : Kd.C kb w A 0 [] := ⟨rfl, by decide, fun h => absurd h (by decide)⟩
  refine (ado_t_ok h.av h.orr (by rw [List.length_drop]; omega) h.n64 k hk A c [] rfl h0 (Nat.zero_le _)).mono fun e w' ⟨V', he, hv, ho, hc, hq⟩ => ⟨V', he, ⟨?_, ?_, by rw [List.length_append]; omega, ?_, h.n64, by rw [List.length_append]; simp only [List.length_singleton]; omega, ?_⟩, hc, hq⟩
  · rw [take_snoc L last _ hle, aftR_snoc, aftM_snoc]
    exact hv
  · rw [drop_snoc L last _ hle]
    exact ho
  · intro p hp
    rcases List.mem_append.1 hp with hp | hp
    · exact h.ok p hp
    · rw [List.mem_singleton.1 hp]
      exact ⟨by dsimp only; omega, by dsimp only; omega, z32_len⟩
  · rintro j (rfl | hj)
    · exact h.bb _ (.inl rfl)
    · rcases hq with hq | ⟨b, hb, hn⟩
      · exact h.bb j (.inr (hq ▸ hj))
      · rw [hb] at hj
        injection hj with hj
        omega
theorem ar_do_w (h : AR w B ba n V L last) (hl : L.length ≤ 900) (k : Nat) (hk : k < n) (A : Option Addr) (c : Nat) (xs : List Int) (hx : xs.length = 32) (hr : Kd.C kb w A 32 xs) (hc : 32 ≤ c) (hB : B ≤ w.heap.size) :
    Calls Try.prog 9 #[.pointer (some ⟨ba, 0, none⟩), .agg #[.bool false, .int .i64 (k : Int), .slice A 32 c]] w fun e w' => ∃ V', e = .returned (.int .i64 0) ∧ AR w' B ba n V' (L ++ [(false, (k : Int), xs)]) last ∧ Chg w w' (Ast ba V) ∧ OwnQ V w.heap.size V' := by
  have hle := h.le
  refine (ado_w_ok h.av h.orr (by rw [List.length_drop]; omega) h.n64 k hk A c xs hx hr hc).mono fun e w' ⟨V', he, hv, ho, hc, hq⟩ => ⟨V', he, ⟨?_, ?_, by rw [List.length_append]; omega, ?_, h.n64, by rw [List.length_append]; simp only [List.length_singleton]; omega, ?_⟩, hc, hq⟩
  · rw [take_snoc L last _ hle, aftR_snoc, aftM_snoc]
    exact hv
  · rw [drop_snoc L last _ hle]
    exact ho
  · intro p hp
    rcases List.mem_append.1 hp with hp | hp
    · exact h.ok p hp
    · rw [List.mem_singleton.1 hp]
      exact ⟨by dsimp only; omega, by dsimp only; omega, hx⟩
  · rintro j (rfl | hj)
    · exact h.bb _ (.inl rfl)
    · rcases hq with hq | ⟨b, hb, hn⟩
      · exact h.bb j (.inr (hq ▸ hj))
      · rw [hb] at hj
        injection hj with hj
        omega
/-- A change that may not be. -/
theorem ar_do_bad (h : AR w B ba n V L last) (trim : Bool) (k : Int) (A : Option Addr) (m c : Nat) (hb : k < 0 ∨ (n : Int) ≤ k ∨ ¬ m = if trim = true then 0 else 32) :
    Calls Try.prog 9 #[.pointer (some ⟨ba, 0, none⟩), .agg #[.bool trim, .int .i64 k, .slice A m c]] w fun e w' => e = .returned (.int .i64 1) ∧ Ext w w' := by
  by_cases h0 : k < 0
  · cases trim with
    | true => exact ado_t_neg h.av k A m c h0
    | false => exact ado_w_neg h.av k A m c h0
  · by_cases h1 : (n : Int) ≤ k
    · cases trim with
      | true => exact ado_t_ge h.av k A m c (by omega) h1
      | false => exact ado_w_ge h.av k A m c (by omega) h1
    · have h2 : ¬ m = if trim = true then 0 else 32 := by
        rcases hb with hb | hb | hb
        · exact absurd hb h0
        · exact absurd hb h1
        · exact hb
      cases trim with
      | true => exact ado_t_len h.av k A m c (by omega) (by omega) (by simpa using h2)
      | false => exact ado_w_len h.av k A m c (by omega) (by omega) (by simpa using h2)
end
end Go.Proofs.Ytielnpmnnifjcaa.By
