/- What a reader reads, as plain functions; the readers' contracts in these words. -/
import Derived.Test.YthgdjgnbifakbaaThing
import Derived.WalkMore
namespace Go.Proofs.Ythgdjgnbifakbaa.By
open Go.RowKit Go.Proofs.Ythgdjgnbifakbaa.Reg Go.Proofs.YthgdjgnbifakbaaW.PrintWords Go.Proofs.YthgdjgnbifakbaaW.PrintLast Go.Proofs.YthgdjgnbifakbaaW.PrintMore
set_option linter.unusedVariables false

abbrev RS := List Int × Bool
def RS.short (s : RS) (n : Nat) : Bool := s.2 || decide (s.1.length < n)
def tkInt (s : RS) : Int × RS := if s.short 8 = true then (0, s.1, true) else (numI (s.1.take 8), s.1.drop 8, false)
theorem short_spec (s : RS) (n : Nat) : s.short n = true ↔ s.2 = true ∨ s.1.length < n := by simp [RS.short]
theorem tkInt_isB {s : RS} (h : isB s.1) : isB (tkInt s).2.1 := by
  unfold tkInt
  split
  · exact h
  · exact h.drop 8
def tkSum (s : RS) : List Int × RS := if s.short 32 = true then (zero32, s.1, true) else (s.1.take 32, s.1.drop 32, false)
theorem tkSum_isB {s : RS} (h : isB s.1) : isB (tkSum s).2.1 := by
  unfold tkSum
  split
  · exact h
  · exact h.drop 32
section
variable (w : World) (lo hi b : Nat) (s : RS)
theorem tkint_calls (h : Rd w lo hi b s.1 s.2) (hB : isB s.1) : Calls Try.prog 28 #[.pointer (some ⟨b, 0, none⟩)] w fun e w' => e = .returned (.int .i64 (tkInt s).1) ∧ Rd w' lo hi b (tkInt s).2.1 (tkInt s).2.2 ∧ Tch w w' lo hi := by
  by_cases hs : s.short 8 = true
  · have e : tkInt s = (0, s.1, true) := by unfold tkInt; rw [if_pos hs]
    rw [e]
    exact rdint_bad w lo hi b s.1 s.2 h ((short_spec s 8).1 hs)
  · have e : tkInt s = (numI (s.1.take 8), s.1.drop 8, false) := by unfold tkInt; rw [if_neg hs]
    rw [e]
    have h2 : s.2 = false := by cases hb : s.2 with | false => rfl | true => exact absurd ((short_spec s 8).2 (.inl hb)) hs
    rw [h2] at h
    exact rdint_ok w lo hi b s.1 h hB (by rcases Nat.lt_or_ge s.1.length 8 with hh | hh; exact absurd ((short_spec s 8).2 (.inr hh)) hs; exact hh)
theorem tksum_calls (h : Rd w lo hi b s.1 s.2) (hB : isB s.1) : Calls Try.prog 29 #[.pointer (some ⟨b, 0, none⟩)] w fun e w' => e = .returned (sumV (tkSum s).1) ∧ Rd w' lo hi b (tkSum s).2.1 (tkSum s).2.2 ∧ Tch w w' lo hi := by
  by_cases hs : s.short 32 = true
  · have e : tkSum s = (zero32, s.1, true) := by unfold tkSum; rw [if_pos hs]
    rw [e]
    exact rdsum_bad w lo hi b s.1 s.2 h ((short_spec s 32).1 hs)
  · have e : tkSum s = (s.1.take 32, s.1.drop 32, false) := by unfold tkSum; rw [if_neg hs]
    rw [e]
    have h2 : s.2 = false := by cases hb : s.2 with | false => rfl | true => exact absurd ((short_spec s 32).2 (.inl hb)) hs
    rw [h2] at h
    exact rdsum_ok w lo hi b s.1 h hB (by rcases Nat.lt_or_ge s.1.length 32 with hh | hh; exact absurd ((short_spec s 32).2 (.inr hh)) hs; exact hh)
def Rq (w : World) (lo hi b : Nat) (bs : List Int) (s : RS) : Prop := ∃ p : Int, 0 ≤ p ∧ p ≤ bs.length ∧ s.1 = bs.drop p.toNat ∧ Rr w lo hi b bs p s.2
theorem rtkint_calls (bs : List Int) (h : Rq w lo hi b bs s) (hB : isB bs) : Calls Try.prog 38 #[.pointer (some ⟨b, 0, none⟩)] w fun e w' => e = .returned (.int .i64 (tkInt s).1) ∧ Rq w' lo hi b bs (tkInt s).2 ∧ Tch w w' lo hi := by
  obtain ⟨p, h0, h1, h2, h3⟩ := h
  have hlen : s.1.length = bs.length - p.toNat := by rw [h2, List.length_drop]
  by_cases hs : s.short 8 = true
  · have e : tkInt s = (0, s.1, true) := by unfold tkInt; rw [if_pos hs]
    rw [e]
    exact (rint_bad w lo hi b bs p s.2 h3 h0 h1 (((short_spec s 8).1 hs).imp id (fun h => by omega))).mono fun e w' h => ⟨h.1, ⟨p, h0, h1, h2, h.2.1⟩, h.2.2⟩
  · have e : tkInt s = (numI (s.1.take 8), s.1.drop 8, false) := by unfold tkInt; rw [if_neg hs]
    rw [e]
    have hb : s.2 = false := by cases hb : s.2 with | false => rfl | true => exact absurd ((short_spec s 8).2 (.inl hb)) hs
    rw [hb] at h3
    have hl : 8 ≤ s.1.length := by rcases Nat.lt_or_ge s.1.length 8 with hh | hh; exact absurd ((short_spec s 8).2 (.inr hh)) hs; exact hh
    refine (rint_ok w lo hi b bs p h3 h0 hB (by omega)).mono fun e w' h => ⟨by rw [h.1, h2], ⟨p + 8, by omega, by omega, ?_, h.2.1⟩, h.2.2⟩
    show s.1.drop 8 = _
    rw [h2, List.drop_drop, show (p + 8).toNat = p.toNat + 8 by omega]
theorem rtksum_calls (bs : List Int) (h : Rq w lo hi b bs s) (hB : isB bs) : Calls Try.prog 39 #[.pointer (some ⟨b, 0, none⟩)] w fun e w' => e = .returned (sumV (tkSum s).1) ∧ Rq w' lo hi b bs (tkSum s).2 ∧ Tch w w' lo hi := by
  obtain ⟨p, h0, h1, h2, h3⟩ := h
  have hlen : s.1.length = bs.length - p.toNat := by rw [h2, List.length_drop]
  by_cases hs : s.short 32 = true
  · have e : tkSum s = (zero32, s.1, true) := by unfold tkSum; rw [if_pos hs]
    rw [e]
    exact (rsumr_bad w lo hi b bs p s.2 h3 h0 h1 (((short_spec s 32).1 hs).imp id (fun h => by omega))).mono fun e w' h => ⟨h.1, ⟨p, h0, h1, h2, h.2.1⟩, h.2.2⟩
  · have e : tkSum s = (s.1.take 32, s.1.drop 32, false) := by unfold tkSum; rw [if_neg hs]
    rw [e]
    have hb : s.2 = false := by cases hb : s.2 with | false => rfl | true => exact absurd ((short_spec s 32).2 (.inl hb)) hs
    rw [hb] at h3
    have hl : 32 ≤ s.1.length := by rcases Nat.lt_or_ge s.1.length 32 with hh | hh; exact absurd ((short_spec s 32).2 (.inr hh)) hs; exact hh
    refine (rsumr_ok w lo hi b bs p h3 h0 (by omega)).mono fun e w' h => ⟨by rw [h.1, h2], ⟨p + 32, by omega, by omega, ?_, h.2.1⟩, h.2.2⟩
    show s.1.drop 32 = _
    rw [h2, List.drop_drop, show (p + 32).toNat = p.toNat + 32 by omega]
end
end Go.Proofs.Ythgdjgnbifakbaa.By

/- What is wrong with a summary: batch.Check, and the document's Check. -/
namespace Go.Proofs.Ythgdjgnbifakbaa.By
open Go.RowKit Go.Proofs.Ythgdjgnbifakbaa.Reg Go.Proofs.YthgdjgnbifakbaaW.PrintWords Go.Proofs.YthgdjgnbifakbaaW.PrintLast Go.Proofs.YthgdjgnbifakbaaW.PrintMore
set_option linter.unusedVariables false
set_option linter.unusedSimpArgs false

/-! entries (kind, block, slot, digest) and summaries -/
def smyC (st : Int) (pr : List Int) (nx : Int) (V : Value) : List Value := .int .i64 st :: (nums .u8 pr ++ [.int .i64 nx, V])
def smyV (st : Int) (pr : List Int) (nx : Int) (V : Value) : Value := .agg (smyC st pr nx V).toArray
theorem smyC_len {st nx : Int} {pr : List Int} {V : Value} (h : pr.length = 32) : (smyC st pr nx V).length = 35 := by simp [smyC, nums_length, h]
theorem smyBlk {w : World} {b : Nat} {st nx : Int} {pr : List Int} {V : Value} {t : TypeId} (h : Blk w b (smyC st pr nx V).toArray t) (hp : pr.length = 32) :
    w.cell? ⟨b, 0, none⟩ = some (.int .i64 st) ∧ w.rangeAt b 1 (nums .u8 pr) ∧ w.cell? ⟨b, 33, none⟩ = some (.int .i64 nx) ∧ w.cell? ⟨b, 34, none⟩ = some V := by
  have hl : (nums .u8 pr).length = 32 := by rw [nums_length, hp]
  refine ⟨h.cell 0 rfl, h.range 1 (nums .u8 pr) [.int .i64 nx, V] (by simp [smyC]), h.cell 33 ?_, h.cell 34 ?_⟩
  · rw [List.getElem?_toArray, smyC, List.getElem?_cons_succ, List.getElem?_append_right (by omega), hl]; rfl
  · rw [List.getElem?_toArray, smyC, List.getElem?_cons_succ, List.getElem?_append_right (by omega), hl]; rfl
theorem smyC_one (st nx : Int) (pr : List Int) (A : Option Addr) (n c : Nat) : ∀ v ∈ smyC st pr nx (.slice A n c), v.oneCell' = true := by
  intro v hv
  simp only [smyC, nums, List.mem_cons, List.mem_append, List.mem_map, List.not_mem_nil, or_false] at hv
  rcases hv with rfl | ⟨x, _, rfl⟩ | rfl | rfl <;> rfl
theorem thC_len {e : Th} (h : e.2.2.2.length = 32) : (thC e).length = 35 := by simp [thC, refC, nums_length, h]
theorem thC_one (e : Th) : ∀ v ∈ thC e, v.oneCell' = true := by
  intro v hv
  simp only [thC, refC, nums, List.mem_cons, List.mem_map] at hv
  rcases hv with rfl | rfl | rfl | ⟨x, _, rfl⟩ <;> rfl
theorem thBlk {w : World} {b : Nat} {e : Th} {t : TypeId} (h : Blk w b (thC e).toArray t) :
    w.cell? ⟨b, 0, none⟩ = some (.int .i64 e.1) ∧ w.cell? ⟨b, 1, none⟩ = some (.int .i64 e.2.1) ∧ w.cell? ⟨b, 2, none⟩ = some (.int .i64 e.2.2.1) ∧ w.rangeAt b 3 (nums .u8 e.2.2.2) ∧ w.rangeAt b 0 (thC e) :=
  ⟨h.cell 0 rfl, h.cell 1 rfl, h.cell 2 rfl, h.range 3 _ [] (by simp [thC, refC]), h.range 0 _ [] (by simp)⟩
def placedF (e : Th) : Bool := ((decide (0 ≤ e.2.1) && decide (e.2.1 ≤ if e.1 = 3 then 8 else 63)) && (decide (0 ≤ e.2.2.1) && decide (e.2.2.1 ≤ 63))) && (e.1 != 2 || (e.2.2.1 == 0 && decide (e.2.2.2 = zero32)))
def chkE (e : Th) (last : Int) : Int := if ¬ (1 ≤ e.1 ∧ e.1 ≤ 3) then 5 else if placedF e = false then 7 else if e.1 = 2 then 0 else if 0 ≤ last ∧ e.2.2.1 ≠ last + 1 then 8 else 0
def nextL (e : Th) (last : Int) : Int := if e.1 = 2 then last else e.2.2.1
def chkL : List Th → Int → Int
  | [], _ => 0
  | e :: l, last => if chkE e last ≠ 0 then chkE e last else chkL l (nextL e last)
def checkF (st nx : Int) (es : List Th) : Int := if 16 < es.length then 17 else if ¬ (0 ≤ st ∧ st ≤ 1099511627776) ∨ ¬ (-1 ≤ nx ∧ nx ≤ 31) then 7 else chkL es (-1)
theorem chkL_at (L : List Th) (x : Nat) (hx : x < L.length) (l : Int) : chkL (L.drop x) l = if chkE L[x] l ≠ 0 then chkE L[x] l else chkL (L.drop (x + 1)) (nextL L[x] l) := by
  rw [List.drop_eq_getElem_cons hx, chkL]
section
variable {e : Th} {l : Int}
theorem chkE_5 (h : ¬ (1 ≤ e.1 ∧ e.1 ≤ 3)) : chkE e l = 5 := by unfold chkE; rw [if_pos h]
theorem chkE_7 (h : 1 ≤ e.1 ∧ e.1 ≤ 3) (hp : placedF e = false) : chkE e l = 7 := by unfold chkE; rw [if_neg (fun k => k h), if_pos hp]
theorem chkE_2 (h : 1 ≤ e.1 ∧ e.1 ≤ 3) (hp : placedF e = true) (h2 : e.1 = 2) : chkE e l = 0 := by unfold chkE; rw [if_neg (fun k => k h), if_neg (by rw [hp]; decide), if_pos h2]
theorem chkE_8 (h : 1 ≤ e.1 ∧ e.1 ≤ 3) (hp : placedF e = true) (h2 : ¬ e.1 = 2) (h8 : 0 ≤ l ∧ e.2.2.1 ≠ l + 1) : chkE e l = 8 := by unfold chkE; rw [if_neg (fun k => k h), if_neg (by rw [hp]; decide), if_neg h2, if_pos h8]
theorem chkE_0 (h : 1 ≤ e.1 ∧ e.1 ≤ 3) (hp : placedF e = true) (h2 : ¬ e.1 = 2) (h8 : ¬ (0 ≤ l ∧ e.2.2.1 ≠ l + 1)) : chkE e l = 0 := by unfold chkE; rw [if_neg (fun k => k h), if_neg (by rw [hp]; decide), if_neg h2, if_neg h8]
theorem placed_s (hp : placedF e = true) : 0 ≤ e.2.2.1 ∧ e.2.2.1 ≤ 63 := by
  unfold placedF at hp
  simp only [Bool.and_eq_true, decide_eq_true_eq] at hp
  exact hp.1.2
theorem nextL_2 (h2 : e.1 = 2) : nextL e l = l := by unfold nextL; rw [if_pos h2]
theorem nextL_s (h2 : ¬ e.1 = 2) : nextL e l = e.2.2.1 := by unfold nextL; rw [if_neg h2]
end
theorem nextL_r (e : Th) (l : Int) (h : Th.ok e) (hl : -9223372036854775808 ≤ l ∧ l ≤ 9223372036854775807) : -9223372036854775808 ≤ nextL e l ∧ nextL e l ≤ 9223372036854775807 := by
  unfold nextL; split
  · exact hl
  · exact h.2.2.1

theorem within_calls (w : World) (n lo hi : Int) (r : Bool) (hr : r = (decide (lo ≤ n) && decide (n ≤ hi))) :
    Calls Try.prog 69 #[.int .i64 n, .int .i64 lo, .int .i64 hi] w fun e w' => e = .returned (.bool r) ∧ w = w' := by
  by_cases h : lo ≤ n
  · have e : r = decide (n ≤ hi) := by rw [hr, decide_eq_true h, Bool.true_and]
    have HR := Aside0.mk e
    clear hr e
    go_enter Try.func69, Try.ntmps69
    go_wp2
    go_ret
    exact ⟨by rw [HR.out]; rfl, rfl⟩
  · have e : r = false := by rw [hr, decide_eq_false h, Bool.false_and]
    subst e
    have hz : (lo ≤ n) = False := eq_false h
    clear hr
    go_enter Try.func69, Try.ntmps69
    go_wp2
    go_ret
    exact ⟨rfl, rfl⟩
theorem built_z24 : Program.built Try.prog 24 [] = some (nums .u8 zero32).toArray := by kernel_rfl

set_option maxRecDepth 100000 in
set_option maxHeartbeats 8000000 in
theorem placed_calls (w : World) (e : Th) (r : Bool) (hr : r = placedF e) (hok : Th.ok e) :
    Calls Try.prog 70 #[.agg (thC e).toArray] w fun e' w' => e' = .returned (.bool r) ∧ Ext w w' := by
  have hb := Blk.new w (thC e).toArray 73
  obtain ⟨c0, c1, c2, r3, _⟩ := thBlk hb
  obtain ⟨k1, k2, k3, kl, kb⟩ := hok
  have HR3 := Aside0.mk r3
  have HE := Aside0.mk ((Ext.refl w).alloc (.cells (thC e).toArray 73))
  have HI := Aside0.mk (show (Try.prog.info? 24).map (·.size) = some (nums .u8 e.2.2.2).length by rw [nums_length, kl]; kernel_rfl)
  have HQ := Aside0.mk (fun W : World => equal_sum e.2.2.2 zero32 kl zero32_length kb zero32_isB W)
  obtain ⟨k, b, s, sm⟩ := e
  simp only [] at c0 c1 c2 k1 k2 k3 HR3 HQ HI
  obtain ⟨most, hmo⟩ : ∃ most : Int, most = if k = 3 then 8 else 63 := ⟨_, rfl⟩
  have hr2 : r = (((decide (0 ≤ b) && decide (b ≤ most)) && (decide (0 ≤ s) && decide (s ≤ 63))) && (k != 2 || (s == 0 && decide (sm = zero32)))) := by rw [hr, hmo]; rfl
  obtain ⟨z, hz⟩ : ∃ z, z = decide (sm = zero32) := ⟨_, rfl⟩
  rw [← hz] at hr2 HQ
  have HRR := Aside0.mk hr2
  obtain ⟨r1, hr1⟩ : ∃ r1, r1 = (decide (0 ≤ b) && decide (b ≤ most)) := ⟨_, rfl⟩
  obtain ⟨r2, hr2'⟩ : ∃ r2, r2 = (decide (0 ≤ s) && decide (s ≤ 63)) := ⟨_, rfl⟩
  have HR1 := Aside0.mk hr1
  have HR2 := Aside0.mk hr2'
  rw [← hr1, ← hr2'] at hr2
  have HRF := Aside0.mk hr2
  clear hb r3 hr hr2 hr1 hr2' HRR kl kb hz
  have hz1 : Bool := z
  clear hz1
  by_cases hk3 : k = 3
  · subst hk3
    rw [if_pos rfl] at hmo
    subst hmo
    go_enter Try.func70, Try.ntmps70
    go_wp2_with fail
    refine (within_calls _ b 0 8 r1 HR1.out).mono ?_
    rintro e w1 ⟨rfl, rfl⟩
    cases r1
    · go_wp2_with fail
      go_ret
      exact ⟨by rw [HRF.out]; simp, HE.out⟩
    · go_wp2_with fail
      refine (within_calls _ s 0 63 r2 HR2.out).mono ?_
      rintro e w1 ⟨rfl, rfl⟩
      cases r2
      · go_wp2_with fail
        go_ret
        exact ⟨by rw [HRF.out]; simp, HE.out⟩
      · skip
        go_wp2_with fail
        go_ret
        exact ⟨by rw [HRF.out]; simp, HE.out⟩
  · rw [if_neg hk3] at hmo
    subst hmo
    have hk3' : (k == 3) = false := by simpa using hk3
    go_enter Try.func70, Try.ntmps70
    go_wp2_with fail
    refine (within_calls _ b 0 63 r1 HR1.out).mono ?_
    rintro e w1 ⟨rfl, rfl⟩
    cases r1
    · go_wp2_with fail
      go_ret
      exact ⟨by rw [HRF.out]; simp, HE.out⟩
    · go_wp2_with fail
      refine (within_calls _ s 0 63 r2 HR2.out).mono ?_
      rintro e w1 ⟨rfl, rfl⟩
      cases r2
      · go_wp2_with fail
        go_ret
        exact ⟨by rw [HRF.out]; simp, HE.out⟩
      · skip
        by_cases hk2 : k = 2
        · subst hk2
          by_cases hs0 : s = 0
          · subst hs0
            go_wp2_with (first | ((with_reducible refine gate_load (ty := 24) rfl ?_); refine load_at rfl 24 _ rfl w.heap.size 3 rfl (nums .u8 sm) _ HR3.out Try.underlying24 rfl HI.out ?_) | ((with_reducible refine gate_build (ty := 24) rfl ?_); refine build_at rfl 24 #[] rfl (nums .u8 zero32).toArray [] rfl built_z24 ?_) | ((with_reducible refine gate_eql (ty := 24) rfl ?_); (refine eql_at rfl 24 24 _ _ rfl (nums .u8 sm).toArray (nums .u8 zero32).toArray rfl rfl (by kernel_rfl) z (HQ.out _) ?_)) | fail)
            go_ret
            exact ⟨by rw [HRF.out]; simp, HE.out⟩
          · have hs0' : (s == 0) = false := by simpa using hs0
            go_wp2_with fail
            go_ret
            exact ⟨by rw [HRF.out]; simp [hs0], HE.out⟩
        · have hk2' : (k == 2) = false := by simpa using hk2
          have hk2'' : (k != 2) = true := by simpa using hk2
          go_wp2_with fail
          go_ret
          exact ⟨by rw [HRF.out]; simp [hk2], HE.out⟩

set_option maxRecDepth 100000 in
set_option maxHeartbeats 16000000 in
theorem check_calls (w : World) (st nx : Int) (pr : List Int) (A : Option Addr) (c n : Nat) (es : List Th) (hr : Kd.C kTh w A n es) (hc : n ≤ c) (hp : pr.length = 32) (hok : ∀ e ∈ es, Th.ok e) :
    Calls Try.prog 48 #[smyV st pr nx (.slice A n c)] w fun e w' => e = .returned (.int .i64 (checkF st nx es)) ∧ Ext w w' := by
  have hb := Blk.new w (smyC st pr nx (.slice A n c)).toArray 58
  obtain ⟨c0, r1, c33, c34⟩ := smyBlk hb hp
  have HE := Aside0.mk ((Ext.refl w).alloc (.cells (smyC st pr nx (.slice A n c)).toArray 58))
  have HR := Aside0.mk (Kd.C_below hr HE.out)
  have HL := Aside0.mk (show es.length = n from hr.1)
  have HOK := Aside0.mk hok
  obtain ⟨F, hF⟩ : ∃ F, F = checkF st nx es := ⟨_, rfl⟩
  have HF := Aside0.mk hF
  rw [← hF]
  unfold smyV
  clear hb r1 hr hok hF
  by_cases h16 : 16 < n
  · have hz : ((16 : Int) < (n : Int)) = True := eq_true (by omega)
    have HV := Aside0.mk (show F = 17 by rw [HF.out]; unfold checkF; rw [if_pos (by rw [HL.out]; exact h16)])
    go_enter Try.func48, Try.ntmps48
    go_wp2_with fail
    apply wp_scope_straight
    go_wp2_with fail
    (try simp only [Exit.noGoto_ret, Exit.inBlock, Exit.then])
    go_ret
    exact ⟨by rw [HV.out]; rfl, HE.out⟩
  have hz : ((16 : Int) < (n : Int)) = False := eq_false (by omega)
  have hn16 : n ≤ 16 := by omega
  by_cases hst : 0 ≤ st ∧ st ≤ 1099511627776
  case neg =>
    have HV := Aside0.mk (show F = 7 by rw [HF.out]; unfold checkF; rw [if_neg (by rw [HL.out]; exact h16), if_pos (.inl hst)])
    have HW := Aside0.mk (show false = (decide (0 ≤ st) && decide (st ≤ 1099511627776)) by rw [← Bool.decide_and]; exact (decide_eq_false hst).symm)
    clear hst h16
    go_enter Try.func48, Try.ntmps48
    go_wp2_with fail
    apply wp_scope_straight
    go_wp2_with fail
    refine (within_calls _ st 0 1099511627776 false HW.out).mono ?_
    rintro e w1 ⟨rfl, rfl⟩
    go_wp2_with fail
    (try simp only [Exit.noGoto_ret, Exit.inBlock, Exit.then])
    go_ret
    exact ⟨by rw [HV.out]; rfl, HE.out⟩
  have HW := Aside0.mk (show true = (decide (0 ≤ st) && decide (st ≤ 1099511627776)) by rw [← Bool.decide_and]; exact (decide_eq_true hst).symm)
  by_cases hnx : -1 ≤ nx ∧ nx ≤ 31
  case neg =>
    have HV := Aside0.mk (show F = 7 by rw [HF.out]; unfold checkF; rw [if_neg (by rw [HL.out]; exact h16), if_pos (.inr hnx)])
    have HW2 := Aside0.mk (show false = (decide (-1 ≤ nx) && decide (nx ≤ 31)) by rw [← Bool.decide_and]; exact (decide_eq_false hnx).symm)
    clear hst h16 hnx
    go_enter Try.func48, Try.ntmps48
    go_wp2_with fail
    apply wp_scope_straight
    go_wp2_with fail
    refine (within_calls _ st 0 1099511627776 true HW.out).mono ?_
    rintro e w1 ⟨rfl, rfl⟩
    go_wp2_with fail
    refine (within_calls _ nx (-1) 31 false HW2.out).mono ?_
    rintro e w1 ⟨rfl, rfl⟩
    go_wp2_with fail
    (try simp only [Exit.noGoto_ret, Exit.inBlock, Exit.then])
    go_ret
    exact ⟨by rw [HV.out]; rfl, HE.out⟩
  have HW2 := Aside0.mk (show true = (decide (-1 ≤ nx) && decide (nx ≤ 31)) by rw [← Bool.decide_and]; exact (decide_eq_true hnx).symm)
  have HV := Aside0.mk (show F = chkL es (-1) by rw [HF.out]; unfold checkF; rw [if_neg (by rw [HL.out]; exact h16), if_neg (by rintro (h | h); exact h hst; exact h hnx)])
  clear hst h16 hnx
  go_enter Try.func48, Try.ntmps48
  go_wp2_with fail
  apply wp_scope_straight
  go_wp2_with fail
  refine (within_calls _ st 0 1099511627776 true HW.out).mono ?_
  rintro e w1 ⟨rfl, rfl⟩
  go_wp2_with fail
  refine (within_calls _ nx (-1) 31 true HW2.out).mono ?_
  rintro e w1 ⟨rfl, rfl⟩
  obtain ⟨W0, hW0⟩ : ∃ W0, W0 = w.alloc (.cells (smyC st pr nx (.slice A n c)).toArray 58) := ⟨_, rfl⟩
  rw [← hW0] at HE HR c0 c33 c34 ⊢
  clear hW0 HW HW2
  go_wp2_with fail
  apply wp_label
  go_wp2_with fail
  go_loopw [3, 25] (fun u i wr => ∃ x l : Int, i = .int .i64 x ∧ u = .int .i64 l ∧ Aside0 ((0 ≤ x ∧ x ≤ n) ∧ (-9223372036854775808 ≤ l ∧ l ≤ 9223372036854775807)) ∧ Aside0 (F = chkL (es.drop x.toNat) l) ∧ Aside0 (Ext W0 wr)) (fun _ i _ => n - (intOf i).toNat)
  case atStart => exact ⟨0, -1, rfl, rfl, ⟨⟨by omega, by omega⟩, by decide⟩, HV, ⟨Ext.refl _⟩⟩
  case round =>
    clear HV c0 c33 c34
    obtain ⟨x, l, rfl, rfl, HXR, HV, HX⟩ := hrel
    obtain ⟨⟨g0, g1⟩, l0, l1⟩ := HXR.out
    obtain ⟨wx, hwx⟩ : ∃ wx : World, wx = wr := ⟨_, rfl⟩
    subst hwx
    by_cases hlt : x < n
    · have HLT := Aside0.mk hlt
      have hxl : x.toNat < es.length := by rw [HL.out]; omega
      obtain ⟨b, off, hA, hrg⟩ := th_at (Kd.C_below HR.out HX.out) x.toNat (by omega) _ (List.getElem?_eq_getElem hxl)
      subst hA
      have heo := HOK.out _ (List.getElem_mem hxl)
      have hstep := chkL_at es x.toNat hxl l
      rw [← HV.out] at hstep
      generalize es[x.toNat] = t at hrg heo hstep
      have HST := Aside0.mk hstep
      have HEO := Aside0.mk heo
      have hnr := nextL_r t l heo ⟨l0, l1⟩
      have HNR := Aside0.mk hnr
      have HI := Aside0.mk (show (Try.prog.info? 73).map (·.size) = some (thC t).length by rw [thC_len heo.2.2.2.1]; kernel_rfl)
      have HSZ := Aside0.mk (show #[Value.int .i64 0, Value.int .i64 0, Value.int .i64 0, Value.int .u8 0, Value.int .u8 0, Value.int .u8 0, Value.int .u8 0, Value.int .u8 0, Value.int .u8 0, Value.int .u8 0, Value.int .u8 0, Value.int .u8 0, Value.int .u8 0, Value.int .u8 0, Value.int .u8 0, Value.int .u8 0, Value.int .u8 0, Value.int .u8 0, Value.int .u8 0, Value.int .u8 0, Value.int .u8 0, Value.int .u8 0, Value.int .u8 0, Value.int .u8 0, Value.int .u8 0, Value.int .u8 0, Value.int .u8 0, Value.int .u8 0, Value.int .u8 0, Value.int .u8 0, Value.int .u8 0, Value.int .u8 0, Value.int .u8 0, Value.int .u8 0, Value.int .u8 0].size = (thC t).length by rw [thC_len heo.2.2.2.1]; rfl)
      have HRG := Aside0.mk hrg
      clear hrg heo hstep hnr hxl
      go_wp2_with (first | ((with_reducible refine gate_load (ty := 73) rfl ?_); refine load_at rfl 73 _ rfl b (off + x.toNat * 35) rfl (thC t) _ HRG.out Try.underlying73 rfl HI.out ?_) | ((with_reducible refine gate_store (ty := 73) rfl ?_); (refine store_at rfl 73 _ _ rfl wx.heap.size (thC t) rfl rfl #[Value.int .i64 0, Value.int .i64 0, Value.int .i64 0, Value.int .u8 0, Value.int .u8 0, Value.int .u8 0, Value.int .u8 0, Value.int .u8 0, Value.int .u8 0, Value.int .u8 0, Value.int .u8 0, Value.int .u8 0, Value.int .u8 0, Value.int .u8 0, Value.int .u8 0, Value.int .u8 0, Value.int .u8 0, Value.int .u8 0, Value.int .u8 0, Value.int .u8 0, Value.int .u8 0, Value.int .u8 0, Value.int .u8 0, Value.int .u8 0, Value.int .u8 0, Value.int .u8 0, Value.int .u8 0, Value.int .u8 0, Value.int .u8 0, Value.int .u8 0, Value.int .u8 0, Value.int .u8 0, Value.int .u8 0, Value.int .u8 0, Value.int .u8 0] 73 (Blk.new wx _ 73) HSZ.out HI.out (thC_one t) ?_)) | fail)
      intro w2 hW2 hB2
      have hx2 := hW2.ext ((Ext.refl wx).alloc _) (Nat.le_refl _)
      have HX2 := Aside0.mk (HX.out.trans hx2)
      obtain ⟨k0, k1, k2, _, k4⟩ := thBlk hB2
      have HK4 := Aside0.mk k4
      have HK2 := Aside0.mk k2
      clear hW2 hB2 hx2 HX k4 k1
      obtain ⟨p0, p1, p2, p3, p4⟩ := HEO.out
      generalize wx.heap.size = bx at k0 k2 HK4 HK2 ⊢
      by_cases hk : 1 ≤ t.1 ∧ t.1 ≤ 3
      case neg =>
        have HFV := Aside0.mk (show F = 5 by
          have h := HST.out; rw [chkE_5 hk, if_pos (by decide)] at h; exact h)
        have HW := Aside0.mk (show false = (decide (1 ≤ t.1) && decide (t.1 ≤ 3)) by rw [← Bool.decide_and]; exact (decide_eq_false hk).symm)
        clear hk
        go_wp2_with fail
        refine (within_calls _ t.1 1 3 false HW.out).mono ?_
        rintro e w1 ⟨rfl, rfl⟩
        go_wp2_with fail
        (try simp only [Exit.noGoto_ret, Exit.inBlock, Exit.then])
        go_ret
        exact ⟨by rw [HFV.out]; rfl, HE.out.trans HX2.out⟩
      have HW := Aside0.mk (show true = (decide (1 ≤ t.1) && decide (t.1 ≤ 3)) by rw [← Bool.decide_and]; exact (decide_eq_true hk).symm)
      have HKK := Aside0.mk hk
      clear hk
      go_wp2_with fail
      refine (within_calls _ t.1 1 3 true HW.out).mono ?_
      rintro e w1 ⟨rfl, rfl⟩
      go_wp2_with (first | ((with_reducible refine gate_load (ty := 73) rfl ?_); refine load_at rfl 73 _ rfl bx 0 rfl (thC t) _ HK4.out Try.underlying73 rfl HI.out ?_) | fail)
      obtain ⟨pl, hpl⟩ : ∃ pl, pl = placedF t := ⟨_, rfl⟩
      have HPL := Aside0.mk hpl
      clear hpl
      refine (placed_calls w2 t pl HPL.out HEO.out).mono ?_
      rintro e w3 ⟨rfl, hE3⟩
      have HX3 := Aside0.mk (HX2.out.trans hE3)
      have c0 := hE3.cell k0
      have c2 := hE3.cell k2
      clear hE3 HX2 k0 k2 HK4 HK2
      cases pl
      · have HFV := Aside0.mk (show F = 7 by
          have h := HST.out; rw [chkE_7 HKK.out HPL.out.symm, if_pos (by decide)] at h; exact h)
        go_wp2_with fail
        (try simp only [Exit.noGoto_ret, Exit.inBlock, Exit.then])
        go_ret
        exact ⟨by rw [HFV.out]; rfl, HE.out.trans HX3.out⟩
      · by_cases hk2 : t.1 = 2
        · have HFV := Aside0.mk (show F = chkL (es.drop (x + 1).toNat) l by
            have h := HST.out
            rw [chkE_2 HKK.out HPL.out.symm hk2, if_neg (by decide), nextL_2 hk2] at h
            rw [h, show (x + 1).toNat = x.toNat + 1 by omega])
          have hk2' : (t.1 == 2) = true := by rw [hk2]; rfl
          clear hk2
          go_wp2_with fail
          go_roundw
          case rel => exact ⟨x + 1, l, rfl, rfl, ⟨⟨by omega, by omega⟩, l0, l1⟩, HFV, HX3⟩
          case measure => have := HLT.out; simp only [intOf]; omega
        · have hk2' : (t.1 == 2) = false := by simpa using hk2
          by_cases hl : 0 ≤ l
          · by_cases hs : t.2.2.1 = l + 1
            · have HFV := Aside0.mk (show F = chkL (es.drop (x + 1).toNat) t.2.2.1 by
                have h := HST.out
                rw [chkE_0 HKK.out HPL.out.symm hk2 (fun hh => hh.2 hs), if_neg (by decide), nextL_s hk2] at h
                rw [h, show (x + 1).toNat = x.toNat + 1 by omega])
              have hlm : l + 1 ≤ 9223372036854775807 := by omega
              have hs' : (t.2.2.1 != l + 1) = false := by rw [hs]; simp
              have HS := Aside0.mk hs
              clear hk2 hs
              go_wp2_with fail
              go_roundw
              case rel => exact ⟨x + 1, t.2.2.1, rfl, rfl, ⟨⟨by omega, by omega⟩, p2⟩, HFV, HX3⟩
              case measure => have := HLT.out; simp only [intOf]; omega
            · have HFV := Aside0.mk (show F = 8 by
                have h := HST.out
                rw [chkE_8 HKK.out HPL.out.symm hk2 ⟨hl, hs⟩, if_pos (by decide)] at h
                exact h)
              have hlw : (t.2.2.1 != wrap64 (l + 1)) = true := by
                have := placed_s HPL.out.symm
                rw [bne_iff_ne]; unfold wrap64; omega
              have hs' : (t.2.2.1 != l + 1) = true := by rw [bne_iff_ne]; exact hs
              clear hk2 hs
              by_cases hlm : l + 1 ≤ 9223372036854775807
              · clear hlw
                go_wp2_with fail
                (try simp only [Exit.noGoto_ret, Exit.inBlock, Exit.then])
                go_ret
                exact ⟨by rw [HFV.out]; rfl, HE.out.trans HX3.out⟩
              · clear hs'
                go_wp2_with fail
                (try simp only [Exit.noGoto_ret, Exit.inBlock, Exit.then])
                go_ret
                exact ⟨by rw [HFV.out]; rfl, HE.out.trans HX3.out⟩
          · have HFV := Aside0.mk (show F = chkL (es.drop (x + 1).toNat) t.2.2.1 by
              have h := HST.out
              rw [chkE_0 HKK.out HPL.out.symm hk2 (fun hh => hl hh.1), if_neg (by decide), nextL_s hk2] at h
              rw [h, show (x + 1).toNat = x.toNat + 1 by omega])
            have hlz : (0 ≤ l) = False := eq_false hl
            clear hk2 hl
            go_wp2_with fail
            go_roundw
            case rel => exact ⟨x + 1, t.2.2.1, rfl, rfl, ⟨⟨by omega, by omega⟩, p2⟩, HFV, HX3⟩
            case measure => have := HLT.out; simp only [intOf]; omega
    · have hxe : x = n := by omega
      subst hxe
      have HFV := Aside0.mk (show F = 0 by rw [HV.out, Int.toNat_natCast, List.drop_eq_nil_of_le (by rw [HL.out]; exact Nat.le_refl _)]; rfl)
      clear hlt g0 g1 l0 l1
      go_wp2_with fail
      (try simp only [Exit.noGoto_ret, Exit.inBlock, Exit.then])
      go_ret
      exact ⟨by rw [HFV.out]; rfl, HE.out.trans HX.out⟩
end Go.Proofs.Ythgdjgnbifakbaa.By

/- A summary as bytes: batch.Put. -/
namespace Go.Proofs.Ythgdjgnbifakbaa.By
open Go.RowKit Go.Proofs.Ythgdjgnbifakbaa.Reg Go.Proofs.YthgdjgnbifakbaaW.PrintWords Go.Proofs.YthgdjgnbifakbaaW.PrintLast Go.Proofs.YthgdjgnbifakbaaW.PrintMore
set_option linter.unusedVariables false
set_option linter.unusedSimpArgs false


def entB (e : Th) : List Int := be8 e.1 ++ be8 e.2.1 ++ be8 e.2.2.1 ++ e.2.2.2
def allE (L : List Th) : List Int := L.flatMap entB
def headB (st : Int) (pr : List Int) (nx n : Int) : List Int := be8 st ++ pr ++ be8 nx ++ be8 n
def smyB (st : Int) (pr : List Int) (nx : Int) (es : List Th) : List Int := headB st pr nx es.length ++ allE es
def outP (st : Int) (pr : List Int) (nx : Int) (es : List Th) : List Int := if checkF st nx es = 0 then smyB st pr nx es else []
theorem entB_len {e : Th} (h : e.2.2.2.length = 32) : (entB e).length = 56 := by simp [entB, be8_length, h]
theorem headB_len (st nx n : Int) {pr : List Int} (h : pr.length = 32) : (headB st pr nx n).length = 56 := by simp [headB, be8_length, h]
theorem allE_len : ∀ (L : List Th), (∀ e ∈ L, Th.ok e) → (allE L).length = 56 * L.length
  | [], _ => rfl
  | e :: L, h => by
    have h1 : (allE L).length = 56 * L.length := allE_len L (fun x hx => h x (List.mem_cons_of_mem _ hx))
    have h2 := entB_len (h e List.mem_cons_self).2.2.2.1
    show (entB e ++ allE L).length = _
    rw [List.length_append, h1, h2, List.length_cons]; omega
theorem allE_take (L : List Th) (i : Nat) (h : i < L.length) : allE (L.take (i + 1)) = allE (L.take i) ++ entB L[i] := by
  unfold allE
  rw [List.take_succ_eq_append_getElem h, List.flatMap_append]
  simp
theorem checkF_le {st nx : Int} {es : List Th} (h : checkF st nx es = 0) : es.length ≤ 16 := by
  rcases Nat.lt_or_ge 16 es.length with h1 | h1
  · unfold checkF at h; rw [if_pos h1] at h; cases h
  · exact h1

set_option maxRecDepth 100000 in
set_option maxHeartbeats 16000000 in
theorem put_calls (w : World) (st nx : Int) (pr : List Int) (A : Option Addr) (c n : Nat) (es : List Th) (F : Int) (hF : F = checkF st nx es) (hr : Kd.C kTh w A n es) (hc : n ≤ c) (hp : pr.length = 32) (hok : ∀ e ∈ es, Th.ok e) :
    Calls Try.prog 46 #[smyV st pr nx (.slice A n c)] w fun e w' => ∃ V, e = .returned (.tuple #[V, .int .i64 F]) ∧ NB w' w.heap.size V (outP st pr nx es) ∧ Ext w w' := by
  have hb := Blk.new w (smyC st pr nx (.slice A n c)).toArray 58
  obtain ⟨c0, r1, c33, c34⟩ := smyBlk hb hp
  have HE := Aside0.mk ((Ext.refl w).alloc (.cells (smyC st pr nx (.slice A n c)).toArray 58))
  have HR := Aside0.mk (Kd.C_below hr HE.out)
  have HL := Aside0.mk (show es.length = n from hr.1)
  have HOK := Aside0.mk hok
  have HF := Aside0.mk hF
  have HP := Aside0.mk hp
  have HRW := Aside0.mk (show (w.alloc (.cells (smyC st pr nx (.slice A n c)).toArray 58)).rangeAt w.heap.size 0 (smyC st pr nx (.slice A n c)) from hb.range 0 _ [] (by simp))
  have HI58 := Aside0.mk (show (Try.prog.info? 58).map (·.size) = some (smyC st pr nx (.slice A n c)).length by rw [smyC_len hp]; kernel_rfl)
  have HI24 := Aside0.mk (show (Try.prog.info? 24).map (·.size) = some (nums .u8 pr).length by rw [nums_length, hp]; kernel_rfl)
  have HC0 := Aside0.mk c0
  have HR1 := Aside0.mk r1
  have HC33 := Aside0.mk c33
  have HC34 := Aside0.mk c34
  have HCH := Aside0.mk (check_calls (w.alloc (.cells (smyC st pr nx (.slice A n c)).toArray 58)) st nx pr A c n es HR.out hc hp hok)
  unfold smyV at HCH ⊢
  clear hb r1 c0 c33 c34 hr hok hF hp
  go_enter Try.func46, Try.ntmps46
  go_wp2_with (first | ((with_reducible refine gate_load (ty := 58) rfl ?_); refine load_at rfl 58 _ rfl w.heap.size 0 rfl (smyC st pr nx (.slice A n c)) _ HRW.out Try.underlying58 rfl HI58.out ?_) | fail)
  refine HCH.out.mono ?_
  rintro e w1 ⟨rfl, hE1⟩
  rw [← HF.out]
  obtain ⟨W0, hW0⟩ : ∃ W0, W0 = w.alloc (.cells (smyC st pr nx (.slice A n c)).toArray 58) := ⟨_, rfl⟩
  rw [← hW0] at HE HR HC0 HR1 HC33 HC34 hE1
  have HX1 := Aside0.mk hE1
  clear hW0 hE1 HRW HCH
  by_cases h0 : F = 0
  case neg =>
    have HO := Aside0.mk (show outP st pr nx es = [] by unfold outP; rw [if_neg (by rw [← HF.out]; exact h0)])
    have hz : (F == 0) = false := by simpa using h0
    have hz' : (F != 0) = true := by simpa using h0
    clear h0
    go_wp2_with fail
    go_ret2
    exact ⟨_, rfl, by rw [HO.out]; exact Kd.R_nil kb 5 w1 w.heap.size (fun _ => True), HE.out.trans HX1.out⟩
  have HO := Aside0.mk (show outP st pr nx es = smyB st pr nx es by unfold outP; rw [if_pos (by rw [← HF.out]; exact h0)])
  have hn16 : n ≤ 16 := by rw [← HL.out]; exact checkF_le (by rw [← HF.out]; exact h0)
  subst h0
  have HLX1 := Aside0.mk (be8_length st)
  obtain ⟨X1, hX1⟩ : ∃ X1, X1 = be8 st := ⟨_, rfl⟩
  obtain ⟨X2, hX2⟩ : ∃ X2, X2 = X1 ++ pr := ⟨_, rfl⟩
  obtain ⟨X3, hX3⟩ : ∃ X3, X3 = X2 ++ be8 nx := ⟨_, rfl⟩
  obtain ⟨X4, hX4⟩ : ∃ X4, X4 = X3 ++ be8 n := ⟨_, rfl⟩
  have HX := Aside0.mk (And.intro hX1 (And.intro hX2 (And.intro hX3 hX4)))
  have HLL := Aside0.mk (show X1.length = 8 ∧ X2.length = 40 ∧ X3.length = 48 ∧ X4.length = 56 by
    rw [hX4, hX3, hX2, hX1]; simp [be8_length, HP.out])
  have HXH := Aside0.mk (show X4 = headB st pr nx es.length by rw [hX4, hX3, hX2, hX1, HL.out]; rfl)
  clear hX1 hX2 hX3 hX4 HLX1
  have HC0 := Aside0.mk (HX1.out.cell HC0.out)
  have HR1 := Aside0.mk (rangeAt_ext HR1.out HX1.out)
  have HC33 := Aside0.mk (HX1.out.cell HC33.out)
  have HC34 := Aside0.mk (HX1.out.cell HC34.out)
  go_wp2_with fail
  apply wp_region_facts 13 [RF.val _, RF.val _, RF.fact (fun u Wd => NB Wd w1.heap.size u X1), RF.val _, RF.val _, RF.fact (fun u Wd => NB Wd w1.heap.size u X2), RF.val _, RF.val _, RF.fact (fun u Wd => NB Wd w1.heap.size u X3), RF.val _, RF.val _, RF.val _, RF.fact (fun u Wd => NB Wd w1.heap.size u X4)]
  case hm => kernel_rfl
  case hB => kernel_rfl
  simp only [List.take_succ_cons, List.take_zero, List.zip_cons_cons, List.zip_nil_left]
  (first | refine wpF_val rfl (fun w' hE hD => by unfold Yld; go_simp; exact ⟨Ext.refl _, rfl⟩) ?_ | refine wpF_valg (by rfl) (fun w' hE hD => by unfold Yld; go_simp; exact ⟨Ext.refl _, rfl⟩) ?_)
  (try simp only [Act.put, List.setIfInBounds_toArray, List.set_cons_zero, List.set_cons_succ])
  (first | refine wpF_val rfl (fun w' hE hD => by have hcx := Ext.cell hE HC0.out; unfold Yld; go_simp; exact ⟨Ext.refl _, rfl⟩) ?_ | refine wpF_valg (by rfl) (fun w' hE hD => by have hcx := Ext.cell hE HC0.out; unfold Yld; go_simp; exact ⟨Ext.refl _, rfl⟩) ?_)
  (try simp only [Act.put, List.setIfInBounds_toArray, List.set_cons_zero, List.set_cons_succ])
  refine wpF_fact rfl (fun u Wa Wb h he => h.ext he) (fun w' hE hD => ?_) (fun u2 => ?_)
  · unfold Yld; go_simp; exact (int_at w' none 0 0 [] st rfl (Kd.C_nil kb w') (Nat.le_refl _) (by decide)).mono fun e w2 h => by obtain ⟨V, h1, h2, h3⟩ := h; exact ⟨V, h1, h3, by rw [HX.out.1]; exact h2.lower hE.size⟩
  (try simp only [Act.put, List.setIfInBounds_toArray, List.set_cons_zero, List.set_cons_succ])
  (first | refine wpF_val rfl (fun w' hE hD => by unfold Yld; go_simp; exact ⟨Ext.refl _, rfl⟩) ?_ | refine wpF_valg (by rfl) (fun w' hE hD => by unfold Yld; go_simp; exact ⟨Ext.refl _, rfl⟩) ?_)
  (try simp only [Act.put, List.setIfInBounds_toArray, List.set_cons_zero, List.set_cons_succ])
  (first | refine wpF_val rfl (fun w' hE hD => Yld_load 24 (.tmp 16) rfl w.heap.size 1 rfl (nums .u8 pr) _ (rangeAt_ext HR1.out hE) Try.underlying24 rfl HI24.out) ?_ | refine wpF_valg (by rfl) (fun w' hE hD => Yld_load 24 (.tmp 16) rfl w.heap.size 1 rfl (nums .u8 pr) _ (rangeAt_ext HR1.out hE) Try.underlying24 rfl HI24.out) ?_)
  (try simp only [Act.put, List.setIfInBounds_toArray, List.set_cons_zero, List.set_cons_succ])
  refine wpF_fact rfl (fun u Wa Wb h he => h.ext he) (fun w' hE hD => ?_) (fun u5 => ?_)
  · obtain ⟨A1, c1, rfl, hc1, hC1⟩ := NB.reads (hD.1 (by kernel_rfl))
    unfold Yld; go_simp; exact (sum_n w' A1 c1 _ X1 pr rfl hC1 hc1 _ rfl HP.out (by have := HLL.out; omega)).mono fun e w2 h => by obtain ⟨V, h1, h2, h3⟩ := h; exact ⟨V, h1, h3, by rw [HX.out.2.1]; exact h2.lower hE.size⟩
  (try simp only [Act.put, List.setIfInBounds_toArray, List.set_cons_zero, List.set_cons_succ])
  (first | refine wpF_val rfl (fun w' hE hD => by unfold Yld; go_simp; exact ⟨Ext.refl _, rfl⟩) ?_ | refine wpF_valg (by rfl) (fun w' hE hD => by unfold Yld; go_simp; exact ⟨Ext.refl _, rfl⟩) ?_)
  (try simp only [Act.put, List.setIfInBounds_toArray, List.set_cons_zero, List.set_cons_succ])
  (first | refine wpF_val rfl (fun w' hE hD => by have hcx := Ext.cell hE HC33.out; unfold Yld; go_simp; exact ⟨Ext.refl _, rfl⟩) ?_ | refine wpF_valg (by rfl) (fun w' hE hD => by have hcx := Ext.cell hE HC33.out; unfold Yld; go_simp; exact ⟨Ext.refl _, rfl⟩) ?_)
  (try simp only [Act.put, List.setIfInBounds_toArray, List.set_cons_zero, List.set_cons_succ])
  refine wpF_fact rfl (fun u Wa Wb h he => h.ext he) (fun w' hE hD => ?_) (fun u8 => ?_)
  · obtain ⟨A1, c1, rfl, hc1, hC1⟩ := NB.reads (hD.2.1 (by kernel_rfl))
    unfold Yld; go_simp; exact (int_at w' A1 c1 _ X2 nx rfl hC1 hc1 (by have := HLL.out; omega)).mono fun e w2 h => by obtain ⟨V, h1, h2, h3⟩ := h; exact ⟨V, h1, h3, by rw [HX.out.2.2.1]; exact h2.lower hE.size⟩
  (try simp only [Act.put, List.setIfInBounds_toArray, List.set_cons_zero, List.set_cons_succ])
  (first | refine wpF_val rfl (fun w' hE hD => by unfold Yld; go_simp; exact ⟨Ext.refl _, rfl⟩) ?_ | refine wpF_valg (by rfl) (fun w' hE hD => by unfold Yld; go_simp; exact ⟨Ext.refl _, rfl⟩) ?_)
  (try simp only [Act.put, List.setIfInBounds_toArray, List.set_cons_zero, List.set_cons_succ])
  (first | refine wpF_val rfl (fun w' hE hD => by have hcx := Ext.cell hE HC34.out; unfold Yld; go_simp; exact ⟨Ext.refl _, rfl⟩) ?_ | refine wpF_valg (by rfl) (fun w' hE hD => by have hcx := Ext.cell hE HC34.out; unfold Yld; go_simp; exact ⟨Ext.refl _, rfl⟩) ?_)
  (try simp only [Act.put, List.setIfInBounds_toArray, List.set_cons_zero, List.set_cons_succ])
  (first | refine wpF_val rfl (fun w' hE hD => by unfold Yld; go_simp; exact ⟨Ext.refl _, rfl⟩) ?_ | refine wpF_valg (by rfl) (fun w' hE hD => by unfold Yld; go_simp; exact ⟨Ext.refl _, rfl⟩) ?_)
  (try simp only [Act.put, List.setIfInBounds_toArray, List.set_cons_zero, List.set_cons_succ])
  refine wpF_fact rfl (fun u Wa Wb h he => h.ext he) (fun w' hE hD => ?_) (fun u12 => ?_)
  · obtain ⟨A1, c1, rfl, hc1, hC1⟩ := NB.reads (hD.2.2.1 (by kernel_rfl))
    unfold Yld; go_simp; exact (int_at w' A1 c1 _ X3 n rfl hC1 hc1 (by have := HLL.out; omega)).mono fun e w2 h => by obtain ⟨V, h1, h2, h3⟩ := h; exact ⟨V, h1, h3, by rw [HX.out.2.2.2]; exact h2.lower hE.size⟩
  (try simp only [Act.put, List.setIfInBounds_toArray, List.set_cons_zero, List.set_cons_succ])
  refine wpF_nil fun w2 hE2 hA => ?_
  have HN2 := Aside0.mk (show NB w2 w1.heap.size u12 X4 from hA.2.2.2.1)
  have c34 := hE2.cell HC34.out
  have HX2 := Aside0.mk (HX1.out.trans hE2)
  simp only [List.drop_succ_cons, List.drop_zero]
  have HNZ := Aside0.mk (show NB w2 w.heap.size u12 (X4 ++ allE (es.take 0)) by
    rw [List.take_zero, show allE [] = [] from rfl, List.append_nil]; exact HN2.out.lower (HE.out.trans HX1.out).size)
  clear hA hE2 HN2 HC0 HR1 HC33 HC34
  go_wp2_with fail
  clear c34
  go_loopw [5, 29] (fun u i wr => ∃ x : Int, i = .int .i64 x ∧ Aside0 (0 ≤ x ∧ x ≤ n) ∧ Aside0 (NB wr w.heap.size u (X4 ++ allE (es.take x.toNat))) ∧ Aside0 (Ext W0 wr)) (fun _ i _ => n - (intOf i).toNat)
  case atStart => exact ⟨0, rfl, ⟨by omega⟩, HNZ, HX2⟩
  case round =>
    clear HNZ HX2 HX1
    obtain ⟨x, rfl, HXR, HN, HX⟩ := hrel
    obtain ⟨g0, g1⟩ := HXR.out
    obtain ⟨wx, hwx⟩ : ∃ wx : World, wx = wr := ⟨_, rfl⟩
    subst hwx
    by_cases hlt : x < n
    · have HLT := Aside0.mk hlt
      have hxl : x.toNat < es.length := by rw [HL.out]; omega
      obtain ⟨b, off, hA, hrg⟩ := th_at (Kd.C_below HR.out HX.out) x.toNat (by omega) _ (List.getElem?_eq_getElem hxl)
      subst hA
      have heo := HOK.out _ (List.getElem_mem hxl)
      have htk := allE_take es x.toNat hxl
      have hal := allE_len (es.take x.toNat) (fun e he => HOK.out e (List.mem_of_mem_take he))
      rw [List.length_take] at hal
      generalize es[x.toNat] = t at hrg heo htk
      have HEO := Aside0.mk heo
      have HI := Aside0.mk (show (Try.prog.info? 73).map (·.size) = some (thC t).length by rw [thC_len heo.2.2.2.1]; kernel_rfl)
      have HIS := Aside0.mk (show (Try.prog.info? 24).map (·.size) = some (nums .u8 t.2.2.2).length by rw [nums_length, heo.2.2.2.1]; kernel_rfl)
      have HSZ := Aside0.mk (show #[Value.int .i64 0, Value.int .i64 0, Value.int .i64 0, Value.int .u8 0, Value.int .u8 0, Value.int .u8 0, Value.int .u8 0, Value.int .u8 0, Value.int .u8 0, Value.int .u8 0, Value.int .u8 0, Value.int .u8 0, Value.int .u8 0, Value.int .u8 0, Value.int .u8 0, Value.int .u8 0, Value.int .u8 0, Value.int .u8 0, Value.int .u8 0, Value.int .u8 0, Value.int .u8 0, Value.int .u8 0, Value.int .u8 0, Value.int .u8 0, Value.int .u8 0, Value.int .u8 0, Value.int .u8 0, Value.int .u8 0, Value.int .u8 0, Value.int .u8 0, Value.int .u8 0, Value.int .u8 0, Value.int .u8 0, Value.int .u8 0, Value.int .u8 0].size = (thC t).length by rw [thC_len heo.2.2.2.1]; rfl)
      have HRG := Aside0.mk hrg
      obtain ⟨Y0, hY0⟩ : ∃ Y0, Y0 = X4 ++ allE (es.take x.toNat) := ⟨_, rfl⟩
      rw [← hY0] at HN
      obtain ⟨Y1, hY1⟩ : ∃ Y1, Y1 = Y0 ++ be8 t.1 := ⟨_, rfl⟩
      obtain ⟨Y2, hY2⟩ : ∃ Y2, Y2 = Y1 ++ be8 t.2.1 := ⟨_, rfl⟩
      obtain ⟨Y3, hY3⟩ : ∃ Y3, Y3 = Y2 ++ be8 t.2.2.1 := ⟨_, rfl⟩
      obtain ⟨Y4, hY4⟩ : ∃ Y4, Y4 = Y3 ++ t.2.2.2 := ⟨_, rfl⟩
      have HY := Aside0.mk (And.intro hY1 (And.intro hY2 (And.intro hY3 hY4)))
      have HY4 := Aside0.mk (show Y4 = X4 ++ allE (es.take (x + 1).toNat) by
        rw [show (x + 1).toNat = x.toNat + 1 by omega, htk, hY4, hY3, hY2, hY1, hY0]; unfold entB; simp only [List.append_assoc])
      have HYL := Aside0.mk (show Y0.length ≤ 1000 ∧ Y1.length ≤ 1010 ∧ Y2.length ≤ 1020 ∧ Y3.length ≤ 1030 by
        have h1 := HLL.out
        have h0 : Y0.length ≤ 1000 := by rw [hY0, List.length_append, hal, h1.2.2.2]; omega
        rw [hY3, hY2, hY1]; simp only [List.length_append, be8_length]; omega)
      obtain ⟨A5, c5, hu5, hc5, hC5⟩ := NB.reads HN.out
      have HC5 := Aside0.mk hC5
      obtain ⟨L5, hL5⟩ : ∃ L5, L5 = Y0.length := ⟨_, rfl⟩
      rw [← hL5] at hu5 hc5 HC5
      subst hu5
      have HL5 := Aside0.mk hL5
      clear hrg heo htk hal hxl hY0 hY1 hY2 hY3 hY4 hC5 hL5
      go_wp2_with (first | ((with_reducible refine gate_load (ty := 73) rfl ?_); refine load_at rfl 73 _ rfl b (off + x.toNat * 35) rfl (thC t) _ HRG.out Try.underlying73 rfl HI.out ?_) | ((with_reducible refine gate_store (ty := 73) rfl ?_); (refine store_at rfl 73 _ _ rfl wx.heap.size (thC t) rfl rfl #[Value.int .i64 0, Value.int .i64 0, Value.int .i64 0, Value.int .u8 0, Value.int .u8 0, Value.int .u8 0, Value.int .u8 0, Value.int .u8 0, Value.int .u8 0, Value.int .u8 0, Value.int .u8 0, Value.int .u8 0, Value.int .u8 0, Value.int .u8 0, Value.int .u8 0, Value.int .u8 0, Value.int .u8 0, Value.int .u8 0, Value.int .u8 0, Value.int .u8 0, Value.int .u8 0, Value.int .u8 0, Value.int .u8 0, Value.int .u8 0, Value.int .u8 0, Value.int .u8 0, Value.int .u8 0, Value.int .u8 0, Value.int .u8 0, Value.int .u8 0, Value.int .u8 0, Value.int .u8 0, Value.int .u8 0, Value.int .u8 0, Value.int .u8 0] 73 (Blk.new wx _ 73) HSZ.out HI.out (thC_one t) ?_)) | fail)
      intro w3 hW3 hB3
      have hx3 := hW3.ext ((Ext.refl wx).alloc _) (Nat.le_refl _)
      have HX3 := Aside0.mk (HX.out.trans hx3)
      have HC5 := Aside0.mk (Kd.C_below HC5.out hx3)
      obtain ⟨k0, k1, k2, k3, _⟩ := thBlk hB3
      have HK0 := Aside0.mk k0
      have HK1 := Aside0.mk k1
      have HK2 := Aside0.mk k2
      have HK3 := Aside0.mk k3
      generalize wx.heap.size = bx at HK0 HK1 HK2 HK3 ⊢
      clear hW3 hB3 hx3 HX HN k0 k1 k2 k3
      go_wp2_with fail
      apply wp_region_facts 13 [RF.val _, RF.val _, RF.val _, RF.fact (fun u Wd => NB Wd w3.heap.size u Y1), RF.val _, RF.val _, RF.fact (fun u Wd => NB Wd w3.heap.size u Y2), RF.val _, RF.val _, RF.fact (fun u Wd => NB Wd w3.heap.size u Y3), RF.val _, RF.val _, RF.fact (fun u Wd => NB Wd w3.heap.size u Y4)]
      case hm => kernel_rfl
      case hB => kernel_rfl
      simp only [List.take_succ_cons, List.take_zero, List.zip_cons_cons, List.zip_nil_left]
      (first | refine wpF_val rfl (fun w' hE hD => by unfold Yld; go_simp; exact ⟨Ext.refl _, rfl⟩) ?_ | refine wpF_valg (by rfl) (fun w' hE hD => by unfold Yld; go_simp; exact ⟨Ext.refl _, rfl⟩) ?_)
      (try simp only [Act.put, List.setIfInBounds_toArray, List.set_cons_zero, List.set_cons_succ])
      (first | refine wpF_val rfl (fun w' hE hD => by unfold Yld; go_simp; exact ⟨Ext.refl _, rfl⟩) ?_ | refine wpF_valg (by rfl) (fun w' hE hD => by unfold Yld; go_simp; exact ⟨Ext.refl _, rfl⟩) ?_)
      (try simp only [Act.put, List.setIfInBounds_toArray, List.set_cons_zero, List.set_cons_succ])
      (first | refine wpF_val rfl (fun w' hE hD => by have hcx := Ext.cell hE HK0.out; unfold Yld; go_simp; exact ⟨Ext.refl _, rfl⟩) ?_ | refine wpF_valg (by rfl) (fun w' hE hD => by have hcx := Ext.cell hE HK0.out; unfold Yld; go_simp; exact ⟨Ext.refl _, rfl⟩) ?_)
      (try simp only [Act.put, List.setIfInBounds_toArray, List.set_cons_zero, List.set_cons_succ])
      refine wpF_fact rfl (fun u Wa Wb h he => h.ext he) (fun w' hE hD => ?_) (fun u3 => ?_)
      · unfold Yld; go_simp; exact (int_at w' A5 c5 L5 Y0 t.1 HL5.out (Kd.C_below HC5.out hE) hc5 (by rw [HL5.out]; have := HYL.out; omega)).mono fun e w2 h => by obtain ⟨V, h1, h2, h3⟩ := h; exact ⟨V, h1, h3, by rw [HY.out.1]; exact h2.lower hE.size⟩
      (try simp only [Act.put, List.setIfInBounds_toArray, List.set_cons_zero, List.set_cons_succ])
      (first | refine wpF_val rfl (fun w' hE hD => by unfold Yld; go_simp; exact ⟨Ext.refl _, rfl⟩) ?_ | refine wpF_valg (by rfl) (fun w' hE hD => by unfold Yld; go_simp; exact ⟨Ext.refl _, rfl⟩) ?_)
      (try simp only [Act.put, List.setIfInBounds_toArray, List.set_cons_zero, List.set_cons_succ])
      (first | refine wpF_val rfl (fun w' hE hD => by have hcx := Ext.cell hE HK1.out; unfold Yld; go_simp; exact ⟨Ext.refl _, rfl⟩) ?_ | refine wpF_valg (by rfl) (fun w' hE hD => by have hcx := Ext.cell hE HK1.out; unfold Yld; go_simp; exact ⟨Ext.refl _, rfl⟩) ?_)
      (try simp only [Act.put, List.setIfInBounds_toArray, List.set_cons_zero, List.set_cons_succ])
      refine wpF_fact rfl (fun u Wa Wb h he => h.ext he) (fun w' hE hD => ?_) (fun u6 => ?_)
      · obtain ⟨A1, c1, rfl, hc1, hC1⟩ := NB.reads (hD.1 (by kernel_rfl))
        unfold Yld; go_simp; exact (int_at w' A1 c1 _ Y1 t.2.1 rfl hC1 hc1 (by have := HYL.out; omega)).mono fun e w2 h => by obtain ⟨V, h1, h2, h3⟩ := h; exact ⟨V, h1, h3, by rw [HY.out.2.1]; exact h2.lower hE.size⟩
      (try simp only [Act.put, List.setIfInBounds_toArray, List.set_cons_zero, List.set_cons_succ])
      (first | refine wpF_val rfl (fun w' hE hD => by unfold Yld; go_simp; exact ⟨Ext.refl _, rfl⟩) ?_ | refine wpF_valg (by rfl) (fun w' hE hD => by unfold Yld; go_simp; exact ⟨Ext.refl _, rfl⟩) ?_)
      (try simp only [Act.put, List.setIfInBounds_toArray, List.set_cons_zero, List.set_cons_succ])
      (first | refine wpF_val rfl (fun w' hE hD => by have hcx := Ext.cell hE HK2.out; unfold Yld; go_simp; exact ⟨Ext.refl _, rfl⟩) ?_ | refine wpF_valg (by rfl) (fun w' hE hD => by have hcx := Ext.cell hE HK2.out; unfold Yld; go_simp; exact ⟨Ext.refl _, rfl⟩) ?_)
      (try simp only [Act.put, List.setIfInBounds_toArray, List.set_cons_zero, List.set_cons_succ])
      refine wpF_fact rfl (fun u Wa Wb h he => h.ext he) (fun w' hE hD => ?_) (fun u9 => ?_)
      · obtain ⟨A1, c1, rfl, hc1, hC1⟩ := NB.reads (hD.2.1 (by kernel_rfl))
        unfold Yld; go_simp; exact (int_at w' A1 c1 _ Y2 t.2.2.1 rfl hC1 hc1 (by have := HYL.out; omega)).mono fun e w2 h => by obtain ⟨V, h1, h2, h3⟩ := h; exact ⟨V, h1, h3, by rw [HY.out.2.2.1]; exact h2.lower hE.size⟩
      (try simp only [Act.put, List.setIfInBounds_toArray, List.set_cons_zero, List.set_cons_succ])
      (first | refine wpF_val rfl (fun w' hE hD => by unfold Yld; go_simp; exact ⟨Ext.refl _, rfl⟩) ?_ | refine wpF_valg (by rfl) (fun w' hE hD => by unfold Yld; go_simp; exact ⟨Ext.refl _, rfl⟩) ?_)
      (try simp only [Act.put, List.setIfInBounds_toArray, List.set_cons_zero, List.set_cons_succ])
      (first | refine wpF_val rfl (fun w' hE hD => Yld_load 24 (.tmp 43) rfl bx 3 rfl (nums .u8 t.2.2.2) _ (rangeAt_ext HK3.out hE) Try.underlying24 rfl HIS.out) ?_ | refine wpF_valg (by rfl) (fun w' hE hD => Yld_load 24 (.tmp 43) rfl bx 3 rfl (nums .u8 t.2.2.2) _ (rangeAt_ext HK3.out hE) Try.underlying24 rfl HIS.out) ?_)
      (try simp only [Act.put, List.setIfInBounds_toArray, List.set_cons_zero, List.set_cons_succ])
      refine wpF_fact rfl (fun u Wa Wb h he => h.ext he) (fun w' hE hD => ?_) (fun u12 => ?_)
      · obtain ⟨A1, c1, rfl, hc1, hC1⟩ := NB.reads (hD.2.2.1 (by kernel_rfl))
        unfold Yld; go_simp; exact (sum_n w' A1 c1 _ Y3 t.2.2.2 rfl hC1 hc1 _ rfl HEO.out.2.2.2.1 (by have := HYL.out; omega)).mono fun e w2 h => by obtain ⟨V, h1, h2, h3⟩ := h; exact ⟨V, h1, h3, by rw [HY.out.2.2.2]; exact h2.lower hE.size⟩
      (try simp only [Act.put, List.setIfInBounds_toArray, List.set_cons_zero, List.set_cons_succ])
      refine wpF_nil fun w4 hE4 hA => ?_
      have HN4 := Aside0.mk (show NB w4 w.heap.size u12 (X4 ++ allE (es.take (x + 1).toNat)) by rw [← HY4.out]; exact NB.lower (show NB w4 w3.heap.size u12 Y4 from hA.2.2.2.1) (HE.out.trans HX3.out).size)
      have HX4 := Aside0.mk (HX3.out.trans hE4)
      simp only [List.drop_succ_cons, List.drop_zero]
      clear hA hE4 HX3 HK0 HK1 HK2 HK3 HC5
      go_wp2_with fail
      go_roundw
      case rel => exact ⟨x + 1, rfl, ⟨by have := HLT.out; omega⟩, HN4, HX4⟩
      case measure => have := HLT.out; simp only [intOf]; omega
    · have hxe : x = n := by omega
      subst hxe
      have HFV := Aside0.mk (show NB wx w.heap.size u5 (outP st pr nx es) by
        have h := HN.out
        rw [Int.toNat_natCast, List.take_of_length_le (by rw [HL.out]; exact Nat.le_refl _), HXH.out] at h
        rw [HO.out]; exact h)
      clear hlt g0 g1 HN
      go_wp2_with fail
      go_ret2
      exact ⟨_, rfl, HFV.out, HE.out.trans HX.out⟩
end Go.Proofs.Ythgdjgnbifakbaa.By

/- What is wrong with a summary, as the document says it: rillref12.entry and Check; its bytes: Put. -/
namespace Go.Proofs.Ythgdjgnbifakbaa.By
open Go.RowKit Go.Proofs.Ythgdjgnbifakbaa.Reg Go.Proofs.YthgdjgnbifakbaaW.PrintWords Go.Proofs.YthgdjgnbifakbaaW.PrintLast Go.Proofs.YthgdjgnbifakbaaW.PrintMore
set_option linter.unusedVariables false
set_option linter.unusedSimpArgs false


theorem rd_ext32 {a b : List Int} (ha : a.length = 32) (hb : b.length = 32) (h : ∀ i : Nat, i < 32 → rd a i = rd b i) : a = b := by
  apply List.ext_getElem (by rw [ha, hb])
  intro i h1 h2
  have := h i (by omega)
  unfold rd at this
  rw [Int.toNat_natCast, List.getD_eq_getElem?_getD, List.getD_eq_getElem?_getD, List.getElem?_eq_getElem h1, List.getElem?_eq_getElem h2] at this
  exact this
theorem rd_zero32 (i : Int) : rd zero32 i = 0 := by
  unfold rd zero32
  rw [List.getD_eq_getElem?_getD, List.getElem?_replicate]
  split <;> rfl
/-- The first x bytes are noughts. -/
def noughtB (sm : List Int) (x : Int) : Prop := ∀ i : Nat, (i : Int) < x → rd sm i = 0
theorem nought_all {sm : List Int} (h : sm.length = 32) (hz : noughtB sm 32) : sm = zero32 := rd_ext32 h zero32_length (fun i hi => by rw [rd_zero32]; exact hz i (by omega))
theorem placed_eq (k b s : Int) (sm : List Int) (most : Int) (hm : most = if k = 3 then 8 else 63) : placedF (k, b, s, sm) = ((decide (0 ≤ b) && decide (b ≤ most)) && (decide (0 ≤ s) && decide (s ≤ 63)) && (k != 2 || (s == 0 && decide (sm = zero32)))) := by rw [hm]; rfl
theorem placed_no (k b s : Int) (sm : List Int) (most : Int) (hm : most = if k = 3 then 8 else 63) (h : ¬ ((0 ≤ b ∧ b ≤ most) ∧ (0 ≤ s ∧ s ≤ 63))) : placedF (k, b, s, sm) = false := by
  rw [placed_eq k b s sm most hm]
  cases hx : ((decide (0 ≤ b) && decide (b ≤ most)) && (decide (0 ≤ s) && decide (s ≤ 63))) with
  | false => rfl
  | true => simp only [Bool.and_eq_true, decide_eq_true_eq] at hx; exact absurd hx h
theorem placed_in (k b s : Int) (sm : List Int) (most : Int) (hm : most = if k = 3 then 8 else 63) (h : (0 ≤ b ∧ b ≤ most) ∧ (0 ≤ s ∧ s ≤ 63)) : placedF (k, b, s, sm) = (k != 2 || (s == 0 && decide (sm = zero32))) := by
  rw [placed_eq k b s sm most hm]
  simp [h.1.1, h.1.2, h.2.1, h.2.2]

set_option maxRecDepth 100000 in
set_option maxHeartbeats 16000000 in
theorem entry_calls (w : World) (e : Th) (l F : Int) (hF : F = chkE e l) (hok : Th.ok e) (hl : -9223372036854775808 ≤ l ∧ l ≤ 9223372036854775807) :
    Calls Try.prog 71 #[.agg (thC e).toArray, .int .i64 l] w fun e' w' => e' = .returned (.int .i64 F) ∧ Ext w w' := by
  have hb := Blk.new w (thC e).toArray 73
  obtain ⟨c0, c1, c2, r3, _⟩ := thBlk hb
  obtain ⟨k1, k2, k3, kl, kb⟩ := hok
  have HR3 := Aside0.mk r3
  have HE := Aside0.mk ((Ext.refl w).alloc (.cells (thC e).toArray 73))
  obtain ⟨k, b, s, sm⟩ := e
  simp only [] at c0 c1 c2 k1 k2 k3 HR3 kl
  have HKL := Aside0.mk kl
  have HF := Aside0.mk hF
  clear hb r3 kb kl hF
  by_cases hk : 1 ≤ k ∧ k ≤ 3
  case neg =>
    have HV := Aside0.mk (show F = 5 by rw [HF.out]; exact chkE_5 hk)
    have h1 : (k != 1) = true := by rw [bne_iff_ne]; omega
    have h2 : (k != 2) = true := by rw [bne_iff_ne]; omega
    have h3 : (k != 3) = true := by rw [bne_iff_ne]; omega
    clear hk
    go_enter Try.func71, Try.ntmps71
    go_wp2_with fail
    go_ret
    exact ⟨by rw [HV.out]; rfl, HE.out⟩
  have hk123 : k = 1 ∨ k = 2 ∨ k = 3 := by omega
  clear hk k1
  rcases hk123 with rfl | rfl | rfl
  · skip
    by_cases hin : (0 ≤ b ∧ b ≤ 63) ∧ (0 ≤ s ∧ s ≤ 63)
    case neg =>
      have HV := Aside0.mk (show F = 7 by rw [HF.out]; exact chkE_7 (show (1 : Int) ≤ 1 ∧ (1 : Int) ≤ 3 by decide) (placed_no 1 b s sm 63 rfl hin))
      have hcs : b < 0 ∨ (0 ≤ b ∧ 63 < b) ∨ ((0 ≤ b ∧ b ≤ 63) ∧ s < 0) ∨ ((0 ≤ b ∧ b ≤ 63) ∧ 0 ≤ s ∧ 63 < s) := by omega
      clear hin
      rcases hcs with h | ⟨h, h'⟩ | ⟨⟨h, h'⟩, h''⟩ | ⟨⟨h, h'⟩, h'', h4⟩
      all_goals
        go_enter Try.func71, Try.ntmps71
        go_wp2_with fail
        go_ret
        exact ⟨by rw [HV.out]; rfl, HE.out⟩
    obtain ⟨⟨i0, i1⟩, i2, i3⟩ := hin
    have hpl := placed_in 1 b s sm 63 rfl ⟨⟨i0, i1⟩, i2, i3⟩
    rw [show ((1 : Int) != 2) = true by decide, Bool.true_or] at hpl
    by_cases hl0 : 0 ≤ l
    · have hsl : wrap64 (s - l) = s - l := wrap64_in (by omega) (by omega)
      by_cases hs : s = l + 1
      · have HV := Aside0.mk (show F = 0 by rw [HF.out]; exact chkE_0 (show (1 : Int) ≤ 1 ∧ (1 : Int) ≤ 3 by decide) hpl (show ¬ (1 : Int) = 2 by decide) (fun h => h.2 hs))
        have hsn : (s - l != 1) = false := by rw [hs]; simp; omega
        clear hpl hs
        go_enter Try.func71, Try.ntmps71
        go_wp2_with fail
        go_ret
        exact ⟨by rw [HV.out]; rfl, HE.out⟩
      · have HV := Aside0.mk (show F = 8 by rw [HF.out]; exact chkE_8 (show (1 : Int) ≤ 1 ∧ (1 : Int) ≤ 3 by decide) hpl (show ¬ (1 : Int) = 2 by decide) ⟨hl0, hs⟩)
        have hsn : (s - l != 1) = true := by rw [bne_iff_ne]; omega
        clear hpl hs
        go_enter Try.func71, Try.ntmps71
        go_wp2_with fail
        go_ret
        exact ⟨by rw [HV.out]; rfl, HE.out⟩
    · have HV := Aside0.mk (show F = 0 by rw [HF.out]; exact chkE_0 (show (1 : Int) ≤ 1 ∧ (1 : Int) ≤ 3 by decide) hpl (show ¬ (1 : Int) = 2 by decide) (fun h => hl0 h.1))
      clear hpl
      have hlz : (0 ≤ l) = False := eq_false hl0
      clear hl0
      go_enter Try.func71, Try.ntmps71
      go_wp2_with fail
      go_ret
      exact ⟨by rw [HV.out]; rfl, HE.out⟩
  · skip
    by_cases hin : (0 ≤ b ∧ b ≤ 63) ∧ (0 ≤ s ∧ s ≤ 63)
    case neg =>
      have HV := Aside0.mk (show F = 7 by rw [HF.out]; exact chkE_7 (show (1 : Int) ≤ 2 ∧ (2 : Int) ≤ 3 by decide) (placed_no 2 b s sm 63 rfl hin))
      have hcs : b < 0 ∨ (0 ≤ b ∧ 63 < b) ∨ ((0 ≤ b ∧ b ≤ 63) ∧ s < 0) ∨ ((0 ≤ b ∧ b ≤ 63) ∧ 0 ≤ s ∧ 63 < s) := by omega
      clear hin
      rcases hcs with h | ⟨h, h'⟩ | ⟨⟨h, h'⟩, h''⟩ | ⟨⟨h, h'⟩, h'', h4⟩
      all_goals
        go_enter Try.func71, Try.ntmps71
        go_wp2_with fail
        go_ret
        exact ⟨by rw [HV.out]; rfl, HE.out⟩
    obtain ⟨⟨i0, i1⟩, i2, i3⟩ := hin
    have HPL := Aside0.mk (show placedF (2, b, s, sm) = (s == 0 && decide (sm = zero32)) from placed_in 2 b s sm 63 rfl ⟨⟨i0, i1⟩, i2, i3⟩)
    go_enter Try.func71, Try.ntmps71
    go_wp2_with fail
    have HC2 := Aside0.mk c2
    clear c0 c1 c2
    obtain ⟨W0, hW0⟩ : ∃ W0, W0 = w.alloc (.cells (thC (2, b, s, sm)).toArray 73) := ⟨_, rfl⟩
    rw [← hW0] at HC2 HR3 HE ⊢
    clear hW0
    go_loopw [6] (fun i wr => ∃ x : Int, i = .int .i64 x ∧ Aside0 (0 ≤ x ∧ x ≤ 32) ∧ Aside0 (noughtB sm x) ∧ Aside0 (wr = W0)) (fun i _ => 32 - (intOf i).toNat)
    case atStart => exact ⟨0, rfl, ⟨by decide⟩, ⟨fun i hi => absurd hi (by omega)⟩, ⟨rfl⟩⟩
    case round =>
      obtain ⟨x, rfl, HXR, HNO, HW⟩ := hrel
      obtain ⟨g0, g1⟩ := HXR.out
      have hww := HW.out
      subst hww
      clear HW
      by_cases hlt : x < 32
      · have HLT := Aside0.mk hlt
        have hcl := HR3.out x.toNat (.int .u8 (rd sm x)) (by
          have h := nums_cell sm x.toNat (by rw [HKL.out]; omega)
          rw [Int.toNat_of_nonneg g0] at h
          simpa using h)
        by_cases hz : rd sm x = 0
        · have HNO2 := Aside0.mk (show noughtB sm (x + 1) from fun i hi => by
            rcases Int.lt_or_le (i : Int) x with h | h
            · exact HNO.out i h
            · rw [show (i : Int) = x by omega]; exact hz)
          rw [hz] at hcl
          clear hz
          go_wp2_with fail
          go_roundw
          case rel => exact ⟨x + 1, rfl, ⟨by omega⟩, HNO2, ⟨by first | trivial | rfl⟩⟩
          case measure => have := HLT.out; simp only [intOf]; omega
        · have hzb : (rd sm x != 0) = true := by rw [bne_iff_ne]; exact hz
          have HV := Aside0.mk (show F = 7 by
            rw [HF.out]
            refine chkE_7 (show (1 : Int) ≤ 2 ∧ (2 : Int) ≤ 3 by decide) ?_
            rw [HPL.out, decide_eq_false (fun h => hz (by rw [h]; exact rd_zero32 x)), Bool.and_false])
          clear hz
          go_wp2_with fail
          go_ret
          exact ⟨by rw [HV.out]; rfl, HE.out⟩
      · have hxe : x = 32 := by omega
        subst hxe
        have hsz := nought_all HKL.out HNO.out
        have hc2 := HC2.out
        by_cases hs0 : s = 0
        · have HV := Aside0.mk (show F = 0 by
            rw [HF.out]
            exact chkE_2 (show (1 : Int) ≤ 2 ∧ (2 : Int) ≤ 3 by decide) (by rw [HPL.out, hs0, decide_eq_true hsz]; rfl) rfl)
          subst hs0
          clear hsz hlt
          go_wp2_with fail
          go_ret
          exact ⟨by rw [HV.out]; rfl, HE.out⟩
        · have HV := Aside0.mk (show F = 7 by
            rw [HF.out]
            refine chkE_7 (show (1 : Int) ≤ 2 ∧ (2 : Int) ≤ 3 by decide) ?_
            rw [HPL.out, show (s == 0) = false by simpa using hs0, Bool.false_and])
          have hsb : (s != 0) = true := by rw [bne_iff_ne]; exact hs0
          clear hsz hlt hs0
          go_wp2_with fail
          go_ret
          exact ⟨by rw [HV.out]; rfl, HE.out⟩
  · skip
    by_cases hin : (0 ≤ b ∧ b ≤ 8) ∧ (0 ≤ s ∧ s ≤ 63)
    case neg =>
      have HV := Aside0.mk (show F = 7 by rw [HF.out]; exact chkE_7 (show (1 : Int) ≤ 3 ∧ (3 : Int) ≤ 3 by decide) (placed_no 3 b s sm 8 rfl hin))
      have hcs : b < 0 ∨ (0 ≤ b ∧ 8 < b) ∨ ((0 ≤ b ∧ b ≤ 8) ∧ s < 0) ∨ ((0 ≤ b ∧ b ≤ 8) ∧ 0 ≤ s ∧ 63 < s) := by omega
      clear hin
      rcases hcs with h | ⟨h, h'⟩ | ⟨⟨h, h'⟩, h''⟩ | ⟨⟨h, h'⟩, h'', h4⟩
      all_goals
        go_enter Try.func71, Try.ntmps71
        go_wp2_with fail
        go_ret
        exact ⟨by rw [HV.out]; rfl, HE.out⟩
    obtain ⟨⟨i0, i1⟩, i2, i3⟩ := hin
    have hpl := placed_in 3 b s sm 8 rfl ⟨⟨i0, i1⟩, i2, i3⟩
    rw [show ((3 : Int) != 2) = true by decide, Bool.true_or] at hpl
    by_cases hl0 : 0 ≤ l
    · have hsl : wrap64 (s - l) = s - l := wrap64_in (by omega) (by omega)
      by_cases hs : s = l + 1
      · have HV := Aside0.mk (show F = 0 by rw [HF.out]; exact chkE_0 (show (1 : Int) ≤ 3 ∧ (3 : Int) ≤ 3 by decide) hpl (show ¬ (3 : Int) = 2 by decide) (fun h => h.2 hs))
        have hsn : (s - l != 1) = false := by rw [hs]; simp; omega
        clear hpl hs
        go_enter Try.func71, Try.ntmps71
        go_wp2_with fail
        go_ret
        exact ⟨by rw [HV.out]; rfl, HE.out⟩
      · have HV := Aside0.mk (show F = 8 by rw [HF.out]; exact chkE_8 (show (1 : Int) ≤ 3 ∧ (3 : Int) ≤ 3 by decide) hpl (show ¬ (3 : Int) = 2 by decide) ⟨hl0, hs⟩)
        have hsn : (s - l != 1) = true := by rw [bne_iff_ne]; omega
        clear hpl hs
        go_enter Try.func71, Try.ntmps71
        go_wp2_with fail
        go_ret
        exact ⟨by rw [HV.out]; rfl, HE.out⟩
    · have HV := Aside0.mk (show F = 0 by rw [HF.out]; exact chkE_0 (show (1 : Int) ≤ 3 ∧ (3 : Int) ≤ 3 by decide) hpl (show ¬ (3 : Int) = 2 by decide) (fun h => hl0 h.1))
      clear hpl
      have hlz : (0 ≤ l) = False := eq_false hl0
      clear hl0
      go_enter Try.func71, Try.ntmps71
      go_wp2_with fail
      go_ret
      exact ⟨by rw [HV.out]; rfl, HE.out⟩
end Go.Proofs.Ythgdjgnbifakbaa.By

/- A summary's Check and its bytes, as the document says them: rillref12.Check, Put. -/
namespace Go.Proofs.Ythgdjgnbifakbaa.By
open Go.RowKit Go.Proofs.Ythgdjgnbifakbaa.Reg Go.Proofs.YthgdjgnbifakbaaW.PrintWords Go.Proofs.YthgdjgnbifakbaaW.PrintLast Go.Proofs.YthgdjgnbifakbaaW.PrintMore
set_option linter.unusedVariables false
set_option linter.unusedSimpArgs false


set_option maxRecDepth 100000 in
set_option maxHeartbeats 16000000 in
theorem rcheck_calls (w : World) (st nx : Int) (pr : List Int) (A : Option Addr) (c n : Nat) (es : List Th) (F : Int) (hF : F = checkF st nx es) (hr : Kd.C kTh w A n es) (hc : n ≤ c) (hp : pr.length = 32) (hok : ∀ e ∈ es, Th.ok e) :
    Calls Try.prog 49 #[smyV st pr nx (.slice A n c)] w fun e w' => e = .returned (.int .i64 F) ∧ Ext w w' := by
  have hb := Blk.new w (smyC st pr nx (.slice A n c)).toArray 58
  obtain ⟨c0, r1, c33, c34⟩ := smyBlk hb hp
  have HE := Aside0.mk ((Ext.refl w).alloc (.cells (smyC st pr nx (.slice A n c)).toArray 58))
  have HR := Aside0.mk (Kd.C_below hr HE.out)
  have HL := Aside0.mk (show es.length = n from hr.1)
  have HOK := Aside0.mk hok
  have HF := Aside0.mk hF
  unfold smyV
  clear hb r1 hr hok hF
  by_cases h16 : 16 < n
  · have hz : ((16 : Int) < (n : Int)) = True := eq_true (by omega)
    have HV := Aside0.mk (show F = 17 by rw [HF.out]; unfold checkF; rw [if_pos (by rw [HL.out]; exact h16)])
    go_enter Try.func49, Try.ntmps49
    go_wp2_with fail
    go_ret
    exact ⟨by rw [HV.out]; rfl, HE.out⟩
  have hz : ((16 : Int) < (n : Int)) = False := eq_false (by omega)
  have hn16 : n ≤ 16 := by omega
  by_cases hst : (0 ≤ st ∧ st ≤ 1099511627776) ∧ (-1 ≤ nx ∧ nx ≤ 31)
  case neg =>
    have HV := Aside0.mk (show F = 7 by rw [HF.out]; unfold checkF; rw [if_neg (by rw [HL.out]; exact h16), if_pos (by omega)])
    have hcs : st < 0 ∨ (0 ≤ st ∧ 1099511627776 < st) ∨ ((0 ≤ st ∧ st ≤ 1099511627776) ∧ nx < -1) ∨ ((0 ≤ st ∧ st ≤ 1099511627776) ∧ -1 ≤ nx ∧ 31 < nx) := by omega
    clear hst h16
    rcases hcs with h | ⟨h, h'⟩ | ⟨⟨h, h'⟩, h''⟩ | ⟨⟨h, h'⟩, h'', h4⟩
    all_goals
      go_enter Try.func49, Try.ntmps49
      go_wp2_with fail
      go_ret
      exact ⟨by rw [HV.out]; rfl, HE.out⟩
  obtain ⟨⟨i0, i1⟩, i2, i3⟩ := hst
  have HV := Aside0.mk (show F = chkL es (-1) by rw [HF.out]; unfold checkF; rw [if_neg (by rw [HL.out]; exact h16), if_neg (by omega)])
  clear h16
  have HC34 := Aside0.mk c34
  go_enter Try.func49, Try.ntmps49
  go_wp2_with fail
  clear c0 c33 c34 i0 i1 i2 i3
  obtain ⟨W0, hW0⟩ : ∃ W0, W0 = w.alloc (.cells (smyC st pr nx (.slice A n c)).toArray 58) := ⟨_, rfl⟩
  rw [← hW0] at HE HR HC34 ⊢
  clear hW0
  go_loopw [3, 4] (fun u i wr => ∃ x l : Int, i = .int .i64 x ∧ u = .int .i64 l ∧ Aside0 ((0 ≤ x ∧ x ≤ n) ∧ (-9223372036854775808 ≤ l ∧ l ≤ 9223372036854775807)) ∧ Aside0 (F = chkL (es.drop x.toNat) l) ∧ Aside0 (Ext W0 wr)) (fun _ i _ => n - (intOf i).toNat)
  case atStart => exact ⟨0, -1, rfl, rfl, ⟨⟨by omega, by omega⟩, by decide⟩, HV, ⟨Ext.refl _⟩⟩
  case round =>
    clear HV
    obtain ⟨x, l, rfl, rfl, HXR, HV, HX⟩ := hrel
    obtain ⟨⟨g0, g1⟩, l0, l1⟩ := HXR.out
    obtain ⟨wx, hwx⟩ : ∃ wx : World, wx = wr := ⟨_, rfl⟩
    subst hwx
    have c34 := HX.out.cell HC34.out
    by_cases hlt : x < n
    · have HLT := Aside0.mk hlt
      have hxl : x.toNat < es.length := by rw [HL.out]; omega
      obtain ⟨b, off, hA, hrg⟩ := th_at (Kd.C_below HR.out HX.out) x.toNat (by omega) _ (List.getElem?_eq_getElem hxl)
      subst hA
      have heo := HOK.out _ (List.getElem_mem hxl)
      have hstep := chkL_at es x.toNat hxl l
      rw [← HV.out] at hstep
      generalize es[x.toNat] = t at hrg heo hstep
      have HST := Aside0.mk hstep
      have HEO := Aside0.mk heo
      have hnr := nextL_r t l heo ⟨l0, l1⟩
      have HNR := Aside0.mk hnr
      have HI := Aside0.mk (show (Try.prog.info? 73).map (·.size) = some (thC t).length by rw [thC_len heo.2.2.2.1]; kernel_rfl)
      have HRG := Aside0.mk hrg
      have k0 := show wx.cell? ⟨b, off + x.toNat * 35, none⟩ = some (.int .i64 t.1) from hrg 0 _ rfl
      have k2 := show wx.cell? ⟨b, off + x.toNat * 35 + 2, none⟩ = some (.int .i64 t.2.2.1) from hrg 2 _ rfl
      have HK0 := Aside0.mk k0
      have HK2 := Aside0.mk k2
      clear hrg heo hstep hnr hxl k0 k2
      go_wp2_with (first | ((with_reducible refine gate_load (ty := 73) rfl ?_); refine load_at rfl 73 _ rfl b (off + x.toNat * 35) rfl (thC t) _ HRG.out Try.underlying73 rfl HI.out ?_) | fail)
      obtain ⟨G, hG⟩ : ∃ G, G = chkE t l := ⟨_, rfl⟩
      have HG := Aside0.mk hG
      clear hG
      refine (entry_calls wx t l G HG.out HEO.out ⟨l0, l1⟩).mono ?_
      rintro e w3 ⟨rfl, hE3⟩
      have HX3 := Aside0.mk (HX.out.trans hE3)
      have k0 := hE3.cell HK0.out
      have k2 := hE3.cell HK2.out
      have c34 := hE3.cell c34
      clear hE3 HX HRG HK0 HK2
      by_cases h0 : G = 0
      case neg =>
        have HFV := Aside0.mk (show F = G by
          have h := HST.out; rw [← HG.out, if_pos h0] at h; exact h)
        have hg : (G != 0) = true := by rw [bne_iff_ne]; exact h0
        clear h0
        go_wp2_with fail
        go_ret
        exact ⟨by rw [HFV.out]; rfl, HE.out.trans HX3.out⟩
      have HFV := Aside0.mk (show F = chkL (es.drop (x + 1).toNat) (nextL t l) by
        have h := HST.out; rw [← HG.out, if_neg (by intro hh; exact hh h0)] at h
        rw [h, show (x + 1).toNat = x.toNat + 1 by omega])
      subst h0
      by_cases hk2 : t.1 = 2
      · have hb2 : (t.1 != 2) = false := by rw [hk2]; rfl
        rw [nextL_2 hk2] at HFV
        clear hk2
        go_wp2_with fail
        go_roundw
        case rel => exact ⟨x + 1, l, rfl, rfl, ⟨⟨by omega, by omega⟩, l0, l1⟩, HFV, HX3⟩
        case measure => have := HLT.out; simp only [intOf]; omega
      · have hb2 : (t.1 != 2) = true := by rw [bne_iff_ne]; exact hk2
        rw [nextL_s hk2] at HFV HNR
        clear hk2
        go_wp2_with fail
        go_roundw
        case rel => exact ⟨x + 1, t.2.2.1, rfl, rfl, ⟨⟨by omega, by omega⟩, HNR.out⟩, HFV, HX3⟩
        case measure => have := HLT.out; simp only [intOf]; omega
    · have hxe : x = n := by omega
      subst hxe
      have HFV := Aside0.mk (show F = 0 by rw [HV.out, Int.toNat_natCast, List.drop_eq_nil_of_le (by rw [HL.out]; exact Nat.le_refl _)]; rfl)
      clear hlt g0 g1 l0 l1
      go_wp2_with fail
      go_ret
      exact ⟨by rw [HFV.out]; rfl, HE.out.trans HX.out⟩

set_option maxRecDepth 100000 in
set_option maxHeartbeats 16000000 in
theorem rput_calls (w : World) (st nx : Int) (pr : List Int) (A : Option Addr) (c n : Nat) (es : List Th) (F : Int) (hF : F = checkF st nx es) (hr : Kd.C kTh w A n es) (hc : n ≤ c) (hp : pr.length = 32) (hok : ∀ e ∈ es, Th.ok e) :
    Calls Try.prog 47 #[smyV st pr nx (.slice A n c)] w fun e w' => ∃ V, e = .returned (.tuple #[V, .int .i64 F]) ∧ NB w' w.heap.size V (outP st pr nx es) ∧ Ext w w' := by
  have hb := Blk.new w (smyC st pr nx (.slice A n c)).toArray 58
  have HB := Aside0.mk hb
  have HE := Aside0.mk ((Ext.refl w).alloc (.cells (smyC st pr nx (.slice A n c)).toArray 58))
  have HR := Aside0.mk (Kd.C_below hr HE.out)
  have HL := Aside0.mk (show es.length = n from hr.1)
  have HOK := Aside0.mk hok
  have HF := Aside0.mk hF
  have HP := Aside0.mk hp
  have HRW := Aside0.mk (show (w.alloc (.cells (smyC st pr nx (.slice A n c)).toArray 58)).rangeAt w.heap.size 0 (smyC st pr nx (.slice A n c)) from hb.range 0 _ [] (by simp))
  have HI58 := Aside0.mk (show (Try.prog.info? 58).map (·.size) = some (smyC st pr nx (.slice A n c)).length by rw [smyC_len hp]; kernel_rfl)
  have HI24 := Aside0.mk (show (Try.prog.info? 24).map (·.size) = some (nums .u8 pr).length by rw [nums_length, hp]; kernel_rfl)
  have HCH := Aside0.mk (rcheck_calls (w.alloc (.cells (smyC st pr nx (.slice A n c)).toArray 58)) st nx pr A c n es F hF HR.out hc hp hok)
  unfold smyV at HCH ⊢
  clear hb hr hok hF hp
  go_enter Try.func47, Try.ntmps47
  go_wp2_with (first | ((with_reducible refine gate_load (ty := 58) rfl ?_); refine load_at rfl 58 _ rfl w.heap.size 0 rfl (smyC st pr nx (.slice A n c)) _ HRW.out Try.underlying58 rfl HI58.out ?_) | fail)
  refine HCH.out.mono ?_
  rintro e w1 ⟨rfl, hE1⟩
  obtain ⟨W0, hW0⟩ : ∃ W0, W0 = w.alloc (.cells (smyC st pr nx (.slice A n c)).toArray 58) := ⟨_, rfl⟩
  rw [← hW0] at HE HR HB hE1
  have HX1 := Aside0.mk hE1
  clear hW0 hE1 HRW HCH
  by_cases h0 : F = 0
  case neg =>
    have HO := Aside0.mk (show outP st pr nx es = [] by unfold outP; rw [if_neg (by rw [← HF.out]; exact h0)])
    have hz : (F == 0) = false := by simpa using h0
    have hz' : (F != 0) = true := by simpa using h0
    clear h0
    go_wp2_with fail
    go_ret2
    exact ⟨_, rfl, by rw [HO.out]; exact Kd.R_nil kb 5 w1 w.heap.size (fun _ => True), HE.out.trans HX1.out⟩
  have HO := Aside0.mk (show outP st pr nx es = smyB st pr nx es by unfold outP; rw [if_pos (by rw [← HF.out]; exact h0)])
  have hn16 : n ≤ 16 := by rw [← HL.out]; exact checkF_le (by rw [← HF.out]; exact h0)
  subst h0
  obtain ⟨X1, hX1⟩ : ∃ X1, X1 = [] ++ be8 st := ⟨_, rfl⟩
  obtain ⟨X2, hX2⟩ : ∃ X2, X2 = X1 ++ pr := ⟨_, rfl⟩
  obtain ⟨X3, hX3⟩ : ∃ X3, X3 = X2 ++ be8 nx := ⟨_, rfl⟩
  obtain ⟨X4, hX4⟩ : ∃ X4, X4 = X3 ++ be8 n := ⟨_, rfl⟩
  have HX := Aside0.mk (And.intro hX1 (And.intro hX2 (And.intro hX3 hX4)))
  have HLL := Aside0.mk (show X1.length = 8 ∧ X2.length = 40 ∧ X3.length = 48 ∧ X4.length = 56 by
    rw [hX4, hX3, hX2, hX1]; simp [be8_length, HP.out])
  have HXH := Aside0.mk (show X4 = headB st pr nx es.length by rw [hX4, hX3, hX2, hX1, HL.out]; rfl)
  clear hX1 hX2 hX3 hX4
  have c0 := (smyBlk (HB.out.ext HX1.out) HP.out).1
  go_wp2_with fail
  refine (rint_n w1 none 0 0 [] st rfl (Kd.C_nil kb w1) (Nat.le_refl _) (by decide)).mono ?_
  rintro e w2 ⟨V1, rfl, hN, hE⟩
  rw [← HX.out.1] at hN
  have HX2 := Aside0.mk (HX1.out.trans hE)
  have HN2 := Aside0.mk (hN.lower (HE.out.trans HX1.out).size)
  obtain ⟨A1, k1, hu, hc1, hC⟩ := NB.reads hN
  have HC2 := Aside0.mk hC
  obtain ⟨L1, hL⟩ : ∃ L1, L1 = X1.length := ⟨_, rfl⟩
  rw [← hL] at hu hc1 HC2
  subst hu
  have HL1 := Aside0.mk hL
  clear hL hC hN hE
  clear c0
  have HR1 := Aside0.mk (smyBlk (HB.out.ext HX2.out) HP.out).2.1
  go_wp2_with (first | ((with_reducible refine gate_load (ty := 24) rfl ?_); refine load_at rfl 24 _ rfl w.heap.size 1 rfl (nums .u8 pr) _ HR1.out Try.underlying24 rfl HI24.out ?_) | fail)
  refine (rsum_n w2 A1 k1 L1 X1 pr HL1.out HC2.out hc1 _ rfl HP.out (by rw [HL1.out]; have := HLL.out; omega)).mono ?_
  rintro e w3 ⟨V2, rfl, hN, hE⟩
  rw [← HX.out.2.1] at hN
  have HX3 := Aside0.mk (HX2.out.trans hE)
  have HN3 := Aside0.mk (hN.lower (HE.out.trans HX2.out).size)
  obtain ⟨A2, k2, hu, hc2, hC⟩ := NB.reads hN
  have HC3 := Aside0.mk hC
  obtain ⟨L2, hL⟩ : ∃ L2, L2 = X2.length := ⟨_, rfl⟩
  rw [← hL] at hu hc2 HC3
  subst hu
  have HL2 := Aside0.mk hL
  clear hL hC hN hE
  have c33 := (smyBlk (HB.out.ext HX3.out) HP.out).2.2.1
  go_wp2_with fail
  refine (rint_n w3 A2 k2 L2 X2 nx HL2.out HC3.out hc2 (by rw [HL2.out]; have := HLL.out; omega)).mono ?_
  rintro e w4 ⟨V3, rfl, hN, hE⟩
  rw [← HX.out.2.2.1] at hN
  have HX4 := Aside0.mk (HX3.out.trans hE)
  have HN4 := Aside0.mk (hN.lower (HE.out.trans HX3.out).size)
  obtain ⟨A3, k3, hu, hc3, hC⟩ := NB.reads hN
  have HC4 := Aside0.mk hC
  obtain ⟨L3, hL⟩ : ∃ L3, L3 = X3.length := ⟨_, rfl⟩
  rw [← hL] at hu hc3 HC4
  subst hu
  have HL3 := Aside0.mk hL
  clear hL hC hN hE
  clear c33 HR1
  have c34 := (smyBlk (HB.out.ext HX4.out) HP.out).2.2.2
  go_wp2_with fail
  refine (rint_n w4 A3 k3 L3 X3 n HL3.out HC4.out hc3 (by rw [HL3.out]; have := HLL.out; omega)).mono ?_
  rintro e w5 ⟨V4, rfl, hN, hE⟩
  rw [← HX.out.2.2.2] at hN
  have HX5 := Aside0.mk (HX4.out.trans hE)
  have HN5 := Aside0.mk (hN.lower (HE.out.trans HX4.out).size)
  obtain ⟨A4, k4, hu, hc4, hC⟩ := NB.reads hN
  have HC5 := Aside0.mk hC
  obtain ⟨L4, hL⟩ : ∃ L4, L4 = X4.length := ⟨_, rfl⟩
  rw [← hL] at hu hc4 HC5
  subst hu
  have HL4 := Aside0.mk hL
  clear hL hC hN hE
  clear c34
  have HNZ := Aside0.mk (show NB w5 w.heap.size (.slice A4 L4 k4) (X4 ++ allE (es.take 0)) by
    rw [List.take_zero, show allE [] = [] from rfl, List.append_nil]; exact HN5.out)
  go_wp2_with fail
  go_loopw [5, 6] (fun u i wr => ∃ x : Int, i = .int .i64 x ∧ Aside0 (0 ≤ x ∧ x ≤ n) ∧ Aside0 (NB wr w.heap.size u (X4 ++ allE (es.take x.toNat))) ∧ Aside0 (Ext W0 wr)) (fun _ i _ => n - (intOf i).toNat)
  case atStart => exact ⟨0, rfl, ⟨by omega⟩, HNZ, HX5⟩
  case round =>
    clear HNZ HX5 HX1 HX2 HX3 HX4 HN2 HN3 HN4 HN5 HC2 HC3 HC4 HC5
    obtain ⟨x, rfl, HXR, HN, HX⟩ := hrel
    obtain ⟨g0, g1⟩ := HXR.out
    obtain ⟨wx, hwx⟩ : ∃ wx : World, wx = wr := ⟨_, rfl⟩
    subst hwx
    have c34 := (smyBlk (HB.out.ext HX.out) HP.out).2.2.2
    by_cases hlt : x < n
    · have HLT := Aside0.mk hlt
      have hxl : x.toNat < es.length := by rw [HL.out]; omega
      obtain ⟨b, off, hA, hrg⟩ := th_at (Kd.C_below HR.out HX.out) x.toNat (by omega) _ (List.getElem?_eq_getElem hxl)
      subst hA
      have heo := HOK.out _ (List.getElem_mem hxl)
      have htk := allE_take es x.toNat hxl
      have hal := allE_len (es.take x.toNat) (fun e he => HOK.out e (List.mem_of_mem_take he))
      rw [List.length_take] at hal
      generalize es[x.toNat] = t at hrg heo htk
      have HEO := Aside0.mk heo
      have HI := Aside0.mk (show (Try.prog.info? 73).map (·.size) = some (thC t).length by rw [thC_len heo.2.2.2.1]; kernel_rfl)
      have HIS := Aside0.mk (show (Try.prog.info? 24).map (·.size) = some (nums .u8 t.2.2.2).length by rw [nums_length, heo.2.2.2.1]; kernel_rfl)
      have HSZ := Aside0.mk (show #[Value.int .i64 0, Value.int .i64 0, Value.int .i64 0, Value.int .u8 0, Value.int .u8 0, Value.int .u8 0, Value.int .u8 0, Value.int .u8 0, Value.int .u8 0, Value.int .u8 0, Value.int .u8 0, Value.int .u8 0, Value.int .u8 0, Value.int .u8 0, Value.int .u8 0, Value.int .u8 0, Value.int .u8 0, Value.int .u8 0, Value.int .u8 0, Value.int .u8 0, Value.int .u8 0, Value.int .u8 0, Value.int .u8 0, Value.int .u8 0, Value.int .u8 0, Value.int .u8 0, Value.int .u8 0, Value.int .u8 0, Value.int .u8 0, Value.int .u8 0, Value.int .u8 0, Value.int .u8 0, Value.int .u8 0, Value.int .u8 0, Value.int .u8 0].size = (thC t).length by rw [thC_len heo.2.2.2.1]; rfl)
      have HRG := Aside0.mk hrg
      obtain ⟨Y0, hY0⟩ : ∃ Y0, Y0 = X4 ++ allE (es.take x.toNat) := ⟨_, rfl⟩
      rw [← hY0] at HN
      obtain ⟨Y1, hY1⟩ : ∃ Y1, Y1 = Y0 ++ be8 t.1 := ⟨_, rfl⟩
      obtain ⟨Y2, hY2⟩ : ∃ Y2, Y2 = Y1 ++ be8 t.2.1 := ⟨_, rfl⟩
      obtain ⟨Y3, hY3⟩ : ∃ Y3, Y3 = Y2 ++ be8 t.2.2.1 := ⟨_, rfl⟩
      obtain ⟨Y4, hY4⟩ : ∃ Y4, Y4 = Y3 ++ t.2.2.2 := ⟨_, rfl⟩
      have HY := Aside0.mk (And.intro hY1 (And.intro hY2 (And.intro hY3 hY4)))
      have HY4 := Aside0.mk (show Y4 = X4 ++ allE (es.take (x + 1).toNat) by
        rw [show (x + 1).toNat = x.toNat + 1 by omega, htk, hY4, hY3, hY2, hY1, hY0]; unfold entB; simp only [List.append_assoc])
      have HYL := Aside0.mk (show Y0.length ≤ 1000 ∧ Y1.length ≤ 1010 ∧ Y2.length ≤ 1020 ∧ Y3.length ≤ 1030 by
        have h1 := HLL.out
        have h0 : Y0.length ≤ 1000 := by rw [hY0, List.length_append, hal, h1.2.2.2]; omega
        rw [hY3, hY2, hY1]; simp only [List.length_append, be8_length]; omega)
      obtain ⟨A5, c5, hu5, hc5, hC5⟩ := NB.reads HN.out
      have HC5 := Aside0.mk hC5
      obtain ⟨L5, hL5⟩ : ∃ L5, L5 = Y0.length := ⟨_, rfl⟩
      rw [← hL5] at hu5 hc5 HC5
      subst hu5
      have HL5 := Aside0.mk hL5
      clear hrg heo htk hal hxl hY0 hY1 hY2 hY3 hY4 hC5 hL5
      go_wp2_with (first | ((with_reducible refine gate_load (ty := 73) rfl ?_); refine load_at rfl 73 _ rfl b (off + x.toNat * 35) rfl (thC t) _ HRG.out Try.underlying73 rfl HI.out ?_) | ((with_reducible refine gate_store (ty := 73) rfl ?_); (refine store_at rfl 73 _ _ rfl wx.heap.size (thC t) rfl rfl #[Value.int .i64 0, Value.int .i64 0, Value.int .i64 0, Value.int .u8 0, Value.int .u8 0, Value.int .u8 0, Value.int .u8 0, Value.int .u8 0, Value.int .u8 0, Value.int .u8 0, Value.int .u8 0, Value.int .u8 0, Value.int .u8 0, Value.int .u8 0, Value.int .u8 0, Value.int .u8 0, Value.int .u8 0, Value.int .u8 0, Value.int .u8 0, Value.int .u8 0, Value.int .u8 0, Value.int .u8 0, Value.int .u8 0, Value.int .u8 0, Value.int .u8 0, Value.int .u8 0, Value.int .u8 0, Value.int .u8 0, Value.int .u8 0, Value.int .u8 0, Value.int .u8 0, Value.int .u8 0, Value.int .u8 0, Value.int .u8 0, Value.int .u8 0] 73 (Blk.new wx _ 73) HSZ.out HI.out (thC_one t) ?_)) | fail)
      intro w3 hW3 hB3
      have hx3 := hW3.ext ((Ext.refl wx).alloc _) (Nat.le_refl _)
      have HX3 := Aside0.mk (HX.out.trans hx3)
      have HC5 := Aside0.mk (Kd.C_below HC5.out hx3)
      have HBT := Aside0.mk hB3
      generalize wx.heap.size = bx at HBT ⊢
      clear hW3 hB3 hx3 HX HN c34
      have k0 := (thBlk HBT.out).1
      go_wp2_with fail
      refine (rint_n w3 A5 c5 L5 Y0 t.1 HL5.out HC5.out hc5 (by rw [HL5.out]; have := HYL.out; omega)).mono ?_
      rintro e w6 ⟨V6, rfl, hN, hE⟩
      rw [← HY.out.1] at hN
      have HE6 := Aside0.mk (hE)
      obtain ⟨A6, k6, hu, hc6, hC⟩ := NB.reads hN
      have HC6 := Aside0.mk hC
      obtain ⟨L6, hL⟩ : ∃ L6, L6 = Y1.length := ⟨_, rfl⟩
      rw [← hL] at hu hc6 HC6
      subst hu
      have HL6 := Aside0.mk hL
      clear hL hC hN hE
      clear k0
      have k1 := (thBlk (HBT.out.ext HE6.out)).2.1
      go_wp2_with fail
      refine (rint_n w6 A6 k6 L6 Y1 t.2.1 HL6.out HC6.out hc6 (by rw [HL6.out]; have := HYL.out; omega)).mono ?_
      rintro e w7 ⟨V7, rfl, hN, hE⟩
      rw [← HY.out.2.1] at hN
      have HE7 := Aside0.mk (HE6.out.trans hE)
      obtain ⟨A7, k7, hu, hc7, hC⟩ := NB.reads hN
      have HC7 := Aside0.mk hC
      obtain ⟨L7, hL⟩ : ∃ L7, L7 = Y2.length := ⟨_, rfl⟩
      rw [← hL] at hu hc7 HC7
      subst hu
      have HL7 := Aside0.mk hL
      clear hL hC hN hE
      clear k1
      have k2 := (thBlk (HBT.out.ext HE7.out)).2.2.1
      go_wp2_with fail
      refine (rint_n w7 A7 k7 L7 Y2 t.2.2.1 HL7.out HC7.out hc7 (by rw [HL7.out]; have := HYL.out; omega)).mono ?_
      rintro e w8 ⟨V8, rfl, hN, hE⟩
      rw [← HY.out.2.2.1] at hN
      have HE8 := Aside0.mk (HE7.out.trans hE)
      obtain ⟨A8, k8, hu, hc8, hC⟩ := NB.reads hN
      have HC8 := Aside0.mk hC
      obtain ⟨L8, hL⟩ : ∃ L8, L8 = Y3.length := ⟨_, rfl⟩
      rw [← hL] at hu hc8 HC8
      subst hu
      have HL8 := Aside0.mk hL
      clear hL hC hN hE
      clear k2
      have HK3 := Aside0.mk (thBlk (HBT.out.ext HE8.out)).2.2.2.1
      go_wp2_with (first | ((with_reducible refine gate_load (ty := 24) rfl ?_); refine load_at rfl 24 _ rfl bx 3 rfl (nums .u8 t.2.2.2) _ HK3.out Try.underlying24 rfl HIS.out ?_) | fail)
      refine (rsum_n w8 A8 k8 L8 Y3 t.2.2.2 HL8.out HC8.out hc8 _ rfl HEO.out.2.2.2.1 (by rw [HL8.out]; have := HYL.out; omega)).mono ?_
      rintro e w9 ⟨V9, rfl, hN, hE⟩
      rw [← HY.out.2.2.2] at hN
      have HN9 := Aside0.mk (show NB w9 w.heap.size V9 (X4 ++ allE (es.take (x + 1).toNat)) by rw [← HY4.out]; exact hN.lower (HE.out.trans (HX3.out.trans HE8.out)).size)
      have HX9 := Aside0.mk (HX3.out.trans (HE8.out.trans hE))
      clear hN hE HX3 HE8 HE7 HE6 HK3 HBT
      go_wp2_with fail
      go_roundw
      case rel => exact ⟨x + 1, rfl, ⟨by have := HLT.out; omega⟩, HN9, HX9⟩
      case measure => have := HLT.out; simp only [intOf]; omega
    · have hxe : x = n := by omega
      subst hxe
      have HFV := Aside0.mk (show NB wx w.heap.size u5 (outP st pr nx es) by
        have h := HN.out
        rw [Int.toNat_natCast, List.take_of_length_le (by rw [HL.out]; exact Nat.le_refl _), HXH.out] at h
        rw [HO.out]; exact h)
      clear hlt g0 g1 HN
      go_wp2_with fail
      go_ret2
      exact ⟨_, rfl, HFV.out, HE.out.trans HX.out⟩
end Go.Proofs.Ythgdjgnbifakbaa.By
