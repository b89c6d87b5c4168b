/- Both disks, side by side: the real one and the reference's, of which the same is asked. -/
import Derived.Test.YtkgjcmolmogpdaaRtwo
import Derived.Test.YtkgjcmolmogpdaaRegH
namespace Go.Proofs.Ytkgjcmolmogpdaa.By
open Go.RowKit Go.Proofs.Ytkgjcmolmogpdaa.Reg Go.Proofs.YtkgjcmolmogpdaaW.PrintWords Go.Proofs.YtkgjcmolmogpdaaW.PrintLast Go.Proofs.YtkgjcmolmogpdaaW.PrintMore
set_option linter.unusedVariables false
set_option linter.unusedSimpArgs false


/-- What both disks tell of themselves: what lasts, what is cached, whether they are down, how many were written, how often each sector was read. -/
structure RS where
  f : Nat → List Int
  g : Nat → Option (List Int)
  of : Bool
  wt : Int
  rd : List Int
/-- How many operations are left, told in both ways. -/
def Lft (ar : Bool) (lf left : Int) : Prop := (ar = true → left = lf ∧ 0 ≤ lf ∧ lf ≤ 9223372036854775807) ∧ (ar = false → left = -1)
theorem Lft.down {ar : Bool} {lf left : Int} (h : Lft ar lf left) (of : Bool) : rdownF left of = downF ar lf of := by
  unfold rdownF downF
  cases ar with
  | true => rw [(h.1 rfl).1]; simp
  | false => rw [h.2 rfl]; simp
theorem Lft.err {ar : Bool} {lf left : Int} (h : Lft ar lf left) (of : Bool) : rspE left of = spendE ar lf of := by
  unfold rspE spendE
  rw [h.down of]
theorem Lft.spend {ar : Bool} {lf left : Int} (h : Lft ar lf left) (of : Bool) : Lft ar (spendL ar lf of) (rspL left of) := by
  unfold spendL rspL
  rw [h.down of]
  cases ar with
  | true =>
    obtain ⟨h1, h2, h3⟩ := h.1 rfl
    subst h1
    refine ⟨fun _ => ?_, fun h => by cases h⟩
    by_cases hd : downF true left of = true
    · rw [if_pos hd, if_pos hd]; exact ⟨rfl, h2, h3⟩
    · rw [if_neg hd, if_neg hd]
      have h0 : left ≠ 0 := by
        rintro rfl
        apply hd
        unfold downF
        simp
      rw [if_pos (by omega), wrap64_in (by omega) (by omega)]
      exact ⟨rfl, by omega, by omega⟩
  | false =>
    have h1 := h.2 rfl
    subst h1
    refine ⟨(fun h => by cases h), fun _ => ?_⟩
    by_cases hd : downF false lf of = true
    · rw [if_pos hd]
    · rw [if_neg hd, if_neg (by decide)]
theorem Lft.arm (x : Int) (hx : x ≤ 9223372036854775807) : Lft (decide (0 ≤ x)) x (if x < 0 then -1 else x) := by
  refine ⟨fun h => ?_, fun h => ?_⟩
  · have := of_decide_eq_true h
    rw [if_neg (by omega)]
    exact ⟨rfl, this, hx⟩
  · have := of_decide_eq_false h
    rw [if_pos (by omega)]
theorem Lft.crash (lf : Int) : Lft false lf (-1) := ⟨(fun h => by cases h), fun _ => rfl⟩
theorem Lft.new : Lft false 0 (-1) := Lft.crash 0
/-- All blocks of both. -/
def Tst (bd bl bc br bm bq : Nat) (j : Nat) : Prop := Dst bd bl bc br j ∨ Rst bm bq j
/-- The real disk at bd is as s says, the reference's at bm as t says. -/
structure TW (X : Nat → Prop) (w : World) (bd bl bc br bm bq n : Nat) (s : RS) (ar : Bool) (lf : Int) (t : RS) (left : Int) : Prop where
  d : DBX X w bd bl bc br n s.f s.g ar lf s.of s.wt s.rd
  r : RBX X w bm bq n t.f t.g left t.of t.wt t.rd
  ap : ∀ j, Dst bd bl bc br j → ¬ Rst bm bq j
variable {X : Nat → Prop}
theorem RW.apartD {w : World} {bd bl bc br n : Nat} {LV : List Value} {CV : List (Int × Value)} {ar : Bool} {lf : Int} {of : Bool} {wt : Int} {rd : List Int} {B : Nat} {V : Value} {l : List PP} (h : RW w B V l) (hd : DV w bd bl bc br n LV CV ar lf of wt rd) : ∀ j, V.ownBlock = some j → ¬ Dst bd bl bc br j := by
  intro j hj hs
  obtain ⟨cells, hc⟩ := h.typed j hj
  have no : ∀ {cs : Array Value} {t : TypeId}, t ≠ 94 → Blk w j cs t → False := fun ht hb => by
    have := hb.is.symm.trans hc
    injection this with this
    injection this with _ h2
    exact ht h2
  rcases hs with rfl | rfl | rfl | rfl
  · exact no (by decide) hd.hd
  · exact no (by decide) hd.hl
  · obtain ⟨es, c, hm⟩ := owns_obj hd.hm
    rw [hc] at hm
    cases hm
  · exact no (by decide) hd.hr
section
variable {w w' : World} {bd bl bc br bm bq n : Nat} {s s' t t' : RS} {ar ar' : Bool} {lf lf' left left' : Int}
theorem RBX.chgD (h : RBX X w bm bq n t.f t.g left t.of t.wt t.rd) (hd : DBX X w bd bl bc br n s.f s.g ar lf s.of s.wt s.rd) (hap : ∀ j, Dst bd bl bc br j → ¬ Rst bm bq j) (k : Chg w w' (Dst bd bl bc br)) : RBX X w' bm bq n t.f t.g left t.of t.wt t.rd := by
  obtain ⟨LV, CV, h1, h2⟩ := hd
  obtain ⟨VL, VC, l, kk, r1, r2, r3, r4, r5, r6⟩ := h
  exact ⟨VL, VC, l, kk, r1.chg k (fun j hj hs => hap j hs hj), r2.chg k (r2.apartD h1), r3.chg k (r3.apartD h1), r4, r5, r6.map (fun V xs hx => hx.dst h1 k)⟩
theorem DBX.chgR (h : DBX X w bd bl bc br n s.f s.g ar lf s.of s.wt s.rd) (hr : RBX X w bm bq n t.f t.g left t.of t.wt t.rd) (hap : ∀ j, Dst bd bl bc br j → ¬ Rst bm bq j) (k : Chg w w' (Rst bm bq)) : DBX X w' bd bl bc br n s.f s.g ar lf s.of s.wt s.rd := by
  obtain ⟨LV, CV, h1, h2⟩ := h
  obtain ⟨VL, VC, l, kk, r1, _⟩ := hr
  exact ⟨LV, CV, h1.chg k (fun j hj hs => hap j hj hs), h2.map (fun V xs hx => hx.rst r1 k)⟩
theorem TW.lt (h : TW X w bd bl bc br bm bq n s ar lf t left) : ∀ j, Tst bd bl bc br bm bq j → j < w.heap.size := by
  rintro j (hj | hj)
  · exact h.d.lt j hj
  · exact h.r.lt j hj
theorem TW.ext (h : TW X w bd bl bc br bm bq n s ar lf t left) (k : Ext w w') : TW X w' bd bl bc br bm bq n s ar lf t left := ⟨h.d.ext k, h.r.ext k, h.ap⟩
theorem TW.byt (h : TW X w bd bl bc br bm bq n s ar lf t left) {B : Nat} {V : Value} {xs : List Int} (hx : NB w B V xs) (k : Chg w w' (Tst bd bl bc br bm bq)) : NB w' B V xs := by
  obtain ⟨LV, CV, h1, h2⟩ := h.d
  obtain ⟨VL, VC, l, kk, r1, _⟩ := h.r
  refine hx.chg k (fun j hj hs => ?_)
  rcases hs with hs | hs
  · exact hx.apart h1 j hj hs
  · obtain ⟨cells, hc⟩ := hx.typed j hj
    exact r1.apart hc (by decide) (by decide) hs
/-- A block of another type is none of theirs. -/
theorem TW.apart (h : TW X w bd bl bc br bm bq n s ar lf t left) {b u : Nat} {cs : Array Value} (hb : Blk w b cs u) (h1 : u ≠ 72) (h2 : u ≠ 3) (h3 : u ≠ 82) (h4 : u ≠ 29) : ¬ Tst bd bl bc br bm bq b := by
  obtain ⟨LV, CV, hd, _⟩ := h.d
  obtain ⟨VL, VC, l, kk, r1, _⟩ := h.r
  rintro (hs | hs)
  · rcases hs with rfl | rfl | rfl | rfl
    · exact h1 (blk_type hb hd.hd)
    · exact h4 (blk_type hb hd.hl)
    · obtain ⟨es, c, hm⟩ := owns_obj hd.hm
      have := hb.is.symm.trans hm
      cases this
    · exact h2 (blk_type hb hd.hr)
  · rcases hs with rfl | rfl
    · exact h3 (blk_type hb r1.hm)
    · exact h2 (blk_type hb r1.hq)
theorem TW.dst (h : TW X w bd bl bc br bm bq n s ar lf t left) {F : FuncId} {args : Array Value} {R : Ending → World → Prop}
    (H : Calls Try.prog F args w fun e w' => R e w' ∧ DBX X w' bd bl bc br n s'.f s'.g ar' lf' s'.of s'.wt s'.rd ∧ Chg w w' (Dst bd bl bc br)) :
    Calls Try.prog F args w fun e w' => R e w' ∧ TW X w' bd bl bc br bm bq n s' ar' lf' t left ∧ Chg w w' (Tst bd bl bc br bm bq) :=
  H.mono fun e w' ⟨h1, h2, h3⟩ => ⟨h1, ⟨h2, h.r.chgD h.d h.ap h3, h.ap⟩, h3.mono (fun j hj => .inl hj)⟩
theorem TW.rst (h : TW X w bd bl bc br bm bq n s ar lf t left) {F : FuncId} {args : Array Value} {R : Ending → World → Prop}
    (H : Calls Try.prog F args w fun e w' => R e w' ∧ RBX X w' bm bq n t'.f t'.g left' t'.of t'.wt t'.rd ∧ Chg w w' (Rst bm bq)) :
    Calls Try.prog F args w fun e w' => R e w' ∧ TW X w' bd bl bc br bm bq n s ar lf t' left' ∧ Chg w w' (Tst bd bl bc br bm bq) :=
  H.mono fun e w' ⟨h1, h2, h3⟩ => ⟨h1, ⟨h.d.chgR h.r h.ap h3, h2, h.ap⟩, h3.mono (fun j hj => .inr hj)⟩
theorem TW.same (h : TW X w bd bl bc br bm bq n s ar lf t left) {F : FuncId} {args : Array Value} {R : Ending → Prop} (H : Calls Try.prog F args w fun e w' => R e ∧ w = w') :
    Calls Try.prog F args w fun e w' => R e ∧ TW X w' bd bl bc br bm bq n s ar lf t left ∧ Chg w w' (Tst bd bl bc br bm bq) :=
  H.mono fun e w' ⟨h1, h2⟩ => by subst h2; exact ⟨h1, h, Chg.refl _ _⟩
end
/-! what is asked of both -/
def sOf (s : RS) (of : Bool) : RS := { s with of := of }
def sWr (s : RS) (ar : Bool) (lf : Int) (n : Nat) (i : Int) (m : Nat) (xs : List Int) : RS :=
  if s.of = true ∨ ¬ wrongF i n m = 0 then s else if downF ar lf s.of = true then sOf s true else { s with g := upd s.g i.toNat (some xs), wt := wrap64 (s.wt + 1) }
def rwL (i : Int) (n m : Nat) (left : Int) (of : Bool) : Int := if of = true ∨ ¬ wrongF i n m = 0 then left else rspL left of
def sTa (s : RS) (n : Nat) (i : Int) (m : Nat) (xs : List Int) : RS := if ¬ wrongF i n m = 0 then s else { s with f := upd s.f i.toNat xs, g := upd s.g i.toNat none }
def sSy (s : RS) (ar : Bool) (lf : Int) : RS := if downF ar lf s.of = true then sOf s true else { s with f := atB s.f s.g, g := fun _ => none, of := false }
def sCr (s : RS) (fl : List Int) : RS := { s with f := crashB s.f s.g fl, g := fun _ => none, of := false }
def sRd (s : RS) (i : Nat) : RS := { s with rd := s.rd.set i (wrap64 (s.rd.getD i 0 + 1)) }
theorem Lft.write {ar : Bool} {lf left : Int} (h : Lft ar lf left) (i : Int) (n m : Nat) (of : Bool) : Lft ar (writeL i n m ar lf of) (rwL i n m left of) := by
  unfold writeL rwL
  split
  · exact h
  · exact h.spend of
theorem wrong_nat {i : Int} {n m : Nat} (h : wrongF i n m = 0) : ∃ k : Nat, i = (k : Int) ∧ k < n ∧ m ≤ 1024 := by
  unfold wrongF inB at h
  by_cases h1 : (decide (0 ≤ i) && decide (i < (n : Int))) = true
  · simp only [Bool.and_eq_true, decide_eq_true_eq] at h1
    refine ⟨i.toNat, by omega, by omega, ?_⟩
    rw [decide_eq_true h1.1, decide_eq_true h1.2, if_neg (by decide)] at h
    by_cases h2 : 1024 < m
    · rw [if_pos h2] at h; cases h
    · omega
  · have h2 : (decide (0 ≤ i) && decide (i < (n : Int))) = false := by simpa using h1
    rw [h2, if_pos rfl] at h
    cases h
section
variable {w w' : World} {bd bl bc br bm bq n : Nat} {s s' t t' : RS} {ar ar' : Bool} {lf lf' left left' : Int}
theorem tw_spend (h : TW X w bd bl bc br bm bq n s ar lf t left) : Calls Try.prog 30 #[.pointer (some ⟨bd, 0, none⟩)] w fun e w' => e = .returned (.int .i64 (spendE ar lf s.of)) ∧ TW X w' bd bl bc br bm bq n (sOf s (downF ar lf s.of)) ar (spendL ar lf s.of) t left ∧ Chg w w' (Tst bd bl bc br bm bq) :=
  h.dst (s' := sOf s (downF ar lf s.of)) (d_spend h.d)
theorem tr_spend (h : TW X w bd bl bc br bm bq n s ar lf t left) : Calls Try.prog 55 #[.pointer (some ⟨bm, 0, none⟩)] w fun e w' => e = .returned (.int .i64 (rspE left t.of)) ∧ TW X w' bd bl bc br bm bq n s ar lf (sOf t (rdownF left t.of)) (rspL left t.of) ∧ Chg w w' (Tst bd bl bc br bm bq) :=
  h.rst (t' := sOf t (rdownF left t.of)) (rb_spend h.r)
theorem tw_arm (h : TW X w bd bl bc br bm bq n s ar lf t left) (x : Int) : Calls Try.prog 29 #[.pointer (some ⟨bd, 0, none⟩), .int .i64 x] w fun e w' => e = .returned (.tuple #[]) ∧ TW X w' bd bl bc br bm bq n s (decide (0 ≤ x)) x t left ∧ Chg w w' (Tst bd bl bc br bm bq) :=
  h.dst (s' := s) (d_arm h.d x)
theorem tr_arm (h : TW X w bd bl bc br bm bq n s ar lf t left) (x : Int) : Calls Try.prog 58 #[.pointer (some ⟨bm, 0, none⟩), .int .i64 x] w fun e w' => e = .returned (.tuple #[]) ∧ TW X w' bd bl bc br bm bq n s ar lf t (if x < 0 then -1 else x) ∧ Chg w w' (Tst bd bl bc br bm bq) :=
  h.rst (t' := t) (rb_arm h.r x)
theorem tw_crash (h : TW X w bd bl bc br bm bq n s ar lf t left) (A : Option Addr) (m c : Nat) (fl : List Int) (hn : m = fl.length) (hr : Kd.F kI w (fun k => ¬ Tst bd bl bc br bm bq k) A m fl) (hc : m ≤ c) : Calls Try.prog 20 #[.pointer (some ⟨bd, 0, none⟩), .slice A m c] w fun e w' => e = .returned (.tuple #[]) ∧ TW X w' bd bl bc br bm bq n (sCr s fl) false lf t left ∧ Chg w w' (Tst bd bl bc br bm bq) :=
  h.dst (s' := sCr s fl) (d_crash h.d A m c fl hn (Kd.F_mono hr (fun k hk hd => hk (.inl hd))) hc)
theorem tr_crash (h : TW X w bd bl bc br bm bq n s ar lf t left) (A : Option Addr) (m c : Nat) (fl : List Int) (hn : m = fl.length) (hr : Kd.F kI w (fun k => ¬ Tst bd bl bc br bm bq k) A m fl) (hc : m ≤ c) : Calls Try.prog 60 #[.pointer (some ⟨bm, 0, none⟩), .slice A m c] w fun e w' => e = .returned (.tuple #[]) ∧ TW X w' bd bl bc br bm bq n s ar lf (sCr t fl) (-1) ∧ Chg w w' (Tst bd bl bc br bm bq) :=
  h.rst (t' := sCr t fl) (rb_crash h.r A m c fl hn (Kd.F_mono hr (fun k hk hd => hk (.inr hd))) hc)
theorem tw_sync (h : TW X w bd bl bc br bm bq n s ar lf t left) : Calls Try.prog 19 #[.pointer (some ⟨bd, 0, none⟩)] w fun e w' => e = .returned (.int .i64 (spendE ar lf s.of)) ∧ TW X w' bd bl bc br bm bq n (sSy s ar lf) ar (spendL ar lf s.of) t left ∧ Chg w w' (Tst bd bl bc br bm bq) := by
  cases hd : downF ar lf s.of with
  | true =>
    rw [(spendE_12 hd).1, (spendE_12 hd).2]
    unfold sSy
    rw [if_pos hd]
    exact h.dst (s' := sOf s true) (d_sync_spent h.d hd)
  | false =>
    rw [(spendE_0 hd).1, (spendE_0 hd).2]
    unfold sSy
    rw [if_neg (by rw [hd]; decide)]
    exact h.dst (s' := { s with f := atB s.f s.g, g := fun _ => none, of := false }) (d_sync h.d hd)
theorem tr_sync (h : TW X w bd bl bc br bm bq n s ar lf t left) (hl : ∀ of, rdownF left of = downF ar' lf' of) : Calls Try.prog 54 #[.pointer (some ⟨bm, 0, none⟩)] w fun e w' => e = .returned (.int .i64 (spendE ar' lf' t.of)) ∧ TW X w' bd bl bc br bm bq n s ar lf (sSy t ar' lf') (rspL left t.of) ∧ Chg w w' (Tst bd bl bc br bm bq) := by
  cases hd : downF ar' lf' t.of with
  | true =>
    have hd' : rdownF left t.of = true := by rw [hl, hd]
    rw [(spendE_12 hd).1]
    unfold sSy
    rw [if_pos hd, show rspL left t.of = left by unfold rspL; rw [if_pos hd']]
    exact h.rst (t' := sOf t true) (rb_sync_spent h.r hd')
  | false =>
    have hd' : rdownF left t.of = false := by rw [hl, hd]
    rw [(spendE_0 hd).1]
    unfold sSy
    rw [if_neg (by rw [hd]; decide)]
    exact h.rst (t' := { t with f := atB t.f t.g, g := fun _ => none, of := false }) (rb_sync h.r hd')
theorem wr_down {s : RS} {ar : Bool} {lf : Int} {n : Nat} {i : Int} {m : Nat} {xs : List Int} (h : s.of = true) : sWr s ar lf n i m xs = s ∧ writeE i n m ar lf s.of = 12 ∧ writeL i n m ar lf s.of = lf := by
  unfold sWr writeE writeL
  rw [if_pos (.inl h), if_pos h, if_pos (.inl h)]
  exact ⟨rfl, rfl, rfl⟩
theorem wr_wrong {s : RS} {ar : Bool} {lf : Int} {n : Nat} {i : Int} {m : Nat} {xs : List Int} (h : s.of = false) (hq : ¬ wrongF i n m = 0) : sWr s ar lf n i m xs = s ∧ writeE i n m ar lf s.of = wrongF i n m ∧ writeL i n m ar lf s.of = lf := by
  unfold sWr writeE writeL
  rw [if_pos (.inr hq), if_neg (by rw [h]; decide), if_pos hq, if_pos (.inr hq)]
  exact ⟨rfl, rfl, rfl⟩
theorem wr_spent {s : RS} {ar : Bool} {lf : Int} {n : Nat} {i : Int} {m : Nat} {xs : List Int} (h : s.of = false) (hq : wrongF i n m = 0) (hd : downF ar lf s.of = true) : sWr s ar lf n i m xs = sOf s true ∧ writeE i n m ar lf s.of = 12 ∧ writeL i n m ar lf s.of = lf := by
  have hn : ¬ (s.of = true ∨ ¬ wrongF i n m = 0) := by rw [h, hq]; simp
  unfold sWr writeE writeL
  rw [if_neg hn, if_pos hd, if_neg (by rw [h]; decide), if_neg (by rw [hq]; simp), if_neg hn, (spendE_12 hd).1, (spendE_12 hd).2]
  exact ⟨rfl, rfl, rfl⟩
theorem wr_ok {s : RS} {ar : Bool} {lf : Int} {n : Nat} {i : Int} {m : Nat} {xs : List Int} (h : s.of = false) (hq : wrongF i n m = 0) (hd : downF ar lf s.of = false) : sWr s ar lf n i m xs = { s with g := upd s.g i.toNat (some xs), wt := wrap64 (s.wt + 1) } ∧ writeE i n m ar lf s.of = 0 ∧ writeL i n m ar lf s.of = wrap64 (lf - 1) := by
  have hn : ¬ (s.of = true ∨ ¬ wrongF i n m = 0) := by rw [h, hq]; simp
  unfold sWr writeE writeL
  rw [if_neg hn, if_neg (by rw [hd]; decide), if_neg (by rw [h]; decide), if_neg (by rw [hq]; simp), if_neg hn, (spendE_0 hd).1, (spendE_0 hd).2]
  exact ⟨rfl, rfl, rfl⟩
theorem rwL_same {i : Int} {n m : Nat} {left : Int} {of : Bool} (h : of = true ∨ ¬ wrongF i n m = 0) : rwL i n m left of = left := by unfold rwL; rw [if_pos h]
theorem rwL_goes {i : Int} {n m : Nat} {left : Int} {of : Bool} (h : of = false) (hq : wrongF i n m = 0) : rwL i n m left of = rspL left of := by unfold rwL; rw [if_neg (by rw [h, hq]; simp)]
theorem b_cases (b : Bool) : b = true ∨ b = false := by cases b <;> simp
theorem tw_write (h : TW X w bd bl bc br bm bq n s ar lf t left) (i : Int) (A : Option Addr) (m c : Nat) (xs : List Int) (hn : m = xs.length) (hr : Kd.F kb w (fun k => ¬ Tst bd bl bc br bm bq k) A m xs) (hc : m ≤ c) (hX : ∀ k, X k → k < w.heap.size) : Calls Try.prog 18 #[.pointer (some ⟨bd, 0, none⟩), .int .i64 i, .slice A m c] w fun e w' => e = .returned (.int .i64 (writeE i n m ar lf s.of)) ∧ TW X w' bd bl bc br bm bq n (sWr s ar lf n i m xs) ar (writeL i n m ar lf s.of) t left ∧ Chg w w' (Tst bd bl bc br bm bq) := by
  have hD := h.d
  rcases b_cases s.of with hof | hof
  · obtain ⟨e1, e2, e3⟩ := wr_down (s := s) (ar := ar) (lf := lf) (n := n) (i := i) (m := m) (xs := xs) hof
    rw [e1, e2, e3]
    rw [hof] at hD
    exact h.same (d_write_down hD i A m c)
  · by_cases hq : wrongF i n m = 0
    · rcases b_cases (downF ar lf s.of) with hd | hd
      · obtain ⟨e1, e2, e3⟩ := wr_spent (s := s) (ar := ar) (lf := lf) (n := n) (i := i) (m := m) (xs := xs) hof hq hd
        obtain ⟨k, rfl, hk, hm⟩ := wrong_nat hq
        rw [e1, e2, e3]
        rw [hof] at hD hd
        exact h.dst (s' := sOf s true) (d_write_spent hD k A m c hk hm hd)
      · obtain ⟨e1, e2, e3⟩ := wr_ok (s := s) (ar := ar) (lf := lf) (n := n) (i := i) (m := m) (xs := xs) hof hq hd
        obtain ⟨k, rfl, hk, hm⟩ := wrong_nat hq
        rw [e1, e2, e3, Int.toNat_natCast]
        refine h.dst (s' := { s with g := upd s.g k (some xs), wt := wrap64 (s.wt + 1) }) ?_
        show Calls Try.prog 18 _ w fun e w' => _ ∧ DBX X w' bd bl bc br n s.f (upd s.g k (some xs)) ar (wrap64 (lf - 1)) s.of (wrap64 (s.wt + 1)) s.rd ∧ _
        rw [hof] at hD hd ⊢
        exact d_writeX hD k A m c xs hn (Kd.F_mono hr (fun k hk hd => hk (.inl hd))) hc hk hm hd hX
    · obtain ⟨e1, e2, e3⟩ := wr_wrong (s := s) (ar := ar) (lf := lf) (n := n) (i := i) (m := m) (xs := xs) hof hq
      rw [e1, e2, e3]
      rw [hof] at hD
      exact h.same (d_write_wrong hD i A m c _ rfl hq)
theorem tr_write (h : TW X w bd bl bc br bm bq n s ar lf t left) (hl : ∀ of, rdownF left of = downF ar' lf' of) (i : Int) (A : Option Addr) (m c : Nat) (xs : List Int) (hn : m = xs.length) (hr : Kd.F kb w (fun k => ¬ Tst bd bl bc br bm bq k) A m xs) (hc : m ≤ c) (hX : ∀ k, X k → k < w.heap.size) : Calls Try.prog 53 #[.pointer (some ⟨bm, 0, none⟩), .int .i64 i, .slice A m c] w fun e w' => e = .returned (.int .i64 (writeE i n m ar' lf' t.of)) ∧ TW X w' bd bl bc br bm bq n s ar lf (sWr t ar' lf' n i m xs) (rwL i n m left t.of) ∧ Chg w w' (Tst bd bl bc br bm bq) := by
  have hR := h.r
  rcases b_cases t.of with hof | hof
  · obtain ⟨e1, e2, e3⟩ := wr_down (s := t) (ar := ar') (lf := lf') (n := n) (i := i) (m := m) (xs := xs) hof
    rw [e1, e2, rwL_same (.inl hof)]
    rw [hof] at hR
    exact h.same (rb_write_down hR i A m c)
  · by_cases hq : wrongF i n m = 0
    · rcases b_cases (downF ar' lf' t.of) with hd | hd
      · obtain ⟨e1, e2, e3⟩ := wr_spent (s := t) (ar := ar') (lf := lf') (n := n) (i := i) (m := m) (xs := xs) hof hq hd
        have hd' : rdownF left t.of = true := by rw [hl, hd]
        rw [e1, e2, rwL_goes hof hq, show rspL left t.of = left by unfold rspL; rw [if_pos hd']]
        obtain ⟨k, rfl, hk, hm⟩ := wrong_nat hq
        rw [hof] at hR hd'
        exact h.rst (t' := sOf t true) (rb_write_spent hR k A m c hk hm hd')
      · obtain ⟨e1, e2, e3⟩ := wr_ok (s := t) (ar := ar') (lf := lf') (n := n) (i := i) (m := m) (xs := xs) hof hq hd
        have hd' : rdownF left t.of = false := by rw [hl, hd]
        rw [e1, e2, rwL_goes hof hq]
        obtain ⟨k, rfl, hk, hm⟩ := wrong_nat hq
        rw [Int.toNat_natCast]
        refine h.rst (t' := { t with g := upd t.g k (some xs), wt := wrap64 (t.wt + 1) }) ?_
        show Calls Try.prog 53 _ w fun e w' => _ ∧ RBX X w' bm bq n t.f (upd t.g k (some xs)) (rspL left t.of) t.of (wrap64 (t.wt + 1)) t.rd ∧ _
        rw [hof] at hR hd' ⊢
        exact rb_writeX hR k A m c xs hn (Kd.F_mono hr (fun k hk hd => hk (.inr hd))) hc hk hm hd' hX
    · obtain ⟨e1, e2, e3⟩ := wr_wrong (s := t) (ar := ar') (lf := lf') (n := n) (i := i) (m := m) (xs := xs) hof hq
      rw [e1, e2, rwL_same (.inr hq)]
      rw [hof] at hR
      exact h.same (rb_write_wrong hR i A m c _ rfl hq)
theorem tw_tamper (h : TW X w bd bl bc br bm bq n s ar lf t left) (i : Int) (A : Option Addr) (m c : Nat) (xs : List Int) (hn : m = xs.length) (hr : Kd.F kb w (fun k => ¬ Tst bd bl bc br bm bq k) A m xs) (hc : m ≤ c) (hX : ∀ k, X k → k < w.heap.size) : Calls Try.prog 28 #[.pointer (some ⟨bd, 0, none⟩), .int .i64 i, .slice A m c] w fun e w' => e = .returned (.int .i64 (wrongF i n m)) ∧ TW X w' bd bl bc br bm bq n (sTa s n i m xs) ar lf t left ∧ Chg w w' (Tst bd bl bc br bm bq) := by
  unfold sTa
  by_cases hq : wrongF i n m = 0
  · rw [if_neg (by rw [hq]; simp)]
    obtain ⟨k, rfl, hk, hm⟩ := wrong_nat hq
    rw [hq, Int.toNat_natCast]
    exact h.dst (s' := { s with f := upd s.f k xs, g := upd s.g k none }) (d_tamperX h.d k A m c xs hn (Kd.F_mono hr (fun k hk hd => hk (.inl hd))) hc hk hm hX)
  · rw [if_pos hq]
    exact h.same (d_tamper_wrong h.d i A m c _ rfl hq)
theorem tr_tamper (h : TW X w bd bl bc br bm bq n s ar lf t left) (i : Int) (A : Option Addr) (m c : Nat) (xs : List Int) (hn : m = xs.length) (hr : Kd.F kb w (fun k => ¬ Tst bd bl bc br bm bq k) A m xs) (hc : m ≤ c) (hX : ∀ k, X k → k < w.heap.size) : Calls Try.prog 62 #[.pointer (some ⟨bm, 0, none⟩), .int .i64 i, .slice A m c] w fun e w' => e = .returned (.int .i64 (wrongF i n m)) ∧ TW X w' bd bl bc br bm bq n s ar lf (sTa t n i m xs) left ∧ Chg w w' (Tst bd bl bc br bm bq) := by
  unfold sTa
  by_cases hq : wrongF i n m = 0
  · rw [if_neg (by rw [hq]; simp)]
    obtain ⟨k, rfl, hk, hm⟩ := wrong_nat hq
    rw [hq, Int.toNat_natCast]
    exact h.rst (t' := { t with f := upd t.f k xs, g := upd t.g k none }) (rb_tamperX h.r k A m c xs hn (Kd.F_now hr) hc hk hm hX)
  · rw [if_pos hq]
    exact h.same (rb_tamper_wrong h.r i A m c _ rfl hq)
theorem tw_read (h : TW X w bd bl bc br bm bq n s ar lf t left) (i : Nat) (hi : i < n) : Calls Try.prog 21 #[.pointer (some ⟨bd, 0, none⟩), .int .i64 (i : Int)] w fun e w' => ∃ U, e = .returned (.tuple #[U, .int .i64 0]) ∧ NB w' w.heap.size U (atB s.f s.g i) ∧ TW X w' bd bl bc br bm bq n (sRd s i) ar lf t left ∧ Chg w w' (Tst bd bl bc br bm bq) :=
  (h.dst (s' := sRd s i) (R := fun e w' => ∃ U, e = .returned (.tuple #[U, .int .i64 0]) ∧ NB w' w.heap.size U (atB s.f s.g i)) ((d_read h.d i hi).mono fun e w' ⟨U, h1, h2, h3, h4⟩ => ⟨⟨U, h1, h2⟩, h3, h4⟩)).mono fun e w' ⟨⟨U, h1, h2⟩, h3, h4⟩ => ⟨U, h1, h2, h3, h4⟩
theorem tr_read (h : TW X w bd bl bc br bm bq n s ar lf t left) (i : Nat) (hi : i < n) : Calls Try.prog 56 #[.pointer (some ⟨bm, 0, none⟩), .int .i64 (i : Int)] w fun e w' => ∃ U, e = .returned (.tuple #[U, .int .i64 0]) ∧ NB w' w.heap.size U (atB t.f t.g i) ∧ TW X w' bd bl bc br bm bq n s ar lf (sRd t i) left ∧ Chg w w' (Tst bd bl bc br bm bq) :=
  (h.rst (t' := sRd t i) (R := fun e w' => ∃ U, e = .returned (.tuple #[U, .int .i64 0]) ∧ NB w' w.heap.size U (atB t.f t.g i)) ((rb_read h.r i hi).mono fun e w' ⟨U, h1, h2, h3, h4⟩ => ⟨⟨U, h1, h2⟩, h3, h4⟩)).mono fun e w' ⟨⟨U, h1, h2⟩, h3, h4⟩ => ⟨U, h1, h2, h3, h4⟩
end
section
variable {w w' : World} {bd bl bc br bm bq n : Nat} {s t : RS} {ar : Bool} {lf left : Int}
/-- Blocks that are still to come are in no use. -/
theorem TW.idle {Y : Nat → Prop} (h : TW X w bd bl bc br bm bq n s ar lf t left) (hY : ∀ k, Y k → w.heap.size ≤ k) : TW Y w bd bl bc br bm bq n s ar lf t left := ⟨h.d.off hY, h.r.idle hY, h.ap⟩
theorem TW.sub {Y : Nat → Prop} (h : TW X w bd bl bc br bm bq n s ar lf t left) (hY : ∀ k, Y k → X k) : TW Y w bd bl bc br bm bq n s ar lf t left := ⟨h.d.sub hY, h.r.sub hY, h.ap⟩
/-- Bytes or ints in no use may be written over. -/
theorem TW.spoil {S : Nat → Prop} (h : TW X w bd bl bc br bm bq n s ar lf t left) (hc : Chg w w' S) (hS : ∀ j, S j → X j) (hd : ∀ j, S j → ¬ Tst bd bl bc br bm bq j) (hty : ∀ j, S j → ∃ cells u, w.heap[j]? = some (.cells cells u (0, 0)) ∧ u ≠ 94) : TW X w' bd bl bc br bm bq n s ar lf t left :=
  ⟨h.d.spoil hc hS (fun j hj hs => hd j hs (.inl hj)), h.r.spoil hc hS (fun j hj hs => hd j hs (.inr hj)) (fun j hs cells e => by
    obtain ⟨cells2, u, e2, hu⟩ := hty j hs
    rw [e2] at e
    injection e with e
    injection e with _ e
    exact hu e), h.ap⟩
end
def sNew (n : Nat) : RS := ⟨fun _ => [], fun _ => none, false, 0, List.replicate n 0⟩
end Go.Proofs.Ytkgjcmolmogpdaa.By
