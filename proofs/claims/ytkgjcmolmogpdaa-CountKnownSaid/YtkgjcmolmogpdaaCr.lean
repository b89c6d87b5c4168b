/- Layer 8: CountRuns. -/
import Derived.Test.YtkgjcmolmogpdaaTw
namespace Go.Proofs.Ytkgjcmolmogpdaa.By
open Go.RowKit Go.Proofs.Ytkgjcmolmogpdaa.Reg Go.Proofs.YtkgjcmolmogpdaaW.PrintWords Go.Proofs.YtkgjcmolmogpdaaW.PrintLast Go.Proofs.YtkgjcmolmogpdaaW.PrintMore
set_option linter.unusedVariables false
set_option linter.unusedSimpArgs false


abbrev kOq : Kd (Int × Int) := Kd.pair (Kd.int .i64) (Kd.int .i64)
def Cst (bd bl bc br bm bq bk bj : Nat) (j : Nat) : Prop := Tst bd bl bc br bm bq j ∨ j = bk ∨ j = bj
/-- Both disks and both counters. -/
structure TC (w : World) (bd bl bc br bm bq bk bj n : Nat) (s : RS) (ar : Bool) (lf v : Int) (t : RS) (left u : Int) : Prop where
  tw : TW w bd bl bc br bm bq n s ar lf t left
  ck : Blk w bk (cntC bd v).toArray 89
  cj : Blk w bj (rcC bm u).toArray 91
def rrL (q u left : Int) (of : Bool) : Int := if lateF q u = true then left else rspL left of
theorem Lft.raise {ar : Bool} {lf left : Int} (h : Lft ar lf left) (q u : Int) (of : Bool) : Lft ar (raiseL q u ar lf of) (rrL q u left of) := by
  unfold raiseL rrL
  split
  · exact h
  · exact h.spend of
section
variable {w w' : World} {bd bl bc br bm bq bk bj n : Nat} {s s' t t' : RS} {ar ar' : Bool} {lf lf' v left left' u : Int}
theorem TC.ext (h : TC w bd bl bc br bm bq bk bj n s ar lf v t left u) (k : Ext w w') : TC w' bd bl bc br bm bq bk bj n s ar lf v t left u := ⟨h.tw.ext k, h.ck.ext k, h.cj.ext k⟩
theorem TC.lt (h : TC w bd bl bc br bm bq bk bj n s ar lf v t left u) : ∀ j, Cst bd bl bc br bm bq bk bj j → j < w.heap.size := by
  rintro j (hj | rfl | rfl)
  · exact h.tw.lt j hj
  · exact h.ck.lt
  · exact h.cj.lt
theorem TC.apart (h : TC w bd bl bc br bm bq bk bj n s ar lf v t left u) {b y : Nat} {cs : Array Value} (hb : Blk w b cs y) (h1 : y ≠ 72) (h2 : y ≠ 3) (h3 : y ≠ 82) (h4 : y ≠ 29) (h5 : y ≠ 89) (h6 : y ≠ 91) : ¬ Cst bd bl bc br bm bq bk bj b := by
  rintro (hs | rfl | rfl)
  · exact h.tw.apart hb h1 h2 h3 h4 hs
  · exact h5 (blk_type hb h.ck)
  · exact h6 (blk_type hb h.cj)
theorem TC.both (h : TC w bd bl bc br bm bq bk bj n s ar lf v t left u) {F : FuncId} {args : Array Value} {R : Ending → World → Prop} (H : Calls Try.prog F args w fun e w' => R e w' ∧ TW w' bd bl bc br bm bq n s' ar' lf' t' left' ∧ Chg w w' (Tst bd bl bc br bm bq)) :
    Calls Try.prog F args w fun e w' => R e w' ∧ TC w' bd bl bc br bm bq bk bj n s' ar' lf' v t' left' u ∧ Chg w w' (Cst bd bl bc br bm bq bk bj) :=
  H.mono fun e w' ⟨h1, h2, h3⟩ => ⟨h1, ⟨h2, h3.blk h.ck (h.tw.apart h.ck (by decide) (by decide) (by decide) (by decide)), h3.blk h.cj (h.tw.apart h.cj (by decide) (by decide) (by decide) (by decide))⟩, h3.mono (fun j hj => .inl hj)⟩
theorem tc_raise (h : TC w bd bl bc br bm bq bk bj n s ar lf v t left u) (q : Int) : Calls Try.prog 43 #[.pointer (some ⟨bk, 0, none⟩), .int .i64 q] w fun e w' => e = .returned (.int .i64 (raiseE q v ar lf s.of)) ∧ TC w' bd bl bc br bm bq bk bj n (sOf s (raiseD q v ar lf s.of)) ar (raiseL q v ar lf s.of) (raiseV q v ar lf s.of) t left u ∧ Chg w w' (Cst bd bl bc br bm bq bk bj) := by
  obtain ⟨LV, CV, h1, hf⟩ := h.tw.d
  have hnk : ¬ Tst bd bl bc br bm bq bk := h.tw.apart h.ck (by decide) (by decide) (by decide) (by decide)
  have hnj : ¬ Tst bd bl bc br bm bq bj := h.tw.apart h.cj (by decide) (by decide) (by decide) (by decide)
  have hkj : bk ≠ bj := blk_ne h.ck h.cj (by decide)
  cases hl : lateF q v with
  | true =>
    rw [show raiseE q v ar lf s.of = 8 by unfold raiseE; rw [if_pos hl], show raiseV q v ar lf s.of = v by unfold raiseV; rw [if_pos (.inl hl)], show raiseL q v ar lf s.of = lf by unfold raiseL; rw [if_pos hl], show raiseD q v ar lf s.of = s.of by unfold raiseD; rw [if_pos hl]]
    refine (raise_no h.ck q hl).mono fun e w' ⟨he, hw⟩ => ?_
    subst hw
    exact ⟨he, h, Chg.refl _ _⟩
  | false =>
    have hl' : ¬ lateF q v = true := by rw [hl]; decide
    rw [show raiseE q v ar lf s.of = spendE ar lf s.of by unfold raiseE; rw [if_neg hl'], show raiseL q v ar lf s.of = spendL ar lf s.of by unfold raiseL; rw [if_neg hl'], show raiseD q v ar lf s.of = downF ar lf s.of by unfold raiseD; rw [if_neg hl']]
    rcases b_cases (downF ar lf s.of) with hd | hd
    · rw [show raiseV q v ar lf s.of = v by unfold raiseV; rw [if_pos (.inr hd)], (spendE_12 hd).1, (spendE_12 hd).2, hd]
      refine (raise_spent h1 h.ck q hl hd).mono fun e w' ⟨he, h5, hc⟩ => ?_
      have hc' : Chg w w' (Dst bd bl bc br) := hc.mono (fun k hk => .inl hk)
      have hcT : Chg w w' (Tst bd bl bc br bm bq) := hc'.mono (fun k hk => .inl hk)
      exact ⟨he, ⟨⟨⟨LV, CV, h5, hf.map (fun V xs hx => hx.dst h1 hc')⟩, h.tw.r.chgD h.tw.d h.tw.ap hc', h.tw.ap⟩, hcT.blk h.ck hnk, hcT.blk h.cj hnj⟩, hcT.mono (fun k hk => .inl hk)⟩
    · rw [show raiseV q v ar lf s.of = q by unfold raiseV; rw [if_neg (by rw [hl, hd]; simp)], (spendE_0 hd).1, (spendE_0 hd).2, hd]
      refine (raise_ok h1 h.ck q hl hd).mono fun e w' ⟨he, h5, h6, hc⟩ => ?_
      have hcC : Chg w w' (Cst bd bl bc br bm bq bk bj) := hc.mono (fun k hk => hk.elim (fun e => .inl (.inl (.inl e))) (fun e => .inr (.inl e)))
      have hbk : ∀ j, Dst bd bl bc br j ∨ Rst bm bq j → j ≠ bk := fun j hj e => hnk (e ▸ hj)
      refine ⟨he, ⟨⟨⟨LV, CV, h5, hf.map (fun V xs hx => ⟨hx.1.chg hc (fun j hj hs => ?_), hx.2⟩)⟩, ?_, h.tw.ap⟩, h6, hc.blk h.cj (fun hs => ?_)⟩, hcC⟩
      · rcases hs with e | e
        · exact hx.1.apart h1 j hj (.inl e)
        · subst e
          obtain ⟨cells, hc2⟩ := hx.1.typed j hj
          have := h.ck.is.symm.trans hc2
          injection this with this
          injection this with _ h9
          cases h9
      · obtain ⟨VL, VC, l, kk, r1, r2, r3, r4, r5, r6⟩ := h.tw.r
        refine ⟨VL, VC, l, kk, r1.chg hc (fun j hj hs => ?_), r2.chg hc (fun j hj hs => ?_), r3.chg hc (fun j hj hs => ?_), r4, r5, r6.map (fun V xs hx => ⟨hx.1.chg hc (fun j hj hs => ?_), hx.2⟩)⟩
        · rcases hs with e | e
          · exact h.tw.ap j (.inl e) hj
          · exact hbk j (.inr hj) e
        · rcases hs with e | e
          · exact r2.apartD h1 j hj (.inl e)
          · subst e
            obtain ⟨cells, hc2⟩ := r2.typed j hj
            have := h.ck.is.symm.trans hc2
            injection this with this
            injection this with _ h9
            cases h9
        · rcases hs with e | e
          · exact r3.apartD h1 j hj (.inl e)
          · subst e
            obtain ⟨cells, hc2⟩ := r3.typed j hj
            have := h.ck.is.symm.trans hc2
            injection this with this
            injection this with _ h9
            cases h9
        · rcases hs with e | e
          · exact hx.1.apart h1 j hj (.inl e)
          · subst e
            obtain ⟨cells, hc2⟩ := hx.1.typed j hj
            have := h.ck.is.symm.trans hc2
            injection this with this
            injection this with _ h9
            cases h9
      · rcases hs with e | e
        · exact hnj (.inl (.inl e))
        · exact hkj e.symm
theorem tcr_raise (h : TC w bd bl bc br bm bq bk bj n s ar lf v t left u) (hl : ∀ of, rdownF left of = downF ar' lf' of) (q : Int) : Calls Try.prog 70 #[.pointer (some ⟨bj, 0, none⟩), .int .i64 q] w fun e w' => e = .returned (.int .i64 (raiseE q u ar' lf' t.of)) ∧ TC w' bd bl bc br bm bq bk bj n s ar lf v (sOf t (raiseD q u ar' lf' t.of)) (rrL q u left t.of) (raiseV q u ar' lf' t.of) ∧ Chg w w' (Cst bd bl bc br bm bq bk bj) := by
  obtain ⟨VL, VC, l, kk, r1, r2, r3, r4, r5, r6⟩ := h.tw.r
  have hnk : ¬ Tst bd bl bc br bm bq bk := h.tw.apart h.ck (by decide) (by decide) (by decide) (by decide)
  have hnj : ¬ Tst bd bl bc br bm bq bj := h.tw.apart h.cj (by decide) (by decide) (by decide) (by decide)
  have hkj : bk ≠ bj := blk_ne h.ck h.cj (by decide)
  cases hla : lateF q u with
  | true =>
    rw [show raiseE q u ar' lf' t.of = 8 by unfold raiseE; rw [if_pos hla], show raiseV q u ar' lf' t.of = u by unfold raiseV; rw [if_pos (.inl hla)], show rrL q u left t.of = left by unfold rrL; rw [if_pos hla], show raiseD q u ar' lf' t.of = t.of by unfold raiseD; rw [if_pos hla]]
    refine (rraise_no h.cj q hla).mono fun e w' ⟨he, hw⟩ => ?_
    subst hw
    exact ⟨he, h, Chg.refl _ _⟩
  | false =>
    have hla' : ¬ lateF q u = true := by rw [hla]; decide
    rw [show raiseE q u ar' lf' t.of = spendE ar' lf' t.of by unfold raiseE; rw [if_neg hla'], show rrL q u left t.of = rspL left t.of by unfold rrL; rw [if_neg hla'], show raiseD q u ar' lf' t.of = downF ar' lf' t.of by unfold raiseD; rw [if_neg hla']]
    rcases b_cases (downF ar' lf' t.of) with hd | hd
    · have hd' : rdownF left t.of = true := by rw [hl, hd]
      rw [show raiseV q u ar' lf' t.of = u by unfold raiseV; rw [if_pos (.inr hd)], (spendE_12 hd).1, show rspL left t.of = left by unfold rspL; rw [if_pos hd'], hd]
      refine (rraise_spent r1 h.cj q hla hd').mono fun e w' ⟨he, h5, hc⟩ => ?_
      have hcT : Chg w w' (Tst bd bl bc br bm bq) := hc.mono (fun k hk => .inr hk)
      exact ⟨he, ⟨⟨h.tw.d.chgR h.tw.r h.tw.ap hc, RB.re r1 r2 r3 r4 r5 r6 h5 hc, h.tw.ap⟩, hcT.blk h.ck hnk, hcT.blk h.cj hnj⟩, hcT.mono (fun k hk => .inl hk)⟩
    · have hd' : rdownF left t.of = false := by rw [hl, hd]
      rw [show raiseV q u ar' lf' t.of = q by unfold raiseV; rw [if_neg (by rw [hla, hd]; simp)], (spendE_0 hd).1, hd]
      refine (rraise_ok r1 h.cj q hla hd').mono fun e w' ⟨he, h5, h6, hc⟩ => ?_
      have hcC : Chg w w' (Cst bd bl bc br bm bq bk bj) := hc.mono (fun k hk => hk.elim (fun e => .inl (.inr e)) (fun e => .inr (.inr e)))
      obtain ⟨LV, CV, h1, hf⟩ := h.tw.d
      have hbj : ∀ j, Dst bd bl bc br j ∨ Rst bm bq j → j ≠ bj := fun j hj e => hnj (e ▸ hj)
      have hnb : ∀ {B : Nat} {V : Value} {xs : List Int}, NB w B V xs → NB w' B V xs := fun hx => hx.chg hc (fun j hj hs => by
        obtain ⟨cells, hc2⟩ := hx.typed j hj
        rcases hs with e | e
        · exact r1.apart hc2 (by decide) (by decide) e
        · subst e
          have := h.cj.is.symm.trans hc2
          injection this with this
          injection this with _ h9
          cases h9)
      have hrw : ∀ {B : Nat} {V : Value} {l : List PP}, RW w B V l → RW w' B V l := fun hx => hx.chg hc (fun j hj hs => by
        obtain ⟨cells, hc2⟩ := hx.typed j hj
        rcases hs with e | e
        · exact r1.apart hc2 (by decide) (by decide) e
        · subst e
          have := h.cj.is.symm.trans hc2
          injection this with this
          injection this with _ h9
          cases h9)
      refine ⟨he, ⟨⟨⟨LV, CV, h1.chg hc (fun j hj hs => ?_), hf.map (fun V xs hx => ⟨hnb hx.1, hx.2⟩)⟩, ⟨VL, VC, l, kk, h5, hrw r2, hrw r3, r4, r5, r6.map (fun V xs hx => ⟨hnb hx.1, hx.2⟩)⟩, h.tw.ap⟩, hc.blk h.ck (fun hs => ?_), h6⟩, hcC⟩
      · rcases hs with e | e
        · exact h.tw.ap j hj e
        · exact hbj j (.inl hj) e
      · rcases hs with e | e
        · exact hnk (.inr e)
        · exact hkj e
end
/-! run -/
def TCE (w : World) (bd bl bc br bm bq bk bj n : Nat) : Prop := ∃ s ar lf left v, TC w bd bl bc br bm bq bk bj n s ar lf v s left v ∧ Lft ar lf left
section
variable {w w' : World} {bd bl bc br bm bq bk bj n : Nat} {s : RS} {ar : Bool} {lf v left : Int}
set_option maxRecDepth 100000 in
set_option maxHeartbeats 2000000 in
theorem run_calls (h : TC w bd bl bc br bm bq bk bj n s ar lf v s left v) (hl : Lft ar lf left) (k y : Int) (hy : y ≤ 9223372036854775807) :
    Calls Try.prog 45 #[.pointer (some ⟨bd, 0, none⟩), .pointer (some ⟨bk, 0, none⟩), .pointer (some ⟨bm, 0, none⟩), .pointer (some ⟨bj, 0, none⟩), .agg #[.int .i64 k, .int .i64 y]] w fun e w' => e = .returned (.bool true) ∧ TCE w' bd bl bc br bm bq bk bj n ∧ Chg w w' (Cst bd bl bc br bm bq bk bj) := by
  have hE0 := (Ext.refl w).alloc (.cells #[.int .i64 k, .int .i64 y] 68)
  have HT := Aside0.mk (h.ext hE0)
  have HB := Aside0.mk (Blk.new w #[.int .i64 k, .int .i64 y] 68)
  have HNS := Aside0.mk (HT.out.apart HB.out (by decide) (by decide) (by decide) (by decide) (by decide) (by decide))
  have HE0 := Aside0.mk (Chg.of_ext hE0 (Cst bd bl bc br bm bq bk bj))
  have HL := Aside0.mk hl
  have HY := Aside0.mk hy
  obtain ⟨bx, hbx⟩ : ∃ bx, bx = w.heap.size := ⟨_, rfl⟩
  rw [← hbx] at HB HNS
  have hc0 := HB.out.cell 0 (v := .int .i64 k) rfl
  have hc1 := HB.out.cell 1 (v := .int .i64 y) rfl
  obtain ⟨wx, hwx⟩ : ∃ wx, wx = w.alloc (.cells #[.int .i64 k, .int .i64 y] 68) := ⟨_, rfl⟩
  rw [← hwx] at HT HB HE0 hc0 hc1
  have HWX := Aside0.mk hwx
  have HBX := Aside0.mk hbx
  clear h hE0 hl hy hwx hbx
  have hd0 : (k == 0) = decide (k = 0) := rfl
  clear hd0
  by_cases hk0 : k = 0
  · subst hk0
    go_enter Try.func45, Try.ntmps45
    go_wp2_with fail
    rw [← HWX.out, ← HBX.out]
    apply wp_region_H 9 3 7 (fun a b => Chg a b (Cst bd bl bc br bm bq bk bj)) (fun z => TC z bd bl bc br bm bq bk bj n (sOf s (raiseD y v ar lf s.of)) ar (raiseL y v ar lf s.of) (raiseV y v ar lf s.of) s left v) (fun z => TC z bd bl bc br bm bq bk bj n (sOf s (raiseD y v ar lf s.of)) ar (raiseL y v ar lf s.of) (raiseV y v ar lf s.of) (sOf s (raiseD y v ar lf s.of)) (rrL y v left s.of) (raiseV y v ar lf s.of)) [RF.val _, RF.val _, RF.val _, RF.val _, RF.val _, RF.val _, RF.val _, RF.val _, RF.val _]
    case hm => kernel_rfl
    case hB => kernel_rfl
    case hgE => exact fun a b h => Chg.of_ext h _
    case hgT => exact fun a b c h k => h.trans k
    case hP1 => exact (fun a b h he => h.ext he)
    case hP2 => exact (fun a b h he => h.ext he)
    simp only [List.take_succ_cons, List.take_zero, List.zip_cons_cons, List.zip_nil_left]
    refine wpH_val (by rfl) (by decide) (by decide) (fun w' hE hD => by unfold YldR; go_simp; exact ⟨Ext.refl _, rfl⟩) ?_
    (try simp only [Act.put, List.setIfInBounds_toArray, List.set_cons_zero, List.set_cons_succ])
    refine wpH_val (by rfl) (by decide) (by decide) (fun w' hE hD => by unfold YldR; go_simp; exact ⟨Ext.refl _, rfl⟩) ?_
    (try simp only [Act.put, List.setIfInBounds_toArray, List.set_cons_zero, List.set_cons_succ])
    refine wpH_val (by rfl) (by decide) (by decide) (fun w' hE hD => by have hc1' := (hE.blk HB.out HNS.out).cell 1 (v := .int .i64 y) rfl; unfold YldR; go_simp; exact ⟨Ext.refl _, rfl⟩) ?_
    (try simp only [Act.put, List.setIfInBounds_toArray, List.set_cons_zero, List.set_cons_succ])
    refine wpH_one rfl (by rfl) (by decide) (fun w' hE hD => by unfold YldR; go_simp; exact (tc_raise (HT.out.ext hE) y).mono fun e w2 h => ⟨_, h.1, ⟨h.2.2, h.2.1⟩, rfl⟩) ?_
    (try simp only [Act.put, List.setIfInBounds_toArray, List.set_cons_zero, List.set_cons_succ])
    refine wpH_val (by rfl) (by decide) (by decide) (fun w' hE hD => by unfold YldR; go_simp; exact ⟨Ext.refl _, rfl⟩) ?_
    (try simp only [Act.put, List.setIfInBounds_toArray, List.set_cons_zero, List.set_cons_succ])
    refine wpH_val (by rfl) (by decide) (by decide) (fun w' hE hD => by unfold YldR; go_simp; exact ⟨Ext.refl _, rfl⟩) ?_
    (try simp only [Act.put, List.setIfInBounds_toArray, List.set_cons_zero, List.set_cons_succ])
    refine wpH_val (by rfl) (by decide) (by decide) (fun w' hE hD => by have hc1' := (hE.blk HB.out HNS.out).cell 1 (v := .int .i64 y) rfl; unfold YldR; go_simp; exact ⟨Ext.refl _, rfl⟩) ?_
    (try simp only [Act.put, List.setIfInBounds_toArray, List.set_cons_zero, List.set_cons_succ])
    refine wpH_two rfl (by rfl) (by decide) (by decide) (fun w' hE hP hD => by unfold YldR; go_simp; exact (tcr_raise hP HL.out.down y).mono fun e w2 h => ⟨_, h.1, ⟨h.2.2, h.2.1⟩, rfl⟩) ?_
    (try simp only [Act.put, List.setIfInBounds_toArray, List.set_cons_zero, List.set_cons_succ])
    refine wpH_val (by rfl) (by decide) (by decide) (fun w' hE hD => by unfold YldR; go_simp; exact ⟨Ext.refl _, rfl⟩) ?_
    (try simp only [Act.put, List.setIfInBounds_toArray, List.set_cons_zero, List.set_cons_succ])
    refine wpH_nil fun w3 hC3 hP hA => ?_
    simp only [List.drop_succ_cons, List.drop_zero]
    have HP := Aside0.mk hP
    have HC3 := Aside0.mk (HE0.out.trans hC3)
    clear hP hC3 hA hc0 hc1
    go_wp2
    go_ret
    exact ⟨rfl, ⟨_, _, _, _, _, HP.out, HL.out.raise _ _ _⟩, HC3.out⟩
  · have hkd0 : decide (k = 0) = false := decide_eq_false hk0
    by_cases hk1 : k = 1
    · subst hk1
      go_enter Try.func45, Try.ntmps45
      go_wp2_with fail
      rw [← HWX.out, ← HBX.out]
      refine (HT.out.both (tw_arm HT.out.tw y)).mono ?_
      rintro e w1 ⟨rfl, hT, hC⟩
      have HT1 := Aside0.mk hT
      have HC1 := Aside0.mk (HE0.out.trans hC)
      have hc1' := (hC.blk HB.out HNS.out).cell 1 (v := .int .i64 y) rfl
      clear hT hC hc0 hc1
      go_wp2_with fail
      refine (HT1.out.both (tr_arm HT1.out.tw y)).mono ?_
      rintro e w2 ⟨rfl, hT, hC⟩
      have HT2 := Aside0.mk hT
      have HC2 := Aside0.mk (HC1.out.trans hC)
      clear hT hC hc1'
      go_wp2
      go_ret
      exact ⟨rfl, ⟨_, _, _, _, _, HT2.out, Lft.arm y HY.out⟩, HC2.out⟩
    · have hkd1 : decide (k = 1) = false := decide_eq_false hk1
      by_cases hk2 : k = 2
      · subst hk2
        go_enter Try.func45, Try.ntmps45
        go_wp2_with fail
        rw [← HWX.out]
        refine (HT.out.both (tw_crash HT.out.tw none 0 0 [] rfl (Kd.F_nil kI wx _) (Nat.le_refl _))).mono ?_
        rintro e w1 ⟨rfl, hT, hC⟩
        have HT1 := Aside0.mk hT
        have HC1 := Aside0.mk (HE0.out.trans hC)
        clear hT hC hc0 hc1
        go_wp2_with fail
        refine (HT1.out.both (tr_crash HT1.out.tw none 0 0 [] rfl (Kd.F_nil kI w1 _) (Nat.le_refl _))).mono ?_
        rintro e w2 ⟨rfl, hT, hC⟩
        have HT2 := Aside0.mk hT
        have HC2 := Aside0.mk (HC1.out.trans hC)
        clear hT hC
        go_wp2
        go_ret
        exact ⟨rfl, ⟨_, _, _, _, _, HT2.out, Lft.crash lf⟩, HC2.out⟩
      · have hkd2 : decide (k = 2) = false := decide_eq_false hk2
        by_cases hk3 : k = 3
        · subst hk3
          go_enter Try.func45, Try.ntmps45
          go_wp2_with fail
          rw [← HWX.out, ← HBX.out]
          apply wp_region_H 9 3 7 (fun a b => Chg a b (Cst bd bl bc br bm bq bk bj)) (fun z => TC z bd bl bc br bm bq bk bj n (sWr s ar lf n y 0 []) ar (writeL y n 0 ar lf s.of) v s left v) (fun z => TC z bd bl bc br bm bq bk bj n (sWr s ar lf n y 0 []) ar (writeL y n 0 ar lf s.of) v (sWr s ar lf n y 0 []) (rwL y n 0 left s.of) v) [RF.val _, RF.val _, RF.val _, RF.val _, RF.val _, RF.val _, RF.val _, RF.val _, RF.val _]
          case hm => kernel_rfl
          case hB => kernel_rfl
          case hgE => exact fun a b h => Chg.of_ext h _
          case hgT => exact fun a b c h k => h.trans k
          case hP1 => exact (fun a b h he => h.ext he)
          case hP2 => exact (fun a b h he => h.ext he)
          simp only [List.take_succ_cons, List.take_zero, List.zip_cons_cons, List.zip_nil_left]
          refine wpH_val (by rfl) (by decide) (by decide) (fun w' hE hD => by unfold YldR; go_simp; exact ⟨Ext.refl _, rfl⟩) ?_
          (try simp only [Act.put, List.setIfInBounds_toArray, List.set_cons_zero, List.set_cons_succ])
          refine wpH_val (by rfl) (by decide) (by decide) (fun w' hE hD => by unfold YldR; go_simp; exact ⟨Ext.refl _, rfl⟩) ?_
          (try simp only [Act.put, List.setIfInBounds_toArray, List.set_cons_zero, List.set_cons_succ])
          refine wpH_val (by rfl) (by decide) (by decide) (fun w' hE hD => by have hc1' := (hE.blk HB.out HNS.out).cell 1 (v := .int .i64 y) rfl; unfold YldR; go_simp; exact ⟨Ext.refl _, rfl⟩) ?_
          (try simp only [Act.put, List.setIfInBounds_toArray, List.set_cons_zero, List.set_cons_succ])
          refine wpH_one rfl (by rfl) (by decide) (fun w' hE hD => by unfold YldR; go_simp; exact ((HT.out.ext hE).both (tw_write (HT.out.ext hE).tw y none 0 0 [] rfl (Kd.F_nil kb _ _) (Nat.le_refl _))).mono fun e w2 h => ⟨_, h.1, ⟨h.2.2, h.2.1⟩, rfl⟩) ?_
          (try simp only [Act.put, List.setIfInBounds_toArray, List.set_cons_zero, List.set_cons_succ])
          refine wpH_val (by rfl) (by decide) (by decide) (fun w' hE hD => by unfold YldR; go_simp; exact ⟨Ext.refl _, rfl⟩) ?_
          (try simp only [Act.put, List.setIfInBounds_toArray, List.set_cons_zero, List.set_cons_succ])
          refine wpH_val (by rfl) (by decide) (by decide) (fun w' hE hD => by unfold YldR; go_simp; exact ⟨Ext.refl _, rfl⟩) ?_
          (try simp only [Act.put, List.setIfInBounds_toArray, List.set_cons_zero, List.set_cons_succ])
          refine wpH_val (by rfl) (by decide) (by decide) (fun w' hE hD => by have hc1' := (hE.blk HB.out HNS.out).cell 1 (v := .int .i64 y) rfl; unfold YldR; go_simp; exact ⟨Ext.refl _, rfl⟩) ?_
          (try simp only [Act.put, List.setIfInBounds_toArray, List.set_cons_zero, List.set_cons_succ])
          refine wpH_two rfl (by rfl) (by decide) (by decide) (fun w' hE hP hD => by unfold YldR; go_simp; exact (hP.both (tr_write hP.tw HL.out.down y none 0 0 [] rfl (Kd.F_nil kb _ _) (Nat.le_refl _))).mono fun e w2 h => ⟨_, h.1, ⟨h.2.2, h.2.1⟩, rfl⟩) ?_
          (try simp only [Act.put, List.setIfInBounds_toArray, List.set_cons_zero, List.set_cons_succ])
          refine wpH_val (by rfl) (by decide) (by decide) (fun w' hE hD => by unfold YldR; go_simp; exact ⟨Ext.refl _, rfl⟩) ?_
          (try simp only [Act.put, List.setIfInBounds_toArray, List.set_cons_zero, List.set_cons_succ])
          refine wpH_nil fun w3 hC3 hP hA => ?_
          simp only [List.drop_succ_cons, List.drop_zero]
          have HP := Aside0.mk hP
          have HC3 := Aside0.mk (HE0.out.trans hC3)
          clear hP hC3 hA hc0 hc1
          go_wp2
          go_ret
          exact ⟨rfl, ⟨_, _, _, _, _, HP.out, HL.out.write _ _ _ _⟩, HC3.out⟩
        · have hkd3 : decide (k = 3) = false := decide_eq_false hk3
          by_cases hk4 : k = 4
          · subst hk4
            go_enter Try.func45, Try.ntmps45
            go_wp2_with fail
            rw [← HWX.out]
            refine (HT.out.both (tw_sync HT.out.tw)).mono ?_
            rintro e w1 ⟨rfl, hT, hC⟩
            have HT1 := Aside0.mk hT
            have HC1 := Aside0.mk (HE0.out.trans hC)
            clear hT hC hc0 hc1
            go_wp2_with fail
            refine (HT1.out.both (tr_sync HT1.out.tw HL.out.down)).mono ?_
            rintro e w2 ⟨rfl, hT, hC⟩
            have HT2 := Aside0.mk hT
            have HC2 := Aside0.mk (HC1.out.trans hC)
            clear hT hC
            go_wp2
            go_ret
            exact ⟨rfl, ⟨_, _, _, _, _, HT2.out, HL.out.spend _⟩, HC2.out⟩
          · have hkd4 : decide (k = 4) = false := decide_eq_false hk4
            go_enter Try.func45, Try.ntmps45
            go_wp2_with fail
            rw [← HWX.out]
            go_ret
            exact ⟨rfl, ⟨_, _, _, _, _, HT.out, HL.out⟩, HE0.out⟩
/-- The worlds before both are made are not touched. -/
theorem cst_ext {w0 : World} (h : Chg w w' (Cst bd bl bc br bm bq bk bj)) (he : Ext w0 w) (hs : ∀ j, Cst bd bl bc br bm bq bk bj j → w0.heap.size ≤ j) : Ext w0 w' := h.to_ext he hs
end
theorem opk_at {w : World} {A : Option Addr} {n : Nat} {L : List (Int × Int)} (h : Kd.C kOq w A n L) (i : Nat) (hi : i < n) (p : Int × Int) (hp : L[i]? = some p) : ∃ b off, A = some ⟨b, off, none⟩ ∧ w.rangeAt b (off + i * 2) [.int .i64 p.1, .int .i64 p.2] := by
  have hK : ∀ {w : World} {p : Int × Int} {cs : List Value}, kOq.K w p cs → cs = [.int .i64 p.1, .int .i64 p.2] := by
    intro w p cs h
    obtain ⟨c0, c1, e, h0, h1⟩ := h
    have h0' : c0 = [.int .i64 p.1] := h0
    have h1' : c1 = [.int .i64 p.2] := h1
    rw [e, h0', h1']
    rfl
  obtain ⟨ad, rfl, hc⟩ := h.2.2 (by omega)
  obtain ⟨cs, h1, h2, h3⟩ := hc i p hp
  have := hK h2
  subst this
  have hs : ad.spot = none := by
    have hl0 : 0 < L.length := by rw [h.1]; omega
    obtain ⟨cs0, g1, g2, g3⟩ := hc 0 _ (List.getElem?_eq_getElem hl0)
    have := hK g2
    subst this
    have := g3 0 _ rfl
    rw [show 0 * kOq.sz + 0 = 0 from rfl] at this
    cases hsp : ad.spot with
    | none => rfl
    | some s =>
      exfalso
      simp only [Addr.add, World.cell?] at this
      simp [hsp] at this
      split at this <;> cases this
  obtain ⟨b, off, sp⟩ := ad
  subst hs
  refine ⟨b, off, rfl, fun j v hv => ?_⟩
  have := h3 j v hv
  rw [show kOq.sz = 2 from rfl] at this
  unfold Addr.add at this
  split at this
  · rename_i h0
    have e : off + i * 2 + j = off := by omega
    rw [e]
    exact this
  · rw [show off + i * 2 + j = off + (i * 2 + j) by omega]
    exact this
theorem rst_new {bm bq bd bl bc br sz : Nat} (h1 : ∀ k, Dst bd bl bc br k → k < sz) (h2 : ∀ k, Rst bm bq k → sz ≤ k) : ∀ j, Dst bd bl bc br j → ¬ Rst bm bq j := fun j hj hr => by
  have := h1 j hj
  have := h2 j hr
  omega
set_option maxRecDepth 100000 in
set_option maxHeartbeats 2000000 in
theorem runs_calls (w : World) (A : Option Addr) (m c : Nat) (xs : List (Int × Int)) (hn : m = xs.length) (hr : Kd.C kOq w A m xs) (hc : m ≤ c) (hg : ∀ p ∈ xs, p.2 ≤ 9223372036854775807) :
    Calls Try.prog 12 #[.slice A m c] w fun e w' => e = .returned (.bool true) ∧ Ext w w' := by
  have HR := Aside0.mk hr
  have HN := Aside0.mk hn
  have HG := Aside0.mk hg
  have HI1 := Aside0.mk (fun (u v : Value) => show (Try.prog.info? 68).map (·.size) = some [u, v].length by kernel_rfl)
  clear hr hn hg
  by_cases hbig : (200 : Int) < m
  · go_enter Try.func12, Try.ntmps12
    go_wp2_with fail
    refine (works_calls w).mono ?_
    rintro e w1 ⟨rfl, hE⟩
    go_wp2
    go_ret
    exact ⟨rfl, hE⟩
  go_enter Try.func12, Try.ntmps12
  go_wp2_with fail
  refine (d_new w 8 (by decide) (by decide)).mono ?_
  rintro e w1 ⟨bd, bl, bc, br, rfl, hD, hE, hk⟩
  have HD1 := Aside0.mk hD
  have HE1 := Aside0.mk hE
  have HK1 := Aside0.mk hk
  clear hD hE hk
  go_wp2_with fail
  refine (rb_new w1 8 (by decide) (by decide)).mono ?_
  rintro e w2 ⟨bm, bq, rfl, hD, hE, hk⟩
  have HT2 := Aside0.mk (show TW w2 bd bl bc br bm bq 8 (sNew 8) false 0 (sNew 8) (-1) from ⟨HD1.out.ext hE, hD, rst_new HD1.out.lt hk⟩)
  have HK2 := Aside0.mk (show ∀ k, Tst bd bl bc br bm bq k → w.heap.size ≤ k from fun k h => h.elim (fun h => HK1.out k h) (fun h => Nat.le_trans HE1.out.size (hk k h)))
  have HE2 := Aside0.mk (HE1.out.trans hE)
  clear hD hE hk HD1 HE1 HK1
  go_wp2_with fail
  refine (cnew_calls w2 bd).mono ?_
  rintro e w3 ⟨bk, rfl, hb, hbk, hE⟩
  have HT3 := Aside0.mk (HT2.out.ext hE)
  have HB3 := Aside0.mk hb
  have HBK := Aside0.mk (show w.heap.size ≤ bk from Nat.le_trans HE2.out.size hbk)
  have HE3 := Aside0.mk (HE2.out.trans hE)
  clear hb hbk hE HT2 HE2
  go_wp2_with fail
  refine (rcnew_calls w3 bm).mono ?_
  rintro e w4 ⟨bj, rfl, hb, hbk, hE⟩
  have HT4 := Aside0.mk (show TCE w4 bd bl bc br bm bq bk bj 8 from ⟨_, _, _, _, _, ⟨HT3.out.ext hE, HB3.out.ext hE, hb⟩, Lft.new⟩)
  have HS4 := Aside0.mk (show ∀ k, Cst bd bl bc br bm bq bk bj k → w.heap.size ≤ k from by
    rintro k (h | rfl | rfl)
    · exact HK2.out k h
    · exact HBK.out
    · exact Nat.le_trans HE3.out.size hbk)
  have HE4 := Aside0.mk (HE3.out.trans hE)
  clear hb hbk hE HT3 HE3 HB3 HBK HK2
  go_wp2_with fail
  go_loopw [9] (fun i wr => ∃ (x : Nat), i = .int .i64 x ∧ Aside0 (x ≤ m) ∧ Aside0 (TCE wr bd bl bc br bm bq bk bj 8) ∧ Aside0 (Ext w wr)) (fun i _ => m - (intOf i).toNat)
  case atStart => exact ⟨0, rfl, ⟨Nat.zero_le _⟩, HT4, HE4⟩
  case round =>
    clear HT4 HE4
    obtain ⟨x, rfl, HX, HT, HE⟩ := hrel
    have g0 := HX.out
    obtain ⟨wx, hwx⟩ : ∃ wx : World, wx = wr := ⟨_, rfl⟩
    subst hwx
    by_cases hlt : x < m
    · have HXL := Aside0.mk hlt
      have hdj : decide ((x : Int) < (m : Int)) = true := decide_eq_true (by omega)
      have hxe : x < xs.length := by have := HN.out; omega
      obtain ⟨b, off, hA, hrg⟩ := opk_at (Kd.C_below HR.out HE.out) x hlt _ (List.getElem?_eq_getElem hxe)
      have HYB := Aside0.mk (HG.out _ (List.getElem_mem hxe))
      generalize xs[x] = p at hrg HYB
      obtain ⟨k, y⟩ := p
      dsimp only at HYB
      subst hA
      have HG1 := Aside0.mk (show wx.rangeAt b (off + x * 2) [.int .i64 k, .int .i64 y] from hrg)
      clear hrg hxe
      obtain ⟨s, ar, lf, left, v, hT, hL⟩ := HT.out
      have HRUN := Aside0.mk (run_calls hT hL k y HYB.out)
      clear hT hL HT
      go_wp2_with (first | ((with_reducible refine gate_load (ty := 68) rfl ?_); refine load_at rfl 68 _ rfl b (off + x * 2) rfl [.int .i64 k, .int .i64 y] _ HG1.out Try.underlying68 rfl (HI1.out _ _) ?_) | fail)
      refine HRUN.out.mono ?_
      rintro e w5 ⟨rfl, hT, hC⟩
      obtain ⟨s', ar', lf', left', v', hT', hL'⟩ := hT
      have HT5 := Aside0.mk hT'
      have HL5 := Aside0.mk hL'
      have HE5 := Aside0.mk (hC.to_ext HE.out HS4.out)
      clear hT' hL' hC HRUN HE HG1
      go_wp2_with fail
      refine (value_calls HT5.out.ck).mono ?_
      rintro e w6 ⟨rfl, rfl⟩
      go_wp2_with fail
      refine (rvalue_calls HT5.out.cj).mono ?_
      rintro e w7 ⟨rfl, rfl⟩
      go_wp2_with fail
      go_roundw
      case rel => exact ⟨x + 1, by go_num, ⟨hlt⟩, ⟨_, _, _, _, _, HT5.out, HL5.out⟩, HE5⟩
      case measure => have := HXL.out; simp only [intOf]; omega
    · obtain rfl : x = m := by omega
      go_wp2_with fail
      refine (works_calls wx).mono ?_
      rintro e w7 ⟨rfl, hE⟩
      have HE7 := Aside0.mk (HE.out.trans hE)
      clear hE HE
      go_wp2
      go_ret
      exact ⟨rfl, HE7.out⟩
end Go.Proofs.Ytkgjcmolmogpdaa.By
