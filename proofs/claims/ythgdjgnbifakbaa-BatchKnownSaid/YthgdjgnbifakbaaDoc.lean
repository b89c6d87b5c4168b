/- The contracts of the document's reader of layer 9. -/
import Derived.Test.YthgdjgnbifakbaaRds
namespace Go.Proofs.Ythgdjgnbifakbaa.By
open Go.RowKit Go.Proofs.Ythgdjgnbifakbaa.Reg Go.Proofs.YthgdjgnbifakbaaW.PrintWords Go.Proofs.YthgdjgnbifakbaaW.PrintLast Go.Proofs.YthgdjgnbifakbaaW.PrintMore
set_option linter.unusedVariables false

/-- The document's reader in block b: its bytes, how many were read, whether it is bad. -/
structure RR (w : World) (lo hi b : Nat) (bs : List Int) (at_ : Int) (bad : Bool) (A : Option Addr) (c : Nat) : Prop where
  low : lo ≤ b
  high : b < hi
  size : hi ≤ w.heap.size
  blk : Blk w b #[.slice A bs.length c, .int .i64 at_, .bool bad] 49
  row : Kd.C kb w A bs.length bs
  cap : bs.length ≤ c
  far : ∀ a, A = some a → lo ≤ a.block ∧ a.block < hi ∧ a.block ≠ b
def Rr (w : World) (lo hi b : Nat) (bs : List Int) (at_ : Int) (bad : Bool) : Prop := ∃ A c, RR w lo hi b bs at_ bad A c
section
variable {w w' : World} {lo hi b lo' hi' : Nat} {bs : List Int} {at_ : Int} {bad : Bool} {A : Option Addr} {c : Nat}
theorem RR.ext (h : RR w lo hi b bs at_ bad A c) (he : Ext w w') : RR w' lo hi b bs at_ bad A c :=
  ⟨h.low, h.high, Nat.le_trans h.size he.size, h.blk.ext he, Kd.C_below h.row he, h.cap, h.far⟩
theorem RR.tch (h : RR w lo hi b bs at_ bad A c) (ht : Tch w w' lo' hi') (hn : hi ≤ lo' ∨ hi' ≤ lo) : RR w' lo hi b bs at_ bad A c :=
  ⟨h.low, h.high, Nat.le_trans h.size ht.size, ht.blk h.blk (by have := h.low; have := h.high; omega),
    kb_stays h.row (fun a ha => ht.block _ (by have := (h.far a ha).2.1; have := h.size; omega) (by have := h.far a ha; omega)), h.cap, h.far⟩
theorem Rr.ext (h : Rr w lo hi b bs at_ bad) (he : Ext w w') : Rr w' lo hi b bs at_ bad := by
  obtain ⟨A, c, h⟩ := h
  exact ⟨A, c, h.ext he⟩
theorem Rr.tch (h : Rr w lo hi b bs at_ bad) (ht : Tch w w' lo' hi') (hn : hi ≤ lo' ∨ hi' ≤ lo) : Rr w' lo hi b bs at_ bad := by
  obtain ⟨A, c, h⟩ := h
  exact ⟨A, c, h.tch ht hn⟩
theorem RR.bad_ (h : RR w lo hi b bs at_ bad A c) (v : Bool) : RR (w.setCell ⟨b, 2, none⟩ (.bool v)) lo hi b bs at_ v A c ∧ Wrote w (w.setCell ⟨b, 2, none⟩ (.bool v)) b := by
  have hw := Wrote.setCell w b 2 (.bool v)
  exact ⟨⟨h.low, h.high, by rw [hw.size]; exact h.size, by have := h.blk.set 2 (.bool v); simpa using this, kb_stays h.row (fun a ha => hw.block _ (h.far a ha).2.2), h.cap, h.far⟩, hw⟩
theorem RR.at__ (h : RR w lo hi b bs at_ bad A c) (v : Int) : RR (w.setCell ⟨b, 1, none⟩ (.int .i64 v)) lo hi b bs v bad A c ∧ Wrote w (w.setCell ⟨b, 1, none⟩ (.int .i64 v)) b := by
  have hw := Wrote.setCell w b 1 (.int .i64 v)
  exact ⟨⟨h.low, h.high, by rw [hw.size]; exact h.size, by have := h.blk.set 1 (.int .i64 v); simpa using this, kb_stays h.row (fun a ha => hw.block _ (h.far a ha).2.2), h.cap, h.far⟩, hw⟩
end

set_option maxHeartbeats 2000000 in
theorem rread_calls (w : World) (A : Option Addr) (c n : Nat) (xs : List Int) (hn : n = xs.length) (hr : Kd.C kb w A n xs) (hc : n ≤ c) (hl : n ≤ 140737488355328) :
    Calls Try.prog 35 #[.slice A n c] w fun e w' => ∃ b, e = .returned (.pointer (some ⟨b, 0, none⟩)) ∧ Rr w' w.heap.size w'.heap.size b xs 0 false ∧ Ext w w' := by
  subst hn
  have HR := Aside0.mk hr
  have HE0 := Aside0.mk ((Ext.refl w).alloc (.cells #[] 5))
  have HN0 := Aside0.mk (NB_empty w w.heap.size (Nat.le_refl _))
  have HB0 : Aside0 (Below w.heap.size w (w.alloc (.cells #[] 5))) := ⟨HE0.out⟩
  clear hr
  go_enter Try.func35, Try.ntmps35
  go_wp2_with (at_builtin; refine Kd.R_append_rows kb (Rr := kb.K w) (w0 := w) w.heap.size rfl (.tmp 3) (.tmp 4) 22 5 _ 1 rfl Try.underlying22 PPackPuts.info5 rfl (by decide) (by decide) _ [] xs A xs.length c (fun _ => True) (fun _ => False) rfl rfl HN0.out ?c1 kb_KM (fun _ h => h.elim) (fun _ _ => trivial) HB0.out ?c2 ?c3 ?_)
  case c1 => exact Kd.C_below HR.out HE0.out
  case c2 => simp
  case c3 => simp; omega
  intro v1 w1 hR1 hB1 hg1 hat1
  replace hR1 : NB w1 w.heap.size v1 xs := hR1
  obtain ⟨A1, c1, rfl, hl1, hC1⟩ := hR1.reads
  have HF := Aside0.mk hR1.far
  have HC1 := Aside0.mk hC1
  have HL := Aside0.mk hl1
  have hE1 : Ext w w1 := ⟨hB1.os, hB1.tape, hB1.output, hB1.size, hB1.block⟩
  have hE2 := hE1.alloc (.cells #[.slice A1 xs.length c1, .int .i64 0, .bool false] 49)
  have hB := Blk.new w1 #[.slice A1 xs.length c1, .int .i64 0, .bool false] 49
  clear hR1 hC1 hg1 hat1 HN0 HB0 HE0 hB1 hl1
  go_wp2
  go_ret
  refine ⟨w1.heap.size, rfl, ⟨A1, c1, ⟨hE1.size, by rw [size_alloc]; omega, Nat.le_refl _, hB, Kd.C_below HC1.out ((Ext.refl w1).alloc _), HL.out, fun a ha => ?_⟩⟩, hE2⟩
  have := HF.out a ha
  rw [size_alloc]
  omega

theorem rleft_bad (w : World) (lo hi b : Nat) (bs : List Int) (at_ : Int) (h : Rr w lo hi b bs at_ true) :
    Calls Try.prog 41 #[.pointer (some ⟨b, 0, none⟩)] w fun e w' => e = .returned (.int .i64 0) ∧ Ext w w' := by
  obtain ⟨A, c, h⟩ := h
  have c2 := h.blk.cell 2 (v := .bool true) rfl
  clear h
  go_enter Try.func41, Try.ntmps41
  go_wp2
  go_ret
  exact ⟨rfl, Ext.refl w⟩
set_option maxHeartbeats 1000000 in
theorem rleft_ok (w : World) (lo hi b : Nat) (bs : List Int) (at_ : Int) (h : Rr w lo hi b bs at_ false) (h0 : 0 ≤ at_) (h1 : at_ ≤ bs.length) :
    Calls Try.prog 41 #[.pointer (some ⟨b, 0, none⟩)] w fun e w' => e = .returned (.int .i64 (bs.length - at_)) ∧ Ext w w' := by
  obtain ⟨A, c, h⟩ := h
  have c0 := h.blk.cell 0 (v := .slice A bs.length c) rfl
  have c1 := h.blk.cell 1 (v := .int .i64 at_) rfl
  have c2 := h.blk.cell 2 (v := .bool false) rfl
  have hm : bs.length ≤ 9223372036854775807 := Kd.C_max h.row
  have HW := Aside0.mk (show IntKind.i64.wrap ((bs.length : Int) - at_) = bs.length - at_ by rw [IntKind.wrap_i64]; omega)
  clear h hm h0 h1
  go_enter Try.func41, Try.ntmps41
  go_wp2_with fail
  apply wp_region_facts 11 [RF.val (.pointer (some ⟨b, 0, none⟩)), RF.val (.pointer (some ⟨b, 0, none⟩)), RF.val (.pointer (some ⟨b, 0, none⟩)), RF.val (.slice A bs.length c), RF.val (.int .i64 bs.length), RF.val (.pointer (some ⟨b, 0, none⟩)), RF.val (.pointer (some ⟨b, 0, none⟩)), RF.val (.pointer (some ⟨b, 1, none⟩)), RF.val (.int .i64 at_), RF.val (.int .i64 (bs.length - at_)), RF.val (.int .i64 (bs.length - at_))] (by kernel_rfl) (by kernel_rfl)
  simp only [List.take_succ_cons, List.take_zero, List.zip_cons_cons, List.zip_nil_left]
  iterate 9 (apply wpF_val rfl; (intro w' hE hD; have e0 := Ext.cell (w := w) hE c0; have e1 := Ext.cell (w := w) hE c1; unfold Yld; go_simp; exact ⟨Ext.refl _, rfl⟩); (try simp only [Act.put, List.setIfInBounds_toArray, List.set_cons_zero, List.set_cons_succ]))
  apply wpF_val rfl; (intro w' hE hD; unfold Yld; go_simp; rw [HW.out]; exact ⟨Ext.refl _, rfl⟩); (try simp only [Act.put, List.setIfInBounds_toArray, List.set_cons_zero, List.set_cons_succ])
  apply wpF_val rfl; (intro w' hE hD; unfold Yld; go_simp; exact ⟨Ext.refl _, rfl⟩); (try simp only [Act.put, List.setIfInBounds_toArray, List.set_cons_zero, List.set_cons_succ])
  refine wpF_nil fun w' hE hA => ?_
  refine wpList_nil ?_
  go_wp2
  go_ret
  exact ⟨rfl, hE⟩

/-- How many bytes the document's reader has left. -/
theorem rleft_all (w : World) (lo hi b : Nat) (bs : List Int) (at_ : Int) (bad : Bool) (h : Rr w lo hi b bs at_ bad) (h0 : 0 ≤ at_) (h1 : at_ ≤ bs.length) (r : Int) (hr : r = if bad = true then 0 else bs.length - at_) :
    Calls Try.prog 41 #[.pointer (some ⟨b, 0, none⟩)] w fun e w' => e = .returned (.int .i64 r) ∧ Ext w w' := by
  subst hr
  cases bad with
  | true => exact rleft_bad w lo hi b bs at_ h
  | false => exact rleft_ok w lo hi b bs at_ h h0 h1

set_option maxHeartbeats 1000000 in
theorem next_bad (w : World) (lo hi b : Nat) (bs : List Int) (at_ : Int) (bad : Bool) (n : Int) (h : Rr w lo hi b bs at_ bad) (h0 : 0 ≤ at_) (h1 : at_ ≤ bs.length) (hn : 0 < n) (hb : bad = true ∨ (bs.length : Int) - at_ < n) :
    Calls Try.prog 68 #[.pointer (some ⟨b, 0, none⟩), .int .i64 n] w fun e w' => e = .returned (.tuple #[.slice none 0 0, .bool false]) ∧ Rr w' lo hi b bs at_ true ∧ Tch w w' lo hi := by
  have hl := rleft_all w lo hi b bs at_ bad h h0 h1 _ rfl
  have hlt : (if bad = true then 0 else (bs.length : Int) - at_) < n := by
    rcases hb with hb | hb
    · rw [if_pos hb]; exact hn
    · split
      · exact hn
      · exact hb
  generalize (if bad = true then 0 else (bs.length : Int) - at_) = r at hl hlt
  obtain ⟨A, c, h⟩ := h
  have f2 := h.blk.free 2
  have HH := Aside0.mk h
  have HL := Aside0.mk hl
  clear h hl hb h0 h1
  go_enter Try.func68, Try.ntmps68
  go_wp2_with fail
  refine (HL.out).mono ?_
  rintro e w1 ⟨rfl, hE⟩
  have h1 := HH.out.ext hE
  have f2' := h1.blk.free 2
  have c2 := h1.blk.cell 2 (v := .bool bad) rfl
  have HH1 := Aside0.mk h1
  have HE := Aside0.mk hE
  clear h1 hE HL f2 HH
  go_wp2
  go_ret2
  have h2 := HH1.out.bad_ true
  exact ⟨rfl, ⟨A, c, h2.1⟩, (Tch.of_ext HE.out lo hi).trans (Tch.of_wrote h2.2 HH1.out.low HH1.out.high)⟩

set_option maxHeartbeats 4000000 in
theorem next_ok (w : World) (lo hi b : Nat) (bs : List Int) (at_ n : Int) (h : Rr w lo hi b bs at_ false) (h0 : 0 ≤ at_) (hn : 0 < n) (h1 : at_ + n ≤ bs.length) :
    Calls Try.prog 68 #[.pointer (some ⟨b, 0, none⟩), .int .i64 n] w fun e w' => ∃ A c, e = .returned (.tuple #[.slice A n.toNat c, .bool true]) ∧ (∀ a, A = some a → lo ≤ a.block ∧ a.block < hi) ∧ n.toNat ≤ c ∧ Kd.C kb w' A n.toNat ((bs.drop at_.toNat).take n.toNat) ∧ Rr w' lo hi b bs (at_ + n) false ∧ Tch w w' lo hi := by
  have hl := rleft_ok w lo hi b bs at_ h h0 (by omega)
  obtain ⟨A, c, h⟩ := h
  have hm : bs.length ≤ 9223372036854775807 := Kd.C_max h.row
  have HH := Aside0.mk h
  have HL := Aside0.mk hl
  have hlt : ((bs.length : Int) - at_ < n) = False := eq_false (by omega)
  have hltd : decide ((bs.length : Int) - at_ < n) = false := decide_eq_false (by omega)
  have HW := Aside0.mk (show wrap64 (at_ + n) = at_ + n from wrap64_in (by omega) (by omega))
  have HW2 := Aside0.mk (show IntKind.i64.wrap at_ = at_ by rw [IntKind.wrap_i64]; omega)
  have HN := Aside0.mk (show 0 ≤ at_ ∧ 0 < n ∧ at_ + n ≤ bs.length from ⟨h0, hn, h1⟩)
  clear h hl h0 h1 hm
  go_enter Try.func68, Try.ntmps68
  go_wp2_with fail
  refine (HL.out).mono ?_
  rintro e w1 ⟨rfl, hE⟩
  have h1 := HH.out.ext hE
  have f1 := h1.blk.free 1
  have c1 := h1.blk.cell 1 (v := .int .i64 at_) rfl
  have h2 := h1.at__ (at_ + n)
  have HH2 := Aside0.mk h2.1
  have HT := Aside0.mk ((Tch.of_ext hE lo hi).trans (Tch.of_wrote h2.2 h1.low h1.high))
  have hw := HW.out
  clear hE HL HH h2 h1
  go_wp2_with fail
  clear hw f1 c1
  obtain ⟨i0, hi0, _, hsz, _⟩ := info_parts PPackPuts.info5
  have hcut := cut_mid (P := Try.prog) 22 5 .i64 .i64 Try.underlying22 hi0 1 hsz A bs.length c at_ (at_ + n) HN.out.1 (by have := HN.out; omega) HN.out.2.2 HH2.out.cap
  have hmid := Kd.C_mid (lo := at_.toNat) (hi := (at_ + n).toNat) HH2.out.row (by have := HN.out; omega) (by have := HN.out; omega) HH2.out.cap
  rw [show ((bs.take (at_ + n).toNat).drop at_.toNat).length = n.toNat by rw [List.length_drop, List.length_take]; have := HN.out; omega] at hmid
  rw [show (bs.take (at_ + n).toNat).drop at_.toNat = (bs.drop at_.toNat).take n.toNat by rw [List.drop_take]; congr 1; have := HN.out; omega] at hmid
  rw [show (at_ + n).toNat - at_.toNat = n.toNat by have := HN.out; omega] at hcut
  have hcap : n.toNat ≤ c - at_.toNat := by have := HN.out; have := HH2.out.cap; omega
  have c0 := HH2.out.blk.cell 0 (v := .slice A bs.length c) rfl
  have c1 := HH2.out.blk.cell 1 (v := .int .i64 (at_ + n)) rfl
  rw [show kb.sz = 1 from rfl] at hmid
  have hf : ∀ a, (if c = at_.toNat then A else A.map (·.add (at_.toNat * 1))) = some a → lo ≤ a.block ∧ a.block < hi := by
    intro a ha
    split at ha
    · exact ⟨(HH2.out.far a ha).1, (HH2.out.far a ha).2.1⟩
    · cases hA : A with
      | none => rw [hA] at ha; cases ha
      | some a0 =>
        rw [hA] at ha
        injection ha with ha
        subst ha
        have hk : (a0.add (at_.toNat * 1)).block = a0.block := by unfold Addr.add; split <;> rfl
        show lo ≤ (a0.add (at_.toNat * 1)).block ∧ (a0.add (at_.toNat * 1)).block < hi
        rw [hk]
        exact ⟨(HH2.out.far a0 hA).1, (HH2.out.far a0 hA).2.1⟩
  generalize (if c = at_.toNat then A else A.map (·.add (at_.toNat * 1))) = A' at hmid hcut hf
  have HF := Aside0.mk hf
  clear hf
  generalize c - at_.toNat = c' at hcut hcap
  generalize w1.setCell ⟨b, 1, none⟩ (.int .i64 (at_ + n)) = w2 at *
  have HM := Aside0.mk hmid
  clear hmid hi0 hsz
  apply wp_region_facts 15 [RF.val (.pointer (some ⟨b, 0, none⟩)), RF.val (.pointer (some ⟨b, 0, none⟩)), RF.val (.pointer (some ⟨b, 0, none⟩)), RF.val (.slice A bs.length c), RF.val (.pointer (some ⟨b, 0, none⟩)), RF.val (.pointer (some ⟨b, 0, none⟩)), RF.val (.pointer (some ⟨b, 1, none⟩)), RF.val (.int .i64 (at_ + n)), RF.val (.int .i64 n), RF.val (.int .i64 at_), RF.val (.pointer (some ⟨b, 0, none⟩)), RF.val (.pointer (some ⟨b, 0, none⟩)), RF.val (.pointer (some ⟨b, 1, none⟩)), RF.val (.int .i64 (at_ + n)), RF.val (.slice A' n.toNat c')] (by kernel_rfl) (by kernel_rfl)
  simp only [List.take_succ_cons, List.take_zero, List.zip_cons_cons, List.zip_nil_left]
  iterate 9 (apply wpF_val rfl; (intro w' hE hD; have e0 := Ext.cell (w := w2) hE c0; have e1 := Ext.cell (w := w2) hE c1; unfold Yld; go_simp; exact ⟨Ext.refl _, rfl⟩); (try simp only [Act.put, List.setIfInBounds_toArray, List.set_cons_zero, List.set_cons_succ]))
  apply wpF_val rfl; (intro w' hE hD; unfold Yld; go_simp; rw [HW2.out]; exact ⟨Ext.refl _, rfl⟩); (try simp only [Act.put, List.setIfInBounds_toArray, List.set_cons_zero, List.set_cons_succ])
  iterate 5 (apply wpF_val rfl; (intro w' hE hD; have e0 := Ext.cell (w := w2) hE c0; have e1 := Ext.cell (w := w2) hE c1; unfold Yld; go_simp; exact ⟨Ext.refl _, rfl⟩); (try simp only [Act.put, List.setIfInBounds_toArray, List.set_cons_zero, List.set_cons_succ]))
  refine wpF_nil fun w' hE hA => ?_
  simp only [List.drop_succ_cons, List.drop_zero]
  have hT2 := Aside0.mk (HT.out.trans (Tch.of_ext hE lo hi))
  have HM2 := Aside0.mk (Kd.C_below HM.out hE)
  have HH3 := Aside0.mk (HH2.out.ext hE)
  clear hA hE HT HM HH2 c0 c1
  go_wp2
  go_ret2
  exact ⟨A', c', rfl, HF.out, hcap, HM2.out, ⟨A, c, HH3.out⟩, hT2.out⟩
end Go.Proofs.Ythgdjgnbifakbaa.By
