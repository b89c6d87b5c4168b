/- PackReads. -/
import Derived.Test.YtkjjkahdmlfflaaBoth
namespace Go.Proofs.Ytkjjkahdmlfflaa.By
open Go.RowKit Go.Proofs.Ytkjjkahdmlfflaa.Reg Go.Proofs.YtkjjkahdmlfflaaW.PrintWords Go.Proofs.YtkjjkahdmlfflaaW.PrintLast Go.Proofs.YtkjjkahdmlfflaaW.PrintMore
set_option linter.unusedVariables false

theorem leftI_drop {bs : List Int} {p : Int} {bad : Bool} (h0 : 0 ≤ p) (h1 : p ≤ bs.length) : leftI (bs.drop p.toNat) bad = if bad = true then 0 else (bs.length : Int) - p := by
  unfold leftI
  rw [List.length_drop]
  split
  · rfl
  · omega
theorem bad_cell {w : World} {lo hi b : Nat} {bs : List Int} {p : Int} {bad : Bool} (h : Rr w lo hi b bs p bad) : w.cell? ⟨b, 2, none⟩ = some (.bool bad) := by
  obtain ⟨A, c, h⟩ := h
  exact h.blk.cell 2 rfl

set_option maxRecDepth 100000 in
set_option maxHeartbeats 8000000 in
theorem reads_calls (w : World) (A A1 : Option Addr) (c n c1 n1 : Nat) (bs asks : List Int) (hn : n = bs.length) (hr : Kd.C kb w A n bs) (hc : n ≤ c) (hB : isB bs) (hn1 : n1 = asks.length) (hr1 : Kd.C (Kd.int .i64) w A1 n1 asks) (hw1 : ∀ x ∈ asks, -9223372036854775808 ≤ x ∧ x ≤ 9223372036854775807) :
    Calls Try.prog 6 #[.slice A n c, .slice A1 n1 c1] w fun e w' => e = .returned (.bool true) ∧ Ext w w' := by
  have HR := Aside0.mk hr
  have HR1 := Aside0.mk hr1
  have HN := Aside0.mk hn
  have HN1 := Aside0.mk hn1
  have HB := Aside0.mk hB
  have HW1 := Aside0.mk hw1
  clear hr hn hr1 hn1 hB hw1
  by_cases hbig : n > 65536
  · have hz : ((65536 : Int) < (n : Int)) = True := eq_true (by omega)
    go_enter Try.func6, Try.ntmps6
    go_wp2_with fail
    refine (known_calls _).mono ?_
    rintro e w1 ⟨rfl, hE⟩
    have HE := Aside0.mk hE
    clear hE
    go_wp2
    go_ret
    exact ⟨rfl, HE.out⟩
  have hz : ((65536 : Int) < (n : Int)) = False := eq_false (by omega)
  have hsm : n ≤ 65536 := by omega
  obtain ⟨i0, hi0, _, hsz, _⟩ := info_parts PPackPuts.info5
  clear hbig
  go_enter Try.func6, Try.ntmps6
  go_wp2_with fail
  refine (lent_at w A c n bs HN.out HR.out hc (by omega)).mono ?_
  rintro e w1 ⟨B, d, rfl, hNB, hd, hCB, hCI, hE1⟩
  have HNB := Aside0.mk hNB
  have HCB := Aside0.mk hCB
  have HCI := Aside0.mk hCI
  have HE1 := Aside0.mk hE1
  have hcut := cut_to (P := Try.prog) 22 5 .i64 Try.underlying22 hi0 B (n + 5) d (n : Int) (by omega) (by omega) hd
  rw [Int.toNat_natCast] at hcut
  clear hNB hCB hCI hi0 hsz hE1
  have hnd : n ≤ d := by omega
  go_wp2_with fail
  refine (read_calls w1 B d n bs HN.out HCI.out hnd (by omega)).mono ?_
  rintro e w2 ⟨b1, rfl, hRd, hE2⟩
  have HRd := Aside0.mk hRd
  have HE2 := Aside0.mk hE2
  clear hRd hE2 hcut
  go_wp2_with fail
  refine (rread_calls w2 A c n bs HN.out (Kd.C_below HR.out (HE1.out.trans HE2.out)) hc (by omega)).mono ?_
  rintro e w3 ⟨b2, rfl, hRr, hE3⟩
  have HSt := Aside0.mk (show St w1 w3 w1.heap.size w2.heap.size b1 w2.heap.size w3.heap.size b2 bs 0 false from
    ⟨by decide, by omega, HRd.out.ext hE3, hRr, Nat.le_refl _, Nat.le_refl _, HE2.out.trans hE3, HE2.out.size⟩)
  clear hRr HRd hE3
  go_wp2_with fail
  refine (kept_n w3 B A d c n bs HN.out (Kd.C_below HCB.out HSt.out.ext) hd (Kd.C_below HR.out (HE1.out.trans HSt.out.ext)) hc (by omega)).mono ?_
  rintro e w4 ⟨rfl, hE4⟩
  have HS4 := Aside0.mk (HSt.out.more hE4)
  clear hE4 HSt
  go_wp2_with fail
  refine (spoil_calls w4 (lent bs) w _ (HE1.out.trans HS4.out.ext) (HNB.out.ext HS4.out.ext) (by rw [lent_length]; have := HN.out; omega)).mono ?_
  rintro e w5 ⟨rfl, hE5, hK5⟩
  have HTop := Aside0.mk HNB.out.top
  have hS5 : St w w5 w1.heap.size w2.heap.size b1 w2.heap.size w3.heap.size b2 bs 0 false :=
    ⟨by decide, by omega, HS4.out.rd.kept hK5 HTop.out, HS4.out.rr.kept hK5 (fun k hk => Nat.lt_of_lt_of_le (HTop.out k hk) HE2.out.size), Nat.le_refl _, HE1.out.size, hE5, HE2.out.size⟩
  generalize w1.heap.size = lo at hS5
  generalize w2.heap.size = hi at hS5
  generalize w3.heap.size = hi2 at hS5
  obtain ⟨lo2, hlo2⟩ : ∃ lo2, lo2 = hi := ⟨_, rfl⟩
  have HS5 := Aside0.mk (show St w w5 lo hi b1 lo2 hi2 b2 bs 0 false by rw [hlo2]; exact hS5)
  clear hS5 hE5 hK5 HTop HS4 hlo2 HNB HCB HCI HE1 HE2 hnd hd
  go_wp2_with fail
  go_loopw [8] (fun i wr => ∃ x : Int, i = .int .i64 x ∧ Aside0 (0 ≤ x ∧ x ≤ 200) ∧ ∃ p bad, Aside0 (St w wr lo hi b1 lo2 hi2 b2 bs p bad)) (fun i _ => 200 - (intOf i).toNat)
  case atStart => exact ⟨0, rfl, ⟨by decide⟩, 0, false, HS5⟩
  case round =>
    clear HS5
    obtain ⟨x, rfl, HX, p, bad, HS⟩ := hrel
    obtain ⟨g0, g1⟩ := HX.out
    by_cases hlt : x < n1 ∧ x < 200
    · have hx1 : (x < (n1 : Int)) = True := eq_true hlt.1
      have hx2 : (x < 200) = True := eq_true hlt.2
      have HLT := Aside0.mk hlt
      obtain ⟨ad, e, hcell⟩ := at_k (Kd.C_below HR1.out HS.out.ext) x g0 hlt.1
      have hxn : x < n1 := hlt.1
      have hrdx := HW1.out (rd asks x) (by
        unfold rd
        rw [List.getD_eq_getElem?_getD, List.getElem?_eq_getElem (show x.toNat < asks.length by have := HN1.out; omega)]
        exact List.getElem_mem _)
      subst e
      clear hlt
      obtain ⟨wx, hwx⟩ : ∃ wx : World, wx = wr := ⟨_, rfl⟩
      subst hwx
      go_wp2_with fail
      refine (pick_calls wx (rd asks x) 4 _ hrdx.1 hrdx.2 (by decide) rfl).mono ?_
      rintro e w6 ⟨rfl, hE6⟩
      have hpr := pickT_range (rd asks x) 4 (by decide)
      generalize pickT (rd asks x) 4 = t at hpr ⊢
      have HS6 := Aside0.mk (HS.out.more hE6)
      clear hE6 HS hcell hrdx
      have hcase : t = 0 ∨ t = 1 ∨ t = 2 ∨ t = 3 := by omega
      rcases hcase with rfl | rfl | rfl | rfl
      · obtain ⟨r, H⟩ := both_byte HB.out HS6.out
        have H1 := Aside0.mk H
        clear H HS6
        go_wp2_with fail
        refine (H1.out).mono ?_
        rintro e w7 ⟨rfl, H⟩
        have H2 := Aside0.mk H
        clear H H1
        go_wp2_with fail
        refine (H2.out).mono ?_
        rintro e w8 ⟨rfl, p, bad, hS⟩
        have HST := Aside0.mk hS
        clear hS H2
        go_wp2_with fail
        apply wp_region_facts 25 [RF.val (.bool true), RF.val (.bool false), RF.val (.bool false), RF.val (.pointer (some ⟨b1, 0, none⟩)), RF.val (.int .i64 (leftI (bs.drop p.toNat) bad)), RF.val (.pointer (some ⟨b2, 0, none⟩)), RF.val (.int .i64 (leftI (bs.drop p.toNat) bad)), RF.val (.bool false), RF.val (.bool false), RF.val (.bool false), RF.val (.pointer (some ⟨b1, 0, none⟩)), RF.val (.bool bad), RF.val (.pointer (some ⟨b2, 0, none⟩)), RF.val (.pointer (some ⟨b2, 0, none⟩)), RF.val (.pointer (some ⟨b2, 2, none⟩)), RF.val (.bool bad), RF.val (.bool false), RF.val (.bool false), RF.val (.bool false), RF.val (.pointer (some ⟨b1, 0, none⟩)), RF.val (.int .i64 (endI (bs.drop p.toNat) bad)), RF.val (.pointer (some ⟨b2, 0, none⟩)), RF.val (.int .i64 (endI (bs.drop p.toNat) bad)), RF.val (.bool false), RF.val (.bool false)] (by kernel_rfl) (by kernel_rfl)
        simp only [List.take_succ_cons, List.take_zero, List.zip_cons_cons, List.zip_nil_left]
        iterate 4 ((first | apply wpF_val rfl | apply wpF_valg (by rfl)); (intro w' hE hD; unfold Yld; go_simp; exact ⟨Ext.refl _, rfl⟩); (try simp only [Act.put, List.setIfInBounds_toArray, List.set_cons_zero, List.set_cons_succ]))
        (first | apply wpF_val rfl | apply wpF_valg (by rfl)); (intro w' hE hD; unfold Yld; go_simp; exact (left_calls w' lo hi b1 _ bad (HST.out.rd.ext hE)).mono fun e w2 h => ⟨_, h.1, h.2, rfl⟩); (try simp only [Act.put, List.setIfInBounds_toArray, List.set_cons_zero, List.set_cons_succ])
        iterate 1 ((first | apply wpF_val rfl | apply wpF_valg (by rfl)); (intro w' hE hD; unfold Yld; go_simp; exact ⟨Ext.refl _, rfl⟩); (try simp only [Act.put, List.setIfInBounds_toArray, List.set_cons_zero, List.set_cons_succ]))
        (first | apply wpF_val rfl | apply wpF_valg (by rfl)); (intro w' hE hD; unfold Yld; go_simp; exact (rleft_all w' lo2 hi2 b2 bs p bad (HST.out.rr.ext hE) HST.out.p0 HST.out.p1 _ (leftI_drop HST.out.p0 HST.out.p1)).mono fun e w2 h => ⟨_, h.1, h.2, rfl⟩); (try simp only [Act.put, List.setIfInBounds_toArray, List.set_cons_zero, List.set_cons_succ])
        iterate 4 ((first | apply wpF_val rfl | apply wpF_valg (by rfl)); (intro w' hE hD; unfold Yld; go_simp; exact ⟨Ext.refl _, rfl⟩); (try simp only [Act.put, List.setIfInBounds_toArray, List.set_cons_zero, List.set_cons_succ]))
        (first | apply wpF_val rfl | apply wpF_valg (by rfl)); (intro w' hE hD; unfold Yld; go_simp; exact (bad_calls w' lo hi b1 _ bad (HST.out.rd.ext hE)).mono fun e w2 h => ⟨_, h.1, h.2, rfl⟩); (try simp only [Act.put, List.setIfInBounds_toArray, List.set_cons_zero, List.set_cons_succ])
        iterate 3 ((first | apply wpF_val rfl | apply wpF_valg (by rfl)); (intro w' hE hD; unfold Yld; go_simp; exact ⟨Ext.refl _, rfl⟩); (try simp only [Act.put, List.setIfInBounds_toArray, List.set_cons_zero, List.set_cons_succ]))
        (first | apply wpF_val rfl | apply wpF_valg (by rfl)); (intro w' hE hD; have e0 := bad_cell (HST.out.rr.ext hE); unfold Yld; go_simp; exact ⟨Ext.refl _, rfl⟩); (try simp only [Act.put, List.setIfInBounds_toArray, List.set_cons_zero, List.set_cons_succ])
        iterate 4 ((first | apply wpF_val rfl | apply wpF_valg (by rfl)); (intro w' hE hD; unfold Yld; go_simp; exact ⟨Ext.refl _, rfl⟩); (try simp only [Act.put, List.setIfInBounds_toArray, List.set_cons_zero, List.set_cons_succ]))
        (first | apply wpF_val rfl | apply wpF_valg (by rfl)); (intro w' hE hD; unfold Yld; go_simp; exact (end_calls w' lo hi b1 _ bad (HST.out.rd.ext hE)).mono fun e w2 h => ⟨_, h.1, h.2, rfl⟩); (try simp only [Act.put, List.setIfInBounds_toArray, List.set_cons_zero, List.set_cons_succ])
        iterate 1 ((first | apply wpF_val rfl | apply wpF_valg (by rfl)); (intro w' hE hD; unfold Yld; go_simp; exact ⟨Ext.refl _, rfl⟩); (try simp only [Act.put, List.setIfInBounds_toArray, List.set_cons_zero, List.set_cons_succ]))
        (first | apply wpF_val rfl | apply wpF_valg (by rfl)); (intro w' hE hD; unfold Yld; go_simp; exact (rend_calls w' lo2 hi2 b2 bs p bad (HST.out.rr.ext hE) HST.out.p0 HST.out.p1).mono fun e w2 h => ⟨_, h.1, h.2, rfl⟩); (try simp only [Act.put, List.setIfInBounds_toArray, List.set_cons_zero, List.set_cons_succ])
        iterate 2 ((first | apply wpF_val rfl | apply wpF_valg (by rfl)); (intro w' hE hD; unfold Yld; go_simp; exact ⟨Ext.refl _, rfl⟩); (try simp only [Act.put, List.setIfInBounds_toArray, List.set_cons_zero, List.set_cons_succ]))
        refine wpF_nil fun w9 hE hA => ?_
        have HS9 := Aside0.mk (HST.out.more hE)
        clear hA hE HST
        simp only [List.drop_succ_cons, List.drop_zero]
        refine wpList_nil ?_
        go_wp2
        go_roundw
        case rel => exact ⟨x + 1, rfl, ⟨by omega, by have := HLT.out; omega⟩, p, bad, HS9⟩
        case measure => have := HLT.out; simp only [intOf]; omega
      · obtain ⟨r, H⟩ := both_int HB.out HS6.out
        have H1 := Aside0.mk H
        clear H HS6
        go_wp2_with fail
        refine (H1.out).mono ?_
        rintro e w7 ⟨rfl, H⟩
        have H2 := Aside0.mk H
        clear H H1
        go_wp2_with fail
        refine (H2.out).mono ?_
        rintro e w8 ⟨rfl, p, bad, hS⟩
        have HST := Aside0.mk hS
        clear hS H2
        go_wp2_with fail
        apply wp_region_facts 25 [RF.val (.bool true), RF.val (.bool false), RF.val (.bool false), RF.val (.pointer (some ⟨b1, 0, none⟩)), RF.val (.int .i64 (leftI (bs.drop p.toNat) bad)), RF.val (.pointer (some ⟨b2, 0, none⟩)), RF.val (.int .i64 (leftI (bs.drop p.toNat) bad)), RF.val (.bool false), RF.val (.bool false), RF.val (.bool false), RF.val (.pointer (some ⟨b1, 0, none⟩)), RF.val (.bool bad), RF.val (.pointer (some ⟨b2, 0, none⟩)), RF.val (.pointer (some ⟨b2, 0, none⟩)), RF.val (.pointer (some ⟨b2, 2, none⟩)), RF.val (.bool bad), RF.val (.bool false), RF.val (.bool false), RF.val (.bool false), RF.val (.pointer (some ⟨b1, 0, none⟩)), RF.val (.int .i64 (endI (bs.drop p.toNat) bad)), RF.val (.pointer (some ⟨b2, 0, none⟩)), RF.val (.int .i64 (endI (bs.drop p.toNat) bad)), RF.val (.bool false), RF.val (.bool false)] (by kernel_rfl) (by kernel_rfl)
        simp only [List.take_succ_cons, List.take_zero, List.zip_cons_cons, List.zip_nil_left]
        iterate 4 ((first | apply wpF_val rfl | apply wpF_valg (by rfl)); (intro w' hE hD; unfold Yld; go_simp; exact ⟨Ext.refl _, rfl⟩); (try simp only [Act.put, List.setIfInBounds_toArray, List.set_cons_zero, List.set_cons_succ]))
        (first | apply wpF_val rfl | apply wpF_valg (by rfl)); (intro w' hE hD; unfold Yld; go_simp; exact (left_calls w' lo hi b1 _ bad (HST.out.rd.ext hE)).mono fun e w2 h => ⟨_, h.1, h.2, rfl⟩); (try simp only [Act.put, List.setIfInBounds_toArray, List.set_cons_zero, List.set_cons_succ])
        iterate 1 ((first | apply wpF_val rfl | apply wpF_valg (by rfl)); (intro w' hE hD; unfold Yld; go_simp; exact ⟨Ext.refl _, rfl⟩); (try simp only [Act.put, List.setIfInBounds_toArray, List.set_cons_zero, List.set_cons_succ]))
        (first | apply wpF_val rfl | apply wpF_valg (by rfl)); (intro w' hE hD; unfold Yld; go_simp; exact (rleft_all w' lo2 hi2 b2 bs p bad (HST.out.rr.ext hE) HST.out.p0 HST.out.p1 _ (leftI_drop HST.out.p0 HST.out.p1)).mono fun e w2 h => ⟨_, h.1, h.2, rfl⟩); (try simp only [Act.put, List.setIfInBounds_toArray, List.set_cons_zero, List.set_cons_succ])
        iterate 4 ((first | apply wpF_val rfl | apply wpF_valg (by rfl)); (intro w' hE hD; unfold Yld; go_simp; exact ⟨Ext.refl _, rfl⟩); (try simp only [Act.put, List.setIfInBounds_toArray, List.set_cons_zero, List.set_cons_succ]))
        (first | apply wpF_val rfl | apply wpF_valg (by rfl)); (intro w' hE hD; unfold Yld; go_simp; exact (bad_calls w' lo hi b1 _ bad (HST.out.rd.ext hE)).mono fun e w2 h => ⟨_, h.1, h.2, rfl⟩); (try simp only [Act.put, List.setIfInBounds_toArray, List.set_cons_zero, List.set_cons_succ])
        iterate 3 ((first | apply wpF_val rfl | apply wpF_valg (by rfl)); (intro w' hE hD; unfold Yld; go_simp; exact ⟨Ext.refl _, rfl⟩); (try simp only [Act.put, List.setIfInBounds_toArray, List.set_cons_zero, List.set_cons_succ]))
        (first | apply wpF_val rfl | apply wpF_valg (by rfl)); (intro w' hE hD; have e0 := bad_cell (HST.out.rr.ext hE); unfold Yld; go_simp; exact ⟨Ext.refl _, rfl⟩); (try simp only [Act.put, List.setIfInBounds_toArray, List.set_cons_zero, List.set_cons_succ])
        iterate 4 ((first | apply wpF_val rfl | apply wpF_valg (by rfl)); (intro w' hE hD; unfold Yld; go_simp; exact ⟨Ext.refl _, rfl⟩); (try simp only [Act.put, List.setIfInBounds_toArray, List.set_cons_zero, List.set_cons_succ]))
        (first | apply wpF_val rfl | apply wpF_valg (by rfl)); (intro w' hE hD; unfold Yld; go_simp; exact (end_calls w' lo hi b1 _ bad (HST.out.rd.ext hE)).mono fun e w2 h => ⟨_, h.1, h.2, rfl⟩); (try simp only [Act.put, List.setIfInBounds_toArray, List.set_cons_zero, List.set_cons_succ])
        iterate 1 ((first | apply wpF_val rfl | apply wpF_valg (by rfl)); (intro w' hE hD; unfold Yld; go_simp; exact ⟨Ext.refl _, rfl⟩); (try simp only [Act.put, List.setIfInBounds_toArray, List.set_cons_zero, List.set_cons_succ]))
        (first | apply wpF_val rfl | apply wpF_valg (by rfl)); (intro w' hE hD; unfold Yld; go_simp; exact (rend_calls w' lo2 hi2 b2 bs p bad (HST.out.rr.ext hE) HST.out.p0 HST.out.p1).mono fun e w2 h => ⟨_, h.1, h.2, rfl⟩); (try simp only [Act.put, List.setIfInBounds_toArray, List.set_cons_zero, List.set_cons_succ])
        iterate 2 ((first | apply wpF_val rfl | apply wpF_valg (by rfl)); (intro w' hE hD; unfold Yld; go_simp; exact ⟨Ext.refl _, rfl⟩); (try simp only [Act.put, List.setIfInBounds_toArray, List.set_cons_zero, List.set_cons_succ]))
        refine wpF_nil fun w9 hE hA => ?_
        have HS9 := Aside0.mk (HST.out.more hE)
        clear hA hE HST
        simp only [List.drop_succ_cons, List.drop_zero]
        refine wpList_nil ?_
        go_wp2
        go_roundw
        case rel => exact ⟨x + 1, rfl, ⟨by omega, by have := HLT.out; omega⟩, p, bad, HS9⟩
        case measure => have := HLT.out; simp only [intOf]; omega
      · obtain ⟨s, hs, hsb, H⟩ := both_sum HB.out HS6.out
        have HQ := Aside0.mk (fun W => by have := equal_sum s s hs hs hsb hsb W; rwa [show decide (s = s) = true by simp] at this : ∀ W : World, (Op.equal 24 (sumV s) (sumV s)).run Try.prog W = .ok true W)
        have H1 := Aside0.mk H
        clear hs hsb
        clear H HS6
        go_wp2_with fail
        refine (H1.out).mono ?_
        rintro e w7 ⟨rfl, H⟩
        have H2 := Aside0.mk H
        clear H H1
        go_wp2_with fail
        refine (H2.out).mono ?_
        rintro e w8 ⟨rfl, p, bad, hS⟩
        have HST := Aside0.mk hS
        clear hS H2
        go_wp2_with (first | ((with_reducible refine gate_eql (ty := 24) rfl ?_); (refine eql_at rfl 24 24 _ _ rfl (nums .u8 s).toArray (nums .u8 s).toArray rfl rfl (by kernel_rfl) true (HQ.out _) ?_)) | fail)
        apply wp_region_facts 25 [RF.val (.bool true), RF.val (.bool false), RF.val (.bool false), RF.val (.pointer (some ⟨b1, 0, none⟩)), RF.val (.int .i64 (leftI (bs.drop p.toNat) bad)), RF.val (.pointer (some ⟨b2, 0, none⟩)), RF.val (.int .i64 (leftI (bs.drop p.toNat) bad)), RF.val (.bool false), RF.val (.bool false), RF.val (.bool false), RF.val (.pointer (some ⟨b1, 0, none⟩)), RF.val (.bool bad), RF.val (.pointer (some ⟨b2, 0, none⟩)), RF.val (.pointer (some ⟨b2, 0, none⟩)), RF.val (.pointer (some ⟨b2, 2, none⟩)), RF.val (.bool bad), RF.val (.bool false), RF.val (.bool false), RF.val (.bool false), RF.val (.pointer (some ⟨b1, 0, none⟩)), RF.val (.int .i64 (endI (bs.drop p.toNat) bad)), RF.val (.pointer (some ⟨b2, 0, none⟩)), RF.val (.int .i64 (endI (bs.drop p.toNat) bad)), RF.val (.bool false), RF.val (.bool false)] (by kernel_rfl) (by kernel_rfl)
        simp only [List.take_succ_cons, List.take_zero, List.zip_cons_cons, List.zip_nil_left]
        iterate 4 ((first | apply wpF_val rfl | apply wpF_valg (by rfl)); (intro w' hE hD; unfold Yld; go_simp; exact ⟨Ext.refl _, rfl⟩); (try simp only [Act.put, List.setIfInBounds_toArray, List.set_cons_zero, List.set_cons_succ]))
        (first | apply wpF_val rfl | apply wpF_valg (by rfl)); (intro w' hE hD; unfold Yld; go_simp; exact (left_calls w' lo hi b1 _ bad (HST.out.rd.ext hE)).mono fun e w2 h => ⟨_, h.1, h.2, rfl⟩); (try simp only [Act.put, List.setIfInBounds_toArray, List.set_cons_zero, List.set_cons_succ])
        iterate 1 ((first | apply wpF_val rfl | apply wpF_valg (by rfl)); (intro w' hE hD; unfold Yld; go_simp; exact ⟨Ext.refl _, rfl⟩); (try simp only [Act.put, List.setIfInBounds_toArray, List.set_cons_zero, List.set_cons_succ]))
        (first | apply wpF_val rfl | apply wpF_valg (by rfl)); (intro w' hE hD; unfold Yld; go_simp; exact (rleft_all w' lo2 hi2 b2 bs p bad (HST.out.rr.ext hE) HST.out.p0 HST.out.p1 _ (leftI_drop HST.out.p0 HST.out.p1)).mono fun e w2 h => ⟨_, h.1, h.2, rfl⟩); (try simp only [Act.put, List.setIfInBounds_toArray, List.set_cons_zero, List.set_cons_succ])
        iterate 4 ((first | apply wpF_val rfl | apply wpF_valg (by rfl)); (intro w' hE hD; unfold Yld; go_simp; exact ⟨Ext.refl _, rfl⟩); (try simp only [Act.put, List.setIfInBounds_toArray, List.set_cons_zero, List.set_cons_succ]))
        (first | apply wpF_val rfl | apply wpF_valg (by rfl)); (intro w' hE hD; unfold Yld; go_simp; exact (bad_calls w' lo hi b1 _ bad (HST.out.rd.ext hE)).mono fun e w2 h => ⟨_, h.1, h.2, rfl⟩); (try simp only [Act.put, List.setIfInBounds_toArray, List.set_cons_zero, List.set_cons_succ])
        iterate 3 ((first | apply wpF_val rfl | apply wpF_valg (by rfl)); (intro w' hE hD; unfold Yld; go_simp; exact ⟨Ext.refl _, rfl⟩); (try simp only [Act.put, List.setIfInBounds_toArray, List.set_cons_zero, List.set_cons_succ]))
        (first | apply wpF_val rfl | apply wpF_valg (by rfl)); (intro w' hE hD; have e0 := bad_cell (HST.out.rr.ext hE); unfold Yld; go_simp; exact ⟨Ext.refl _, rfl⟩); (try simp only [Act.put, List.setIfInBounds_toArray, List.set_cons_zero, List.set_cons_succ])
        iterate 4 ((first | apply wpF_val rfl | apply wpF_valg (by rfl)); (intro w' hE hD; unfold Yld; go_simp; exact ⟨Ext.refl _, rfl⟩); (try simp only [Act.put, List.setIfInBounds_toArray, List.set_cons_zero, List.set_cons_succ]))
        (first | apply wpF_val rfl | apply wpF_valg (by rfl)); (intro w' hE hD; unfold Yld; go_simp; exact (end_calls w' lo hi b1 _ bad (HST.out.rd.ext hE)).mono fun e w2 h => ⟨_, h.1, h.2, rfl⟩); (try simp only [Act.put, List.setIfInBounds_toArray, List.set_cons_zero, List.set_cons_succ])
        iterate 1 ((first | apply wpF_val rfl | apply wpF_valg (by rfl)); (intro w' hE hD; unfold Yld; go_simp; exact ⟨Ext.refl _, rfl⟩); (try simp only [Act.put, List.setIfInBounds_toArray, List.set_cons_zero, List.set_cons_succ]))
        (first | apply wpF_val rfl | apply wpF_valg (by rfl)); (intro w' hE hD; unfold Yld; go_simp; exact (rend_calls w' lo2 hi2 b2 bs p bad (HST.out.rr.ext hE) HST.out.p0 HST.out.p1).mono fun e w2 h => ⟨_, h.1, h.2, rfl⟩); (try simp only [Act.put, List.setIfInBounds_toArray, List.set_cons_zero, List.set_cons_succ])
        iterate 2 ((first | apply wpF_val rfl | apply wpF_valg (by rfl)); (intro w' hE hD; unfold Yld; go_simp; exact ⟨Ext.refl _, rfl⟩); (try simp only [Act.put, List.setIfInBounds_toArray, List.set_cons_zero, List.set_cons_succ]))
        refine wpF_nil fun w9 hE hA => ?_
        have HS9 := Aside0.mk (HST.out.more hE)
        clear hA hE HST
        simp only [List.drop_succ_cons, List.drop_zero]
        refine wpList_nil ?_
        go_wp2
        go_roundw
        case rel => exact ⟨x + 1, rfl, ⟨by omega, by have := HLT.out; omega⟩, p, bad, HS9⟩
        case measure => have := HLT.out; simp only [intOf]; omega
      · obtain ⟨a, s, ha, hs, hsb, H⟩ := both_ref HB.out HS6.out
        have HQ := Aside0.mk (fun W => by have := equal_ref a a s s ha ha hs hs hsb hsb W; rwa [show decide (a = a ∧ s = s) = true by simp] at this : ∀ W : World, (Op.equal 26 (refV a s) (refV a s)).run Try.prog W = .ok true W)
        have H1 := Aside0.mk H
        clear ha hs hsb
        clear H HS6
        go_wp2_with fail
        refine (H1.out).mono ?_
        rintro e w7 ⟨rfl, H⟩
        have H2 := Aside0.mk H
        clear H H1
        go_wp2_with fail
        refine (H2.out).mono ?_
        rintro e w8 ⟨rfl, p, bad, hS⟩
        have HST := Aside0.mk hS
        clear hS H2
        go_wp2_with (first | ((with_reducible refine gate_eql (ty := 26) rfl ?_); (refine eql_at rfl 26 26 _ _ rfl (refC a s).toArray (refC a s).toArray rfl rfl (by kernel_rfl) true (HQ.out _) ?_)) | fail)
        apply wp_region_facts 25 [RF.val (.bool true), RF.val (.bool false), RF.val (.bool false), RF.val (.pointer (some ⟨b1, 0, none⟩)), RF.val (.int .i64 (leftI (bs.drop p.toNat) bad)), RF.val (.pointer (some ⟨b2, 0, none⟩)), RF.val (.int .i64 (leftI (bs.drop p.toNat) bad)), RF.val (.bool false), RF.val (.bool false), RF.val (.bool false), RF.val (.pointer (some ⟨b1, 0, none⟩)), RF.val (.bool bad), RF.val (.pointer (some ⟨b2, 0, none⟩)), RF.val (.pointer (some ⟨b2, 0, none⟩)), RF.val (.pointer (some ⟨b2, 2, none⟩)), RF.val (.bool bad), RF.val (.bool false), RF.val (.bool false), RF.val (.bool false), RF.val (.pointer (some ⟨b1, 0, none⟩)), RF.val (.int .i64 (endI (bs.drop p.toNat) bad)), RF.val (.pointer (some ⟨b2, 0, none⟩)), RF.val (.int .i64 (endI (bs.drop p.toNat) bad)), RF.val (.bool false), RF.val (.bool false)] (by kernel_rfl) (by kernel_rfl)
        simp only [List.take_succ_cons, List.take_zero, List.zip_cons_cons, List.zip_nil_left]
        iterate 4 ((first | apply wpF_val rfl | apply wpF_valg (by rfl)); (intro w' hE hD; unfold Yld; go_simp; exact ⟨Ext.refl _, rfl⟩); (try simp only [Act.put, List.setIfInBounds_toArray, List.set_cons_zero, List.set_cons_succ]))
        (first | apply wpF_val rfl | apply wpF_valg (by rfl)); (intro w' hE hD; unfold Yld; go_simp; exact (left_calls w' lo hi b1 _ bad (HST.out.rd.ext hE)).mono fun e w2 h => ⟨_, h.1, h.2, rfl⟩); (try simp only [Act.put, List.setIfInBounds_toArray, List.set_cons_zero, List.set_cons_succ])
        iterate 1 ((first | apply wpF_val rfl | apply wpF_valg (by rfl)); (intro w' hE hD; unfold Yld; go_simp; exact ⟨Ext.refl _, rfl⟩); (try simp only [Act.put, List.setIfInBounds_toArray, List.set_cons_zero, List.set_cons_succ]))
        (first | apply wpF_val rfl | apply wpF_valg (by rfl)); (intro w' hE hD; unfold Yld; go_simp; exact (rleft_all w' lo2 hi2 b2 bs p bad (HST.out.rr.ext hE) HST.out.p0 HST.out.p1 _ (leftI_drop HST.out.p0 HST.out.p1)).mono fun e w2 h => ⟨_, h.1, h.2, rfl⟩); (try simp only [Act.put, List.setIfInBounds_toArray, List.set_cons_zero, List.set_cons_succ])
        iterate 4 ((first | apply wpF_val rfl | apply wpF_valg (by rfl)); (intro w' hE hD; unfold Yld; go_simp; exact ⟨Ext.refl _, rfl⟩); (try simp only [Act.put, List.setIfInBounds_toArray, List.set_cons_zero, List.set_cons_succ]))
        (first | apply wpF_val rfl | apply wpF_valg (by rfl)); (intro w' hE hD; unfold Yld; go_simp; exact (bad_calls w' lo hi b1 _ bad (HST.out.rd.ext hE)).mono fun e w2 h => ⟨_, h.1, h.2, rfl⟩); (try simp only [Act.put, List.setIfInBounds_toArray, List.set_cons_zero, List.set_cons_succ])
        iterate 3 ((first | apply wpF_val rfl | apply wpF_valg (by rfl)); (intro w' hE hD; unfold Yld; go_simp; exact ⟨Ext.refl _, rfl⟩); (try simp only [Act.put, List.setIfInBounds_toArray, List.set_cons_zero, List.set_cons_succ]))
        (first | apply wpF_val rfl | apply wpF_valg (by rfl)); (intro w' hE hD; have e0 := bad_cell (HST.out.rr.ext hE); unfold Yld; go_simp; exact ⟨Ext.refl _, rfl⟩); (try simp only [Act.put, List.setIfInBounds_toArray, List.set_cons_zero, List.set_cons_succ])
        iterate 4 ((first | apply wpF_val rfl | apply wpF_valg (by rfl)); (intro w' hE hD; unfold Yld; go_simp; exact ⟨Ext.refl _, rfl⟩); (try simp only [Act.put, List.setIfInBounds_toArray, List.set_cons_zero, List.set_cons_succ]))
        (first | apply wpF_val rfl | apply wpF_valg (by rfl)); (intro w' hE hD; unfold Yld; go_simp; exact (end_calls w' lo hi b1 _ bad (HST.out.rd.ext hE)).mono fun e w2 h => ⟨_, h.1, h.2, rfl⟩); (try simp only [Act.put, List.setIfInBounds_toArray, List.set_cons_zero, List.set_cons_succ])
        iterate 1 ((first | apply wpF_val rfl | apply wpF_valg (by rfl)); (intro w' hE hD; unfold Yld; go_simp; exact ⟨Ext.refl _, rfl⟩); (try simp only [Act.put, List.setIfInBounds_toArray, List.set_cons_zero, List.set_cons_succ]))
        (first | apply wpF_val rfl | apply wpF_valg (by rfl)); (intro w' hE hD; unfold Yld; go_simp; exact (rend_calls w' lo2 hi2 b2 bs p bad (HST.out.rr.ext hE) HST.out.p0 HST.out.p1).mono fun e w2 h => ⟨_, h.1, h.2, rfl⟩); (try simp only [Act.put, List.setIfInBounds_toArray, List.set_cons_zero, List.set_cons_succ])
        iterate 2 ((first | apply wpF_val rfl | apply wpF_valg (by rfl)); (intro w' hE hD; unfold Yld; go_simp; exact ⟨Ext.refl _, rfl⟩); (try simp only [Act.put, List.setIfInBounds_toArray, List.set_cons_zero, List.set_cons_succ]))
        refine wpF_nil fun w9 hE hA => ?_
        have HS9 := Aside0.mk (HST.out.more hE)
        clear hA hE HST
        simp only [List.drop_succ_cons, List.drop_zero]
        refine wpList_nil ?_
        go_wp2
        go_roundw
        case rel => exact ⟨x + 1, rfl, ⟨by omega, by have := HLT.out; omega⟩, p, bad, HS9⟩
        case measure => have := HLT.out; simp only [intOf]; omega
    · have HE := Aside0.mk HS.out.ext
      have HLT := Aside0.mk hlt
      by_cases hx : x < n1
      · have hx1 : (x < (n1 : Int)) = True := eq_true hx
        have hx2 : (x < 200) = False := eq_false (fun h => hlt ⟨hx, h⟩)
        clear hlt HS
        go_wp2_with fail
        refine (known_calls _).mono ?_
        rintro e w9 ⟨rfl, hE⟩
        have HE9 := Aside0.mk (HE.out.trans hE)
        clear hE HE
        go_wp2
        go_ret
        exact ⟨rfl, HE9.out⟩
      · have hx1 : (x < (n1 : Int)) = False := eq_false hx
        clear hlt HS
        go_wp2_with fail
        refine (known_calls _).mono ?_
        rintro e w9 ⟨rfl, hE⟩
        have HE9 := Aside0.mk (HE.out.trans hE)
        clear hE HE
        go_wp2
        go_ret
        exact ⟨rfl, HE9.out⟩
end Go.Proofs.Ytkjjkahdmlfflaa.By
