/- The chapter's example: a number behind a byte, there and back. -/
import Derived.Test.YthgdjgnbifakbaaRead
namespace Go.Proofs.Ythgdjgnbifakbaa.By
open Go.RowKit Go.Proofs.Ythgdjgnbifakbaa.Reg Go.Proofs.YthgdjgnbifakbaaW.PrintWords Go.Proofs.YthgdjgnbifakbaaW.PrintLast Go.Proofs.YthgdjgnbifakbaaW.PrintMore
set_option linter.unusedVariables false

/-- What a reader's End says. -/
def endI (xs : List Int) (bad : Bool) : Int := if bad = true then 4 else if xs.length = 0 then 0 else 3
def leftI (xs : List Int) (bad : Bool) : Int := if bad = true then 0 else xs.length

set_option maxHeartbeats 1000000 in
theorem end_calls (w : World) (lo hi b : Nat) (xs : List Int) (bad : Bool) (h : Rd w lo hi b xs bad) :
    Calls Try.prog 33 #[.pointer (some ⟨b, 0, none⟩)] w fun e w' => e = .returned (.int .i64 (endI xs bad)) ∧ Ext w w' := by
  obtain ⟨A, c, h⟩ := h
  have c0 := h.blk.cell 0 (v := .slice A xs.length c) rfl
  have c1 := h.blk.cell 1 (v := .bool bad) rfl
  clear h
  unfold endI
  cases bad with
  | true =>
    rw [if_pos rfl]
    go_enter Try.func33, Try.ntmps33
    go_wp2
    go_ret
    exact ⟨rfl, Ext.refl w⟩
  | false =>
    rw [if_neg (by decide)]
    by_cases h0 : xs.length = 0
    · rw [if_pos h0]
      rw [h0] at c0
      clear h0
      go_enter Try.func33, Try.ntmps33
      go_wp2
      go_ret
      exact ⟨rfl, Ext.refl w⟩
    · rw [if_neg h0]
      have hz : ((0 : Int) < (xs.length : Int)) = True := eq_true (by omega)
      have hz' : (0 < xs.length) = True := eq_true (by omega)
      clear h0
      go_enter Try.func33, Try.ntmps33
      go_wp2
      go_ret
      exact ⟨rfl, Ext.refl w⟩
set_option maxHeartbeats 1000000 in
theorem left_calls (w : World) (lo hi b : Nat) (xs : List Int) (bad : Bool) (h : Rd w lo hi b xs bad) :
    Calls Try.prog 34 #[.pointer (some ⟨b, 0, none⟩)] w fun e w' => e = .returned (.int .i64 (leftI xs bad)) ∧ Ext w w' := by
  obtain ⟨A, c, h⟩ := h
  have c0 := h.blk.cell 0 (v := .slice A xs.length c) rfl
  have c1 := h.blk.cell 1 (v := .bool bad) rfl
  clear h
  unfold leftI
  cases bad with
  | true =>
    rw [if_pos rfl]
    go_enter Try.func34, Try.ntmps34
    go_wp2
    go_ret
    exact ⟨rfl, Ext.refl w⟩
  | false =>
    rw [if_neg (by decide)]
    go_enter Try.func34, Try.ntmps34
    go_wp2
    go_ret
    exact ⟨rfl, Ext.refl w⟩
set_option maxHeartbeats 1000000 in
theorem bad_calls (w : World) (lo hi b : Nat) (xs : List Int) (bad : Bool) (h : Rd w lo hi b xs bad) :
    Calls Try.prog 31 #[.pointer (some ⟨b, 0, none⟩)] w fun e w' => e = .returned (.bool bad) ∧ Ext w w' := by
  obtain ⟨A, c, h⟩ := h
  have c1 := h.blk.cell 1 (v := .bool bad) rfl
  clear h
  go_enter Try.func31, Try.ntmps31
  go_wp2
  go_ret
  exact ⟨rfl, Ext.refl w⟩

theorem int_at (w : World) (A : Option Addr) (c n : Nat) (xs : List Int) (v : Int) (hn : n = xs.length) (hr : Kd.C kb w A n xs) (hc : n ≤ c) (hl : n + 8 ≤ 140737488355328) :
    Calls Try.prog 18 #[.slice A n c, .int .i64 v] w fun e w' => ∃ V, e = .returned V ∧ NB w' w.heap.size V (xs ++ be8 v) ∧ Ext w w' := by
  subst hn
  exact int_calls w A c xs v hr hc hl
theorem ref_at (w : World) (A : Option Addr) (c n : Nat) (xs s : List Int) (a : Int) (S : Value) (hn : n = xs.length) (hS : S = refV a s) (hs : s.length = 32) (hr : Kd.C kb w A n xs) (hc : n ≤ c) (hl : n + 40 ≤ 140737488355328) :
    Calls Try.prog 20 #[.slice A n c, S] w fun e w' => ∃ V, e = .returned V ∧ NB w' w.heap.size V (xs ++ refB a s) ∧ Ext w w' := by
  subst hn; subst hS
  exact ref_calls w A c xs s a hs hr hc hl

set_option maxHeartbeats 2000000 in
theorem known_calls (w : World) : Calls Try.prog 16 #[] w fun e w' => e = .returned (.bool true) ∧ Ext w w' := by
  have hb := Blk.new w #[.int .u8 7] 5
  have hc : Kd.C kb (w.alloc (.cells #[.int .u8 7] 5)) (some ⟨w.heap.size, 0, none⟩) 1 [7] := C_bytes hb [7] (by decide) 0 [] (by simp [nums])
  have hE0 := (Ext.refl w).alloc (.cells #[.int .u8 7] 5)
  have HE0 := Aside0.mk hE0
  go_enter Try.func16, Try.ntmps16
  go_wp2_with fail
  refine (int_at _ (some ⟨w.heap.size, 0, none⟩) 1 1 [7] 258 rfl hc (Nat.le_refl _) (by decide)).mono ?_
  rintro e w1 ⟨V, rfl, hN, hE⟩
  obtain ⟨A1, c1, rfl, hl1, hC1⟩ := hN.reads
  clear hN hb hc
  rw [show [7] ++ be8 258 = [7, 0, 0, 0, 0, 0, 0, 1, 2] by decide] at hl1 hC1 ⊢
  replace hl1 : 9 ≤ c1 := hl1
  replace hC1 : Kd.C kb w1 A1 9 [7, 0, 0, 0, 0, 0, 0, 1, 2] := hC1
  obtain ⟨ad, rfl, h7⟩ := at_k hC1 7 (by decide) (by decide)
  obtain ⟨ad', e', h8⟩ := at_k hC1 8 (by decide) (by decide)
  injection e' with e'
  subst e'
  have hE1 := hE0.trans hE
  clear hE hE0 HE0
  have HC := Aside0.mk hC1
  clear hC1
  have h7' : w1.cell? { block := ad.block, off := ad.off + 7 } = some (.int .u8 1) := by have := h7; rw [show rd [7, 0, 0, 0, 0, 0, 0, 1, 2] 7 = 1 from rfl] at this; simpa [Addr.add] using this
  have h8' : w1.cell? { block := ad.block, off := ad.off + 8 } = some (.int .u8 2) := by have := h8; rw [show rd [7, 0, 0, 0, 0, 0, 0, 1, 2] 8 = 2 from rfl] at this; simpa [Addr.add] using this
  clear h7 h8
  have HX := Aside0.mk (show isB [7, 0, 0, 0, 0, 0, 0, 1, 2] by intro x hx; simp only [List.mem_cons, List.not_mem_nil, or_false] at hx; omega)
  go_wp2_with fail
  refine (read_calls w1 (some ad) c1 9 [7, 0, 0, 0, 0, 0, 0, 1, 2] rfl HC.out hl1 (by decide)).mono ?_
  rintro e w2 ⟨b, rfl, hR, hE2⟩
  have hE3 := Aside0.mk (hE1.trans hE2)
  have h7 := Ext.cell hE2 h7'
  have h8 := Ext.cell hE2 h8'
  have HL := Aside0.mk (Nat.le_trans hE1.size (Nat.le_refl _))
  have HR := Aside0.mk hR
  clear h7' h8' hE2 hE1 hR HC
  go_wp2_with fail
  refine (rdbyte_ok w2 _ _ b _ HR.out HX.out (by decide)).mono ?_
  rintro e w3 ⟨rfl, hR, hT⟩
  have HR1 := Aside0.mk hR
  have HT1 := Aside0.mk hT
  clear hR hT HR
  rw [show ([7, 0, 0, 0, 0, 0, 0, 1, 2] : List Int).drop 1 = [0, 0, 0, 0, 0, 0, 1, 2] from rfl] at HR1
  rw [show rd [7, 0, 0, 0, 0, 0, 0, 1, 2] 0 = 7 from rfl]
  go_wp2_with fail
  refine (rdint_ok w3 _ _ b _ HR1.out (HX.out.drop 1) (by decide)).mono ?_
  rintro e w4 ⟨rfl, hR, hT⟩
  have HR2 := Aside0.mk hR
  have HT2 := Aside0.mk (HT1.out.trans hT)
  clear hR hT HR1 HT1
  rw [show ([0, 0, 0, 0, 0, 0, 1, 2] : List Int).drop 8 = [] from rfl] at HR2
  rw [show numI (([0, 0, 0, 0, 0, 0, 1, 2] : List Int).take 8) = 258 from numI_be8 258 (by decide) (by decide)]
  go_wp2_with fail
  refine (end_calls w4 _ _ b _ _ HR2.out).mono ?_
  rintro e w5 ⟨rfl, hE⟩
  rw [show endI [] false = 0 from rfl]
  have HE := Aside0.mk hE
  clear hE HR2
  go_wp2
  go_ret
  exact ⟨rfl, (HT2.out.ext hE3.out HL.out).trans HE.out⟩
end Go.Proofs.Ythgdjgnbifakbaa.By
