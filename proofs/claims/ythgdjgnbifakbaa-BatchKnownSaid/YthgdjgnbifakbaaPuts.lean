/- PackPuts. -/
import Derived.Test.YthgdjgnbifakbaaKnown
import Derived.Test.YthgdjgnbifakbaaGate
namespace Go.Proofs.Ythgdjgnbifakbaa.By
open Go.RowKit Go.Proofs.Ythgdjgnbifakbaa.Reg Go.Proofs.YthgdjgnbifakbaaW.PrintWords Go.Proofs.YthgdjgnbifakbaaW.PrintLast Go.Proofs.YthgdjgnbifakbaaW.PrintMore
set_option linter.unusedVariables false

theorem NB.top {w : World} {B : Nat} {V : Value} {xs : List Int} (h : NB w B V xs) (k : Nat) (hk : V.ownBlock = some k) : k < w.heap.size := own_lt (Kd.own_of_R h) k hk

section
variable (w : World) (A : Option Addr) (c n : Nat) (xs s : List Int) (v a : Int) (hn : n = xs.length) (hr : Kd.C kb w A n xs) (hc : n ≤ c)
include hn hr hc
theorem sum_n (S : Value) (hS : S = sumV s) (hs : s.length = 32) (hl : n + 32 ≤ 140737488355328) :
    Calls Try.prog 19 #[.slice A n c, S] w fun e w' => ∃ V, e = .returned V ∧ NB w' w.heap.size V (xs ++ s) ∧ Ext w w' := by
  subst hn; subst hS
  exact sum_calls w A c xs s hs hr hc hl
theorem rsum_n (S : Value) (hS : S = sumV s) (hs : s.length = 32) (hl : n + 32 ≤ 140737488355328) :
    Calls Try.prog 23 #[.slice A n c, S] w fun e w' => ∃ V, e = .returned V ∧ NB w' w.heap.size V (xs ++ s) ∧ Ext w w' := by
  subst hn; subst hS
  exact rsum_calls w A c xs s hs hr hc hl
theorem rref_n (S : Value) (hS : S = refV a s) (hs : s.length = 32) (hl : n + 40 ≤ 140737488355327) :
    Calls Try.prog 24 #[.slice A n c, S] w fun e w' => ∃ V, e = .returned V ∧ NB w' w.heap.size V (xs ++ refB a s) ∧ Ext w w' := by
  subst hn; subst hS
  exact rref_calls w A c xs s a hs hr hc (by omega)
theorem rint_n (hl : n + 8 < 140737488355328) :
    Calls Try.prog 22 #[.slice A n c, .int .i64 v] w fun e w' => ∃ V, e = .returned V ∧ NB w' w.heap.size V (xs ++ be8 v) ∧ Ext w w' := by
  subst hn
  exact rint_calls w A c xs v hr hc hl
end
/-- Two rows of the same bytes, each as a value that was made. -/
theorem same_nb (w : World) (B B' : Nat) (X Y : Value) (xs : List Int) (h : NB w B X xs) (h' : NB w B' Y xs) (hl : xs.length ≤ 9223372036854775806) :
    Calls Try.prog 21 #[X, Y] w fun e w' => e = .returned (.bool true) ∧ Ext w w' := by
  obtain ⟨A, c, rfl, hc, hC⟩ := h.reads
  obtain ⟨A', c', rfl, hc', hC'⟩ := h'.reads
  exact same_at w A A' c c' xs xs true rfl rfl (by simp) hC hc hC' hc' hl

theorem lent_at (w : World) (A : Option Addr) (c n : Nat) (xs : List Int) (hn : n = xs.length) (hr : Kd.C kb w A n xs) (hc : n ≤ c) (hl : n ≤ 281474976710651) :
    Calls Try.prog 17 #[.slice A n c] w fun e w' => ∃ B d, e = .returned (.slice B (n + 5) d) ∧ NB w' w.heap.size (.slice B (n + 5) d) (lent xs) ∧ n + 5 ≤ d ∧ Kd.C kb w' B (n + 5) (lent xs) ∧ Kd.C kb w' B n xs ∧ Ext w w' := by
  subst hn
  refine (lent_calls w A c xs hr hc hl).mono ?_
  rintro e w' ⟨V, rfl, hN, hE⟩
  obtain ⟨B, d, rfl, hd, hC⟩ := hN.reads
  have ht := Kd.C_take (m := xs.length) hC (by rw [lent_length]; omega)
  rw [lent_take] at ht
  rw [lent_length] at hd hC hN ⊢
  exact ⟨B, d, rfl, hN, hd, hC, ht, hE⟩

theorem refBlk0 {w : World} {b : Nat} {a : Int} {s : List Int} {t : TypeId} (h : Blk w b (refC a s).toArray t) : w.rangeAt b 0 (refC a s) := h.range 0 (refC a s) [] (by simp)

theorem kept_n (w : World) (A B : Option Addr) (c d n : Nat) (xs : List Int) (hn : n = xs.length) (hr : Kd.C kb w A (n + 5) (lent xs)) (hc : n + 5 ≤ c) (hr' : Kd.C kb w B n xs) (hc' : n ≤ d) (hl : n ≤ 281474976710651) :
    Calls Try.prog 26 #[.slice A (n + 5) c, .slice B n d] w fun e w' => e = .returned (.bool true) ∧ Ext w w' := by
  subst hn
  have := kept_calls w A B c d xs (lent xs) rfl (by rw [lent_length]; exact hr) (by rw [lent_length]; exact hc) hr' hc' hl
  rwa [lent_length] at this
end Go.Proofs.Ythgdjgnbifakbaa.By
