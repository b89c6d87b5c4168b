/- The contracts of the statements' own functions on lists of bytes. -/
import Derived.Test.YtielnpmnnifjcaaBytes
namespace Go.Proofs.Ytielnpmnnifjcaa.By
open Go.RowKit Go.Proofs.Ytielnpmnnifjcaa.Reg Go.Proofs.YtielnpmnnifjcaaW.PrintWords Go.Proofs.YtielnpmnnifjcaaW.PrintLast Go.Proofs.YtielnpmnnifjcaaW.PrintMore
set_option linter.unusedVariables false

/-- Bytes that the call has made itself, from block B on. -/
abbrev NB (w : World) (B : Nat) (V : Value) (xs : List Int) : Prop := Kd.R kb 5 w B (fun _ => True) V xs
theorem NB.ext {w w' : World} {B : Nat} {V : Value} {xs : List Int} (h : NB w B V xs) (he : Ext w w') : NB w' B V xs := Kd.R_below h he
theorem NB.kept {w w' : World} {B : Nat} {V : Value} {xs : List Int} {S : Nat → Prop} (h : NB w B V xs) (hk : Kept w w' S) (hs : ∀ k, S k → k < B) : NB w' B V xs :=
  Kd.R_mono (Kd.R_step (Kd.R_bound h) (fun k hok hlt => hk.2 k hlt (fun h => by have := hs k h; have := hok.2.1; omega))) (fun _ _ => trivial)
theorem NB.reads {w : World} {B : Nat} {V : Value} {xs : List Int} (h : NB w B V xs) : ∃ A c, V = .slice A xs.length c ∧ xs.length ≤ c ∧ Kd.C kb w A xs.length xs := Kd.R_reads h

section
variable (w : World) (A B : Option Addr) (c d : Nat) (xs ys : List Int)
theorem lent_calls (hr : Kd.C kb w A xs.length xs) (hc : xs.length ≤ c) (hl : xs.length ≤ 281474976710651) :
    Calls Try.prog 19 #[.slice A xs.length c] w fun e w' => ∃ V, e = .returned V ∧ NB w' w.heap.size V (lent xs) ∧ Ext w w' :=
  PArrayPlays.rillkit_LentBytes.calls (xs.length + 6) A c xs (lent xs) w hr hc (lent_eq _ xs hl (by omega))
theorem same_calls (hr : Kd.C kb w A xs.length xs) (hc : xs.length ≤ c) (hr' : Kd.C kb w B ys.length ys) (hc' : ys.length ≤ d) (hl : xs.length ≤ 9223372036854775806) :
    Calls Try.prog 34 #[.slice A xs.length c, .slice B ys.length d] w fun e w' => e = .returned (.bool (decide (xs = ys))) ∧ Ext w w' :=
  (PArrayPlays.rillkit_SameBytes.calls (xs.length + 1) A c xs B d ys _ w hr hc hr' hc' (same_eq _ xs ys hl (by omega))).mono fun e w' h => ⟨h.1, h.2.below⟩
theorem same_at (b : Bool) {n m : Nat} (hn : n = xs.length) (hm : m = ys.length) (hb : b = decide (xs = ys)) (hr : Kd.C kb w A n xs) (hc : n ≤ c) (hr' : Kd.C kb w B m ys) (hc' : m ≤ d) (hl : xs.length ≤ 9223372036854775806) :
    Calls Try.prog 34 #[.slice A n c, .slice B m d] w fun e w' => e = .returned (.bool b) ∧ Ext w w' := by
  subst hn; subst hm; subst hb
  exact same_calls w A B c d xs ys hr hc hr' hc' hl
theorem copy_calls (hr : Kd.C kb w A xs.length xs) (hc : xs.length ≤ c) (hl : xs.length < 140737488355328) :
    Calls Try.prog 38 #[.slice A xs.length c] w fun e w' => ∃ V, e = .returned V ∧ NB w' w.heap.size V xs ∧ Ext w w' :=
  PArrayPlays.rillkit_CopyBytes.calls (xs.length + 1) A c xs xs w hr hc (copy_eq _ xs hl (by omega))
theorem spoil_calls (w0 : World) (V : Value) (he : Ext w0 w) (h : NB w w0.heap.size V xs) (hl : xs.length ≤ 9223372036854775806) :
    Calls Try.prog 22 #[V] w fun e w' => e = .returned (.tuple #[]) ∧ Ext w0 w' ∧ Kept w w' (fun k => V.ownBlock = some k) := by
  obtain ⟨r, hr⟩ := spoil_loop xs.length (xs.length + 1) xs 0 hl (by omega) (by omega) (by omega) (by omega)
  exact (PArrayPlays.rillkit_SpoilBytes.calls (xs.length + 1) (fun k => V.ownBlock = some k) V xs r w0 w he (Kd.R_of_own (Kd.own_of_R h) (fun k hk => hk)) hr).mono fun e w' h => ⟨h.1, h.2.2.1, h.2.2.2⟩
theorem pick_calls (k n r : Int) (h0 : -9223372036854775808 ≤ k) (h1 : k ≤ 9223372036854775807) (h3 : n ≤ 9223372036854775807) (hr : r = pickT k n) :
    Calls Try.prog 18 #[.int .i64 k, .int .i64 n] w fun e w' => e = .returned (.int .i64 r) ∧ Ext w w' :=
  (PArrayPlays.rillkit_Pick.calls k n r w (by rw [hr]; exact pick_eq k n h0 h1 h3)).mono fun e w' h => ⟨h.1, h.2.below⟩

set_option maxHeartbeats 1000000 in
theorem kept_calls (ts : List Int) (ht : ts = lent xs) (hr : Kd.C kb w A ts.length ts) (hc : ts.length ≤ c) (hr' : Kd.C kb w B xs.length xs) (hc' : xs.length ≤ d) (hl : xs.length ≤ 281474976710651) :
    Calls Try.prog 21 #[.slice A ts.length c, .slice B xs.length d] w fun e w' => e = .returned (.bool true) ∧ Ext w w' := by
  have htl : ts.length = xs.length + 5 := by rw [ht, lent_length]
  have hb : ((ts.length : Int) == (xs.length : Int) + 5) = true := by simp [htl]
  have hb' : ((ts.length : Int) != (xs.length : Int) + 5) = false := by simp [htl]
  have hx : (xs.length : Int) ≤ 281474976710651 := by omega
  have hx0 : (0 : Int) ≤ (xs.length : Int) := by omega
  obtain ⟨i0, hi0, _, hsz, _⟩ := info_parts PArrayPlays.info5
  have hcut := cut_to (P := Try.prog) 31 5 .i64 Try.underlying31 hi0 A ts.length c (xs.length : Int) hx0 (by omega) hc
  rw [Int.toNat_natCast] at hcut
  have hC : Kd.C kb w A xs.length xs := by
    have := Kd.C_take (m := xs.length) hr (by omega)
    rw [ht, lent_take] at this
    exact this
  have hmark := lent_mark xs
  rw [← ht] at hmark
  have HM := Aside0.mk hmark
  have HR := Aside0.mk hr
  have HR' := Aside0.mk hr'
  have HC := Aside0.mk hC
  have HT := Aside0.mk htl
  have hlt : (ts.length : Int) ≤ 281474976710656 := by omega
  clear hmark hr hr' hC hi0 hsz ht htl
  go_enter Try.func21, Try.ntmps21
  go_wp2_with fail
  refine (same_at w A B c d xs xs true rfl rfl (by simp) HC.out (by have := HT.out; omega) HR'.out hc' (by omega)).mono ?_
  rintro e w1 ⟨rfl, hE⟩
  have HE := Aside0.mk hE
  clear hE hcut hb hb'
  go_wp2
  go_loop [5] (fun v => ∃ x : Int, v = .int .i64 x ∧ Aside0 ((xs.length : Int) ≤ x ∧ x ≤ ts.length)) (fun v => ts.length - (intOf v).toNat)
  case atStart => exact ⟨_, rfl, ⟨by omega, by have := HT.out; omega⟩⟩
  case round =>
    obtain ⟨x, rfl, HX⟩ := hrel
    obtain ⟨g0, g1⟩ := HX.out
    have hx0 : 0 ≤ x := by omega
    by_cases hlt : x < ts.length
    · obtain ⟨ad, e, hcell⟩ := at_k (Kd.C_below HR.out HE.out) x hx0 hlt
      rw [HM.out x g0 (by have := HT.out; omega)] at hcell
      subst e
      go_wp2
      go_round
      case rel => exact ⟨x + 1, by go_num, ⟨by omega, by omega⟩⟩
      case measure => simp [intOf]; omega
    · go_wp2
      go_ret
      exact ⟨rfl, HE.out⟩
end
end Go.Proofs.Ytielnpmnnifjcaa.By
