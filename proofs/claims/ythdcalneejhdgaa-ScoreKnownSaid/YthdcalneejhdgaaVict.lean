/- The contract of score.Victim: it answers what the fold over the rows answers, at every slice of rows that is read. -/
import Derived.Test.YthdcalneejhdgaaPScoreVictimx
import Derived.Test.YthdcalneejhdgaaAid
import Derived.Outline
import Derived.Lib.Hide
import Derived.Handy
import Derived.Laws.EntriesVeiled
namespace Go.Proofs.Ythdcalneejhdgaa.Vict
open Go.RowKit Go.Proofs.Ythdcalneejhdgaa.Reg Go.Proofs.YthdcalneejhdgaaW.PrintWords Go.Proofs.YthdcalneejhdgaaW.PrintLast Go.Proofs.YthdcalneejhdgaaW.PrintMore Go.Proofs.Ythdcalneejhdgaa.PScoreVictim
set_option linter.unusedVariables false

theorem offer_yes (i x a m : Int) (b c : Nat) (w : World) (hne : b ≠ c) (h : m < x) (ha : w.cell? ⟨b, 0, none⟩ = some (.int .i64 a)) (hm : w.cell? ⟨c, 0, none⟩ = some (.int .i64 m))
    (fa : w.frozen? ⟨b, 0, none⟩ = false) (fm : w.frozen? ⟨c, 0, none⟩ = false) :
    Calls Try.prog 15 #[.int .i64 i, .int .i64 x, .pointer (some ⟨c, 0, none⟩), .pointer (some ⟨b, 0, none⟩)] w fun e w' => e = .returned (.tuple #[]) ∧ w' = (w.setCell ⟨b, 0, none⟩ (.int .i64 i)).setCell ⟨c, 0, none⟩ (.int .i64 x) := by
  have hd : decide (m < x) = true := decide_eq_true h
  go_enter Try.func15, Try.ntmps15
  go_wp2
  go_end0
  exact ⟨rfl, rfl⟩
theorem offer_no (i x m : Int) (b c : Nat) (w : World) (h : ¬ m < x) (hm : w.cell? ⟨c, 0, none⟩ = some (.int .i64 m)) :
    Calls Try.prog 15 #[.int .i64 i, .int .i64 x, .pointer (some ⟨c, 0, none⟩), .pointer (some ⟨b, 0, none⟩)] w fun e w' => e = .returned (.tuple #[]) ∧ w' = w := by
  have hd : decide (m < x) = false := decide_eq_false h
  go_enter Try.func15, Try.ntmps15
  go_wp2
  go_end0
  exact ⟨rfl, rfl⟩

def ofT (a0 a1 a2 : Int) : Int := if a0 < 1 ∨ a0 > 64 ∨ a1 < 0 ∨ a1 > a0 ∨ a2 < 0 ∨ a2 > 1099511627776 then 0 else (a0 - a1) * (a2 + 1) * 1000 / (a0 + a1)
def sinceT (a0 a1 : Int) : Int := if a1 ≤ a0 then 0 else if a1 - a0 < 1099511627776 then a1 - a0 else 1099511627776

theorem wrap64_in {x : Int} (h0 : -9223372036854775808 ≤ x) (h1 : x ≤ 9223372036854775807) : wrap64 x = x := by unfold wrap64; omega
theorem of_eq (a0 a1 a2 : Int) : score_Of.f a0 a1 a2 = some (ofT a0 a1 a2) := by
  unfold score_Of.f ofT
  by_cases h : a0 < 1 ∨ a0 > 64 ∨ a1 < 0 ∨ a1 > a0 ∨ a2 < 0 ∨ a2 > 1099511627776
  · rw [if_pos h]
    repeat' (split; rfl)
    omega
  · rw [if_neg h]
    simp only [not_or, Int.not_lt] at h
    obtain ⟨h1, h2, h3, h4, h5, h6⟩ := h
    rw [if_neg (by omega), if_neg (by omega), if_neg (by omega), if_neg (by omega), if_neg (by omega), if_neg (by omega)]
    rw [wrap64_in (x := a0 + a1) (by omega) (by omega), wrap64_in (x := a0 - a1) (by omega) (by omega), wrap64_in (x := a2 + 1) (by omega) (by omega), if_neg (by omega)]
    have p0 : 0 ≤ (a0 - a1) * (a2 + 1) := Int.mul_nonneg (by omega) (by omega)
    have p1 : (a0 - a1) * (a2 + 1) ≤ 64 * 1099511627777 := Int.mul_le_mul (by omega) (by omega) (by omega) (by omega)
    rw [wrap64_in (x := (a0 - a1) * (a2 + 1)) (by omega) (by omega), wrap64_in (x := (a0 - a1) * (a2 + 1) * 1000) (by omega) (by omega)]
    rw [Int.tdiv_eq_ediv_of_nonneg (by omega)]
    have q0 : 0 ≤ (a0 - a1) * (a2 + 1) * 1000 / (a0 + a1) := Int.ediv_nonneg (by omega) (by omega)
    have q1 : (a0 - a1) * (a2 + 1) * 1000 / (a0 + a1) ≤ (a0 - a1) * (a2 + 1) * 1000 := Int.ediv_le_self _ (by omega)
    rw [wrap64_in (by omega) (by omega)]
theorem since_eq (a0 a1 : Int) (h0 : -9223372036854775808 ≤ a0) (h1 : a0 ≤ 9223372036854775807) (h2 : -9223372036854775808 ≤ a1) (h3 : a1 ≤ 9223372036854775807) : score_since.f a0 a1 = some (sinceT a0 a1) := by
  unfold score_since.f sinceT
  simp only [IntKind.wrap_u64]
  by_cases h : a1 ≤ a0
  · rw [if_pos h, if_pos h]
  · rw [if_neg h, if_neg h]
    have e : ((a1 % 18446744073709551616 - a0 % 18446744073709551616) % 18446744073709551616 : Int) = a1 - a0 := by omega
    rw [e]
    by_cases g : a1 - a0 < 1099511627776
    · rw [if_pos g, if_pos g, wrap64_in (by omega) (by omega)]
    · rw [if_neg g, if_neg g]
def sinceG (a0 a1 : Int) : Int := (score_since.f a0 a1).getD 0
theorem since_some (a0 a1 : Int) : score_since.f a0 a1 = some (sinceG a0 a1) := by
  unfold sinceG score_since.f
  repeat' (split)
  all_goals rfl
def vstep (slots lean now : Int) (st : Int × Int) (k : Nat) (x : S36) : Int × Int :=
  if x.f0 = 2 ∧ 0 ≤ x.f1 ∧ x.f1 ≤ lean ∧ st.2 < ofT slots x.f1 (sinceG x.f2 now) then (k, ofT slots x.f1 (sinceG x.f2 now)) else st
def vfold (slots lean now : Int) (l : List S36) : Nat → Int × Int
  | 0 => (0, -1)
  | k + 1 => vstep slots lean now (vfold slots lean now l k) k (rd_T36 l k)

theorem vfold_hit (slots lean now : Int) (l : List S36) (k : Nat) (h1 : (rd_T36 l k).f0 = 2) (h2 : 0 ≤ (rd_T36 l k).f1) (h3 : (rd_T36 l k).f1 ≤ lean) (h4 : (vfold slots lean now l k).2 < ofT slots (rd_T36 l k).f1 (sinceG (rd_T36 l k).f2 now)) :
    vfold slots lean now l (k + 1) = ((k : Int), ofT slots (rd_T36 l k).f1 (sinceG (rd_T36 l k).f2 now)) := by
  show vstep slots lean now (vfold slots lean now l k) k (rd_T36 l k) = _
  unfold vstep
  rw [if_pos ⟨h1, h2, h3, h4⟩]
theorem vfold_miss (slots lean now : Int) (l : List S36) (k : Nat) (h : ¬ ((rd_T36 l k).f0 = 2 ∧ 0 ≤ (rd_T36 l k).f1 ∧ (rd_T36 l k).f1 ≤ lean ∧ (vfold slots lean now l k).2 < ofT slots (rd_T36 l k).f1 (sinceG (rd_T36 l k).f2 now))) :
    vfold slots lean now l (k + 1) = vfold slots lean now l k := by
  show vstep slots lean now (vfold slots lean now l k) k (rd_T36 l k) = _
  unfold vstep
  rw [if_neg h]

set_option maxHeartbeats 1000000 in
theorem victim_calls (A : Option Addr) (c : Nat) (l : List S36) (slots lean now : Int) (w : World) (hr : Kd.C k36 w A l.length l) (hc : l.length ≤ c) (hl : l.length ≤ 9223372036854775807) :
    Calls Try.prog 12 #[.slice A l.length c, .int .i64 slots, .int .i64 lean, .int .i64 now] w fun e w' => e = .returned (.tuple #[.int .i64 (vfold slots lean now l l.length).1, .bool (decide (0 ≤ (vfold slots lean now l l.length).2))]) ∧ Below w.heap.size w w' := by
  have hu36 := Try.underlying36
  have hmf : ∀ (fn : Fn) (first cap : Array Value) (w : World), (Instr.makeFunc fn first cap).run Try.prog w = .ok (.func fn first cap) w := fun _ _ _ _ => rfl
  have HR := Aside0.mk hr
  clear hr
  go_enter Try.func12, Try.ntmps12
  go_wp2
  go_loopw [18] (fun i wr => ∃ x : Int, i = .int .i64 x ∧ Aside0 (0 ≤ x ∧ x ≤ l.length) ∧ Blk wr w.heap.size #[.int .i64 (vfold slots lean now l x.toNat).1] 3 ∧ Blk wr (w.heap.size + 1) #[.int .i64 (vfold slots lean now l x.toNat).2] 3 ∧ Below w.heap.size w wr) (fun i _ => l.length - (intOf i).toNat)
  case atStart =>
    refine ⟨0, rfl, ⟨by omega, by omega⟩, (Blk.new _ _ _).alloc _, ?_, ((Below.refl _ _).alloc (Nat.le_refl _) _).alloc (by simp) _⟩
    have := Blk.new (w.alloc (.cells #[.int .i64 0] 3)) #[.int .i64 (-1)] 3
    rwa [size_alloc] at this
  case round =>
    obtain ⟨x, rfl, HX, HA, HM, HB⟩ := hrel
    obtain ⟨hx0, hx1⟩ := HX.out
    have hs2 := HM.lt
    by_cases hlt : x < l.length
    · obtain ⟨ad, e, c0, c1, c2⟩ := at_T36 (Kd.C_below HR.out HB) x hx0 (by omega)
      subst e
      obtain ⟨y, hy⟩ : ∃ y, y = rd_T36 l x := ⟨_, rfl⟩
      rw [← hy] at c0 c1 c2
      have HY := Aside0.mk hy
      clear hy
      by_cases h1 : y.f0 = 2 ∧ 0 ≤ y.f1 ∧ y.f1 ≤ lean
      · obtain ⟨p1, p2, p3⟩ := h1
        have HP := Aside0.mk (⟨p1, p2, p3⟩ : y.f0 = 2 ∧ 0 ≤ y.f1 ∧ y.f1 ≤ lean)
        have q1 : (y.f0 == 2) = true := by simp [p1]
        have q2 : decide (0 ≤ y.f1) = true := decide_eq_true p2
        have q3 : decide (y.f1 ≤ lean) = true := decide_eq_true p3
        clear p1 p2 p3
        go_wp2
        have b1 := (Blk.new wr #[.int .i64 y.f0, .int .i64 y.f1, .int .i64 y.f2] 36).cell 1 rfl
        have b2 := (Blk.new wr #[.int .i64 y.f0, .int .i64 y.f1, .int .i64 y.f2] 36).cell 2 rfl
        have HB1 := HB.alloc (by omega : w.heap.size ≤ wr.heap.size) (.cells #[.int .i64 y.f0, .int .i64 y.f1, .int .i64 y.f2] 36)
        have HA1 := HA.alloc (.cells #[.int .i64 y.f0, .int .i64 y.f1, .int .i64 y.f2] 36)
        have HM1 := HM.alloc (.cells #[.int .i64 y.f0, .int .i64 y.f1, .int .i64 y.f2] 36)
        generalize wr.alloc (.cells #[.int .i64 y.f0, .int .i64 y.f1, .int .i64 y.f2] 36) = W1 at *
        apply wp_region_facts 10 [.val _, .val _, .val _, .val _, .val _, .val _, .val _, .val _, .val _, .val _] (by kernel_rfl) (by kernel_rfl)
        simp only [List.take_succ_cons, List.take_zero, List.zip_cons_cons, List.zip_nil_left]
        iterate 8 (apply wpF_val rfl; (intro w' hE hD; have e1 := Ext.cell (w := W1) hE b1; have e2 := Ext.cell (w := W1) hE b2; unfold Yld; go_simp; exact ⟨Ext.refl _, rfl⟩); (try simp only [Act.put, List.setIfInBounds_toArray, List.set_cons_zero, List.set_cons_succ]))
        apply wpF_val rfl
        · intro w' hE hD
          unfold Yld
          go_simp
          exact (score_since.calls _ _ _ _ (since_some _ _)).mono fun e w2 h => ⟨_, h.1, h.2.below, rfl⟩
        simp only [Act.put, List.setIfInBounds_toArray, List.set_cons_zero, List.set_cons_succ]
        apply wpF_val rfl
        · intro w' hE hD
          unfold Yld
          go_simp
          exact (score_Of.calls _ _ _ _ _ (of_eq _ _ _)).mono fun e w2 h => ⟨_, h.1, h.2.below, rfl⟩
        simp only [Act.put, List.setIfInBounds_toArray, List.set_cons_zero, List.set_cons_succ]
        refine wpF_nil fun w' hE0 _ => ?_
        have hE : Ext W1 w' := hE0
        clear hE0
        replace HB1 := Below.extend HB1 (by have := HA1.lt; omega) hE
        replace HA1 := HA1.ext hE
        replace HM1 := HM1.ext hE
        clear hE
        by_cases h4 : (vfold slots lean now l x.toNat).2 < ofT slots y.f1 (sinceG y.f2 now)
        · have hv := vfold_hit slots lean now l x.toNat
          rw [Int.toNat_of_nonneg hx0, ← HY.out] at hv
          have HV := Lib.hid (hv HP.out.1 HP.out.2.1 HP.out.2.2 h4)
          clear hv
          go_wp2_with (go_at_call 15; refine (offer_yes _ _ _ _ _ _ _ (by omega) h4 (HA1.cell 0 rfl) (HM1.cell 0 rfl) (HA1.free 0) (HM1.free 0)).mono ?_; rintro e w2 ⟨rfl, rfl⟩)
          go_roundw
          case rel =>
            refine ⟨x + 1, by go_num, ⟨by omega, by omega⟩, ?_, ?_, ?_⟩
            · rw [show (x + 1).toNat = x.toNat + 1 by omega, HV.out]
              exact (HA1.set 0 _).far (by omega) 0 _
            · rw [show (x + 1).toNat = x.toNat + 1 by omega, HV.out]
              exact (HM1.far (by omega) 0 _).set 0 _
            · exact (HB1.setCell (by simp) _).setCell (by simp) _
          case measure => simp [intOf]; omega
        · have hv := vfold_miss slots lean now l x.toNat
          rw [Int.toNat_of_nonneg hx0, ← HY.out] at hv
          have HV := Lib.hid (hv (fun h => h4 h.2.2.2))
          clear hv
          go_wp2_with (go_at_call 15; refine (offer_no _ _ _ _ _ _ h4 (HM1.cell 0 rfl)).mono ?_; rintro e w2 ⟨rfl, rfl⟩)
          go_roundw
          case rel => exact ⟨x + 1, by go_num, ⟨by omega, by omega⟩, by rw [show (x + 1).toNat = x.toNat + 1 by omega, HV.out]; exact HA1, by rw [show (x + 1).toNat = x.toNat + 1 by omega, HV.out]; exact HM1, HB1⟩
          case measure => simp [intOf]; omega
      · have hv := vfold_miss slots lean now l x.toNat
        rw [Int.toNat_of_nonneg hx0, ← HY.out] at hv
        have HV := Lib.hid (hv (fun h => h1 ⟨h.1, h.2.1, h.2.2.1⟩))
        clear hv
        have HN := Aside0.mk h1
        clear h1
        go_wp2
        · exact absurd ⟨‹_›, ‹_›, ‹_›⟩ HN.out
        all_goals
          go_roundw
          case rel => exact ⟨x + 1, by go_num, ⟨by omega, by omega⟩, by rw [show (x + 1).toNat = x.toNat + 1 by omega, HV.out]; exact HA.alloc _, by rw [show (x + 1).toNat = x.toNat + 1 by omega, HV.out]; exact HM.alloc _, HB.alloc (by omega) _⟩
          case measure => simp [intOf]; omega
    · go_wp2
      have a1 := HA.cell 0 rfl
      have a2 := HM.cell 0 rfl
      go_quiet (fail)
      go_wp2
      go_ret2
      obtain rfl : x = l.length := by omega
      exact ⟨by simp, pw_below_drewN HB _⟩
end Go.Proofs.Ythdcalneejhdgaa.Vict
