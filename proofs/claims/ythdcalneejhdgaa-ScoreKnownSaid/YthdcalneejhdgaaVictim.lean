/- The walk of ScoreVictim. -/
import Derived.Test.YthdcalneejhdgaaBends
import Derived.Test.YthdcalneejhdgaaPure
namespace Go.Proofs.Ythdcalneejhdgaa.Laws
open Go.RowKit Go.Proofs.Ythdcalneejhdgaa.Reg Go.Proofs.YthdcalneejhdgaaW.PrintWords Go.Proofs.YthdcalneejhdgaaW.PrintLast Go.Proofs.YthdcalneejhdgaaW.PrintMore Go.Proofs.Ythdcalneejhdgaa.PScoreVictim Go.Proofs.Ythdcalneejhdgaa.Vict
set_option linter.unusedVariables false

theorem victim_at (A : Option Addr) (c n : Nat) (l : List S36) (slots lean now i : Int) (b : Bool) (w : World) (hr : Kd.C k36 w A l.length l) (hn : n = l.length) (hc : l.length ≤ c) (hv : i = (vfold slots lean now l l.length).1) (hb : b = decide (0 ≤ (vfold slots lean now l l.length).2)) :
    Calls Try.prog 12 #[.slice A n c, .int .i64 slots, .int .i64 lean, .int .i64 now] w fun e w' => e = .returned (.tuple #[.int .i64 i, .bool b]) ∧ Ext w w' := by
  subst hn; subst hv; subst hb
  exact victim_calls A c l slots lean now w hr hc hr.2.1

set_option maxHeartbeats 2000000 in
theorem scoreVictim_calls (A : Option Addr) (c : Nat) (l : List S36) (s lean now : Int) (w : World) (hr : Kd.C k36 w A l.length l) (hc : l.length ≤ c) (n0 : -9223372036854775808 ≤ now) (n1 : now ≤ 9223372036854775807) (hx : ∀ x ∈ l, -9223372036854775808 ≤ x.f2 ∧ x.f2 ≤ 9223372036854775807) :
    Calls Try.prog 4 #[.slice A l.length c, .agg #[.int .i64 s, .int .i64 lean, .int .i64 now]] w fun e w' => e = .returned (.bool true) ∧ Ext w w' := by
  have hu36 := Try.underlying36
  by_cases hbig : 4096 < l.length
  · have d1 : decide (4096 < l.length) = true := decide_eq_true hbig
    have hm := hr.2.1
    go_enter Try.func4, Try.ntmps4
    go_wp2_with fail
    refine (known_calls _).mono ?_
    rintro e w3 ⟨rfl, hE3⟩
    have hE4 := ((Ext.refl w).alloc _).trans hE3
    clear hE3
    go_wp2
    go_ret
    exact ⟨rfl, hE4⟩
  · have d1 : decide (4096 < l.length) = false := decide_eq_false hbig
    have hlen : (l.length : Int) ≤ 4096 := by omega
    have hlen0 : (0 : Int) ≤ (l.length : Int) := by omega
    have HLent := Lib.hid (lent_eq (l.length + 10) l (by omega) (by omega))
    have HKept := Lib.hid (kept_eq (l.length + 10) l (by omega) (by omega))
    have HRef := Lib.hid (ref_eq (2 * l.length + 1) s lean now l (by omega) n0 n1 hx (by omega))
    have HR := Aside0.mk hr
    have HX := Aside0.mk hx
    clear hr hx
    obtain ⟨i, hi⟩ : ∃ i, i = (vfold s lean now l l.length).1 := ⟨_, rfl⟩
    obtain ⟨b, hb⟩ : ∃ b, b = decide (0 ≤ (vfold s lean now l l.length).2) := ⟨_, rfl⟩
    have HI := Aside0.mk hi
    have HBb := Aside0.mk hb
    clear hi hb
    go_enter Try.func4, Try.ntmps4
    go_wp2_with fail
    have hE1 := (Ext.refl w).alloc (.cells #[.int .i64 s, .int .i64 lean, .int .i64 now] 27)
    have hbox := Blk.new w #[.int .i64 s, .int .i64 lean, .int .i64 now] 27
    generalize w.alloc (.cells #[.int .i64 s, .int .i64 lean, .int .i64 now] 27) = w1 at *
    refine (rillkit_LentSegs.calls (l.length + 10) A c l (lent l) _ (Kd.C_below HR.out hE1) hc HLent.out).mono ?_
    rintro e w2 ⟨v0, rfl, hRl, hB2⟩
    obtain ⟨A2, c2, rfl, hl2, hC2⟩ := Kd.R_reads hRl
    clear hRl
    have hE2 : Ext w1 w2 := hB2
    clear hB2
    have hbox2 := hbox.ext hE2
    have hE3 := hE1.trans hE2
    clear hE1 hE2 hbox
    have HC2 := Aside0.mk hC2
    have HL2 := Aside0.mk hl2
    clear hC2 hl2
    go_wp2_with fail
    obtain ⟨i0, hi0, _, hsz, _⟩ := info_parts info36
    have hcut := cut_to (P := Try.prog) 25 36 .i64 Try.underlying25 hi0 A2 (lent l).length c2 (l.length : Int) hlen0 (by rw [lent_length]; omega) HL2.out
    rw [Int.toNat_natCast] at hcut
    have hCl : Kd.C k36 w2 A2 l.length l := by
      have := Kd.C_take (m := l.length) HC2.out (by rw [lent_length]; omega)
      rwa [show (lent l).take l.length = l by simp [lent]] at this
    have HCl := Aside0.mk hCl
    have HLc := Aside0.mk (show l.length ≤ c2 by have := HL2.out; rw [lent_length] at this; omega)
    clear hCl hi0 hsz
    have b0 := hbox2.cell 0 rfl
    have b1 := hbox2.cell 1 rfl
    have b2 := hbox2.cell 2 rfl
    apply wp_region_facts 16 [.val _, .val _, .val _, .val _, .val _, .val _, .val _, .val _, .val _, .val _, .val _, .val _, .val _, .val _, .val _, .val _] (by kernel_rfl) (by kernel_rfl)
    simp only [List.take_succ_cons, List.take_zero, List.zip_cons_cons, List.zip_nil_left]
    iterate 10 (apply wpF_val rfl; (intro w' hE hD; have e0 := Ext.cell (w := w2) hE b0; have e1 := Ext.cell (w := w2) hE b1; have e2 := Ext.cell (w := w2) hE b2; unfold Yld; go_simp; exact ⟨Ext.refl _, rfl⟩); (try simp only [Act.put, List.setIfInBounds_toArray, List.set_cons_zero, List.set_cons_succ]))
    apply wpF_val rfl
    · intro w' hE hD
      unfold Yld
      go_simp
      exact (victim_at A2 c2 l.length l s lean now i b w' (Kd.C_below HCl.out hE) rfl HLc.out HI.out HBb.out).mono fun e w2 h => ⟨_, h.1, h.2, rfl⟩
    (try simp only [Act.put, List.setIfInBounds_toArray, List.set_cons_zero, List.set_cons_succ])
    iterate 5 (apply wpF_val rfl; (intro w' hE hD; unfold Yld; go_simp; exact ⟨Ext.refl _, rfl⟩); (try simp only [Act.put, List.setIfInBounds_toArray, List.set_cons_zero, List.set_cons_succ]))
    refine wpF_nil fun w4 hE0 _ => ?_
    have hE : Ext w2 w4 := hE0
    clear hE0 b0 b1 b2 hcut
    have hE4 := hE3.trans hE
    have HC4 := Aside0.mk (Kd.C_below HC2.out hE)
    have hbox4 := hbox2.ext hE
    clear hE hE3 hbox2 HC2 HCl
    refine wpList_nil ?_
    have b0 := hbox4.cell 0 rfl
    have b1 := hbox4.cell 1 rfl
    have b2 := hbox4.cell 2 rfl
    go_wp2_with fail
    refine (rillref17_Victim.calls (2 * l.length + 1) A c l s lean now i b _ (Kd.C_below HR.out hE4) hc (by rw [HI.out, HBb.out]; exact HRef.out)).mono ?_
    rintro e w5 ⟨rfl, hd⟩
    have hE5 := hE4.trans hd.below
    have HC5 := Aside0.mk (Kd.C_below HC4.out hd.below)
    clear hE4 hd HC4 b0 b1 b2 hbox4
    go_wp2_with fail
    refine (rillkit_KeptSegs.calls (l.length + 10) A2 c2 (lent l) A c l true _ HC5.out HL2.out (Kd.C_below HR.out hE5) hc HKept.out).mono ?_
    rintro e w6 ⟨rfl, hd⟩
    have hE6 := hE5.trans hd.below
    clear hE5 hd HC5
    go_wp2_with fail
    refine (known_calls _).mono ?_
    rintro e w7 ⟨rfl, hE7⟩
    have hE8 := hE6.trans hE7
    clear hE6 hE7
    go_wp2
    go_ret
    exact ⟨rfl, hE8⟩
end Go.Proofs.Ythdcalneejhdgaa.Laws
