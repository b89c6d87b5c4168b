/- Layer 8: the counter; its numbers; what each statement asks (works). -/
import Derived.Test.YtkgjcmolmogpdaaOpsm
import Derived.Test.YtkgjcmolmogpdaaPCountMakesx1
import Derived.Laws.BitsLemmas
namespace Go.Proofs.Ytkgjcmolmogpdaa.By
open Go.RowKit Go.Proofs.Ytkgjcmolmogpdaa.Reg Go.Proofs.YtkgjcmolmogpdaaW.PrintWords Go.Proofs.YtkgjcmolmogpdaaW.PrintLast Go.Proofs.YtkgjcmolmogpdaaW.PrintMore
set_option linter.unusedVariables false
set_option linter.unusedSimpArgs false


def cl (x m : Int) : Int := if x < 0 then 0 else if m < x then m else x
theorem cl_r (x m : Int) (hm : 0 ≤ m) : 0 ≤ cl x m ∧ cl x m ≤ m := by unfold cl; split <;> (try split) <;> omega
theorem cl_in {x m : Int} (h0 : 0 ≤ x) (h1 : x ≤ m) : cl x m = x := by unfold cl; rw [if_neg (by omega), if_neg (by omega)]
def makeF (a b : Int) : Int := cl a 1099511627776 * 1048576 + cl b 1048575
def up0 (v : Int) : Int := if v < 0 then 0 else v
def levelF (v : Int) : Int := up0 v / 1048576
def triesF (v : Int) : Int := up0 v % 1048576
theorem mx0 (v : Int) : mx v 0 = up0 v := by unfold mx up0; split <;> (try rfl)
theorem mnmx (v m : Int) (hm : 0 ≤ m) : mn (mx v 0) m = cl v m := by unfold mn mx cl; split <;> split <;> (try split) <;> omega
theorem i64_id (n : Int) (h0 : 0 ≤ n) (h1 : n < 2 ^ 63) : IntKind.i64.wrap n = n := by rw [IntKind.wrap_i64]; omega
theorem or_join (a b : Int) : Go.bits .or .i64 (cl a 1099511627776 * 1048576) (cl b 1048575) = makeF a b := by
  have ha := cl_r a 1099511627776 (by omega)
  have hb := cl_r b 1048575 (by omega)
  unfold makeF
  have e : ((2 : Int) ^ 20) = 1048576 := by decide
  have e2 : ((2 : Int) ^ 63) = 9223372036854775808 := by decide
  exact bits_join .i64 63 (by decide) i64_id 20 (cl a 1099511627776 * 1048576) (cl b 1048575) (by omega) (by rw [e]; omega) (by rw [e2]; omega) hb.1 (by rw [e]; omega) (by rw [e2]; omega)
theorem and_mask (v : Int) (h : v ≤ 9223372036854775807) : Go.bits .and .i64 (up0 v) 1048575 = triesF v := by
  unfold triesF
  have e : ((2 : Int) ^ 20) = 1048576 := by decide
  have e2 : ((2 : Int) ^ 63) = 9223372036854775808 := by decide
  have h1 : 0 ≤ up0 v ∧ up0 v ≤ 9223372036854775807 := by unfold up0; split <;> omega
  have := bits_mask .i64 63 (by decide) i64_id 20 (by decide) (up0 v) h1.1 (by rw [e2]; omega)
  rw [e] at this
  exact this
theorem make_calls (w : World) (a b : Int) : Calls Try.prog 34 #[.int .i64 a, .int .i64 b] w fun e w' => e = .returned (.int .i64 (makeF a b)) ∧ Ext w w' := by
  refine PCountMakes.count_Make.calls a b _ w ?_
  unfold PCountMakes.count_Make.f
  rw [mnmx _ _ (by omega), mnmx _ _ (by omega), or_join]
theorem level_calls (w : World) (v : Int) : Calls Try.prog 36 #[.int .i64 v] w fun e w' => e = .returned (.int .i64 (levelF v)) ∧ Ext w w' := by
  refine PCountMakes.count_Level.calls v _ w ?_
  unfold PCountMakes.count_Level.f
  rw [mx0]
  rfl
theorem tries_calls (w : World) (v : Int) (h : v ≤ 9223372036854775807) : Calls Try.prog 38 #[.int .i64 v] w fun e w' => e = .returned (.int .i64 (triesF v)) ∧ Ext w w' := by
  refine PCountMakes.count_Tries.calls v _ w ?_
  unfold PCountMakes.count_Tries.f
  rw [mx0, and_mask v h]
theorem drawn_ext {w w' : World} (h : Drawn0 w w') : Ext w w' := by
  obtain ⟨n, rfl⟩ := h
  exact (Ext.refl w).drewN n
theorem cut_f (x m : Int) : PCountMakes.rillref08_cut.f x m = some (cl x m) := by
  unfold PCountMakes.rillref08_cut.f cl
  split
  · rfl
  · split <;> simp_all
theorem rmake_calls (w : World) (a b : Int) : Calls Try.prog 35 #[.int .i64 a, .int .i64 b] w fun e w' => e = .returned (.int .i64 (makeF a b)) ∧ Ext w w' := by
  refine (PCountMakes.rillref08_Make.calls a b (makeF a b) w ?_).mono fun e w' h => ⟨h.1, drawn_ext h.2⟩
  have ha := cl_r a 1099511627776 (by omega)
  have hb := cl_r b 1048575 (by omega)
  unfold PCountMakes.rillref08_Make.f makeF
  rw [cut_f, cut_f]
  simp only [Option.bind_some]
  rw [wrap64_in (x := cl a 1099511627776 * 1048576) (by omega) (by omega), wrap64_in (by omega) (by omega)]
theorem rlevel_calls (w : World) (v : Int) (h : v ≤ 9223372036854775807) : Calls Try.prog 37 #[.int .i64 v] w fun e w' => e = .returned (.int .i64 (levelF v)) ∧ Ext w w' := by
  refine (PCountMakes.rillref08_Level.calls v (levelF v) w ?_).mono fun e w' h => ⟨h.1, drawn_ext h.2⟩
  unfold PCountMakes.rillref08_Level.f levelF up0
  split
  · rfl
  · rw [Int.tdiv_eq_ediv_of_nonneg (by omega), wrap64_in (by omega) (by omega)]
theorem rtries_calls (w : World) (v : Int) : Calls Try.prog 39 #[.int .i64 v] w fun e w' => e = .returned (.int .i64 (triesF v)) ∧ Ext w w' := by
  refine (PCountMakes.rillref08_Tries.calls v (triesF v) w ?_).mono fun e w' h => ⟨h.1, drawn_ext h.2⟩
  unfold PCountMakes.rillref08_Tries.f triesF up0
  split
  · rfl
  · rw [Int.tmod_eq_emod_of_nonneg (by omega)]
/-! the counter -/
def cntC (bd : Nat) (v : Int) : List Value := [.pointer (some ⟨bd, 0, none⟩), .int .i64 v]
set_option maxRecDepth 100000 in
set_option maxHeartbeats 2000000 in
theorem cnew_calls (w : World) (bd : Nat) : Calls Try.prog 41 #[.pointer (some ⟨bd, 0, none⟩)] w fun e w' => ∃ bk, e = .returned (.pointer (some ⟨bk, 0, none⟩)) ∧ Blk w' bk (cntC bd 0).toArray 89 ∧ w.heap.size ≤ bk ∧ Ext w w' := by
  go_enter Try.func41, Try.ntmps41
  go_wp2
  go_ret
  exact ⟨w.heap.size, rfl, Blk.new _ _ _, Nat.le_refl _, (Ext.refl w).alloc _⟩
set_option maxRecDepth 100000 in
set_option maxHeartbeats 2000000 in
theorem value_calls {w : World} {bd bk : Nat} {v : Int} (h : Blk w bk (cntC bd v).toArray 89) : Calls Try.prog 42 #[.pointer (some ⟨bk, 0, none⟩)] w fun e w' => e = .returned (.int .i64 v) ∧ w = w' := by
  have c1 := h.cell 1 (v := .int .i64 v) rfl
  clear h
  go_enter Try.func42, Try.ntmps42
  go_wp2
  go_ret
  exact ⟨rfl, rfl⟩
set_option maxRecDepth 100000 in
set_option maxHeartbeats 2000000 in
theorem power_calls {w : World} {bd bl bc br n : Nat} {LV : List Value} {CV : List (Int × Value)} {ar : Bool} {lf : Int} {of : Bool} {wr : Int} {rd : List Int} (h : DV w bd bl bc br n LV CV ar lf of wr rd) : Calls Try.prog 69 #[.agg #[.pointer (some ⟨bd, 0, none⟩)]] w fun e w' => e = .returned (.int .i64 (spendE ar lf of)) ∧ DV w' bd bl bc br n LV CV ar (spendL ar lf of) (downF ar lf of) wr rd ∧ Chg w w' (fun k => k = bd) := by
  have hE := (Ext.refl w).alloc (.cells #[.pointer (some ⟨bd, 0, none⟩)] 87)
  have HS := Aside0.mk (spend_calls (h.ext hE))
  have HC := Aside0.mk (Chg.of_ext hE (fun k => k = bd))
  clear h hE
  go_enter Try.func69, Try.ntmps69
  go_wp2_with fail
  refine HS.out.mono ?_
  rintro e w2 ⟨rfl, hD, hC⟩
  have HD := Aside0.mk hD
  have HC2 := Aside0.mk (HC.out.trans hC)
  clear hD hC
  go_wp2
  go_ret
  exact ⟨rfl, HD.out, HC2.out⟩
/-- A counter's block is none of the disk's. -/
theorem cnt_apart {w : World} {bd' bk : Nat} {v : Int} {bd bl bc br n : Nat} {LV : List Value} {CV : List (Int × Value)} {ar : Bool} {lf : Int} {of : Bool} {wr : Int} {rd : List Int} (hb : Blk w bk (cntC bd' v).toArray 89) (h : DV w bd bl bc br n LV CV ar lf of wr rd) : ¬ Dst bd bl bc br bk := by
  rintro (rfl | rfl | rfl | rfl)
  · exact absurd (blk_type hb h.hd) (by decide)
  · exact absurd (blk_type hb h.hl) (by decide)
  · obtain ⟨es, c, hm⟩ := owns_obj h.hm
    rw [hb.is] at hm
    cases hm
  · exact absurd (blk_type hb h.hr) (by decide)
def lateF (q v : Int) : Bool := decide (q ≤ v) || decide (1152921504606846976 < q)
set_option maxRecDepth 100000 in
set_option maxHeartbeats 2000000 in
theorem raise_no {w : World} {bd bk : Nat} {v : Int} (h : Blk w bk (cntC bd v).toArray 89) (q : Int) (hl : lateF q v = true) : Calls Try.prog 43 #[.pointer (some ⟨bk, 0, none⟩), .int .i64 q] w fun e w' => e = .returned (.int .i64 8) ∧ w = w' := by
  have c1 := h.cell 1 (v := .int .i64 v) rfl
  clear h
  by_cases h1 : q ≤ v
  · go_enter Try.func43, Try.ntmps43
    go_wp2
    go_ret
    exact ⟨rfl, rfl⟩
  · have h2 : 1152921504606846976 < q := by unfold lateF at hl; rw [decide_eq_false h1] at hl; simpa using hl
    have hd : decide (q ≤ v) = false := decide_eq_false h1
    clear hl
    go_enter Try.func43, Try.ntmps43
    go_wp2
    go_ret
    exact ⟨rfl, rfl⟩
theorem late_f {q v : Int} (h : lateF q v = false) : ¬ q ≤ v ∧ ¬ 1152921504606846976 < q := by
  unfold lateF at h
  simp only [Bool.or_eq_false_iff, decide_eq_false_iff_not] at h
  exact h
set_option maxRecDepth 100000 in
set_option maxHeartbeats 2000000 in
theorem raise_spent {w : World} {bd bl bc br n : Nat} {LV : List Value} {CV : List (Int × Value)} {ar : Bool} {lf : Int} {of : Bool} {wr : Int} {rd : List Int} (h : DV w bd bl bc br n LV CV ar lf of wr rd) {bk : Nat} {v : Int} (hb : Blk w bk (cntC bd v).toArray 89) (q : Int) (hl : lateF q v = false) (hs : downF ar lf of = true) : Calls Try.prog 43 #[.pointer (some ⟨bk, 0, none⟩), .int .i64 q] w fun e w' => e = .returned (.int .i64 12) ∧ DV w' bd bl bc br n LV CV ar lf true wr rd ∧ Chg w w' (fun k => k = bd) := by
  have HS := Aside0.mk (power_calls h)
  rw [(spendE_12 hs).1, (spendE_12 hs).2, hs] at HS
  have c0 := hb.cell 0 (v := .pointer (some ⟨bd, 0, none⟩)) rfl
  have c1 := hb.cell 1 (v := .int .i64 v) rfl
  obtain ⟨h1, h2⟩ := late_f hl
  have hd1 : decide (q ≤ v) = false := decide_eq_false h1
  have hd2 : decide (1152921504606846976 < q) = false := decide_eq_false h2
  clear h hb hl hs
  go_enter Try.func43, Try.ntmps43
  go_wp2_with fail
  refine HS.out.mono ?_
  rintro e w2 ⟨rfl, hD, hC⟩
  have HD := Aside0.mk hD
  have HC2 := Aside0.mk hC
  clear hD hC HS c0 c1
  go_wp2
  go_ret
  exact ⟨rfl, HD.out, HC2.out⟩
set_option maxRecDepth 100000 in
set_option maxHeartbeats 2000000 in
theorem raise_ok {w : World} {bd bl bc br n : Nat} {LV : List Value} {CV : List (Int × Value)} {ar : Bool} {lf : Int} {of : Bool} {wr : Int} {rd : List Int} (h : DV w bd bl bc br n LV CV ar lf of wr rd) {bk : Nat} {v : Int} (hb : Blk w bk (cntC bd v).toArray 89) (q : Int) (hl : lateF q v = false) (hs : downF ar lf of = false) : Calls Try.prog 43 #[.pointer (some ⟨bk, 0, none⟩), .int .i64 q] w fun e w' => e = .returned (.int .i64 0) ∧ DV w' bd bl bc br n LV CV ar (wrap64 (lf - 1)) false wr rd ∧ Blk w' bk (cntC bd q).toArray 89 ∧ Chg w w' (fun k => k = bd ∨ k = bk) := by
  have HS := Aside0.mk (power_calls h)
  rw [(spendE_0 hs).1, (spendE_0 hs).2, hs] at HS
  have HNE := Aside0.mk (blk_ne hb h.hd (by decide))
  have HB := Aside0.mk hb
  have c0 := hb.cell 0 (v := .pointer (some ⟨bd, 0, none⟩)) rfl
  have c1 := hb.cell 1 (v := .int .i64 v) rfl
  obtain ⟨h1, h2⟩ := late_f hl
  have hd1 : decide (q ≤ v) = false := decide_eq_false h1
  have hd2 : decide (1152921504606846976 < q) = false := decide_eq_false h2
  clear h hb hl hs
  go_enter Try.func43, Try.ntmps43
  go_wp2_with fail
  refine HS.out.mono ?_
  rintro e w2 ⟨rfl, hD, hC⟩
  have HD := Aside0.mk hD
  have HC2 := Aside0.mk hC
  have HB2 := Aside0.mk (hC.blk HB.out HNE.out)
  clear hD hC HS c0 c1
  have c1 := HB2.out.cell 1 (v := .int .i64 v) rfl
  have f1 := HB2.out.free 1
  have HW := Aside0.mk (Wrote.setCell w2 bk 1 (.int .i64 q))
  have HB3 := Aside0.mk (show Blk (w2.setCell ⟨bk, 1, none⟩ (.int .i64 q)) bk (cntC bd q).toArray 89 by simpa [cntC] using HB2.out.set 1 (.int .i64 q))
  have HND := Aside0.mk (cnt_apart HB2.out HD.out)
  go_wp2
  go_ret
  exact ⟨rfl, HD.out.chg (Chg.of_wrote (S := fun k => k = bk) HW.out rfl) (fun j hj e => HND.out (e ▸ hj)), HB3.out, (HC2.out.mono (fun k hk => .inl hk)).trans (Chg.of_wrote HW.out (.inr rfl))⟩
set_option maxRecDepth 100000 in
set_option maxHeartbeats 2000000 in
theorem works_calls (w : World) : Calls Try.prog 40 #[] w fun e w' => e = .returned (.bool true) ∧ Ext w w' := by
  go_enter Try.func40, Try.ntmps40
  go_wp2_with fail
  refine (new_ok w 4 (by decide) (by decide)).mono ?_
  rintro e w1 ⟨bd, bl, bc, br, rfl, hD, hE, hk⟩
  have HK := Aside0.mk hk
  have HD1 := Aside0.mk hD
  have HE1 := Aside0.mk hE
  clear hk hD hE
  go_wp2_with fail
  refine (cnew_calls w1 bd).mono ?_
  rintro e w2 ⟨bk, rfl, hB, hbk, hE⟩
  have HD2 := Aside0.mk (HD1.out.ext hE)
  have HB2 := Aside0.mk hB
  have HBK := Aside0.mk (show w.heap.size ≤ bk from Nat.le_trans HE1.out.size hbk)
  have HE2 := Aside0.mk (HE1.out.trans hE)
  clear hB hE hbk HD1 HE1
  go_wp2_with fail
  refine (raise_ok HD2.out HB2.out 5 (by decide) (by decide)).mono ?_
  rintro e w3 ⟨rfl, hD, hB, hC⟩
  have HD3 := Aside0.mk hD
  have HB3 := Aside0.mk hB
  have HE3 := Aside0.mk (hC.to_ext HE2.out (fun k hk => by rcases hk with rfl | rfl; exact HK.out _ (.inl rfl); exact HBK.out))
  clear hD hB hC HD2 HB2 HE2
  go_wp2_with fail
  refine (raise_no HB3.out 5 (by decide)).mono ?_
  rintro e w4 ⟨rfl, rfl⟩
  go_wp2_with fail
  refine (arm_calls HD3.out 0).mono ?_
  rintro e w4 ⟨rfl, hD, hC⟩
  have HD4 := Aside0.mk hD
  have HE4 := Aside0.mk (hC.to_ext HE3.out (fun k hk => by rw [hk]; exact HK.out _ (.inl rfl)))
  have HB4 := Aside0.mk (hC.blk HB3.out (fun e => cnt_apart HB3.out HD3.out (.inl e)))
  clear hD hC HD3 HB3 HE3
  go_wp2_with fail
  refine (raise_spent HD4.out HB4.out 6 (by decide) (by decide)).mono ?_
  rintro e w5 ⟨rfl, hD, hC⟩
  have HD5 := Aside0.mk hD
  have HE5 := Aside0.mk (hC.to_ext HE4.out (fun k hk => by rw [hk]; exact HK.out _ (.inl rfl)))
  have HB5 := Aside0.mk (hC.blk HB4.out (fun e => cnt_apart HB4.out HD4.out (.inl e)))
  clear hD hC HD4 HB4 HE4
  go_wp2_with fail
  refine (crash_calls HD5.out none 0 0 [] rfl (Kd.F_nil kI w5 _) (Nat.le_refl _)).mono ?_
  rintro e w6 ⟨rfl, hD, hC⟩
  have HD6 := Aside0.mk hD
  have HE6 := Aside0.mk (hC.to_ext HE5.out (fun k hk => HK.out k hk))
  have HB6 := Aside0.mk (hC.blk HB5.out (cnt_apart HB5.out HD5.out))
  clear hD hC HD5 HB5 HE5
  go_wp2_with fail
  refine (value_calls HB6.out).mono ?_
  rintro e w7 ⟨rfl, rfl⟩
  go_wp2_with fail
  refine (raise_ok HD6.out HB6.out 6 (by decide) (by decide)).mono ?_
  rintro e w7 ⟨rfl, hD, hB, hC⟩
  have HE7 := Aside0.mk (hC.to_ext HE6.out (fun k hk => by rcases hk with rfl | rfl; exact HK.out _ (.inl rfl); exact HBK.out))
  clear hD hB hC HD6 HB6 HE6
  go_wp2_with fail
  refine (make_calls w7 2 3).mono ?_
  rintro e w8 ⟨rfl, hE⟩
  have HE8 := Aside0.mk (HE7.out.trans hE)
  clear hE HE7
  rw [show makeF 2 3 = 2097155 from rfl]
  go_wp2_with fail
  refine (level_calls w8 2097155).mono ?_
  rintro e w9 ⟨rfl, hE⟩
  have HE9 := Aside0.mk (HE8.out.trans hE)
  clear hE HE8
  rw [show levelF 2097155 = 2 from rfl]
  go_wp2_with fail
  refine (make_calls w9 2 3).mono ?_
  rintro e wa ⟨rfl, hE⟩
  have HEa := Aside0.mk (HE9.out.trans hE)
  clear hE HE9
  rw [show makeF 2 3 = 2097155 from rfl]
  go_wp2_with fail
  refine (tries_calls wa 2097155 (by decide)).mono ?_
  rintro e wb ⟨rfl, hE⟩
  have HEb := Aside0.mk (HEa.out.trans hE)
  clear hE HEa
  rw [show triesF 2097155 = 3 from rfl]
  go_wp2_with fail
  go_ret
  exact ⟨rfl, HEb.out⟩
end Go.Proofs.Ytkgjcmolmogpdaa.By
