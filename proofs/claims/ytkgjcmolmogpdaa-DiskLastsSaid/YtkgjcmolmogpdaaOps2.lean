/- The disk's methods: Write, Tamper, New. -/
import Derived.Test.YtkgjcmolmogpdaaOps
namespace Go.Proofs.Ytkgjcmolmogpdaa.By
open Go.RowKit Go.Proofs.Ytkgjcmolmogpdaa.Reg Go.Proofs.YtkgjcmolmogpdaaW.PrintWords Go.Proofs.YtkgjcmolmogpdaaW.PrintLast Go.Proofs.YtkgjcmolmogpdaaW.PrintMore
set_option linter.unusedVariables false
set_option linter.unusedSimpArgs false


theorem spendE_0 {ar : Bool} {lf : Int} {of : Bool} (h : downF ar lf of = false) : spendE ar lf of = 0 ∧ spendL ar lf of = wrap64 (lf - 1) := by
  unfold spendE spendL
  rw [h, if_neg (by decide), if_neg (by decide)]
  exact ⟨rfl, rfl⟩
theorem spendE_12 {ar : Bool} {lf : Int} {of : Bool} (h : downF ar lf of = true) : spendE ar lf of = 12 ∧ spendL ar lf of = lf := by
  unfold spendE spendL
  rw [h, if_pos rfl, if_pos rfl]
  exact ⟨rfl, rfl⟩
theorem F_old {w0 w : World} {ok : Nat → Prop} {A : Option Addr} {n : Nat} {xs : List Int} (h : Kd.C kb w0 A n xs) (he : Ext w0 w) (hok : ∀ k, k < w0.heap.size → ok k) : Kd.F kb w ok A n xs := fun W' hW =>
  (Kd.heap_int .u8).C (fun k hk => (hW k (hok k hk) (Nat.lt_of_lt_of_le hk he.size)).trans (he.block k hk)) h
theorem NB.F {w : World} {B : Nat} {A : Option Addr} {n c : Nat} {xs : List Int} (h : NB w B (.slice A n c) xs) {ok : Nat → Prop} (hok : ∀ k, (Value.slice A n c).ownBlock = some k → ok k) : Kd.F kb w ok A n xs :=
  Kd.N_F (Kd.R_N (Kd.R_mono (Kd.R_tight (d := kb) rfl h) (fun k hk => hok k hk.symm)))
def NbQ (B : Nat) (xs : List Int) (u : Value) (w : World) : Prop := NB w B u xs
theorem NbQ.ext {B : Nat} {xs : List Int} {u : Value} {w w' : World} (h : NbQ B xs u w) (he : Ext w w') : NbQ B xs u w' := Kd.R_below (show NB w B u xs from h) he
section
variable {P : Program} {w : World} {ops : Array Oper} {rest : List Oper} {o : Oper} {a : Act} {Q : Exit → Act → World → Prop}
theorem gate_mapup {ty : TypeId} {x y z : Operand} (_ho : o.op = .mapUpdate ty x y z) (h : wpList P ops Q (o :: rest) a w) : wpList P ops Q (o :: rest) a w := h
end

set_option maxRecDepth 100000 in
set_option maxHeartbeats 2000000 in
theorem write_down {w : World} {bd bl bc br n : Nat} {LV : List Value} {CV : List (Int × Value)} {ar : Bool} {lf : Int} {wr : Int} {rd : List Int} (h : DV w bd bl bc br n LV CV ar lf true wr rd) (i : Int) (A : Option Addr) (m c : Nat) :
    Calls Try.prog 18 #[.pointer (some ⟨bd, 0, none⟩), .int .i64 i, .slice A m c] w fun e w' => e = .returned (.int .i64 12) ∧ w = w' := by
  have HD := Aside0.mk h
  obtain ⟨c0, c1, c2, c3, c4, c5, c6⟩ := h.cells
  clear h
  go_enter Try.func18, Try.ntmps18
  go_wp2
  go_ret
  exact ⟨rfl, rfl⟩
set_option maxRecDepth 100000 in
set_option maxHeartbeats 2000000 in
theorem write_wrong {w : World} {bd bl bc br n : Nat} {LV : List Value} {CV : List (Int × Value)} {ar : Bool} {lf : Int} {wr : Int} {rd : List Int} (h : DV w bd bl bc br n LV CV ar lf false wr rd) (i : Int) (A : Option Addr) (m c : Nat) (q : Int) (hq : wrongF i n m = q) (hq0 : ¬ q = 0) :
    Calls Try.prog 18 #[.pointer (some ⟨bd, 0, none⟩), .int .i64 i, .slice A m c] w fun e w' => e = .returned (.int .i64 q) ∧ w = w' := by
  have HW := Aside0.mk (wrong_calls h i A m c)
  have HD := Aside0.mk h
  obtain ⟨c0, c1, c2, c3, c4, c5, c6⟩ := h.cells
  clear h
  rw [hq] at HW
  clear hq
  go_enter Try.func18, Try.ntmps18
  go_wp2_with fail
  refine HW.out.mono ?_
  rintro e w1 ⟨rfl, rfl⟩
  clear HW
  go_wp2
  go_ret
  exact ⟨rfl, rfl⟩
set_option maxRecDepth 100000 in
set_option maxHeartbeats 2000000 in
theorem write_spent {w : World} {bd bl bc br n : Nat} {LV : List Value} {CV : List (Int × Value)} {ar : Bool} {lf : Int} {wr : Int} {rd : List Int} (h : DV w bd bl bc br n LV CV ar lf false wr rd) (i : Int) (A : Option Addr) (m c : Nat) (hq : wrongF i n m = 0) (hs : downF ar lf false = true) :
    Calls Try.prog 18 #[.pointer (some ⟨bd, 0, none⟩), .int .i64 i, .slice A m c] w fun e w' => e = .returned (.int .i64 12) ∧ DV w' bd bl bc br n LV CV ar lf true wr rd ∧ Chg w w' (fun k => k = bd) := by
  have HS := Aside0.mk (spend_calls h)
  rw [(spendE_12 hs).1, (spendE_12 hs).2, hs] at HS
  have HW := Aside0.mk (wrong_calls h i A m c)
  have HD := Aside0.mk h
  obtain ⟨c0, c1, c2, c3, c4, c5, c6⟩ := h.cells
  clear h
  rw [hq] at HW
  clear hq hs
  go_enter Try.func18, Try.ntmps18
  go_wp2_with fail
  refine HW.out.mono ?_
  rintro e w1 ⟨rfl, rfl⟩
  clear HW
  go_wp2_with fail
  refine HS.out.mono ?_
  rintro e w2 ⟨rfl, hD, hC⟩
  have HD2 := Aside0.mk hD
  have HC2 := Aside0.mk hC
  clear hD hC HS c0 c1 c2 c3 c4 c5 c6
  go_wp2
  go_ret
  exact ⟨rfl, HD2.out, HC2.out⟩
set_option maxRecDepth 100000 in
set_option maxHeartbeats 8000000 in
theorem write_ok {w : World} {bd bl bc br n : Nat} {LV : List Value} {CV : List (Int × Value)} {ar : Bool} {lf : Int} {wr : Int} {rd : List Int} (h : DV w bd bl bc br n LV CV ar lf false wr rd) (i : Int) (A : Option Addr) (m c : Nat) (xs : List Int) (hn : m = xs.length) (hr : Kd.F kb w (fun k => ¬ Dst bd bl bc br k) A m xs) (hc : m ≤ c) (hq : wrongF i n m = 0) (hs : downF ar lf false = false) :
    Calls Try.prog 18 #[.pointer (some ⟨bd, 0, none⟩), .int .i64 i, .slice A m c] w fun e w' => ∃ U, e = .returned (.int .i64 0) ∧ NB w' w.heap.size U xs ∧ DV w' bd bl bc br n LV (putA CV i U) ar (wrap64 (lf - 1)) false (wrap64 (wr + 1)) rd ∧ Chg w w' (Dst bd bl bc br) := by
  have HS := Aside0.mk (spend_calls h)
  rw [(spendE_0 hs).1, (spendE_0 hs).2, hs] at HS
  have HW := Aside0.mk (wrong_calls h i A m c)
  have HD := Aside0.mk h
  obtain ⟨c0, c1, c2, c3, c4, c5, c6⟩ := h.cells
  clear h
  rw [hq] at HW
  have hin : inB i n = true := by
    cases hb : inB i n with
    | true => rfl
    | false => unfold wrongF at hq; rw [hb, if_pos rfl] at hq; cases hq
  have hm : m ≤ 1024 := by
    unfold wrongF at hq
    rw [hin, if_neg (by decide)] at hq
    rcases Nat.lt_or_ge 1024 m with h | h
    · rw [if_pos h] at hq; cases hq
    · exact h
  obtain ⟨h0, h1⟩ := inB_t hin
  have hnn := HD.out.nn
  have HI := Aside0.mk (show -9223372036854775808 ≤ i ∧ i ≤ 9223372036854775807 from ⟨by omega, by omega⟩)
  have HIN := Aside0.mk (show 0 ≤ i ∧ i < n from ⟨h0, h1⟩)
  have HN := Aside0.mk hn
  have hcl : (CV.length : Int) ≤ n - 0 := rise_length HD.out.ks (by omega) HD.out.kr
  have HCL := Aside0.mk (show CV.length < maxLen by unfold maxLen; omega)
  clear hq hs hn hin h0 h1 hcl
  go_enter Try.func18, Try.ntmps18
  go_wp2_with fail
  refine HW.out.mono ?_
  rintro e w1 ⟨rfl, rfl⟩
  clear HW
  go_wp2_with fail
  refine HS.out.mono ?_
  rintro e w2 ⟨rfl, hD, hC⟩
  have HD2 := Aside0.mk hD
  have HC2 := Aside0.mk hC
  have HR2 := Aside0.mk (Kd.F_now (Kd.F_step hr (fun k hk hlt => hC.block k hlt (fun e => hk (.inl e)))))
  clear hD hC HS hr c0 c1 c2 c3 c4 c5 c6
  obtain ⟨c0, c1, c2, c3, c4, c5, c6⟩ := HD2.out.cells
  go_wp2_with fail
  apply wp_region_facts 7 [RF.val _, RF.val _, RF.val _, RF.val _, RF.val _, RF.val _, RF.fact (fun u w => NbQ w2.heap.size xs u w)]
  case hm => kernel_rfl
  case hB => kernel_rfl
  simp only [List.take_succ_cons, List.take_zero, List.zip_cons_cons, List.zip_nil_left]
  (first | refine wpF_val rfl (fun w' hE hD => by unfold Yld; go_simp; exact ⟨Ext.refl _, rfl⟩) ?_ | refine wpF_valg (by rfl) (fun w' hE hD => by unfold Yld; go_simp; exact ⟨Ext.refl _, rfl⟩) ?_)
  (try simp only [Act.put, List.setIfInBounds_toArray, List.set_cons_zero, List.set_cons_succ])
  (first | refine wpF_val rfl (fun w' hE hD => by unfold Yld; go_simp; exact ⟨Ext.refl _, rfl⟩) ?_ | refine wpF_valg (by rfl) (fun w' hE hD => by unfold Yld; go_simp; exact ⟨Ext.refl _, rfl⟩) ?_)
  (try simp only [Act.put, List.setIfInBounds_toArray, List.set_cons_zero, List.set_cons_succ])
  (first | refine wpF_val rfl (fun w' hE hD => by unfold Yld; go_simp; exact ⟨Ext.refl _, rfl⟩) ?_ | refine wpF_valg (by rfl) (fun w' hE hD => by unfold Yld; go_simp; exact ⟨Ext.refl _, rfl⟩) ?_)
  (try simp only [Act.put, List.setIfInBounds_toArray, List.set_cons_zero, List.set_cons_succ])
  (first | refine wpF_val rfl (fun w' hE hD => by have hc1 := Ext.cell hE c1; unfold Yld; go_simp; exact ⟨Ext.refl _, rfl⟩) ?_ | refine wpF_valg (by rfl) (fun w' hE hD => by have hc1 := Ext.cell hE c1; unfold Yld; go_simp; exact ⟨Ext.refl _, rfl⟩) ?_)
  (try simp only [Act.put, List.setIfInBounds_toArray, List.set_cons_zero, List.set_cons_succ])
  (first | refine wpF_val rfl (fun w' hE hD => by unfold Yld; go_simp; exact ⟨Ext.refl _, rfl⟩) ?_ | refine wpF_valg (by rfl) (fun w' hE hD => by unfold Yld; go_simp; exact ⟨Ext.refl _, rfl⟩) ?_)
  (try simp only [Act.put, List.setIfInBounds_toArray, List.set_cons_zero, List.set_cons_succ])
  (first | refine wpF_val rfl (fun w' hE hD => by unfold Yld; go_simp; exact ⟨Ext.refl _, rfl⟩) ?_ | refine wpF_valg (by rfl) (fun w' hE hD => by unfold Yld; go_simp; exact ⟨Ext.refl _, rfl⟩) ?_)
  (try simp only [Act.put, List.setIfInBounds_toArray, List.set_cons_zero, List.set_cons_succ])
  refine wpF_fact rfl (fun u Wa Wb h he => h.ext he) (fun w' hE hD => ?_) (fun u31 => ?_)
  · unfold Yld; go_simp; exact (clone_calls w' A m c xs HN.out (Kd.C_below HR2.out hE) hc (by omega)).mono fun e w2 h => by obtain ⟨U, h1, h2, h3⟩ := h; exact ⟨U, h1, h3, h2.lower hE.size⟩
  (try simp only [Act.put, List.setIfInBounds_toArray, List.set_cons_zero, List.set_cons_succ])
  refine wpF_nil fun w3 hE3 hA => ?_
  simp only [List.drop_succ_cons, List.drop_zero]
  have HU := Aside0.mk (show NB w3 w2.heap.size u31 xs from hA.1)
  have HD3 := Aside0.mk (HD2.out.ext hE3)
  have HC3 := Aside0.mk ((HC2.out.mono (fun k hk => .inl hk) : Chg w w2 (Dst bd bl bc br)).ext hE3)
  have HK := Aside0.mk HC2.out.size
  clear hA hE3 c0 c1 c2 c3 c4 c5 c6 HD2 HC2 HR2
  refine wpList_mapUpdate_in _ rfl (.tmp 28) (.tmp 29) (.tmp 31) 70 rfl 3 29 (Maps.int_keyed Try.underlying3) Try.underlying70 RM bc CV.length (mapD CV) rfl HD3.out.hm HCL.out _ _ (.int .i64 i) rfl rfl (Maps.keyOf_int_mk Try.underlying3 (i64_wf HI.out)) (.held u31) [] rfl ?_
  intro w4 hM4 hT4
  rw [mapD_put] at hM4
  have HD4 := Aside0.mk (HD3.out.setM hT4 hM4 (rise_putA HD3.out.ks i u31) (putA_range HD3.out.kr HIN.out u31) (putA_all HD3.out.sc HU.out.isSl))
  have hcc := HD3.out.maps hT4
  have HU4 := Aside0.mk (HU.out.chg hcc (HU.out.apart HD3.out))
  have HC4 := Aside0.mk (HC3.out.trans hcc)
  clear hM4 hT4 hcc HD3 HC3 HU
  obtain ⟨c0, c1, c2, c3, c4, c5, c6⟩ := HD4.out.cells
  have f5 := HD4.out.hd.free 5
  go_wp2_with fail
  have HB := Aside0.mk (show Blk (w4.setCell ⟨bd, 5, none⟩ (.int .i64 (wrap64 (wr + 1)))) bd (dskC bl bc br n ar (wrap64 (lf - 1)) false (wrap64 (wr + 1))).toArray 72 by simpa [dskC] using HD4.out.hd.set 5 (.int .i64 (wrap64 (wr + 1))))
  have HW5 := Aside0.mk (Wrote.setCell w4 bd 5 (.int .i64 (wrap64 (wr + 1))))
  have hcc := Chg.of_wrote (S := Dst bd bl bc br) HW5.out (.inl rfl)
  go_ret
  exact ⟨u31, rfl, (HU4.out.chg hcc (HU4.out.apart HD4.out)).lower HK.out, HD4.out.set _ _ _ _ HW5.out HB.out, HC4.out.trans hcc⟩
end Go.Proofs.Ytkgjcmolmogpdaa.By
