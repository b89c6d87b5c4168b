/- The disk's methods: Sync. -/
import Derived.Test.YtkgjcmolmogpdaaOps3
namespace Go.Proofs.Ytkgjcmolmogpdaa.By
open Go.RowKit Go.Proofs.Ytkgjcmolmogpdaa.Reg Go.Proofs.YtkgjcmolmogpdaaW.PrintWords Go.Proofs.YtkgjcmolmogpdaaW.PrintLast Go.Proofs.YtkgjcmolmogpdaaW.PrintMore
set_option linter.unusedVariables false
set_option linter.unusedSimpArgs false


set_option maxRecDepth 100000 in
set_option maxHeartbeats 2000000 in
theorem sync_spent {w : World} {bd bl bc br n : Nat} {LV : List Value} {CV : List (Int × Value)} {ar : Bool} {lf : Int} {of : Bool} {wr : Int} {rd : List Int} (h : DV w bd bl bc br n LV CV ar lf of wr rd) (hs : downF ar lf of = true) :
    Calls Try.prog 19 #[.pointer (some ⟨bd, 0, none⟩)] w fun e w' => e = .returned (.int .i64 12) ∧ DV w' bd bl bc br n LV CV ar lf true wr rd ∧ Chg w w' (fun k => k = bd) := by
  have HS := Aside0.mk (spend_calls h)
  rw [(spendE_12 hs).1, (spendE_12 hs).2, hs] at HS
  clear hs h
  go_enter Try.func19, Try.ntmps19
  go_wp2_with fail
  refine HS.out.mono ?_
  rintro e w2 ⟨rfl, hD, hC⟩
  have HD2 := Aside0.mk hD
  have HC2 := Aside0.mk hC
  clear hD hC HS
  go_wp2
  go_ret
  exact ⟨rfl, HD2.out, HC2.out⟩
section
variable {ops : Array Oper} {rest : List Oper} {o : Oper} {a : Act} {Q : Exit → Act → World → Prop} {w : World} {bc m : Nat} {D : DataW Value}
theorem gate_clear {x : Operand} (_ho : o.op = .call { callee := .builtin .clear, args := #[x], argTypes := #[70] }) (h : wpList Try.prog ops Q (o :: rest) a w) : wpList Try.prog ops Q (o :: rest) a w := h
open Go.ChangeMaps Go.MapKept in
theorem clear_at (hg : o.guard = none) (x : Operand) (hop : o.op = .call { callee := .builtin .clear, args := #[x], argTypes := #[70] }) (hm : a.eval x = .map (some bc)) (hown : w.ownsMap Try.prog 3 RM bc m D)
    (h : ∀ w', w'.ownsMap Try.prog 3 RM bc 0 (mapD []) → w.mapTurned w' bc → wpList Try.prog ops Q rest (a.put o.dst (.tuple #[])) w') : wpList Try.prog ops Q (o :: rest) a w := by
  obtain ⟨es, clock, hb⟩ := owns_obj hown
  refine wpList_plain hg fun K' hK' => ?_
  have hrun : ∀ ty, (Builtin.clear_ #[70] ty #[.map (some bc)]).run Try.prog w = .ok (.tuple #[]) (setBlock w bc (.map #[] clock)) := fun ty => by
    simp [Builtin.clear_, run_underlying Try.underlying70, MapKept.run_getObj_map hb, MapKept.run_setObj_map _ hb, Result.andThen, setBlock]
  unfold Oper.wp
  simp [execOp, hop, resolve, invoke, builtin, hm, hrun, Result.andThen]
  refine hK' _ _ (h _ ⟨#[], clock, heap_setBlock_same hb _, ⟨by simp, stamped_empty _, by simp⟩, by simp, rfl⟩ ⟨es, clock, #[], clock, hb, rfl⟩)
end
/-- What lasts behind a Sync. -/
def syncV (LV : List Value) (CV : List (Int × Value)) : List Value := (List.range LV.length).map fun (i : Nat) => (getA CV (i : Int)).getD (LV.getD i (.slice none 0 0))
/-- .. and on the way: of the keys that are no more left. -/
def syncX (LV : List Value) (CV : List (Int × Value)) (left : Lit → Bool) : List Value := (List.range LV.length).map fun (i : Nat) => if left (.int .i64 (i : Int)) = true then LV.getD i (.slice none 0 0) else (getA CV (i : Int)).getD (LV.getD i (.slice none 0 0))
theorem syncX_start (LV : List Value) (CV : List (Int × Value)) : syncX LV CV (Maps.has (mapD CV)) = LV := by
  apply List.ext_getElem
  · simp [syncX]
  · intro i h1 h2
    simp only [syncX, List.getElem_map, List.getElem_range, mapD_has]
    cases hg : getA CV (i : Int) with
    | none => simp [List.getD_eq_getElem?_getD, h2]
    | some V => simp [List.getD_eq_getElem?_getD, h2]
theorem syncX_end (LV : List Value) (CV : List (Int × Value)) (left : Lit → Bool) (h : ∀ kl, left kl = false) : syncX LV CV left = syncV LV CV := by
  unfold syncX syncV
  refine List.map_congr_left fun i _ => ?_
  rw [h, if_neg (by decide)]
theorem syncX_step (LV : List Value) (CV : List (Int × Value)) (left : Lit → Bool) (k : Nat) (V : Value) (hg : getA CV (k : Int) = some V) : syncX LV CV (fun z => left z && !z.sameKey (.int .i64 k)) = (syncX LV CV left).set k V := by
  apply List.ext_getElem
  · simp [syncX]
  · intro i h1 h2
    simp only [syncX, List.length_map, List.length_range] at h1
    rw [List.getElem_set]
    simp only [syncX, List.getElem_map, List.getElem_range, same_int]
    by_cases hk : k = i
    · subst hk
      rw [if_pos rfl]
      simp [hg]
    · rw [if_neg hk]
      have : ¬ ((i : Int) = (k : Int)) := by omega
      simp [this]
theorem syncX_len (LV : List Value) (CV : List (Int × Value)) (left : Lit → Bool) : (syncX LV CV left).length = LV.length := by simp [syncX]
theorem at_all {CV : List (Int × Value)} {x : Int} {c : Value} (h : ∀ zd : DataW Value, (mapD CV).atKey (.int .i64 x) zd = .held c) : getA CV x = some c := by
  have h1 := h (.held (.bool true))
  have h2 := h (.held (.bool false))
  rw [mapD_at] at h1 h2
  cases hg : getA CV x with
  | some v =>
    rw [hg] at h1
    injection h1 with h1
    exact congrArg some h1
  | none =>
    rw [hg] at h1 h2
    injection h1 with h1
    injection h2 with h2
    have e : Value.bool true = Value.bool false := h1.trans h2.symm
    cases e
set_option maxRecDepth 100000 in
set_option maxHeartbeats 8000000 in
theorem sync_ok {w : World} {bd bl bc br n : Nat} {LV : List Value} {CV : List (Int × Value)} {ar : Bool} {lf : Int} {of : Bool} {wt : Int} {rd : List Int} (h : DV w bd bl bc br n LV CV ar lf of wt rd) (hs : downF ar lf of = false) :
    Calls Try.prog 19 #[.pointer (some ⟨bd, 0, none⟩)] w fun e w' => e = .returned (.int .i64 0) ∧ DV w' bd bl bc br n (syncV LV CV) [] ar (wrap64 (lf - 1)) false wt rd ∧ Chg w w' (Dst bd bl bc br) := by
  have HS := Aside0.mk (spend_calls h)
  rw [(spendE_0 hs).1, (spendE_0 hs).2, hs] at HS
  have hnn := h.nn
  have HD0 := Aside0.mk h
  clear hs h
  go_enter Try.func19, Try.ntmps19
  go_wp2_with fail
  refine HS.out.mono ?_
  rintro e w2 ⟨rfl, hD, hC⟩
  have HD2 := Aside0.mk hD
  have HC2 := Aside0.mk ((hC.mono (fun k hk => .inl hk)) : Chg w w2 (Dst bd bl bc br))
  clear hD hC HS
  obtain ⟨c0, c1, c2, c3, c4, c5, c6⟩ := HD2.out.cells
  go_wp2_with (first | (at_range; refine wpList_range_own _ rfl _ 70 rfl 3 29 (Maps.int_keyed Try.underlying3) Try.underlying70 RM bc CV.length (mapD CV) rfl HD2.out.hm ?_; intro w3 hrg0 hg0 hs0) | fail)
  go_frame
  have HG0 := Aside0.mk hrg0
  have hcc := Chg.of_grown (S := fun _ => False) hg0 (fun k hk => by cases hk)
  have HD3 := Aside0.mk (HD2.out.chg hcc (fun _ _ h => h))
  have HC3 := Aside0.mk (HC2.out.trans (hcc.mono (fun _ h => h.elim)))
  have HRL := Aside0.mk (HD2.out.lt)
  have HWW := Aside0.mk (show w.heap.size ≤ w2.heap.size from HC2.out.size)
  clear hrg0 hg0 hs0 hcc c0 c1 c2 c3 c4 c5 c6 HD2 HC2
  generalize w2.heap.size = r at *
  go_loopw [16] (fun _ wr => ∃ (left : Lit → Bool) (cnt : Nat), wr.ranges Try.prog 3 RM bc r CV.length (mapD CV) left cnt ∧ Aside0 (DV wr bd bl bc br n (syncX LV CV left) CV ar (wrap64 (lf - 1)) false wt rd) ∧ Aside0 (Chg w wr (Dst bd bl bc br))) (fun _ wr => wr.rangeLeft bc r)
  case atStart => exact ⟨_, _, HG0.out, ⟨by rw [syncX_start]; exact HD3.out⟩, HC3⟩
  case round =>
    clear HG0 HD3 HC3
    obtain ⟨left, cnt, hrg, HDx, HCx⟩ := hrel
    obtain ⟨wx, hwx⟩ : ∃ wx : World, wx = wr := ⟨_, rfl⟩
    subst hwx
    go_wp2_with (first | (at_next; refine wpList_next_ranges _ rfl _ rfl 3 (Maps.int_keyed Try.underlying3) RM (Value.int .i64) id (fun key kl hk => by obtain ⟨x, hx, _⟩ := Maps.keyOf_int_inv Try.underlying3 hk; exact ⟨x, hx⟩) (fun v _ _ => ⟨v, rfl⟩) bc r CV.length (mapD CV) _ _ rfl hrg ?_ ?_) | fail)
    · intro hc0 hl0
      have HD4 := Aside0.mk (show DV wx bd bl bc br n (syncV LV CV) CV ar (wrap64 (lf - 1)) false wt rd by rw [← syncX_end LV CV left hl0]; exact HDx.out)
      obtain ⟨c0, c1, c2, c3, c4, c5, c6⟩ := HD4.out.cells
      clear hc0 hl0 HDx hrg
      go_wp2_with (first | ((with_reducible refine gate_clear rfl ?_); refine clear_at rfl _ rfl rfl HD4.out.hm ?_) | fail)
      intro w5 hM hT
      have HD5 := Aside0.mk (HD4.out.setM hT hM List.Pairwise.nil (fun p hp => by cases hp) (fun p hp => by cases hp))
      have HC5 := Aside0.mk (HCx.out.trans (HD4.out.maps hT))
      clear hM hT c0 c1 c2 c3 c4 c5 c6
      go_wp2
      go_ret
      exact ⟨rfl, HD5.out, HC5.out⟩
    · intro x c kl yy yp w4 cnt4 hkey hlk hv hat hrg4 hlt hg4 hs4 hen
      obtain ⟨x', ex, ek, hwf⟩ := Maps.keyOf_int_inv (P := Try.prog) Try.underlying3 hkey
      injection ex with _ ex
      subst ex
      subst ek
      have hy : yy = .held c := by
        have hv' : RM c = some (yy, yp) := hv
        exact RM_inv hv'
      have hg : getA CV x = some c := at_all (fun zd => (hat zd).trans hy)
      obtain ⟨g0, g1⟩ := HDx.out.kr _ (getA_some hg)
      obtain ⟨k, rfl⟩ : ∃ k : Nat, x = k := ⟨x.toNat, by omega⟩
      obtain ⟨AU, nU, cU, hUs⟩ := HDx.out.sc _ (getA_some hg)
      dsimp only at g0 g1 hUs
      subst hUs
      have HGT := Aside0.mk hg
      have hcc := Chg.of_grown (S := fun j => j = r) hg4 (fun j hj => by injection hj with hj; exact hj.symm)
      have HD4 := Aside0.mk (HDx.out.chg hcc (fun j hj e => by have := HRL.out j hj; omega))
      have HC4 := Aside0.mk (HCx.out.thenN hcc (fun j hj => .inr (by have := HWW.out; omega)))
      have HR4 := Aside0.mk hrg4
      have HLT := Aside0.mk hlt
      have HRX := Aside0.mk hrg
      have hkl : k < (syncX LV CV left).length := by rw [HD4.out.ll]; omega
      have hvL := HD4.out.hl.cell k (v := (syncX LV CV left)[k]) (by simp [hkl])
      have hfL := HD4.out.hl.free k
      obtain ⟨AL, nL, cL, hLV⟩ := HD4.out.sl _ (List.getElem_mem hkl)
      rw [hLV] at hvL
      obtain ⟨c0, c1, c2, c3, c4, c5, c6⟩ := HD4.out.cells
      have hbl : bl ≠ bd := Ne.symm HD4.out.ne_dl
      clear hkey hlk hv hat hrg4 hlt hg4 hs4 hwf hy hg hcc hLV hkl HDx HCx hrg
      go_wp2_with fail
      have HD5 := Aside0.mk (show DV (w4.setCell ⟨bl, k, none⟩ (.slice AU nU cU)) bd bl bc br n (syncX LV CV (fun z => left z && !z.sameKey (.int .i64 k))) CV ar (wrap64 (lf - 1)) false wt rd by rw [syncX_step LV CV left k _ HGT.out]; exact HD4.out.setL k _ ⟨_, _, _, rfl⟩)
      have HW5 := Aside0.mk (Wrote.setCell w4 bl k (.slice AU nU cU))
      have HC5 := Aside0.mk (HC4.out.trans (Chg.of_wrote HW5.out (.inr (.inl rfl))))
      have HR5 := Aside0.mk (HR4.out.kept (w' := w4.setCell ⟨bl, k, none⟩ (.slice AU nU cU)) (row := some bl) ⟨rfl, rfl, rfl, by rw [HW5.out.size]; exact Nat.le_refl _, fun j hj hne => HW5.out.block j (fun e => hne (by rw [e]))⟩ (by intro e; injection e with e; exact HD4.out.ne_lc e.symm) (by intro e; injection e with e; have := HRL.out bl (.inr (.inl rfl)); omega))
      clear hvL hfL c0 c1 c2 c3 c4 c5 c6 hen
      go_roundw
      case rel => exact ⟨_, cnt4, HR5.out, HD5, HC5⟩
      case measure => rw [HR5.out.left_eq, HRX.out.left_eq]; have := HLT.out; omega
end Go.Proofs.Ytkgjcmolmogpdaa.By
