/- The disk's methods: Reads, Read, Write, Tamper, New. -/
import Derived.Test.YtkgjcmolmogpdaaClone
namespace Go.Proofs.Ytkgjcmolmogpdaa.By
open Go.RowKit Go.Proofs.Ytkgjcmolmogpdaa.Reg Go.Proofs.YtkgjcmolmogpdaaW.PrintWords Go.Proofs.YtkgjcmolmogpdaaW.PrintLast Go.Proofs.YtkgjcmolmogpdaaW.PrintMore
set_option linter.unusedVariables false
set_option linter.unusedSimpArgs false


theorem i64_wf {x : Int} (h : -9223372036854775808 ≤ x ∧ x ≤ 9223372036854775807) : (Lit.int .i64 x).wf = true := by
  simp [Lit.wf, IntKind.min, IntKind.max, IntKind.signed, IntKind.bits]; omega
theorem NB.typed {w : World} {B : Nat} {V : Value} {xs : List Int} (h : NB w B V xs) : ∀ k, V.ownBlock = some k → ∃ cells, w.heap[k]? = some (.cells cells 5 (0, 0)) := Kd.R_typed h
theorem NB.chg {w w' : World} {S : Nat → Prop} {B : Nat} {V : Value} {xs : List Int} (h : NB w B V xs) (k : Chg w w' S) (hn : ∀ j, V.ownBlock = some j → ¬ S j) : NB w' B V xs := by
  have h1 := Kd.R_tight (d := kb) rfl h
  exact Kd.R_mono (Kd.R_step h1 (fun j hj hlt => k.block j hlt (hn j hj.symm))) (fun _ _ => trivial)
theorem NB.lower {w : World} {B B' : Nat} {V : Value} {xs : List Int} (h : NB w B V xs) (hb : B' ≤ B) : NB w B' V xs := Kd.R_lower h hb
theorem NB.isSl {w : World} {B : Nat} {V : Value} {xs : List Int} (h : NB w B V xs) : isSl V := by
  obtain ⟨A, c, e, _⟩ := h.reads
  exact ⟨A, _, c, e⟩
section
variable {w : World} {bd bl bc br n : Nat} {LV : List Value} {CV : List (Int × Value)} {ar : Bool} {lf : Int} {of : Bool} {wr : Int} {rd : List Int}
/-- What bytes lie in is none of the disk's own blocks. -/
theorem NB.apart {B : Nat} {V : Value} {xs : List Int} (h : NB w B V xs) (hd : DV w bd bl bc br n LV CV ar lf of wr rd) : ∀ j, V.ownBlock = some j → ¬ Dst bd bl bc br j := by
  intro j hj hs
  obtain ⟨cells, hc⟩ := h.typed j hj
  have no : ∀ {cs : Array Value} {t : TypeId}, t ≠ 5 → Blk w j cs t → False := fun ht hb => by
    have := hb.is.symm.trans hc
    injection this with this
    injection this with _ h2
    exact ht h2
  rcases hs with rfl | rfl | rfl | rfl
  · exact no (by decide) hd.hd
  · exact no (by decide) hd.hl
  · obtain ⟨es, c, hb⟩ := owns_obj hd.hm
    rw [hc] at hb
    cases hb
  · exact no (by decide) hd.hr
/-- The value that a sector is read from. -/
def atV (LV : List Value) (CV : List (Int × Value)) (i : Int) : Value := (getA CV i).getD (LV.getD i.toNat (.slice none 0 0))
theorem DV.setR {w' : World} (h : DV w bd bl bc br n LV CV ar lf of wr rd) (i : Nat) (x : Int) : DV (w.setCell ⟨br, i, none⟩ (.int .i64 x)) bd bl bc br n LV CV ar lf of wr (rd.set i x) := by
  have k := Wrote.setCell w br i (.int .i64 x)
  refine ⟨h.hd.wrote k h.ne_dr, h.hl.wrote k h.ne_lr, (Chg.of_wrote (S := fun j => j = br) k rfl).map h.hm (Ne.symm h.ne_rc), ?_, h.ll, by rw [List.length_set]; exact h.lr, h.ks, h.kr, h.nn, h.sl, h.sc⟩
  have := h.hr.set i (.int .i64 x)
  rwa [List.setIfInBounds_toArray, ← List.map_set] at this
theorem DV.setL (h : DV w bd bl bc br n LV CV ar lf of wr rd) (i : Nat) (V : Value) (hV : isSl V) : DV (w.setCell ⟨bl, i, none⟩ V) bd bl bc br n (LV.set i V) CV ar lf of wr rd := by
  have k := Wrote.setCell w bl i V
  refine ⟨h.hd.wrote k h.ne_dl, ?_, (Chg.of_wrote (S := fun j => j = bl) k rfl).map h.hm (Ne.symm h.ne_lc), h.hr.wrote k (Ne.symm h.ne_lr), by rw [List.length_set]; exact h.ll, h.lr, h.ks, h.kr, h.nn, fun U hU => ?_, h.sc⟩
  · have := h.hl.set i V
    rwa [List.setIfInBounds_toArray] at this
  · rcases List.mem_or_eq_of_mem_set hU with hU | rfl
    · exact h.sl U hU
    · exact hV
/-- The map has been written. -/
theorem DV.setM {w' : World} {CV' : List (Int × Value)} {m : Nat} (h : DV w bd bl bc br n LV CV ar lf of wr rd) (k : w.mapTurned w' bc) (hm : w'.ownsMap Try.prog 3 RM bc m (mapD CV')) (ks : Rise CV') (kr : ∀ p ∈ CV', 0 ≤ p.1 ∧ p.1 < n) (sc : ∀ p ∈ CV', isSl p.2) : DV w' bd bl bc br n LV CV' ar lf of wr rd := by
  have hc : Chg w w' (fun j => j = bc) := Chg.of_grown k.grown (fun j hj => by injection hj with hj; exact hj.symm)
  have ht := owns_tight hm
  rw [mapD_size] at ht
  exact ⟨hc.blk h.hd h.ne_dc, hc.blk h.hl h.ne_lc, ht, hc.blk h.hr h.ne_rc, h.ll, h.lr, ks, kr, h.nn, h.sl, sc⟩
theorem DV.maps (h : DV w bd bl bc br n LV CV ar lf of wr rd) {w' : World} (k : w.mapTurned w' bc) : Chg w w' (Dst bd bl bc br) := Chg.of_grown k.grown (fun j hj => by injection hj with hj; exact .inr (.inr (.inl hj.symm)))
end
theorem putA_range {α : Type} {l : List (Int × α)} {n : Nat} (h : ∀ p ∈ l, 0 ≤ p.1 ∧ p.1 < n) {i : Int} (hi : 0 ≤ i ∧ i < n) (v : α) : ∀ p ∈ putA l i v, 0 ≤ p.1 ∧ p.1 < n := fun p hp => by
  rcases (mem_insA _ _ p).1 hp with rfl | hp
  · exact hi
  · exact h p (mem_delA.1 hp).1
theorem putA_all {α : Type} {Q : α → Prop} {l : List (Int × α)} (h : ∀ p ∈ l, Q p.2) {i : Int} {v : α} (hv : Q v) : ∀ p ∈ putA l i v, Q p.2 := fun p hp => by
  rcases (mem_insA _ _ p).1 hp with rfl | hp
  · exact hv
  · exact h p (mem_delA.1 hp).1
def cntF (rd : List Int) (i : Int) (n : Nat) : Int := if inB i n = true then rd.getD i.toNat 0 else 0
set_option maxRecDepth 100000 in
set_option maxHeartbeats 2000000 in
theorem reads_calls {w : World} {bd bl bc br n : Nat} {LV : List Value} {CV : List (Int × Value)} {ar : Bool} {lf : Int} {of : Bool} {wr : Int} {rd : List Int} (h : DV w bd bl bc br n LV CV ar lf of wr rd) (i : Int) :
    Calls Try.prog 25 #[.pointer (some ⟨bd, 0, none⟩), .int .i64 i] w fun e w' => e = .returned (.int .i64 (cntF rd i n)) ∧ w = w' := by
  have HT := Aside0.mk (there_calls h i)
  have HD := Aside0.mk h
  have hnn := h.nn
  obtain ⟨c0, c1, c2, c3, c4, c5, c6⟩ := h.cells
  clear h
  cases hi : inB i n with
  | true =>
    rw [hi] at HT
    obtain ⟨h0, h1⟩ := inB_t hi
    obtain ⟨k, rfl⟩ : ∃ k : Nat, i = k := ⟨i.toNat, by omega⟩
    have hk : k < rd.length := by rw [HD.out.lr]; omega
    have hc := HD.out.hr.cell k (v := .int .i64 rd[k]) (by simp [hk])
    have hg : rd.getD (k : Int).toNat 0 = rd[k] := by simp [List.getD_eq_getElem?_getD, hk]
    generalize rd[k] = x at hc hg
    go_enter Try.func25, Try.ntmps25
    go_wp2_with fail
    refine HT.out.mono ?_
    rintro e w1 ⟨rfl, rfl⟩
    have HG := Aside0.mk hg
    clear hg
    go_wp2
    go_ret
    exact ⟨by unfold cntF; rw [hi, if_pos rfl, HG.out]; rfl, rfl⟩
  | false =>
    rw [hi] at HT
    go_enter Try.func25, Try.ntmps25
    go_wp2_with fail
    refine HT.out.mono ?_
    rintro e w1 ⟨rfl, rfl⟩
    go_wp2
    go_ret
    exact ⟨by unfold cntF; rw [hi, if_neg (by decide)]; rfl, rfl⟩
set_option maxRecDepth 100000 in
set_option maxHeartbeats 2000000 in
theorem read_no {w : World} {bd bl bc br n : Nat} {LV : List Value} {CV : List (Int × Value)} {ar : Bool} {lf : Int} {of : Bool} {wr : Int} {rd : List Int} (h : DV w bd bl bc br n LV CV ar lf of wr rd) (i : Int) (hi : inB i n = false) :
    Calls Try.prog 21 #[.pointer (some ⟨bd, 0, none⟩), .int .i64 i] w fun e w' => e = .returned (.tuple #[.slice none 0 0, .int .i64 7]) ∧ w = w' := by
  have HT := Aside0.mk (there_calls h i)
  have HD := Aside0.mk h
  clear h
  rw [hi] at HT
  go_enter Try.func21, Try.ntmps21
  go_wp2_with fail
  refine HT.out.mono ?_
  rintro e w1 ⟨rfl, rfl⟩
  go_wp2
  go_ret2
  exact ⟨rfl, rfl⟩

theorem zslice (w : World) : (zeroValue 29).run Try.prog w = .ok (.slice none 0 0) w := by
  have := Try.zeroValue29
  first | exact this w | simpa using this
theorem RM_inv {u : Value} {d : DataW Value} {ps : List MemPlace} (h : RM u = some (d, ps)) : d = .held u := by
  unfold RM at h
  injection h with h
  injection h with h1 _
  exact h1.symm
section
variable {ops : Array Oper} {rest : List Oper} {o : Oper} {a : Act} {Q : Exit → Act → World → Prop} {w : World} {bc m : Nat} {CV : List (Int × Value)}
/-- 'v, ok := cache[i]'. -/
theorem look_at (hg : o.guard = none) (x y : Operand) (hop : o.op = Op.lookup 70 x y true) (hm : a.eval x = .map (some bc)) (hown : w.ownsMap Try.prog 3 RM bc m (mapD CV)) (i : Int) (hy : a.eval y = .int .i64 i) (hw : -9223372036854775808 ≤ i ∧ i ≤ 9223372036854775807)
    (V : Value) (b : Bool) (hget : (getA CV i).getD (.slice none 0 0) = V) (hb : (getA CV i).isSome = b) (h : wpList Try.prog ops Q rest (a.put o.dst (.tuple #[V, .bool b])) w) : wpList Try.prog ops Q (o :: rest) a w :=
  wpList_lookup_own_ok w hg x y 70 hop 3 29 (Maps.int_keyed Try.underlying3) Try.underlying70 RM (zslice w) (.held (.slice none 0 0)) [] rfl bc m (mapD CV) hm hown _ _ hy (Maps.keyOf_int_mk Try.underlying3 (i64_wf hw)) (fun v ps hv => by
    have h1 := RM_inv hv
    rw [mapD_at, hget] at h1
    injection h1 with h1
    subst h1
    rw [mapD_has, hb]
    exact h)
/-- 'cache[i]'. -/
theorem look1_at (hg : o.guard = none) (x y : Operand) (hop : o.op = Op.lookup 70 x y false) (hm : a.eval x = .map (some bc)) (hown : w.ownsMap Try.prog 3 RM bc m (mapD CV)) (i : Int) (hy : a.eval y = .int .i64 i) (hw : -9223372036854775808 ≤ i ∧ i ≤ 9223372036854775807)
    (V : Value) (hget : (getA CV i).getD (.slice none 0 0) = V) (h : wpList Try.prog ops Q rest (a.put o.dst V) w) : wpList Try.prog ops Q (o :: rest) a w := by
  refine wpList_plain hg fun K' hK' => ?_
  obtain ⟨v, ps, hrun, hv⟩ := hown.lookup (Maps.int_keyed Try.underlying3) Try.underlying70 (zslice w) (zd := .held (.slice none 0 0)) (zp := []) rfl (Maps.keyOf_int_mk (P := Try.prog) Try.underlying3 (i64_wf hw))
  have h1 := RM_inv hv
  rw [mapD_at, hget] at h1
  injection h1 with h1
  subst h1
  unfold Oper.wp
  simp [execOp, hop, hm, hy, hrun, Result.andThen]
  exact hK' _ _ h
end
set_option maxRecDepth 100000 in
set_option maxHeartbeats 2000000 in
theorem read_calls {w : World} {bd bl bc br n : Nat} {LV : List Value} {CV : List (Int × Value)} {ar : Bool} {lf : Int} {of : Bool} {wr : Int} {rd : List Int} (h : DV w bd bl bc br n LV CV ar lf of wr rd) (i : Int) (hi : inB i n = true) (B : Nat) (xs : List Int) (hx : NB w B (atV LV CV i) xs) (hl : xs.length ≤ 1000000) :
    Calls Try.prog 21 #[.pointer (some ⟨bd, 0, none⟩), .int .i64 i] w fun e w' => ∃ U, e = .returned (.tuple #[U, .int .i64 0]) ∧ NB w' w.heap.size U xs ∧ DV w' bd bl bc br n LV CV ar lf of wr (rd.set i.toNat (wrap64 (rd.getD i.toNat 0 + 1))) ∧ Chg w w' (fun k => k = br) := by
  have HT := Aside0.mk (there_calls h i)
  have HD := Aside0.mk h
  have hnn := h.nn
  obtain ⟨c0, c1, c2, c3, c4, c5, c6⟩ := h.cells
  clear h
  rw [hi] at HT
  obtain ⟨h0, h1⟩ := inB_t hi
  obtain ⟨k, rfl⟩ : ∃ k : Nat, i = k := ⟨i.toNat, by omega⟩
  have hk : k < rd.length := by rw [HD.out.lr]; omega
  have hkl : k < LV.length := by rw [HD.out.ll]; omega
  have hc := HD.out.hr.cell k (v := .int .i64 rd[k]) (by simp [hk])
  have hf := HD.out.hr.free k
  have hg : rd.getD (k : Int).toNat 0 = rd[k] := by simp [List.getD_eq_getElem?_getD, hk]
  generalize rd[k] = x at hc hg
  have HG := Aside0.mk hg
  clear hg
  obtain ⟨wn, hwn⟩ : ∃ y, wrap64 (x + 1) = y := ⟨_, rfl⟩
  have HWN := Aside0.mk hwn
  have HD1 := Aside0.mk (HD.out.setR (w' := w) k wn)
  have HC1 := Aside0.mk (Chg.of_wrote (S := fun j => j = br) (Wrote.setCell w br k (.int .i64 wn)) rfl)
  have HX1 := Aside0.mk (hx.chg HC1.out (fun j hj hs => hx.apart HD.out j hj (.inr (.inr (.inr hs)))))
  have HM := Aside0.mk HD1.out.hm
  have HSZ := Aside0.mk (show (w.setCell ⟨br, k, none⟩ (.int .i64 wn)).heap.size = w.heap.size from (Wrote.setCell w br k (.int .i64 wn)).size)
  have hbl : br ≠ bd := Ne.symm HD.out.ne_dr
  have hll : br ≠ bl := Ne.symm HD.out.ne_lr
  have hvL := HD.out.hl.cell k (v := LV[k]) (by simp [hkl])
  obtain ⟨AL, nL, cL, hLV⟩ := HD.out.sl _ (List.getElem_mem hkl)
  have hat : atV LV CV (k : Int) = (getA CV (k : Int)).getD LV[k] := by unfold atV; simp [List.getD_eq_getElem?_getD, hkl]
  rw [hLV] at hvL hat
  have HL := Aside0.mk hl
  have HSC := Aside0.mk (fun U (h : getA CV (k : Int) = some U) => HD.out.sc _ (getA_some h))
  have HI := Aside0.mk (show -9223372036854775808 ≤ (k : Int) ∧ (k : Int) ≤ 9223372036854775807 from ⟨by omega, by omega⟩)
  have HRD := Aside0.mk (show rd.set k wn = rd.set (k : Int).toNat (wrap64 (rd.getD (k : Int).toNat 0 + 1)) by rw [HG.out, hwn]; rfl)
  clear hx hl hLV
  cases hget : getA CV (k : Int) with
  | none =>
    have HB := Aside0.mk (show (getA CV (k : Int)).getD (.slice none 0 0) = .slice none 0 0 ∧ (getA CV (k : Int)).isSome = false by rw [hget]; exact ⟨rfl, rfl⟩)
    rw [hget] at hat
    have hat' : atV LV CV (k : Int) = .slice AL nL cL := hat
    rw [hat'] at HX1
    obtain ⟨A', c', e, hc', hC'⟩ := HX1.out.reads
    injection e with e1 e2 e3
    have HCL := Aside0.mk (clone_calls _ AL nL cL xs e2 (by rw [e1, e2]; exact hC') (by omega) (by have := HL.out; omega))
    clear hat hat' hget e1 e2 e3 hC' hc'
    go_enter Try.func21, Try.ntmps21
    go_wp2_with fail
    refine HT.out.mono ?_
    rintro e w1 ⟨rfl, rfl⟩
    clear HT
    go_wp2_with (first | (at_lookup; refine look_at rfl _ _ rfl rfl HM.out (k : Int) rfl HI.out _ _ HB.out.1 HB.out.2 ?_) | fail)
    refine HCL.out.mono ?_
    rintro e w2 ⟨U, rfl, hU, hE⟩
    obtain ⟨A2, c2, hU2, _, _⟩ := hU.reads
    have HU := Aside0.mk hU
    have HE := Aside0.mk hE
    subst hU2
    clear hU hE
    go_wp2
    go_ret2
    exact ⟨_, rfl, by rw [← HSZ.out]; exact HU.out, by rw [← HRD.out]; exact HD1.out.ext HE.out, HC1.out.ext HE.out⟩
  | some U0 =>
    obtain ⟨AU, nU, cU, hUs⟩ := HSC.out U0 hget
    subst hUs
    have HB := Aside0.mk (show (getA CV (k : Int)).getD (.slice none 0 0) = .slice AU nU cU ∧ (getA CV (k : Int)).isSome = true by rw [hget]; exact ⟨rfl, rfl⟩)
    rw [hget] at hat
    have hat' : atV LV CV (k : Int) = .slice AU nU cU := hat
    rw [hat'] at HX1
    obtain ⟨A', c', e, hc', hC'⟩ := HX1.out.reads
    injection e with e1 e2 e3
    have HCL := Aside0.mk (clone_calls _ AU nU cU xs e2 (by rw [e1, e2]; exact hC') (by omega) (by have := HL.out; omega))
    clear hat hat' hget e1 e2 e3 hC' hc'
    go_enter Try.func21, Try.ntmps21
    go_wp2_with fail
    refine HT.out.mono ?_
    rintro e w1 ⟨rfl, rfl⟩
    clear HT
    go_wp2_with (first | (at_lookup; refine look_at rfl _ _ rfl rfl HM.out (k : Int) rfl HI.out _ _ HB.out.1 HB.out.2 ?_) | fail)
    refine HCL.out.mono ?_
    rintro e w2 ⟨U, rfl, hU, hE⟩
    obtain ⟨A2, c2, hU2, _, _⟩ := hU.reads
    have HU := Aside0.mk hU
    have HE := Aside0.mk hE
    subst hU2
    clear hU hE
    go_wp2
    go_ret2
    exact ⟨_, rfl, by rw [← HSZ.out]; exact HU.out, by rw [← HRD.out]; exact HD1.out.ext HE.out, HC1.out.ext HE.out⟩
end Go.Proofs.Ytkgjcmolmogpdaa.By
