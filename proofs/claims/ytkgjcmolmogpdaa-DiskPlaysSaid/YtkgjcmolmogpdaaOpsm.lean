/- The disk's methods: Reads, Read, Write, Tamper, New. -/
import Derived.Test.YtkgjcmolmogpdaaClone
namespace Go.Proofs.Ytkgjcmolmogpdaa.By
open Go.RowKit Go.Proofs.Ytkgjcmolmogpdaa.Reg Go.Proofs.YtkgjcmolmogpdaaW.PrintWords Go.Proofs.YtkgjcmolmogpdaaW.PrintLast Go.Proofs.YtkgjcmolmogpdaaW.PrintMore
set_option linter.unusedVariables false
set_option linter.unusedSimpArgs false


theorem i64_wf {x : Int} (h : -9223372036854775808 ≤ x ∧ x ≤ 9223372036854775807) : (Lit.int .i64 x).wf = true := by
  simp [Lit.wf, IntKind.min, IntKind.max, IntKind.signed, IntKind.bits]; omega
theorem NB.typed {w : World} {B : Nat} {V : Value} {xs : List Int} (h : NB w B V xs) : ∀ k, V.ownBlock = some k → ∃ cells, w.heap[k]? = some (.cells cells 5 (0, 0)) := Kd.R_typed h
theorem NB.chg {w w' : World} {S : Nat → Prop} {B : Nat} {V : Value} {xs : List Int} (h : NB w B V xs) (k : Chg w w' S) (hn : ∀ j, V.ownBlock = some j → ¬ S j) : NB w' B V xs := by
  have h1 := Kd.R_tight (d := kb) rfl h
  exact Kd.R_mono (Kd.R_step h1 (fun j hj hlt => k.block j hlt (hn j hj.symm))) (fun _ _ => trivial)
theorem NB.lower {w : World} {B B' : Nat} {V : Value} {xs : List Int} (h : NB w B V xs) (hb : B' ≤ B) : NB w B' V xs := Kd.R_lower h hb
theorem NB.isSl {w : World} {B : Nat} {V : Value} {xs : List Int} (h : NB w B V xs) : isSl V := by
  obtain ⟨A, c, e, _⟩ := h.reads
  exact ⟨A, _, c, e⟩
section
variable {w : World} {bd bl bc br n : Nat} {LV : List Value} {CV : List (Int × Value)} {ar : Bool} {lf : Int} {of : Bool} {wr : Int} {rd : List Int}
/-- What bytes lie in is none of the disk's own blocks. -/
theorem NB.apart {B : Nat} {V : Value} {xs : List Int} (h : NB w B V xs) (hd : DV w bd bl bc br n LV CV ar lf of wr rd) : ∀ j, V.ownBlock = some j → ¬ Dst bd bl bc br j := by
  intro j hj hs
  obtain ⟨cells, hc⟩ := h.typed j hj
  have no : ∀ {cs : Array Value} {t : TypeId}, t ≠ 5 → Blk w j cs t → False := fun ht hb => by
    have := hb.is.symm.trans hc
    injection this with this
    injection this with _ h2
    exact ht h2
  rcases hs with rfl | rfl | rfl | rfl
  · exact no (by decide) hd.hd
  · exact no (by decide) hd.hl
  · obtain ⟨es, c, hb⟩ := owns_obj hd.hm
    rw [hc] at hb
    cases hb
  · exact no (by decide) hd.hr
/-- The value that a sector is read from. -/
def atV (LV : List Value) (CV : List (Int × Value)) (i : Int) : Value := (getA CV i).getD (LV.getD i.toNat (.slice none 0 0))
theorem DV.setR {w' : World} (h : DV w bd bl bc br n LV CV ar lf of wr rd) (i : Nat) (x : Int) : DV (w.setCell ⟨br, i, none⟩ (.int .i64 x)) bd bl bc br n LV CV ar lf of wr (rd.set i x) := by
  have k := Wrote.setCell w br i (.int .i64 x)
  refine ⟨h.hd.wrote k h.ne_dr, h.hl.wrote k h.ne_lr, (Chg.of_wrote (S := fun j => j = br) k rfl).map h.hm (Ne.symm h.ne_rc), ?_, h.ll, by rw [List.length_set]; exact h.lr, h.ks, h.kr, h.nn, h.sl, h.sc⟩
  have := h.hr.set i (.int .i64 x)
  rwa [List.setIfInBounds_toArray, ← List.map_set] at this
theorem DV.setL (h : DV w bd bl bc br n LV CV ar lf of wr rd) (i : Nat) (V : Value) (hV : isSl V) : DV (w.setCell ⟨bl, i, none⟩ V) bd bl bc br n (LV.set i V) CV ar lf of wr rd := by
  have k := Wrote.setCell w bl i V
  refine ⟨h.hd.wrote k h.ne_dl, ?_, (Chg.of_wrote (S := fun j => j = bl) k rfl).map h.hm (Ne.symm h.ne_lc), h.hr.wrote k (Ne.symm h.ne_lr), by rw [List.length_set]; exact h.ll, h.lr, h.ks, h.kr, h.nn, fun U hU => ?_, h.sc⟩
  · have := h.hl.set i V
    rwa [List.setIfInBounds_toArray] at this
  · rcases List.mem_or_eq_of_mem_set hU with hU | rfl
    · exact h.sl U hU
    · exact hV
/-- The map has been written. -/
theorem DV.setM {w' : World} {CV' : List (Int × Value)} {m : Nat} (h : DV w bd bl bc br n LV CV ar lf of wr rd) (k : w.mapTurned w' bc) (hm : w'.ownsMap Try.prog 3 RM bc m (mapD CV')) (ks : Rise CV') (kr : ∀ p ∈ CV', 0 ≤ p.1 ∧ p.1 < n) (sc : ∀ p ∈ CV', isSl p.2) : DV w' bd bl bc br n LV CV' ar lf of wr rd := by
  have hc : Chg w w' (fun j => j = bc) := Chg.of_grown k.grown (fun j hj => by injection hj with hj; exact hj.symm)
  have ht := owns_tight hm
  rw [mapD_size] at ht
  exact ⟨hc.blk h.hd h.ne_dc, hc.blk h.hl h.ne_lc, ht, hc.blk h.hr h.ne_rc, h.ll, h.lr, ks, kr, h.nn, h.sl, sc⟩
theorem DV.maps (h : DV w bd bl bc br n LV CV ar lf of wr rd) {w' : World} (k : w.mapTurned w' bc) : Chg w w' (Dst bd bl bc br) := Chg.of_grown k.grown (fun j hj => by injection hj with hj; exact .inr (.inr (.inl hj.symm)))
end
theorem putA_range {α : Type} {l : List (Int × α)} {n : Nat} (h : ∀ p ∈ l, 0 ≤ p.1 ∧ p.1 < n) {i : Int} (hi : 0 ≤ i ∧ i < n) (v : α) : ∀ p ∈ putA l i v, 0 ≤ p.1 ∧ p.1 < n := fun p hp => by
  rcases (mem_insA _ _ p).1 hp with rfl | hp
  · exact hi
  · exact h p (mem_delA.1 hp).1
theorem putA_all {α : Type} {Q : α → Prop} {l : List (Int × α)} (h : ∀ p ∈ l, Q p.2) {i : Int} {v : α} (hv : Q v) : ∀ p ∈ putA l i v, Q p.2 := fun p hp => by
  rcases (mem_insA _ _ p).1 hp with rfl | hp
  · exact hv
  · exact h p (mem_delA.1 hp).1
def cntF (rd : List Int) (i : Int) (n : Nat) : Int := if inB i n = true then rd.getD i.toNat 0 else 0
set_option maxRecDepth 100000 in
set_option maxHeartbeats 2000000 in
theorem reads_calls {w : World} {bd bl bc br n : Nat} {LV : List Value} {CV : List (Int × Value)} {ar : Bool} {lf : Int} {of : Bool} {wr : Int} {rd : List Int} (h : DV w bd bl bc br n LV CV ar lf of wr rd) (i : Int) :
    Calls Try.prog 25 #[.pointer (some ⟨bd, 0, none⟩), .int .i64 i] w fun e w' => e = .returned (.int .i64 (cntF rd i n)) ∧ w = w' := by
  have HT := Aside0.mk (there_calls h i)
  have HD := Aside0.mk h
  have hnn := h.nn
  obtain ⟨c0, c1, c2, c3, c4, c5, c6⟩ := h.cells
  clear h
  cases hi : inB i n with
  | true =>
    rw [hi] at HT
    obtain ⟨h0, h1⟩ := inB_t hi
    obtain ⟨k, rfl⟩ : ∃ k : Nat, i = k := ⟨i.toNat, by omega⟩
    have hk : k < rd.length := by rw [HD.out.lr]; omega
    have hc := HD.out.hr.cell k (v := .int .i64 rd[k]) (by simp [hk])
    have hg : rd.getD (k : Int).toNat 0 = rd[k] := by simp [List.getD_eq_getElem?_getD, hk]
    generalize rd[k] = x at hc hg
    go_enter Try.func25, Try.ntmps25
    go_wp2_with fail
    refine HT.out.mono ?_
    rintro e w1 ⟨rfl, rfl⟩
    have HG := Aside0.mk hg
    clear hg
    go_wp2
    go_ret
    exact ⟨by unfold cntF; rw [hi, if_pos rfl, HG.out]; rfl, rfl⟩
  | false =>
    rw [hi] at HT
    go_enter Try.func25, Try.ntmps25
    go_wp2_with fail
    refine HT.out.mono ?_
    rintro e w1 ⟨rfl, rfl⟩
    go_wp2
    go_ret
    exact ⟨by unfold cntF; rw [hi, if_neg (by decide)]; rfl, rfl⟩
set_option maxRecDepth 100000 in
set_option maxHeartbeats 2000000 in
theorem read_no {w : World} {bd bl bc br n : Nat} {LV : List Value} {CV : List (Int × Value)} {ar : Bool} {lf : Int} {of : Bool} {wr : Int} {rd : List Int} (h : DV w bd bl bc br n LV CV ar lf of wr rd) (i : Int) (hi : inB i n = false) :
    Calls Try.prog 21 #[.pointer (some ⟨bd, 0, none⟩), .int .i64 i] w fun e w' => e = .returned (.tuple #[.slice none 0 0, .int .i64 7]) ∧ w = w' := by
  have HT := Aside0.mk (there_calls h i)
  have HD := Aside0.mk h
  clear h
  rw [hi] at HT
  go_enter Try.func21, Try.ntmps21
  go_wp2_with fail
  refine HT.out.mono ?_
  rintro e w1 ⟨rfl, rfl⟩
  go_wp2
  go_ret2
  exact ⟨rfl, rfl⟩

theorem zslice (w : World) : (zeroValue 29).run Try.prog w = .ok (.slice none 0 0) w := by
  have := Try.zeroValue29
  first | exact this w | simpa using this
theorem RM_inv {u : Value} {d : DataW Value} {ps : List MemPlace} (h : RM u = some (d, ps)) : d = .held u := by
  unfold RM at h
  injection h with h
  injection h with h1 _
  exact h1.symm
section
variable {ops : Array Oper} {rest : List Oper} {o : Oper} {a : Act} {Q : Exit → Act → World → Prop} {w : World} {bc m : Nat} {CV : List (Int × Value)}
/-- 'v, ok := cache[i]'. -/
theorem look_at (hg : o.guard = none) (x y : Operand) (hop : o.op = Op.lookup 70 x y true) (hm : a.eval x = .map (some bc)) (hown : w.ownsMap Try.prog 3 RM bc m (mapD CV)) (i : Int) (hy : a.eval y = .int .i64 i) (hw : -9223372036854775808 ≤ i ∧ i ≤ 9223372036854775807)
    (V : Value) (b : Bool) (hget : (getA CV i).getD (.slice none 0 0) = V) (hb : (getA CV i).isSome = b) (h : wpList Try.prog ops Q rest (a.put o.dst (.tuple #[V, .bool b])) w) : wpList Try.prog ops Q (o :: rest) a w :=
  wpList_lookup_own_ok w hg x y 70 hop 3 29 (Maps.int_keyed Try.underlying3) Try.underlying70 RM (zslice w) (.held (.slice none 0 0)) [] rfl bc m (mapD CV) hm hown _ _ hy (Maps.keyOf_int_mk Try.underlying3 (i64_wf hw)) (fun v ps hv => by
    have h1 := RM_inv hv
    rw [mapD_at, hget] at h1
    injection h1 with h1
    subst h1
    rw [mapD_has, hb]
    exact h)
/-- 'cache[i]'. -/
theorem look1_at (hg : o.guard = none) (x y : Operand) (hop : o.op = Op.lookup 70 x y false) (hm : a.eval x = .map (some bc)) (hown : w.ownsMap Try.prog 3 RM bc m (mapD CV)) (i : Int) (hy : a.eval y = .int .i64 i) (hw : -9223372036854775808 ≤ i ∧ i ≤ 9223372036854775807)
    (V : Value) (hget : (getA CV i).getD (.slice none 0 0) = V) (h : wpList Try.prog ops Q rest (a.put o.dst V) w) : wpList Try.prog ops Q (o :: rest) a w := by
  refine wpList_plain hg fun K' hK' => ?_
  obtain ⟨v, ps, hrun, hv⟩ := hown.lookup (Maps.int_keyed Try.underlying3) Try.underlying70 (zslice w) (zd := .held (.slice none 0 0)) (zp := []) rfl (Maps.keyOf_int_mk (P := Try.prog) Try.underlying3 (i64_wf hw))
  have h1 := RM_inv hv
  rw [mapD_at, hget] at h1
  injection h1 with h1
  subst h1
  unfold Oper.wp
  simp [execOp, hop, hm, hy, hrun, Result.andThen]
  exact hK' _ _ h
end
set_option maxRecDepth 100000 in
set_option maxHeartbeats 2000000 in
theorem read_calls {w : World} {bd bl bc br n : Nat} {LV : List Value} {CV : List (Int × Value)} {ar : Bool} {lf : Int} {of : Bool} {wr : Int} {rd : List Int} (h : DV w bd bl bc br n LV CV ar lf of wr rd) (i : Int) (hi : inB i n = true) (B : Nat) (xs : List Int) (hx : NB w B (atV LV CV i) xs) (hl : xs.length ≤ 1000000) :
    Calls Try.prog 21 #[.pointer (some ⟨bd, 0, none⟩), .int .i64 i] w fun e w' => ∃ U, e = .returned (.tuple #[U, .int .i64 0]) ∧ NB w' w.heap.size U xs ∧ DV w' bd bl bc br n LV CV ar lf of wr (rd.set i.toNat (wrap64 (rd.getD i.toNat 0 + 1))) ∧ Chg w w' (fun k => k = br) := by
  have HT := Aside0.mk (there_calls h i)
  have HD := Aside0.mk h
  have hnn := h.nn
  obtain ⟨c0, c1, c2, c3, c4, c5, c6⟩ := h.cells
  clear h
  rw [hi] at HT
  obtain ⟨h0, h1⟩ := inB_t hi
  obtain ⟨k, rfl⟩ : ∃ k : Nat, i = k := ⟨i.toNat, by omega⟩
  have hk : k < rd.length := by rw [HD.out.lr]; omega
  have hkl : k < LV.length := by rw [HD.out.ll]; omega
  have hc := HD.out.hr.cell k (v := .int .i64 rd[k]) (by simp [hk])
  have hf := HD.out.hr.free k
  have hg : rd.getD (k : Int).toNat 0 = rd[k] := by simp [List.getD_eq_getElem?_getD, hk]
  generalize rd[k] = x at hc hg
  have HG := Aside0.mk hg
  clear hg
  obtain ⟨wn, hwn⟩ : ∃ y, wrap64 (x + 1) = y := ⟨_, rfl⟩
  have HWN := Aside0.mk hwn
  have HD1 := Aside0.mk (HD.out.setR (w' := w) k wn)
  have HC1 := Aside0.mk (Chg.of_wrote (S := fun j => j = br) (Wrote.setCell w br k (.int .i64 wn)) rfl)
  have HX1 := Aside0.mk (hx.chg HC1.out (fun j hj hs => hx.apart HD.out j hj (.inr (.inr (.inr hs)))))
  have HM := Aside0.mk HD1.out.hm
  have HSZ := Aside0.mk (show (w.setCell ⟨br, k, none⟩ (.int .i64 wn)).heap.size = w.heap.size from (Wrote.setCell w br k (.int .i64 wn)).size)
  have hbl : br ≠ bd := Ne.symm HD.out.ne_dr
  have hll : br ≠ bl := Ne.symm HD.out.ne_lr
  have hvL := HD.out.hl.cell k (v := LV[k]) (by simp [hkl])
  obtain ⟨AL, nL, cL, hLV⟩ := HD.out.sl _ (List.getElem_mem hkl)
  have hat : atV LV CV (k : Int) = (getA CV (k : Int)).getD LV[k] := by unfold atV; simp [List.getD_eq_getElem?_getD, hkl]
  rw [hLV] at hvL hat
  have HL := Aside0.mk hl
  have HSC := Aside0.mk (fun U (h : getA CV (k : Int) = some U) => HD.out.sc _ (getA_some h))
  have HI := Aside0.mk (show -9223372036854775808 ≤ (k : Int) ∧ (k : Int) ≤ 9223372036854775807 from ⟨by omega, by omega⟩)
  have HRD := Aside0.mk (show rd.set k wn = rd.set (k : Int).toNat (wrap64 (rd.getD (k : Int).toNat 0 + 1)) by rw [HG.out, hwn]; rfl)
  clear hx hl hLV
  cases hget : getA CV (k : Int) with
  | none =>
    have HB := Aside0.mk (show (getA CV (k : Int)).getD (.slice none 0 0) = .slice none 0 0 ∧ (getA CV (k : Int)).isSome = false by rw [hget]; exact ⟨rfl, rfl⟩)
    rw [hget] at hat
    have hat' : atV LV CV (k : Int) = .slice AL nL cL := hat
    rw [hat'] at HX1
    obtain ⟨A', c', e, hc', hC'⟩ := HX1.out.reads
    injection e with e1 e2 e3
    have HCL := Aside0.mk (clone_calls _ AL nL cL xs e2 (by rw [e1, e2]; exact hC') (by omega) (by have := HL.out; omega))
    clear hat hat' hget e1 e2 e3 hC' hc'
    go_enter Try.func21, Try.ntmps21
    go_wp2_with fail
    refine HT.out.mono ?_
    rintro e w1 ⟨rfl, rfl⟩
    clear HT
    go_wp2_with (first | (at_lookup; refine look_at rfl _ _ rfl rfl HM.out (k : Int) rfl HI.out _ _ HB.out.1 HB.out.2 ?_) | fail)
    refine HCL.out.mono ?_
    rintro e w2 ⟨U, rfl, hU, hE⟩
    obtain ⟨A2, c2, hU2, _, _⟩ := hU.reads
    have HU := Aside0.mk hU
    have HE := Aside0.mk hE
    subst hU2
    clear hU hE
    go_wp2
    go_ret2
    exact ⟨_, rfl, by rw [← HSZ.out]; exact HU.out, by rw [← HRD.out]; exact HD1.out.ext HE.out, HC1.out.ext HE.out⟩
  | some U0 =>
    obtain ⟨AU, nU, cU, hUs⟩ := HSC.out U0 hget
    subst hUs
    have HB := Aside0.mk (show (getA CV (k : Int)).getD (.slice none 0 0) = .slice AU nU cU ∧ (getA CV (k : Int)).isSome = true by rw [hget]; exact ⟨rfl, rfl⟩)
    rw [hget] at hat
    have hat' : atV LV CV (k : Int) = .slice AU nU cU := hat
    rw [hat'] at HX1
    obtain ⟨A', c', e, hc', hC'⟩ := HX1.out.reads
    injection e with e1 e2 e3
    have HCL := Aside0.mk (clone_calls _ AU nU cU xs e2 (by rw [e1, e2]; exact hC') (by omega) (by have := HL.out; omega))
    clear hat hat' hget e1 e2 e3 hC' hc'
    go_enter Try.func21, Try.ntmps21
    go_wp2_with fail
    refine HT.out.mono ?_
    rintro e w1 ⟨rfl, rfl⟩
    clear HT
    go_wp2_with (first | (at_lookup; refine look_at rfl _ _ rfl rfl HM.out (k : Int) rfl HI.out _ _ HB.out.1 HB.out.2 ?_) | fail)
    refine HCL.out.mono ?_
    rintro e w2 ⟨U, rfl, hU, hE⟩
    obtain ⟨A2, c2, hU2, _, _⟩ := hU.reads
    have HU := Aside0.mk hU
    have HE := Aside0.mk hE
    subst hU2
    clear hU hE
    go_wp2
    go_ret2
    exact ⟨_, rfl, by rw [← HSZ.out]; exact HU.out, by rw [← HRD.out]; exact HD1.out.ext HE.out, HC1.out.ext HE.out⟩
end Go.Proofs.Ytkgjcmolmogpdaa.By

/- The disk's methods: Write, Tamper, New. -/
namespace Go.Proofs.Ytkgjcmolmogpdaa.By
open Go.RowKit Go.Proofs.Ytkgjcmolmogpdaa.Reg Go.Proofs.YtkgjcmolmogpdaaW.PrintWords Go.Proofs.YtkgjcmolmogpdaaW.PrintLast Go.Proofs.YtkgjcmolmogpdaaW.PrintMore
set_option linter.unusedVariables false
set_option linter.unusedSimpArgs false


theorem spendE_0 {ar : Bool} {lf : Int} {of : Bool} (h : downF ar lf of = false) : spendE ar lf of = 0 ∧ spendL ar lf of = wrap64 (lf - 1) := by
  unfold spendE spendL
  rw [h, if_neg (by decide), if_neg (by decide)]
  exact ⟨rfl, rfl⟩
theorem spendE_12 {ar : Bool} {lf : Int} {of : Bool} (h : downF ar lf of = true) : spendE ar lf of = 12 ∧ spendL ar lf of = lf := by
  unfold spendE spendL
  rw [h, if_pos rfl, if_pos rfl]
  exact ⟨rfl, rfl⟩
theorem F_old {w0 w : World} {ok : Nat → Prop} {A : Option Addr} {n : Nat} {xs : List Int} (h : Kd.C kb w0 A n xs) (he : Ext w0 w) (hok : ∀ k, k < w0.heap.size → ok k) : Kd.F kb w ok A n xs := fun W' hW =>
  (Kd.heap_int .u8).C (fun k hk => (hW k (hok k hk) (Nat.lt_of_lt_of_le hk he.size)).trans (he.block k hk)) h
theorem NB.F {w : World} {B : Nat} {A : Option Addr} {n c : Nat} {xs : List Int} (h : NB w B (.slice A n c) xs) {ok : Nat → Prop} (hok : ∀ k, (Value.slice A n c).ownBlock = some k → ok k) : Kd.F kb w ok A n xs :=
  Kd.N_F (Kd.R_N (Kd.R_mono (Kd.R_tight (d := kb) rfl h) (fun k hk => hok k hk.symm)))
def NbQ (B : Nat) (xs : List Int) (u : Value) (w : World) : Prop := NB w B u xs
theorem NbQ.ext {B : Nat} {xs : List Int} {u : Value} {w w' : World} (h : NbQ B xs u w) (he : Ext w w') : NbQ B xs u w' := Kd.R_below (show NB w B u xs from h) he
section
variable {P : Program} {w : World} {ops : Array Oper} {rest : List Oper} {o : Oper} {a : Act} {Q : Exit → Act → World → Prop}
theorem gate_mapup {ty : TypeId} {x y z : Operand} (_ho : o.op = .mapUpdate ty x y z) (h : wpList P ops Q (o :: rest) a w) : wpList P ops Q (o :: rest) a w := h
end

set_option maxRecDepth 100000 in
set_option maxHeartbeats 2000000 in
theorem write_down {w : World} {bd bl bc br n : Nat} {LV : List Value} {CV : List (Int × Value)} {ar : Bool} {lf : Int} {wr : Int} {rd : List Int} (h : DV w bd bl bc br n LV CV ar lf true wr rd) (i : Int) (A : Option Addr) (m c : Nat) :
    Calls Try.prog 18 #[.pointer (some ⟨bd, 0, none⟩), .int .i64 i, .slice A m c] w fun e w' => e = .returned (.int .i64 12) ∧ w = w' := by
  have HD := Aside0.mk h
  obtain ⟨c0, c1, c2, c3, c4, c5, c6⟩ := h.cells
  clear h
  go_enter Try.func18, Try.ntmps18
  go_wp2
  go_ret
  exact ⟨rfl, rfl⟩
set_option maxRecDepth 100000 in
set_option maxHeartbeats 2000000 in
theorem write_wrong {w : World} {bd bl bc br n : Nat} {LV : List Value} {CV : List (Int × Value)} {ar : Bool} {lf : Int} {wr : Int} {rd : List Int} (h : DV w bd bl bc br n LV CV ar lf false wr rd) (i : Int) (A : Option Addr) (m c : Nat) (q : Int) (hq : wrongF i n m = q) (hq0 : ¬ q = 0) :
    Calls Try.prog 18 #[.pointer (some ⟨bd, 0, none⟩), .int .i64 i, .slice A m c] w fun e w' => e = .returned (.int .i64 q) ∧ w = w' := by
  have HW := Aside0.mk (wrong_calls h i A m c)
  have HD := Aside0.mk h
  obtain ⟨c0, c1, c2, c3, c4, c5, c6⟩ := h.cells
  clear h
  rw [hq] at HW
  clear hq
  go_enter Try.func18, Try.ntmps18
  go_wp2_with fail
  refine HW.out.mono ?_
  rintro e w1 ⟨rfl, rfl⟩
  clear HW
  go_wp2
  go_ret
  exact ⟨rfl, rfl⟩
set_option maxRecDepth 100000 in
set_option maxHeartbeats 2000000 in
theorem write_spent {w : World} {bd bl bc br n : Nat} {LV : List Value} {CV : List (Int × Value)} {ar : Bool} {lf : Int} {wr : Int} {rd : List Int} (h : DV w bd bl bc br n LV CV ar lf false wr rd) (i : Int) (A : Option Addr) (m c : Nat) (hq : wrongF i n m = 0) (hs : downF ar lf false = true) :
    Calls Try.prog 18 #[.pointer (some ⟨bd, 0, none⟩), .int .i64 i, .slice A m c] w fun e w' => e = .returned (.int .i64 12) ∧ DV w' bd bl bc br n LV CV ar lf true wr rd ∧ Chg w w' (fun k => k = bd) := by
  have HS := Aside0.mk (spend_calls h)
  rw [(spendE_12 hs).1, (spendE_12 hs).2, hs] at HS
  have HW := Aside0.mk (wrong_calls h i A m c)
  have HD := Aside0.mk h
  obtain ⟨c0, c1, c2, c3, c4, c5, c6⟩ := h.cells
  clear h
  rw [hq] at HW
  clear hq hs
  go_enter Try.func18, Try.ntmps18
  go_wp2_with fail
  refine HW.out.mono ?_
  rintro e w1 ⟨rfl, rfl⟩
  clear HW
  go_wp2_with fail
  refine HS.out.mono ?_
  rintro e w2 ⟨rfl, hD, hC⟩
  have HD2 := Aside0.mk hD
  have HC2 := Aside0.mk hC
  clear hD hC HS c0 c1 c2 c3 c4 c5 c6
  go_wp2
  go_ret
  exact ⟨rfl, HD2.out, HC2.out⟩
set_option maxRecDepth 100000 in
set_option maxHeartbeats 8000000 in
theorem write_ok {w : World} {bd bl bc br n : Nat} {LV : List Value} {CV : List (Int × Value)} {ar : Bool} {lf : Int} {wr : Int} {rd : List Int} (h : DV w bd bl bc br n LV CV ar lf false wr rd) (i : Int) (A : Option Addr) (m c : Nat) (xs : List Int) (hn : m = xs.length) (hr : Kd.F kb w (fun k => ¬ Dst bd bl bc br k) A m xs) (hc : m ≤ c) (hq : wrongF i n m = 0) (hs : downF ar lf false = false) :
    Calls Try.prog 18 #[.pointer (some ⟨bd, 0, none⟩), .int .i64 i, .slice A m c] w fun e w' => ∃ U, e = .returned (.int .i64 0) ∧ NB w' w.heap.size U xs ∧ DV w' bd bl bc br n LV (putA CV i U) ar (wrap64 (lf - 1)) false (wrap64 (wr + 1)) rd ∧ Chg w w' (Dst bd bl bc br) := by
  have HS := Aside0.mk (spend_calls h)
  rw [(spendE_0 hs).1, (spendE_0 hs).2, hs] at HS
  have HW := Aside0.mk (wrong_calls h i A m c)
  have HD := Aside0.mk h
  obtain ⟨c0, c1, c2, c3, c4, c5, c6⟩ := h.cells
  clear h
  rw [hq] at HW
  have hin : inB i n = true := by
    cases hb : inB i n with
    | true => rfl
    | false => unfold wrongF at hq; rw [hb, if_pos rfl] at hq; cases hq
  have hm : m ≤ 1024 := by
    unfold wrongF at hq
    rw [hin, if_neg (by decide)] at hq
    rcases Nat.lt_or_ge 1024 m with h | h
    · rw [if_pos h] at hq; cases hq
    · exact h
  obtain ⟨h0, h1⟩ := inB_t hin
  have hnn := HD.out.nn
  have HI := Aside0.mk (show -9223372036854775808 ≤ i ∧ i ≤ 9223372036854775807 from ⟨by omega, by omega⟩)
  have HIN := Aside0.mk (show 0 ≤ i ∧ i < n from ⟨h0, h1⟩)
  have HN := Aside0.mk hn
  have hcl : (CV.length : Int) ≤ n - 0 := rise_length HD.out.ks (by omega) HD.out.kr
  have HCL := Aside0.mk (show CV.length < maxLen by unfold maxLen; omega)
  clear hq hs hn hin h0 h1 hcl
  go_enter Try.func18, Try.ntmps18
  go_wp2_with fail
  refine HW.out.mono ?_
  rintro e w1 ⟨rfl, rfl⟩
  clear HW
  go_wp2_with fail
  refine HS.out.mono ?_
  rintro e w2 ⟨rfl, hD, hC⟩
  have HD2 := Aside0.mk hD
  have HC2 := Aside0.mk hC
  have HR2 := Aside0.mk (Kd.F_now (Kd.F_step hr (fun k hk hlt => hC.block k hlt (fun e => hk (.inl e)))))
  clear hD hC HS hr c0 c1 c2 c3 c4 c5 c6
  obtain ⟨c0, c1, c2, c3, c4, c5, c6⟩ := HD2.out.cells
  go_wp2_with fail
  apply wp_region_facts 7 [RF.val _, RF.val _, RF.val _, RF.val _, RF.val _, RF.val _, RF.fact (fun u w => NbQ w2.heap.size xs u w)]
  case hm => kernel_rfl
  case hB => kernel_rfl
  simp only [List.take_succ_cons, List.take_zero, List.zip_cons_cons, List.zip_nil_left]
  (first | refine wpF_val rfl (fun w' hE hD => by unfold Yld; go_simp; exact ⟨Ext.refl _, rfl⟩) ?_ | refine wpF_valg (by rfl) (fun w' hE hD => by unfold Yld; go_simp; exact ⟨Ext.refl _, rfl⟩) ?_)
  (try simp only [Act.put, List.setIfInBounds_toArray, List.set_cons_zero, List.set_cons_succ])
  (first | refine wpF_val rfl (fun w' hE hD => by unfold Yld; go_simp; exact ⟨Ext.refl _, rfl⟩) ?_ | refine wpF_valg (by rfl) (fun w' hE hD => by unfold Yld; go_simp; exact ⟨Ext.refl _, rfl⟩) ?_)
  (try simp only [Act.put, List.setIfInBounds_toArray, List.set_cons_zero, List.set_cons_succ])
  (first | refine wpF_val rfl (fun w' hE hD => by unfold Yld; go_simp; exact ⟨Ext.refl _, rfl⟩) ?_ | refine wpF_valg (by rfl) (fun w' hE hD => by unfold Yld; go_simp; exact ⟨Ext.refl _, rfl⟩) ?_)
  (try simp only [Act.put, List.setIfInBounds_toArray, List.set_cons_zero, List.set_cons_succ])
  (first | refine wpF_val rfl (fun w' hE hD => by have hc1 := Ext.cell hE c1; unfold Yld; go_simp; exact ⟨Ext.refl _, rfl⟩) ?_ | refine wpF_valg (by rfl) (fun w' hE hD => by have hc1 := Ext.cell hE c1; unfold Yld; go_simp; exact ⟨Ext.refl _, rfl⟩) ?_)
  (try simp only [Act.put, List.setIfInBounds_toArray, List.set_cons_zero, List.set_cons_succ])
  (first | refine wpF_val rfl (fun w' hE hD => by unfold Yld; go_simp; exact ⟨Ext.refl _, rfl⟩) ?_ | refine wpF_valg (by rfl) (fun w' hE hD => by unfold Yld; go_simp; exact ⟨Ext.refl _, rfl⟩) ?_)
  (try simp only [Act.put, List.setIfInBounds_toArray, List.set_cons_zero, List.set_cons_succ])
  (first | refine wpF_val rfl (fun w' hE hD => by unfold Yld; go_simp; exact ⟨Ext.refl _, rfl⟩) ?_ | refine wpF_valg (by rfl) (fun w' hE hD => by unfold Yld; go_simp; exact ⟨Ext.refl _, rfl⟩) ?_)
  (try simp only [Act.put, List.setIfInBounds_toArray, List.set_cons_zero, List.set_cons_succ])
  refine wpF_fact rfl (fun u Wa Wb h he => h.ext he) (fun w' hE hD => ?_) (fun u31 => ?_)
  · unfold Yld; go_simp; exact (clone_calls w' A m c xs HN.out (Kd.C_below HR2.out hE) hc (by omega)).mono fun e w2 h => by obtain ⟨U, h1, h2, h3⟩ := h; exact ⟨U, h1, h3, h2.lower hE.size⟩
  (try simp only [Act.put, List.setIfInBounds_toArray, List.set_cons_zero, List.set_cons_succ])
  refine wpF_nil fun w3 hE3 hA => ?_
  simp only [List.drop_succ_cons, List.drop_zero]
  have HU := Aside0.mk (show NB w3 w2.heap.size u31 xs from hA.1)
  have HD3 := Aside0.mk (HD2.out.ext hE3)
  have HC3 := Aside0.mk ((HC2.out.mono (fun k hk => .inl hk) : Chg w w2 (Dst bd bl bc br)).ext hE3)
  have HK := Aside0.mk HC2.out.size
  clear hA hE3 c0 c1 c2 c3 c4 c5 c6 HD2 HC2 HR2
  refine wpList_mapUpdate_in _ rfl (.tmp 28) (.tmp 29) (.tmp 31) 70 rfl 3 29 (Maps.int_keyed Try.underlying3) Try.underlying70 RM bc CV.length (mapD CV) rfl HD3.out.hm HCL.out _ _ (.int .i64 i) rfl rfl (Maps.keyOf_int_mk Try.underlying3 (i64_wf HI.out)) (.held u31) [] rfl ?_
  intro w4 hM4 hT4
  rw [mapD_put] at hM4
  have HD4 := Aside0.mk (HD3.out.setM hT4 hM4 (rise_putA HD3.out.ks i u31) (putA_range HD3.out.kr HIN.out u31) (putA_all HD3.out.sc HU.out.isSl))
  have hcc := HD3.out.maps hT4
  have HU4 := Aside0.mk (HU.out.chg hcc (HU.out.apart HD3.out))
  have HC4 := Aside0.mk (HC3.out.trans hcc)
  clear hM4 hT4 hcc HD3 HC3 HU
  obtain ⟨c0, c1, c2, c3, c4, c5, c6⟩ := HD4.out.cells
  have f5 := HD4.out.hd.free 5
  go_wp2_with fail
  have HB := Aside0.mk (show Blk (w4.setCell ⟨bd, 5, none⟩ (.int .i64 (wrap64 (wr + 1)))) bd (dskC bl bc br n ar (wrap64 (lf - 1)) false (wrap64 (wr + 1))).toArray 72 by simpa [dskC] using HD4.out.hd.set 5 (.int .i64 (wrap64 (wr + 1))))
  have HW5 := Aside0.mk (Wrote.setCell w4 bd 5 (.int .i64 (wrap64 (wr + 1))))
  have hcc := Chg.of_wrote (S := Dst bd bl bc br) HW5.out (.inl rfl)
  go_ret
  exact ⟨u31, rfl, (HU4.out.chg hcc (HU4.out.apart HD4.out)).lower HK.out, HD4.out.set _ _ _ _ HW5.out HB.out, HC4.out.trans hcc⟩
end Go.Proofs.Ytkgjcmolmogpdaa.By

/- The disk's methods: Tamper, New. -/
namespace Go.Proofs.Ytkgjcmolmogpdaa.By
open Go.RowKit Go.Proofs.Ytkgjcmolmogpdaa.Reg Go.Proofs.YtkgjcmolmogpdaaW.PrintWords Go.Proofs.YtkgjcmolmogpdaaW.PrintLast Go.Proofs.YtkgjcmolmogpdaaW.PrintMore
set_option linter.unusedVariables false
set_option linter.unusedSimpArgs false


set_option maxRecDepth 100000 in
set_option maxHeartbeats 2000000 in
theorem tamper_wrong {w : World} {bd bl bc br n : Nat} {LV : List Value} {CV : List (Int × Value)} {ar : Bool} {lf : Int} {of : Bool} {wr : Int} {rd : List Int} (h : DV w bd bl bc br n LV CV ar lf of wr rd) (i : Int) (A : Option Addr) (m c : Nat) (q : Int) (hq : wrongF i n m = q) (hq0 : ¬ q = 0) :
    Calls Try.prog 28 #[.pointer (some ⟨bd, 0, none⟩), .int .i64 i, .slice A m c] w fun e w' => e = .returned (.int .i64 q) ∧ w = w' := by
  have HW := Aside0.mk (wrong_calls h i A m c)
  have HD := Aside0.mk h
  obtain ⟨c0, c1, c2, c3, c4, c5, c6⟩ := h.cells
  clear h
  rw [hq] at HW
  clear hq
  go_enter Try.func28, Try.ntmps28
  go_wp2_with fail
  refine HW.out.mono ?_
  rintro e w1 ⟨rfl, rfl⟩
  clear HW
  go_wp2
  go_ret
  exact ⟨rfl, rfl⟩
theorem delA_range {α : Type} {l : List (Int × α)} {n : Nat} (h : ∀ p ∈ l, 0 ≤ p.1 ∧ p.1 < n) (i : Int) : ∀ p ∈ delA l i, 0 ≤ p.1 ∧ p.1 < n := fun p hp => h p (mem_delA.1 hp).1
set_option maxRecDepth 100000 in
set_option maxHeartbeats 8000000 in
theorem tamper_ok {w : World} {bd bl bc br n : Nat} {LV : List Value} {CV : List (Int × Value)} {ar : Bool} {lf : Int} {of : Bool} {wr : Int} {rd : List Int} (h : DV w bd bl bc br n LV CV ar lf of wr rd) (i : Int) (A : Option Addr) (m c : Nat) (xs : List Int) (hn : m = xs.length) (hr : Kd.F kb w (fun k => ¬ Dst bd bl bc br k) A m xs) (hc : m ≤ c) (hq : wrongF i n m = 0) :
    Calls Try.prog 28 #[.pointer (some ⟨bd, 0, none⟩), .int .i64 i, .slice A m c] w fun e w' => ∃ U, e = .returned (.int .i64 0) ∧ NB w' w.heap.size U xs ∧ DV w' bd bl bc br n (LV.set i.toNat U) (delA CV i) ar lf of wr rd ∧ Chg w w' (Dst bd bl bc br) := by
  have HW := Aside0.mk (wrong_calls h i A m c)
  have HD := Aside0.mk h
  obtain ⟨c0, c1, c2, c3, c4, c5, c6⟩ := h.cells
  clear h
  rw [hq] at HW
  have hin : inB i n = true := by
    cases hb : inB i n with
    | true => rfl
    | false => unfold wrongF at hq; rw [hb, if_pos rfl] at hq; cases hq
  have hm : m ≤ 1024 := by
    unfold wrongF at hq
    rw [hin, if_neg (by decide)] at hq
    rcases Nat.lt_or_ge 1024 m with h | h
    · rw [if_pos h] at hq; cases hq
    · exact h
  obtain ⟨h0, h1⟩ := inB_t hin
  have hnn := HD.out.nn
  obtain ⟨k, rfl⟩ : ∃ k : Nat, i = k := ⟨i.toNat, by omega⟩
  have hkl : k < LV.length := by rw [HD.out.ll]; omega
  have HI := Aside0.mk (show -9223372036854775808 ≤ (k : Int) ∧ (k : Int) ≤ 9223372036854775807 from ⟨by omega, by omega⟩)
  have HN := Aside0.mk hn
  have HR := Aside0.mk (Kd.F_now hr)
  have hkn : (k : Int) < n := h1
  clear hq hn hr hin h0 h1
  go_enter Try.func28, Try.ntmps28
  go_wp2_with fail
  refine HW.out.mono ?_
  rintro e w1 ⟨rfl, rfl⟩
  clear HW
  go_wp2_with fail
  apply wp_region_facts 8 [RF.val _, RF.val _, RF.val _, RF.val _, RF.val _, RF.val _, RF.fact (fun u w' => NbQ w.heap.size xs u w'), RF.val _]
  case hm => kernel_rfl
  case hB => kernel_rfl
  simp only [List.take_succ_cons, List.take_zero, List.zip_cons_cons, List.zip_nil_left]
  (first | refine wpF_val rfl (fun w' hE hD => by unfold Yld; go_simp; exact ⟨Ext.refl _, rfl⟩) ?_ | refine wpF_valg (by rfl) (fun w' hE hD => by unfold Yld; go_simp; exact ⟨Ext.refl _, rfl⟩) ?_)
  (try simp only [Act.put, List.setIfInBounds_toArray, List.set_cons_zero, List.set_cons_succ])
  (first | refine wpF_val rfl (fun w' hE hD => by unfold Yld; go_simp; exact ⟨Ext.refl _, rfl⟩) ?_ | refine wpF_valg (by rfl) (fun w' hE hD => by unfold Yld; go_simp; exact ⟨Ext.refl _, rfl⟩) ?_)
  (try simp only [Act.put, List.setIfInBounds_toArray, List.set_cons_zero, List.set_cons_succ])
  (first | refine wpF_val rfl (fun w' hE hD => by unfold Yld; go_simp; exact ⟨Ext.refl _, rfl⟩) ?_ | refine wpF_valg (by rfl) (fun w' hE hD => by unfold Yld; go_simp; exact ⟨Ext.refl _, rfl⟩) ?_)
  (try simp only [Act.put, List.setIfInBounds_toArray, List.set_cons_zero, List.set_cons_succ])
  (first | refine wpF_val rfl (fun w' hE hD => by have hc0 := Ext.cell hE c0; unfold Yld; go_simp; exact ⟨Ext.refl _, rfl⟩) ?_ | refine wpF_valg (by rfl) (fun w' hE hD => by have hc0 := Ext.cell hE c0; unfold Yld; go_simp; exact ⟨Ext.refl _, rfl⟩) ?_)
  (try simp only [Act.put, List.setIfInBounds_toArray, List.set_cons_zero, List.set_cons_succ])
  (first | refine wpF_val rfl (fun w' hE hD => by unfold Yld; go_simp; exact ⟨Ext.refl _, rfl⟩) ?_ | refine wpF_valg (by rfl) (fun w' hE hD => by unfold Yld; go_simp; exact ⟨Ext.refl _, rfl⟩) ?_)
  (try simp only [Act.put, List.setIfInBounds_toArray, List.set_cons_zero, List.set_cons_succ])
  (first | refine wpF_val rfl (fun w' hE hD => by unfold Yld; go_simp; exact ⟨Ext.refl _, rfl⟩) ?_ | refine wpF_valg (by rfl) (fun w' hE hD => by unfold Yld; go_simp; exact ⟨Ext.refl _, rfl⟩) ?_)
  (try simp only [Act.put, List.setIfInBounds_toArray, List.set_cons_zero, List.set_cons_succ])
  refine wpF_fact rfl (fun u Wa Wb h he => h.ext he) (fun w' hE hD => ?_) (fun u21 => ?_)
  · unfold Yld; go_simp; exact (clone_calls w' A m c xs HN.out (Kd.C_below HR.out hE) hc (by omega)).mono fun e w2 h => by obtain ⟨U, h1, h2, h3⟩ := h; exact ⟨U, h1, h3, h2.lower hE.size⟩
  (try simp only [Act.put, List.setIfInBounds_toArray, List.set_cons_zero, List.set_cons_succ])
  (first | refine wpF_val rfl (fun w' hE hD => by unfold Yld; go_simp; exact ⟨Ext.refl _, rfl⟩) ?_ | refine wpF_valg (by rfl) (fun w' hE hD => by unfold Yld; go_simp; exact ⟨Ext.refl _, rfl⟩) ?_)
  (try simp only [Act.put, List.setIfInBounds_toArray, List.set_cons_zero, List.set_cons_succ])
  refine wpF_nil fun w3 hE3 hA => ?_
  simp only [List.drop_succ_cons, List.drop_zero]
  have hu := show NB w3 w.heap.size u21 xs from hA.1
  obtain ⟨A1, c1', hU, _, _⟩ := hu.reads
  subst hU
  have HU := Aside0.mk hu
  have HD3 := Aside0.mk (HD.out.ext hE3)
  have HC3 := Aside0.mk (Chg.of_ext hE3 (Dst bd bl bc br))
  clear hA hE3 c0 c1 c2 c3 c4 c5 c6 hu
  have hvL := HD3.out.hl.cell k (v := LV[k]) (by simp [hkl])
  have hfL := HD3.out.hl.free k
  obtain ⟨AL, nL, cL, hLV⟩ := HD3.out.sl _ (List.getElem_mem hkl)
  rw [hLV] at hvL
  obtain ⟨nx, hnx⟩ : ∃ q, q = xs.length := ⟨_, rfl⟩
  rw [← hnx] at HU ⊢
  have HD4 := Aside0.mk (HD3.out.setL k (.slice A1 nx c1') ⟨_, _, _, rfl⟩)
  have hcc := Chg.of_wrote (S := Dst bd bl bc br) (Wrote.setCell w3 bl k (.slice A1 nx c1')) (.inr (.inl rfl))
  have HU4 := Aside0.mk (HU.out.chg hcc (HU.out.apart HD3.out))
  have HC4 := Aside0.mk (HC3.out.trans hcc)
  have HM := Aside0.mk HD4.out.hm
  obtain ⟨c0, c1, c2, c3, c4, c5, c6⟩ := HD3.out.cells
  have hbl : bl ≠ bd := Ne.symm HD3.out.ne_dl
  clear hcc HC3 HU hLV hnx HD3
  go_wp2_with (first | (at_delete; refine wpList_delete_own _ rfl _ _ 70 3 rfl 29 (Maps.int_keyed Try.underlying3) Try.underlying70 RM bc CV.length (mapD CV) rfl HM.out _ (.int .i64 (k : Int)) rfl (Maps.keyOf_int_mk Try.underlying3 (i64_wf HI.out)) ?_) | fail)
  clear hvL hfL c0 c1 c2 c3 c4 c5 c6
  generalize w3.setCell ⟨bl, k, none⟩ (.slice A1 nx c1') = w4 at *
  intro w5 hM hT
  rw [mapD_del] at hM
  have HD5 := Aside0.mk (HD4.out.setM hT hM (rise_delA HD4.out.ks _) (delA_range HD4.out.kr _) (fun p hp => HD4.out.sc p (mem_delA.1 hp).1))
  have hcc := HD4.out.maps hT
  have HU5 := Aside0.mk (HU4.out.chg hcc (HU4.out.apart HD4.out))
  have HC5 := Aside0.mk (HC4.out.trans hcc)
  clear hM hT hcc HM HD4 HU4 HC4
  go_wp2_with fail
  go_ret
  exact ⟨_, rfl, HU5.out, HD5.out, HC5.out⟩

/-! New -/
section
variable {P : Program} {w : World} {ops : Array Oper} {rest : List Oper} {o : Oper} {a : Act} {Q : Exit → Act → World → Prop}
theorem Yld_build (t : TypeId) (parts : Array (Nat × Operand)) (ho : o.op = .build t parts) (cells : Array Value) (vals : List (Nat × Value)) (he : parts.toList.map (fun p => (p.1, a.eval p.2)) = vals) (h : P.built t vals = some cells) : Yld P o a w (.val (.agg cells)) := by
  have h' : P.built t (parts.map fun (i, x) => (i, a.eval x)).toList = some cells := by rw [Array.toList_map, ← h, ← he]
  unfold Yld execOp
  simp only [ho, Sem.run_bind, run_build w t _ _ h', Result.andThen_ok, Sem.run_pure]
  exact ⟨Ext.refl _, rfl⟩
theorem gate_build {ty : TypeId} {x : Array (Nat × Operand)} (_ho : o.op = .build ty x) (h : wpList P ops Q (o :: rest) a w) : wpList P ops Q (o :: rest) a w := h
theorem build_at (hw : Region.wanted o (yielded ops a.tmps) = true) (t : TypeId) (parts : Array (Nat × Operand)) (ho : o.op = .build t parts) (cells : Array Value) (vals : List (Nat × Value)) (he : parts.toList.map (fun p => (p.1, a.eval p.2)) = vals) (hb : P.built t vals = some cells)
    (h : wpList P ops Q rest (a.put o.dst (.agg cells)) w) : wpList P ops Q (o :: rest) a w :=
  have h' : P.built t (parts.map fun (i, x) => (i, a.eval x)).toList = some cells := by rw [Array.toList_map, ← hb, ← he]
  BigFrame.wpList_want hw fun K hK => wp_build t parts ho (by rw [h']; rfl) (by rw [h']; exact hK _ _ h)
end
theorem made_one (z : Value) (h : z.cells = #[z]) (n : Nat) : madeCells z.cells (n * 1) = (List.replicate n z).toArray := by
  rw [h, Nat.mul_one]
  unfold madeCells
  apply Array.ext
  · simp
  · intro i h1 h2
    simp [Nat.mod_one]
def RowQ (B n : Nat) (z : Value) (t : TypeId) (u : Value) (w : World) : Prop := ∃ b, u = .slice (some ⟨b, 0, none⟩) n n ∧ B ≤ b ∧ Blk w b (List.replicate n z).toArray t
def MapQ (B : Nat) (u : Value) (w : World) : Prop := ∃ b, u = .map (some b) ∧ B ≤ b ∧ w.ownsMap Try.prog 3 RM b 0 (mapD [])
theorem RowQ.ext {B n : Nat} {z : Value} {t : TypeId} {u : Value} {w w' : World} (h : RowQ B n z t u w) (he : Ext w w') : RowQ B n z t u w' := by
  obtain ⟨b, h1, h2, h3⟩ := h
  exact ⟨b, h1, h2, h3.ext he⟩
theorem MapQ.ext {B : Nat} {u : Value} {w w' : World} (h : MapQ B u w) (he : Ext w w') : MapQ B u w' := by
  obtain ⟨b, h1, h2, h3⟩ := h
  exact ⟨b, h1, h2, (Chg.of_ext he (fun _ => False)).map h3 (fun h => h)⟩
def BoxQ (B : Nat) (cs : Array Value) (t : TypeId) (u : Value) (w : World) : Prop := ∃ b, u = .pointer (some ⟨b, 0, none⟩) ∧ B ≤ b ∧ Blk w b cs t
theorem BoxQ.ext {B : Nat} {cs : Array Value} {t : TypeId} {u : Value} {w w' : World} (h : BoxQ B cs t u w) (he : Ext w w') : BoxQ B cs t u w' := by
  obtain ⟨b, h1, h2, h3⟩ := h
  exact ⟨b, h1, h2, h3.ext he⟩
theorem info_of {e : TypeId} {x : Option Value × Nat × Nat} (h : (Try.prog.info? e).map (fun i => (i.zero, i.size, i.bytes)) = some x) : ∃ i, Try.prog.info? e = some i ∧ (i.zero, i.size, i.bytes) = x := Option.map_eq_some_iff.1 h
/-- 'make([]T, n)' in a drawn region. -/
theorem Yld_make {w : World} {o : Oper} {a : Act} (B : Nat) (t e : TypeId) (x y : Operand) (ho : o.op = .makeSlice t x y) (n : Nat) (hx : a.eval x = .int .i64 n) (hy : a.eval y = .int .i64 n) (ht : Try.prog.underlying t = some (.slice e)) (z : Value) (bytes : Nat)
    (hi : (Try.prog.info? e).map (fun i => (i.zero, i.size, i.bytes)) = some (some z, 1, bytes)) (hz : z.cells = #[z]) (hb : bytes ≤ 64) (hn : n ≤ 4096) (hB : B ≤ w.heap.size) : Yld Try.prog o a w (.fact (fun u w => RowQ B n z e u w)) := by
  obtain ⟨i, hi1, hi2⟩ := info_of hi
  injection hi2 with h1 h2
  injection h2 with h2 h3
  have hr := run_make (P := Try.prog) (w := w) t e i z ht hi1 h1 .i64 .i64 (n : Int) (n : Int) (by omega) (by omega) (by
    rw [h3]
    have : ((bytes * n : Nat) : Int) ≤ ((64 * 4096 : Nat) : Int) := Int.ofNat_le.2 (Nat.mul_le_mul hb hn)
    rw [Int.natCast_mul] at this
    omega) (by omega)
  rw [h2, Int.toNat_natCast, made_one z hz n] at hr
  unfold Yld execOp
  simp only [ho, hx, hy, Sem.run_bind, hr, Result.andThen_ok, Sem.run_pure]
  exact ⟨(Ext.refl w).alloc _, w.heap.size, rfl, hB, Blk.new _ _ _⟩
theorem Yld_map {w : World} {o : Oper} {a : Act} (B : Nat) (ho : o.op = .makeMap 70 none) (hB : B ≤ w.heap.size) : Yld Try.prog o a w (.fact (fun u w => MapQ B u w)) := by
  have hr := run_makeMap (P := Try.prog) 70 w
  unfold Yld execOp
  simp only [ho, Sem.run_bind, Option.map_none, hr, Result.andThen_ok, Sem.run_pure]
  exact ⟨(Ext.refl w).alloc _, w.heap.size, rfl, hB, World.ownsMap_made w Try.prog 3 RM⟩
theorem Yld_box {w : World} {o : Oper} {a : Act} (B : Nat) (t : TypeId) (x : Operand) (ho : o.op = .box t x) (cs : Array Value) (hx : a.eval x = .agg cs) (hB : B ≤ w.heap.size) : Yld Try.prog o a w (.fact (fun u w => BoxQ B cs t u w)) := by
  unfold Yld execOp
  simp only [ho, hx]
  go_simp
  exact ⟨(Ext.refl w).alloc _, w.heap.size, rfl, hB, Blk.new _ _ _⟩
theorem Yld_imp {P : Program} {o : Oper} {a : Act} {w : World} {v : Value} {p : Value → World → Prop} (h : Yld P o a w (.val v)) (hp : ∀ w', Ext w w' → p v w') : Yld P o a w (.fact p) := by
  unfold Yld at h ⊢
  generalize (execOp a.eval o).run P w = r at *
  cases r with
  | halt x w' => exact h.elim
  | ok n w' =>
    cases n with
    | value u => obtain ⟨h1, rfl⟩ := (show Ext w w' ∧ u = v from h); exact ⟨h1, hp w' h1⟩
    | skip => obtain ⟨h1, h2⟩ := (show Ext w w' ∧ undef = v from h); exact ⟨h1, by rw [h2]; exact hp w' h1⟩
    | enter g args =>
      obtain ⟨h1⟩ := (show Nonempty (Calls P g args w' fun e w2 => ∃ u, e = .returned u ∧ Ext w w2 ∧ u = v) from ⟨h⟩)
      exact h1.mono fun e w2 ⟨u, e1, e2, e3⟩ => ⟨u, e1, e2, by subst e3; exact hp w2 e2⟩
    | _ => exact h.elim
def BldQ (B n : Nat) (u : Value) (w : World) : Prop := ∃ bl bc br, u = .agg (dskC bl bc br n false 0 false 0).toArray ∧ (B ≤ bl ∧ B ≤ bc ∧ B ≤ br) ∧ Blk w bl (List.replicate n (.slice none 0 0)).toArray 29 ∧ w.ownsMap Try.prog 3 RM bc 0 (mapD []) ∧ Blk w br (List.replicate n (.int .i64 0)).toArray 3
theorem BldQ.ext {B n : Nat} {u : Value} {w w' : World} (h : BldQ B n u w) (he : Ext w w') : BldQ B n u w' := by
  obtain ⟨bl, bc, br, h1, h2, h3, h4, h5⟩ := h
  exact ⟨bl, bc, br, h1, h2, h3.ext he, (Chg.of_ext he (fun _ => False)).map h4 (fun h => h), h5.ext he⟩
def NewQ (B n : Nat) (u : Value) (w : World) : Prop := ∃ bd bl bc br, u = .pointer (some ⟨bd, 0, none⟩) ∧ DV w bd bl bc br n (List.replicate n (.slice none 0 0)) [] false 0 false 0 (List.replicate n 0) ∧ (∀ k, Dst bd bl bc br k → B ≤ k)
theorem NewQ.ext {B n : Nat} {u : Value} {w w' : World} (h : NewQ B n u w) (he : Ext w w') : NewQ B n u w' := by
  obtain ⟨bd, bl, bc, br, h1, h2, h3⟩ := h
  exact ⟨bd, bl, bc, br, h1, h2.ext he, h3⟩
theorem built_dsk (b1 b2 b3 n : Nat) : Program.built Try.prog 72 [(0, .slice (some ⟨b1, 0, none⟩) n n), (1, .map (some b2)), (6, .slice (some ⟨b3, 0, none⟩) n n)] = some (dskC b1 b2 b3 n false 0 false 0).toArray := by kernel_rfl
set_option maxRecDepth 100000 in
set_option maxHeartbeats 2000000 in
theorem new_no (w : World) (x : Int) (hx : x < 1 ∨ 4096 < x) : Calls Try.prog 15 #[.int .i64 x] w fun e w' => e = .returned (.tuple #[.pointer none, .int .i64 7]) ∧ w = w' := by
  by_cases h1 : x < 1
  · go_enter Try.func15, Try.ntmps15
    go_wp2
    go_ret2
    exact ⟨rfl, rfl⟩
  · have h2 : 4096 < x := by omega
    go_enter Try.func15, Try.ntmps15
    go_wp2
    go_ret2
    exact ⟨rfl, rfl⟩
set_option maxRecDepth 100000 in
set_option maxHeartbeats 8000000 in
theorem new_ok (w : World) (n : Nat) (h0 : 1 ≤ n) (h1 : n ≤ 4096) : Calls Try.prog 15 #[.int .i64 n] w fun e w' => ∃ bd bl bc br, e = .returned (.tuple #[.pointer (some ⟨bd, 0, none⟩), .int .i64 0]) ∧
    DV w' bd bl bc br n (List.replicate n (.slice none 0 0)) [] false 0 false 0 (List.replicate n 0) ∧ Ext w w' ∧ (∀ k, Dst bd bl bc br k → w.heap.size ≤ k) := by
  go_enter Try.func15, Try.ntmps15
  go_wp2_with fail
  apply wp_region_facts 9 [RF.val _, RF.fact (fun u w' => RowQ w.heap.size n (.slice none 0 0) 29 u w'), RF.fact (fun u w' => MapQ w.heap.size u w'), RF.val _, RF.fact (fun u w' => RowQ w.heap.size n (.int .i64 0) 3 u w'), RF.fact (fun u w' => BldQ w.heap.size n u w'), RF.fact (fun u w' => NewQ w.heap.size n u w'), RF.fact (fun u w' => NewQ w.heap.size n u w'), RF.val _]
  case hm => kernel_rfl
  case hB => kernel_rfl
  simp only [List.take_succ_cons, List.take_zero, List.zip_cons_cons, List.zip_nil_left]
  (first | refine wpF_val rfl (fun w' hE hD => by unfold Yld; go_simp; exact ⟨Ext.refl _, rfl⟩) ?_ | refine wpF_valg (by rfl) (fun w' hE hD => by unfold Yld; go_simp; exact ⟨Ext.refl _, rfl⟩) ?_)
  (try simp only [Act.put, List.setIfInBounds_toArray, List.set_cons_zero, List.set_cons_succ])
  refine wpF_fact rfl (fun u Wa Wb h he => h.ext he) (fun w' hE hD => ?_) (fun u11 => ?_)
  · exact Yld_make w.heap.size 22 29 (.tmp 10) (.tmp 10) rfl n rfl rfl Try.underlying22 (.slice none 0 0) 24 (by kernel_rfl) rfl (by decide) h1 hE.size
  (try simp only [Act.put, List.setIfInBounds_toArray, List.set_cons_zero, List.set_cons_succ])
  refine wpF_fact rfl (fun u Wa Wb h he => h.ext he) (fun w' hE hD => ?_) (fun u12 => ?_)
  · exact Yld_map w.heap.size rfl hE.size
  (try simp only [Act.put, List.setIfInBounds_toArray, List.set_cons_zero, List.set_cons_succ])
  (first | refine wpF_val rfl (fun w' hE hD => by unfold Yld; go_simp; exact ⟨Ext.refl _, rfl⟩) ?_ | refine wpF_valg (by rfl) (fun w' hE hD => by unfold Yld; go_simp; exact ⟨Ext.refl _, rfl⟩) ?_)
  (try simp only [Act.put, List.setIfInBounds_toArray, List.set_cons_zero, List.set_cons_succ])
  refine wpF_fact rfl (fun u Wa Wb h he => h.ext he) (fun w' hE hD => ?_) (fun u14 => ?_)
  · exact Yld_make w.heap.size 23 3 (.tmp 13) (.tmp 13) rfl n rfl rfl Try.underlying23 (.int .i64 0) 8 (by kernel_rfl) rfl (by decide) h1 hE.size
  (try simp only [Act.put, List.setIfInBounds_toArray, List.set_cons_zero, List.set_cons_succ])
  refine wpF_fact rfl (fun u Wa Wb h he => h.ext he) (fun w' hE hD => ?_) (fun u15 => ?_)
  · obtain ⟨b1, e1, g1, k1⟩ := hD.1 (by kernel_rfl)
    obtain ⟨b2, e2, g2, k2⟩ := hD.2.1 (by kernel_rfl)
    obtain ⟨b3, e3, g3, k3⟩ := hD.2.2.1 (by kernel_rfl)
    subst e1
    subst e2
    subst e3
    exact Yld_imp (Yld_build 72 #[(0, .tmp 11), (1, .tmp 12), (6, .tmp 14)] rfl _ [(0, .slice (some ⟨b1, 0, none⟩) n n), (1, .map (some b2)), (6, .slice (some ⟨b3, 0, none⟩) n n)] rfl (built_dsk b1 b2 b3 n)) (fun w2 he2 => ⟨b1, b2, b3, rfl, ⟨g1, g2, g3⟩, k1.ext he2, (Chg.of_ext he2 (fun _ => False)).map k2 (fun h => h), k3.ext he2⟩)
  (try simp only [Act.put, List.setIfInBounds_toArray, List.set_cons_zero, List.set_cons_succ])
  refine wpF_fact rfl (fun u Wa Wb h he => h.ext he) (fun w' hE hD => ?_) (fun u16 => ?_)
  · obtain ⟨b1, b2, b3, e1, g1, k1, k2, k3⟩ := hD.2.2.2.1 (by kernel_rfl)
    subst e1
    unfold Yld
    go_simp
    have he2 := (Ext.refl w').alloc (.cells (dskC b1 b2 b3 n false 0 false 0).toArray 72)
    exact ⟨he2, w'.heap.size, b1, b2, b3, rfl, ⟨Blk.new _ _ _, k1.ext he2, (Chg.of_ext he2 (fun _ => False)).map k2 (fun h => h), by rw [List.map_replicate]; exact k3.ext he2, List.length_replicate, List.length_replicate, List.Pairwise.nil, fun p hp => (by cases hp), ⟨h0, h1⟩, fun V hV => ⟨none, 0, 0, (List.mem_replicate.1 hV).2⟩, fun p hp => (by cases hp)⟩, fun k hk => by rcases hk with rfl | rfl | rfl | rfl; exact hE.size; exact g1.1; exact g1.2.1; exact g1.2.2⟩
  (try simp only [Act.put, List.setIfInBounds_toArray, List.set_cons_zero, List.set_cons_succ])
  refine wpF_fact rfl (fun u Wa Wb h he => h.ext he) (fun w' hE hD => ?_) (fun u2 => ?_)
  · have d := hD.2.2.2.2.1 (by kernel_rfl)
    unfold Yld
    go_simp
    exact ⟨Ext.refl _, d⟩
  (try simp only [Act.put, List.setIfInBounds_toArray, List.set_cons_zero, List.set_cons_succ])
  (first | refine wpF_val rfl (fun w' hE hD => by unfold Yld; go_simp; exact ⟨Ext.refl _, rfl⟩) ?_ | refine wpF_valg (by rfl) (fun w' hE hD => by unfold Yld; go_simp; exact ⟨Ext.refl _, rfl⟩) ?_)
  (try simp only [Act.put, List.setIfInBounds_toArray, List.set_cons_zero, List.set_cons_succ])
  refine wpF_nil fun w3 hE3 hA => ?_
  simp only [List.drop_succ_cons, List.drop_zero]
  obtain ⟨_, _, _, _, _, ⟨bd, bl, bc, br, rfl, hd, hk⟩, _⟩ := hA
  have HD := Aside0.mk hd
  clear hd
  go_wp2_with fail
  go_ret2
  exact ⟨bd, bl, bc, br, rfl, HD.out, hE3, hk⟩
end Go.Proofs.Ytkgjcmolmogpdaa.By

/- The disk's methods: Sync. -/
namespace Go.Proofs.Ytkgjcmolmogpdaa.By
open Go.RowKit Go.Proofs.Ytkgjcmolmogpdaa.Reg Go.Proofs.YtkgjcmolmogpdaaW.PrintWords Go.Proofs.YtkgjcmolmogpdaaW.PrintLast Go.Proofs.YtkgjcmolmogpdaaW.PrintMore
set_option linter.unusedVariables false
set_option linter.unusedSimpArgs false


set_option maxRecDepth 100000 in
set_option maxHeartbeats 2000000 in
theorem sync_spent {w : World} {bd bl bc br n : Nat} {LV : List Value} {CV : List (Int × Value)} {ar : Bool} {lf : Int} {of : Bool} {wr : Int} {rd : List Int} (h : DV w bd bl bc br n LV CV ar lf of wr rd) (hs : downF ar lf of = true) :
    Calls Try.prog 19 #[.pointer (some ⟨bd, 0, none⟩)] w fun e w' => e = .returned (.int .i64 12) ∧ DV w' bd bl bc br n LV CV ar lf true wr rd ∧ Chg w w' (fun k => k = bd) := by
  have HS := Aside0.mk (spend_calls h)
  rw [(spendE_12 hs).1, (spendE_12 hs).2, hs] at HS
  clear hs h
  go_enter Try.func19, Try.ntmps19
  go_wp2_with fail
  refine HS.out.mono ?_
  rintro e w2 ⟨rfl, hD, hC⟩
  have HD2 := Aside0.mk hD
  have HC2 := Aside0.mk hC
  clear hD hC HS
  go_wp2
  go_ret
  exact ⟨rfl, HD2.out, HC2.out⟩
section
variable {ops : Array Oper} {rest : List Oper} {o : Oper} {a : Act} {Q : Exit → Act → World → Prop} {w : World} {bc m : Nat} {D : DataW Value}
theorem gate_clear {x : Operand} (_ho : o.op = .call { callee := .builtin .clear, args := #[x], argTypes := #[70] }) (h : wpList Try.prog ops Q (o :: rest) a w) : wpList Try.prog ops Q (o :: rest) a w := h
open Go.ChangeMaps Go.MapKept in
theorem clear_at (hg : o.guard = none) (x : Operand) (hop : o.op = .call { callee := .builtin .clear, args := #[x], argTypes := #[70] }) (hm : a.eval x = .map (some bc)) (hown : w.ownsMap Try.prog 3 RM bc m D)
    (h : ∀ w', w'.ownsMap Try.prog 3 RM bc 0 (mapD []) → w.mapTurned w' bc → wpList Try.prog ops Q rest (a.put o.dst (.tuple #[])) w') : wpList Try.prog ops Q (o :: rest) a w := by
  obtain ⟨es, clock, hb⟩ := owns_obj hown
  refine wpList_plain hg fun K' hK' => ?_
  have hrun : ∀ ty, (Builtin.clear_ #[70] ty #[.map (some bc)]).run Try.prog w = .ok (.tuple #[]) (setBlock w bc (.map #[] clock)) := fun ty => by
    simp [Builtin.clear_, run_underlying Try.underlying70, MapKept.run_getObj_map hb, MapKept.run_setObj_map _ hb, Result.andThen, setBlock]
  unfold Oper.wp
  simp [execOp, hop, resolve, invoke, builtin, hm, hrun, Result.andThen]
  refine hK' _ _ (h _ ⟨#[], clock, heap_setBlock_same hb _, ⟨by simp, stamped_empty _, by simp⟩, by simp, rfl⟩ ⟨es, clock, #[], clock, hb, rfl⟩)
end
/-- What lasts behind a Sync. -/
def syncV (LV : List Value) (CV : List (Int × Value)) : List Value := (List.range LV.length).map fun (i : Nat) => (getA CV (i : Int)).getD (LV.getD i (.slice none 0 0))
/-- .. and on the way: of the keys that are no more left. -/
def syncX (LV : List Value) (CV : List (Int × Value)) (left : Lit → Bool) : List Value := (List.range LV.length).map fun (i : Nat) => if left (.int .i64 (i : Int)) = true then LV.getD i (.slice none 0 0) else (getA CV (i : Int)).getD (LV.getD i (.slice none 0 0))
theorem syncX_start (LV : List Value) (CV : List (Int × Value)) : syncX LV CV (Maps.has (mapD CV)) = LV := by
  apply List.ext_getElem
  · simp [syncX]
  · intro i h1 h2
    simp only [syncX, List.getElem_map, List.getElem_range, mapD_has]
    cases hg : getA CV (i : Int) with
    | none => simp [List.getD_eq_getElem?_getD, h2]
    | some V => simp [List.getD_eq_getElem?_getD, h2]
theorem syncX_end (LV : List Value) (CV : List (Int × Value)) (left : Lit → Bool) (h : ∀ kl, left kl = false) : syncX LV CV left = syncV LV CV := by
  unfold syncX syncV
  refine List.map_congr_left fun i _ => ?_
  rw [h, if_neg (by decide)]
theorem syncX_step (LV : List Value) (CV : List (Int × Value)) (left : Lit → Bool) (k : Nat) (V : Value) (hg : getA CV (k : Int) = some V) : syncX LV CV (fun z => left z && !z.sameKey (.int .i64 k)) = (syncX LV CV left).set k V := by
  apply List.ext_getElem
  · simp [syncX]
  · intro i h1 h2
    simp only [syncX, List.length_map, List.length_range] at h1
    rw [List.getElem_set]
    simp only [syncX, List.getElem_map, List.getElem_range, same_int]
    by_cases hk : k = i
    · subst hk
      rw [if_pos rfl]
      simp [hg]
    · rw [if_neg hk]
      have : ¬ ((i : Int) = (k : Int)) := by omega
      simp [this]
theorem syncX_len (LV : List Value) (CV : List (Int × Value)) (left : Lit → Bool) : (syncX LV CV left).length = LV.length := by simp [syncX]
theorem at_all {CV : List (Int × Value)} {x : Int} {c : Value} (h : ∀ zd : DataW Value, (mapD CV).atKey (.int .i64 x) zd = .held c) : getA CV x = some c := by
  have h1 := h (.held (.bool true))
  have h2 := h (.held (.bool false))
  rw [mapD_at] at h1 h2
  cases hg : getA CV x with
  | some v =>
    rw [hg] at h1
    injection h1 with h1
    exact congrArg some h1
  | none =>
    rw [hg] at h1 h2
    injection h1 with h1
    injection h2 with h2
    have e : Value.bool true = Value.bool false := h1.trans h2.symm
    cases e
set_option maxRecDepth 100000 in
set_option maxHeartbeats 8000000 in
theorem sync_ok {w : World} {bd bl bc br n : Nat} {LV : List Value} {CV : List (Int × Value)} {ar : Bool} {lf : Int} {of : Bool} {wt : Int} {rd : List Int} (h : DV w bd bl bc br n LV CV ar lf of wt rd) (hs : downF ar lf of = false) :
    Calls Try.prog 19 #[.pointer (some ⟨bd, 0, none⟩)] w fun e w' => e = .returned (.int .i64 0) ∧ DV w' bd bl bc br n (syncV LV CV) [] ar (wrap64 (lf - 1)) false wt rd ∧ Chg w w' (Dst bd bl bc br) := by
  have HS := Aside0.mk (spend_calls h)
  rw [(spendE_0 hs).1, (spendE_0 hs).2, hs] at HS
  have hnn := h.nn
  have HD0 := Aside0.mk h
  clear hs h
  go_enter Try.func19, Try.ntmps19
  go_wp2_with fail
  refine HS.out.mono ?_
  rintro e w2 ⟨rfl, hD, hC⟩
  have HD2 := Aside0.mk hD
  have HC2 := Aside0.mk ((hC.mono (fun k hk => .inl hk)) : Chg w w2 (Dst bd bl bc br))
  clear hD hC HS
  obtain ⟨c0, c1, c2, c3, c4, c5, c6⟩ := HD2.out.cells
  go_wp2_with (first | (at_range; refine wpList_range_own _ rfl _ 70 rfl 3 29 (Maps.int_keyed Try.underlying3) Try.underlying70 RM bc CV.length (mapD CV) rfl HD2.out.hm ?_; intro w3 hrg0 hg0 hs0) | fail)
  go_frame
  have HG0 := Aside0.mk hrg0
  have hcc := Chg.of_grown (S := fun _ => False) hg0 (fun k hk => by cases hk)
  have HD3 := Aside0.mk (HD2.out.chg hcc (fun _ _ h => h))
  have HC3 := Aside0.mk (HC2.out.trans (hcc.mono (fun _ h => h.elim)))
  have HRL := Aside0.mk (HD2.out.lt)
  have HWW := Aside0.mk (show w.heap.size ≤ w2.heap.size from HC2.out.size)
  clear hrg0 hg0 hs0 hcc c0 c1 c2 c3 c4 c5 c6 HD2 HC2
  generalize w2.heap.size = r at *
  go_loopw [16] (fun _ wr => ∃ (left : Lit → Bool) (cnt : Nat), wr.ranges Try.prog 3 RM bc r CV.length (mapD CV) left cnt ∧ Aside0 (DV wr bd bl bc br n (syncX LV CV left) CV ar (wrap64 (lf - 1)) false wt rd) ∧ Aside0 (Chg w wr (Dst bd bl bc br))) (fun _ wr => wr.rangeLeft bc r)
  case atStart => exact ⟨_, _, HG0.out, ⟨by rw [syncX_start]; exact HD3.out⟩, HC3⟩
  case round =>
    clear HG0 HD3 HC3
    obtain ⟨left, cnt, hrg, HDx, HCx⟩ := hrel
    obtain ⟨wx, hwx⟩ : ∃ wx : World, wx = wr := ⟨_, rfl⟩
    subst hwx
    go_wp2_with (first | (at_next; refine wpList_next_ranges _ rfl _ rfl 3 (Maps.int_keyed Try.underlying3) RM (Value.int .i64) id (fun key kl hk => by obtain ⟨x, hx, _⟩ := Maps.keyOf_int_inv Try.underlying3 hk; exact ⟨x, hx⟩) (fun v _ _ => ⟨v, rfl⟩) bc r CV.length (mapD CV) _ _ rfl hrg ?_ ?_) | fail)
    · intro hc0 hl0
      have HD4 := Aside0.mk (show DV wx bd bl bc br n (syncV LV CV) CV ar (wrap64 (lf - 1)) false wt rd by rw [← syncX_end LV CV left hl0]; exact HDx.out)
      obtain ⟨c0, c1, c2, c3, c4, c5, c6⟩ := HD4.out.cells
      clear hc0 hl0 HDx hrg
      go_wp2_with (first | ((with_reducible refine gate_clear rfl ?_); refine clear_at rfl _ rfl rfl HD4.out.hm ?_) | fail)
      intro w5 hM hT
      have HD5 := Aside0.mk (HD4.out.setM hT hM List.Pairwise.nil (fun p hp => by cases hp) (fun p hp => by cases hp))
      have HC5 := Aside0.mk (HCx.out.trans (HD4.out.maps hT))
      clear hM hT c0 c1 c2 c3 c4 c5 c6
      go_wp2
      go_ret
      exact ⟨rfl, HD5.out, HC5.out⟩
    · intro x c kl yy yp w4 cnt4 hkey hlk hv hat hrg4 hlt hg4 hs4 hen
      obtain ⟨x', ex, ek, hwf⟩ := Maps.keyOf_int_inv (P := Try.prog) Try.underlying3 hkey
      injection ex with _ ex
      subst ex
      subst ek
      have hy : yy = .held c := by
        have hv' : RM c = some (yy, yp) := hv
        exact RM_inv hv'
      have hg : getA CV x = some c := at_all (fun zd => (hat zd).trans hy)
      obtain ⟨g0, g1⟩ := HDx.out.kr _ (getA_some hg)
      obtain ⟨k, rfl⟩ : ∃ k : Nat, x = k := ⟨x.toNat, by omega⟩
      obtain ⟨AU, nU, cU, hUs⟩ := HDx.out.sc _ (getA_some hg)
      dsimp only at g0 g1 hUs
      subst hUs
      have HGT := Aside0.mk hg
      have hcc := Chg.of_grown (S := fun j => j = r) hg4 (fun j hj => by injection hj with hj; exact hj.symm)
      have HD4 := Aside0.mk (HDx.out.chg hcc (fun j hj e => by have := HRL.out j hj; omega))
      have HC4 := Aside0.mk (HCx.out.thenN hcc (fun j hj => .inr (by have := HWW.out; omega)))
      have HR4 := Aside0.mk hrg4
      have HLT := Aside0.mk hlt
      have HRX := Aside0.mk hrg
      have hkl : k < (syncX LV CV left).length := by rw [HD4.out.ll]; omega
      have hvL := HD4.out.hl.cell k (v := (syncX LV CV left)[k]) (by simp [hkl])
      have hfL := HD4.out.hl.free k
      obtain ⟨AL, nL, cL, hLV⟩ := HD4.out.sl _ (List.getElem_mem hkl)
      rw [hLV] at hvL
      obtain ⟨c0, c1, c2, c3, c4, c5, c6⟩ := HD4.out.cells
      have hbl : bl ≠ bd := Ne.symm HD4.out.ne_dl
      clear hkey hlk hv hat hrg4 hlt hg4 hs4 hwf hy hg hcc hLV hkl HDx HCx hrg
      go_wp2_with fail
      have HD5 := Aside0.mk (show DV (w4.setCell ⟨bl, k, none⟩ (.slice AU nU cU)) bd bl bc br n (syncX LV CV (fun z => left z && !z.sameKey (.int .i64 k))) CV ar (wrap64 (lf - 1)) false wt rd by rw [syncX_step LV CV left k _ HGT.out]; exact HD4.out.setL k _ ⟨_, _, _, rfl⟩)
      have HW5 := Aside0.mk (Wrote.setCell w4 bl k (.slice AU nU cU))
      have HC5 := Aside0.mk (HC4.out.trans (Chg.of_wrote HW5.out (.inr (.inl rfl))))
      have HR5 := Aside0.mk (HR4.out.kept (w' := w4.setCell ⟨bl, k, none⟩ (.slice AU nU cU)) (row := some bl) ⟨rfl, rfl, rfl, by rw [HW5.out.size]; exact Nat.le_refl _, fun j hj hne => HW5.out.block j (fun e => hne (by rw [e]))⟩ (by intro e; injection e with e; exact HD4.out.ne_lc e.symm) (by intro e; injection e with e; have := HRL.out bl (.inr (.inl rfl)); omega))
      clear hvL hfL c0 c1 c2 c3 c4 c5 c6 hen
      go_roundw
      case rel => exact ⟨_, cnt4, HR5.out, HD5, HC5⟩
      case measure => rw [HR5.out.left_eq, HRX.out.left_eq]; have := HLT.out; omega
end Go.Proofs.Ytkgjcmolmogpdaa.By

/- The disk's methods: Crash. -/
namespace Go.Proofs.Ytkgjcmolmogpdaa.By
open Go.RowKit Go.Proofs.Ytkgjcmolmogpdaa.Reg Go.Proofs.YtkgjcmolmogpdaaW.PrintWords Go.Proofs.YtkgjcmolmogpdaaW.PrintLast Go.Proofs.YtkgjcmolmogpdaaW.PrintMore
set_option linter.unusedVariables false
set_option linter.unusedSimpArgs false


theorem addr_at (g j : Nat) : (⟨g, 0, none⟩ : Addr).add (j : Int).toNat = ⟨g, j, none⟩ := by
  rcases Nat.eq_zero_or_pos j with h | h
  · subst h; simp [Addr.add]
  · have : ¬ j = 0 := by omega
    simp [Addr.add, this]
abbrev kI : Kd Int := Kd.int .i64
/-- What lasts behind a Crash: of the first j sectors of the cache those whose fates say so. -/
def crashN (LV : List Value) (CV : List (Int × Value)) (fl : List Int) : Nat → List Value
  | 0 => LV
  | j + 1 => if fl.getD j 0 = 0 then crashN LV CV fl j else match CV[j]? with
    | some p => (crashN LV CV fl j).set p.1.toNat p.2
    | none => crashN LV CV fl j
def crashV (LV : List Value) (CV : List (Int × Value)) (fl : List Int) : List Value := crashN LV CV fl CV.length
theorem crashN_0 {LV : List Value} {CV : List (Int × Value)} {fl : List Int} {j : Nat} (h : fl.getD j 0 = 0) : crashN LV CV fl (j + 1) = crashN LV CV fl j := by
  rw [crashN, if_pos h]
theorem crashN_1 {LV : List Value} {CV : List (Int × Value)} {fl : List Int} {j : Nat} (h : ¬ fl.getD j 0 = 0) {p : Int × Value} (hp : CV[j]? = some p) : crashN LV CV fl (j + 1) = (crashN LV CV fl j).set p.1.toNat p.2 := by
  rw [crashN, if_neg h, hp]
theorem Yld_look1 {w : World} {bc m : Nat} {CV : List (Int × Value)} {o : Oper} {a : Act} (x y : Operand) (hop : o.op = Op.lookup 70 x y false) (hm : a.eval x = .map (some bc)) (hown : w.ownsMap Try.prog 3 RM bc m (mapD CV)) (i : Int) (hy : a.eval y = .int .i64 i) (hw : -9223372036854775808 ≤ i ∧ i ≤ 9223372036854775807)
    (V : Value) (hget : getA CV i = some V) : Yld Try.prog o a w (.val V) := by
  obtain ⟨v, ps, hrun, hv⟩ := hown.lookup (Maps.int_keyed Try.underlying3) Try.underlying70 (zslice w) (zd := .held (.slice none 0 0)) (zp := []) rfl (Maps.keyOf_int_mk (P := Try.prog) Try.underlying3 (i64_wf hw))
  have h1 := RM_inv hv
  rw [mapD_at, hget] at h1
  injection h1 with h1
  have h2 : V = v := h1
  subst h2
  unfold Yld execOp
  simp only [hop, hm, hy, Sem.run_bind, hrun, Result.andThen_ok, Sem.run_pure]
  exact ⟨Ext.refl _, rfl⟩
set_option maxRecDepth 100000 in
set_option maxHeartbeats 16000000 in
theorem crash_calls {w : World} {bd bl bc br n : Nat} {LV : List Value} {CV : List (Int × Value)} {ar : Bool} {lf : Int} {of : Bool} {wt : Int} {rd : List Int} (h : DV w bd bl bc br n LV CV ar lf of wt rd) (A : Option Addr) (m c : Nat) (fl : List Int) (hn : m = fl.length) (hr : Kd.F kI w (fun k => ¬ Dst bd bl bc br k) A m fl) (hc : m ≤ c) :
    Calls Try.prog 20 #[.pointer (some ⟨bd, 0, none⟩), .slice A m c] w fun e w' => e = .returned (.tuple #[]) ∧ DV w' bd bl bc br n (crashV LV CV fl) [] false lf false wt rd ∧ Chg w w' (Dst bd bl bc br) := by
  have HDY := Aside0.mk (dirty_calls h)
  have HD0 := Aside0.mk h
  have HLT := Aside0.mk h.lt
  have HN := Aside0.mk hn
  have hnn := h.nn
  have hcl : (CV.length : Int) ≤ n - 0 := rise_length h.ks (by omega) h.kr
  clear h hn
  go_enter Try.func20, Try.ntmps20
  go_wp2_with fail
  refine HDY.out.mono ?_
  rintro e w1 ⟨V, rfl, hK, hE⟩
  obtain ⟨AK, cK, hV, hcK, _⟩ := Kd.R_reads hK
  obtain ⟨N, hNN⟩ : ∃ N, N = (CV.map (·.1)).length := ⟨_, rfl⟩
  rw [← hNN] at hV hcK
  subst hV
  have hNL : N = CV.length := by rw [hNN, List.length_map]
  have HNL := Aside0.mk hNL
  have hN1 : (N : Int) ≤ 4096 := by omega
  have HK := Aside0.mk hK
  have HF := Aside0.mk (show Kd.F kI w1 (fun k => w.heap.size ≤ k) AK N (CV.map (·.1)) from Kd.N_F (Kd.R_N (Kd.R_mono (Kd.R_tight (d := kI) rfl hK) (fun k hk => Kd.R_base hK k hk.symm))))
  have HD1 := Aside0.mk (HD0.out.ext hE)
  have HC1 := Aside0.mk (Chg.of_ext hE (Dst bd bl bc br))
  have HR1 := Aside0.mk (Kd.F_below hr hE)
  clear hE hr hK hNN hNL hcl HDY
  go_wp2_with fail
  go_loopw [9] (fun i wr => ∃ j : Nat, i = .int .i64 j ∧ Aside0 (j ≤ N) ∧ Aside0 (DV wr bd bl bc br n (crashN LV CV fl j) CV ar lf of wt rd) ∧ Aside0 (Chg w1 wr (Dst bd bl bc br))) (fun i _ => N - (intOf i).toNat)
  case atStart => exact ⟨0, rfl, ⟨Nat.zero_le _⟩, HD1, ⟨Chg.refl _ _⟩⟩
  case round =>
    clear HD1
    obtain ⟨j, rfl, HJ, HDx, HCx⟩ := hrel
    have g0 := HJ.out
    obtain ⟨wx, hwx⟩ : ∃ wx : World, wx = wr := ⟨_, rfl⟩
    subst hwx
    by_cases hlt : j < N
    · have HJL := Aside0.mk hlt
      have hdj : decide ((j : Int) < (N : Int)) = true := decide_eq_true (by omega)
      have hjc : j < CV.length := by rw [← HNL.out]; exact hlt
      obtain ⟨g, cap, hV2, _, _, _⟩ := Kd.R_form HK.out (by rw [List.length_map]; omega)
      injection hV2 with hA2 hN2 hc2
      subst hA2
      clear hN2 hc2
      have hCK := Kd.F_now (Kd.F_step HF.out (fun k hk hkl => HCx.out.block k hkl (fun hd => by have := HLT.out k hd; omega)))
      obtain ⟨ad, had, hcell⟩ := at_k hCK (j : Int) (by omega) (by omega)
      injection had with had
      subst had
      rw [addr_at] at hcell
      have hkey : Go.Proofs.YtkgjcmolmogpdaaW.PrintWords.rd (CV.map (·.1)) (j : Int) = CV[j].1 := by unfold Go.Proofs.YtkgjcmolmogpdaaW.PrintWords.rd; simp [List.getD_eq_getElem?_getD, hjc]
      rw [hkey] at hcell
      have hmem : CV[j] ∈ CV := List.getElem_mem hjc
      have hget : CV[j]? = some CV[j] := List.getElem?_eq_getElem hjc
      obtain ⟨⟨i, U⟩, hp⟩ : ∃ p : Int × Value, p = CV[j] := ⟨_, rfl⟩
      rw [← hp] at hcell hmem hget
      obtain ⟨gi0, gi1⟩ := HDx.out.kr _ hmem
      obtain ⟨k, hk⟩ : ∃ k : Nat, i = k := ⟨i.toNat, by dsimp only at gi0; omega⟩
      subst hk
      dsimp only at gi0 gi1 hcell
      obtain ⟨AU, nU, cU, hU⟩ := HDx.out.sc _ hmem
      dsimp only at hU
      subst hU
      have HGET := Aside0.mk hget
      have HGA := Aside0.mk (getA_mem HDx.out.ks hmem)
      have HI := Aside0.mk (show -9223372036854775808 ≤ (k : Int) ∧ (k : Int) ≤ 9223372036854775807 from ⟨by omega, by omega⟩)
      clear hkey hmem hget hp hCK hjc
      obtain ⟨c0, c1, c2, c3, c4, c5, c6⟩ := HDx.out.cells
      by_cases hjm : j < m
      · have hdm : decide ((j : Int) < (m : Int)) = true := decide_eq_true (by omega)
        have hCL := Kd.F_now (Kd.F_step HR1.out (fun q hq hql => HCx.out.block q hql hq))
        obtain ⟨ad2, had2, hcell2⟩ := at_k hCL (j : Int) (by omega) (by omega)
        subst had2
        rw [Int.toNat_natCast] at hcell2
        have hfe : Go.Proofs.YtkgjcmolmogpdaaW.PrintWords.rd fl (j : Int) = fl.getD j 0 := by unfold Go.Proofs.YtkgjcmolmogpdaaW.PrintWords.rd; rw [Int.toNat_natCast]
        rw [hfe] at hcell2
        obtain ⟨f, hf⟩ : ∃ f, f = fl.getD j 0 := ⟨_, rfl⟩
        rw [← hf] at hcell2
        have HFV := Aside0.mk hf
        clear hfe hf hCL
        by_cases hf0 : f = 0
        · subst hf0
          go_wp2_with fail
          go_roundw
          case rel => exact ⟨j + 1, by go_num, ⟨hlt⟩, ⟨by rw [crashN_0 HFV.out.symm]; exact HDx.out⟩, HCx⟩
          case measure => have := HJL.out; simp only [intOf]; omega
        · have hfd : (f != 0) = true := by simpa using hf0
          have HF0 := Aside0.mk hf0
          have HM := Aside0.mk HDx.out.hm
          go_wp2_with fail
          apply wp_region_facts 11 [RF.val _, RF.val _, RF.val _, RF.val _, RF.val _, RF.val _, RF.val _, RF.val _, RF.val _, RF.val _, RF.val _]
          case hm => kernel_rfl
          case hB => kernel_rfl
          simp only [List.take_succ_cons, List.take_zero, List.zip_cons_cons, List.zip_nil_left]
          (first | refine wpF_val rfl (fun w' hE hD => by unfold Yld; go_simp; exact ⟨Ext.refl _, rfl⟩) ?_ | refine wpF_valg (by rfl) (fun w' hE hD => by unfold Yld; go_simp; exact ⟨Ext.refl _, rfl⟩) ?_)
          (try simp only [Act.put, List.setIfInBounds_toArray, List.set_cons_zero, List.set_cons_succ])
          (first | refine wpF_val rfl (fun w' hE hD => by unfold Yld; go_simp; exact ⟨Ext.refl _, rfl⟩) ?_ | refine wpF_valg (by rfl) (fun w' hE hD => by unfold Yld; go_simp; exact ⟨Ext.refl _, rfl⟩) ?_)
          (try simp only [Act.put, List.setIfInBounds_toArray, List.set_cons_zero, List.set_cons_succ])
          (first | refine wpF_val rfl (fun w' hE hD => by unfold Yld; go_simp; exact ⟨Ext.refl _, rfl⟩) ?_ | refine wpF_valg (by rfl) (fun w' hE hD => by unfold Yld; go_simp; exact ⟨Ext.refl _, rfl⟩) ?_)
          (try simp only [Act.put, List.setIfInBounds_toArray, List.set_cons_zero, List.set_cons_succ])
          (first | refine wpF_val rfl (fun w' hE hD => by have hc0 := Ext.cell hE c0; unfold Yld; go_simp; exact ⟨Ext.refl _, rfl⟩) ?_ | refine wpF_valg (by rfl) (fun w' hE hD => by have hc0 := Ext.cell hE c0; unfold Yld; go_simp; exact ⟨Ext.refl _, rfl⟩) ?_)
          (try simp only [Act.put, List.setIfInBounds_toArray, List.set_cons_zero, List.set_cons_succ])
          (first | refine wpF_val rfl (fun w' hE hD => by unfold Yld; go_simp; exact ⟨Ext.refl _, rfl⟩) ?_ | refine wpF_valg (by rfl) (fun w' hE hD => by unfold Yld; go_simp; exact ⟨Ext.refl _, rfl⟩) ?_)
          (try simp only [Act.put, List.setIfInBounds_toArray, List.set_cons_zero, List.set_cons_succ])
          (first | refine wpF_val rfl (fun w' hE hD => by unfold Yld; go_simp; exact ⟨Ext.refl _, rfl⟩) ?_ | refine wpF_valg (by rfl) (fun w' hE hD => by unfold Yld; go_simp; exact ⟨Ext.refl _, rfl⟩) ?_)
          (try simp only [Act.put, List.setIfInBounds_toArray, List.set_cons_zero, List.set_cons_succ])
          (first | refine wpF_val rfl (fun w' hE hD => by unfold Yld; go_simp; exact ⟨Ext.refl _, rfl⟩) ?_ | refine wpF_valg (by rfl) (fun w' hE hD => by unfold Yld; go_simp; exact ⟨Ext.refl _, rfl⟩) ?_)
          (try simp only [Act.put, List.setIfInBounds_toArray, List.set_cons_zero, List.set_cons_succ])
          (first | refine wpF_val rfl (fun w' hE hD => by unfold Yld; go_simp; exact ⟨Ext.refl _, rfl⟩) ?_ | refine wpF_valg (by rfl) (fun w' hE hD => by unfold Yld; go_simp; exact ⟨Ext.refl _, rfl⟩) ?_)
          (try simp only [Act.put, List.setIfInBounds_toArray, List.set_cons_zero, List.set_cons_succ])
          (first | refine wpF_val rfl (fun w' hE hD => by have hc1 := Ext.cell hE c1; unfold Yld; go_simp; exact ⟨Ext.refl _, rfl⟩) ?_ | refine wpF_valg (by rfl) (fun w' hE hD => by have hc1 := Ext.cell hE c1; unfold Yld; go_simp; exact ⟨Ext.refl _, rfl⟩) ?_)
          (try simp only [Act.put, List.setIfInBounds_toArray, List.set_cons_zero, List.set_cons_succ])
          (first | refine wpF_val rfl (fun w' hE hD => by unfold Yld; go_simp; exact ⟨Ext.refl _, rfl⟩) ?_ | refine wpF_valg (by rfl) (fun w' hE hD => by unfold Yld; go_simp; exact ⟨Ext.refl _, rfl⟩) ?_)
          (try simp only [Act.put, List.setIfInBounds_toArray, List.set_cons_zero, List.set_cons_succ])
          (first | refine wpF_val rfl (fun w' hE hD => Yld_look1 (.tmp 33) (.tmp 34) rfl rfl ((Chg.of_ext hE (fun _ => False)).map HM.out (fun h => h)) (k : Int) rfl HI.out _ HGA.out) ?_ | refine wpF_valg (by rfl) (fun w' hE hD => Yld_look1 (.tmp 33) (.tmp 34) rfl rfl ((Chg.of_ext hE (fun _ => False)).map HM.out (fun h => h)) (k : Int) rfl HI.out _ HGA.out) ?_)
          (try simp only [Act.put, List.setIfInBounds_toArray, List.set_cons_zero, List.set_cons_succ])
          refine wpF_nil fun w3 hE3 hA => ?_
          simp only [List.drop_succ_cons, List.drop_zero]
          have HD3 := Aside0.mk (HDx.out.ext hE3)
          have HC3 := Aside0.mk (HCx.out.ext hE3)
          clear hA hE3 HDx HCx HM c0 c1 c2 c3 c4 c5 c6 hcell hcell2
          have hkl : k < (crashN LV CV fl j).length := by rw [HD3.out.ll]; omega
          have hvL := HD3.out.hl.cell k (v := (crashN LV CV fl j)[k]) (by simp [hkl])
          have hfL := HD3.out.hl.free k
          obtain ⟨AL, nL, cL, hLV⟩ := HD3.out.sl _ (List.getElem_mem hkl)
          rw [hLV] at hvL
          clear hLV hkl
          go_wp2_with fail
          have HD5 := Aside0.mk (show DV (w3.setCell ⟨bl, k, none⟩ (.slice AU nU cU)) bd bl bc br n (crashN LV CV fl (j + 1)) CV ar lf of wt rd by rw [crashN_1 (by rw [← HFV.out]; exact HF0.out) HGET.out]; exact HD3.out.setL k _ ⟨_, _, _, rfl⟩)
          have HC5 := Aside0.mk (HC3.out.trans (Chg.of_wrote (Wrote.setCell w3 bl k (.slice AU nU cU)) (.inr (.inl rfl))))
          clear hvL hfL
          go_roundw
          case rel => exact ⟨j + 1, by go_num, ⟨hlt⟩, HD5, HC5⟩
          case measure => have := HJL.out; simp only [intOf]; omega
      · have hdm : decide ((j : Int) < (m : Int)) = false := decide_eq_false (by omega)
        have HFV := Aside0.mk (show fl.getD j 0 = 0 by rw [List.getD_eq_getElem?_getD, List.getElem?_eq_none (by rw [← HN.out]; omega)]; rfl)
        go_wp2_with fail
        go_roundw
        case rel => exact ⟨j + 1, by go_num, ⟨hlt⟩, ⟨by rw [crashN_0 HFV.out]; exact HDx.out⟩, HCx⟩
        case measure => have := HJL.out; simp only [intOf]; omega
    · obtain rfl : j = N := by omega
      have HD4 := Aside0.mk (show DV wx bd bl bc br n (crashV LV CV fl) CV ar lf of wt rd by unfold crashV; rw [← HNL.out]; exact HDx.out)
      have HC4 := Aside0.mk (HC1.out.trans HCx.out)
      obtain ⟨c0, c1, c2, c3, c4, c5, c6⟩ := HD4.out.cells
      clear HDx HCx HC1
      go_wp2_with (first | ((with_reducible refine gate_clear rfl ?_); refine clear_at rfl _ rfl rfl HD4.out.hm ?_) | fail)
      intro w5 hM hT
      have HD5 := Aside0.mk (HD4.out.setM hT hM List.Pairwise.nil (fun p hp => by cases hp) (fun p hp => by cases hp))
      have HC5 := Aside0.mk (HC4.out.trans (HD4.out.maps hT))
      clear hM hT c0 c1 c2 c3 c4 c5 c6 HD4 HC4
      obtain ⟨c0, c1, c2, c3, c4, c5, c6⟩ := HD5.out.cells
      have f2 := HD5.out.hd.free 2
      have f4 := HD5.out.hd.free 4
      have HW := Aside0.mk ((Wrote.setCell w5 bd 2 (.bool false)).trans (Wrote.setCell (w5.setCell ⟨bd, 2, none⟩ (.bool false)) bd 4 (.bool false)))
      have HB := Aside0.mk (show Blk ((w5.setCell ⟨bd, 2, none⟩ (.bool false)).setCell ⟨bd, 4, none⟩ (.bool false)) bd (dskC bl bc br n false lf false wt).toArray 72 by simpa [dskC] using (HD5.out.hd.set 2 (.bool false)).set 4 (.bool false))
      go_wp2
      go_end0
      exact ⟨rfl, HD5.out.set _ _ _ _ HW.out HB.out, HC5.out.trans (Chg.of_wrote HW.out (.inl rfl))⟩
end Go.Proofs.Ytkgjcmolmogpdaa.By
