/- BatchAdds, first part: the plain law of a trim put in; CopyEntries. -/
import Derived.Test.YthgdjgnbifakbaaLe
namespace Go.Proofs.Ythgdjgnbifakbaa.By
open Go.RowKit Go.Proofs.Ythgdjgnbifakbaa.Reg Go.Proofs.YthgdjgnbifakbaaW.PrintWords Go.Proofs.YthgdjgnbifakbaaW.PrintLast Go.Proofs.YthgdjgnbifakbaaW.PrintMore
set_option linter.unusedVariables false
set_option linter.unusedSimpArgs false


/-! ### the plain law: a trim put in keeps the check -/
theorem chkL_app : ∀ (A B : List Th) (l : Int), chkL (A ++ B) l = if chkL A l ≠ 0 then chkL A l else chkL B (A.foldl (fun l e => nextL e l) l)
  | [], B, l => by rw [List.nil_append, show chkL [] l = 0 from rfl, if_neg (by simp)]; rfl
  | e :: A, B, l => by
    rw [List.cons_append, chkL, chkL]
    by_cases h : chkE e l ≠ 0
    · rw [if_pos h, if_pos h, if_pos h]
    · rw [if_neg h, if_neg h, chkL_app A B]
      rfl
abbrev trimE (q : Int) : Th := (2, q, 0, zero32)
theorem trim_chk (q l : Int) (h0 : 0 ≤ q) (h1 : q < 64) : chkE (trimE q) l = 0 := by
  refine chkE_2 ⟨show (1 : Int) ≤ 2 by decide, show (2 : Int) ≤ 3 by decide⟩ ?_ rfl
  unfold placedF
  rw [if_neg (show ¬ (2 : Int) = 3 by decide)]
  rw [show decide (0 ≤ (trimE q).2.1) = true from decide_eq_true h0, show decide ((trimE q).2.1 ≤ 63) = true from decide_eq_true (show q ≤ 63 by omega), show decide (0 ≤ (trimE q).2.2.1) = true from rfl, show decide ((trimE q).2.2.1 ≤ 63) = true from rfl, show ((trimE q).2.2.1 == 0) = true from rfl, show decide ((trimE q).2.2.2 = zero32) = true from decide_eq_true rfl]
  rfl
theorem trim_ok (q : Int) (h0 : 0 ≤ q) (h1 : q < 64) : Th.ok (trimE q) := ⟨⟨show (-9223372036854775808 : Int) ≤ 2 by decide, show (2 : Int) ≤ 9223372036854775807 by decide⟩, ⟨show -9223372036854775808 ≤ q by omega, show q ≤ 9223372036854775807 by omega⟩, ⟨show (-9223372036854775808 : Int) ≤ 0 by decide, show (0 : Int) ≤ 9223372036854775807 by decide⟩, zero32_length, zero32_isB⟩
def addL (es : List Th) (m : Nat) (q : Int) : List Th := es.take m ++ trimE q :: es.drop m
theorem addL_len (es : List Th) (m : Nat) (q : Int) : (addL es m q).length = es.length + 1 := by
  unfold addL
  rw [List.length_append, List.length_cons, List.length_take, List.length_drop]
  omega
theorem addL_ok {es : List Th} (h : ∀ e ∈ es, Th.ok e) (m : Nat) (q : Int) (h0 : 0 ≤ q) (h1 : q < 64) : ∀ e ∈ addL es m q, Th.ok e := by
  intro e he
  unfold addL at he
  rcases List.mem_append.1 he with he | he
  · exact h e (List.mem_of_mem_take he)
  · rcases List.mem_cons.1 he with rfl | he
    · exact trim_ok q h0 h1
    · exact h e (List.mem_of_mem_drop he)
theorem chkL_add (es : List Th) (m : Nat) (q : Int) (h0 : 0 ≤ q) (h1 : q < 64) (l : Int) (h : chkL es l = 0) : chkL (addL es m q) l = 0 := by
  have e := List.take_append_drop m es
  rw [← e, chkL_app] at h
  unfold addL
  rw [chkL_app]
  by_cases hc : chkL (es.take m) l ≠ 0
  · rw [if_pos hc] at h; exact absurd h hc
  · rw [if_neg hc] at h ⊢
    rw [chkL, trim_chk q _ h0 h1, if_neg (by simp), nextL_2 rfl]
    exact h
theorem check_parts {st nx : Int} {es : List Th} (h : checkF st nx es = 0) : es.length ≤ 16 ∧ (0 ≤ st ∧ st ≤ 1099511627776) ∧ (-1 ≤ nx ∧ nx ≤ 31) ∧ chkL es (-1) = 0 := by
  unfold checkF at h
  split at h
  · cases h
  · split at h
    · cases h
    · rename_i h1 h2
      exact ⟨by omega, by omega, by omega, h⟩
theorem check_add {st nx : Int} {es : List Th} (h : checkF st nx es = 0) (m : Nat) (q : Int) (h0 : 0 ≤ q) (h1 : q < 64) : checkF st nx (addL es m q) = if es.length = 16 then 17 else 0 := by
  obtain ⟨a, b, c, d⟩ := check_parts h
  unfold checkF
  rw [addL_len]
  by_cases hl : es.length = 16
  · rw [if_pos hl, if_pos (by omega)]
  · rw [if_neg hl, if_neg (by omega), if_neg (by omega)]
    exact chkL_add es m q h0 h1 _ d
theorem check_take {st nx : Int} {es : List Th} (h : checkF st nx es = 0) (m : Nat) : checkF st nx (es.take m) = 0 := by
  obtain ⟨a, b, c, d⟩ := check_parts h
  have e := List.take_append_drop m es
  rw [← e, chkL_app] at d
  unfold checkF
  rw [if_neg (by rw [List.length_take]; omega), if_neg (by omega)]
  by_cases hc : chkL (es.take m) (-1) ≠ 0
  · rw [if_pos hc] at d; exact absurd d hc
  · omega

section
variable {P : Program} {ops : Array Oper} {rest : List Oper} {o : Oper} {a : Act} {Q : Exit → Act → World → Prop} {w : World}
theorem slice1_at (hw : Region.wanted o (yielded ops a.tmps) = true) (t e : TypeId) (x : Operand) (ho : o.op = .buildSlice t 1 #[(0, x)])
    (cells : Array Value) (hx : a.eval x = .agg cells) (ie : TypeInfo) (z : Value) (hu : P.underlying t = some (.slice e)) (hie : P.info? e = some ie) (hz : ie.zero = some z) (hsmall : ¬ 1 * ie.size > 2 ^ 24) (hpos : ¬ 1 * ie.size = 0)
    (hf : Instr.fill (fun i => some (i * ie.size, ie.size)) ((Array.range (1 * ie.size)).map (z.cells[· % z.cells.size]!)) [(0, .agg cells)] = some cells)
    (h : wpList P ops Q rest (a.put o.dst (.slice (some ⟨w.heap.size, 0, none⟩) 1 1)) (w.alloc (.cells cells e))) : wpList P ops Q (o :: rest) a w :=
  BigFrame.wpList_want hw fun _ hK => wp_slice1 t e x ho cells hx ie z hu hie hz hsmall hpos hf (hK _ _ h)
end
theorem C_cutE {w : World} {A : Option Addr} {n : Nat} {X : List Th} (h : Kd.C kTh w A n X) (m : Nat) (hm : m ≤ n) : Kd.C kTh w A m (X.take m) := by
  have hn := h.1
  refine ⟨by rw [List.length_take]; omega, Nat.le_trans hm h.2.1, fun hp => ?_⟩
  obtain ⟨ad, e, f⟩ := h.2.2 (by omega)
  refine ⟨ad, e, fun j p hj => f j p ?_⟩
  rw [List.getElem?_take] at hj
  split at hj
  · exact hj
  · cases hj
set_option maxRecDepth 100000 in
set_option maxHeartbeats 8000000 in
theorem copyE_calls (w : World) (A : Option Addr) (n c : Nat) (es : List Th) (hn : n = es.length) (hr : Kd.C kTh w A n es) (hc : n ≤ c) (hok : ∀ e ∈ es, Th.ok e) (hl : n ≤ 1000000) :
    Calls Try.prog 57 #[.slice A n c] w fun e w' => ∃ V, e = .returned V ∧ EB w' w.heap.size V es ∧ Ext w w' := by
  have HN := Aside0.mk hn
  have HR := Aside0.mk hr
  have HOK := Aside0.mk hok
  have HIN : Aside0 ((Try.prog.info? 73).map (fun i => (i.zero, i.size, i.bytes)) = some (some (Value.agg #[Value.int .i64 0, Value.int .i64 0, Value.int .i64 0, Value.int .u8 0, Value.int .u8 0, Value.int .u8 0, Value.int .u8 0, Value.int .u8 0, Value.int .u8 0, Value.int .u8 0, Value.int .u8 0, Value.int .u8 0, Value.int .u8 0, Value.int .u8 0, Value.int .u8 0, Value.int .u8 0, Value.int .u8 0, Value.int .u8 0, Value.int .u8 0, Value.int .u8 0, Value.int .u8 0, Value.int .u8 0, Value.int .u8 0, Value.int .u8 0, Value.int .u8 0, Value.int .u8 0, Value.int .u8 0, Value.int .u8 0, Value.int .u8 0, Value.int .u8 0, Value.int .u8 0, Value.int .u8 0, Value.int .u8 0, Value.int .u8 0, Value.int .u8 0]), 35, 56)) := ⟨by kernel_rfl⟩
  have HE0 := Aside0.mk (Ext.refl w)
  obtain ⟨ie, hie, hx⟩ := Option.map_eq_some_iff.1 HIN.out
  have hz : ie.zero = some (Value.agg #[Value.int .i64 0, Value.int .i64 0, Value.int .i64 0, Value.int .u8 0, Value.int .u8 0, Value.int .u8 0, Value.int .u8 0, Value.int .u8 0, Value.int .u8 0, Value.int .u8 0, Value.int .u8 0, Value.int .u8 0, Value.int .u8 0, Value.int .u8 0, Value.int .u8 0, Value.int .u8 0, Value.int .u8 0, Value.int .u8 0, Value.int .u8 0, Value.int .u8 0, Value.int .u8 0, Value.int .u8 0, Value.int .u8 0, Value.int .u8 0, Value.int .u8 0, Value.int .u8 0, Value.int .u8 0, Value.int .u8 0, Value.int .u8 0, Value.int .u8 0, Value.int .u8 0, Value.int .u8 0, Value.int .u8 0, Value.int .u8 0, Value.int .u8 0]) := congrArg (·.1) hx
  have hsz : ie.size = 35 := congrArg (·.2.1) hx
  have HSL := Aside0.mk (⟨hie, hz, by rw [hsz]; decide, by rw [hsz]; decide, fun (e : Th) (he : e.2.2.2.length = 32) => by rw [hsz]; exact fill_th e he⟩ : Try.prog.info? 73 = some ie ∧ ie.zero = some (Value.agg #[Value.int .i64 0, Value.int .i64 0, Value.int .i64 0, Value.int .u8 0, Value.int .u8 0, Value.int .u8 0, Value.int .u8 0, Value.int .u8 0, Value.int .u8 0, Value.int .u8 0, Value.int .u8 0, Value.int .u8 0, Value.int .u8 0, Value.int .u8 0, Value.int .u8 0, Value.int .u8 0, Value.int .u8 0, Value.int .u8 0, Value.int .u8 0, Value.int .u8 0, Value.int .u8 0, Value.int .u8 0, Value.int .u8 0, Value.int .u8 0, Value.int .u8 0, Value.int .u8 0, Value.int .u8 0, Value.int .u8 0, Value.int .u8 0, Value.int .u8 0, Value.int .u8 0, Value.int .u8 0, Value.int .u8 0, Value.int .u8 0, Value.int .u8 0]) ∧ (¬ 1 * ie.size > 2 ^ 24) ∧ (¬ 1 * ie.size = 0) ∧ (∀ e : Th, e.2.2.2.length = 32 → Instr.fill (fun i => some (i * ie.size, ie.size)) ((Array.range (1 * ie.size)).map ((Value.agg #[Value.int .i64 0, Value.int .i64 0, Value.int .i64 0, Value.int .u8 0, Value.int .u8 0, Value.int .u8 0, Value.int .u8 0, Value.int .u8 0, Value.int .u8 0, Value.int .u8 0, Value.int .u8 0, Value.int .u8 0, Value.int .u8 0, Value.int .u8 0, Value.int .u8 0, Value.int .u8 0, Value.int .u8 0, Value.int .u8 0, Value.int .u8 0, Value.int .u8 0, Value.int .u8 0, Value.int .u8 0, Value.int .u8 0, Value.int .u8 0, Value.int .u8 0, Value.int .u8 0, Value.int .u8 0, Value.int .u8 0, Value.int .u8 0, Value.int .u8 0, Value.int .u8 0, Value.int .u8 0, Value.int .u8 0, Value.int .u8 0, Value.int .u8 0]).cells[· % (Value.agg #[Value.int .i64 0, Value.int .i64 0, Value.int .i64 0, Value.int .u8 0, Value.int .u8 0, Value.int .u8 0, Value.int .u8 0, Value.int .u8 0, Value.int .u8 0, Value.int .u8 0, Value.int .u8 0, Value.int .u8 0, Value.int .u8 0, Value.int .u8 0, Value.int .u8 0, Value.int .u8 0, Value.int .u8 0, Value.int .u8 0, Value.int .u8 0, Value.int .u8 0, Value.int .u8 0, Value.int .u8 0, Value.int .u8 0, Value.int .u8 0, Value.int .u8 0, Value.int .u8 0, Value.int .u8 0, Value.int .u8 0, Value.int .u8 0, Value.int .u8 0, Value.int .u8 0, Value.int .u8 0, Value.int .u8 0, Value.int .u8 0, Value.int .u8 0]).cells.size]!)) [(0, .agg (thC e).toArray)] = some (thC e).toArray))
  clear hn hr hok hx hz hsz hie
  go_enter Try.func57, Try.ntmps57
  go_wp2_with fail
  go_loopw [3, 4] (fun v i wr => ∃ x : Nat, i = .int .i64 x ∧ Aside0 (x ≤ n) ∧ Aside0 (EB wr w.heap.size v (es.take x)) ∧ Aside0 (Ext w wr)) (fun _ i _ => n - (intOf i).toNat)
  case atStart => exact ⟨0, rfl, ⟨Nat.zero_le _⟩, ⟨EB.nil _ _⟩, HE0⟩
  case round =>
    clear HE0
    obtain ⟨x, rfl, HX, HV, HE⟩ := hrel
    have g1 := HX.out
    obtain ⟨wx, hwx⟩ : ∃ wx : World, wx = wr := ⟨_, rfl⟩
    subst hwx
    obtain ⟨V, hV⟩ : ∃ V, V = u3 := ⟨_, rfl⟩
    subst hV
    obtain ⟨A1, C1, hV1, _, _⟩ := EB.reads HV.out
    obtain ⟨N1, hN1⟩ : ∃ N1, N1 = (es.take x).length := ⟨_, rfl⟩
    rw [← hN1] at hV1
    subst hV1
    have HN1 := Aside0.mk hN1
    clear hN1
    by_cases hlt : x < n
    · have HLT := Aside0.mk hlt
      have hxe : x < es.length := by have := HN.out; omega
      obtain ⟨b, off, hA, hrg⟩ := th_at (Kd.C_below HR.out HE.out) x hlt _ (List.getElem?_eq_getElem hxe)
      have ho := HOK.out _ (List.getElem_mem hxe)
      have hq : es.take (x + 1) = es.take x ++ [es[x]] := List.take_succ_eq_append_getElem hxe
      generalize es[x] = q at hrg ho hq
      subst hA
      have HQ := Aside0.mk hq
      have HO := Aside0.mk ho
      have HG1 := Aside0.mk hrg
      have HI1 := Aside0.mk (show (Try.prog.info? 73).map (·.size) = some (thC q).length by rw [thC_len ho.2.2.2.1]; kernel_rfl)
      have HL1 := Aside0.mk (show ((es.take x).length + 1) * 56 ≤ 140737488355328 by rw [List.length_take]; omega)
      have HBS := Aside0.mk (show w.heap.size ≤ wx.heap.size from HE.out.size)
      clear hq ho hrg hxe
      go_wp2_with (first | ((with_reducible refine gate_load (ty := 73) rfl ?_); refine load_at rfl 73 _ rfl b (off + x * 35) rfl (thC q) _ HG1.out Try.underlying73 rfl HI1.out ?_) | ((with_reducible refine gate_slice (ty := 56) rfl ?_); refine slice1_at rfl 56 73 _ rfl (thC q).toArray rfl ie (Value.agg #[Value.int .i64 0, Value.int .i64 0, Value.int .i64 0, Value.int .u8 0, Value.int .u8 0, Value.int .u8 0, Value.int .u8 0, Value.int .u8 0, Value.int .u8 0, Value.int .u8 0, Value.int .u8 0, Value.int .u8 0, Value.int .u8 0, Value.int .u8 0, Value.int .u8 0, Value.int .u8 0, Value.int .u8 0, Value.int .u8 0, Value.int .u8 0, Value.int .u8 0, Value.int .u8 0, Value.int .u8 0, Value.int .u8 0, Value.int .u8 0, Value.int .u8 0, Value.int .u8 0, Value.int .u8 0, Value.int .u8 0, Value.int .u8 0, Value.int .u8 0, Value.int .u8 0, Value.int .u8 0, Value.int .u8 0, Value.int .u8 0, Value.int .u8 0]) Try.underlying56 HSL.out.1 HSL.out.2.1 HSL.out.2.2.1 HSL.out.2.2.2.1 (HSL.out.2.2.2.2 q HO.out.2.2.2.1) ?_) | (at_builtin; refine Kd.R_append kTh (w0 := wx) w.heap.size rfl (.tmp 11) (.tmp 16) 56 73 (Value.agg #[Value.int .i64 0, Value.int .i64 0, Value.int .i64 0, Value.int .u8 0, Value.int .u8 0, Value.int .u8 0, Value.int .u8 0, Value.int .u8 0, Value.int .u8 0, Value.int .u8 0, Value.int .u8 0, Value.int .u8 0, Value.int .u8 0, Value.int .u8 0, Value.int .u8 0, Value.int .u8 0, Value.int .u8 0, Value.int .u8 0, Value.int .u8 0, Value.int .u8 0, Value.int .u8 0, Value.int .u8 0, Value.int .u8 0, Value.int .u8 0, Value.int .u8 0, Value.int .u8 0, Value.int .u8 0, Value.int .u8 0, Value.int .u8 0, Value.int .u8 0, Value.int .u8 0, Value.int .u8 0, Value.int .u8 0, Value.int .u8 0, Value.int .u8 0]) 56 rfl Try.underlying56 HIN.out rfl (by decide) (by decide) (.slice A1 N1 C1) (es.take x) q (thC q) (fun _ => True) (fun _ => False) rfl rfl (th_cells_of q HO.out.2.2.2.1 wx wx w.heap.size (fun _ => False)) (fun _ hk => hk.elim) (fun _ _ => trivial) HV.out (Below.refl _ _) HBS.out HL1.out ?_) | fail)
      intro V1 w1 hR hBl _ _
      have HV1 := Aside0.mk (show EB w1 w.heap.size V1 (es.take (x + 1)) by rw [HQ.out]; exact hR)
      have HE1 := Aside0.mk (show Ext w w1 from Below.trans HE.out hBl)
      obtain ⟨A2, C2, hV2, _, _⟩ := EB.reads hR
      obtain ⟨N2, hN2⟩ : ∃ N2, N2 = (es.take x ++ [q]).length := ⟨_, rfl⟩
      rw [← hN2] at hV2
      subst hV2
      clear hR hBl hN2
      go_wp2_with fail
      go_roundw
      case rel => exact ⟨x + 1, by go_num, ⟨hlt⟩, HV1, HE1⟩
      case measure => have := HLT.out; simp only [intOf]; omega
    · have HFV := Aside0.mk (show EB wx w.heap.size (.slice A1 N1 C1) es by
        have := HV.out
        rwa [List.take_of_length_le (by have := HN.out; omega)] at this)
      clear HV
      go_wp2_with fail
      go_ret
      exact ⟨_, rfl, HFV.out, HE.out⟩
end Go.Proofs.Ythgdjgnbifakbaa.By

/- BatchAdds: a trim more, at any place; one entry less. -/
namespace Go.Proofs.Ythgdjgnbifakbaa.By
open Go.RowKit Go.Proofs.Ythgdjgnbifakbaa.Reg Go.Proofs.YthgdjgnbifakbaaW.PrintWords Go.Proofs.YthgdjgnbifakbaaW.PrintLast Go.Proofs.YthgdjgnbifakbaaW.PrintMore
set_option linter.unusedVariables false
set_option linter.unusedSimpArgs false


theorem built_t (q : Int) : Program.built Try.prog 73 [(0, .int .i64 2), (1, .int .i64 q)] = some (thC (trimE q)).toArray := by kernel_rfl
theorem run_load_at {P : Program} {w : World} {o : Oper} {a : Act} (ty : TypeId) (x : Operand) (ho : o.op = .load ty x) (b off : Nat) (hx : a.eval x = .pointer (some ⟨b, off, none⟩)) (cs : List Value) (d : TypeDesc) (hc : w.rangeAt b off cs)
    (hu : P.underlying ty = some d) (hd : d.isRow = true) (hi : (P.info? ty).map (·.size) = some cs.length) : (execOp a.eval o).run P w = .ok (.value (.agg cs.toArray)) w := by
  unfold execOp
  simp only [ho, hx, Instr.loadAt, Instr.sureAddr, Sem.run_bind, Sem.run_pure, Result.andThen_ok, run_loadVar_mid w b off ty cs d hc hu hd hi]
def addX (es : List Th) (m : Nat) (q : Int) (x : Nat) : List Th := es.take m ++ trimE q :: (es.take x).drop m
theorem addX_0 (es : List Th) (m : Nat) (q : Int) : addX es m q m = es.take m ++ [trimE q] := by
  unfold addX
  rw [List.drop_take_self]
theorem addX_s (es : List Th) (m : Nat) (q : Int) (x : Nat) (hm : m ≤ x) (hx : x < es.length) : addX es m q (x + 1) = addX es m q x ++ [es[x]] := by
  unfold addX
  rw [List.take_succ_eq_append_getElem hx, List.drop_append_of_le_length (by rw [List.length_take]; omega), List.append_assoc, List.cons_append]
theorem addX_n (es : List Th) (m : Nat) (q : Int) : addX es m q es.length = addL es m q := by
  unfold addX addL
  rw [List.take_length]
theorem addX_len (es : List Th) (m : Nat) (q : Int) (x : Nat) (hm : m ≤ x) (hx : x ≤ es.length) : (addX es m q x).length = x + 1 := by
  unfold addX
  rw [List.length_append, List.length_cons, List.length_drop, List.length_take, List.length_take]
  omega
def SX (b9 b1 : Nat) (V V1 : Value) (b o : Nat) (cs : List Value) (w' : World) : Prop := w'.cell? ⟨b9, 34, none⟩ = some V ∧ w'.cell? ⟨b1, 34, none⟩ = some V1 ∧ w'.rangeAt b o cs
set_option maxRecDepth 100000 in
set_option maxHeartbeats 16000000 in
theorem adds_calls (w : World) (A : Option Addr) (c n : Nat) (q : Smy) (at_ bl : Int) (hn : n = q.2.2.2.length) (hr : Kd.C kTh w A n q.2.2.2) (hc : n ≤ c) (hq : Smy.ok q) (hat : -9223372036854775808 ≤ at_ ∧ at_ ≤ 9223372036854775807) (hbl : -9223372036854775808 ≤ bl ∧ bl ≤ 9223372036854775807) :
    Calls Try.prog 15 #[smyV q.1 q.2.1 q.2.2.1 (.slice A n c), .int .i64 at_, .int .i64 bl] w fun e w' => e = .returned (.bool true) ∧ Ext w w' := by
  obtain ⟨st, pr, nx, es⟩ := q
  obtain ⟨hst, ⟨hp, hpB⟩, hnx, hes⟩ := hq
  dsimp only at *
  have HX := Aside0.mk hes
  have HN := Aside0.mk hn
  have HPL := Aside0.mk hp
  have HK := Aside0.mk (Blk.new w (smyC st pr nx (.slice A n c)).toArray 58)
  have HE := Aside0.mk ((Ext.refl w).alloc (.cells (smyC st pr nx (.slice A n c)).toArray 58))
  have HC0 := Aside0.mk hr
  have c34 := (smyBlk HK.out HPL.out).2.2.2
  have HIS := Aside0.mk (fun V => show (Try.prog.info? 58).map (·.size) = some (smyC st pr nx V).length by rw [smyC_len HPL.out]; kernel_rfl)
  have HSS := Aside0.mk (fun V => show #[Value.int .i64 0, Value.int .u8 0, Value.int .u8 0, Value.int .u8 0, Value.int .u8 0, Value.int .u8 0, Value.int .u8 0, Value.int .u8 0, Value.int .u8 0, Value.int .u8 0, Value.int .u8 0, Value.int .u8 0, Value.int .u8 0, Value.int .u8 0, Value.int .u8 0, Value.int .u8 0, Value.int .u8 0, Value.int .u8 0, Value.int .u8 0, Value.int .u8 0, Value.int .u8 0, Value.int .u8 0, Value.int .u8 0, Value.int .u8 0, Value.int .u8 0, Value.int .u8 0, Value.int .u8 0, Value.int .u8 0, Value.int .u8 0, Value.int .u8 0, Value.int .u8 0, Value.int .u8 0, Value.int .u8 0, Value.int .i64 0, Value.slice none 0 0].size = (smyC st pr nx V).length by rw [smyC_len HPL.out]; rfl)
  have HIN : Aside0 ((Try.prog.info? 73).map (fun i => (i.zero, i.size, i.bytes)) = some (some (Value.agg #[Value.int .i64 0, Value.int .i64 0, Value.int .i64 0, Value.int .u8 0, Value.int .u8 0, Value.int .u8 0, Value.int .u8 0, Value.int .u8 0, Value.int .u8 0, Value.int .u8 0, Value.int .u8 0, Value.int .u8 0, Value.int .u8 0, Value.int .u8 0, Value.int .u8 0, Value.int .u8 0, Value.int .u8 0, Value.int .u8 0, Value.int .u8 0, Value.int .u8 0, Value.int .u8 0, Value.int .u8 0, Value.int .u8 0, Value.int .u8 0, Value.int .u8 0, Value.int .u8 0, Value.int .u8 0, Value.int .u8 0, Value.int .u8 0, Value.int .u8 0, Value.int .u8 0, Value.int .u8 0, Value.int .u8 0, Value.int .u8 0, Value.int .u8 0]), 35, 56)) := ⟨by kernel_rfl⟩
  obtain ⟨ie, hie, hx⟩ := Option.map_eq_some_iff.1 HIN.out
  have hz : ie.zero = some (Value.agg #[Value.int .i64 0, Value.int .i64 0, Value.int .i64 0, Value.int .u8 0, Value.int .u8 0, Value.int .u8 0, Value.int .u8 0, Value.int .u8 0, Value.int .u8 0, Value.int .u8 0, Value.int .u8 0, Value.int .u8 0, Value.int .u8 0, Value.int .u8 0, Value.int .u8 0, Value.int .u8 0, Value.int .u8 0, Value.int .u8 0, Value.int .u8 0, Value.int .u8 0, Value.int .u8 0, Value.int .u8 0, Value.int .u8 0, Value.int .u8 0, Value.int .u8 0, Value.int .u8 0, Value.int .u8 0, Value.int .u8 0, Value.int .u8 0, Value.int .u8 0, Value.int .u8 0, Value.int .u8 0, Value.int .u8 0, Value.int .u8 0, Value.int .u8 0]) := congrArg (·.1) hx
  have hsz : ie.size = 35 := congrArg (·.2.1) hx
  have HSL := Aside0.mk (⟨hie, hz, by rw [hsz]; decide, by rw [hsz]; decide, fun (e : Th) (he : e.2.2.2.length = 32) => by rw [hsz]; exact fill_th e he⟩ : Try.prog.info? 73 = some ie ∧ ie.zero = some (Value.agg #[Value.int .i64 0, Value.int .i64 0, Value.int .i64 0, Value.int .u8 0, Value.int .u8 0, Value.int .u8 0, Value.int .u8 0, Value.int .u8 0, Value.int .u8 0, Value.int .u8 0, Value.int .u8 0, Value.int .u8 0, Value.int .u8 0, Value.int .u8 0, Value.int .u8 0, Value.int .u8 0, Value.int .u8 0, Value.int .u8 0, Value.int .u8 0, Value.int .u8 0, Value.int .u8 0, Value.int .u8 0, Value.int .u8 0, Value.int .u8 0, Value.int .u8 0, Value.int .u8 0, Value.int .u8 0, Value.int .u8 0, Value.int .u8 0, Value.int .u8 0, Value.int .u8 0, Value.int .u8 0, Value.int .u8 0, Value.int .u8 0, Value.int .u8 0]) ∧ (¬ 1 * ie.size > 2 ^ 24) ∧ (¬ 1 * ie.size = 0) ∧ (∀ e : Th, e.2.2.2.length = 32 → Instr.fill (fun i => some (i * ie.size, ie.size)) ((Array.range (1 * ie.size)).map ((Value.agg #[Value.int .i64 0, Value.int .i64 0, Value.int .i64 0, Value.int .u8 0, Value.int .u8 0, Value.int .u8 0, Value.int .u8 0, Value.int .u8 0, Value.int .u8 0, Value.int .u8 0, Value.int .u8 0, Value.int .u8 0, Value.int .u8 0, Value.int .u8 0, Value.int .u8 0, Value.int .u8 0, Value.int .u8 0, Value.int .u8 0, Value.int .u8 0, Value.int .u8 0, Value.int .u8 0, Value.int .u8 0, Value.int .u8 0, Value.int .u8 0, Value.int .u8 0, Value.int .u8 0, Value.int .u8 0, Value.int .u8 0, Value.int .u8 0, Value.int .u8 0, Value.int .u8 0, Value.int .u8 0, Value.int .u8 0, Value.int .u8 0, Value.int .u8 0]).cells[· % (Value.agg #[Value.int .i64 0, Value.int .i64 0, Value.int .i64 0, Value.int .u8 0, Value.int .u8 0, Value.int .u8 0, Value.int .u8 0, Value.int .u8 0, Value.int .u8 0, Value.int .u8 0, Value.int .u8 0, Value.int .u8 0, Value.int .u8 0, Value.int .u8 0, Value.int .u8 0, Value.int .u8 0, Value.int .u8 0, Value.int .u8 0, Value.int .u8 0, Value.int .u8 0, Value.int .u8 0, Value.int .u8 0, Value.int .u8 0, Value.int .u8 0, Value.int .u8 0, Value.int .u8 0, Value.int .u8 0, Value.int .u8 0, Value.int .u8 0, Value.int .u8 0, Value.int .u8 0, Value.int .u8 0, Value.int .u8 0, Value.int .u8 0, Value.int .u8 0]).cells.size]!)) [(0, .agg (thC e).toArray)] = some (thC e).toArray))
  obtain ⟨F, hF⟩ : ∃ F, F = checkF st nx es := ⟨_, rfl⟩
  have HF := Aside0.mk hF
  have HCK := Aside0.mk (fun (W : World) (h : Ext w W) => check_calls W st nx pr A c n es (Kd.C_below hr h) hc hp hes)
  rw [← hF] at HCK
  have HPC := Aside0.mk (fun (W : World) (h : Ext w W) => put_calls W st nx pr A c n es F hF (Kd.C_below hr h) hc hp hes)
  have HAT := Aside0.mk hat
  have HBL := Aside0.mk hbl
  clear hst hp hpB hnx hes hn hr hF hat hbl hz hsz hx
  unfold smyV
  by_cases hbig : (300 : Int) < n
  · go_enter Try.func15, Try.ntmps15
    go_wp2_with fail
    refine (works_calls _).mono ?_
    rintro e w1 ⟨rfl, hE⟩
    go_wp2_with fail
    go_ret
    exact ⟨rfl, HE.out.trans hE⟩
  have HRW1 := Aside0.mk HK.out.whole
  go_enter Try.func15, Try.ntmps15
  go_wp2_with (first | ((with_reducible refine gate_load (ty := 58) rfl ?_); refine load_at rfl 58 _ rfl w.heap.size 0 rfl (smyC st pr nx (.slice A n c)) _ HRW1.out Try.underlying58 rfl (HIS.out _) ?_) | fail)
  refine (HCK.out _ HE.out).mono ?_
  rintro e w2 ⟨rfl, hE⟩
  obtain ⟨b1, hb1⟩ : ∃ b1, b1 = w.heap.size := ⟨_, rfl⟩
  rw [← hb1] at HK HRW1 c34 ⊢
  clear hb1
  replace HK := Aside0.mk (HK.out.ext hE)
  replace HE := Aside0.mk (HE.out.trans hE)
  replace HRW1 := Aside0.mk HK.out.whole
  replace c34 := Ext.cell hE c34
  clear hE
  by_cases z1 : F = 0
  case neg =>
    go_wp2_with fail
    refine (works_calls _).mono ?_
    rintro e w5 ⟨rfl, hE⟩
    go_wp2_with fail
    go_ret
    exact ⟨rfl, HE.out.trans hE⟩
  subst z1
  have HN16 := Aside0.mk (show n ≤ 16 by rw [HN.out]; exact checkF_le HF.out.symm)
  have hn16 := HN16.out
  obtain ⟨k1, hk1⟩ : ∃ k1, k1 = 56 + 56 * n := ⟨_, rfl⟩
  have HL1 := Aside0.mk (show (outP st pr nx es).length = k1 by rw [hk1]; unfold outP; rw [if_pos HF.out.symm, smyB_len HPL.out HX.out, HN.out])
  have HK1 := Aside0.mk hk1
  clear hk1
  go_wp2_with (first | ((with_reducible refine gate_load (ty := 58) rfl ?_); refine load_at rfl 58 _ rfl b1 0 rfl (smyC st pr nx (.slice A n c)) _ HRW1.out Try.underlying58 rfl (HIS.out _) ?_) | fail)
  refine (HPC.out _ HE.out).mono ?_
  rintro e w3 ⟨V, rfl, hN, hE⟩
  obtain ⟨A4, c4, hV, _, _⟩ := hN.reads
  rw [HL1.out] at hV
  subst hV
  replace HK := Aside0.mk (HK.out.ext hE)
  replace HE := Aside0.mk (HE.out.trans hE)
  replace HRW1 := Aside0.mk HK.out.whole
  replace c34 := Ext.cell hE c34
  clear hN hE HCK HPC
  obtain ⟨p, hp⟩ : ∃ p, p = pickT at_ ((n : Int) + 1) := ⟨_, rfl⟩
  have hpr := pickT_range at_ ((n : Int) + 1) (by omega)
  rw [← hp] at hpr
  obtain ⟨m, hm⟩ : ∃ m : Nat, p = m := ⟨p.toNat, by omega⟩
  have hmn : m ≤ n := by omega
  have HPK := Aside0.mk (pick_calls w3 at_ ((n : Int) + 1) p HAT.out.1 HAT.out.2 (by omega) hp)
  rw [hm] at HPK
  have hcut := cut_to (P := Try.prog) 56 73 .i64 Try.underlying56 hie A n c (m : Int) (by omega) (by omega) hc
  rw [Int.toNat_natCast] at hcut
  have HCUT := Aside0.mk hcut
  clear hp hpr hm hcut
  go_wp2_with fail
  refine HPK.out.mono ?_
  rintro e w4 ⟨rfl, hE⟩
  replace HK := Aside0.mk (HK.out.ext hE)
  replace HE := Aside0.mk (HE.out.trans hE)
  replace HRW1 := Aside0.mk HK.out.whole
  replace c34 := Ext.cell hE c34
  clear hE HPK
  go_wp2_with (first | ((with_reducible refine gate_load (ty := 58) rfl ?_); refine load_at rfl 58 _ rfl b1 0 rfl (smyC st pr nx (.slice A n c)) _ HRW1.out Try.underlying58 rfl (HIS.out _) ?_) | ((with_reducible refine gate_store (ty := 58) rfl ?_); (refine store_at rfl 58 _ _ rfl w4.heap.size (smyC st pr nx (.slice A n c)) rfl rfl #[Value.int .i64 0, Value.int .u8 0, Value.int .u8 0, Value.int .u8 0, Value.int .u8 0, Value.int .u8 0, Value.int .u8 0, Value.int .u8 0, Value.int .u8 0, Value.int .u8 0, Value.int .u8 0, Value.int .u8 0, Value.int .u8 0, Value.int .u8 0, Value.int .u8 0, Value.int .u8 0, Value.int .u8 0, Value.int .u8 0, Value.int .u8 0, Value.int .u8 0, Value.int .u8 0, Value.int .u8 0, Value.int .u8 0, Value.int .u8 0, Value.int .u8 0, Value.int .u8 0, Value.int .u8 0, Value.int .u8 0, Value.int .u8 0, Value.int .u8 0, Value.int .u8 0, Value.int .u8 0, Value.int .u8 0, Value.int .i64 0, Value.slice none 0 0] 58 (Blk.new w4 _ 58) (HSS.out _) (HIS.out _) (smyC_one _ _ _ _ _ _) ?_)) | fail)
  have HK4 := HK
  intro w5 hW hB9
  have hx5 := hW.ext ((Ext.refl w4).alloc _) (Nat.le_refl _)
  replace HK := Aside0.mk (HK.out.ext hx5)
  have H19 := Aside0.mk (show b1 < w4.heap.size from HK4.out.lt)
  have H9W := Aside0.mk (show w.heap.size ≤ w4.heap.size from HE.out.size)
  replace HE := Aside0.mk (HE.out.trans hx5)
  replace c34 := Ext.cell hx5 c34
  have HB9 := Aside0.mk hB9
  clear hW hx5 hB9 HRW1 HK4
  generalize w4.heap.size = b9 at HB9 H19 H9W ⊢
  have hcut := HCUT.out
  go_wp2_with fail
  refine (copyE_calls w5 A m c (es.take m) (by rw [List.length_take]; have := HN.out; omega) (C_cutE (Kd.C_below HC0.out HE.out) m hmn) (by omega) (fun e he => HX.out e (List.mem_of_mem_take he)) (by omega)).mono ?_
  rintro e w6 ⟨V, rfl, hR, hE⟩
  have HVb := Aside0.mk (show EB w6 (b9 + 1) V (es.take m) from EB.lower hR (by have := HB9.out.lt; omega))
  obtain ⟨A6, C6, hV6, _, _⟩ := EB.reads hR
  obtain ⟨N6, hN6⟩ : ∃ N6, N6 = (es.take m).length := ⟨_, rfl⟩
  rw [← hN6] at hV6
  subst hV6
  have HBb := Aside0.mk (HB9.out.ext hE)
  have HKb := Aside0.mk (HK.out.ext hE)
  have HXb := Aside0.mk (HE.out.trans hE)
  have c9 := (smyBlk HBb.out HPL.out).2.2.2
  have f9 := HBb.out.free 34
  clear hR hE hN6 hcut HB9 HK HE c34
  go_wp2_with fail
  clear c9 f9
  have HWs := Aside0.mk (Wrote.setCell w6 b9 34 (.slice A6 N6 C6))
  replace HBb := Aside0.mk (smy_set HBb.out HPL.out (.slice A6 N6 C6))
  replace HVb := Aside0.mk (HVb.out.wrote HWs.out (fun h => by have := Kd.R_base HVb.out _ h; omega))
  replace HKb := Aside0.mk (HKb.out.wrote HWs.out (by have := H19.out; omega))
  replace HXb := Aside0.mk (HWs.out.ext HXb.out (by have := H9W.out; omega))
  clear HWs
  generalize w6.setCell ⟨b9, 34, none⟩ (.slice A6 N6 C6) = w7 at *
  obtain ⟨r, hr⟩ : ∃ r, r = pickT bl 64 := ⟨_, rfl⟩
  have hrr := pickT_range bl 64 (by omega)
  rw [← hr] at hrr
  have HRR := Aside0.mk hrr
  have HPK := Aside0.mk (fun W => pick_calls W bl 64 r HBL.out.1 HBL.out.2 (by omega) hr)
  have HBT := Aside0.mk (built_t r)
  have cS : w7.drew.cell? ⟨b9, 34, none⟩ = some (.slice A6 N6 C6) := (smyBlk HBb.out HPL.out).2.2.2
  have HLIM := Aside0.mk (show ((es.take m).length + 1) * 56 ≤ 140737488355328 by rw [List.length_take]; omega)
  replace HVb := Aside0.mk (HVb.out.ext (Ext.refl w7).drew)
  replace HBb := Aside0.mk (HBb.out.drew)
  replace HKb := Aside0.mk (HKb.out.drew)
  replace HXb := Aside0.mk (show Ext w w7.drew from HXb.out.drew)
  clear hr hrr
  obtain ⟨V, hV⟩ : ∃ V : Value, V = .slice A6 N6 C6 := ⟨_, rfl⟩
  rw [← hV] at HVb HBb cS
  clear hV
  refine wp_region_u (fun w' => w'.cell? ⟨b9, 34, none⟩ = some V) 8 (by kernel_rfl) ?_
  show wpAnyU _ _ _ _ 8 9 (Array.replicate 9 false) _ w7.drew
  refine u_take 0 _ rfl (by kernel_rfl) (by kernel_rfl) (by kernel_rfl) rfl rfl (by kernel_rfl) rfl (fun _ _ _ h => h) (by rfl) cS (fun w' hc => by (try dsimp only at hc); (go_simp <;> rfl)) ?_
  (try simp only [Act.put, List.setIfInBounds_toArray, List.set_cons_zero, List.set_cons_succ])
  refine u_take 1 _ rfl (by kernel_rfl) (by kernel_rfl) (by kernel_rfl) rfl rfl (by kernel_rfl) rfl (fun _ _ _ h => h) (by rfl) cS (fun w' hc => by (try dsimp only at hc); (go_simp <;> rfl)) ?_
  (try simp only [Act.put, List.setIfInBounds_toArray, List.set_cons_zero, List.set_cons_succ])
  refine u_take 2 _ rfl (by kernel_rfl) (by kernel_rfl) (by kernel_rfl) rfl rfl (by kernel_rfl) rfl (fun _ _ _ h => h) (by rfl) cS (fun w' hc => by (try dsimp only at hc); (go_simp <;> rfl)) ?_
  (try simp only [Act.put, List.setIfInBounds_toArray, List.set_cons_zero, List.set_cons_succ])
  refine u_next 3 (fun u w2 => u = .int .i64 r ∧ Ext w7.drew w2) rfl (by kernel_rfl) (by rfl) (by unfold YldG; go_simp; exact (HPK.out _).mono fun e w2 h => ⟨_, h.1, trivial, rfl, h.2⟩) ?_
  rintro _ w8 ⟨rfl, hE⟩
  refine ⟨fun _ => Ext.cell hE cS, ?_⟩
  (try simp only [Act.put, List.setIfInBounds_toArray, List.set_cons_zero, List.set_cons_succ])
  replace HVb := Aside0.mk (HVb.out.ext hE)
  replace HBb := Aside0.mk (HBb.out.ext hE)
  replace HKb := Aside0.mk (HKb.out.ext hE)
  replace HXb := Aside0.mk (HXb.out.trans hE)
  replace cS := Ext.cell hE cS
  clear hE
  refine u_next 4 (fun u w2 => u = .agg (thC (trimE r)).toArray ∧ Ext w8 w2) rfl (by kernel_rfl) (by rfl) (by exact YldG_val (Yld_build 73 #[(0, .const (.int .i64 2)), (1, .tmp 44)] rfl (thC (trimE r)).toArray [(0, .int .i64 2), (1, .int .i64 r)] rfl HBT.out)) ?_
  rintro _ wb ⟨rfl, hE⟩
  refine ⟨fun _ => Ext.cell hE cS, ?_⟩
  (try simp only [Act.put, List.setIfInBounds_toArray, List.set_cons_zero, List.set_cons_succ])
  replace HVb := Aside0.mk (HVb.out.ext hE)
  replace HBb := Aside0.mk (HBb.out.ext hE)
  replace HKb := Aside0.mk (HKb.out.ext hE)
  replace HXb := Aside0.mk (HXb.out.trans hE)
  replace cS := Ext.cell hE cS
  clear hE
  refine u_next_wp 5 rfl (by kernel_rfl) (by rfl) ?_
  refine wp_slice1 56 73 (.tmp 45) rfl (thC (trimE r)).toArray rfl ie (Value.agg #[Value.int .i64 0, Value.int .i64 0, Value.int .i64 0, Value.int .u8 0, Value.int .u8 0, Value.int .u8 0, Value.int .u8 0, Value.int .u8 0, Value.int .u8 0, Value.int .u8 0, Value.int .u8 0, Value.int .u8 0, Value.int .u8 0, Value.int .u8 0, Value.int .u8 0, Value.int .u8 0, Value.int .u8 0, Value.int .u8 0, Value.int .u8 0, Value.int .u8 0, Value.int .u8 0, Value.int .u8 0, Value.int .u8 0, Value.int .u8 0, Value.int .u8 0, Value.int .u8 0, Value.int .u8 0, Value.int .u8 0, Value.int .u8 0, Value.int .u8 0, Value.int .u8 0, Value.int .u8 0, Value.int .u8 0, Value.int .u8 0, Value.int .u8 0]) Try.underlying56 HSL.out.1 HSL.out.2.1 HSL.out.2.2.1 HSL.out.2.2.2.1 (HSL.out.2.2.2.2 (trimE r) zero32_length) ?_
  refine ⟨fun _ => Ext.cell ((Ext.refl wb).alloc _) cS, ?_⟩
  (try simp only [Act.put, List.setIfInBounds_toArray, List.set_cons_zero, List.set_cons_succ])
  refine u_next_if 6 rfl (by kernel_rfl) (by rfl) ?_
  refine Kd.R_append_step kTh (w0 := wb) (b9 + 1) (by rfl) (.tmp 42) (.tmp 46) 56 73 (Value.agg #[Value.int .i64 0, Value.int .i64 0, Value.int .i64 0, Value.int .u8 0, Value.int .u8 0, Value.int .u8 0, Value.int .u8 0, Value.int .u8 0, Value.int .u8 0, Value.int .u8 0, Value.int .u8 0, Value.int .u8 0, Value.int .u8 0, Value.int .u8 0, Value.int .u8 0, Value.int .u8 0, Value.int .u8 0, Value.int .u8 0, Value.int .u8 0, Value.int .u8 0, Value.int .u8 0, Value.int .u8 0, Value.int .u8 0, Value.int .u8 0, Value.int .u8 0, Value.int .u8 0, Value.int .u8 0, Value.int .u8 0, Value.int .u8 0, Value.int .u8 0, Value.int .u8 0, Value.int .u8 0, Value.int .u8 0, Value.int .u8 0, Value.int .u8 0]) 56 rfl Try.underlying56 HIN.out rfl (by decide) (by decide) V (es.take m) (trimE r) (thC (trimE r)) (fun _ => True) (fun _ => False) rfl rfl (th_cells_of (trimE r) zero32_length wb wb (b9 + 1) (fun _ => False)) (fun _ hk => hk.elim) (fun _ _ => trivial) HVb.out (Below.refl _ _) HBb.out.lt HLIM.out ?_
  intro V1 wa hR hBl _ _
  obtain ⟨A1, C1, hV1, _, _⟩ := EB.reads hR
  obtain ⟨N1, hN1⟩ : ∃ N1, N1 = ((es.take m) ++ [(trimE r)]).length := ⟨_, rfl⟩
  rw [← hN1] at hV1
  subst hV1
  clear hN1
  have HVa := Aside0.mk (show EB wa (b9 + 1) (.slice A1 N1 C1) ((es.take m) ++ [(trimE r)]) from hR)
  have HBa := Aside0.mk (HBb.out.below (Nat.lt_succ_self _) hBl)
  have HKa := Aside0.mk (HKb.out.below (Nat.lt_succ_of_lt H19.out) hBl)
  have HXa := Aside0.mk (ext_below HXb.out hBl (by have := H9W.out; omega))
  refine ⟨fun _ => (smyBlk HBa.out HPL.out).2.2.2, ?_⟩
  clear hR hBl HVb HBb HKb HXb
  (try simp only [Act.put, List.setIfInBounds_toArray, List.set_cons_zero, List.set_cons_succ])
  refine u_next_wp 7 rfl (by kernel_rfl) (by rfl) ?_
  go_simp
  refine ⟨(smyBlk HBa.out HPL.out).2.2.2, ?_⟩
  (try simp only [Act.put, List.setIfInBounds_toArray, List.set_cons_zero, List.set_cons_succ])
  refine u_next_wp 8 rfl (by kernel_rfl) (by rfl) ?_
  have ca := (smyBlk HBa.out HPL.out).2.2.2
  have cf := HBa.out.free 34
  go_simp
  (try simp only [Act.put, List.setIfInBounds_toArray, List.set_cons_zero, List.set_cons_succ])
  refine u_done (by kernel_rfl) ?_ _
  have HWs := Aside0.mk (Wrote.setCell wa b9 34 (.slice A1 N1 C1))
  have HBs := Aside0.mk (show Blk (wa.setCell ⟨b9, 34, none⟩ (.slice A1 N1 C1)) b9 (smyC st pr nx (.slice A1 N1 C1)).toArray 58 from smy_set HBa.out HPL.out (.slice A1 N1 C1))
  have HVs := Aside0.mk (HVa.out.wrote HWs.out (fun h => by have := Kd.R_base HVa.out _ h; omega))
  have HKs := Aside0.mk (HKa.out.wrote HWs.out (by have := H19.out; omega))
  have HXs := Aside0.mk (HWs.out.ext HXa.out (by have := H9W.out; omega))
  clear HWs HBa HVa HKa HXa ca cf
  generalize wa.setCell ⟨b9, 34, none⟩ (.slice A1 N1 C1) = wz at *
  have HV0 := Aside0.mk (show EB wz (b9 + 1) (.slice A1 N1 C1) (addX es m r m) by rw [addX_0]; exact HVs.out)
  clear HVs
  go_wp2_with fail
  go_loopw [10] (fun i wr => ∃ x : Nat, i = .int .i64 x ∧ Aside0 (m ≤ x ∧ x ≤ n) ∧ (∃ A1 N1 C1, Aside0 (Blk wr b9 (smyC st pr nx (.slice A1 N1 C1)).toArray 58) ∧ Aside0 (EB wr (b9 + 1) (.slice A1 N1 C1) (addX es m r x))) ∧ Aside0 (Blk wr b1 (smyC st pr nx (.slice A n c)).toArray 58) ∧ Aside0 (Ext w wr)) (fun i _ => n - (intOf i).toNat)
  case atStart => exact ⟨m, rfl, ⟨Nat.le_refl _, hmn⟩, ⟨_, _, _, HBs, HV0⟩, HKs, HXs⟩
  case round =>
    clear HBs HKs HXs HV0 HCUT
    obtain ⟨x, rfl, HXX, ⟨A2, N2, C2, HB2, HV2⟩, HK2, HE2⟩ := hrel
    have g0 := HXX.out.1
    have g1 := HXX.out.2
    obtain ⟨wx, hwx⟩ : ∃ wx : World, wx = wr := ⟨_, rfl⟩
    subst hwx
    have c34 := (smyBlk HK2.out HPL.out).2.2.2
    by_cases hlt : x < n
    · have HLT := Aside0.mk hlt
      have hxe : x < es.length := by have := HN.out; omega
      obtain ⟨b, off, hA, hrg⟩ := th_at HC0.out x hlt _ (List.getElem?_eq_getElem hxe)
      have ho := HX.out _ (List.getElem_mem hxe)
      have hq := addX_s es m r x g0 hxe
      generalize es[x] = e at hrg ho hq
      subst hA
      have HQ := Aside0.mk hq
      have HO := Aside0.mk ho
      have HRG := Aside0.mk hrg
      have HI1 := Aside0.mk (show (Try.prog.info? 73).map (·.size) = some (thC e).length by rw [thC_len ho.2.2.2.1]; kernel_rfl)
      have HLIM := Aside0.mk (show ((addX es m r x).length + 1) * 56 ≤ 140737488355328 by rw [addX_len es m r x g0 (Nat.le_of_lt hxe)]; omega)
      clear hq ho hrg hxe
      obtain ⟨V, hV⟩ : ∃ V : Value, V = .slice A2 N2 C2 := ⟨_, rfl⟩
      rw [← hV] at HB2 HV2
      clear hV
      have HVb := Aside0.mk (HV2.out.ext (Ext.refl wx).drew)
      have HBb := Aside0.mk (HB2.out.drew)
      have HKb := Aside0.mk (HK2.out.drew)
      have HXb := Aside0.mk (show Ext w wx.drew from HE2.out.drew)
      have cS : SX b9 b1 V (.slice (some ⟨b, off, none⟩) n c) b (off + x * 35) (thC e) wx.drew := ⟨(smyBlk HBb.out HPL.out).2.2.2, (smyBlk HKb.out HPL.out).2.2.2, rangeAt_ext HRG.out HXb.out⟩
      go_wp2_with fail
      clear c34 HV2 HB2 HK2 HE2
      refine wp_region_u (SX b9 b1 V (.slice (some ⟨b, off, none⟩) n c) b (off + x * 35) (thC e)) 10 (by kernel_rfl) ?_
      show wpAnyU _ _ _ _ 10 11 (Array.replicate 11 false) _ wx.drew
      refine u_take 0 _ rfl (by kernel_rfl) (by kernel_rfl) (by kernel_rfl) rfl rfl (by kernel_rfl) rfl (fun _ _ _ h => h) (by rfl) cS (fun w' hc => by (try dsimp only at hc); obtain ⟨h1, h2, h3⟩ := hc; (go_simp <;> rfl)) ?_
      (try simp only [Act.put, List.setIfInBounds_toArray, List.set_cons_zero, List.set_cons_succ])
      refine u_take 1 _ rfl (by kernel_rfl) (by kernel_rfl) (by kernel_rfl) rfl rfl (by kernel_rfl) rfl (fun _ _ _ h => h) (by rfl) cS (fun w' hc => by (try dsimp only at hc); obtain ⟨h1, h2, h3⟩ := hc; (go_simp <;> rfl)) ?_
      (try simp only [Act.put, List.setIfInBounds_toArray, List.set_cons_zero, List.set_cons_succ])
      refine u_take 2 _ rfl (by kernel_rfl) (by kernel_rfl) (by kernel_rfl) rfl rfl (by kernel_rfl) rfl (fun _ _ _ h => h) (by rfl) cS (fun w' hc => by (try dsimp only at hc); obtain ⟨h1, h2, h3⟩ := hc; (go_simp <;> rfl)) ?_
      (try simp only [Act.put, List.setIfInBounds_toArray, List.set_cons_zero, List.set_cons_succ])
      refine u_take 3 _ rfl (by kernel_rfl) (by kernel_rfl) (by kernel_rfl) rfl rfl (by kernel_rfl) rfl (fun _ _ _ h => h) (by rfl) cS (fun w' hc => by (try dsimp only at hc); obtain ⟨h1, h2, h3⟩ := hc; (go_simp <;> rfl)) ?_
      (try simp only [Act.put, List.setIfInBounds_toArray, List.set_cons_zero, List.set_cons_succ])
      refine u_take 4 _ rfl (by kernel_rfl) (by kernel_rfl) (by kernel_rfl) rfl rfl (by kernel_rfl) rfl (fun _ _ _ h => h) (by rfl) cS (fun w' hc => by (try dsimp only at hc); obtain ⟨h1, h2, h3⟩ := hc; (go_simp <;> rfl)) ?_
      (try simp only [Act.put, List.setIfInBounds_toArray, List.set_cons_zero, List.set_cons_succ])
      refine u_take 5 _ rfl (by kernel_rfl) (by kernel_rfl) (by kernel_rfl) rfl rfl (by kernel_rfl) rfl (fun _ _ _ h => h) (by rfl) cS (fun w' hc => by (try dsimp only at hc); obtain ⟨h1, h2, h3⟩ := hc; (go_simp <;> rfl)) ?_
      (try simp only [Act.put, List.setIfInBounds_toArray, List.set_cons_zero, List.set_cons_succ])
      refine u_take 6 _ rfl (by kernel_rfl) (by kernel_rfl) (by kernel_rfl) rfl rfl (by kernel_rfl) rfl (fun _ _ _ h => h) (by rfl) cS (fun w' hc => by (try dsimp only at hc); obtain ⟨h1, h2, h3⟩ := hc; exact run_load_at 73 (.tmp 62) rfl b (off + x * 35) rfl (thC e) _ h3 Try.underlying73 rfl HI1.out) ?_
      (try simp only [Act.put, List.setIfInBounds_toArray, List.set_cons_zero, List.set_cons_succ])
      refine u_next_wp 7 rfl (by kernel_rfl) (by rfl) ?_
      refine wp_slice1 56 73 (.tmp 63) rfl (thC e).toArray rfl ie (Value.agg #[Value.int .i64 0, Value.int .i64 0, Value.int .i64 0, Value.int .u8 0, Value.int .u8 0, Value.int .u8 0, Value.int .u8 0, Value.int .u8 0, Value.int .u8 0, Value.int .u8 0, Value.int .u8 0, Value.int .u8 0, Value.int .u8 0, Value.int .u8 0, Value.int .u8 0, Value.int .u8 0, Value.int .u8 0, Value.int .u8 0, Value.int .u8 0, Value.int .u8 0, Value.int .u8 0, Value.int .u8 0, Value.int .u8 0, Value.int .u8 0, Value.int .u8 0, Value.int .u8 0, Value.int .u8 0, Value.int .u8 0, Value.int .u8 0, Value.int .u8 0, Value.int .u8 0, Value.int .u8 0, Value.int .u8 0, Value.int .u8 0, Value.int .u8 0]) Try.underlying56 HSL.out.1 HSL.out.2.1 HSL.out.2.2.1 HSL.out.2.2.2.1 (HSL.out.2.2.2.2 e HO.out.2.2.2.1) ?_
      refine ⟨fun _ => ⟨Ext.cell ((Ext.refl wx.drew).alloc _) cS.1, Ext.cell ((Ext.refl wx.drew).alloc _) cS.2.1, rangeAt_ext cS.2.2 ((Ext.refl wx.drew).alloc _)⟩, ?_⟩
      (try simp only [Act.put, List.setIfInBounds_toArray, List.set_cons_zero, List.set_cons_succ])
      refine u_next_if 8 rfl (by kernel_rfl) (by rfl) ?_
      refine Kd.R_append_step kTh (w0 := wx.drew) (b9 + 1) (by rfl) (.tmp 58) (.tmp 64) 56 73 (Value.agg #[Value.int .i64 0, Value.int .i64 0, Value.int .i64 0, Value.int .u8 0, Value.int .u8 0, Value.int .u8 0, Value.int .u8 0, Value.int .u8 0, Value.int .u8 0, Value.int .u8 0, Value.int .u8 0, Value.int .u8 0, Value.int .u8 0, Value.int .u8 0, Value.int .u8 0, Value.int .u8 0, Value.int .u8 0, Value.int .u8 0, Value.int .u8 0, Value.int .u8 0, Value.int .u8 0, Value.int .u8 0, Value.int .u8 0, Value.int .u8 0, Value.int .u8 0, Value.int .u8 0, Value.int .u8 0, Value.int .u8 0, Value.int .u8 0, Value.int .u8 0, Value.int .u8 0, Value.int .u8 0, Value.int .u8 0, Value.int .u8 0, Value.int .u8 0]) 56 rfl Try.underlying56 HIN.out rfl (by decide) (by decide) V (addX es m r x) e (thC e) (fun _ => True) (fun _ => False) rfl rfl (th_cells_of e HO.out.2.2.2.1 wx.drew wx.drew (b9 + 1) (fun _ => False)) (fun _ hk => hk.elim) (fun _ _ => trivial) HVb.out (Below.refl _ _) HBb.out.lt HLIM.out ?_
      intro V1 wa hR hBl _ _
      obtain ⟨A1, C1, hV1, _, _⟩ := EB.reads hR
      obtain ⟨N1, hN1⟩ : ∃ N1, N1 = ((addX es m r x) ++ [e]).length := ⟨_, rfl⟩
      rw [← hN1] at hV1
      subst hV1
      clear hN1
      have HVa := Aside0.mk (show EB wa (b9 + 1) (.slice A1 N1 C1) ((addX es m r x) ++ [e]) from hR)
      have HBa := Aside0.mk (HBb.out.below (Nat.lt_succ_self _) hBl)
      have HKa := Aside0.mk (HKb.out.below (Nat.lt_succ_of_lt H19.out) hBl)
      have HXa := Aside0.mk (ext_below HXb.out hBl (by have := H9W.out; omega))
      refine ⟨fun _ => ⟨(smyBlk HBa.out HPL.out).2.2.2, (smyBlk HKa.out HPL.out).2.2.2, rangeAt_ext HRG.out HXa.out⟩, ?_⟩
      clear hR hBl HVb HBb HKb HXb
      (try simp only [Act.put, List.setIfInBounds_toArray, List.set_cons_zero, List.set_cons_succ])
      refine u_next_wp 9 rfl (by kernel_rfl) (by rfl) ?_
      go_simp
      refine ⟨⟨(smyBlk HBa.out HPL.out).2.2.2, (smyBlk HKa.out HPL.out).2.2.2, rangeAt_ext HRG.out HXa.out⟩, ?_⟩
      (try simp only [Act.put, List.setIfInBounds_toArray, List.set_cons_zero, List.set_cons_succ])
      refine u_next_wp 10 rfl (by kernel_rfl) (by rfl) ?_
      have ca := (smyBlk HBa.out HPL.out).2.2.2
      have cf := HBa.out.free 34
      go_simp
      (try simp only [Act.put, List.setIfInBounds_toArray, List.set_cons_zero, List.set_cons_succ])
      refine u_done (by kernel_rfl) ?_ _
      have HWs := Aside0.mk (Wrote.setCell wa b9 34 (.slice A1 N1 C1))
      have HBs := Aside0.mk (show Blk (wa.setCell ⟨b9, 34, none⟩ (.slice A1 N1 C1)) b9 (smyC st pr nx (.slice A1 N1 C1)).toArray 58 from smy_set HBa.out HPL.out (.slice A1 N1 C1))
      have HVs := Aside0.mk (HVa.out.wrote HWs.out (fun h => by have := Kd.R_base HVa.out _ h; omega))
      have HKs := Aside0.mk (HKa.out.wrote HWs.out (by have := H19.out; omega))
      have HXs := Aside0.mk (HWs.out.ext HXa.out (by have := H9W.out; omega))
      clear HWs HBa HVa HKa HXa ca cf
      generalize wa.setCell ⟨b9, 34, none⟩ (.slice A1 N1 C1) = wz at *
      have HV3 := Aside0.mk (show EB wz (b9 + 1) (.slice A1 N1 C1) (addX es m r (x + 1)) by rw [HQ.out]; exact HVs.out)
      clear HVs
      go_wp2_with fail
      go_roundw
      case rel => exact ⟨x + 1, by go_num, ⟨by omega, by omega⟩, ⟨_, _, _, HBs, HV3⟩, HKs, HXs⟩
      case measure => have := HLT.out; simp only [intOf]; omega
    · have hxn : x = es.length := by have := HN.out; omega
      have HV := Aside0.mk (show EB wx (b9 + 1) (.slice A2 N2 C2) (addL es m r) by rw [← addX_n, ← hxn]; exact HV2.out)
      have hN2 : N2 = (addL es m r).length := (Kd.R_reads' HV.out).1
      have hC2 : N2 ≤ C2 := (Kd.R_reads' HV.out).2.1
      have hok2 := addL_ok HX.out m r HRR.out.1 HRR.out.2
      obtain ⟨F2, hF2⟩ : ∃ F2, F2 = checkF st nx (addL es m r) := ⟨_, rfl⟩
      have HP2 := Aside0.mk (put_calls wx st nx pr A2 C2 N2 (addL es m r) F2 hF2 (EB.reads' HV.out hN2) hC2 HPL.out hok2)
      have HF2 := Aside0.mk (show F2 = if es.length = 16 then 17 else 0 by rw [hF2]; exact check_add HF.out.symm m r HRR.out.1 HRR.out.2)
      have HF3 := Aside0.mk hF2
      have HOK2 := Aside0.mk hok2
      have HRW9 := Aside0.mk HB2.out.whole
      clear hF2 hok2 hN2 hxn HV2 HPK HBT
      go_wp2_with (first | ((with_reducible refine gate_load (ty := 58) rfl ?_); refine load_at rfl 58 _ rfl b9 0 rfl (smyC st pr nx (.slice A2 N2 C2)) _ HRW9.out Try.underlying58 rfl (HIS.out _) ?_) | fail)
      refine HP2.out.mono ?_
      rintro e w8 ⟨V8, rfl, hN8, hE8⟩
      obtain ⟨A8, c8, hV8, _, _⟩ := hN8.reads
      obtain ⟨k2, hk2⟩ : ∃ k2, k2 = (outP st pr nx (addL es m r)).length := ⟨_, rfl⟩
      rw [← hk2] at hV8
      subst hV8
      have HK2' := Aside0.mk hk2
      replace HK2 := Aside0.mk (HK2.out.ext hE8)
      replace HB2 := Aside0.mk (HB2.out.ext hE8)
      replace HE2 := Aside0.mk (HE2.out.trans hE8)
      replace c34 := Ext.cell hE8 c34
      clear hk2 hN8 hE8 HRW9 HV HP2
      by_cases h16 : n = 16
      · have h17 : F2 = 17 := by rw [HF2.out, if_pos (by have := HN.out; omega)]
        subst h17
        subst h16
        go_wp2_with fail
        refine (works_calls _).mono ?_
        rintro e w9 ⟨rfl, hE⟩
        go_wp2_with fail
        go_ret
        exact ⟨rfl, HE2.out.trans hE⟩
      · have h0 : F2 = 0 := by rw [HF2.out, if_neg (by have := HN.out; omega)]
        subst h0
        obtain rfl : k2 = k1 + 56 := by
          rw [HK2'.out]
          unfold outP
          rw [if_pos HF3.out.symm, smyB_len HPL.out HOK2.out, addL_len, HK1.out]
          have := HN.out
          omega
        have h16d : ((n : Int) == 16) = false := by simp; omega
        have h88 : ((k1 : Int) + 56 != (k1 : Int) + 56) = false := by simp
        have hk1 : k1 ≤ 1000 := by have := HK1.out; omega
        by_cases hpos : 0 < n
        · have hcut := cut_to (P := Try.prog) 56 73 .i64 Try.underlying56 hie A n c ((n : Int) - 1) (by omega) (by omega) hc
          rw [show ((n : Int) - 1).toNat = n - 1 by omega] at hcut
          have hpd : decide (0 < (n : Int)) = true := decide_eq_true (by omega)
          go_wp2_with fail
          refine (copyE_calls w8 A (n - 1) c (es.take (n - 1)) (by rw [List.length_take]; have := HN.out; omega) (C_cutE (Kd.C_below HC0.out HE2.out) (n - 1) (by omega)) (by omega) (fun e he => HX.out e (List.mem_of_mem_take he)) (by omega)).mono ?_
          rintro e w9 ⟨V, rfl, hR, hE⟩
          have HVb := Aside0.mk (show EB w9 (b9 + 1) V (es.take (n - 1)) from EB.lower hR (by have := HB2.out.lt; omega))
          obtain ⟨A6, C6, hV6, _, _⟩ := EB.reads hR
          obtain ⟨N6, hN6⟩ : ∃ N6, N6 = (es.take (n - 1)).length := ⟨_, rfl⟩
          rw [← hN6] at hV6
          subst hV6
          replace HB2 := Aside0.mk (HB2.out.ext hE)
          replace HE2 := Aside0.mk (HE2.out.trans hE)
          have c9 := (smyBlk HB2.out HPL.out).2.2.2
          have f9 := HB2.out.free 34
          have HW := Aside0.mk (Wrote.setCell w9 b9 34 (.slice A6 N6 C6))
          have HB3 := Aside0.mk (smy_set HB2.out HPL.out (.slice A6 N6 C6))
          have HV3 := Aside0.mk (HVb.out.wrote HW.out (fun h => by have := Kd.R_base HVb.out _ h; omega))
          have HE3 := Aside0.mk (HW.out.ext HE2.out (by have := H9W.out; omega))
          have HRW6 := Aside0.mk HB3.out.whole
          have HN6 := Aside0.mk hN6
          clear hR hE hN6 c34 HK2 HW hcut
          go_wp2_with (first | ((with_reducible refine gate_load (ty := 58) rfl ?_); refine load_at rfl 58 _ rfl b9 0 rfl (smyC st pr nx (.slice A6 N6 C6)) _ HRW6.out Try.underlying58 rfl (HIS.out _) ?_) | fail)
          clear c9 f9 HB2 HVb HE2
          generalize w9.setCell ⟨b9, 34, none⟩ (.slice A6 N6 C6) = wa at *
          refine (check_calls wa st nx pr A6 C6 N6 (es.take (n - 1)) (EB.reads' HV3.out HN6.out) (Kd.R_reads' HV3.out).2.1 HPL.out (fun e he => HX.out e (List.mem_of_mem_take he))).mono ?_
          rw [check_take HF.out.symm (n - 1)]
          rintro e wb ⟨rfl, hE⟩
          have HEb := Aside0.mk (HE3.out.trans hE)
          clear hE
          go_wp2_with fail
          refine (works_calls _).mono ?_
          rintro e wc ⟨rfl, hE⟩
          go_wp2_with fail
          go_ret
          exact ⟨rfl, HEb.out.trans hE⟩
        · have hpd : decide (0 < (n : Int)) = false := decide_eq_false (by omega)
          obtain rfl : n = 0 := by omega
          go_wp2_with fail
          refine (works_calls _).mono ?_
          rintro e w9 ⟨rfl, hE⟩
          go_wp2_with fail
          go_ret
          exact ⟨rfl, HE2.out.trans hE⟩
end Go.Proofs.Ythgdjgnbifakbaa.By
