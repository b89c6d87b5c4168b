/- '==' and '!=' of entries; rows of entries and summaries compared. -/
import Derived.Test.YthgdjgnbifakbaaLb
namespace Go.Proofs.Ythgdjgnbifakbaa.By
open Go.RowKit Go.Proofs.Ythgdjgnbifakbaa.Reg Go.Proofs.YthgdjgnbifakbaaW.PrintWords Go.Proofs.YthgdjgnbifakbaaW.PrintLast Go.Proofs.YthgdjgnbifakbaaW.PrintMore
set_option linter.unusedVariables false
set_option linter.unusedSimpArgs false


theorem wf_i64 {x : Int} (h : -9223372036854775808 ≤ x ∧ x ≤ 9223372036854775807) : (Lit.int .i64 x).wf = true := by
  simp [Lit.wf, IntKind.min, IntKind.max, IntKind.signed, IntKind.bits]; omega
theorem keyLits_th (d : Nat) (e : Th) (he : Th.ok e) : Try.prog.keyLits (d + 3) 73 (thC e) = some (Lit.int .i64 e.1 :: Lit.int .i64 e.2.1 :: Lit.int .i64 e.2.2.1 :: lits e.2.2.2) := by
  obtain ⟨a, b, c, s⟩ := e
  obtain ⟨ha, hb, hc0, hs, hB⟩ := he
  unfold Program.keyLits
  rw [Try.underlying73]
  simp only []
  have hc : Try.prog.cellsOf 73 = 35 := by kernel_rfl
  have h24 : Try.prog.cellsOf 24 = 32 := by kernel_rfl
  have h3 : Try.prog.cellsOf 3 = 1 := by kernel_rfl
  have hs' : s.length = 32 := hs
  rw [if_pos ⟨by unfold thC refC; rw [List.length_cons, List.length_cons, List.length_cons, nums_length, hs', hc], by kernel_rfl⟩]
  simp only [List.mapM_cons, List.mapM_nil, h24, h3]
  have e1 : ((thC (a, b, c, s)).drop 0).take 1 = [.int .i64 a] := rfl
  have e2 : ((thC (a, b, c, s)).drop 1).take 1 = [.int .i64 b] := rfl
  have e3 : ((thC (a, b, c, s)).drop 2).take 1 = [.int .i64 c] := rfl
  have e4 : ((thC (a, b, c, s)).drop 3).take 32 = nums .u8 s := by
    show ((nums .u8 s).drop 0).take 32 = _
    rw [List.drop_zero, List.take_of_length_le (by rw [nums_length, hs']; exact Nat.le_refl _)]
  have e5 : ∀ x : Int, (Lit.int .i64 x).wf = true → Try.prog.keyLits (d + 2) 3 [.int .i64 x] = some [Lit.int .i64 x] := by
    intro x hx
    unfold Program.keyLits
    rw [Try.underlying3]
    simp only []
    rw [if_pos ⟨trivial, hx⟩]
  rw [e1, e2, e3, e4, keyLits_sum d s hs hB, e5 a (wf_i64 ha), e5 b (wf_i64 hb), e5 c (wf_i64 hc0)]
  simp [lits]
theorem equal_th (x y : Th) (hx : Th.ok x) (hy : Th.ok y) (w : World) : (Op.equal 73 (.agg (thC x).toArray) (.agg (thC y).toArray)).run Try.prog w = .ok (decide (x = y)) w := by
  have f : ∀ u : Th, Th.ok u → (Value.agg (thC u).toArray).formed Try.prog 73 = true := by
    intro u hu
    simp only [Value.formed, Try.underlying73]
    have hc : Try.prog.cellsOf 73 = 35 := by kernel_rfl
    rw [hc]
    simp [thC, refC, nums_length, hu.2.2.2.1]
  obtain ⟨r, hr, hiff⟩ := run_equalIn_deep (P := Try.prog) 9997 3 73 (by kernel_rfl) w 3 3 (.agg (thC x).toArray) (.agg (thC y).toArray) _ _ (f x hx) (f y hy) (by simpa [Value.cells] using keyLits_th 0 x hx) (by simpa [Value.cells] using keyLits_th 0 y hy)
  have : r = decide (x = y) := by
    obtain ⟨a, b, c, s⟩ := x
    obtain ⟨a', b', c', s'⟩ := y
    simp only [List.cons.injEq, lits_inj] at hiff
    have h2 : ∀ p q : Int, (Lit.int .i64 p = Lit.int .i64 q) ↔ p = q := fun p q => ⟨fun h => by injection h, fun h => by rw [h]⟩
    rw [h2, h2, h2] at hiff
    cases r
    · simp at hiff; simpa using hiff
    · simp at hiff; simpa using hiff
  rw [← this]
  exact hr
section
variable {P : Program} {w : World} {ops : Array Oper} {rest : List Oper} {o : Oper} {a : Act} {Q : Exit → Act → World → Prop}
theorem run_neq (t yt : TypeId) (x y : Operand) (ho : o.op = .binOp .neq t x y yt) (xs ys : Array Value) (hx : a.eval x = .agg xs) (hy : a.eval y = .agg ys) (hg : P.eqGuardType P.depth t = false) (r : Bool) (he : (Op.equal t (.agg xs) (.agg ys)).run P w = .ok r w) :
    (execOp a.eval o).run P w = .ok (.value (.bool (!r))) w := by
  unfold execOp
  simp only [ho, hx, hy, Sem.run_bind, run_eqGuard_agg w BinOp.neq t x y xs ys hg, Result.andThen_ok, binOp, he, Sem.run_pure]
theorem gate_neq {ty : TypeId} {x y : Operand} {yt : TypeId} (_ho : o.op = .binOp .neq ty x y yt) (h : wpList P ops Q (o :: rest) a w) : wpList P ops Q (o :: rest) a w := h
theorem neq_at (hw : Region.wanted o (yielded ops a.tmps) = true) (t yt : TypeId) (x y : Operand) (ho : o.op = .binOp .neq t x y yt) (xs ys : Array Value) (hx : a.eval x = .agg xs) (hy : a.eval y = .agg ys) (hg : P.eqGuardType P.depth t = false) (r : Bool) (he : (Op.equal t (.agg xs) (.agg ys)).run P w = .ok r w)
    (h : wpList P ops Q rest (a.put o.dst (.bool (!r))) w) : wpList P ops Q (o :: rest) a w :=
  BigFrame.wpList_want hw fun K hK => by
    unfold Oper.wp
    rw [run_neq t yt x y ho xs ys hx hy hg r he]
    exact hK _ _ h
theorem Yld_neq (t yt : TypeId) (x y : Operand) (ho : o.op = .binOp .neq t x y yt) (xs ys : Array Value) (hx : a.eval x = .agg xs) (hy : a.eval y = .agg ys) (hg : P.eqGuardType P.depth t = false) (r : Bool) (he : (Op.equal t (.agg xs) (.agg ys)).run P w = .ok r w) :
    Yld P o a w (.val (.bool (!r))) := by
  unfold Yld
  rw [run_neq t yt x y ho xs ys hx hy hg r he]
  exact ⟨Ext.refl _, rfl⟩
end

set_option maxRecDepth 100000 in
set_option maxHeartbeats 8000000 in
theorem sameE_calls (w : World) (A B : Option Addr) (c d : Nat) (xs ys : List Th) (n m : Nat) (hn : n = xs.length) (hm : m = ys.length) (hr : Kd.C kTh w A n xs) (hr' : Kd.C kTh w B m ys) (hx : ∀ e ∈ xs, Th.ok e) (hy : ∀ e ∈ ys, Th.ok e) (hl : n ≤ 1000000) (r : Bool) (hrr : r = decide (xs = ys)) :
    Calls Try.prog 72 #[.slice A n c, .slice B m d] w fun e w' => e = .returned (.bool r) ∧ Ext w w' := by
  have HR := Aside0.mk hr
  have HR' := Aside0.mk hr'
  have HN := Aside0.mk hn
  have HM := Aside0.mk hm
  have HOX := Aside0.mk hx
  have HOY := Aside0.mk hy
  have HRR := Aside0.mk hrr
  clear hr hr' hx hy hrr hn hm
  go_enter Try.func72, Try.ntmps72
  by_cases hlen : n = m
  case neg =>
    have HF := Aside0.mk (show r = false by rw [HRR.out]; exact decide_eq_false (fun e => hlen (by rw [HN.out, HM.out, e])))
    have hlen' : ¬ (n : Int) = (m : Int) := by omega
    have hlen2 : ((n : Int) != (m : Int)) = true := by simpa using hlen'
    go_wp2
    go_ret
    exact ⟨by rw [HF.out]; rfl, Ext.refl _⟩
  subst hlen
  have hnn : ((n : Int) != (n : Int)) = false := by simp
  go_wp2
  go_loopw [5] (fun i wr => ∃ x : Int, i = .int .i64 x ∧ Aside0 (0 ≤ x ∧ x ≤ n) ∧ Aside0 (∀ j : Nat, (j : Int) < x → xs[j]? = ys[j]?) ∧ Aside0 (Ext w wr)) (fun i _ => n - (intOf i).toNat)
  case atStart => exact ⟨0, rfl, ⟨by omega, by omega⟩, ⟨fun j hj => by omega⟩, ⟨Ext.refl _⟩⟩
  case round =>
    obtain ⟨x, rfl, HX, HQ, HE⟩ := hrel
    obtain ⟨g0, g1⟩ := HX.out
    obtain ⟨wx, hwx⟩ : ∃ wx : World, wx = wr := ⟨_, rfl⟩
    subst hwx
    by_cases hlt : x < n
    · have hx1 : x.toNat < xs.length := by have := HN.out; omega
      have hy1 : x.toNat < ys.length := by have := HM.out; omega
      obtain ⟨b, off, hA, hrg⟩ := th_at (Kd.C_below HR.out HE.out) x.toNat (by omega) _ (List.getElem?_eq_getElem hx1)
      obtain ⟨b', off', hB, hrg'⟩ := th_at (Kd.C_below HR'.out HE.out) x.toNat (by omega) _ (List.getElem?_eq_getElem hy1)
      subst hA
      subst hB
      have ho := HOX.out _ (List.getElem_mem hx1)
      have ho' := HOY.out _ (List.getElem_mem hy1)
      have hq : (xs[x.toNat] = ys[x.toNat]) ↔ xs[x.toNat]? = ys[x.toNat]? := by rw [List.getElem?_eq_getElem hx1, List.getElem?_eq_getElem hy1, Option.some_inj]
      generalize xs[x.toNat] = p at hrg ho hq
      generalize ys[x.toNat] = q at hrg' ho' hq
      have HP := Aside0.mk ho
      have HQ' := Aside0.mk ho'
      have HG := Aside0.mk hrg
      have HG' := Aside0.mk hrg'
      have HQQ := Aside0.mk hq
      have HLT := Aside0.mk hlt
      have HI := Aside0.mk (show (Try.prog.info? 73).map (·.size) = some (thC p).length by rw [thC_len ho.2.2.2.1]; kernel_rfl)
      have HI' := Aside0.mk (show (Try.prog.info? 73).map (·.size) = some (thC q).length by rw [thC_len ho'.2.2.2.1]; kernel_rfl)
      clear ho ho' hrg hrg' hq hx1 hy1
      go_wp2_with fail
      apply wp_region_facts 9 [RF.val _, RF.val _, RF.val _, RF.val _, RF.val _, RF.val _, RF.val _, RF.val _, RF.val _]
      case hm => kernel_rfl
      case hB => kernel_rfl
      simp only [List.take_succ_cons, List.take_zero, List.zip_cons_cons, List.zip_nil_left]
      (first | refine wpF_val rfl (fun w' hE hD => by unfold Yld; go_simp; exact ⟨Ext.refl _, rfl⟩) ?_ | refine wpF_valg (by rfl) (fun w' hE hD => by unfold Yld; go_simp; exact ⟨Ext.refl _, rfl⟩) ?_)
      (try simp only [Act.put, List.setIfInBounds_toArray, List.set_cons_zero, List.set_cons_succ])
      (first | refine wpF_val rfl (fun w' hE hD => by unfold Yld; go_simp; exact ⟨Ext.refl _, rfl⟩) ?_ | refine wpF_valg (by rfl) (fun w' hE hD => by unfold Yld; go_simp; exact ⟨Ext.refl _, rfl⟩) ?_)
      (try simp only [Act.put, List.setIfInBounds_toArray, List.set_cons_zero, List.set_cons_succ])
      (first | refine wpF_val rfl (fun w' hE hD => by unfold Yld; go_simp; exact ⟨Ext.refl _, rfl⟩) ?_ | refine wpF_valg (by rfl) (fun w' hE hD => by unfold Yld; go_simp; exact ⟨Ext.refl _, rfl⟩) ?_)
      (try simp only [Act.put, List.setIfInBounds_toArray, List.set_cons_zero, List.set_cons_succ])
      (first | refine wpF_val rfl (fun w' hE hD => Yld_load 73 (.tmp 19) rfl b (off + x.toNat * 35) rfl (thC p) _ (rangeAt_ext HG.out hE) Try.underlying73 rfl HI.out) ?_ | refine wpF_valg (by rfl) (fun w' hE hD => Yld_load 73 (.tmp 19) rfl b (off + x.toNat * 35) rfl (thC p) _ (rangeAt_ext HG.out hE) Try.underlying73 rfl HI.out) ?_)
      (try simp only [Act.put, List.setIfInBounds_toArray, List.set_cons_zero, List.set_cons_succ])
      (first | refine wpF_val rfl (fun w' hE hD => by unfold Yld; go_simp; exact ⟨Ext.refl _, rfl⟩) ?_ | refine wpF_valg (by rfl) (fun w' hE hD => by unfold Yld; go_simp; exact ⟨Ext.refl _, rfl⟩) ?_)
      (try simp only [Act.put, List.setIfInBounds_toArray, List.set_cons_zero, List.set_cons_succ])
      (first | refine wpF_val rfl (fun w' hE hD => by unfold Yld; go_simp; exact ⟨Ext.refl _, rfl⟩) ?_ | refine wpF_valg (by rfl) (fun w' hE hD => by unfold Yld; go_simp; exact ⟨Ext.refl _, rfl⟩) ?_)
      (try simp only [Act.put, List.setIfInBounds_toArray, List.set_cons_zero, List.set_cons_succ])
      (first | refine wpF_val rfl (fun w' hE hD => by unfold Yld; go_simp; exact ⟨Ext.refl _, rfl⟩) ?_ | refine wpF_valg (by rfl) (fun w' hE hD => by unfold Yld; go_simp; exact ⟨Ext.refl _, rfl⟩) ?_)
      (try simp only [Act.put, List.setIfInBounds_toArray, List.set_cons_zero, List.set_cons_succ])
      (first | refine wpF_val rfl (fun w' hE hD => Yld_load 73 (.tmp 23) rfl b' (off' + x.toNat * 35) rfl (thC q) _ (rangeAt_ext HG'.out hE) Try.underlying73 rfl HI'.out) ?_ | refine wpF_valg (by rfl) (fun w' hE hD => Yld_load 73 (.tmp 23) rfl b' (off' + x.toNat * 35) rfl (thC q) _ (rangeAt_ext HG'.out hE) Try.underlying73 rfl HI'.out) ?_)
      (try simp only [Act.put, List.setIfInBounds_toArray, List.set_cons_zero, List.set_cons_succ])
      (first | refine wpF_val rfl (fun w' hE hD => Yld_neq 73 _ (.tmp 20) (.tmp 24) rfl _ _ rfl rfl (by kernel_rfl) _ (equal_th p q HP.out HQ'.out w')) ?_ | refine wpF_valg (by rfl) (fun w' hE hD => Yld_neq 73 _ (.tmp 20) (.tmp 24) rfl _ _ rfl rfl (by kernel_rfl) _ (equal_th p q HP.out HQ'.out w')) ?_)
      (try simp only [Act.put, List.setIfInBounds_toArray, List.set_cons_zero, List.set_cons_succ])
      refine wpF_nil fun w2 hE2 hA => ?_
      have HE2 := Aside0.mk (HE.out.trans hE2)
      simp only [List.drop_succ_cons, List.drop_zero]
      clear hA hE2
      by_cases hpq : p = q
      · have HPQ := Aside0.mk hpq
        have hd : decide (p = q) = true := decide_eq_true hpq
        rw [hd]
        clear hpq hd
        go_wp2
        go_roundw
        case rel =>
          refine ⟨x + 1, rfl, ⟨by omega, by omega⟩, ⟨fun j hj => ?_⟩, ⟨HE2.out⟩⟩
          by_cases hjx : (j : Int) < x
          · exact HQ.out j hjx
          · obtain rfl : j = x.toNat := by omega
            exact HQQ.out.1 HPQ.out
        case measure => have := HLT.out; simp only [intOf]; omega
      · have HF := Aside0.mk (show r = false by rw [HRR.out]; exact decide_eq_false (fun e => hpq (HQQ.out.2 (by rw [e]))))
        have hd : decide (p = q) = false := decide_eq_false hpq
        rw [hd]
        clear hpq hd
        go_wp2
        go_ret
        exact ⟨by rw [HF.out]; rfl, HE2.out⟩
    · have HF := Aside0.mk (show r = true by
        rw [HRR.out]
        refine decide_eq_true (List.ext_getElem? fun j => ?_)
        by_cases hj : (j : Int) < x
        · exact HQ.out j hj
        · rw [List.getElem?_eq_none (by have := HN.out; omega), List.getElem?_eq_none (by have := HM.out; omega)])
      go_wp2
      go_ret
      exact ⟨by rw [HF.out]; rfl, HE.out⟩
end Go.Proofs.Ythgdjgnbifakbaa.By

/- Two summaries compared. -/
namespace Go.Proofs.Ythgdjgnbifakbaa.By
open Go.RowKit Go.Proofs.Ythgdjgnbifakbaa.Reg Go.Proofs.YthgdjgnbifakbaaW.PrintWords Go.Proofs.YthgdjgnbifakbaaW.PrintLast Go.Proofs.YthgdjgnbifakbaaW.PrintMore
set_option linter.unusedVariables false
set_option linter.unusedSimpArgs false


set_option maxRecDepth 100000 in
set_option maxHeartbeats 8000000 in
theorem sameS_calls (w : World) (A B : Option Addr) (c d n m : Nat) (st st2 nx nx2 : Int) (pr pr2 : List Int) (xs ys : List Th) (hn : n = xs.length) (hm : m = ys.length) (hr : Kd.C kTh w A n xs) (hr' : Kd.C kTh w B m ys) (hx : ∀ e ∈ xs, Th.ok e) (hy : ∀ e ∈ ys, Th.ok e) (hl : n ≤ 1000000)
    (hp : pr.length = 32) (hp2 : pr2.length = 32) (hb : isB pr) (hb2 : isB pr2) (r : Bool) (hrr : r = decide (st = st2 ∧ pr = pr2 ∧ nx = nx2 ∧ xs = ys)) :
    Calls Try.prog 53 #[smyV st pr nx (.slice A n c), smyV st2 pr2 nx2 (.slice B m d)] w fun e w' => e = .returned (.bool r) ∧ Ext w w' := by
  have hK1 := (Blk.new w (smyC st pr nx (.slice A n c)).toArray 58).alloc (.cells (smyC st2 pr2 nx2 (.slice B m d)).toArray 58)
  have hK2 := Blk.new (w.alloc (.cells (smyC st pr nx (.slice A n c)).toArray 58)) (smyC st2 pr2 nx2 (.slice B m d)).toArray 58
  have hE := ((Ext.refl w).alloc (.cells (smyC st pr nx (.slice A n c)).toArray 58)).alloc (.cells (smyC st2 pr2 nx2 (.slice B m d)).toArray 58)
  have HSA := Aside0.mk (fun (q : Bool) (hq : q = decide (xs = ys)) (w' : World) (hE' : Ext w w') => sameE_calls w' A B c d xs ys n m hn hm (Kd.C_below hr hE') (Kd.C_below hr' hE') hx hy hl q hq)
  clear hr hr' hx hy hn hm
  rw [show (w.alloc (.cells (smyC st pr nx (.slice A n c)).toArray 58)).heap.size = w.heap.size + 1 from size_alloc _ _] at hK2
  obtain ⟨c0, r1, c33, c34⟩ := smyBlk hK1 hp
  obtain ⟨d0, r2, d33, d34⟩ := smyBlk hK2 hp2
  have HR1 := Aside0.mk r1
  have HR2 := Aside0.mk r2
  have HE := Aside0.mk hE
  have HSB := Aside0.mk (fun (q : Bool) (hq : q = decide (xs = ys)) => HSA.out q hq _ hE)
  have HI1 := Aside0.mk (show (Try.prog.info? 24).map (·.size) = some (nums .u8 pr).length by rw [nums_length, hp]; kernel_rfl)
  have HI2 := Aside0.mk (show (Try.prog.info? 24).map (·.size) = some (nums .u8 pr2).length by rw [nums_length, hp2]; kernel_rfl)
  obtain ⟨z, hz⟩ : ∃ z, z = decide (pr = pr2) := ⟨_, rfl⟩
  have HQ := Aside0.mk (equal_sum pr pr2 hp hp2 hb hb2)
  rw [← hz] at HQ
  have HZ := Aside0.mk hz
  have HRR := Aside0.mk hrr
  clear hK1 hK2 hE HSA r1 r2 hz hrr 
  unfold smyV
  by_cases h0 : st = st2
  case neg =>
    have HF := Aside0.mk (show r = false by rw [HRR.out]; exact decide_eq_false (fun h => h0 h.1))
    have h0' : (st == st2) = false := by simpa using h0
    go_enter Try.func53, Try.ntmps53
    go_wp2_with fail
    go_ret
    exact ⟨by rw [HF.out]; rfl, HE.out⟩
  subst h0
  have h0' : (st == st) = true := by simp
  cases z with
  | false =>
    have HF := Aside0.mk (show r = false by rw [HRR.out]; exact decide_eq_false (fun h => of_decide_eq_false HZ.out.symm h.2.1))
    go_enter Try.func53, Try.ntmps53
    go_wp2_with (first | ((with_reducible refine gate_load (ty := 24) rfl ?_); refine load_at rfl 24 _ rfl w.heap.size 1 rfl (nums .u8 pr) _ HR1.out Try.underlying24 rfl HI1.out ?_) | ((with_reducible refine gate_load (ty := 24) rfl ?_); refine load_at rfl 24 _ rfl (w.heap.size + 1) 1 rfl (nums .u8 pr2) _ HR2.out Try.underlying24 rfl HI2.out ?_) | ((with_reducible refine gate_eql (ty := 24) rfl ?_); (refine eql_at rfl 24 24 _ _ rfl (nums .u8 pr).toArray (nums .u8 pr2).toArray rfl rfl (by kernel_rfl) _ (HQ.out _) ?_)) | fail)
    go_ret
    exact ⟨by rw [HF.out]; rfl, HE.out⟩
  | true =>
    have hpp := of_decide_eq_true HZ.out.symm
    by_cases h2 : nx = nx2
    case neg =>
      have HF := Aside0.mk (show r = false by rw [HRR.out]; exact decide_eq_false (fun h => h2 h.2.2.1))
      have h2' : (nx == nx2) = false := by simpa using h2
      clear hpp
      go_enter Try.func53, Try.ntmps53
      go_wp2_with (first | ((with_reducible refine gate_load (ty := 24) rfl ?_); refine load_at rfl 24 _ rfl w.heap.size 1 rfl (nums .u8 pr) _ HR1.out Try.underlying24 rfl HI1.out ?_) | ((with_reducible refine gate_load (ty := 24) rfl ?_); refine load_at rfl 24 _ rfl (w.heap.size + 1) 1 rfl (nums .u8 pr2) _ HR2.out Try.underlying24 rfl HI2.out ?_) | ((with_reducible refine gate_eql (ty := 24) rfl ?_); (refine eql_at rfl 24 24 _ _ rfl (nums .u8 pr).toArray (nums .u8 pr2).toArray rfl rfl (by kernel_rfl) _ (HQ.out _) ?_)) | fail)
      go_ret
      exact ⟨by rw [HF.out]; rfl, HE.out⟩
    have h2' : (nx == nx2) = true := by simpa using h2
    have HSS := HSB.out r (by rw [HRR.out]; simp [hpp, h2])
    have HC := Aside0.mk HSS
    clear hpp h2 HSS
    go_enter Try.func53, Try.ntmps53
    go_wp2_with (first | ((with_reducible refine gate_load (ty := 24) rfl ?_); refine load_at rfl 24 _ rfl w.heap.size 1 rfl (nums .u8 pr) _ HR1.out Try.underlying24 rfl HI1.out ?_) | ((with_reducible refine gate_load (ty := 24) rfl ?_); refine load_at rfl 24 _ rfl (w.heap.size + 1) 1 rfl (nums .u8 pr2) _ HR2.out Try.underlying24 rfl HI2.out ?_) | ((with_reducible refine gate_eql (ty := 24) rfl ?_); (refine eql_at rfl 24 24 _ _ rfl (nums .u8 pr).toArray (nums .u8 pr2).toArray rfl rfl (by kernel_rfl) _ (HQ.out _) ?_)) | fail)
    refine HC.out.mono ?_
    rintro e w1 ⟨rfl, hE1⟩
    go_wp2_with fail
    go_ret
    exact ⟨rfl, HE.out.trans hE1⟩
end Go.Proofs.Ythgdjgnbifakbaa.By

/- A summary as an argument. -/
namespace Go.Proofs.Ythgdjgnbifakbaa.By
open Go.RowKit Go.Proofs.Ythgdjgnbifakbaa.Reg Go.Proofs.YthgdjgnbifakbaaW.PrintWords Go.Proofs.YthgdjgnbifakbaaW.PrintLast Go.Proofs.YthgdjgnbifakbaaW.PrintMore
set_option linter.unusedVariables false
set_option linter.unusedSimpArgs false


open Go.Proofs.Ythgdjgnbifakbaa.Op Go.ChangeShapes Go.WideShapes Go.Deep
theorem bounds_i64 {x : Int} (h : (Lit.int .i64 x).wf = true) : -9223372036854775808 ≤ x ∧ x ≤ 9223372036854775807 := by
  simp [Lit.wf, IntKind.min, IntKind.max, IntKind.signed, IntKind.bits] at h; omega
theorem byte_wf' {x : Int} (h : (Lit.int .u8 x).wf = true) : 0 ≤ x ∧ x < 256 := byte_wf h
section
variable {H : Type} {enc : TypeId × Value → H} {w : World} {base : Nat} {spare : Nat → Bool} {held : Bool}
theorem ok_en : OpenK enc Try.prog w base spare held kTh Th.ok 73 :=
  ok_weaken (ok_pair4 Try.underlying73 (ok_int Try.underlying3) (ok_int Try.underlying3) (ok_int Try.underlying3) ok_sum (by kernel_rfl) (by kernel_rfl) (by kernel_rfl) (by kernel_rfl) (by kernel_rfl) (by kernel_rfl) (by kernel_rfl) (by kernel_rfl) (by kernel_rfl))
    (fun t h => ⟨bounds_i64 h.1, bounds_i64 h.2.1, bounds_i64 h.2.2.1, h.2.2.2.1, h.2.2.2.2⟩)
/-- A summary: its stamp, what came before, what comes next, its entries. -/
abbrev Smy := Int × List Int × Int × List Th
abbrev kSmy : Kd Smy := Kd.pair (Kd.int .i64) (Kd.pair kSum (Kd.pair (Kd.int .i64) (Kd.slice 73 kTh)))
def Smy.ok (t : Smy) : Prop := (-9223372036854775808 ≤ t.1 ∧ t.1 ≤ 9223372036854775807) ∧ (t.2.1.length = 32 ∧ isB t.2.1) ∧ (-9223372036854775808 ≤ t.2.2.1 ∧ t.2.2.1 ≤ 9223372036854775807) ∧ ∀ e ∈ t.2.2.2, Th.ok e
theorem ok_smy : OpenK enc Try.prog w base spare held kSmy Smy.ok 58 :=
  ok_weaken (ok_pair4 Try.underlying58 (ok_int Try.underlying3) ok_sum (ok_int Try.underlying3) (ok_slice Try.underlying56 (by kernel_rfl) ok_en) (by kernel_rfl) (by kernel_rfl) (by kernel_rfl) (by kernel_rfl) (by kernel_rfl) (by kernel_rfl) (by kernel_rfl) (by kernel_rfl) (by kernel_rfl))
    (fun t h => ⟨bounds_i64 h.1, h.2.1, bounds_i64 h.2.2.1, h.2.2.2.2⟩)
theorem open_smy {r : Reach} {b0 : Nat} {v : Value} {x : DataW H} {p : List MemPlace} (hv : Value.okWide Try.prog w r b0 58 v) (h : DataW.Trod enc Try.prog w base spare held 58 v x p) :
    ∃ A c q, v = smyV q.1 q.2.1 q.2.2.1 (.slice A q.2.2.2.length c) ∧ q.2.2.2.length ≤ c ∧ Kd.C kTh w A q.2.2.2.length q.2.2.2 ∧ Smy.ok q := by
  obtain ⟨cs, y, rfl, hK, hg⟩ := open_st Try.underlying58 ok_smy hv h
  obtain ⟨st, pr, nx, es⟩ := y
  obtain ⟨c0, c1, e1, h0, c2, c3, e2, h1, c4, c5, e3, h2, A, c, h3, h4, h5⟩ := hK
  have h0' : c0 = [.int .i64 st] := h0
  have h1' := Kd.arr_cells h1
  have h2' : c4 = [.int .i64 nx] := h2
  refine ⟨A, c, (st, pr, nx, es), ?_, h4, h5, hg⟩
  unfold smyV smyC
  have e : cs.toList = .int .i64 st :: (nums .u8 pr ++ [.int .i64 nx, .slice A es.length c]) := by
    rw [e1, e2, e3, h0', h1'.2, h2', h3]
    rfl
  rw [← e]
end
end Go.Proofs.Ythgdjgnbifakbaa.By

/- Plain laws: what Put lays down, Get takes up; what Get takes, Put lays down. -/
namespace Go.Proofs.Ythgdjgnbifakbaa.By
open Go.RowKit Go.Proofs.Ythgdjgnbifakbaa.Reg Go.Proofs.YthgdjgnbifakbaaW.PrintWords Go.Proofs.YthgdjgnbifakbaaW.PrintLast Go.Proofs.YthgdjgnbifakbaaW.PrintMore
set_option linter.unusedVariables false
set_option linter.unusedSimpArgs false


theorem tk_be8 (v : Int) (rest : List Int) (h : -9223372036854775808 ≤ v ∧ v ≤ 9223372036854775807) : tkInt (be8 v ++ rest, false) = (v, rest, false) := by
  have hs : ¬ RS.short (be8 v ++ rest, false) 8 = true := by rw [short_spec]; simp [be8_length]
  unfold tkInt
  rw [if_neg hs]
  show (numI ((be8 v ++ rest).take 8), (be8 v ++ rest).drop 8, false) = _
  rw [List.take_left' (be8_length v), List.drop_left' (be8_length v), numI_be8 v h.1 h.2]
theorem tk_sum (p rest : List Int) (h : p.length = 32) : tkSum (p ++ rest, false) = (p, rest, false) := by
  have hs : ¬ RS.short (p ++ rest, false) 32 = true := by rw [short_spec]; simp [h]
  unfold tkSum
  rw [if_neg hs]
  show ((p ++ rest).take 32, (p ++ rest).drop 32, false) = _
  rw [List.take_left' h, List.drop_left' h]
theorem tk_ent (e : Th) (rest : List Int) (h : Th.ok e) : tkE (entB e ++ rest, false) = (e, rest, false) := by
  obtain ⟨a, b, c, s⟩ := e
  obtain ⟨ha, hb, hc, hs, _⟩ := h
  have e1 : entB (a, b, c, s) ++ rest = be8 a ++ (be8 b ++ (be8 c ++ (s ++ rest))) := by simp [entB]
  have h1 := tk_be8 a (be8 b ++ (be8 c ++ (s ++ rest))) ha
  have h2 := tk_be8 b (be8 c ++ (s ++ rest)) hb
  have h3 := tk_be8 c (s ++ rest) hc
  have h4 := tk_sum s rest hs
  unfold tkE
  rw [e1, h1]
  simp only [h2, h3, h4]
theorem tk_ents (es : List Th) (rest : List Int) (h : ∀ e ∈ es, Th.ok e) : ∀ n, n ≤ es.length → tkEs n (allE es ++ rest, false) = (es.take n, allE (es.drop n) ++ rest, false)
  | 0, _ => by simp [tkEs]
  | n + 1, hn => by
    have hlt : n < es.length := hn
    have ih := tk_ents es rest h n (Nat.le_of_lt hlt)
    unfold tkEs
    rw [ih]
    have hd : es.drop n = es[n] :: es.drop (n + 1) := List.drop_eq_getElem_cons hlt
    have h2 := tk_ent es[n] (allE (es.drop (n + 1)) ++ rest) (h _ (List.getElem_mem hlt))
    have e1 : allE (es.drop n) ++ rest = entB es[n] ++ (allE (es.drop (n + 1)) ++ rest) := by unfold allE; rw [hd, List.flatMap_cons, List.append_assoc]
    simp only [e1, h2]
    rw [List.take_succ_eq_append_getElem hlt]
/-- What Put laid down, with something behind it. -/
theorem g_put (st nx : Int) (pr : List Int) (es : List Th) (rest : List Int) (hst : -9223372036854775808 ≤ st ∧ st ≤ 9223372036854775807) (hnx : -9223372036854775808 ≤ nx ∧ nx ≤ 9223372036854775807) (hp : pr.length = 32) (hes : ∀ e ∈ es, Th.ok e) (hl : es.length ≤ 100000) :
    g1 (smyB st pr nx es ++ rest) = (st, pr ++ be8 nx ++ be8 es.length ++ allE es ++ rest, false) ∧ g2 (smyB st pr nx es ++ rest) = (pr, be8 nx ++ be8 es.length ++ allE es ++ rest, false) ∧ g3 (smyB st pr nx es ++ rest) = (nx, be8 es.length ++ allE es ++ rest, false) ∧ g4 (smyB st pr nx es ++ rest) = ((es.length : Int), allE es ++ rest, false) := by
  have h1 : g1 (smyB st pr nx es ++ rest) = (st, pr ++ be8 nx ++ be8 es.length ++ allE es ++ rest, false) := by
    unfold g1
    rw [show smyB st pr nx es ++ rest = be8 st ++ (pr ++ be8 nx ++ be8 es.length ++ allE es ++ rest) by simp [smyB, headB], tk_be8 st _ hst]
  have h2 : g2 (smyB st pr nx es ++ rest) = (pr, be8 nx ++ be8 es.length ++ allE es ++ rest, false) := by
    unfold g2
    rw [h1, show pr ++ be8 nx ++ be8 es.length ++ allE es ++ rest = pr ++ (be8 nx ++ be8 es.length ++ allE es ++ rest) by simp, tk_sum pr _ hp]
  have h3 : g3 (smyB st pr nx es ++ rest) = (nx, be8 es.length ++ allE es ++ rest, false) := by
    unfold g3
    rw [h2, show be8 nx ++ be8 es.length ++ allE es ++ rest = be8 nx ++ (be8 es.length ++ allE es ++ rest) by simp, tk_be8 nx _ hnx]
  have h4 : g4 (smyB st pr nx es ++ rest) = ((es.length : Int), allE es ++ rest, false) := by
    unfold g4
    rw [h3, show be8 es.length ++ allE es ++ rest = be8 es.length ++ (allE es ++ rest) by simp, tk_be8 (es.length : Int) _ (by omega)]
  exact ⟨h1, h2, h3, h4⟩
theorem gR_put (st nx : Int) (pr : List Int) (es : List Th) (rest : List Int) (hst : -9223372036854775808 ≤ st ∧ st ≤ 9223372036854775807) (hnx : -9223372036854775808 ≤ nx ∧ nx ≤ 9223372036854775807) (hp : pr.length = 32) (hes : ∀ e ∈ es, Th.ok e) (hl : es.length ≤ 100000) :
    gForm (smyB st pr nx es ++ rest) = false ∧ gR (smyB st pr nx es ++ rest) = (es, rest, false) := by
  obtain ⟨h1, h2, h3, h4⟩ := g_put st nx pr es rest hst hnx hp hes hl
  constructor
  · unfold gForm leftI
    rw [h4]
    have := allE_len es hes
    simp only [List.length_append]
    rw [if_neg (by decide)]
    simp only [Bool.or_eq_false_iff, decide_eq_false_iff_not]
    omega
  · unfold gR
    rw [h4]
    have := tk_ents es rest hes es.length (Nat.le_refl _)
    simp only [Int.toNat_natCast]
    rw [this]
    simp [allE]
/-- Get of Put's bytes. -/
theorem get_put (st nx : Int) (pr : List Int) (es : List Th) (hst : -9223372036854775808 ≤ st ∧ st ≤ 9223372036854775807) (hnx : -9223372036854775808 ≤ nx ∧ nx ≤ 9223372036854775807) (hp : pr.length = 32) (hes : ∀ e ∈ es, Th.ok e) (h0 : checkF st nx es = 0) :
    gE (smyB st pr nx es) = 0 ∧ oSt (smyB st pr nx es) = st ∧ oPr (smyB st pr nx es) = pr ∧ oNx (smyB st pr nx es) = nx ∧ oEs (smyB st pr nx es) = es := by
  have hl : es.length ≤ 100000 := Nat.le_trans (checkF_le h0) (by decide)
  obtain ⟨h1, h2, h3, h4⟩ := g_put st nx pr es [] hst hnx hp hes hl
  obtain ⟨hf, hr⟩ := gR_put st nx pr es [] hst hnx hp hes hl
  rw [List.append_nil] at h1 h2 h3 h4 hf hr
  have hE : gE (smyB st pr nx es) = 0 := by
    have h5 : gEnd (smyB st pr nx es) = 0 := by unfold gEnd endI; rw [hr]; rfl
    unfold gE
    rw [hf, h5, if_neg (by decide), if_pos rfl, h1, h3, hr]
    exact h0
  refine ⟨hE, ?_, ?_, ?_, ?_⟩
  · unfold oSt; rw [if_pos hE, h1]
  · unfold oPr; rw [if_pos hE, h2]
  · unfold oNx; rw [if_pos hE, h3]
  · unfold oEs; rw [if_pos hE, hr]
/-- One byte more, or more: bytes left over. -/
theorem get_more (st nx : Int) (pr : List Int) (es : List Th) (x : Int) (rest : List Int) (hst : -9223372036854775808 ≤ st ∧ st ≤ 9223372036854775807) (hnx : -9223372036854775808 ≤ nx ∧ nx ≤ 9223372036854775807) (hp : pr.length = 32) (hes : ∀ e ∈ es, Th.ok e) (hl : es.length ≤ 100000) :
    gE (smyB st pr nx es ++ (x :: rest)) = 3 := by
  obtain ⟨hf, hr⟩ := gR_put st nx pr es (x :: rest) hst hnx hp hes hl
  have h5 : gEnd (smyB st pr nx es ++ (x :: rest)) = 3 := by unfold gEnd endI; rw [hr]; rfl
  unfold gE
  rw [hf, h5, if_neg (by decide), if_neg (by decide)]

theorem be8_numI' : ∀ (xs : List Int), xs.length = 8 → isB xs → be8 (numI xs) = xs
  | [a, b, c, d, e, f, g, h], _, hb => be8_numI a b c d e f g h hb
theorem tkInt_back {s : RS} (hB : isB s.1) (h : (tkInt s).2.2 = false) : s.2 = false ∧ s.1 = be8 (tkInt s).1 ++ (tkInt s).2.1 := by
  by_cases hs : s.short 8 = true
  · unfold tkInt at h; rw [if_pos hs] at h; cases h
  · have h2 := fun k => hs ((short_spec s 8).2 k)
    have hl : 8 ≤ s.1.length := by rcases Nat.lt_or_ge s.1.length 8 with k | k; exact absurd (.inr k) h2; exact k
    refine ⟨by cases hb : s.2; rfl; exact absurd (.inl hb) h2, ?_⟩
    unfold tkInt
    rw [if_neg hs]
    show s.1 = be8 (numI (s.1.take 8)) ++ s.1.drop 8
    rw [be8_numI' _ (by rw [List.length_take]; omega) (hB.take 8), List.take_append_drop]
theorem tkSum_back {s : RS} (h : (tkSum s).2.2 = false) : s.2 = false ∧ s.1 = (tkSum s).1 ++ (tkSum s).2.1 := by
  by_cases hs : s.short 32 = true
  · unfold tkSum at h; rw [if_pos hs] at h; cases h
  · have h2 := fun k => hs ((short_spec s 32).2 k)
    refine ⟨by cases hb : s.2; rfl; exact absurd (.inl hb) h2, ?_⟩
    unfold tkSum
    rw [if_neg hs]
    exact (List.take_append_drop 32 s.1).symm
theorem tkE_back {s : RS} (hB : isB s.1) (h : (tkE s).2.2 = false) : s.2 = false ∧ s.1 = entB (tkE s).1 ++ (tkE s).2.1 := by
  have b1 := tkInt_isB hB
  have b2 := tkInt_isB b1
  obtain ⟨k4, e4⟩ := tkSum_back (s := (tkInt (tkInt (tkInt s).2).2).2) h
  obtain ⟨k3, e3⟩ := tkInt_back b2 k4
  obtain ⟨k2, e2⟩ := tkInt_back b1 k3
  obtain ⟨k1, e1⟩ := tkInt_back hB k2
  refine ⟨k1, ?_⟩
  have : s.1 = be8 (tkInt s).1 ++ (be8 (tkInt (tkInt s).2).1 ++ (be8 (tkInt (tkInt (tkInt s).2).2).1 ++ ((tkSum (tkInt (tkInt (tkInt s).2).2).2).1 ++ (tkSum (tkInt (tkInt (tkInt s).2).2).2).2.1))) := by
    rw [← e4, ← e3, ← e2, ← e1]
  rw [this]
  unfold tkE entB
  simp
theorem tkEs_back {s : RS} (hB : isB s.1) : ∀ n, (tkEs n s).2.2 = false → s.2 = false ∧ s.1 = allE (tkEs n s).1 ++ (tkEs n s).2.1
  | 0, h => ⟨h, by simp [tkEs, allE]⟩
  | n + 1, h => by
    have hb := (tkEs_ok n s hB).2.2
    obtain ⟨k, e⟩ := tkE_back (s := (tkEs n s).2) hb h
    obtain ⟨k1, e1⟩ := tkEs_back hB n k
    refine ⟨k1, ?_⟩
    show s.1 = allE ((tkEs n s).1 ++ [(tkE (tkEs n s).2).1]) ++ (tkE (tkEs n s).2).2.1
    refine e1.trans ?_
    rw [e]
    unfold allE
    rw [List.flatMap_append, List.append_assoc]
    simp
/-- What Get took with no error is Put's bytes. -/
theorem put_get {bs : List Int} (hB : isB bs) (h : gE bs = 0) : smyB (oSt bs) (oPr bs) (oNx bs) (oEs bs) = bs ∧ checkF (oSt bs) (oNx bs) (oEs bs) = 0 := by
  have hE := h
  unfold gE at h
  by_cases hf : gForm bs = true
  · rw [if_pos hf] at h; cases h
  rw [if_neg hf] at h
  by_cases he : gEnd bs = 0
  case neg => rw [if_neg he] at h; exact absurd h he
  rw [if_pos he] at h
  have hb : (gR bs).2.2 = false := by
    cases k : (gR bs).2.2 with
    | false => rfl
    | true => unfold gEnd endI at he; rw [k, if_pos rfl] at he; cases he
  have hz : (gR bs).2.1 = [] := by
    unfold gEnd endI at he; rw [hb, if_neg (by decide)] at he
    by_cases k : (gR bs).2.1.length = 0
    · exact List.eq_nil_of_length_eq_zero k
    · rw [if_neg k] at he; cases he
  obtain ⟨i1, i2, i3, i4⟩ := g_isB hB
  obtain ⟨k5, e5⟩ := tkEs_back i4 _ (show (tkEs (g4 bs).1.toNat (g4 bs).2).2.2 = false from hb)
  obtain ⟨k4, e4⟩ := tkInt_back i3 (show (tkInt (g3 bs).2).2.2 = false from k5)
  obtain ⟨k3, e3⟩ := tkInt_back i2 (show (tkInt (g2 bs).2).2.2 = false from k4)
  obtain ⟨k2, e2⟩ := tkSum_back (show (tkSum (g1 bs).2).2.2 = false from k3)
  obtain ⟨k1, e1⟩ := tkInt_back (s := (bs, false)) hB (show (tkInt (bs, false)).2.2 = false from k2)
  have hlen : ((gR bs).1.length : Int) = (g4 bs).1 := by
    rw [(g_ok hB).2.2.2]
    have := (gN_le (by simpa using hf)).1
    omega
  have f5 : (g4 bs).2.1 = allE (gR bs).1 ++ (gR bs).2.1 := e5
  rw [hz, List.append_nil] at f5
  have f4 : (g3 bs).2.1 = be8 (g4 bs).1 ++ (g4 bs).2.1 := e4
  have f3 : (g2 bs).2.1 = be8 (g3 bs).1 ++ (g3 bs).2.1 := e3
  have f2 : (g1 bs).2.1 = (g2 bs).1 ++ (g2 bs).2.1 := e2
  have f1 : bs = be8 (g1 bs).1 ++ (g1 bs).2.1 := e1
  refine ⟨?_, ?_⟩
  · unfold oSt oPr oNx oEs
    rw [if_pos hE, if_pos hE, if_pos hE, if_pos hE]
    conv => rhs; rw [f1, f2, f3, f4, f5]
    unfold smyB headB
    rw [hlen]
    simp
  · unfold oSt oNx oEs
    rw [if_pos hE, if_pos hE, if_pos hE]
    exact h
theorem o_zero {bs : List Int} (h : ¬ gE bs = 0) : oSt bs = 0 ∧ oPr bs = zero32 ∧ oNx bs = 0 ∧ oEs bs = [] := by
  unfold oSt oPr oNx oEs
  rw [if_neg h, if_neg h, if_neg h, if_neg h]
  exact ⟨rfl, rfl, rfl, rfl⟩
theorem smyB_len {st nx : Int} {pr : List Int} {es : List Th} (hp : pr.length = 32) (hes : ∀ e ∈ es, Th.ok e) : (smyB st pr nx es).length = 56 + 56 * es.length := by
  unfold smyB
  rw [List.length_append, headB_len _ _ _ hp, allE_len es hes]
theorem smyB_isB {st nx : Int} {pr : List Int} {es : List Th} (hp : isB pr) (hes : ∀ e ∈ es, Th.ok e) : isB (smyB st pr nx es) := by
  intro x hx
  simp only [smyB, headB, allE, List.mem_append, List.mem_flatMap, entB] at hx
  rcases hx with (((h | h) | h) | h) | ⟨e, he, ((h | h) | h) | h⟩
  · exact be8_isB _ x h
  · exact hp x h
  · exact be8_isB _ x h
  · exact be8_isB _ x h
  · exact be8_isB _ x h
  · exact be8_isB _ x h
  · exact be8_isB _ x h
  · exact (hes e he).2.2.2.2 x h
end Go.Proofs.Ythgdjgnbifakbaa.By

/- The summary that the laws try: three entries. -/
namespace Go.Proofs.Ythgdjgnbifakbaa.By
open Go.RowKit Go.Proofs.Ythgdjgnbifakbaa.Reg Go.Proofs.YthgdjgnbifakbaaW.PrintWords Go.Proofs.YthgdjgnbifakbaaW.PrintLast Go.Proofs.YthgdjgnbifakbaaW.PrintMore
set_option linter.unusedVariables false
set_option linter.unusedSimpArgs false


def threeL : List Th := [(1, 5, 7, zero32), (2, 5, 0, zero32), (3, 0, 8, zero32)]
def threeC : List Value := thC (1, 5, 7, zero32) ++ (thC (2, 5, 0, zero32) ++ thC (3, 0, 8, zero32))
theorem three_ok : ∀ e ∈ threeL, Th.ok e := by
  intro e he
  simp only [threeL, List.mem_cons, List.not_mem_nil, or_false] at he
  rcases he with rfl | rfl | rfl
  · exact ⟨by decide, by decide, by decide, zero32_length, zero32_isB⟩
  · exact ⟨by decide, by decide, by decide, zero32_length, zero32_isB⟩
  · exact ⟨by decide, by decide, by decide, zero32_length, zero32_isB⟩
theorem three_len : threeL.length = 3 := rfl
theorem three_chk : checkF 3 (-1) threeL = 0 := by kernel_rfl
theorem three_reps (w : World) (base : Nat) : Reps (kTh.M w base (fun _ => False)) 35 threeL threeC := by
  refine ⟨by kernel_rfl, fun j p hj => ?_⟩
  match j, hj with
  | 0, h =>
    obtain rfl := Option.some.inj h
    rw [show (threeC.drop (0 * 35)).take 35 = thC (1, 5, 7, zero32) by kernel_rfl]
    exact th_cells_of _ zero32_length w w base _
  | 1, h =>
    obtain rfl := Option.some.inj h
    rw [show (threeC.drop (1 * 35)).take 35 = thC (2, 5, 0, zero32) by kernel_rfl]
    exact th_cells_of _ zero32_length w w base _
  | 2, h =>
    obtain rfl := Option.some.inj h
    rw [show (threeC.drop (2 * 35)).take 35 = thC (3, 0, 8, zero32) by kernel_rfl]
    exact th_cells_of _ zero32_length w w base _
theorem b3_1 : Program.built Try.prog 73 [(0, .int .i64 1), (1, .int .i64 5), (2, .int .i64 7)] = some (thC (1, 5, 7, zero32)).toArray := by kernel_rfl
theorem b3_2 : Program.built Try.prog 73 [(0, .int .i64 2), (1, .int .i64 5)] = some (thC (2, 5, 0, zero32)).toArray := by kernel_rfl
theorem b3_3 : Program.built Try.prog 73 [(0, .int .i64 3), (2, .int .i64 8)] = some (thC (3, 0, 8, zero32)).toArray := by kernel_rfl
theorem b3_4 (V : Value) (A : Option Addr) (n c : Nat) (h : V = .slice A n c) : Program.built Try.prog 58 [(0, .int .i64 3), (2, .int .i64 (-1)), (3, V)] = some (smyC 3 zero32 (-1) V).toArray := by subst h; kernel_rfl
theorem fill_three : Instr.fill (fun i => some (i * 35, 35)) ((Array.range (3 * 35)).map ((Value.agg #[Value.int .i64 0, Value.int .i64 0, Value.int .i64 0, Value.int .u8 0, Value.int .u8 0, Value.int .u8 0, Value.int .u8 0, Value.int .u8 0, Value.int .u8 0, Value.int .u8 0, Value.int .u8 0, Value.int .u8 0, Value.int .u8 0, Value.int .u8 0, Value.int .u8 0, Value.int .u8 0, Value.int .u8 0, Value.int .u8 0, Value.int .u8 0, Value.int .u8 0, Value.int .u8 0, Value.int .u8 0, Value.int .u8 0, Value.int .u8 0, Value.int .u8 0, Value.int .u8 0, Value.int .u8 0, Value.int .u8 0, Value.int .u8 0, Value.int .u8 0, Value.int .u8 0, Value.int .u8 0, Value.int .u8 0, Value.int .u8 0, Value.int .u8 0]).cells[· % (Value.agg #[Value.int .i64 0, Value.int .i64 0, Value.int .i64 0, Value.int .u8 0, Value.int .u8 0, Value.int .u8 0, Value.int .u8 0, Value.int .u8 0, Value.int .u8 0, Value.int .u8 0, Value.int .u8 0, Value.int .u8 0, Value.int .u8 0, Value.int .u8 0, Value.int .u8 0, Value.int .u8 0, Value.int .u8 0, Value.int .u8 0, Value.int .u8 0, Value.int .u8 0, Value.int .u8 0, Value.int .u8 0, Value.int .u8 0, Value.int .u8 0, Value.int .u8 0, Value.int .u8 0, Value.int .u8 0, Value.int .u8 0, Value.int .u8 0, Value.int .u8 0, Value.int .u8 0, Value.int .u8 0, Value.int .u8 0, Value.int .u8 0, Value.int .u8 0]).cells.size]!)) [(0, .agg (thC (1, 5, 7, zero32)).toArray), (1, .agg (thC (2, 5, 0, zero32)).toArray), (2, .agg (thC (3, 0, 8, zero32)).toArray)] = some threeC.toArray := by kernel_rfl
theorem results_c1 {P : Program} {fn : Func} {p : Tmp} {ty : TypeId} (h : fn.results = #[.cell p ty]) (tmps : Array Value) (w : World) (g : Nat) (tt : TypeId) (cs : Array Value) (fr : Nat × Nat) (d : TypeDesc)
    (hp : tmps.getD p undef = .pointer (some ⟨g, 0, none⟩)) (hg : w.heap[g]? = some (.cells cs tt fr))
    (hu : P.underlying ty = some d) (hd : (match d with | .struct _ | .array _ _ => true | _ => false) = true) (hi : (P.info? ty).map (·.size) = some cs.size) :
    (results fn tmps).run P w = .ok (.agg cs) w := by
  have hp' : tmps[p]?.getD undef = .pointer (some ⟨g, 0, none⟩) := by simpa using hp
  simp [results, h, hp', asAddr, run_loadVar_row w g tt ty cs fr d hg hu hd hi]
/-- What a walk is not to touch. -/
structure Held (p : Prop) : Prop where
  out : p
section
variable {P : Program} {w w1 : World} {ops : Array Oper} {rest : List Oper} {o : Oper} {a : Act} {Q : Exit → Act → World → Prop}
theorem gate_slice {ty : TypeId} {n : Nat} {x : Array (Nat × Operand)} (_ho : o.op = .buildSlice ty n x) (h : wpList P ops Q (o :: rest) a w) : wpList P ops Q (o :: rest) a w := h
theorem run_slice3 (t : TypeId) (x y z : Operand) (ho : o.op = .buildSlice t 3 #[(0, x), (1, y), (2, z)]) (u v r : Value) (hx : a.eval x = u) (hy : a.eval y = v) (hz : a.eval z = r) (s : Value) (h : (Instr.buildSlice t 3 #[(0, u), (1, v), (2, r)]).run P w = .ok s w1) :
    (execOp a.eval o).run P w = .ok (.value s) w1 := by
  unfold execOp
  simp only [ho, Sem.run_bind]
  rw [show ((#[(0, x), (1, y), (2, z)] : Array (Nat × Operand)).map fun (i, x) => (i, a.eval x)) = #[(0, u), (1, v), (2, r)] by simp [hx, hy, hz], h]
  rfl
end
set_option maxRecDepth 100000 in
set_option maxHeartbeats 8000000 in
theorem three_calls (w : World) : Calls Try.prog 56 #[] w fun e w' => ∃ V, e = .returned (smyV 3 zero32 (-1) V) ∧ EB w' w.heap.size V threeL ∧ Ext w w' := by
  have HIN : Aside0 ((Try.prog.info? 73).map (fun i => (i.zero, i.size, i.bytes)) = some (some (.agg #[Value.int .i64 0, Value.int .i64 0, Value.int .i64 0, Value.int .u8 0, Value.int .u8 0, Value.int .u8 0, Value.int .u8 0, Value.int .u8 0, Value.int .u8 0, Value.int .u8 0, Value.int .u8 0, Value.int .u8 0, Value.int .u8 0, Value.int .u8 0, Value.int .u8 0, Value.int .u8 0, Value.int .u8 0, Value.int .u8 0, Value.int .u8 0, Value.int .u8 0, Value.int .u8 0, Value.int .u8 0, Value.int .u8 0, Value.int .u8 0, Value.int .u8 0, Value.int .u8 0, Value.int .u8 0, Value.int .u8 0, Value.int .u8 0, Value.int .u8 0, Value.int .u8 0, Value.int .u8 0, Value.int .u8 0, Value.int .u8 0, Value.int .u8 0]), 35, 56)) := ⟨by kernel_rfl⟩
  obtain ⟨ie, hie, hx⟩ := Option.map_eq_some_iff.1 HIN.out
  have hz : ie.zero = some (.agg #[Value.int .i64 0, Value.int .i64 0, Value.int .i64 0, Value.int .u8 0, Value.int .u8 0, Value.int .u8 0, Value.int .u8 0, Value.int .u8 0, Value.int .u8 0, Value.int .u8 0, Value.int .u8 0, Value.int .u8 0, Value.int .u8 0, Value.int .u8 0, Value.int .u8 0, Value.int .u8 0, Value.int .u8 0, Value.int .u8 0, Value.int .u8 0, Value.int .u8 0, Value.int .u8 0, Value.int .u8 0, Value.int .u8 0, Value.int .u8 0, Value.int .u8 0, Value.int .u8 0, Value.int .u8 0, Value.int .u8 0, Value.int .u8 0, Value.int .u8 0, Value.int .u8 0, Value.int .u8 0, Value.int .u8 0, Value.int .u8 0, Value.int .u8 0]) := congrArg (·.1) hx
  have hsz : ie.size = 35 := congrArg (·.2.1) hx
  have HRUN := Aside0.mk (fun W : World => run_buildSlice (P := Try.prog) W 56 73 3 #[(0, .agg (thC (1, 5, 7, zero32)).toArray), (1, .agg (thC (2, 5, 0, zero32)).toArray), (2, .agg (thC (3, 0, 8, zero32)).toArray)] threeC.toArray ie (.agg #[Value.int .i64 0, Value.int .i64 0, Value.int .i64 0, Value.int .u8 0, Value.int .u8 0, Value.int .u8 0, Value.int .u8 0, Value.int .u8 0, Value.int .u8 0, Value.int .u8 0, Value.int .u8 0, Value.int .u8 0, Value.int .u8 0, Value.int .u8 0, Value.int .u8 0, Value.int .u8 0, Value.int .u8 0, Value.int .u8 0, Value.int .u8 0, Value.int .u8 0, Value.int .u8 0, Value.int .u8 0, Value.int .u8 0, Value.int .u8 0, Value.int .u8 0, Value.int .u8 0, Value.int .u8 0, Value.int .u8 0, Value.int .u8 0, Value.int .u8 0, Value.int .u8 0, Value.int .u8 0, Value.int .u8 0, Value.int .u8 0, Value.int .u8 0]) Try.underlying56 hie hz (by rw [hsz]; decide) (by rw [hsz]; decide) (by rw [hsz]; exact fill_three))
  clear hie hx hz hsz HIN
  have HB1 := Aside0.mk b3_1
  have HB2 := Aside0.mk b3_2
  have HB3 := Aside0.mk b3_3
  generalize (thC (1, 5, 7, zero32)).toArray = C1 at HRUN HB1
  generalize (thC (2, 5, 0, zero32)).toArray = C2 at HRUN HB2
  generalize (thC (3, 0, 8, zero32)).toArray = C3 at HRUN HB3
  have HI := Aside0.mk (fun V => show (Try.prog.info? 58).map (·.size) = some (smyC 3 zero32 (-1) V).length by kernel_rfl)
  have HK := Aside0.mk (Blk.new w #[Value.int .i64 0, Value.int .u8 0, Value.int .u8 0, Value.int .u8 0, Value.int .u8 0, Value.int .u8 0, Value.int .u8 0, Value.int .u8 0, Value.int .u8 0, Value.int .u8 0, Value.int .u8 0, Value.int .u8 0, Value.int .u8 0, Value.int .u8 0, Value.int .u8 0, Value.int .u8 0, Value.int .u8 0, Value.int .u8 0, Value.int .u8 0, Value.int .u8 0, Value.int .u8 0, Value.int .u8 0, Value.int .u8 0, Value.int .u8 0, Value.int .u8 0, Value.int .u8 0, Value.int .u8 0, Value.int .u8 0, Value.int .u8 0, Value.int .u8 0, Value.int .u8 0, Value.int .u8 0, Value.int .u8 0, Value.int .i64 0, Value.slice none 0 0] 58)
  have HE := Aside0.mk ((Ext.refl w).alloc (.cells #[Value.int .i64 0, Value.int .u8 0, Value.int .u8 0, Value.int .u8 0, Value.int .u8 0, Value.int .u8 0, Value.int .u8 0, Value.int .u8 0, Value.int .u8 0, Value.int .u8 0, Value.int .u8 0, Value.int .u8 0, Value.int .u8 0, Value.int .u8 0, Value.int .u8 0, Value.int .u8 0, Value.int .u8 0, Value.int .u8 0, Value.int .u8 0, Value.int .u8 0, Value.int .u8 0, Value.int .u8 0, Value.int .u8 0, Value.int .u8 0, Value.int .u8 0, Value.int .u8 0, Value.int .u8 0, Value.int .u8 0, Value.int .u8 0, Value.int .u8 0, Value.int .u8 0, Value.int .u8 0, Value.int .u8 0, Value.int .i64 0, Value.slice none 0 0] 58))
  go_enter Try.func56, Try.ntmps56
  go_wp2_with (first | ((with_reducible refine gate_build (ty := 73) rfl ?_); refine Held.out ?_) | fail)
  refine Held.mk ?_
  refine build_at rfl 73 _ rfl C1 [(0, .int .i64 1), (1, .int .i64 5), (2, .int .i64 7)] rfl HB1.out ?_
  (try simp only [Act.put, List.setIfInBounds_toArray, List.set_cons_zero, List.set_cons_succ])
  refine build_at rfl 73 _ rfl C2 [(0, .int .i64 2), (1, .int .i64 5)] rfl HB2.out ?_
  (try simp only [Act.put, List.setIfInBounds_toArray, List.set_cons_zero, List.set_cons_succ])
  refine build_at rfl 73 _ rfl C3 [(0, .int .i64 3), (2, .int .i64 8)] rfl HB3.out ?_
  (try simp only [Act.put, List.setIfInBounds_toArray, List.set_cons_zero, List.set_cons_succ])
  refine Kd.R_lit kTh (w0 := w.alloc (.cells #[Value.int .i64 0, Value.int .u8 0, Value.int .u8 0, Value.int .u8 0, Value.int .u8 0, Value.int .u8 0, Value.int .u8 0, Value.int .u8 0, Value.int .u8 0, Value.int .u8 0, Value.int .u8 0, Value.int .u8 0, Value.int .u8 0, Value.int .u8 0, Value.int .u8 0, Value.int .u8 0, Value.int .u8 0, Value.int .u8 0, Value.int .u8 0, Value.int .u8 0, Value.int .u8 0, Value.int .u8 0, Value.int .u8 0, Value.int .u8 0, Value.int .u8 0, Value.int .u8 0, Value.int .u8 0, Value.int .u8 0, Value.int .u8 0, Value.int .u8 0, Value.int .u8 0, Value.int .u8 0, Value.int .u8 0, Value.int .i64 0, Value.slice none 0 0] 58)) (w.alloc (.cells #[Value.int .i64 0, Value.int .u8 0, Value.int .u8 0, Value.int .u8 0, Value.int .u8 0, Value.int .u8 0, Value.int .u8 0, Value.int .u8 0, Value.int .u8 0, Value.int .u8 0, Value.int .u8 0, Value.int .u8 0, Value.int .u8 0, Value.int .u8 0, Value.int .u8 0, Value.int .u8 0, Value.int .u8 0, Value.int .u8 0, Value.int .u8 0, Value.int .u8 0, Value.int .u8 0, Value.int .u8 0, Value.int .u8 0, Value.int .u8 0, Value.int .u8 0, Value.int .u8 0, Value.int .u8 0, Value.int .u8 0, Value.int .u8 0, Value.int .u8 0, Value.int .u8 0, Value.int .u8 0, Value.int .u8 0, Value.int .i64 0, Value.slice none 0 0] 58)).heap.size 73 rfl rfl (xs := threeL) (inner := threeC) (okp := fun _ => False) (ok := fun _ => True) (by refine run_slice3 56 (.tmp 1) (.tmp 2) (.tmp 3) rfl (.agg C1) (.agg C2) (.agg C3) rfl rfl rfl _ ?_; rw [three_len]; exact HRUN.out _) (three_reps _ _) (fun _ h => h.elim) trivial (Below.refl _ _) (Nat.le_refl _) (by rw [three_len]; omega) ?_
  intro V w2 hR hBl _ _
  have HR := Aside0.mk hR
  have HX := Aside0.mk hBl
  have HK2 := Aside0.mk (HK.out.ext hBl)
  obtain ⟨A, c, hV, _, _⟩ := EB.reads hR
  obtain ⟨n3, hn3⟩ : ∃ n3, n3 = threeL.length := ⟨_, rfl⟩
  rw [← hn3] at hV
  have HBT := Aside0.mk (b3_4 V A _ c hV)
  clear hR hBl HRUN
  subst hV
  (try simp only [Act.put, List.setIfInBounds_toArray, List.set_cons_zero, List.set_cons_succ])
  refine build_at rfl 58 _ rfl _ [(0, .int .i64 3), (2, .int .i64 (-1)), (3, .slice A n3 c)] rfl HBT.out ?_
  (try simp only [Act.put, List.setIfInBounds_toArray, List.set_cons_zero, List.set_cons_succ])
  refine store_at rfl 58 _ _ rfl w.heap.size (smyC 3 zero32 (-1) (.slice A n3 c)) rfl rfl #[Value.int .i64 0, Value.int .u8 0, Value.int .u8 0, Value.int .u8 0, Value.int .u8 0, Value.int .u8 0, Value.int .u8 0, Value.int .u8 0, Value.int .u8 0, Value.int .u8 0, Value.int .u8 0, Value.int .u8 0, Value.int .u8 0, Value.int .u8 0, Value.int .u8 0, Value.int .u8 0, Value.int .u8 0, Value.int .u8 0, Value.int .u8 0, Value.int .u8 0, Value.int .u8 0, Value.int .u8 0, Value.int .u8 0, Value.int .u8 0, Value.int .u8 0, Value.int .u8 0, Value.int .u8 0, Value.int .u8 0, Value.int .u8 0, Value.int .u8 0, Value.int .u8 0, Value.int .u8 0, Value.int .u8 0, Value.int .i64 0, Value.slice none 0 0] 58 HK2.out rfl (HI.out _) (smyC_one _ _ _ _ _ _) ?_
  intro wf hWf hBf
  (try simp only [Act.put, List.setIfInBounds_toArray, List.set_cons_zero, List.set_cons_succ])
  have HEF := Aside0.mk (hWf.ext (HE.out.trans HX.out) (Nat.le_refl _))
  have HBf := Aside0.mk hBf
  have HRf := Aside0.mk (EB.wrote HR.out hWf (fun h => by have := Kd.R_base HR.out _ h; rw [size_alloc] at this; omega))
  clear hWf hBf
  go_wp2_with fail
  (try simp only [Exit.inBlock, Exit.then])
  refine bodyPost_ret (results_c1 rfl _ _ w.heap.size 58 (smyC 3 zero32 (-1) (.slice A n3 c)).toArray (0, 0) _ rfl HBf.out.is Try.underlying58 rfl (by have := HI.out (.slice A n3 c); simpa using this)) rfl ?_
  exact ⟨.slice A n3 c, rfl, EB.lower HRf.out (by rw [size_alloc]; omega), HEF.out⟩
end Go.Proofs.Ythgdjgnbifakbaa.By

/- works(), of layer 12: three entries put and taken. -/
namespace Go.Proofs.Ythgdjgnbifakbaa.By
open Go.RowKit Go.Proofs.Ythgdjgnbifakbaa.Reg Go.Proofs.YthgdjgnbifakbaaW.PrintWords Go.Proofs.YthgdjgnbifakbaaW.PrintLast Go.Proofs.YthgdjgnbifakbaaW.PrintMore
set_option linter.unusedVariables false
set_option linter.unusedSimpArgs false


def T3P (nV : Nat) (u : Value) (w : World) : Prop := ∃ A2 c2, u = smyV 3 zero32 (-1) (.slice A2 nV c2) ∧ Kd.C kTh w A2 nV threeL
set_option maxRecDepth 100000 in
set_option maxHeartbeats 8000000 in
theorem works_calls (w : World) : Calls Try.prog 44 #[] w fun e w' => e = .returned (.bool true) ∧ Ext w w' := by
  obtain ⟨bs, hbs⟩ : ∃ bs, bs = smyB 3 zero32 (-1) threeL := ⟨_, rfl⟩
  have HGP := Aside0.mk (get_put 3 (-1) zero32 threeL (by omega) (by omega) zero32_length three_ok three_chk)
  have HBB := Aside0.mk (smyB_isB (st := 3) (nx := -1) zero32_isB three_ok)
  have HBL := Aside0.mk (show bs.length = 224 by rw [hbs, smyB_len zero32_length three_ok, three_len])
  have HOP := Aside0.mk (show outP 3 zero32 (-1) threeL = bs by unfold outP; rw [if_pos three_chk, hbs])
  rw [← hbs] at HGP HBB
  clear hbs
  go_enter Try.func44, Try.ntmps44
  go_wp2_with fail
  refine (three_calls w).mono ?_
  rintro e w1 ⟨V, rfl, hR, hE⟩
  obtain ⟨A, c, hV0, hc, hC⟩ := EB.reads hR
  obtain ⟨n3, hn3⟩ : ∃ n3, n3 = threeL.length := ⟨_, rfl⟩
  rw [← hn3] at hV0 hc hC
  subst hV0
  have HPC := Aside0.mk (put_calls w1 3 (-1) zero32 A c n3 threeL 0 three_chk.symm hC hc zero32_length three_ok)
  rw [HOP.out] at HPC
  have HE1 := Aside0.mk hE
  clear hE hR hC hc hn3
  go_wp2_with fail
  refine HPC.out.mono ?_
  rintro e w2 ⟨V, rfl, hN, hE⟩
  obtain ⟨A1, c1, hV1, hc1, hC1⟩ := hN.reads
  rw [HBL.out] at hV1 hc1 hC1
  subst hV1
  have HGC := Aside0.mk (get_calls w2 A1 c1 224 bs HBL.out.symm hC1 hc1 HBB.out (by omega))
  rw [HGP.out.1, HGP.out.2.1, HGP.out.2.2.1, HGP.out.2.2.2.1, HGP.out.2.2.2.2] at HGC
  have HE2 := Aside0.mk (HE1.out.trans hE)
  clear hE hN HPC hC1 hc1 HE1
  go_wp2_with fail
  refine HGC.out.mono ?_
  rintro e w3 ⟨V, rfl, hR, hE⟩
  have HV3 := Aside0.mk (show EB w3 0 V threeL from EB.lower hR (Nat.zero_le _))
  obtain ⟨AV, cV, hV, _, _⟩ := EB.reads hR
  obtain ⟨nV, hnV⟩ : ∃ nV, nV = threeL.length := ⟨_, rfl⟩
  rw [← hnV] at hV
  subst hV
  have HE3 := Aside0.mk (HE2.out.trans hE)
  have HIS := Aside0.mk (show (Try.prog.info? 58).map (·.size) = some (smyC 3 zero32 (-1) (.slice AV nV cV)).length by rw [smyC_len zero32_length]; kernel_rfl)
  have HSS := Aside0.mk (show #[Value.int .i64 0, Value.int .u8 0, Value.int .u8 0, Value.int .u8 0, Value.int .u8 0, Value.int .u8 0, Value.int .u8 0, Value.int .u8 0, Value.int .u8 0, Value.int .u8 0, Value.int .u8 0, Value.int .u8 0, Value.int .u8 0, Value.int .u8 0, Value.int .u8 0, Value.int .u8 0, Value.int .u8 0, Value.int .u8 0, Value.int .u8 0, Value.int .u8 0, Value.int .u8 0, Value.int .u8 0, Value.int .u8 0, Value.int .u8 0, Value.int .u8 0, Value.int .u8 0, Value.int .u8 0, Value.int .u8 0, Value.int .u8 0, Value.int .u8 0, Value.int .u8 0, Value.int .u8 0, Value.int .u8 0, Value.int .i64 0, Value.slice none 0 0].size = (smyC 3 zero32 (-1) (.slice AV nV cV)).length by rw [smyC_len zero32_length]; rfl)
  have HNV := Aside0.mk hnV
  clear hE hR HGC hnV HE2
  go_wp2_with (first | ((with_reducible refine gate_store (ty := 58) rfl ?_); (refine store_at rfl 58 _ _ rfl w3.heap.size (smyC 3 zero32 (-1) (.slice AV nV cV)) rfl rfl #[Value.int .i64 0, Value.int .u8 0, Value.int .u8 0, Value.int .u8 0, Value.int .u8 0, Value.int .u8 0, Value.int .u8 0, Value.int .u8 0, Value.int .u8 0, Value.int .u8 0, Value.int .u8 0, Value.int .u8 0, Value.int .u8 0, Value.int .u8 0, Value.int .u8 0, Value.int .u8 0, Value.int .u8 0, Value.int .u8 0, Value.int .u8 0, Value.int .u8 0, Value.int .u8 0, Value.int .u8 0, Value.int .u8 0, Value.int .u8 0, Value.int .u8 0, Value.int .u8 0, Value.int .u8 0, Value.int .u8 0, Value.int .u8 0, Value.int .u8 0, Value.int .u8 0, Value.int .u8 0, Value.int .u8 0, Value.int .i64 0, Value.slice none 0 0] 58 (Blk.new w3 _ 58) HSS.out HIS.out (smyC_one _ _ _ _ _ _) ?_)) | fail)
  intro w4 hW4 hB4
  have hx4 := hW4.ext ((Ext.refl w3).alloc _) (Nat.le_refl _)
  have HE4 := Aside0.mk (HE3.out.trans hx4)
  have HV4 := Aside0.mk (HV3.out.ext hx4)
  have HRW := Aside0.mk hB4.whole
  obtain ⟨A4, c4, hV4, _, hC4⟩ := EB.reads HV4.out
  rw [← HNV.out] at hV4 hC4
  injection hV4 with hA4 _ hc4
  subst hA4
  have HSM := Aside0.mk (fun (w' : World) (hE : Ext w4 w') (A2 : Option Addr) (c2 : Nat) (hC2 : Kd.C kTh w' A2 nV threeL) => sameS_calls w' AV A2 cV c2 nV nV 3 3 (-1) (-1) zero32 zero32 threeL threeL HNV.out HNV.out (Kd.C_below hC4 hE) hC2 three_ok three_ok (by rw [HNV.out, three_len]; omega) zero32_length zero32_length zero32_isB zero32_isB true (by simp))
  clear hW4 hB4 hx4 HE3 HV3 hC4 hc4 HV4
  generalize w3.heap.size = b3 at HRW ⊢
  go_wp2_with fail
  apply wp_region_facts 17 [RF.val _, RF.val _, RF.val _, RF.val _, RF.val _, RF.val _, RF.val _, RF.val _, RF.val _, RF.val _, RF.val _, RF.val _, RF.val _, RF.fact (fun u w => T3P nV u w), RF.val _, RF.val _, RF.val _]
  case hm => kernel_rfl
  case hB => kernel_rfl
  simp only [List.take_succ_cons, List.take_zero, List.zip_cons_cons, List.zip_nil_left]
  (first | refine wpF_val rfl (fun w' hE hD => by unfold Yld; go_simp; exact ⟨Ext.refl _, rfl⟩) ?_ | refine wpF_valg (by rfl) (fun w' hE hD => by unfold Yld; go_simp; exact ⟨Ext.refl _, rfl⟩) ?_)
  (try simp only [Act.put, List.setIfInBounds_toArray, List.set_cons_zero, List.set_cons_succ])
  (first | refine wpF_val rfl (fun w' hE hD => by unfold Yld; go_simp; exact ⟨Ext.refl _, rfl⟩) ?_ | refine wpF_valg (by rfl) (fun w' hE hD => by unfold Yld; go_simp; exact ⟨Ext.refl _, rfl⟩) ?_)
  (try simp only [Act.put, List.setIfInBounds_toArray, List.set_cons_zero, List.set_cons_succ])
  (first | refine wpF_val rfl (fun w' hE hD => by unfold Yld; go_simp; exact ⟨Ext.refl _, rfl⟩) ?_ | refine wpF_valg (by rfl) (fun w' hE hD => by unfold Yld; go_simp; exact ⟨Ext.refl _, rfl⟩) ?_)
  (try simp only [Act.put, List.setIfInBounds_toArray, List.set_cons_zero, List.set_cons_succ])
  (first | refine wpF_val rfl (fun w' hE hD => by unfold Yld; go_simp; exact ⟨Ext.refl _, rfl⟩) ?_ | refine wpF_valg (by rfl) (fun w' hE hD => by unfold Yld; go_simp; exact ⟨Ext.refl _, rfl⟩) ?_)
  (try simp only [Act.put, List.setIfInBounds_toArray, List.set_cons_zero, List.set_cons_succ])
  (first | refine wpF_val rfl (fun w' hE hD => by unfold Yld; go_simp; exact ⟨Ext.refl _, rfl⟩) ?_ | refine wpF_valg (by rfl) (fun w' hE hD => by unfold Yld; go_simp; exact ⟨Ext.refl _, rfl⟩) ?_)
  (try simp only [Act.put, List.setIfInBounds_toArray, List.set_cons_zero, List.set_cons_succ])
  (first | refine wpF_val rfl (fun w' hE hD => by unfold Yld; go_simp; exact ⟨Ext.refl _, rfl⟩) ?_ | refine wpF_valg (by rfl) (fun w' hE hD => by unfold Yld; go_simp; exact ⟨Ext.refl _, rfl⟩) ?_)
  (try simp only [Act.put, List.setIfInBounds_toArray, List.set_cons_zero, List.set_cons_succ])
  (first | refine wpF_val rfl (fun w' hE hD => by unfold Yld; go_simp; exact ⟨Ext.refl _, rfl⟩) ?_ | refine wpF_valg (by rfl) (fun w' hE hD => by unfold Yld; go_simp; exact ⟨Ext.refl _, rfl⟩) ?_)
  (try simp only [Act.put, List.setIfInBounds_toArray, List.set_cons_zero, List.set_cons_succ])
  (first | refine wpF_val rfl (fun w' hE hD => by unfold Yld; go_simp; exact ⟨Ext.refl _, rfl⟩) ?_ | refine wpF_valg (by rfl) (fun w' hE hD => by unfold Yld; go_simp; exact ⟨Ext.refl _, rfl⟩) ?_)
  (try simp only [Act.put, List.setIfInBounds_toArray, List.set_cons_zero, List.set_cons_succ])
  (first | refine wpF_val rfl (fun w' hE hD => by unfold Yld; go_simp; exact ⟨Ext.refl _, rfl⟩) ?_ | refine wpF_valg (by rfl) (fun w' hE hD => by unfold Yld; go_simp; exact ⟨Ext.refl _, rfl⟩) ?_)
  (try simp only [Act.put, List.setIfInBounds_toArray, List.set_cons_zero, List.set_cons_succ])
  (first | refine wpF_val rfl (fun w' hE hD => by unfold Yld; go_simp; exact ⟨Ext.refl _, rfl⟩) ?_ | refine wpF_valg (by rfl) (fun w' hE hD => by unfold Yld; go_simp; exact ⟨Ext.refl _, rfl⟩) ?_)
  (try simp only [Act.put, List.setIfInBounds_toArray, List.set_cons_zero, List.set_cons_succ])
  (first | refine wpF_val rfl (fun w' hE hD => by unfold Yld; go_simp; exact ⟨Ext.refl _, rfl⟩) ?_ | refine wpF_valg (by rfl) (fun w' hE hD => by unfold Yld; go_simp; exact ⟨Ext.refl _, rfl⟩) ?_)
  (try simp only [Act.put, List.setIfInBounds_toArray, List.set_cons_zero, List.set_cons_succ])
  (first | refine wpF_val rfl (fun w' hE hD => by unfold Yld; go_simp; exact ⟨Ext.refl _, rfl⟩) ?_ | refine wpF_valg (by rfl) (fun w' hE hD => by unfold Yld; go_simp; exact ⟨Ext.refl _, rfl⟩) ?_)
  (try simp only [Act.put, List.setIfInBounds_toArray, List.set_cons_zero, List.set_cons_succ])
  (first | refine wpF_val rfl (fun w' hE hD => Yld_load 58 (.tmp 3) rfl b3 0 rfl (smyC 3 zero32 (-1) (.slice AV nV cV)) _ (rangeAt_ext HRW.out hE) Try.underlying58 rfl HIS.out) ?_ | refine wpF_valg (by rfl) (fun w' hE hD => Yld_load 58 (.tmp 3) rfl b3 0 rfl (smyC 3 zero32 (-1) (.slice AV nV cV)) _ (rangeAt_ext HRW.out hE) Try.underlying58 rfl HIS.out) ?_)
  (try simp only [Act.put, List.setIfInBounds_toArray, List.set_cons_zero, List.set_cons_succ])
  refine wpF_factg (by rfl) (fun u Wa Wb h he => by obtain ⟨A2, c2, h1, h2⟩ := h; exact ⟨A2, c2, h1, Kd.C_below h2 he⟩) (fun w' hE hD => ?_) (fun u28 => ?_)
  · unfold Yld; go_simp; exact (three_calls w').mono fun e w2 h => by obtain ⟨V, h1, h2, h3⟩ := h; obtain ⟨A2, c2, hV2, hc2, hC2⟩ := EB.reads h2; rw [← HNV.out] at hV2 hC2; exact ⟨_, h1, h3, A2, c2, by rw [hV2], hC2⟩
  (try simp only [Act.put, List.setIfInBounds_toArray, List.set_cons_zero, List.set_cons_succ])
  (first | refine wpF_val rfl (fun w' hE hD => by obtain ⟨A2, c2, hV, hC2⟩ := hD.1 (by kernel_rfl); subst hV; unfold Yld; go_simp; exact (HSM.out w' hE A2 c2 hC2).mono fun e w2 h => ⟨_, h.1, h.2, rfl⟩) ?_ | refine wpF_valg (by rfl) (fun w' hE hD => by obtain ⟨A2, c2, hV, hC2⟩ := hD.1 (by kernel_rfl); subst hV; unfold Yld; go_simp; exact (HSM.out w' hE A2 c2 hC2).mono fun e w2 h => ⟨_, h.1, h.2, rfl⟩) ?_)
  (try simp only [Act.put, List.setIfInBounds_toArray, List.set_cons_zero, List.set_cons_succ])
  (first | refine wpF_val rfl (fun w' hE hD => by unfold Yld; go_simp; exact ⟨Ext.refl _, rfl⟩) ?_ | refine wpF_valg (by rfl) (fun w' hE hD => by unfold Yld; go_simp; exact ⟨Ext.refl _, rfl⟩) ?_)
  (try simp only [Act.put, List.setIfInBounds_toArray, List.set_cons_zero, List.set_cons_succ])
  (first | refine wpF_val rfl (fun w' hE hD => by unfold Yld; go_simp; exact ⟨Ext.refl _, rfl⟩) ?_ | refine wpF_valg (by rfl) (fun w' hE hD => by unfold Yld; go_simp; exact ⟨Ext.refl _, rfl⟩) ?_)
  (try simp only [Act.put, List.setIfInBounds_toArray, List.set_cons_zero, List.set_cons_succ])
  refine wpF_nil fun w5 hE5 hA => ?_
  simp only [List.drop_succ_cons, List.drop_zero]
  clear hA
  go_wp2
  go_ret
  exact ⟨rfl, HE4.out.trans hE5⟩
end Go.Proofs.Ythgdjgnbifakbaa.By
