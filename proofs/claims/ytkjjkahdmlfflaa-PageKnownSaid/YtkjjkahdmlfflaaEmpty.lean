/- Nodes: their cells; rules for a part of an array. -/
import Derived.Test.YtkjjkahdmlfflaaEq
namespace Go.Proofs.Ytkjjkahdmlfflaa.By
open Go.RowKit Go.Proofs.Ytkjjkahdmlfflaa.Reg Go.Proofs.YtkjjkahdmlfflaaW.PrintWords Go.Proofs.YtkjjkahdmlfflaaW.PrintLast Go.Proofs.YtkjjkahdmlfflaaW.PrintMore
set_option linter.unusedVariables false

/-- A node's refs. -/
abbrev Rf := Int × List Int
def Rf.ok (r : Rf) : Prop := (-9223372036854775808 ≤ r.1 ∧ r.1 ≤ 9223372036854775807) ∧ r.2.length = 32 ∧ isB r.2
def pageC (p : List Rf) : List Value := p.flatMap fun r => refC r.1 r.2
def pageV (p : List Rf) : Value := .agg (pageC p).toArray
def Pok (p : List Rf) : Prop := p.length = 8 ∧ ∀ r ∈ p, Rf.ok r
def zeroR : Rf := (0, zero32)
theorem refC_length {r : Rf} (h : Rf.ok r) : (refC r.1 r.2).length = 33 := by unfold refC; rw [List.length_cons, nums_length, h.2.1]
theorem flat_cut : ∀ (p : List Rf), (∀ r ∈ p, Rf.ok r) → ∀ (i : Nat) (hi : i < p.length), ((pageC p).drop (i * 33)).take 33 = refC p[i].1 p[i].2
  | r :: p, h, 0, _ => by
    unfold pageC
    rw [Nat.zero_mul, List.drop_zero, List.flatMap_cons, List.take_left' (refC_length (h r (by simp)))]
    rfl
  | r :: p, h, i + 1, hi => by
    have := flat_cut p (fun x hx => h x (by simp [hx])) i (by simpa using hi)
    unfold pageC at this ⊢
    rw [List.flatMap_cons, show (i + 1) * 33 = 33 + i * 33 by omega, ← List.drop_drop, List.drop_left' (refC_length (h r (by simp)))]
    exact this
theorem pageC_length : ∀ (p : List Rf), (∀ r ∈ p, Rf.ok r) → (pageC p).length = p.length * 33
  | [], _ => rfl
  | r :: p, h => by
    have := pageC_length p (fun x hx => h x (by simp [hx]))
    unfold pageC at this ⊢
    rw [List.flatMap_cons, List.length_append, this, refC_length (h r (by simp)), List.length_cons]
    omega
theorem page_range {w : World} {b off : Nat} {p : List Rf} (h : ∀ r ∈ p, Rf.ok r) (hr : w.rangeAt b off (pageC p)) (i : Nat) (hi : i < p.length) : w.rangeAt b (off + i * 33) (refC p[i].1 p[i].2) := by
  intro j v hv
  rw [← flat_cut p h i hi, List.getElem?_take] at hv
  split at hv
  · rw [List.getElem?_drop] at hv
    have := hr _ v hv
    rwa [show off + (i * 33 + j) = off + i * 33 + j by omega] at this
  · cases hv

section
variable {P : Program} {w : World} {ops : Array Oper} {rest : List Oper} {o : Oper} {a : Act} {Q : Exit → Act → World → Prop}
theorem gate_neq {ty : TypeId} {x y : Operand} {yt : TypeId} (_ho : o.op = .binOp .neq ty x y yt) (h : wpList P ops Q (o :: rest) a w) : wpList P ops Q (o :: rest) a w := h
theorem run_neq (t yt : TypeId) (x y : Operand) (ho : o.op = .binOp .neq t x y yt) (xs ys : Array Value) (hx : a.eval x = .agg xs) (hy : a.eval y = .agg ys) (hg : P.eqGuardType P.depth t = false) (r : Bool) (he : (Op.equal t (.agg xs) (.agg ys)).run P w = .ok r w) :
    (execOp a.eval o).run P w = .ok (.value (.bool (!r))) w := by
  unfold execOp
  simp only [ho, hx, hy, Sem.run_bind, run_eqGuard_agg w BinOp.neq t x y xs ys hg, Result.andThen_ok, binOp, he, Sem.run_pure]
theorem neq_at (hw : Region.wanted o (yielded ops a.tmps) = true) (t yt : TypeId) (x y : Operand) (ho : o.op = .binOp .neq t x y yt) (xs ys : Array Value) (hx : a.eval x = .agg xs) (hy : a.eval y = .agg ys) (hg : P.eqGuardType P.depth t = false) (r : Bool) (he : (Op.equal t (.agg xs) (.agg ys)).run P w = .ok r w)
    (h : wpList P ops Q rest (a.put o.dst (.bool (!r))) w) : wpList P ops Q (o :: rest) a w :=
  BigFrame.wpList_want hw fun K hK => by
    unfold Oper.wp
    rw [run_neq t yt x y ho xs ys hx hy hg r he]
    exact hK _ _ h
theorem gate_index {ty : TypeId} {x y : Operand} (_ho : o.op = .index ty x y) (h : wpList P ops Q (o :: rest) a w) : wpList P ops Q (o :: rest) a w := h
theorem index_at (hw : Region.wanted o (yielded ops a.tmps) = true) (ty : TypeId) (x y : Operand) (ho : o.op = .index ty x y) (v : Value) (h1 : (Instr.index ty (a.eval x) (a.eval y)).run P w = .ok v w)
    (h : wpList P ops Q rest (a.put o.dst v) w) : wpList P ops Q (o :: rest) a w :=
  BigFrame.wpList_want hw fun K hK => by
    unfold Oper.wp execOp
    simp only [ho, Sem.run_bind, h1, Result.andThen_ok, Sem.run_pure]
    exact hK _ _ h
theorem store_mid_at (hw : Region.wanted o (yielded ops a.tmps) = true) (ty : TypeId) (x y : Operand) (ho : o.op = .store ty x y)
    (b off : Nat) (vs : List Value) (hx : a.eval x = .pointer (some ⟨b, off, none⟩)) (hy : a.eval y = .agg vs.toArray) (cs : Array Value) (t : TypeId) (h : Blk w b cs t) (hsz : off + vs.length ≤ cs.size)
    (hi : (P.info? ty).map (·.size) = some vs.length) (h1 : ∀ v ∈ vs, v.oneCell' = true)
    (hk : ∀ w', Wrote w w' b → Blk w' b (splice cs off vs) t → wpList P ops Q rest (a.put o.dst undef) w') : wpList P ops Q (o :: rest) a w :=
  BigFrame.wpList_want hw fun K hK => by
    obtain ⟨w', hr, hwr, hb⟩ := run_store_blk (P := P) h off ty vs.toArray (by simpa using hsz) (by simpa using hi) (by simpa using h1)
    unfold Oper.wp execOp
    simp only [ho, hx, hy, Instr.storeAt, Instr.sureAddr, Sem.run_bind, Sem.run_pure, Result.andThen_ok, hr]
    exact hK _ _ (hk w' hwr hb)
end
theorem rf_wf {r : Rf} (h : Rf.ok r) : (Lit.int .i64 r.1).wf = true := by
  have := h.1
  simp [Lit.wf, IntKind.min, IntKind.max, IntKind.signed, IntKind.bits]
  omega
/-- A ref out of an array of refs. -/
theorem index_page (p : List Rf) (hp : Pok p) (i : Int) (h0 : 0 ≤ i) (h1 : i < 8) (r : Rf) (hr : p[i.toNat]? = some r) (w : World) : (Instr.index 56 (pageV p) (.int .i64 i)).run Try.prog w = .ok (refV r.1 r.2) w := by
  obtain ⟨hi, rfl⟩ := List.getElem?_eq_some_iff.1 hr
  have hok := hp.2 _ (List.getElem_mem hi)
  have hc := flat_cut p hp.2 i.toNat hi
  have hk := keyLits_ref 0 p[i.toNat].1 p[i.toNat].2 (rf_wf hok) hok.2.1 hok.2.2
  have h33 : Try.prog.cellsOf 26 = 33 := by kernel_rfl
  obtain ⟨v, h2, h3, h4⟩ := run_part_deep (P := Try.prog) w (e := 26) (off := i.toNat * 33) (xs := (pageC p).toArray) (by rw [h33]; simp only []; rw [hc]; exact hk)
  have hv : v = refV p[i.toNat].1 p[i.toNat].2 := by
    rw [h33] at h4
    simp only [] at h4
    rw [hc] at h4
    cases v with
    | agg cs =>
      unfold refV
      congr 1
      apply Array.toList_inj.1
      simpa [Value.cells] using h4
    | _ => simp [Value.formed, Try.underlying26] at h3
  rw [← hv]
  obtain ⟨it, hit⟩ : ∃ it, Try.prog.info? 26 = some it := ⟨_, rfl⟩
  have hsz : it.size = 33 := by
    have : (Try.prog.info? 26).map (·.size) = some 33 := by kernel_rfl
    rw [hit] at this
    simpa using this
  unfold Instr.index pageV
  simp only [Sem.run_bind, asIntOf, Sem.run_pure, Result.andThen_ok, run_underlying Try.underlying56]
  rw [if_pos ⟨h0, by exact_mod_cast h1⟩]
  simp only [Sem.run_bind, sizeOf, typeInfo, run_program, hit, Sem.run_pure, Result.andThen_ok, hsz]
  exact h2
end Go.Proofs.Ytkjjkahdmlfflaa.By

/- Which nodes may be: the contracts of the program's test and the document's. -/
namespace Go.Proofs.Ytkjjkahdmlfflaa.By
open Go.RowKit Go.Proofs.Ytkjjkahdmlfflaa.Reg Go.Proofs.YtkjjkahdmlfflaaW.PrintWords Go.Proofs.YtkjjkahdmlfflaaW.PrintLast Go.Proofs.YtkjjkahdmlfflaaW.PrintMore
set_option linter.unusedVariables false

/-- May a ref be? -/
def refR (r : Rf) : Bool := decide (r = zeroR) || (decide (3 ≤ r.1) && decide (r.1 ≤ 4095))
def mayB (i : Int) (p : List Rf) : Bool := p.all refR && (decide (0 ≤ i) && decide (i ≤ 8))
theorem refEq {r : Rf} (h : Rf.ok r) (w : World) : (Op.equal 26 (refV r.1 r.2) (refV 0 zero32)).run Try.prog w = .ok (decide (r = zeroR)) w := by
  have := equal_ref r.1 0 r.2 zero32 (rf_wf h) rfl h.2.1 rfl h.2.2 zero32_isB w
  rw [this]
  congr 1
  obtain ⟨a, s⟩ := r
  simp [zeroR]

set_option maxHeartbeats 2000000 in
theorem Right_calls (w : World) (r : Rf) (h : Rf.ok r) (S : Value) (hS : S = refV r.1 r.2) : Calls Try.prog 65 #[S] w fun e w' => e = .returned (.bool (refR r)) ∧ Ext w w' := by
  subst hS
  have hK := Blk.new w (refC r.1 r.2).toArray 26
  have hE0 := (Ext.refl w).alloc (.cells (refC r.1 r.2).toArray 26)
  have HK := Aside0.mk hK
  have HE0 := Aside0.mk hE0
  have HI := Aside0.mk (show (Try.prog.info? 26).map (·.size) = some (refC r.1 r.2).length by rw [refC_length h]; kernel_rfl)
  have HQ := Aside0.mk (fun W => refEq h W)
  have c0 := hK.cell 0 (v := .int .i64 r.1) (by simp [refC])
  unfold refV refR
  by_cases hz : r = zeroR
  · have HZ := Aside0.mk (decide_eq_true hz)
    rw [HZ.out, Bool.true_or]
    clear hz hK hE0 h
    go_enter Try.func65, Try.ntmps65
    go_wp2_with (first | ((with_reducible refine gate_load (ty := 26) rfl ?_); refine load_at rfl 26 _ rfl w.heap.size 0 rfl (refC r.1 r.2) _ (refBlk0 HK.out) Try.underlying26 rfl HI.out ?_) | ((with_reducible refine gate_build (ty := 26) rfl ?_); (refine build_at rfl 26 #[] rfl (refC 0 zero32).toArray [] rfl built_zero ?_)) | ((with_reducible refine gate_eql (ty := 26) rfl ?_); (refine eql_at rfl 26 26 _ _ rfl (refC r.1 r.2).toArray (refC 0 zero32).toArray rfl rfl (by kernel_rfl) true (by have := HQ.out (w.alloc (.cells (refC r.1 r.2).toArray 26)); rwa [HZ.out] at this) ?_)) | fail)
    go_ret
    exact ⟨rfl, HE0.out⟩
  · have HZ := Aside0.mk (decide_eq_false hz)
    rw [HZ.out, Bool.false_or]
    clear hz hK hE0 h
    by_cases h3 : 3 ≤ r.1
    · rw [decide_eq_true h3, Bool.true_and]
      have h3' : decide (3 ≤ r.1) = true := decide_eq_true h3
      by_cases h4 : r.1 ≤ 4095
      · rw [decide_eq_true h4]
        go_enter Try.func65, Try.ntmps65
        go_wp2_with (first | ((with_reducible refine gate_load (ty := 26) rfl ?_); refine load_at rfl 26 _ rfl w.heap.size 0 rfl (refC r.1 r.2) _ (refBlk0 HK.out) Try.underlying26 rfl HI.out ?_) | ((with_reducible refine gate_build (ty := 26) rfl ?_); (refine build_at rfl 26 #[] rfl (refC 0 zero32).toArray [] rfl built_zero ?_)) | ((with_reducible refine gate_eql (ty := 26) rfl ?_); (refine eql_at rfl 26 26 _ _ rfl (refC r.1 r.2).toArray (refC 0 zero32).toArray rfl rfl (by kernel_rfl) false (by have := HQ.out (w.alloc (.cells (refC r.1 r.2).toArray 26)); rwa [HZ.out] at this) ?_)) | fail)
        go_ret
        exact ⟨rfl, HE0.out⟩
      · rw [decide_eq_false h4]
        have h4' : 4095 < r.1 := by omega
        go_enter Try.func65, Try.ntmps65
        go_wp2_with (first | ((with_reducible refine gate_load (ty := 26) rfl ?_); refine load_at rfl 26 _ rfl w.heap.size 0 rfl (refC r.1 r.2) _ (refBlk0 HK.out) Try.underlying26 rfl HI.out ?_) | ((with_reducible refine gate_build (ty := 26) rfl ?_); (refine build_at rfl 26 #[] rfl (refC 0 zero32).toArray [] rfl built_zero ?_)) | ((with_reducible refine gate_eql (ty := 26) rfl ?_); (refine eql_at rfl 26 26 _ _ rfl (refC r.1 r.2).toArray (refC 0 zero32).toArray rfl rfl (by kernel_rfl) false (by have := HQ.out (w.alloc (.cells (refC r.1 r.2).toArray 26)); rwa [HZ.out] at this) ?_)) | fail)
        go_ret
        exact ⟨rfl, HE0.out⟩
    · rw [decide_eq_false h3, Bool.false_and]
      have h3' : r.1 < 3 := by omega
      go_enter Try.func65, Try.ntmps65
      go_wp2_with (first | ((with_reducible refine gate_load (ty := 26) rfl ?_); refine load_at rfl 26 _ rfl w.heap.size 0 rfl (refC r.1 r.2) _ (refBlk0 HK.out) Try.underlying26 rfl HI.out ?_) | ((with_reducible refine gate_build (ty := 26) rfl ?_); (refine build_at rfl 26 #[] rfl (refC 0 zero32).toArray [] rfl built_zero ?_)) | ((with_reducible refine gate_eql (ty := 26) rfl ?_); (refine eql_at rfl 26 26 _ _ rfl (refC r.1 r.2).toArray (refC 0 zero32).toArray rfl rfl (by kernel_rfl) false (by have := HQ.out (w.alloc (.cells (refC r.1 r.2).toArray 26)); rwa [HZ.out] at this) ?_)) | fail)
      go_ret
      exact ⟨rfl, HE0.out⟩

set_option maxHeartbeats 4000000 in
theorem may_calls (w : World) (index : Int) (p : List Rf) (hp : Pok p) (S : Value) (hS : S = pageV p) : Calls Try.prog 64 #[.int .i64 index, S] w fun e w' => e = .returned (.bool (mayB index p)) ∧ Ext w w' := by
  subst hS
  have HP := Aside0.mk hp
  have HBK0 := Aside0.mk (Blk.new w (pageC p).toArray 58)
  have HE0 := Aside0.mk ((Ext.refl w).alloc (.cells (pageC p).toArray 58))
  unfold pageV
  clear hp
  go_enter Try.func64, Try.ntmps64
  go_wp2_with fail
  go_loopw [5] (fun i wr => ∃ x : Int, i = .int .i64 x ∧ Aside0 (0 ≤ x ∧ x ≤ 8) ∧ Aside0 (∀ j : Nat, j < x → ∀ hj : j < p.length, refR p[j] = true) ∧ Aside0 (Blk wr w.heap.size (pageC p).toArray 58) ∧ Aside0 (Ext w wr)) (fun i _ => 8 - (intOf i).toNat)
  case atStart => exact ⟨0, rfl, ⟨by decide⟩, ⟨fun j hj => by omega⟩, HBK0, HE0⟩
  case round =>
    clear HBK0 HE0
    obtain ⟨x, rfl, HX, HALL, HBK, HE⟩ := hrel
    obtain ⟨g0, g1⟩ := HX.out
    by_cases hlt : x < 8
    · have HLT := Aside0.mk hlt
      have hxl : x.toNat < p.length := by rw [HP.out.1]; omega
      have hok := HP.out.2 _ (List.getElem_mem hxl)
      have hrg := page_range HP.out.2 (HBK.out.range 0 (pageC p) [] (by simp)) x.toNat hxl
      rw [Nat.zero_add] at hrg
      have hnext : ∀ r, p[x.toNat] = r → refR r = true → ∀ j : Nat, j < x + 1 → ∀ hj : j < p.length, refR p[j] = true := by
        intro r hr hrr j hj hjl
        rcases Nat.lt_or_ge j x.toNat with h | h
        · exact HALL.out j (by omega) hjl
        · have : j = x.toNat := by omega
          subst this
          rw [hr]; exact hrr
      have hmem := List.getElem_mem hxl
      generalize hr : p[x.toNat] = r at hok hrg hnext hmem
      have HN := Aside0.mk (hnext r rfl)
      have HRG := Aside0.mk hrg
      have HOK := Aside0.mk hok
      have HMEM := Aside0.mk hmem
      have HI := Aside0.mk (show (Try.prog.info? 26).map (·.size) = some (refC r.1 r.2).length by rw [refC_length hok]; kernel_rfl)
      clear hok hrg hnext hmem hr hxl HALL
      obtain ⟨wx, hwx⟩ : ∃ wx : World, wx = wr := ⟨_, rfl⟩
      subst hwx
      go_wp2_with (first | ((with_reducible refine gate_load (ty := 26) rfl ?_); refine load_at rfl 26 _ rfl w.heap.size (x.toNat * 33) rfl (refC r.1 r.2) _ HRG.out Try.underlying26 rfl HI.out ?_) | fail)
      refine (Right_calls wx r HOK.out _ rfl).mono ?_
      rintro e w6 ⟨rfl, hE6⟩
      have HE6 := Aside0.mk (HE.out.trans hE6)
      have HBK6 := Aside0.mk (HBK.out.ext hE6)
      clear hE6 HE HBK HRG
      cases hb : refR r with
      | true =>
        have HN' := Aside0.mk (HN.out hb)
        go_wp2
        go_roundw
        case rel => exact ⟨x + 1, rfl, ⟨by omega, by have := HLT.out; omega⟩, HN', HBK6, HE6⟩
        case measure => have := HLT.out; simp only [intOf]; omega
      | false =>
        have hm : mayB index p = false := by
          unfold mayB
          rw [show p.all refR = false from by
            rw [List.all_eq_false]
            exact ⟨r, HMEM.out, by rw [hb]; decide⟩, Bool.false_and]
        have HM := Aside0.mk hm
        clear hm hb
        go_wp2
        go_ret
        rw [HM.out]
        exact ⟨rfl, HE6.out⟩
    · have hx : x = 8 := by omega
      subst hx
      have HALL' : Aside0 (p.all refR = true) := ⟨List.all_eq_true.2 (fun r hr => by
        obtain ⟨j, hj, rfl⟩ := List.mem_iff_getElem.1 hr
        exact HALL.out j (by have := HP.out.1; omega) hj)⟩
      have HM0 := Aside0.mk (show mayB index p = (decide (0 ≤ index) && decide (index ≤ 8)) by unfold mayB; rw [HALL'.out, Bool.true_and])
      clear HALL HBK
      by_cases hi0 : 0 ≤ index
      · have e0 : (0 ≤ index) = True := eq_true hi0
        by_cases hi1 : index ≤ 8
        · have e1 : (index ≤ 8) = True := eq_true (by omega)
          have HM := Aside0.mk (show mayB index p = true by rw [HM0.out, decide_eq_true hi0, decide_eq_true hi1]; rfl)
          go_wp2
          go_ret
          rw [HM.out]
          exact ⟨rfl, HE.out⟩
        · have e1 : (index ≤ 8) = False := eq_false (by omega)
          have e2 : 8 < index := by omega
          have HM := Aside0.mk (show mayB index p = false by rw [HM0.out, decide_eq_false hi1, Bool.and_false])
          go_wp2
          go_ret
          rw [HM.out]
          exact ⟨rfl, HE.out⟩
      · have e0 : (0 ≤ index) = False := eq_false hi0
        have HM := Aside0.mk (show mayB index p = false by rw [HM0.out, decide_eq_false hi0, Bool.false_and])
        go_wp2
        go_ret
        rw [HM.out]
        exact ⟨rfl, HE.out⟩

theorem wf_page {p : List Rf} (hp : Pok p) : (Try.prog.info? 58).map (·.size) = some (pageC p).length ∧ (Try.prog.info? 56).map (·.size) = some (pageC p).length := by
  rw [pageC_length p hp.2, hp.1]
  exact ⟨by kernel_rfl, by kernel_rfl⟩

set_option maxHeartbeats 4000000 in
theorem right_calls (w : World) (index : Int) (p : List Rf) (hp : Pok p) (S : Value) (hS : S = pageV p) : Calls Try.prog 63 #[.int .i64 index, S] w fun e w' => e = .returned (.bool (mayB index p)) ∧ Ext w w' := by
  subst hS
  have HP := Aside0.mk hp
  have HBK0 := Aside0.mk (Blk.new w (pageC p).toArray 58)
  have HE0 := Aside0.mk ((Ext.refl w).alloc (.cells (pageC p).toArray 58))
  have HI56 := Aside0.mk (wf_page hp).2
  unfold pageV
  clear hp
  go_enter Try.func63, Try.ntmps63
  go_wp2_with (first | ((with_reducible refine gate_load (ty := 56) rfl ?_); refine load_at rfl 56 _ rfl w.heap.size 0 rfl (pageC p) _ (HBK0.out.range 0 (pageC p) [] (by simp)) Try.underlying56 rfl HI56.out ?_) | fail)
  go_loopw [9] (fun i wr => ∃ x : Int, i = .int .i64 x ∧ Aside0 (0 ≤ x ∧ x ≤ 8) ∧ Aside0 (∀ j : Nat, j < x → ∀ hj : j < p.length, refR p[j] = true) ∧ Aside0 (Ext w wr)) (fun i _ => 8 - (intOf i).toNat)
  case atStart => exact ⟨0, rfl, ⟨by decide⟩, ⟨fun j hj => by omega⟩, HE0⟩
  case round =>
    clear HBK0 HE0
    obtain ⟨x, rfl, HX, HALL, HE⟩ := hrel
    obtain ⟨g0, g1⟩ := HX.out
    by_cases hlt : x < 8
    · have HLT := Aside0.mk hlt
      have hxl : x.toNat < p.length := by rw [HP.out.1]; omega
      have hok := HP.out.2 _ (List.getElem_mem hxl)
      have hix := index_page p HP.out x g0 hlt _ (List.getElem?_eq_getElem hxl)
      have hnext : ∀ r, p[x.toNat] = r → refR r = true → ∀ j : Nat, j < x + 1 → ∀ hj : j < p.length, refR p[j] = true := by
        intro r hr hrr j hj hjl
        rcases Nat.lt_or_ge j x.toNat with h | h
        · exact HALL.out j (by omega) hjl
        · have : j = x.toNat := by omega
          subst this
          rw [hr]; exact hrr
      have hmem := List.getElem_mem hxl
      generalize hr : p[x.toNat] = r at hok hix hnext hmem
      have HN := Aside0.mk (hnext r rfl)
      have HIX := Aside0.mk hix
      have HOK := Aside0.mk hok
      have HMEM := Aside0.mk hmem
      have HQ := Aside0.mk (fun W => refEq hok W)
      have HI := Aside0.mk (show (Try.prog.info? 26).map (·.size) = some (refC r.1 r.2).length by rw [refC_length hok]; kernel_rfl)
      have HSZ := Aside0.mk (show 33 = (refC r.1 r.2).length from (refC_length hok).symm)
      clear hok hix hnext hmem hr hxl HALL
      obtain ⟨wx, hwx⟩ : ∃ wx : World, wx = wr := ⟨_, rfl⟩
      subst hwx
      go_wp2_with (first | ((with_reducible refine gate_index (ty := 56) rfl ?_); refine index_at rfl 56 _ _ rfl (refV r.1 r.2) (HIX.out _) ?_) | ((with_reducible refine gate_store (ty := 26) rfl ?_); (refine store_at rfl 26 _ _ rfl wx.heap.size (refC r.1 r.2) rfl rfl _ 26 (Blk.new wx #[Value.int .i64 0, Value.int .u8 0, Value.int .u8 0, Value.int .u8 0, Value.int .u8 0, Value.int .u8 0, Value.int .u8 0, Value.int .u8 0, Value.int .u8 0, Value.int .u8 0, Value.int .u8 0, Value.int .u8 0, Value.int .u8 0, Value.int .u8 0, Value.int .u8 0, Value.int .u8 0, Value.int .u8 0, Value.int .u8 0, Value.int .u8 0, Value.int .u8 0, Value.int .u8 0, Value.int .u8 0, Value.int .u8 0, Value.int .u8 0, Value.int .u8 0, Value.int .u8 0, Value.int .u8 0, Value.int .u8 0, Value.int .u8 0, Value.int .u8 0, Value.int .u8 0, Value.int .u8 0, Value.int .u8 0] 26) HSZ.out HI.out (one_ref _ _) ?_)) | fail)
      intro w5 hW5 hB5
      have HB5 := Aside0.mk hB5
      have HE5 := Aside0.mk (HE.out.trans (hW5.ext ((Ext.refl wx).alloc _) (Nat.le_refl _)))
      have c0 := hB5.cell 0 (v := .int .i64 r.1) (by simp [refC])
      clear hW5 hB5 HE HIX
      have hbad : refR r = false → mayB index p = false := by
        intro hb
        unfold mayB
        rw [show p.all refR = false from by
          rw [List.all_eq_false]
          exact ⟨r, HMEM.out, by rw [hb]; decide⟩, Bool.false_and]
      by_cases hz : r = zeroR
      · have HZ := Aside0.mk (decide_eq_true hz)
        have HN' := Aside0.mk (HN.out (by unfold refR; rw [HZ.out, Bool.true_or]))
        clear hz hbad
        go_wp2_with (first | ((with_reducible refine gate_load (ty := 26) rfl ?_); refine load_at rfl 26 _ rfl wx.heap.size 0 rfl (refC r.1 r.2) _ (refBlk0 HB5.out) Try.underlying26 rfl HI.out ?_) | ((with_reducible refine gate_build (ty := 26) rfl ?_); (refine build_at rfl 26 #[] rfl (refC 0 zero32).toArray [] rfl built_zero ?_)) | ((with_reducible refine gate_neq (ty := 26) rfl ?_); (refine neq_at rfl 26 26 _ _ rfl (refC r.1 r.2).toArray (refC 0 zero32).toArray rfl rfl (by kernel_rfl) true (by have := HQ.out w5; rwa [HZ.out] at this) ?_)) | fail)
        go_roundw
        case rel => exact ⟨x + 1, rfl, ⟨by omega, by have := HLT.out; omega⟩, HN', HE5⟩
        case measure => have := HLT.out; simp only [intOf]; omega
      · have HZ := Aside0.mk (decide_eq_false hz)
        clear hz
        by_cases h3 : 3 ≤ r.1
        · have h3' : (r.1 < 3) = False := eq_false (by omega)
          by_cases h4 : r.1 ≤ 4095
          · have h4' : (4096 ≤ r.1) = False := eq_false (by omega)
            have HN' := Aside0.mk (HN.out (by unfold refR; rw [decide_eq_true h3, decide_eq_true h4, Bool.true_and, Bool.or_true]))
            clear hbad
            go_wp2_with (first | ((with_reducible refine gate_load (ty := 26) rfl ?_); refine load_at rfl 26 _ rfl wx.heap.size 0 rfl (refC r.1 r.2) _ (refBlk0 HB5.out) Try.underlying26 rfl HI.out ?_) | ((with_reducible refine gate_build (ty := 26) rfl ?_); (refine build_at rfl 26 #[] rfl (refC 0 zero32).toArray [] rfl built_zero ?_)) | ((with_reducible refine gate_neq (ty := 26) rfl ?_); (refine neq_at rfl 26 26 _ _ rfl (refC r.1 r.2).toArray (refC 0 zero32).toArray rfl rfl (by kernel_rfl) false (by have := HQ.out w5; rwa [HZ.out] at this) ?_)) | fail)
            go_roundw
            case rel => exact ⟨x + 1, rfl, ⟨by omega, by have := HLT.out; omega⟩, HN', HE5⟩
            case measure => have := HLT.out; simp only [intOf]; omega
          · have h4' : (4096 ≤ r.1) = True := eq_true (by omega)
            have HM := Aside0.mk (hbad (by unfold refR; rw [HZ.out, decide_eq_false h4, Bool.and_false]; rfl))
            clear hbad
            go_wp2_with (first | ((with_reducible refine gate_load (ty := 26) rfl ?_); refine load_at rfl 26 _ rfl wx.heap.size 0 rfl (refC r.1 r.2) _ (refBlk0 HB5.out) Try.underlying26 rfl HI.out ?_) | ((with_reducible refine gate_build (ty := 26) rfl ?_); (refine build_at rfl 26 #[] rfl (refC 0 zero32).toArray [] rfl built_zero ?_)) | ((with_reducible refine gate_neq (ty := 26) rfl ?_); (refine neq_at rfl 26 26 _ _ rfl (refC r.1 r.2).toArray (refC 0 zero32).toArray rfl rfl (by kernel_rfl) false (by have := HQ.out w5; rwa [HZ.out] at this) ?_)) | fail)
            go_ret
            rw [HM.out]
            exact ⟨rfl, HE5.out⟩
        · have h3' : (r.1 < 3) = True := eq_true (by omega)
          have HM := Aside0.mk (hbad (by unfold refR; rw [HZ.out, decide_eq_false h3, Bool.false_and]; rfl))
          clear hbad
          go_wp2_with (first | ((with_reducible refine gate_load (ty := 26) rfl ?_); refine load_at rfl 26 _ rfl wx.heap.size 0 rfl (refC r.1 r.2) _ (refBlk0 HB5.out) Try.underlying26 rfl HI.out ?_) | ((with_reducible refine gate_build (ty := 26) rfl ?_); (refine build_at rfl 26 #[] rfl (refC 0 zero32).toArray [] rfl built_zero ?_)) | ((with_reducible refine gate_neq (ty := 26) rfl ?_); (refine neq_at rfl 26 26 _ _ rfl (refC r.1 r.2).toArray (refC 0 zero32).toArray rfl rfl (by kernel_rfl) false (by have := HQ.out w5; rwa [HZ.out] at this) ?_)) | fail)
          go_ret
          rw [HM.out]
          exact ⟨rfl, HE5.out⟩
    · have hx : x = 8 := by omega
      subst hx
      have HALL' : Aside0 (p.all refR = true) := ⟨List.all_eq_true.2 (fun r hr => by
        obtain ⟨j, hj, rfl⟩ := List.mem_iff_getElem.1 hr
        exact HALL.out j (by have := HP.out.1; omega) hj)⟩
      have HM0 := Aside0.mk (show mayB index p = (decide (0 ≤ index) && decide (index ≤ 8)) by unfold mayB; rw [HALL'.out, Bool.true_and])
      clear HALL
      by_cases hi0 : 0 ≤ index
      · have e0 : (0 ≤ index) = True := eq_true hi0
        by_cases hi1 : index ≤ 8
        · have e1 : (index < 9) = True := eq_true (by omega)
          have HM := Aside0.mk (show mayB index p = true by rw [HM0.out, decide_eq_true hi0, decide_eq_true hi1]; rfl)
          go_wp2
          go_ret
          rw [HM.out]
          exact ⟨rfl, HE.out⟩
        · have e1 : (index < 9) = False := eq_false (by omega)
          have HM := Aside0.mk (show mayB index p = false by rw [HM0.out, decide_eq_false hi1, Bool.and_false])
          go_wp2
          go_ret
          rw [HM.out]
          exact ⟨rfl, HE.out⟩
      · have e0 : (0 ≤ index) = False := eq_false hi0
        have HM := Aside0.mk (show mayB index p = false by rw [HM0.out, decide_eq_false hi0, Bool.false_and])
        go_wp2
        go_ret
        rw [HM.out]
        exact ⟨rfl, HE.out⟩
end Go.Proofs.Ytkjjkahdmlfflaa.By

/- A node's bytes: the contracts of the program's Put and the document's. -/
namespace Go.Proofs.Ytkjjkahdmlfflaa.By
open Go.RowKit Go.Proofs.Ytkjjkahdmlfflaa.Reg Go.Proofs.YtkjjkahdmlfflaaW.PrintWords Go.Proofs.YtkjjkahdmlfflaaW.PrintLast Go.Proofs.YtkjjkahdmlfflaaW.PrintMore
set_option linter.unusedVariables false

def refsB (p : List Rf) : List Int := p.flatMap fun r => refB r.1 r.2
/-- A node's bytes. -/
def nodeB (i : Int) (p : List Rf) : List Int := be8 i ++ refsB p
theorem refB_len {r : Rf} (h : Rf.ok r) : (refB r.1 r.2).length = 40 := by unfold refB; rw [List.length_append, be8_length, h.2.1]
theorem refsB_len : ∀ (p : List Rf), (∀ r ∈ p, Rf.ok r) → (refsB p).length = p.length * 40
  | [], _ => rfl
  | r :: p, h => by
    have := refsB_len p (fun x hx => h x (by simp [hx]))
    unfold refsB at this ⊢
    rw [List.flatMap_cons, List.length_append, this, refB_len (h r (by simp)), List.length_cons]
    omega
theorem refsB_take (p : List Rf) (i : Nat) (r : Rf) (h : p[i]? = some r) : refsB (p.take (i + 1)) = refsB (p.take i) ++ refB r.1 r.2 := by
  obtain ⟨hi, rfl⟩ := List.getElem?_eq_some_iff.1 h
  unfold refsB
  rw [List.take_succ_eq_append_getElem hi, List.flatMap_append]
  simp
theorem nil_pint (w : World) (v : Int) : Calls Try.prog 17 #[.slice none 0 0, .int .i64 v] w fun e w' => ∃ V, e = .returned V ∧ NB w' w.heap.size V (be8 v) ∧ Ext w w' :=
  int_at w none 0 0 [] v rfl (Kd.C_nil kb w) (Nat.le_refl _) (by decide)
theorem nil_rint (w : World) (v : Int) : Calls Try.prog 21 #[.slice none 0 0, .int .i64 v] w fun e w' => ∃ V, e = .returned V ∧ NB w' w.heap.size V (be8 v) ∧ Ext w w' :=
  rint_n w none 0 0 [] v rfl (Kd.C_nil kb w) (Nat.le_refl _) (by decide)
def putC (i : Int) (p : List Rf) : Int := if mayB i p = true then 0 else 7
def putXs (i : Int) (p : List Rf) : List Int := if mayB i p = true then nodeB i p else []
theorem put_yes {i : Int} {p : List Rf} (h : mayB i p = true) : putC i p = 0 ∧ putXs i p = nodeB i p := ⟨if_pos h, if_pos h⟩
theorem put_no {i : Int} {p : List Rf} (h : mayB i p = false) : putC i p = 7 ∧ putXs i p = [] := ⟨if_neg (by rw [h]; decide), if_neg (by rw [h]; decide)⟩
/-- Bytes that can be read. -/
def RdB (w : World) (V : Value) (xs : List Int) : Prop := ∃ X k c, V = .slice X k c ∧ k = xs.length ∧ k ≤ c ∧ Kd.C kb w X k xs

set_option maxHeartbeats 4000000 in
theorem put_calls (w : World) (index : Int) (p : List Rf) (hp : Pok p) (S : Value) (hS : S = pageV p) :
    Calls Try.prog 46 #[.int .i64 index, S] w fun e w' => ∃ V c, e = .returned (.tuple #[V, .int .i64 c]) ∧ c = putC index p ∧ RdB w' V (putXs index p) ∧ Ext w w' := by
  subst hS
  have HP := Aside0.mk hp
  have HBK0 := Aside0.mk (Blk.new w (pageC p).toArray 58)
  have HE0 := Aside0.mk ((Ext.refl w).alloc (.cells (pageC p).toArray 58))
  have HI58 := Aside0.mk (wf_page hp).1
  have HI56 := Aside0.mk (wf_page hp).2
  unfold pageV
  clear hp
  go_enter Try.func46, Try.ntmps46
  go_wp2_with (first | ((with_reducible refine gate_load (ty := 58) rfl ?_); refine load_at rfl 58 _ rfl w.heap.size 0 rfl (pageC p) _ (HBK0.out.range 0 (pageC p) [] (by simp)) Try.underlying58 rfl HI58.out ?_) | fail)
  refine (right_calls _ index p HP.out _ rfl).mono ?_
  rintro e w1 ⟨rfl, hE1⟩
  have HE1 := Aside0.mk (HE0.out.trans hE1)
  have HBK1 := Aside0.mk (HBK0.out.ext hE1)
  clear hE1 HE0 HBK0
  cases hm : mayB index p with
  | false =>
    have HM := Aside0.mk hm
    clear hm
    go_wp2
    go_ret2
    rw [(put_no HM.out).1, (put_no HM.out).2]
    exact ⟨_, _, rfl, rfl, ⟨none, 0, 0, rfl, rfl, Nat.le_refl _, Kd.C_nil kb w1⟩, HE1.out⟩
  | true =>
    have HM := Aside0.mk hm
    clear hm
    go_wp2_with fail
    refine (nil_pint w1 index).mono ?_
    rintro e w2 ⟨V, rfl, hV, hE2⟩
    obtain ⟨X, cx, rfl, hcx, hC⟩ := hV.reads
    have HC2 := Aside0.mk (show 8 ≤ cx ∧ Kd.C kb w2 X 8 (be8 index) from ⟨hcx, hC⟩)
    rw [be8_length]
    have HE2 := Aside0.mk (HE1.out.trans hE2)
    have HBK2 := Aside0.mk (HBK1.out.ext hE2)
    clear hV hE2 hcx hC HE1 HBK1
    go_wp2_with (first | ((with_reducible refine gate_load (ty := 56) rfl ?_); refine load_at rfl 56 _ rfl w.heap.size 0 rfl (pageC p) _ (HBK2.out.range 0 (pageC p) [] (by simp)) Try.underlying56 rfl HI56.out ?_) | fail)
    go_loopw [6, 17] (fun v i wr => ∃ x : Int, i = .int .i64 x ∧ Aside0 (0 ≤ x ∧ x ≤ 8) ∧ ∃ X k cx xs, v = .slice X k cx ∧ Aside0 (k = xs.length ∧ xs = be8 index ++ refsB (p.take x.toNat)) ∧ Aside0 (k ≤ cx ∧ Kd.C kb wr X k xs) ∧ Aside0 (Blk wr w.heap.size (pageC p).toArray 58) ∧ Aside0 (Ext w wr)) (fun _ i _ => 8 - (intOf i).toNat)
    case atStart => exact ⟨0, rfl, ⟨by decide⟩, X, 8, cx, be8 index, rfl, ⟨rfl, by simp [refsB]⟩, HC2, HBK2, HE2⟩
    case round =>
      clear HC2 HBK2 HE2
      obtain ⟨x, rfl, HX, X, k, cx, xs, rfl, HXS, HCX, HBK, HE⟩ := hrel
      obtain ⟨g0, g1⟩ := HX.out
      by_cases hlt : x < 8
      · have HLT := Aside0.mk hlt
        have hxl : x.toNat < p.length := by rw [HP.out.1]; omega
        have hok := HP.out.2 _ (List.getElem_mem hxl)
        have hix := index_page p HP.out x g0 hlt _ (List.getElem?_eq_getElem hxl)
        have hrg := page_range HP.out.2 (HBK.out.range 0 (pageC p) [] (by simp)) x.toNat hxl
        rw [Nat.zero_add] at hrg
        have htk := refsB_take p x.toNat _ (List.getElem?_eq_getElem hxl)
        have hkl : k ≤ 400 := by
          have h1 := HXS.out
          rw [h1.1, h1.2, List.length_append, be8_length, refsB_len _ (fun r hr => HP.out.2 r (List.mem_of_mem_take hr)), List.length_take]
          omega
        generalize p[x.toNat] = r at hok hix htk hrg
        have HIX := Aside0.mk hix
        have HTK := Aside0.mk htk
        have HRG := Aside0.mk hrg
        have HOK := Aside0.mk hok
        have HI := Aside0.mk (show (Try.prog.info? 26).map (·.size) = some (refC r.1 r.2).length by rw [refC_length hok]; kernel_rfl)
        have HSZ := Aside0.mk (show 33 = (refC r.1 r.2).length from (refC_length hok).symm)
        clear hok hix htk hxl hrg
        obtain ⟨wx, hwx⟩ : ∃ wx : World, wx = wr := ⟨_, rfl⟩
        subst hwx
        go_wp2_with (first | ((with_reducible refine gate_index (ty := 56) rfl ?_); refine index_at rfl 56 _ _ rfl (refV r.1 r.2) (HIX.out _) ?_) | ((with_reducible refine gate_store (ty := 26) rfl ?_); (refine store_at rfl 26 _ _ rfl wx.heap.size (refC r.1 r.2) rfl rfl _ 26 (Blk.new wx #[Value.int .i64 0, Value.int .u8 0, Value.int .u8 0, Value.int .u8 0, Value.int .u8 0, Value.int .u8 0, Value.int .u8 0, Value.int .u8 0, Value.int .u8 0, Value.int .u8 0, Value.int .u8 0, Value.int .u8 0, Value.int .u8 0, Value.int .u8 0, Value.int .u8 0, Value.int .u8 0, Value.int .u8 0, Value.int .u8 0, Value.int .u8 0, Value.int .u8 0, Value.int .u8 0, Value.int .u8 0, Value.int .u8 0, Value.int .u8 0, Value.int .u8 0, Value.int .u8 0, Value.int .u8 0, Value.int .u8 0, Value.int .u8 0, Value.int .u8 0, Value.int .u8 0, Value.int .u8 0, Value.int .u8 0] 26) HSZ.out HI.out (one_ref _ _) ?_)) | fail)
        intro w5 hW5 hB5
        have hx5 := hW5.ext ((Ext.refl wx).alloc _) (Nat.le_refl _)
        have HB5 := Aside0.mk hB5
        have HE5 := Aside0.mk (HE.out.trans hx5)
        have HC5 := Aside0.mk (show k ≤ cx ∧ Kd.C kb w5 X k xs from ⟨HCX.out.1, Kd.C_below HCX.out.2 hx5⟩)
        have HBK5 := Aside0.mk (HBK.out.ext hx5)
        clear hW5 hB5 HE HIX HCX HBK hx5
        go_wp2_with (first | ((with_reducible refine gate_load (ty := 26) rfl ?_); refine load_at rfl 26 _ rfl wx.heap.size 0 rfl (refC r.1 r.2) _ (refBlk0 HB5.out) Try.underlying26 rfl HI.out ?_) | fail)
        refine (ref_at w5 X cx k xs r.2 r.1 _ HXS.out.1 rfl HOK.out.2.1 HC5.out.2 HC5.out.1 (by omega)).mono ?_
        rintro e w7 ⟨V, rfl, hV, hE7⟩
        obtain ⟨X', c', rfl, hc', hC'⟩ := hV.reads
        generalize hys : xs ++ refB r.1 r.2 = ys at hC' hc' ⊢
        generalize hkk : ys.length = kk at hC' hc' ⊢
        have HNX := Aside0.mk (show kk = ys.length ∧ ys = be8 index ++ refsB (p.take (x + 1).toNat) by
          refine ⟨hkk.symm, ?_⟩
          rw [show (x + 1).toNat = x.toNat + 1 by omega, HTK.out, ← hys, HXS.out.2, List.append_assoc])
        have HNC := Aside0.mk (show kk ≤ c' ∧ Kd.C kb w7 X' kk ys from ⟨hc', hC'⟩)
        have HNE := Aside0.mk (HE5.out.trans hE7)
        have HNB := Aside0.mk (HBK5.out.ext hE7)
        clear hV hE7 hc' hC' hys hkk
        go_wp2
        go_roundw
        case rel => exact ⟨x + 1, rfl, ⟨by omega, by have := HLT.out; omega⟩, X', kk, c', ys, rfl, HNX, HNC, HNB, HNE⟩
        case measure => have := HLT.out; simp only [intOf]; omega
      · have hx : x = 8 := by omega
        subst hx
        have HF := Aside0.mk (show xs = nodeB index p by
          rw [HXS.out.2, List.take_of_length_le (by rw [HP.out.1]; decide)]
          rfl)
        go_wp2
        go_ret2
        rw [(put_yes HM.out).1, (put_yes HM.out).2]
        exact ⟨_, _, rfl, rfl, ⟨X, k, cx, rfl, by rw [← HF.out]; exact HXS.out.1, HCX.out.1, by rw [← HF.out]; exact HCX.out.2⟩, HE.out⟩

set_option maxHeartbeats 4000000 in
theorem rput_calls (w : World) (index : Int) (p : List Rf) (hp : Pok p) (S : Value) (hS : S = pageV p) :
    Calls Try.prog 47 #[.int .i64 index, S] w fun e w' => ∃ V c, e = .returned (.tuple #[V, .int .i64 c]) ∧ c = putC index p ∧ RdB w' V (putXs index p) ∧ Ext w w' := by
  subst hS
  have HP := Aside0.mk hp
  have HBK0 := Aside0.mk (Blk.new w (pageC p).toArray 58)
  have HE0 := Aside0.mk ((Ext.refl w).alloc (.cells (pageC p).toArray 58))
  have HI58 := Aside0.mk (wf_page hp).1
  have HI56 := Aside0.mk (wf_page hp).2
  unfold pageV
  clear hp
  go_enter Try.func47, Try.ntmps47
  go_wp2_with (first | ((with_reducible refine gate_load (ty := 58) rfl ?_); refine load_at rfl 58 _ rfl w.heap.size 0 rfl (pageC p) _ (HBK0.out.range 0 (pageC p) [] (by simp)) Try.underlying58 rfl HI58.out ?_) | fail)
  refine (may_calls _ index p HP.out _ rfl).mono ?_
  rintro e w1 ⟨rfl, hE1⟩
  have HE1 := Aside0.mk (HE0.out.trans hE1)
  have HBK1 := Aside0.mk (HBK0.out.ext hE1)
  clear hE1 HE0 HBK0
  cases hm : mayB index p with
  | false =>
    have HM := Aside0.mk hm
    clear hm
    go_wp2
    go_ret2
    rw [(put_no HM.out).1, (put_no HM.out).2]
    exact ⟨_, _, rfl, rfl, ⟨none, 0, 0, rfl, rfl, Nat.le_refl _, Kd.C_nil kb w1⟩, HE1.out⟩
  | true =>
    have HM := Aside0.mk hm
    clear hm
    go_wp2_with fail
    refine (nil_rint w1 index).mono ?_
    rintro e w2 ⟨V, rfl, hV, hE2⟩
    obtain ⟨X, cx, rfl, hcx, hC⟩ := hV.reads
    have HC2 := Aside0.mk (show 8 ≤ cx ∧ Kd.C kb w2 X 8 (be8 index) from ⟨hcx, hC⟩)
    rw [be8_length]
    have HE2 := Aside0.mk (HE1.out.trans hE2)
    have HBK2 := Aside0.mk (HBK1.out.ext hE2)
    clear hV hE2 hcx hC HE1 HBK1
    go_wp2_with (first | ((with_reducible refine gate_load (ty := 56) rfl ?_); refine load_at rfl 56 _ rfl w.heap.size 0 rfl (pageC p) _ (HBK2.out.range 0 (pageC p) [] (by simp)) Try.underlying56 rfl HI56.out ?_) | fail)
    go_loopw [6, 7] (fun v i wr => ∃ x : Int, i = .int .i64 x ∧ Aside0 (0 ≤ x ∧ x ≤ 8) ∧ ∃ X k cx xs, v = .slice X k cx ∧ Aside0 (k = xs.length ∧ xs = be8 index ++ refsB (p.take x.toNat)) ∧ Aside0 (k ≤ cx ∧ Kd.C kb wr X k xs) ∧ Aside0 (Blk wr w.heap.size (pageC p).toArray 58) ∧ Aside0 (Ext w wr)) (fun _ i _ => 8 - (intOf i).toNat)
    case atStart => exact ⟨0, rfl, ⟨by decide⟩, X, 8, cx, be8 index, rfl, ⟨rfl, by simp [refsB]⟩, HC2, HBK2, HE2⟩
    case round =>
      clear HC2 HBK2 HE2
      obtain ⟨x, rfl, HX, X, k, cx, xs, rfl, HXS, HCX, HBK, HE⟩ := hrel
      obtain ⟨g0, g1⟩ := HX.out
      by_cases hlt : x < 8
      · have HLT := Aside0.mk hlt
        have hxl : x.toNat < p.length := by rw [HP.out.1]; omega
        have hok := HP.out.2 _ (List.getElem_mem hxl)
        have hix := index_page p HP.out x g0 hlt _ (List.getElem?_eq_getElem hxl)
        have hrg := page_range HP.out.2 (HBK.out.range 0 (pageC p) [] (by simp)) x.toNat hxl
        rw [Nat.zero_add] at hrg
        have htk := refsB_take p x.toNat _ (List.getElem?_eq_getElem hxl)
        have hkl : k ≤ 400 := by
          have h1 := HXS.out
          rw [h1.1, h1.2, List.length_append, be8_length, refsB_len _ (fun r hr => HP.out.2 r (List.mem_of_mem_take hr)), List.length_take]
          omega
        generalize p[x.toNat] = r at hok hix htk hrg
        have HIX := Aside0.mk hix
        have HTK := Aside0.mk htk
        have HRG := Aside0.mk hrg
        have HOK := Aside0.mk hok
        have HI := Aside0.mk (show (Try.prog.info? 26).map (·.size) = some (refC r.1 r.2).length by rw [refC_length hok]; kernel_rfl)
        have HSZ := Aside0.mk (show 33 = (refC r.1 r.2).length from (refC_length hok).symm)
        clear hok hix htk hxl hrg
        obtain ⟨wx, hwx⟩ : ∃ wx : World, wx = wr := ⟨_, rfl⟩
        subst hwx
        have HE5 := HE
        have HC5 := HCX
        have HBK5 := HBK
        go_wp2_with (first | ((with_reducible refine gate_load (ty := 26) rfl ?_); refine load_at rfl 26 _ rfl w.heap.size (x.toNat * 33) rfl (refC r.1 r.2) _ HRG.out Try.underlying26 rfl HI.out ?_) | fail)
        refine (rref_n wx X cx k xs r.2 r.1 HXS.out.1 HC5.out.2 HC5.out.1 _ rfl HOK.out.2.1 (by omega)).mono ?_
        rintro e w7 ⟨V, rfl, hV, hE7⟩
        obtain ⟨X', c', rfl, hc', hC'⟩ := hV.reads
        generalize hys : xs ++ refB r.1 r.2 = ys at hC' hc' ⊢
        generalize hkk : ys.length = kk at hC' hc' ⊢
        have HNX := Aside0.mk (show kk = ys.length ∧ ys = be8 index ++ refsB (p.take (x + 1).toNat) by
          refine ⟨hkk.symm, ?_⟩
          rw [show (x + 1).toNat = x.toNat + 1 by omega, HTK.out, ← hys, HXS.out.2, List.append_assoc])
        have HNC := Aside0.mk (show kk ≤ c' ∧ Kd.C kb w7 X' kk ys from ⟨hc', hC'⟩)
        have HNE := Aside0.mk (HE5.out.trans hE7)
        have HNB := Aside0.mk (HBK5.out.ext hE7)
        clear hV hE7 hc' hC' hys hkk
        go_wp2
        go_roundw
        case rel => exact ⟨x + 1, rfl, ⟨by omega, by have := HLT.out; omega⟩, X', kk, c', ys, rfl, HNX, HNC, HNB, HNE⟩
        case measure => have := HLT.out; simp only [intOf]; omega
      · have hx : x = 8 := by omega
        subst hx
        have HF := Aside0.mk (show xs = nodeB index p by
          rw [HXS.out.2, List.take_of_length_le (by rw [HP.out.1]; decide)]
          rfl)
        go_wp2
        go_ret2
        rw [(put_yes HM.out).1, (put_yes HM.out).2]
        exact ⟨_, _, rfl, rfl, ⟨X, k, cx, rfl, by rw [← HF.out]; exact HXS.out.1, HCX.out.1, by rw [← HF.out]; exact HCX.out.2⟩, HE.out⟩
end Go.Proofs.Ytkjjkahdmlfflaa.By

/- '==' of nodes. -/
namespace Go.Proofs.Ytkjjkahdmlfflaa.By
open Go.RowKit Go.Proofs.Ytkjjkahdmlfflaa.Reg Go.Proofs.YtkjjkahdmlfflaaW.PrintWords Go.Proofs.YtkjjkahdmlfflaaW.PrintLast Go.Proofs.YtkjjkahdmlfflaaW.PrintMore
set_option linter.unusedVariables false

def refL (r : Rf) : List Lit := .int .i64 r.1 :: lits r.2
theorem refL_len {r : Rf} (h : Rf.ok r) : (refL r).length = 33 := by simp [refL, lits, h.2.1]
theorem refL_inj {r s : Rf} (h : refL r = refL s) : r = s := by
  unfold refL at h
  rw [List.cons.injEq, lits_inj] at h
  obtain ⟨h1, h2⟩ := h
  injection h1 with _ h1
  exact Prod.ext h1 h2
theorem flatL_inj : ∀ (p q : List Rf), (∀ r ∈ p, Rf.ok r) → (∀ r ∈ q, Rf.ok r) → p.length = q.length → p.flatMap refL = q.flatMap refL → p = q
  | [], [], _, _, _, _ => rfl
  | [], _ :: _, _, _, h, _ => by simp at h
  | _ :: _, [], _, _, h, _ => by simp at h
  | r :: p, s :: q, hp, hq, hl, h => by
    rw [List.flatMap_cons, List.flatMap_cons] at h
    obtain ⟨h1, h2⟩ := List.append_inj h (by rw [refL_len (hp r (by simp)), refL_len (hq s (by simp))])
    rw [refL_inj h1, flatL_inj p q (fun x hx => hp x (by simp [hx])) (fun x hx => hq x (by simp [hx])) (by simpa using hl) h2]
theorem map_range_get (p : List Rf) (n : Nat) (h : p.length = n) : ((List.range n).map fun i => refL (p.getD i zeroR)).flatten = p.flatMap refL := by
  have : (List.range n).map (fun i => refL (p.getD i zeroR)) = p.map refL := by
    apply List.ext_getElem
    · simp [h]
    · intro i h1 h2
      have hi : i < p.length := by simpa using h2
      simp [List.getD_eq_getElem?_getD, List.getElem?_eq_getElem hi]
  rw [this, List.flatMap_def]
theorem keyLits_arr (d : Nat) (p : List Rf) (hp : Pok p) : Try.prog.keyLits (d + 4) 56 (pageC p) = some (p.flatMap refL) := by
  unfold Program.keyLits
  rw [Try.underlying56]
  simp only []
  have hc : Try.prog.cellsOf 56 = 264 := by kernel_rfl
  have h26 : Try.prog.cellsOf 26 = 33 := by kernel_rfl
  rw [if_pos (by rw [pageC_length p hp.2, hp.1, hc]), h26]
  rw [mapM_some _ (fun i : Nat => refL (p.getD i zeroR)) (List.range 8) ?_]
  · rw [Option.map_some, map_range_get p 8 hp.1]
  · intro i hi
    have hi' : i < p.length := by rw [hp.1]; exact List.mem_range.1 hi
    have hok := hp.2 _ (List.getElem_mem hi')
    rw [flat_cut p hp.2 i hi', keyLits_ref d _ _ (rf_wf hok) hok.2.1 hok.2.2]
    simp [refL, List.getD_eq_getElem?_getD, List.getElem?_eq_getElem hi']
theorem keyLits_page (d : Nat) (p : List Rf) (hp : Pok p) : Try.prog.keyLits (d + 5) 58 (pageC p) = some (p.flatMap refL) := by
  unfold Program.keyLits
  rw [Try.underlying58]
  simp only []
  have hc : Try.prog.cellsOf 58 = 264 := by kernel_rfl
  have h56 : Try.prog.cellsOf 56 = 264 := by kernel_rfl
  rw [if_pos ⟨by rw [pageC_length p hp.2, hp.1, hc], by kernel_rfl⟩]
  simp only [List.mapM_cons, List.mapM_nil, h56]
  rw [List.drop_zero, List.take_of_length_le (by rw [pageC_length p hp.2, hp.1]; decide), keyLits_arr d p hp]
  simp
theorem formed_page (t : TypeId) (ht : t = 56 ∨ t = 58) (p : List Rf) (hp : Pok p) : (pageV p).formed Try.prog t = true := by
  have hl := pageC_length p hp.2
  rw [hp.1] at hl
  rcases ht with rfl | rfl
  · simp only [pageV, Value.formed, Try.underlying56]
    have hc : Try.prog.cellsOf 56 = 264 := by kernel_rfl
    rw [hc]
    simp [hl]
  · simp only [pageV, Value.formed, Try.underlying58]
    have hc : Try.prog.cellsOf 58 = 264 := by kernel_rfl
    rw [hc]
    simp [hl]
theorem equal_arr (p q : List Rf) (hp : Pok p) (hq : Pok q) (w : World) : (Op.equal 56 (pageV p) (pageV q)).run Try.prog w = .ok (decide (p = q)) w := by
  obtain ⟨r, hr, hiff⟩ := run_equalIn_deep (P := Try.prog) 9996 4 56 (by kernel_rfl) w 4 4 (pageV p) (pageV q) _ _ (formed_page 56 (.inl rfl) p hp) (formed_page 56 (.inl rfl) q hq) (by simpa [pageV, Value.cells] using keyLits_arr 0 p hp) (by simpa [pageV, Value.cells] using keyLits_arr 0 q hq)
  have h2 : p.flatMap refL = q.flatMap refL ↔ p = q := ⟨flatL_inj p q hp.2 hq.2 (by rw [hp.1, hq.1]), fun h => by rw [h]⟩
  rw [h2] at hiff
  have : r = decide (p = q) := by
    cases r
    · simp at hiff; simp [hiff]
    · simp at hiff; simp [hiff]
  rw [← this]
  exact hr
theorem equal_page (p q : List Rf) (hp : Pok p) (hq : Pok q) (w : World) : (Op.equal 58 (pageV p) (pageV q)).run Try.prog w = .ok (decide (p = q)) w := by
  obtain ⟨r, hr, hiff⟩ := run_equalIn_deep (P := Try.prog) 9995 5 58 (by kernel_rfl) w 5 5 (pageV p) (pageV q) _ _ (formed_page 58 (.inr rfl) p hp) (formed_page 58 (.inr rfl) q hq) (by simpa [pageV, Value.cells] using keyLits_page 0 p hp) (by simpa [pageV, Value.cells] using keyLits_page 0 q hq)
  have h2 : p.flatMap refL = q.flatMap refL ↔ p = q := ⟨flatL_inj p q hp.2 hq.2 (by rw [hp.1, hq.1]), fun h => by rw [h]⟩
  rw [h2] at hiff
  have : r = decide (p = q) := by
    cases r
    · simp at hiff; simp [hiff]
    · simp at hiff; simp [hiff]
  rw [← this]
  exact hr
def zeroP : List Rf := List.replicate 8 zeroR
theorem zeroR_ok : Rf.ok zeroR := ⟨by decide, rfl, zero32_isB⟩
theorem zeroP_ok : Pok zeroP := ⟨rfl, fun r hr => by rw [List.eq_of_mem_replicate hr]; exact zeroR_ok⟩
theorem built_arr0 : Program.built Try.prog 56 [] = some (pageC zeroP).toArray := by kernel_rfl
theorem built_page0 : Program.built Try.prog 58 [] = some (pageC zeroP).toArray := by kernel_rfl
end Go.Proofs.Ytkjjkahdmlfflaa.By

/- Empty nodes. -/
namespace Go.Proofs.Ytkjjkahdmlfflaa.By
open Go.RowKit Go.Proofs.Ytkjjkahdmlfflaa.Reg Go.Proofs.YtkjjkahdmlfflaaW.PrintWords Go.Proofs.YtkjjkahdmlfflaaW.PrintLast Go.Proofs.YtkjjkahdmlfflaaW.PrintMore
set_option linter.unusedVariables false

set_option maxHeartbeats 2000000 in
theorem empty_calls (w : World) (p : List Rf) (hp : Pok p) (S : Value) (hS : S = pageV p) : Calls Try.prog 50 #[S] w fun e w' => e = .returned (.bool (decide (p = zeroP))) ∧ Ext w w' := by
  subst hS
  have HBK0 := Aside0.mk (Blk.new w (pageC p).toArray 58)
  have HE0 := Aside0.mk ((Ext.refl w).alloc (.cells (pageC p).toArray 58))
  have HI56 := Aside0.mk (wf_page hp).2
  have HQ := Aside0.mk (fun W => equal_arr p zeroP hp zeroP_ok W)
  unfold pageV
  clear hp
  generalize decide (p = zeroP) = B at *
  go_enter Try.func50, Try.ntmps50
  go_wp2_with (first | ((with_reducible refine gate_load (ty := 56) rfl ?_); refine load_at rfl 56 _ rfl w.heap.size 0 rfl (pageC p) _ (HBK0.out.range 0 (pageC p) [] (by simp)) Try.underlying56 rfl HI56.out ?_) | ((with_reducible refine gate_build (ty := 56) rfl ?_); (refine build_at rfl 56 #[] rfl (pageC zeroP).toArray [] rfl built_arr0 ?_)) | ((with_reducible refine gate_eql (ty := 56) rfl ?_); (refine eql_at rfl 56 56 _ _ rfl (pageC p).toArray (pageC zeroP).toArray rfl rfl (by kernel_rfl) B (HQ.out _) ?_)) | fail)
  go_ret
  exact ⟨rfl, HE0.out⟩

set_option maxHeartbeats 4000000 in
theorem rempty_calls (w : World) (p : List Rf) (hp : Pok p) (S : Value) (hS : S = pageV p) : Calls Try.prog 51 #[S] w fun e w' => e = .returned (.bool (decide (p = zeroP))) ∧ Ext w w' := by
  subst hS
  have HP := Aside0.mk hp
  have HBK := Aside0.mk (Blk.new w (pageC p).toArray 58)
  have HE0 := Aside0.mk ((Ext.refl w).alloc (.cells (pageC p).toArray 58))
  unfold pageV
  clear hp
  have hyes : (∀ j : Nat, (j : Int) < 8 → ∀ hj : j < p.length, p[j] = zeroR) → decide (p = zeroP) = true := by
    intro h
    apply decide_eq_true
    apply List.ext_getElem
    · rw [HP.out.1]; rfl
    · intro j h1 h2
      rw [h j (by have := HP.out.1; omega) h1]
      exact (List.eq_of_mem_replicate (List.getElem_mem h2)).symm
  have hno : ∀ r ∈ p, r ≠ zeroR → decide (p = zeroP) = false := by
    intro r hr hne
    apply decide_eq_false
    intro e
    rw [e] at hr
    exact hne (List.eq_of_mem_replicate hr)
  have HY := Aside0.mk hyes
  have HNO := Aside0.mk hno
  clear hyes hno
  generalize decide (p = zeroP) = B at *
  go_enter Try.func51, Try.ntmps51
  go_wp2_with fail
  generalize hw1 : w.alloc (.cells (pageC p).toArray 58) = w1 at *
  go_loopw [3] (fun i wr => ∃ x : Int, i = .int .i64 x ∧ Aside0 (0 ≤ x ∧ x ≤ 8) ∧ Aside0 (∀ j : Nat, j < x → ∀ hj : j < p.length, p[j] = zeroR) ∧ wr = w1) (fun i _ => 8 - (intOf i).toNat)
  case atStart => exact ⟨0, rfl, ⟨by decide⟩, ⟨fun j hj => by omega⟩, rfl⟩
  case round =>
    obtain ⟨x, rfl, HX, HALL, rfl⟩ := hrel
    obtain ⟨g0, g1⟩ := HX.out
    by_cases hlt : x < 8
    · have HLT := Aside0.mk hlt
      have hxl : x.toNat < p.length := by rw [HP.out.1]; omega
      have hok := HP.out.2 _ (List.getElem_mem hxl)
      have hrg := page_range HP.out.2 (HBK.out.range 0 (pageC p) [] (by simp)) x.toNat hxl
      rw [Nat.zero_add] at hrg
      have hnext : ∀ r, p[x.toNat] = r → r = zeroR → ∀ j : Nat, j < x + 1 → ∀ hj : j < p.length, p[j] = zeroR := by
        intro r hr hrr j hj hjl
        rcases Nat.lt_or_ge j x.toNat with h | h
        · exact HALL.out j (by omega) hjl
        · have : j = x.toNat := by omega
          subst this
          rw [hr]; exact hrr
      have hmem := List.getElem_mem hxl
      generalize hr : p[x.toNat] = r at hok hrg hnext hmem
      have HN := Aside0.mk (hnext r rfl)
      have HRG := Aside0.mk hrg
      have HNR := Aside0.mk (HNO.out r hmem)
      have HQ := Aside0.mk (fun W => refEq hok W)
      have HI := Aside0.mk (show (Try.prog.info? 26).map (·.size) = some (refC r.1 r.2).length by rw [refC_length hok]; kernel_rfl)
      clear hok hrg hnext hmem hr hxl HALL
      by_cases hz : r = zeroR
      · have HZ := Aside0.mk (decide_eq_true hz)
        have HN' := Aside0.mk (HN.out hz)
        clear hz
        go_wp2_with (first | ((with_reducible refine gate_load (ty := 26) rfl ?_); refine load_at rfl 26 _ rfl w.heap.size (x.toNat * 33) rfl (refC r.1 r.2) _ HRG.out Try.underlying26 rfl HI.out ?_) | ((with_reducible refine gate_build (ty := 26) rfl ?_); (refine build_at rfl 26 #[] rfl (refC 0 zero32).toArray [] rfl built_zero ?_)) | ((with_reducible refine gate_neq (ty := 26) rfl ?_); (refine neq_at rfl 26 26 _ _ rfl (refC r.1 r.2).toArray (refC 0 zero32).toArray rfl rfl (by kernel_rfl) true (by have := HQ.out wr; rwa [HZ.out] at this) ?_)) | fail)
        go_roundw
        case rel => exact ⟨x + 1, rfl, ⟨by omega, by have := HLT.out; omega⟩, HN', by first | rfl | trivial⟩
        case measure => have := HLT.out; simp only [intOf]; omega
      · have HZ := Aside0.mk (decide_eq_false hz)
        have hB := HNR.out hz
        subst hB
        clear hz
        go_wp2_with (first | ((with_reducible refine gate_load (ty := 26) rfl ?_); refine load_at rfl 26 _ rfl w.heap.size (x.toNat * 33) rfl (refC r.1 r.2) _ HRG.out Try.underlying26 rfl HI.out ?_) | ((with_reducible refine gate_build (ty := 26) rfl ?_); (refine build_at rfl 26 #[] rfl (refC 0 zero32).toArray [] rfl built_zero ?_)) | ((with_reducible refine gate_neq (ty := 26) rfl ?_); (refine neq_at rfl 26 26 _ _ rfl (refC r.1 r.2).toArray (refC 0 zero32).toArray rfl rfl (by kernel_rfl) false (by have := HQ.out wr; rwa [HZ.out] at this) ?_)) | fail)
        go_ret
        exact ⟨rfl, HE0.out⟩
    · have hx : x = 8 := by omega
      subst hx
      have hB := HY.out HALL.out
      subst hB
      go_wp2
      go_ret
      exact ⟨rfl, HE0.out⟩
end Go.Proofs.Ytkjjkahdmlfflaa.By
