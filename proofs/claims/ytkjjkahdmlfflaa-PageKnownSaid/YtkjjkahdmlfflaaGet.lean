/- The contracts of the two Get functions. -/
import Derived.Test.YtkjjkahdmlfflaaGetF
namespace Go.Proofs.Ytkjjkahdmlfflaa.By
open Go.RowKit Go.Proofs.Ytkjjkahdmlfflaa.Reg Go.Proofs.YtkjjkahdmlfflaaW.PrintWords Go.Proofs.YtkjjkahdmlfflaaW.PrintLast Go.Proofs.YtkjjkahdmlfflaaW.PrintMore
set_option linter.unusedVariables false

theorem pageC_app (l m : List Rf) : pageC (l ++ m) = pageC l ++ pageC m := by simp [pageC, List.flatMap_append]
theorem pageC_one (r : Rf) : pageC [r] = refC r.1 r.2 := by simp [pageC]
theorem page_splice (l m : List Rf) (x r : Rf) (hl : ∀ r ∈ l, Rf.ok r) (hx : Rf.ok x) (hr : Rf.ok r) : splice (pageC (l ++ x :: m)).toArray (l.length * 33) (refC r.1 r.2) = (pageC (l ++ r :: m)).toArray := by
  have e : ∀ y : Rf, pageC (l ++ y :: m) = pageC l ++ refC y.1 y.2 ++ pageC m := by
    intro y
    rw [show l ++ y :: m = l ++ ([y] ++ m) by simp, pageC_app, pageC_app, pageC_one, List.append_assoc]
  rw [e, e, ← pageC_length l hl]
  exact splice_mid _ _ _ _ (by rw [refC_length hx, refC_length hr])
theorem results_tcb {P : Program} {fn : Func} {t p u : Tmp} {ty : TypeId} (h : fn.results = #[.tmp t, .cell p ty, .tmp u]) (tmps : Array Value) (w : World) (g : Nat) (tt : TypeId) (cs : Array Value) (fr : Nat × Nat) (d : TypeDesc)
    (hp : tmps.getD p undef = .pointer (some ⟨g, 0, none⟩)) (hg : w.heap[g]? = some (.cells cs tt fr))
    (hu : P.underlying ty = some d) (hd : (match d with | .struct _ | .array _ _ => true | _ => false) = true) (hi : (P.info? ty).map (·.size) = some cs.size) :
    (results fn tmps).run P w = .ok (.tuple #[tmps.getD t undef, .agg cs, tmps.getD u undef]) w := by
  have hp' : tmps[p]?.getD undef = .pointer (some ⟨g, 0, none⟩) := by simpa using hp
  simp [results, h, hp', asAddr, run_loadVar_row w g tt ty cs fr d hg hu hd hi]
theorem one_page (p : List Rf) : ∀ v ∈ pageC p, v.oneCell' = true := by
  intro v hv
  obtain ⟨r, _, h⟩ := List.mem_flatMap.1 hv
  exact one_ref _ _ v h
/-- What Get answers. -/
def getI (bs : List Int) : RS := (tkRefs 8 (tkInt (bs, false)).2).2
def getE (bs : List Int) : Int := if endI (getI bs).1 (getI bs).2 = 0 then (if mayB (tkInt (bs, false)).1 (tkRefs 8 (tkInt (bs, false)).2).1 = true then 0 else 7) else endI (getI bs).1 (getI bs).2
def getN (bs : List Int) : Int := if getE bs = 0 then (tkInt (bs, false)).1 else 0
def getP (bs : List Int) : List Rf := if getE bs = 0 then (tkRefs 8 (tkInt (bs, false)).2).1 else zeroP

set_option maxRecDepth 100000 in
set_option maxHeartbeats 8000000 in
theorem get_calls (w : World) (A : Option Addr) (c n : Nat) (bs : List Int) (hn : n = bs.length) (hr : Kd.C kb w A n bs) (hc : n ≤ c) (hB : isB bs) (hl : n ≤ 140737488355328) :
    Calls Try.prog 44 #[.slice A n c] w fun e w' => e = .returned (.tuple #[.int .i64 (getN bs), pageV (getP bs), .int .i64 (getE bs)]) ∧ Ext w w' := by
  have hk0 := Blk.new w (pageC zeroP).toArray 58
  have hx0 := (Ext.refl w).alloc (.cells (pageC zeroP).toArray 58)
  have HR := Aside0.mk (Kd.C_below hr hx0)
  have HN := Aside0.mk hn
  have HB := Aside0.mk hB
  have HK0 := Aside0.mk hk0
  have HX0 := Aside0.mk hx0
  clear hr hn hB hk0 hx0
  go_enter Try.func44, Try.ntmps44
  go_wp2_with fail
  refine (read_calls _ A c n bs HN.out HR.out hc hl).mono ?_
  rintro e w1 ⟨b1, rfl, hRd, hE1⟩
  have HRd := Aside0.mk hRd
  have HE1 := Aside0.mk (HX0.out.trans hE1)
  have HK1 := Aside0.mk (HK0.out.ext hE1)
  have HLO := Aside0.mk (show w.heap.size < (w.alloc (.cells (pageC zeroP).toArray 58)).heap.size by rw [size_alloc]; omega)
  generalize (w.alloc (.cells (pageC zeroP).toArray 58)).heap.size = lo at hRd HRd HLO
  obtain ⟨hi, hhi⟩ : ∃ hi, hi = w1.heap.size := ⟨_, rfl⟩
  rw [← hhi] at HRd
  have HHI := Aside0.mk hhi
  clear hRd hE1 hhi HR HK0 HX0
  go_wp2_with fail
  refine (tkint_calls w1 lo hi b1 (bs, false) HRd.out HB.out).mono ?_
  rintro e w2 ⟨rfl, hRd, hT⟩
  have HRd2 := Aside0.mk hRd
  have HE2 := Aside0.mk (hT.ext HE1.out (Nat.le_of_lt HLO.out))
  have HK2 := Aside0.mk (hT.blk HK1.out (by have := HLO.out; omega))
  have HH2 := Aside0.mk (show hi ≤ w2.heap.size by rw [HHI.out]; exact hT.size)
  have HB1 := Aside0.mk (show isB (tkInt (bs, false)).2.1 from tkInt_isB HB.out)
  have HW2 := Aside0.mk (show w.heap.size < w2.heap.size from HK2.out.lt)
  clear hRd hT HRd HE1 HK1
  have HX2 := Aside0.mk ((Ext.refl w2).alloc (.cells (pageC zeroP).toArray 58))
  have HP2 := Aside0.mk (Blk.new w2 (pageC zeroP).toArray 58)
  have HR3 := Aside0.mk (HRd2.out.ext HX2.out)
  have HK3 := Aside0.mk (HK2.out.ext HX2.out)
  have HE3 := Aside0.mk (HE2.out.trans HX2.out)
  clear HRd2 HK2 HE2 HX2
  obtain ⟨s1, hs1⟩ : ∃ s1, s1 = (tkInt (bs, false)).2 := ⟨_, rfl⟩
  rw [← hs1] at HR3 HB1
  have HS1 := Aside0.mk hs1
  clear hs1
  generalize hN : (tkInt (bs, false)).1 = N at *
  have HNN := Aside0.mk hN
  clear hN
  go_wp2_with fail
  go_loopw [14] (fun i wr => ∃ x : Int, i = .int .i64 x ∧ Aside0 (0 ≤ x ∧ x ≤ 8) ∧ Aside0 (Rd wr lo hi b1 (tkRefs x.toNat s1).2.1 (tkRefs x.toNat s1).2.2) ∧ Aside0 (Blk wr w2.heap.size (pageC ((tkRefs x.toNat s1).1 ++ List.replicate (8 - x.toNat) zeroR)).toArray 58) ∧ Aside0 (Blk wr w.heap.size (pageC zeroP).toArray 58) ∧ Aside0 (Ext w wr)) (fun i _ => 8 - (intOf i).toNat)
  case atStart => exact ⟨0, rfl, ⟨by decide⟩, HR3, HP2, HK3, HE3⟩
  case round =>
    clear HR3 HP2 HK3 HE3
    obtain ⟨x, rfl, HX, HRx, HPx, HKx, HEx⟩ := hrel
    obtain ⟨g0, g1⟩ := HX.out
    by_cases hlt : x < 8
    · have HLT := Aside0.mk hlt
      have hok := tkRefs_ok x.toNat s1 HB1.out
      have HOK := Aside0.mk hok
      have hr := tkRef_ok hok.2.2
      have HRO := Aside0.mk hr.1
      have HI := Aside0.mk (show (Try.prog.info? 26).map (·.size) = some (refC (tkRef (tkRefs x.toNat s1).2).1.1 (tkRef (tkRefs x.toNat s1).2).1.2).length by rw [refC_length hr.1]; kernel_rfl)
      clear hok hr
      obtain ⟨wx, hwx⟩ : ∃ wx : World, wx = wr := ⟨_, rfl⟩
      subst hwx
      go_wp2_with fail
      refine (tkref_calls wx lo hi b1 (tkRefs x.toNat s1).2 HRx.out HOK.out.2.2).mono ?_
      rintro e w6 ⟨rfl, hRd, hT⟩
      have HR6 := Aside0.mk hRd
      have HE6 := Aside0.mk (hT.ext HEx.out (Nat.le_of_lt HLO.out))
      have HK6 := Aside0.mk (hT.blk HKx.out (by have := HLO.out; omega))
      have HP6 := Aside0.mk (hT.blk HPx.out (by have := HH2.out; omega))
      clear hRd hT HRx HEx HKx HPx
      go_wp2_with (first | ((with_reducible refine gate_store (ty := 26) rfl ?_); (refine store_mid_at rfl 26 _ _ rfl w2.heap.size (x.toNat * 33) (refC (tkRef (tkRefs x.toNat s1).2).1.1 (tkRef (tkRefs x.toNat s1).2).1.2) rfl rfl _ 58 HP6.out ?c1 HI.out (one_ref _ _) ?_)) | fail)
      case c1 =>
        have h1 := HOK.out.1
        rw [refC_length HRO.out]
        show _ ≤ (pageC _).length
        rw [pageC_length _ (fun r hr => by
          rcases List.mem_append.1 hr with hr | hr
          · exact HOK.out.2.1 r hr
          · rw [List.eq_of_mem_replicate hr]; exact zeroR_ok), List.length_append, h1, List.length_replicate]
        omega
      intro w7 hW hB7
      have HP7 := Aside0.mk (show Blk w7 w2.heap.size (pageC ((tkRefs (x + 1).toNat s1).1 ++ List.replicate (8 - (x + 1).toNat) zeroR)).toArray 58 by
        rw [show (x + 1).toNat = x.toNat + 1 by omega]
        rw [show List.replicate (8 - x.toNat) zeroR = zeroR :: List.replicate (8 - (x.toNat + 1)) zeroR by rw [show 8 - x.toNat = (8 - (x.toNat + 1)) + 1 by omega]; rfl] at hB7
        have hs := page_splice (tkRefs x.toNat s1).1 (List.replicate (8 - (x.toNat + 1)) zeroR) zeroR (tkRef (tkRefs x.toNat s1).2).1 HOK.out.2.1 zeroR_ok HRO.out
        rw [HOK.out.1] at hs
        rw [hs] at hB7
        rw [show (tkRefs (x.toNat + 1) s1).1 = (tkRefs x.toNat s1).1 ++ [(tkRef (tkRefs x.toNat s1).2).1] from rfl, List.append_assoc]
        exact hB7)
      have HR7 := Aside0.mk (show Rd w7 lo hi b1 (tkRefs (x + 1).toNat s1).2.1 (tkRefs (x + 1).toNat s1).2.2 by
        rw [show (x + 1).toNat = x.toNat + 1 by omega]
        exact HR6.out.tch (Tch.of_wrote hW (Nat.le_refl _) (Nat.lt_succ_self _)) (.inl HH2.out))
      have HK7 := Aside0.mk (HK6.out.wrote hW (by have := HW2.out; omega))
      have HE7 := Aside0.mk (hW.ext HE6.out (Nat.le_of_lt HW2.out))
      clear hW hB7 HR6 HE6 HK6 HP6
      go_wp2
      go_roundw
      case rel => exact ⟨x + 1, rfl, ⟨by omega, by have := HLT.out; omega⟩, HR7, HP7, HK7, HE7⟩
      case measure => have := HLT.out; simp only [intOf]; omega
    · have hx : x = 8 := by omega
      subst hx
      have hok := tkRefs_ok 8 s1 HB1.out
      have HPK := Aside0.mk (show Pok (tkRefs 8 s1).1 from ⟨hok.1, hok.2.1⟩)
      have HPx' := Aside0.mk (show Blk wr w2.heap.size (pageC (tkRefs 8 s1).1).toArray 58 by
        have := HPx.out
        rwa [show (8 : Int).toNat = 8 from rfl, show List.replicate (8 - 8) zeroR = [] from rfl, List.append_nil] at this)
      have HRx' := Aside0.mk (show Rd wr lo hi b1 (tkRefs 8 s1).2.1 (tkRefs 8 s1).2.2 from HRx.out)
      clear hok HPx HRx
      go_wp2_with fail
      refine (end_calls wr lo hi b1 _ _ HRx'.out).mono ?_
      rintro e w6 ⟨rfl, hE⟩
      have HE6 := Aside0.mk (HEx.out.trans hE)
      have HK6 := Aside0.mk (HKx.out.ext hE)
      have HP6 := Aside0.mk (HPx'.out.ext hE)
      clear hE HEx HKx HPx' HRx'
      have HIZ := Aside0.mk (wf_page zeroP_ok).1
      have HIR := Aside0.mk (wf_page HPK.out).1
      have hEe : endI (getI bs).1 (getI bs).2 = endI (tkRefs 8 s1).2.1 (tkRefs 8 s1).2.2 := by unfold getI; rw [← HS1.out]
      have hgE : getE bs = if endI (tkRefs 8 s1).2.1 (tkRefs 8 s1).2.2 = 0 then (if mayB N (tkRefs 8 s1).1 = true then 0 else 7) else endI (tkRefs 8 s1).2.1 (tkRefs 8 s1).2.2 := by unfold getE; rw [hEe, HNN.out, ← HS1.out]
      have hgN : getN bs = if getE bs = 0 then N else 0 := by unfold getN; rw [HNN.out]
      have hgP : getP bs = if getE bs = 0 then (tkRefs 8 s1).1 else zeroP := by unfold getP; rw [← HS1.out]
      clear hEe
      generalize endI (tkRefs 8 s1).2.1 (tkRefs 8 s1).2.2 = E at hgE ⊢
      generalize (tkRefs 8 s1).1 = pg at *
      by_cases hE0 : E = 0
      · subst hE0
        rw [if_pos rfl] at hgE
        have HGE := Aside0.mk hgE
        have HGN := Aside0.mk hgN
        have HGP := Aside0.mk hgP
        clear hgE hgN hgP
        go_wp2_with (first | ((with_reducible refine gate_load (ty := 58) rfl ?_); refine load_at rfl 58 _ rfl w2.heap.size 0 rfl (pageC pg) _ (HP6.out.range 0 (pageC pg) [] (by simp)) Try.underlying58 rfl HIR.out ?_) | fail)
        refine (right_calls w6 N pg HPK.out _ rfl).mono ?_
        rintro e w7 ⟨rfl, hE⟩
        have HE7 := Aside0.mk (HE6.out.trans hE)
        have HK7 := Aside0.mk (HK6.out.ext hE)
        have HP7 := Aside0.mk (HP6.out.ext hE)
        clear hE HE6 HK6 HP6
        cases hm : mayB N pg with
        | false =>
          have HG := Aside0.mk (show getE bs = 7 ∧ getN bs = 0 ∧ getP bs = zeroP by
            have h1 : getE bs = 7 := by rw [HGE.out, if_neg (by rw [hm]; decide)]
            exact ⟨h1, by rw [HGN.out, h1, if_neg (by decide)], by rw [HGP.out, h1, if_neg (by decide)]⟩)
          clear hm
          go_wp2_with (first | ((with_reducible refine gate_build (ty := 58) rfl ?_); (refine build_at rfl 58 #[] rfl (pageC zeroP).toArray [] rfl built_page0 ?_)) | ((with_reducible refine gate_store (ty := 58) rfl ?_); (refine store_at rfl 58 _ _ rfl w.heap.size (pageC zeroP) rfl rfl _ 58 HK7.out rfl HIZ.out (one_page _) ?_)) | fail)
          intro w9 hW hB9
          have HE9 := Aside0.mk (hW.ext HE7.out (Nat.le_refl _))
          clear hW
          go_wp2
          (try simp only [Exit.inBlock, Exit.then])
          refine bodyPost_ret (results_tcb rfl _ _ w.heap.size 58 (pageC zeroP).toArray (0, 0) _ rfl hB9.is Try.underlying58 rfl (by simpa using HIZ.out)) rfl ?_
          rw [HG.out.1, HG.out.2.1, HG.out.2.2]
          exact ⟨rfl, HE9.out⟩
        | true =>
          have HG := Aside0.mk (show getE bs = 0 ∧ getN bs = N ∧ getP bs = pg by
            have h1 : getE bs = 0 := by rw [HGE.out, if_pos hm]
            exact ⟨h1, by rw [HGN.out, h1, if_pos rfl], by rw [HGP.out, h1, if_pos rfl]⟩)
          clear hm
          go_wp2_with fail
          apply wp_region_facts 3 [RF.val (.int .i64 N), RF.val (pageV pg), RF.val (.int .i64 N)] (by kernel_rfl) (by kernel_rfl)
          simp only [List.take_succ_cons, List.take_zero, List.zip_cons_cons, List.zip_nil_left]
          apply wpF_val rfl; (intro w' hE hD; unfold Yld; go_simp; exact ⟨Ext.refl _, rfl⟩); (try simp only [Act.put, List.setIfInBounds_toArray, List.set_cons_zero, List.set_cons_succ])
          apply wpF_val rfl; (intro w' hE hD; exact Yld_load 58 (.tmp 7) rfl w2.heap.size 0 rfl (pageC pg) _ ((HP7.out.ext hE).range 0 (pageC pg) [] (by simp)) Try.underlying58 rfl HIR.out); (try simp only [Act.put, List.setIfInBounds_toArray, List.set_cons_zero, List.set_cons_succ])
          apply wpF_val rfl; (intro w' hE hD; unfold Yld; go_simp; exact ⟨Ext.refl _, rfl⟩); (try simp only [Act.put, List.setIfInBounds_toArray, List.set_cons_zero, List.set_cons_succ])
          refine wpF_nil fun w8 hE hA => ?_
          have HE8 := Aside0.mk (HE7.out.trans hE)
          have HK8 := Aside0.mk (HK7.out.ext hE)
          have HSZ := Aside0.mk (show (pageC zeroP).toArray.size = (pageC pg).length by rw [show (pageC zeroP).toArray.size = (pageC zeroP).length from rfl, pageC_length pg HPK.out.2, HPK.out.1, pageC_length zeroP zeroP_ok.2]; rfl)
          clear hA hE HE7 HK7 HP7
          simp only [List.drop_succ_cons, List.drop_zero]
          go_wp2_with (first | ((with_reducible refine gate_store (ty := 58) rfl ?_); (refine store_at rfl 58 _ _ rfl w.heap.size (pageC pg) rfl rfl _ 58 HK8.out HSZ.out HIR.out (one_page _) ?_)) | fail)
          intro w9 hW hB9
          have HE9 := Aside0.mk (hW.ext HE8.out (Nat.le_refl _))
          clear hW
          go_wp2
          (try simp only [Exit.inBlock, Exit.then])
          refine bodyPost_ret (results_tcb rfl _ _ w.heap.size 58 (pageC pg).toArray (0, 0) _ rfl hB9.is Try.underlying58 rfl (by simpa using HIR.out)) rfl ?_
          rw [HG.out.1, HG.out.2.1, HG.out.2.2]
          exact ⟨rfl, HE9.out⟩
      · rw [if_neg hE0] at hgE
        have HG := Aside0.mk (show getE bs = E ∧ getN bs = 0 ∧ getP bs = zeroP from ⟨hgE, by rw [hgN, hgE, if_neg hE0], by rw [hgP, hgE, if_neg hE0]⟩)
        clear hgE hgN hgP
        have hE0' : (E = 0) = False := eq_false hE0
        go_wp2_with (first | ((with_reducible refine gate_build (ty := 58) rfl ?_); (refine build_at rfl 58 #[] rfl (pageC zeroP).toArray [] rfl built_page0 ?_)) | ((with_reducible refine gate_store (ty := 58) rfl ?_); (refine store_at rfl 58 _ _ rfl w.heap.size (pageC zeroP) rfl rfl _ 58 HK6.out rfl HIZ.out (one_page _) ?_)) | fail)
        intro w9 hW hB9
        have HE9 := Aside0.mk (hW.ext HE6.out (Nat.le_refl _))
        clear hW
        go_wp2
        (try simp only [Exit.inBlock, Exit.then])
        refine bodyPost_ret (results_tcb rfl _ _ w.heap.size 58 (pageC zeroP).toArray (0, 0) _ rfl hB9.is Try.underlying58 rfl (by simpa using HIZ.out)) rfl ?_
        rw [HG.out.1, HG.out.2.1, HG.out.2.2]
        exact ⟨rfl, HE9.out⟩
end Go.Proofs.Ytkjjkahdmlfflaa.By
