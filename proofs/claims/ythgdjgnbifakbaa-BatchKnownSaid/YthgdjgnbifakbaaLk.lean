/- Plain law: a cut of what Put lays down is refused with 4. -/
import Derived.Test.YthgdjgnbifakbaaLc
import Derived.Test.YthgdjgnbifakbaaLe
namespace Go.Proofs.Ythgdjgnbifakbaa.By
open Go.RowKit Go.Proofs.Ythgdjgnbifakbaa.Reg Go.Proofs.YthgdjgnbifakbaaW.PrintWords Go.Proofs.YthgdjgnbifakbaaW.PrintLast Go.Proofs.YthgdjgnbifakbaaW.PrintMore
set_option linter.unusedVariables false
set_option linter.unusedSimpArgs false


theorem g_head (st nx m : Int) (pr rest : List Int) (hst : -9223372036854775808 ≤ st ∧ st ≤ 9223372036854775807) (hnx : -9223372036854775808 ≤ nx ∧ nx ≤ 9223372036854775807) (hm : -9223372036854775808 ≤ m ∧ m ≤ 9223372036854775807) (hp : pr.length = 32) :
    g4 (headB st pr nx m ++ rest) = (m, rest, false) := by
  have h1 : g1 (headB st pr nx m ++ rest) = (st, pr ++ be8 nx ++ be8 m ++ rest, false) := by
    unfold g1
    rw [show headB st pr nx m ++ rest = be8 st ++ (pr ++ be8 nx ++ be8 m ++ rest) by simp [headB], tk_be8 st _ hst]
  have h2 : g2 (headB st pr nx m ++ rest) = (pr, be8 nx ++ be8 m ++ rest, false) := by
    unfold g2
    rw [h1, show pr ++ be8 nx ++ be8 m ++ rest = pr ++ (be8 nx ++ be8 m ++ rest) by simp, tk_sum pr _ hp]
  have h3 : g3 (headB st pr nx m ++ rest) = (nx, be8 m ++ rest, false) := by
    unfold g3
    rw [h2, show be8 nx ++ be8 m ++ rest = be8 nx ++ (be8 m ++ rest) by simp, tk_be8 nx _ hnx]
  unfold g4
  rw [h3, tk_be8 m _ hm]
/-- What Get read with no bad reader. -/
theorem g_whole {bs : List Int} (hB : isB bs) (hb : (gR bs).2.2 = false) : bs.length = 56 + 56 * (g4 bs).1.toNat + (gR bs).2.1.length := by
  obtain ⟨i1, i2, i3, i4⟩ := g_isB hB
  obtain ⟨k5, e5⟩ := tkEs_back i4 _ (show (tkEs (g4 bs).1.toNat (g4 bs).2).2.2 = false from hb)
  obtain ⟨k4, e4⟩ := tkInt_back i3 (show (tkInt (g3 bs).2).2.2 = false from k5)
  obtain ⟨k3, e3⟩ := tkInt_back i2 (show (tkInt (g2 bs).2).2.2 = false from k4)
  obtain ⟨k2, e2⟩ := tkSum_back (show (tkSum (g1 bs).2).2.2 = false from k3)
  obtain ⟨k1, e1⟩ := tkInt_back (s := (bs, false)) hB (show (tkInt (bs, false)).2.2 = false from k2)
  have f5 : (g4 bs).2.1 = allE (gR bs).1 ++ (gR bs).2.1 := e5
  have f4 : (g3 bs).2.1 = be8 (g4 bs).1 ++ (g4 bs).2.1 := e4
  have f3 : (g2 bs).2.1 = be8 (g3 bs).1 ++ (g3 bs).2.1 := e3
  have f2 : (g1 bs).2.1 = (g2 bs).1 ++ (g2 bs).2.1 := e2
  have f1 : bs = be8 (g1 bs).1 ++ (g1 bs).2.1 := e1
  have hg := g_ok hB
  have l5 := congrArg List.length f5
  have l4 := congrArg List.length f4
  have l3 := congrArg List.length f3
  have l2 := congrArg List.length f2
  have l1 := congrArg List.length f1
  rw [List.length_append, allE_len _ hg.2.2.1, hg.2.2.2] at l5
  rw [List.length_append, be8_length] at l4 l3 l1
  rw [List.length_append, hg.1] at l2
  omega
theorem get_less (st nx : Int) (pr : List Int) (es : List Th) (hst : -9223372036854775808 ≤ st ∧ st ≤ 9223372036854775807) (hnx : -9223372036854775808 ≤ nx ∧ nx ≤ 9223372036854775807) (hp : pr.length = 32) (hpB : isB pr) (hes : ∀ e ∈ es, Th.ok e) (hl : es.length ≤ 100000)
    (k : Nat) (hk : k < 56 + 56 * es.length) : gE ((smyB st pr nx es).take k) = 4 := by
  have hB : isB ((smyB st pr nx es).take k) := (smyB_isB (st := st) (nx := nx) hpB hes).take k
  have hlen : ((smyB st pr nx es).take k).length = k := by rw [List.length_take, smyB_len hp hes]; omega
  by_cases hf : gForm ((smyB st pr nx es).take k) = true
  · unfold gE; rw [if_pos hf]
  have hb : (gR ((smyB st pr nx es).take k)).2.2 = true := by
    cases hb : (gR ((smyB st pr nx es).take k)).2.2 with
    | true => rfl
    | false =>
      exfalso
      have hw := g_whole hB hb
      rw [hlen] at hw
      have h56 : 56 ≤ k := by omega
      have hh := headB_len st nx es.length hp
      have e : (smyB st pr nx es).take k = headB st pr nx es.length ++ (allE es).take (k - 56) := by
        unfold smyB
        rw [List.take_append, List.take_of_length_le (by omega), hh]
      have h4 := g_head st nx es.length pr ((allE es).take (k - 56)) hst hnx (by omega) hp
      rw [← e] at h4
      rw [h4] at hw
      simp only [Int.toNat_natCast] at hw
      omega
  have he : gEnd ((smyB st pr nx es).take k) = 4 := by unfold gEnd endI; rw [hb, if_pos rfl]
  unfold gE
  rw [if_neg hf, he, if_neg (by decide)]
end Go.Proofs.Ythgdjgnbifakbaa.By

/- BatchPlain: bytes tell summaries apart; a cut is refused, and a byte more. -/
namespace Go.Proofs.Ythgdjgnbifakbaa.By
open Go.RowKit Go.Proofs.Ythgdjgnbifakbaa.Reg Go.Proofs.YthgdjgnbifakbaaW.PrintWords Go.Proofs.YthgdjgnbifakbaaW.PrintLast Go.Proofs.YthgdjgnbifakbaaW.PrintMore
set_option linter.unusedVariables false
set_option linter.unusedSimpArgs false


theorem C_cut {w : World} {A : Option Addr} {n : Nat} {X : List Int} (h : Kd.C kb w A n X) (m : Nat) (hm : m ≤ n) : Kd.C kb w A m (X.take m) := by
  have hn := h.1
  refine ⟨by rw [List.length_take]; omega, Nat.le_trans hm h.2.1, fun hp => ?_⟩
  obtain ⟨ad, e, f⟩ := h.2.2 (by omega)
  refine ⟨ad, e, fun j p hj => f j p ?_⟩
  rw [List.getElem?_take] at hj
  split at hj
  · exact hj
  · cases hj
theorem put_inj {st st2 nx nx2 : Int} {pr pr2 : List Int} {es es2 : List Th} (q : Smy.ok (st, pr, nx, es)) (q2 : Smy.ok (st2, pr2, nx2, es2)) (h : checkF st nx es = 0) (h2 : checkF st2 nx2 es2 = 0) : (smyB st pr nx es = smyB st2 pr2 nx2 es2) ↔ (st = st2 ∧ pr = pr2 ∧ nx = nx2 ∧ es = es2) := by
  constructor
  · intro e
    have a := get_put st nx pr es q.1 q.2.2.1 q.2.1.1 q.2.2.2 h
    have b := get_put st2 nx2 pr2 es2 q2.1 q2.2.2.1 q2.2.1.1 q2.2.2.2 h2
    rw [e] at a
    exact ⟨a.2.1.symm.trans b.2.1, a.2.2.1.symm.trans b.2.2.1, a.2.2.2.1.symm.trans b.2.2.2.1, a.2.2.2.2.symm.trans b.2.2.2.2⟩
  · rintro ⟨rfl, rfl, rfl, rfl⟩
    rfl
end Go.Proofs.Ythgdjgnbifakbaa.By

/- BatchPlain: bytes tell summaries apart; a cut is refused, and a byte more. -/
namespace Go.Proofs.Ythgdjgnbifakbaa.By
open Go.RowKit Go.Proofs.Ythgdjgnbifakbaa.Reg Go.Proofs.YthgdjgnbifakbaaW.PrintWords Go.Proofs.YthgdjgnbifakbaaW.PrintLast Go.Proofs.YthgdjgnbifakbaaW.PrintMore
set_option linter.unusedVariables false
set_option linter.unusedSimpArgs false


theorem copy_at (w : World) (A : Option Addr) (c n : Nat) (xs : List Int) (hn : n = xs.length) (hr : Kd.C kb w A n xs) (hc : n ≤ c) (hl : n < 140737488355328) : Calls Try.prog 43 #[.slice A n c] w fun e w' => ∃ V, e = .returned V ∧ NB w' w.heap.size V xs ∧ Ext w w' := by
  subst hn
  exact copy_calls w A c xs hr hc hl

set_option maxRecDepth 100000 in
set_option maxHeartbeats 16000000 in
theorem plain_calls (w : World) (A1 A2 : Option Addr) (c1 n1 c2 n2 : Nat) (q1 q2 : Smy) (r x : Int) (hn1 : n1 = q1.2.2.2.length) (hr1 : Kd.C kTh w A1 n1 q1.2.2.2) (hc1 : n1 ≤ c1) (hq1 : Smy.ok q1) (hn2 : n2 = q2.2.2.2.length) (hr2 : Kd.C kTh w A2 n2 q2.2.2.2) (hc2 : n2 ≤ c2) (hq2 : Smy.ok q2)
    (hrb : -9223372036854775808 ≤ r ∧ r ≤ 9223372036854775807) (hxb : 0 ≤ x ∧ x < 256) :
    Calls Try.prog 13 #[smyV q1.1 q1.2.1 q1.2.2.1 (.slice A1 n1 c1), smyV q2.1 q2.2.1 q2.2.2.1 (.slice A2 n2 c2), .int .i64 r, .int .u8 x] w fun e w' => e = .returned (.bool true) ∧ Ext w w' := by
  obtain ⟨st1, pr1, nx1, es1⟩ := q1
  obtain ⟨st2, pr2, nx2, es2⟩ := q2
  dsimp only at *
  have HQ1 := Aside0.mk hq1
  have HQ2 := Aside0.mk hq2
  have HN1 := Aside0.mk hn1
  have HN2 := Aside0.mk hn2
  have hp1 : pr1.length = 32 := hq1.2.1.1
  have hp2 : pr2.length = 32 := hq2.2.1.1
  have hK1 := (Blk.new w (smyC st1 pr1 nx1 (.slice A1 n1 c1)).toArray 58).alloc (.cells (smyC st2 pr2 nx2 (.slice A2 n2 c2)).toArray 58)
  have hK2 := Blk.new (w.alloc (.cells (smyC st1 pr1 nx1 (.slice A1 n1 c1)).toArray 58)) (smyC st2 pr2 nx2 (.slice A2 n2 c2)).toArray 58
  rw [show (w.alloc (.cells (smyC st1 pr1 nx1 (.slice A1 n1 c1)).toArray 58)).heap.size = w.heap.size + 1 from size_alloc _ _] at hK2
  have HE := Aside0.mk (((Ext.refl w).alloc (.cells (smyC st1 pr1 nx1 (.slice A1 n1 c1)).toArray 58)).alloc (.cells (smyC st2 pr2 nx2 (.slice A2 n2 c2)).toArray 58))
  have HC1 := Aside0.mk hr1
  have HC2 := Aside0.mk hr2
  have ca := (smyBlk hK1 hp1).2.2.2
  have cb := (smyBlk hK2 hp2).2.2.2
  have HIS1 := Aside0.mk (fun V => show (Try.prog.info? 58).map (·.size) = some (smyC st1 pr1 nx1 V).length by rw [smyC_len hp1]; kernel_rfl)
  have HIS2 := Aside0.mk (fun V => show (Try.prog.info? 58).map (·.size) = some (smyC st2 pr2 nx2 V).length by rw [smyC_len hp2]; kernel_rfl)
  have HK1 := Aside0.mk hK1
  have HK2 := Aside0.mk hK2
  have HRW1 := Aside0.mk hK1.whole
  have HRW2 := Aside0.mk hK2.whole
  have HRB := Aside0.mk hrb
  have HXB := Aside0.mk hxb
  obtain ⟨F1, hF1⟩ : ∃ F, F = checkF st1 nx1 es1 := ⟨_, rfl⟩
  obtain ⟨F2, hF2⟩ : ∃ F, F = checkF st2 nx2 es2 := ⟨_, rfl⟩
  have HF1 := Aside0.mk hF1
  have HF2 := Aside0.mk hF2
  obtain ⟨X1, hX1⟩ : ∃ X, X = outP st1 pr1 nx1 es1 := ⟨_, rfl⟩
  obtain ⟨X2, hX2⟩ : ∃ X, X = outP st2 pr2 nx2 es2 := ⟨_, rfl⟩
  have HX1 := Aside0.mk hX1
  have HX2 := Aside0.mk hX2
  have HP1 := Aside0.mk (fun (W : World) (h : Ext w W) => put_calls W st1 nx1 pr1 A1 c1 n1 es1 F1 hF1 (Kd.C_below hr1 h) hc1 hp1 hq1.2.2.2)
  have HP2 := Aside0.mk (fun (W : World) (h : Ext w W) => put_calls W st2 nx2 pr2 A2 c2 n2 es2 F2 hF2 (Kd.C_below hr2 h) hc2 hp2 hq2.2.2.2)
  rw [← hX1] at HP1
  rw [← hX2] at HP2
  clear hq1 hq2 hn1 hn2 hr1 hr2 hK1 hK2 hrb hxb hF1 hF2 hX1 hX2
  unfold smyV
  by_cases hb1 : (300 : Int) < n1
  · go_enter Try.func13, Try.ntmps13
    go_wp2_with fail
    refine (works_calls _).mono ?_
    rintro e w1 ⟨rfl, hE⟩
    go_wp2_with fail
    go_ret
    exact ⟨rfl, HE.out.trans hE⟩
  by_cases hb2 : (300 : Int) < n2
  · go_enter Try.func13, Try.ntmps13
    go_wp2_with fail
    refine (works_calls _).mono ?_
    rintro e w1 ⟨rfl, hE⟩
    go_wp2_with fail
    go_ret
    exact ⟨rfl, HE.out.trans hE⟩
  go_enter Try.func13, Try.ntmps13
  go_wp2_with (first | ((with_reducible refine gate_load (ty := 58) rfl ?_); refine load_at rfl 58 _ rfl w.heap.size 0 rfl (smyC st1 pr1 nx1 (.slice A1 n1 c1)) _ HRW1.out Try.underlying58 rfl (HIS1.out _) ?_) | fail)
  refine (HP1.out _ HE.out).mono ?_
  rintro e w3 ⟨V, rfl, hN, hE⟩
  obtain ⟨A9, c9, hV, h9c, h9⟩ := hN.reads
  obtain ⟨k1, hk1⟩ : ∃ k, k = X1.length := ⟨_, rfl⟩
  rw [← hk1] at hV h9c h9
  subst hV
  have HK1' := Aside0.mk hk1
  have H9 := Aside0.mk h9
  replace HK1 := Aside0.mk (HK1.out.ext hE)
  replace HK2 := Aside0.mk (HK2.out.ext hE)
  replace HE := Aside0.mk (HE.out.trans hE)
  clear hN hE h9 hk1 HRW1 HRW2 ca cb
  have HRW2 := Aside0.mk HK2.out.whole
  go_wp2_with (first | ((with_reducible refine gate_load (ty := 58) rfl ?_); refine load_at rfl 58 _ rfl (w.heap.size + 1) 0 rfl (smyC st2 pr2 nx2 (.slice A2 n2 c2)) _ HRW2.out Try.underlying58 rfl (HIS2.out _) ?_) | fail)
  refine (HP2.out _ HE.out).mono ?_
  rintro e w4 ⟨V, rfl, hN, hE⟩
  obtain ⟨A11, c11, hV, h11c, h11⟩ := hN.reads
  obtain ⟨k2, hk2⟩ : ∃ k, k = X2.length := ⟨_, rfl⟩
  rw [← hk2] at hV h11c h11
  subst hV
  have HK2' := Aside0.mk hk2
  have H11 := Aside0.mk h11
  replace H9 := Aside0.mk (Kd.C_below H9.out hE)
  replace HK1 := Aside0.mk (HK1.out.ext hE)
  replace HK2 := Aside0.mk (HK2.out.ext hE)
  replace HE := Aside0.mk (HE.out.trans hE)
  clear hN hE h11 hk2 HRW2
  by_cases z1 : F1 = 0
  case neg =>
    go_wp2_with fail
    refine (works_calls _).mono ?_
    rintro e w5 ⟨rfl, hE⟩
    go_wp2_with fail
    go_ret
    exact ⟨rfl, HE.out.trans hE⟩
  subst z1
  by_cases z2 : F2 = 0
  case neg =>
    go_wp2_with fail
    refine (works_calls _).mono ?_
    rintro e w5 ⟨rfl, hE⟩
    go_wp2_with fail
    go_ret
    exact ⟨rfl, HE.out.trans hE⟩
  subst z2
  have HL1 := Aside0.mk (show k1 = 56 + 56 * n1 by rw [HK1'.out, HX1.out]; unfold outP; rw [if_pos HF1.out.symm, smyB_len HQ1.out.2.1.1 HQ1.out.2.2.2, HN1.out])
  have HX := Aside0.mk (show X1 = smyB st1 pr1 nx1 es1 by rw [HX1.out]; unfold outP; rw [if_pos HF1.out.symm])
  have HN16 := Aside0.mk (show n1 ≤ 16 by rw [HN1.out]; exact checkF_le HF1.out.symm)
  have hk56 : 56 ≤ k1 := by have := HL1.out; omega
  have hk1k : k1 ≤ 1000 := by have := HL1.out; have := HN16.out; omega
  have HXB1 := Aside0.mk (show isB X1 by rw [HX.out]; exact smyB_isB HQ1.out.2.1.2 HQ1.out.2.2.2)
  obtain ⟨p, hp⟩ : ∃ p, p = pickT r k1 := ⟨_, rfl⟩
  have hpr := pickT_range r k1 (by omega)
  rw [← hp] at hpr
  obtain ⟨hp0, hp1'⟩ := hpr
  obtain ⟨i0, hi0, _, hsz, _⟩ := info_parts PPackPuts.info5
  have hcut := cut_to (P := Try.prog) 22 5 .i64 Try.underlying22 hi0 A9 k1 c9 p hp0 (by omega) h9c
  have HPK := Aside0.mk (pick_calls w4 r k1 p HRB.out.1 HRB.out.2 (by omega) hp)
  obtain ⟨m, hm⟩ : ∃ m, m = p.toNat := ⟨_, rfl⟩
  rw [← hm] at hcut
  have HG4 := Aside0.mk (show gE (X1.take m) = 4 by rw [HX.out]; exact get_less st1 nx1 pr1 es1 HQ1.out.1 HQ1.out.2.2.1 HQ1.out.2.1.1 HQ1.out.2.1.2 HQ1.out.2.2.2 (by rw [← HN1.out]; have := HN16.out; omega) m (by rw [← HN1.out]; have := HL1.out; omega))
  have HZ4 := Aside0.mk (o_zero (bs := X1.take m) (by rw [HG4.out]; decide))
  have HGC := Aside0.mk (fun (W : World) (h : Ext w4 W) => get_calls W A9 c9 m (X1.take m) (by rw [List.length_take, ← HK1'.out]; omega) (C_cut (Kd.C_below H9.out h) m (by omega)) (by omega) (HXB1.out.take m) (by omega))
  rw [HG4.out, HZ4.out.1, HZ4.out.2.1, HZ4.out.2.2.1, HZ4.out.2.2.2] at HGC
  clear hi0 hsz hp
  go_wp2_with fail
  refine HPK.out.mono ?_
  rintro e w5 ⟨rfl, hE5⟩
  have HE5 := Aside0.mk hE5
  clear hE5
  go_wp2_with fail
  (try rw [← hm])
  refine (HGC.out w5 HE5.out).mono ?_
  rintro e w6 ⟨V, rfl, hR, hE⟩
  obtain ⟨AZ, cZ, hV, _, _⟩ := EB.reads hR
  obtain ⟨nZ, hnZ⟩ : ∃ n, n = ([] : List Th).length := ⟨_, rfl⟩
  rw [← hnZ] at hV
  subst hV
  have HE6 := Aside0.mk (HE5.out.trans hE)
  have HISZ := Aside0.mk (fun V => show (Try.prog.info? 58).map (·.size) = some (smyC 0 zero32 0 V).length by rw [smyC_len zero32_length]; kernel_rfl)
  have HSSZ := Aside0.mk (fun V => show #[Value.int .i64 0, Value.int .u8 0, Value.int .u8 0, Value.int .u8 0, Value.int .u8 0, Value.int .u8 0, Value.int .u8 0, Value.int .u8 0, Value.int .u8 0, Value.int .u8 0, Value.int .u8 0, Value.int .u8 0, Value.int .u8 0, Value.int .u8 0, Value.int .u8 0, Value.int .u8 0, Value.int .u8 0, Value.int .u8 0, Value.int .u8 0, Value.int .u8 0, Value.int .u8 0, Value.int .u8 0, Value.int .u8 0, Value.int .u8 0, Value.int .u8 0, Value.int .u8 0, Value.int .u8 0, Value.int .u8 0, Value.int .u8 0, Value.int .u8 0, Value.int .u8 0, Value.int .u8 0, Value.int .u8 0, Value.int .i64 0, Value.slice none 0 0].size = (smyC 0 zero32 0 V).length by rw [smyC_len zero32_length]; rfl)
  clear hR hE hnZ HGC HPK hcut HE5
  go_wp2_with (first | ((with_reducible refine gate_store (ty := 58) rfl ?_); (refine store_at rfl 58 _ _ rfl w6.heap.size (smyC 0 zero32 0 (.slice AZ nZ cZ)) rfl rfl #[Value.int .i64 0, Value.int .u8 0, Value.int .u8 0, Value.int .u8 0, Value.int .u8 0, Value.int .u8 0, Value.int .u8 0, Value.int .u8 0, Value.int .u8 0, Value.int .u8 0, Value.int .u8 0, Value.int .u8 0, Value.int .u8 0, Value.int .u8 0, Value.int .u8 0, Value.int .u8 0, Value.int .u8 0, Value.int .u8 0, Value.int .u8 0, Value.int .u8 0, Value.int .u8 0, Value.int .u8 0, Value.int .u8 0, Value.int .u8 0, Value.int .u8 0, Value.int .u8 0, Value.int .u8 0, Value.int .u8 0, Value.int .u8 0, Value.int .u8 0, Value.int .u8 0, Value.int .u8 0, Value.int .u8 0, Value.int .i64 0, Value.slice none 0 0] 58 (Blk.new w6 _ 58) (HSSZ.out _) (HISZ.out _) (smyC_one _ _ _ _ _ _) ?_)) | fail)
  intro w7 hW hB
  have HE7 := Aside0.mk (HE6.out.trans (hW.ext ((Ext.refl w6).alloc _) (Nat.le_refl _)))
  have HEW7 := HE7
  clear hW hB HE6
  go_wp2_with fail
  refine (copy_at w7 A9 c9 k1 X1 HK1'.out (Kd.C_below H9.out HE7.out) h9c (by omega)).mono ?_
  rintro e w8 ⟨V8, rfl, hV8, hE8⟩
  have HV8 := Aside0.mk hV8
  have HX8 := Aside0.mk hE8
  have HE8 := Aside0.mk (HE7.out.trans hE8)
  clear hV8 hE8 HE7
  go_wp2_with (at_builtin; go_loud (refine Kd.R_append kb (w0 := w7) w7.heap.size rfl (.tmp 57) (.tmp 59) 22 5 _ 1 rfl Try.underlying22 PPackPuts.info5 rfl (by decide) (by decide) V8 X1 x [.int .u8 x] (fun _ => True) (fun _ => False) rfl rfl ?c1 (fun _ h => h.elim) (fun _ _ => trivial) HV8.out HX8.out ?c3 ?c4 ?_))
  case c1 => exact rfl
  case c3 => exact HX8.out.size
  case c4 => rw [← HK1'.out]; omega
  intro v9 w9 hR9 hB9 hg9 hat9
  replace hR9 : NB w9 w7.heap.size v9 (X1 ++ [x]) := hR9
  obtain ⟨Y, d, rfl, hd, hCY⟩ := hR9.reads
  have h7 : Ext w7 w9 := hB9
  obtain ⟨k3, hk3⟩ : ∃ k, k = (X1 ++ [x]).length := ⟨_, rfl⟩
  rw [← hk3] at hd hCY
  rw [← hk3]
  have hk3b : k3 ≤ 1001 := by rw [hk3, List.length_append, ← HK1'.out, List.length_singleton]; omega
  have HK3 := Aside0.mk hk3
  have HCY := Aside0.mk hCY
  have HE9 := Aside0.mk (HEW7.out.trans h7)
  have HG3 := Aside0.mk (show gE (X1 ++ [x]) = 3 by rw [HX.out]; exact get_more st1 nx1 pr1 es1 x [] HQ1.out.1 HQ1.out.2.2.1 HQ1.out.2.1.1 HQ1.out.2.2.2 (by rw [← HN1.out]; have := HN16.out; omega))
  have HZ3 := Aside0.mk (o_zero (bs := X1 ++ [x]) (by rw [HG3.out]; decide))
  have HGM := Aside0.mk (get_calls w9 Y d k3 (X1 ++ [x]) HK3.out HCY.out hd (HXB1.out.app (fun z hz => by rw [List.mem_singleton.1 hz]; exact HXB.out)) (by omega))
  rw [HG3.out, HZ3.out.1, HZ3.out.2.1, HZ3.out.2.2.1, HZ3.out.2.2.2] at HGM
  clear hR9 hB9 hg9 hat9 hCY h7 HV8 HX8 HE8 hk3
  go_wp2_with fail
  refine HGM.out.mono ?_
  rintro e wa ⟨V, rfl, hR, hE⟩
  obtain ⟨AY, cY, hV, _, _⟩ := EB.reads hR
  obtain ⟨nY, hnY⟩ : ∃ n, n = ([] : List Th).length := ⟨_, rfl⟩
  rw [← hnY] at hV
  subst hV
  have HEa := Aside0.mk (HE9.out.trans hE)
  clear hR hE hnY HGM HE9 HCY
  go_wp2_with (first | ((with_reducible refine gate_store (ty := 58) rfl ?_); (refine store_at rfl 58 _ _ rfl wa.heap.size (smyC 0 zero32 0 (.slice AY nY cY)) rfl rfl #[Value.int .i64 0, Value.int .u8 0, Value.int .u8 0, Value.int .u8 0, Value.int .u8 0, Value.int .u8 0, Value.int .u8 0, Value.int .u8 0, Value.int .u8 0, Value.int .u8 0, Value.int .u8 0, Value.int .u8 0, Value.int .u8 0, Value.int .u8 0, Value.int .u8 0, Value.int .u8 0, Value.int .u8 0, Value.int .u8 0, Value.int .u8 0, Value.int .u8 0, Value.int .u8 0, Value.int .u8 0, Value.int .u8 0, Value.int .u8 0, Value.int .u8 0, Value.int .u8 0, Value.int .u8 0, Value.int .u8 0, Value.int .u8 0, Value.int .u8 0, Value.int .u8 0, Value.int .u8 0, Value.int .u8 0, Value.int .i64 0, Value.slice none 0 0] 58 (Blk.new wa _ 58) (HSSZ.out _) (HISZ.out _) (smyC_one _ _ _ _ _ _) ?_)) | fail)
  intro wb hW hB
  have HEb := Aside0.mk (HEa.out.trans (hW.ext ((Ext.refl wa).alloc _) (Nat.le_refl _)))
  clear hW hB HEa
  replace HK1 := Aside0.mk (HK1.out.ext HEb.out)
  replace HK2 := Aside0.mk (HK2.out.ext HEb.out)
  replace H9 := Aside0.mk (Kd.C_below H9.out HEb.out)
  replace H11 := Aside0.mk (Kd.C_below H11.out HEb.out)
  have HRW1 := Aside0.mk HK1.out.whole
  have HRW2 := Aside0.mk HK2.out.whole
  have HC1b := Aside0.mk (Kd.C_below HC1.out (HE.out.trans HEb.out))
  have HC2b := Aside0.mk (Kd.C_below HC2.out (HE.out.trans HEb.out))
  obtain ⟨D, hD⟩ : ∃ D, D = decide (X1 = X2) := ⟨_, rfl⟩
  have HD := Aside0.mk hD
  have HXX := Aside0.mk (show X2 = smyB st2 pr2 nx2 es2 by rw [HX2.out]; unfold outP; rw [if_pos HF2.out.symm])
  have HDD := Aside0.mk (show D = decide (st1 = st2 ∧ pr1 = pr2 ∧ nx1 = nx2 ∧ es1 = es2) by rw [HD.out, HX.out, HXX.out]; exact decide_eq_decide.2 (put_inj HQ1.out HQ2.out HF1.out.symm HF2.out.symm))
  have HDT := Aside0.mk (show (D == D) = true by simp)
  clear hD
  cases D with
  | false =>
    go_wp2_with fail
    apply wp_region_facts 19 [RF.val _, RF.val _, RF.val _, RF.val _, RF.val _, RF.val _, RF.val _, RF.val _, RF.val _, RF.val _, RF.val _, RF.val _, RF.val _, RF.val _, RF.val _, RF.val _, RF.val _, RF.val _, RF.val _]
    case hm => kernel_rfl
    case hB => kernel_rfl
    simp only [List.take_succ_cons, List.take_zero, List.zip_cons_cons, List.zip_nil_left]
    (first | refine wpF_val rfl (fun w' hE hD => by unfold Yld; go_simp; exact ⟨Ext.refl _, rfl⟩) ?_ | refine wpF_valg (by rfl) (fun w' hE hD => by unfold Yld; go_simp; exact ⟨Ext.refl _, rfl⟩) ?_)
    (try simp only [Act.put, List.setIfInBounds_toArray, List.set_cons_zero, List.set_cons_succ])
    (first | refine wpF_val rfl (fun w' hE hD => by unfold Yld; go_simp; exact ⟨Ext.refl _, rfl⟩) ?_ | refine wpF_valg (by rfl) (fun w' hE hD => by unfold Yld; go_simp; exact ⟨Ext.refl _, rfl⟩) ?_)
    (try simp only [Act.put, List.setIfInBounds_toArray, List.set_cons_zero, List.set_cons_succ])
    (first | refine wpF_val rfl (fun w' hE hD => by unfold Yld; go_simp; exact (same_at w' A9 A11 c9 c11 X1 X2 _ HK1'.out HK2'.out HD.out (Kd.C_below H9.out hE) h9c (Kd.C_below H11.out hE) h11c (by rw [← HK1'.out]; omega)).mono fun e w2 h => ⟨_, h.1, h.2, rfl⟩) ?_ | refine wpF_valg (by rfl) (fun w' hE hD => by unfold Yld; go_simp; exact (same_at w' A9 A11 c9 c11 X1 X2 _ HK1'.out HK2'.out HD.out (Kd.C_below H9.out hE) h9c (Kd.C_below H11.out hE) h11c (by rw [← HK1'.out]; omega)).mono fun e w2 h => ⟨_, h.1, h.2, rfl⟩) ?_)
    (try simp only [Act.put, List.setIfInBounds_toArray, List.set_cons_zero, List.set_cons_succ])
    (first | refine wpF_val rfl (fun w' hE hD => Yld_load 58 (.tmp 4) rfl w.heap.size 0 rfl (smyC st1 pr1 nx1 (.slice A1 n1 c1)) _ (rangeAt_ext HRW1.out hE) Try.underlying58 rfl (HIS1.out _)) ?_ | refine wpF_valg (by rfl) (fun w' hE hD => Yld_load 58 (.tmp 4) rfl w.heap.size 0 rfl (smyC st1 pr1 nx1 (.slice A1 n1 c1)) _ (rangeAt_ext HRW1.out hE) Try.underlying58 rfl (HIS1.out _)) ?_)
    (try simp only [Act.put, List.setIfInBounds_toArray, List.set_cons_zero, List.set_cons_succ])
    (first | refine wpF_val rfl (fun w' hE hD => Yld_load 58 (.tmp 5) rfl (w.heap.size + 1) 0 rfl (smyC st2 pr2 nx2 (.slice A2 n2 c2)) _ (rangeAt_ext HRW2.out hE) Try.underlying58 rfl (HIS2.out _)) ?_ | refine wpF_valg (by rfl) (fun w' hE hD => Yld_load 58 (.tmp 5) rfl (w.heap.size + 1) 0 rfl (smyC st2 pr2 nx2 (.slice A2 n2 c2)) _ (rangeAt_ext HRW2.out hE) Try.underlying58 rfl (HIS2.out _)) ?_)
    (try simp only [Act.put, List.setIfInBounds_toArray, List.set_cons_zero, List.set_cons_succ])
    (first | refine wpF_val rfl (fun w' hE hD => by unfold Yld; go_simp; exact (sameS_calls w' A1 A2 c1 c2 n1 n2 st1 st2 nx1 nx2 pr1 pr2 es1 es2 HN1.out HN2.out (Kd.C_below HC1b.out hE) (Kd.C_below HC2b.out hE) HQ1.out.2.2.2 HQ2.out.2.2.2 (by omega) HQ1.out.2.1.1 HQ2.out.2.1.1 HQ1.out.2.1.2 HQ2.out.2.1.2 _ HDD.out).mono fun e w2 h => ⟨_, h.1, h.2, rfl⟩) ?_ | refine wpF_valg (by rfl) (fun w' hE hD => by unfold Yld; go_simp; exact (sameS_calls w' A1 A2 c1 c2 n1 n2 st1 st2 nx1 nx2 pr1 pr2 es1 es2 HN1.out HN2.out (Kd.C_below HC1b.out hE) (Kd.C_below HC2b.out hE) HQ1.out.2.2.2 HQ2.out.2.2.2 (by omega) HQ1.out.2.1.1 HQ2.out.2.1.1 HQ1.out.2.1.2 HQ2.out.2.1.2 _ HDD.out).mono fun e w2 h => ⟨_, h.1, h.2, rfl⟩) ?_)
    (try simp only [Act.put, List.setIfInBounds_toArray, List.set_cons_zero, List.set_cons_succ])
    (first | refine wpF_val rfl (fun w' hE hD => by unfold Yld; go_simp; exact ⟨Ext.refl _, rfl⟩) ?_ | refine wpF_valg (by rfl) (fun w' hE hD => by unfold Yld; go_simp; exact ⟨Ext.refl _, rfl⟩) ?_)
    (try simp only [Act.put, List.setIfInBounds_toArray, List.set_cons_zero, List.set_cons_succ])
    (first | refine wpF_val rfl (fun w' hE hD => by unfold Yld; go_simp; exact ⟨Ext.refl _, rfl⟩) ?_ | refine wpF_valg (by rfl) (fun w' hE hD => by unfold Yld; go_simp; exact ⟨Ext.refl _, rfl⟩) ?_)
    (try simp only [Act.put, List.setIfInBounds_toArray, List.set_cons_zero, List.set_cons_succ])
    (first | refine wpF_val rfl (fun w' hE hD => by unfold Yld; go_simp; exact ⟨Ext.refl _, rfl⟩) ?_ | refine wpF_valg (by rfl) (fun w' hE hD => by unfold Yld; go_simp; exact ⟨Ext.refl _, rfl⟩) ?_)
    (try simp only [Act.put, List.setIfInBounds_toArray, List.set_cons_zero, List.set_cons_succ])
    (first | refine wpF_val rfl (fun w' hE hD => by unfold Yld; go_simp; exact ⟨Ext.refl _, rfl⟩) ?_ | refine wpF_valg (by rfl) (fun w' hE hD => by unfold Yld; go_simp; exact ⟨Ext.refl _, rfl⟩) ?_)
    (try simp only [Act.put, List.setIfInBounds_toArray, List.set_cons_zero, List.set_cons_succ])
    (first | refine wpF_val rfl (fun w' hE hD => by unfold Yld; go_simp; exact ⟨Ext.refl _, rfl⟩) ?_ | refine wpF_valg (by rfl) (fun w' hE hD => by unfold Yld; go_simp; exact ⟨Ext.refl _, rfl⟩) ?_)
    (try simp only [Act.put, List.setIfInBounds_toArray, List.set_cons_zero, List.set_cons_succ])
    (first | refine wpF_val rfl (fun w' hE hD => by unfold Yld; go_simp; exact ⟨Ext.refl _, rfl⟩) ?_ | refine wpF_valg (by rfl) (fun w' hE hD => by unfold Yld; go_simp; exact ⟨Ext.refl _, rfl⟩) ?_)
    (try simp only [Act.put, List.setIfInBounds_toArray, List.set_cons_zero, List.set_cons_succ])
    (first | refine wpF_val rfl (fun w' hE hD => by unfold Yld; go_simp; exact ⟨Ext.refl _, rfl⟩) ?_ | refine wpF_valg (by rfl) (fun w' hE hD => by unfold Yld; go_simp; exact ⟨Ext.refl _, rfl⟩) ?_)
    (try simp only [Act.put, List.setIfInBounds_toArray, List.set_cons_zero, List.set_cons_succ])
    (first | refine wpF_val rfl (fun w' hE hD => by unfold Yld; go_simp; exact ⟨Ext.refl _, rfl⟩) ?_ | refine wpF_valg (by rfl) (fun w' hE hD => by unfold Yld; go_simp; exact ⟨Ext.refl _, rfl⟩) ?_)
    (try simp only [Act.put, List.setIfInBounds_toArray, List.set_cons_zero, List.set_cons_succ])
    (first | refine wpF_val rfl (fun w' hE hD => by unfold Yld; go_simp; exact ⟨Ext.refl _, rfl⟩) ?_ | refine wpF_valg (by rfl) (fun w' hE hD => by unfold Yld; go_simp; exact ⟨Ext.refl _, rfl⟩) ?_)
    (try simp only [Act.put, List.setIfInBounds_toArray, List.set_cons_zero, List.set_cons_succ])
    (first | refine wpF_val rfl (fun w' hE hD => by unfold Yld; go_simp; exact ⟨Ext.refl _, rfl⟩) ?_ | refine wpF_valg (by rfl) (fun w' hE hD => by unfold Yld; go_simp; exact ⟨Ext.refl _, rfl⟩) ?_)
    (try simp only [Act.put, List.setIfInBounds_toArray, List.set_cons_zero, List.set_cons_succ])
    (first | refine wpF_val rfl (fun w' hE hD => by unfold Yld; go_simp; exact (works_calls w').mono fun e w2 h => ⟨_, h.1, h.2, rfl⟩) ?_ | refine wpF_valg (by rfl) (fun w' hE hD => by unfold Yld; go_simp; exact (works_calls w').mono fun e w2 h => ⟨_, h.1, h.2, rfl⟩) ?_)
    (try simp only [Act.put, List.setIfInBounds_toArray, List.set_cons_zero, List.set_cons_succ])
    (first | refine wpF_val rfl (fun w' hE hD => by unfold Yld; go_simp; exact ⟨Ext.refl _, rfl⟩) ?_ | refine wpF_valg (by rfl) (fun w' hE hD => by unfold Yld; go_simp; exact ⟨Ext.refl _, rfl⟩) ?_)
    (try simp only [Act.put, List.setIfInBounds_toArray, List.set_cons_zero, List.set_cons_succ])
    (first | refine wpF_val rfl (fun w' hE hD => by unfold Yld; go_simp; exact ⟨Ext.refl _, rfl⟩) ?_ | refine wpF_valg (by rfl) (fun w' hE hD => by unfold Yld; go_simp; exact ⟨Ext.refl _, rfl⟩) ?_)
    (try simp only [Act.put, List.setIfInBounds_toArray, List.set_cons_zero, List.set_cons_succ])
    refine wpF_nil fun wc hEc hA => ?_
    simp only [List.drop_succ_cons, List.drop_zero]
    have HEc := Aside0.mk ((HE.out.trans HEb.out).trans hEc)
    clear hA hEc
    go_wp2_with fail
    go_ret
    exact ⟨rfl, HEc.out⟩
  | true =>
    go_wp2_with fail
    apply wp_region_facts 19 [RF.val _, RF.val _, RF.val _, RF.val _, RF.val _, RF.val _, RF.val _, RF.val _, RF.val _, RF.val _, RF.val _, RF.val _, RF.val _, RF.val _, RF.val _, RF.val _, RF.val _, RF.val _, RF.val _]
    case hm => kernel_rfl
    case hB => kernel_rfl
    simp only [List.take_succ_cons, List.take_zero, List.zip_cons_cons, List.zip_nil_left]
    (first | refine wpF_val rfl (fun w' hE hD => by unfold Yld; go_simp; exact ⟨Ext.refl _, rfl⟩) ?_ | refine wpF_valg (by rfl) (fun w' hE hD => by unfold Yld; go_simp; exact ⟨Ext.refl _, rfl⟩) ?_)
    (try simp only [Act.put, List.setIfInBounds_toArray, List.set_cons_zero, List.set_cons_succ])
    (first | refine wpF_val rfl (fun w' hE hD => by unfold Yld; go_simp; exact ⟨Ext.refl _, rfl⟩) ?_ | refine wpF_valg (by rfl) (fun w' hE hD => by unfold Yld; go_simp; exact ⟨Ext.refl _, rfl⟩) ?_)
    (try simp only [Act.put, List.setIfInBounds_toArray, List.set_cons_zero, List.set_cons_succ])
    (first | refine wpF_val rfl (fun w' hE hD => by unfold Yld; go_simp; exact (same_at w' A9 A11 c9 c11 X1 X2 _ HK1'.out HK2'.out HD.out (Kd.C_below H9.out hE) h9c (Kd.C_below H11.out hE) h11c (by rw [← HK1'.out]; omega)).mono fun e w2 h => ⟨_, h.1, h.2, rfl⟩) ?_ | refine wpF_valg (by rfl) (fun w' hE hD => by unfold Yld; go_simp; exact (same_at w' A9 A11 c9 c11 X1 X2 _ HK1'.out HK2'.out HD.out (Kd.C_below H9.out hE) h9c (Kd.C_below H11.out hE) h11c (by rw [← HK1'.out]; omega)).mono fun e w2 h => ⟨_, h.1, h.2, rfl⟩) ?_)
    (try simp only [Act.put, List.setIfInBounds_toArray, List.set_cons_zero, List.set_cons_succ])
    (first | refine wpF_val rfl (fun w' hE hD => Yld_load 58 (.tmp 4) rfl w.heap.size 0 rfl (smyC st1 pr1 nx1 (.slice A1 n1 c1)) _ (rangeAt_ext HRW1.out hE) Try.underlying58 rfl (HIS1.out _)) ?_ | refine wpF_valg (by rfl) (fun w' hE hD => Yld_load 58 (.tmp 4) rfl w.heap.size 0 rfl (smyC st1 pr1 nx1 (.slice A1 n1 c1)) _ (rangeAt_ext HRW1.out hE) Try.underlying58 rfl (HIS1.out _)) ?_)
    (try simp only [Act.put, List.setIfInBounds_toArray, List.set_cons_zero, List.set_cons_succ])
    (first | refine wpF_val rfl (fun w' hE hD => Yld_load 58 (.tmp 5) rfl (w.heap.size + 1) 0 rfl (smyC st2 pr2 nx2 (.slice A2 n2 c2)) _ (rangeAt_ext HRW2.out hE) Try.underlying58 rfl (HIS2.out _)) ?_ | refine wpF_valg (by rfl) (fun w' hE hD => Yld_load 58 (.tmp 5) rfl (w.heap.size + 1) 0 rfl (smyC st2 pr2 nx2 (.slice A2 n2 c2)) _ (rangeAt_ext HRW2.out hE) Try.underlying58 rfl (HIS2.out _)) ?_)
    (try simp only [Act.put, List.setIfInBounds_toArray, List.set_cons_zero, List.set_cons_succ])
    (first | refine wpF_val rfl (fun w' hE hD => by unfold Yld; go_simp; exact (sameS_calls w' A1 A2 c1 c2 n1 n2 st1 st2 nx1 nx2 pr1 pr2 es1 es2 HN1.out HN2.out (Kd.C_below HC1b.out hE) (Kd.C_below HC2b.out hE) HQ1.out.2.2.2 HQ2.out.2.2.2 (by omega) HQ1.out.2.1.1 HQ2.out.2.1.1 HQ1.out.2.1.2 HQ2.out.2.1.2 _ HDD.out).mono fun e w2 h => ⟨_, h.1, h.2, rfl⟩) ?_ | refine wpF_valg (by rfl) (fun w' hE hD => by unfold Yld; go_simp; exact (sameS_calls w' A1 A2 c1 c2 n1 n2 st1 st2 nx1 nx2 pr1 pr2 es1 es2 HN1.out HN2.out (Kd.C_below HC1b.out hE) (Kd.C_below HC2b.out hE) HQ1.out.2.2.2 HQ2.out.2.2.2 (by omega) HQ1.out.2.1.1 HQ2.out.2.1.1 HQ1.out.2.1.2 HQ2.out.2.1.2 _ HDD.out).mono fun e w2 h => ⟨_, h.1, h.2, rfl⟩) ?_)
    (try simp only [Act.put, List.setIfInBounds_toArray, List.set_cons_zero, List.set_cons_succ])
    (first | refine wpF_val rfl (fun w' hE hD => by unfold Yld; go_simp; exact ⟨Ext.refl _, rfl⟩) ?_ | refine wpF_valg (by rfl) (fun w' hE hD => by unfold Yld; go_simp; exact ⟨Ext.refl _, rfl⟩) ?_)
    (try simp only [Act.put, List.setIfInBounds_toArray, List.set_cons_zero, List.set_cons_succ])
    (first | refine wpF_val rfl (fun w' hE hD => by unfold Yld; go_simp; exact ⟨Ext.refl _, rfl⟩) ?_ | refine wpF_valg (by rfl) (fun w' hE hD => by unfold Yld; go_simp; exact ⟨Ext.refl _, rfl⟩) ?_)
    (try simp only [Act.put, List.setIfInBounds_toArray, List.set_cons_zero, List.set_cons_succ])
    (first | refine wpF_val rfl (fun w' hE hD => by unfold Yld; go_simp; exact ⟨Ext.refl _, rfl⟩) ?_ | refine wpF_valg (by rfl) (fun w' hE hD => by unfold Yld; go_simp; exact ⟨Ext.refl _, rfl⟩) ?_)
    (try simp only [Act.put, List.setIfInBounds_toArray, List.set_cons_zero, List.set_cons_succ])
    (first | refine wpF_val rfl (fun w' hE hD => by unfold Yld; go_simp; exact ⟨Ext.refl _, rfl⟩) ?_ | refine wpF_valg (by rfl) (fun w' hE hD => by unfold Yld; go_simp; exact ⟨Ext.refl _, rfl⟩) ?_)
    (try simp only [Act.put, List.setIfInBounds_toArray, List.set_cons_zero, List.set_cons_succ])
    (first | refine wpF_val rfl (fun w' hE hD => by unfold Yld; go_simp; exact ⟨Ext.refl _, rfl⟩) ?_ | refine wpF_valg (by rfl) (fun w' hE hD => by unfold Yld; go_simp; exact ⟨Ext.refl _, rfl⟩) ?_)
    (try simp only [Act.put, List.setIfInBounds_toArray, List.set_cons_zero, List.set_cons_succ])
    (first | refine wpF_val rfl (fun w' hE hD => by unfold Yld; go_simp; exact ⟨Ext.refl _, rfl⟩) ?_ | refine wpF_valg (by rfl) (fun w' hE hD => by unfold Yld; go_simp; exact ⟨Ext.refl _, rfl⟩) ?_)
    (try simp only [Act.put, List.setIfInBounds_toArray, List.set_cons_zero, List.set_cons_succ])
    (first | refine wpF_val rfl (fun w' hE hD => by unfold Yld; go_simp; exact ⟨Ext.refl _, rfl⟩) ?_ | refine wpF_valg (by rfl) (fun w' hE hD => by unfold Yld; go_simp; exact ⟨Ext.refl _, rfl⟩) ?_)
    (try simp only [Act.put, List.setIfInBounds_toArray, List.set_cons_zero, List.set_cons_succ])
    (first | refine wpF_val rfl (fun w' hE hD => by unfold Yld; go_simp; exact ⟨Ext.refl _, rfl⟩) ?_ | refine wpF_valg (by rfl) (fun w' hE hD => by unfold Yld; go_simp; exact ⟨Ext.refl _, rfl⟩) ?_)
    (try simp only [Act.put, List.setIfInBounds_toArray, List.set_cons_zero, List.set_cons_succ])
    (first | refine wpF_val rfl (fun w' hE hD => by unfold Yld; go_simp; exact ⟨Ext.refl _, rfl⟩) ?_ | refine wpF_valg (by rfl) (fun w' hE hD => by unfold Yld; go_simp; exact ⟨Ext.refl _, rfl⟩) ?_)
    (try simp only [Act.put, List.setIfInBounds_toArray, List.set_cons_zero, List.set_cons_succ])
    (first | refine wpF_val rfl (fun w' hE hD => by unfold Yld; go_simp; exact ⟨Ext.refl _, rfl⟩) ?_ | refine wpF_valg (by rfl) (fun w' hE hD => by unfold Yld; go_simp; exact ⟨Ext.refl _, rfl⟩) ?_)
    (try simp only [Act.put, List.setIfInBounds_toArray, List.set_cons_zero, List.set_cons_succ])
    (first | refine wpF_val rfl (fun w' hE hD => by unfold Yld; go_simp; exact (works_calls w').mono fun e w2 h => ⟨_, h.1, h.2, rfl⟩) ?_ | refine wpF_valg (by rfl) (fun w' hE hD => by unfold Yld; go_simp; exact (works_calls w').mono fun e w2 h => ⟨_, h.1, h.2, rfl⟩) ?_)
    (try simp only [Act.put, List.setIfInBounds_toArray, List.set_cons_zero, List.set_cons_succ])
    (first | refine wpF_val rfl (fun w' hE hD => by unfold Yld; go_simp; exact ⟨Ext.refl _, rfl⟩) ?_ | refine wpF_valg (by rfl) (fun w' hE hD => by unfold Yld; go_simp; exact ⟨Ext.refl _, rfl⟩) ?_)
    (try simp only [Act.put, List.setIfInBounds_toArray, List.set_cons_zero, List.set_cons_succ])
    (first | refine wpF_val rfl (fun w' hE hD => by unfold Yld; go_simp; exact ⟨Ext.refl _, rfl⟩) ?_ | refine wpF_valg (by rfl) (fun w' hE hD => by unfold Yld; go_simp; exact ⟨Ext.refl _, rfl⟩) ?_)
    (try simp only [Act.put, List.setIfInBounds_toArray, List.set_cons_zero, List.set_cons_succ])
    refine wpF_nil fun wc hEc hA => ?_
    simp only [List.drop_succ_cons, List.drop_zero]
    have HEc := Aside0.mk ((HE.out.trans HEb.out).trans hEc)
    clear hA hEc
    go_wp2_with fail
    go_ret
    exact ⟨rfl, HEc.out⟩
end Go.Proofs.Ythgdjgnbifakbaa.By

/- BatchForms: what Get takes, Put lays down. -/
namespace Go.Proofs.Ythgdjgnbifakbaa.By
open Go.RowKit Go.Proofs.Ythgdjgnbifakbaa.Reg Go.Proofs.YthgdjgnbifakbaaW.PrintWords Go.Proofs.YthgdjgnbifakbaaW.PrintLast Go.Proofs.YthgdjgnbifakbaaW.PrintMore
set_option linter.unusedVariables false
set_option linter.unusedSimpArgs false


set_option maxRecDepth 100000 in
set_option maxHeartbeats 8000000 in
theorem forms_calls (w : World) (A : Option Addr) (c n : Nat) (bs : List Int) (hn : n = bs.length) (hr : Kd.C kb w A n bs) (hc : n ≤ c) (hB : isB bs) :
    Calls Try.prog 12 #[.slice A n c] w fun e w' => e = .returned (.bool true) ∧ Ext w w' := by
  have HN := Aside0.mk hn
  have HR := Aside0.mk hr
  have HB := Aside0.mk hB
  clear hr hn hB
  by_cases hbig : (8192 : Int) < n
  · go_enter Try.func12, Try.ntmps12
    go_wp2_with fail
    refine (works_calls w).mono ?_
    rintro e w1 ⟨rfl, hE⟩
    go_wp2_with fail
    go_ret
    exact ⟨rfl, hE⟩
  have HGC := Aside0.mk (get_calls w A c n bs HN.out HR.out hc HB.out (by omega))
  have HOK := Aside0.mk (o_ok HB.out)
  have HPG := Aside0.mk (fun h => put_get HB.out h)
  have HOZ := Aside0.mk (fun h : ¬ gE bs = 0 => o_zero h)
  obtain ⟨st, hst⟩ : ∃ x, x = oSt bs := ⟨_, rfl⟩
  obtain ⟨pr, hpr⟩ : ∃ x, x = oPr bs := ⟨_, rfl⟩
  obtain ⟨nx, hnx⟩ : ∃ x, x = oNx bs := ⟨_, rfl⟩
  obtain ⟨es, hes⟩ : ∃ x, x = oEs bs := ⟨_, rfl⟩
  obtain ⟨F, hF⟩ : ∃ x, x = gE bs := ⟨_, rfl⟩
  rw [← hst, ← hpr, ← hnx, ← hes, ← hF] at HGC HPG HOZ
  rw [← hst, ← hpr, ← hnx, ← hes] at HOK
  clear hst hpr hnx hes hF
  go_enter Try.func12, Try.ntmps12
  go_wp2_with fail
  refine HGC.out.mono ?_
  rintro e w1 ⟨V, rfl, hR, hE⟩
  obtain ⟨A1, c1, hV, hc1, hC1⟩ := EB.reads hR
  obtain ⟨n1, hn1⟩ : ∃ x, x = es.length := ⟨_, rfl⟩
  rw [← hn1] at hV hc1 hC1
  subst hV
  have HN1 := Aside0.mk hn1
  have HE1 := Aside0.mk hE
  have HC1 := Aside0.mk hC1
  have HIS := Aside0.mk (show (Try.prog.info? 58).map (·.size) = some (smyC st pr nx (.slice A1 n1 c1)).length by rw [smyC_len HOK.out.2.1]; kernel_rfl)
  have HSS := Aside0.mk (show #[Value.int .i64 0, Value.int .u8 0, Value.int .u8 0, Value.int .u8 0, Value.int .u8 0, Value.int .u8 0, Value.int .u8 0, Value.int .u8 0, Value.int .u8 0, Value.int .u8 0, Value.int .u8 0, Value.int .u8 0, Value.int .u8 0, Value.int .u8 0, Value.int .u8 0, Value.int .u8 0, Value.int .u8 0, Value.int .u8 0, Value.int .u8 0, Value.int .u8 0, Value.int .u8 0, Value.int .u8 0, Value.int .u8 0, Value.int .u8 0, Value.int .u8 0, Value.int .u8 0, Value.int .u8 0, Value.int .u8 0, Value.int .u8 0, Value.int .u8 0, Value.int .u8 0, Value.int .u8 0, Value.int .u8 0, Value.int .i64 0, Value.slice none 0 0].size = (smyC st pr nx (.slice A1 n1 c1)).length by rw [smyC_len HOK.out.2.1]; rfl)
  clear hn1 hE hC1 hR HGC
  go_wp2_with (first | ((with_reducible refine gate_store (ty := 58) rfl ?_); (refine store_at rfl 58 _ _ rfl w1.heap.size (smyC st pr nx (.slice A1 n1 c1)) rfl rfl #[Value.int .i64 0, Value.int .u8 0, Value.int .u8 0, Value.int .u8 0, Value.int .u8 0, Value.int .u8 0, Value.int .u8 0, Value.int .u8 0, Value.int .u8 0, Value.int .u8 0, Value.int .u8 0, Value.int .u8 0, Value.int .u8 0, Value.int .u8 0, Value.int .u8 0, Value.int .u8 0, Value.int .u8 0, Value.int .u8 0, Value.int .u8 0, Value.int .u8 0, Value.int .u8 0, Value.int .u8 0, Value.int .u8 0, Value.int .u8 0, Value.int .u8 0, Value.int .u8 0, Value.int .u8 0, Value.int .u8 0, Value.int .u8 0, Value.int .u8 0, Value.int .u8 0, Value.int .u8 0, Value.int .u8 0, Value.int .i64 0, Value.slice none 0 0] 58 (Blk.new w1 _ 58) HSS.out HIS.out (smyC_one _ _ _ _ _ _) ?_)) | fail)
  intro w2 hW2 hB2
  have hx2 := hW2.ext ((Ext.refl w1).alloc _) (Nat.le_refl _)
  have HE2 := Aside0.mk (HE1.out.trans hx2)
  have HC2 := Aside0.mk (Kd.C_below HC1.out hx2)
  have HRW := Aside0.mk hB2.whole
  clear hW2 hB2 hx2 HE1 HC1
  generalize w1.heap.size = b3 at HRW ⊢
  by_cases hF0 : F = 0
  · subst hF0
    obtain ⟨hp1, hp2⟩ := HPG.out rfl
    have HPC := Aside0.mk (put_calls w2 st nx pr A1 c1 n1 es 0 hp2.symm HC2.out hc1 HOK.out.2.1 HOK.out.2.2.2.2)
    rw [show outP st pr nx es = bs by unfold outP; rw [if_pos hp2, hp1]] at HPC
    clear hp1 hp2
    go_wp2_with (first | ((with_reducible refine gate_load (ty := 58) rfl ?_); refine load_at rfl 58 _ rfl b3 0 rfl (smyC st pr nx (.slice A1 n1 c1)) _ HRW.out Try.underlying58 rfl HIS.out ?_) | fail)
    refine HPC.out.mono ?_
    rintro e w3 ⟨V, rfl, hN, hE⟩
    obtain ⟨A4, c4, hV, hc4, hC4⟩ := hN.reads
    rw [← HN.out] at hV hc4 hC4
    subst hV
    have HE3 := Aside0.mk (HE2.out.trans hE)
    have HSB := Aside0.mk (same_at w3 A4 A c4 c bs bs true HN.out HN.out (by simp) hC4 hc4 (Kd.C_below HR.out HE3.out) hc (by have := HN.out; omega))
    clear hN hE hC4 HPC
    go_wp2_with fail
    refine HSB.out.mono ?_
    rintro e w4 ⟨rfl, hE⟩
    have HE4 := Aside0.mk (HE3.out.trans hE)
    clear hE
    go_wp2_with fail
    refine (works_calls w4).mono ?_
    rintro e w5 ⟨rfl, hE⟩
    go_wp2_with fail
    go_ret
    exact ⟨rfl, HE4.out.trans hE⟩
  · have HZ := Aside0.mk (HOZ.out hF0)
    have HSM := Aside0.mk (sameS_calls w2 A1 none c1 0 n1 0 st 0 nx 0 pr zero32 es [] HN1.out rfl HC2.out (Kd.C_nil kTh w2) HOK.out.2.2.2.2 (fun e he => by cases he) (by rw [HN1.out, HZ.out.2.2.2]; exact Nat.zero_le _) HOK.out.2.1 zero32_length HOK.out.2.2.1 zero32_isB true (by rw [HZ.out.1, HZ.out.2.1, HZ.out.2.2.1, HZ.out.2.2.2]; simp))
    go_wp2_with (first | ((with_reducible refine gate_load (ty := 58) rfl ?_); refine load_at rfl 58 _ rfl b3 0 rfl (smyC st pr nx (.slice A1 n1 c1)) _ HRW.out Try.underlying58 rfl HIS.out ?_) | ((with_reducible refine gate_build (ty := 58) rfl ?_); refine build_at rfl 58 #[] rfl _ [] rfl built_smy0 ?_) | fail)
    refine HSM.out.mono ?_
    rintro e w4 ⟨rfl, hE⟩
    have HE4 := Aside0.mk (HE2.out.trans hE)
    clear hE
    go_wp2_with fail
    refine (works_calls w4).mono ?_
    rintro e w5 ⟨rfl, hE⟩
    go_wp2_with fail
    go_ret
    exact ⟨rfl, HE4.out.trans hE⟩
end Go.Proofs.Ythgdjgnbifakbaa.By

/- BatchBack: what Put lays down, Get takes. -/
namespace Go.Proofs.Ythgdjgnbifakbaa.By
open Go.RowKit Go.Proofs.Ythgdjgnbifakbaa.Reg Go.Proofs.YthgdjgnbifakbaaW.PrintWords Go.Proofs.YthgdjgnbifakbaaW.PrintLast Go.Proofs.YthgdjgnbifakbaaW.PrintMore
set_option linter.unusedVariables false
set_option linter.unusedSimpArgs false


set_option maxRecDepth 100000 in
set_option maxHeartbeats 8000000 in
theorem bback_calls (w : World) (A : Option Addr) (c n : Nat) (q : Smy) (hn : n = q.2.2.2.length) (hr : Kd.C kTh w A n q.2.2.2) (hc : n ≤ c) (hq : Smy.ok q) :
    Calls Try.prog 11 #[smyV q.1 q.2.1 q.2.2.1 (.slice A n c)] w fun e w' => e = .returned (.bool true) ∧ Ext w w' := by
  obtain ⟨st, pr, nx, es⟩ := q
  obtain ⟨hst, ⟨hp, hpB⟩, hnx, hes⟩ := hq
  dsimp only at *
  have HX := Aside0.mk hes
  have HN := Aside0.mk hn
  have HST := Aside0.mk hst
  have HNX := Aside0.mk hnx
  have HPL := Aside0.mk hp
  have HPB := Aside0.mk hpB
  have HK := Aside0.mk (Blk.new w (smyC st pr nx (.slice A n c)).toArray 58)
  have HE := Aside0.mk ((Ext.refl w).alloc (.cells (smyC st pr nx (.slice A n c)).toArray 58))
  have HC := Aside0.mk (Kd.C_below hr HE.out)
  have c34 := (smyBlk HK.out HPL.out).2.2.2
  have HIS := Aside0.mk (fun V => show (Try.prog.info? 58).map (·.size) = some (smyC st pr nx V).length by rw [smyC_len HPL.out]; kernel_rfl)
  have HSS := Aside0.mk (fun V => show #[Value.int .i64 0, Value.int .u8 0, Value.int .u8 0, Value.int .u8 0, Value.int .u8 0, Value.int .u8 0, Value.int .u8 0, Value.int .u8 0, Value.int .u8 0, Value.int .u8 0, Value.int .u8 0, Value.int .u8 0, Value.int .u8 0, Value.int .u8 0, Value.int .u8 0, Value.int .u8 0, Value.int .u8 0, Value.int .u8 0, Value.int .u8 0, Value.int .u8 0, Value.int .u8 0, Value.int .u8 0, Value.int .u8 0, Value.int .u8 0, Value.int .u8 0, Value.int .u8 0, Value.int .u8 0, Value.int .u8 0, Value.int .u8 0, Value.int .u8 0, Value.int .u8 0, Value.int .u8 0, Value.int .u8 0, Value.int .i64 0, Value.slice none 0 0].size = (smyC st pr nx V).length by rw [smyC_len HPL.out]; rfl)
  clear hst hp hpB hnx hes hn hr
  unfold smyV
  by_cases hbig : (300 : Int) < n
  · go_enter Try.func11, Try.ntmps11
    go_wp2_with fail
    refine (works_calls _).mono ?_
    rintro e w1 ⟨rfl, hE⟩
    go_wp2_with fail
    go_ret
    exact ⟨rfl, HE.out.trans hE⟩
  obtain ⟨F, hF⟩ : ∃ F, F = checkF st nx es := ⟨_, rfl⟩
  have HF := Aside0.mk hF
  obtain ⟨bs, hbs⟩ : ∃ b, b = outP st pr nx es := ⟨_, rfl⟩
  have HBS := Aside0.mk hbs
  have HPC := Aside0.mk (put_calls (w.alloc (.cells (smyC st pr nx (.slice A n c)).toArray 58)) st nx pr A c n es F hF HC.out hc HPL.out HX.out)
  rw [← hbs] at HPC
  have HRW := Aside0.mk HK.out.whole
  clear hF hbs HK
  go_enter Try.func11, Try.ntmps11
  go_wp2_with (first | ((with_reducible refine gate_load (ty := 58) rfl ?_); refine load_at rfl 58 _ rfl w.heap.size 0 rfl (smyC st pr nx (.slice A n c)) _ HRW.out Try.underlying58 rfl (HIS.out _) ?_) | fail)
  refine HPC.out.mono ?_
  rintro e w2 ⟨V, rfl, hN, hE⟩
  obtain ⟨A1, c1, hV, hc1, hC1⟩ := hN.reads
  obtain ⟨m, hm⟩ : ∃ m, m = bs.length := ⟨_, rfl⟩
  rw [← hm] at hV hc1 hC1
  subst hV
  have HM := Aside0.mk hm
  have HC1 := Aside0.mk hC1
  have HE2 := Aside0.mk (HE.out.trans hE)
  have HC2 := Aside0.mk (Kd.C_below HC.out hE)
  have HRW2 := Aside0.mk (rangeAt_ext HRW.out hE)
  replace c34 := Ext.cell hE c34
  clear hN hE hC1 hm HPC HRW HE HC
  generalize w.heap.size = b1 at HRW2 c34 ⊢
  have HRW := HRW2
  clear HRW2
  by_cases hF0 : F = 0
  · subst hF0
    have HB0 := Aside0.mk (show bs = smyB st pr nx es by rw [HBS.out]; unfold outP; rw [if_pos HF.out.symm])
    have HGP := Aside0.mk (get_put st nx pr es HST.out HNX.out HPL.out HX.out HF.out.symm)
    rw [← HB0.out] at HGP
    have HML := Aside0.mk (show m = 56 + 56 * n by rw [HM.out, HB0.out, smyB_len HPL.out HX.out, HN.out])
    have HN16 := Aside0.mk (show n ≤ 16 by rw [HN.out]; exact checkF_le HF.out.symm)
    have hm975 : (m : Int) ≤ 975 := by have := HML.out; have := HN16.out; omega
    have HGC := Aside0.mk (get_calls w2 A1 c1 m bs HM.out HC1.out hc1 (by rw [HB0.out]; exact smyB_isB HPB.out HX.out) (by have := HML.out; have := HN16.out; omega))
    rw [HGP.out.1, HGP.out.2.1, HGP.out.2.2.1, HGP.out.2.2.2.1, HGP.out.2.2.2.2] at HGC
    go_wp2_with fail
    refine HGC.out.mono ?_
    rintro e w3 ⟨V, rfl, hR, hE⟩
    obtain ⟨A2, c2, hV, hc2, hC2⟩ := EB.reads hR
    rw [← HN.out] at hV hc2 hC2
    subst hV
    have HD := Aside0.mk hC2
    have HE3 := Aside0.mk (HE2.out.trans hE)
    have HC3 := Aside0.mk (Kd.C_below HC2.out hE)
    have HRW3 := Aside0.mk (rangeAt_ext HRW.out hE)
    replace c34 := Ext.cell hE c34
    clear hE hR hC2 HGC HE2 HC2 HRW
    go_wp2_with (first | ((with_reducible refine gate_store (ty := 58) rfl ?_); (refine store_at rfl 58 _ _ rfl w3.heap.size (smyC st pr nx (.slice A2 n c2)) rfl rfl #[Value.int .i64 0, Value.int .u8 0, Value.int .u8 0, Value.int .u8 0, Value.int .u8 0, Value.int .u8 0, Value.int .u8 0, Value.int .u8 0, Value.int .u8 0, Value.int .u8 0, Value.int .u8 0, Value.int .u8 0, Value.int .u8 0, Value.int .u8 0, Value.int .u8 0, Value.int .u8 0, Value.int .u8 0, Value.int .u8 0, Value.int .u8 0, Value.int .u8 0, Value.int .u8 0, Value.int .u8 0, Value.int .u8 0, Value.int .u8 0, Value.int .u8 0, Value.int .u8 0, Value.int .u8 0, Value.int .u8 0, Value.int .u8 0, Value.int .u8 0, Value.int .u8 0, Value.int .u8 0, Value.int .u8 0, Value.int .i64 0, Value.slice none 0 0] 58 (Blk.new w3 _ 58) (HSS.out _) (HIS.out _) (smyC_one _ _ _ _ _ _) ?_)) | fail)
    intro w4 hW4 hB4
    have hx4 := hW4.ext ((Ext.refl w3).alloc _) (Nat.le_refl _)
    have HE4 := Aside0.mk (HE3.out.trans hx4)
    have HSM := Aside0.mk (sameS_calls w4 A2 A c2 c n n st st nx nx pr pr es es HN.out HN.out (Kd.C_below HD.out hx4) (Kd.C_below HC3.out hx4) HX.out HX.out (by have := HN16.out; omega) HPL.out HPL.out HPB.out HPB.out true (by simp))
    have HRW := Aside0.mk (rangeAt_ext HRW3.out hx4)
    have HRW2 := Aside0.mk hB4.whole
    clear hW4 hB4 hx4 HE3 HC3 HRW3 c34 HD
    generalize w3.heap.size = b2 at HRW2 ⊢
    go_wp2_with (first | ((with_reducible refine gate_load (ty := 58) rfl ?_); refine load_at rfl 58 _ rfl b1 0 rfl (smyC st pr nx (.slice A n c)) _ HRW.out Try.underlying58 rfl (HIS.out _) ?_) | ((with_reducible refine gate_load (ty := 58) rfl ?_); refine load_at rfl 58 _ rfl b2 0 rfl (smyC st pr nx (.slice A2 n c2)) _ HRW2.out Try.underlying58 rfl (HIS.out _) ?_) | fail)
    refine HSM.out.mono ?_
    rintro e w5 ⟨rfl, hE⟩
    have HE5 := Aside0.mk (HE4.out.trans hE)
    clear hE
    go_wp2_with fail
    refine (works_calls w5).mono ?_
    rintro e w6 ⟨rfl, hE⟩
    go_wp2_with fail
    go_ret
    exact ⟨rfl, HE5.out.trans hE⟩
  · have HM0 := Aside0.mk (show m = 0 by rw [HM.out, HBS.out]; unfold outP; rw [if_neg (by rw [← HF.out]; exact hF0)]; rfl)
    have hm0 := HM0.out
    subst hm0
    have hFe : (F == F) = true := by simp
    have HCK := Aside0.mk (check_calls w2 st nx pr A c n es HC2.out hc HPL.out HX.out)
    rw [← HF.out] at HCK
    go_wp2_with (first | ((with_reducible refine gate_load (ty := 58) rfl ?_); refine load_at rfl 58 _ rfl b1 0 rfl (smyC st pr nx (.slice A n c)) _ HRW.out Try.underlying58 rfl (HIS.out _) ?_) | fail)
    refine HCK.out.mono ?_
    rintro e w5 ⟨rfl, hE⟩
    have HE5 := Aside0.mk (HE2.out.trans hE)
    clear hE
    go_wp2_with fail
    refine (works_calls w5).mono ?_
    rintro e w6 ⟨rfl, hE⟩
    go_wp2_with fail
    go_ret
    exact ⟨rfl, HE5.out.trans hE⟩
end Go.Proofs.Ythgdjgnbifakbaa.By

/- BatchAdds, first part: the plain law of a trim put in; CopyEntries. -/
namespace Go.Proofs.Ythgdjgnbifakbaa.By
open Go.RowKit Go.Proofs.Ythgdjgnbifakbaa.Reg Go.Proofs.YthgdjgnbifakbaaW.PrintWords Go.Proofs.YthgdjgnbifakbaaW.PrintLast Go.Proofs.YthgdjgnbifakbaaW.PrintMore
set_option linter.unusedVariables false
set_option linter.unusedSimpArgs false


/-! ### the plain law: a trim put in keeps the check -/
theorem chkL_app : ∀ (A B : List Th) (l : Int), chkL (A ++ B) l = if chkL A l ≠ 0 then chkL A l else chkL B (A.foldl (fun l e => nextL e l) l)
  | [], B, l => by rw [List.nil_append, show chkL [] l = 0 from rfl, if_neg (by simp)]; rfl
  | e :: A, B, l => by
    rw [List.cons_append, chkL, chkL]
    by_cases h : chkE e l ≠ 0
    · rw [if_pos h, if_pos h, if_pos h]
    · rw [if_neg h, if_neg h, chkL_app A B]
      rfl
abbrev trimE (q : Int) : Th := (2, q, 0, zero32)
theorem trim_chk (q l : Int) (h0 : 0 ≤ q) (h1 : q < 64) : chkE (trimE q) l = 0 := by
  refine chkE_2 ⟨show (1 : Int) ≤ 2 by decide, show (2 : Int) ≤ 3 by decide⟩ ?_ rfl
  unfold placedF
  rw [if_neg (show ¬ (2 : Int) = 3 by decide)]
  rw [show decide (0 ≤ (trimE q).2.1) = true from decide_eq_true h0, show decide ((trimE q).2.1 ≤ 63) = true from decide_eq_true (show q ≤ 63 by omega), show decide (0 ≤ (trimE q).2.2.1) = true from rfl, show decide ((trimE q).2.2.1 ≤ 63) = true from rfl, show ((trimE q).2.2.1 == 0) = true from rfl, show decide ((trimE q).2.2.2 = zero32) = true from decide_eq_true rfl]
  rfl
theorem trim_ok (q : Int) (h0 : 0 ≤ q) (h1 : q < 64) : Th.ok (trimE q) := ⟨⟨show (-9223372036854775808 : Int) ≤ 2 by decide, show (2 : Int) ≤ 9223372036854775807 by decide⟩, ⟨show -9223372036854775808 ≤ q by omega, show q ≤ 9223372036854775807 by omega⟩, ⟨show (-9223372036854775808 : Int) ≤ 0 by decide, show (0 : Int) ≤ 9223372036854775807 by decide⟩, zero32_length, zero32_isB⟩
def addL (es : List Th) (m : Nat) (q : Int) : List Th := es.take m ++ trimE q :: es.drop m
theorem addL_len (es : List Th) (m : Nat) (q : Int) : (addL es m q).length = es.length + 1 := by
  unfold addL
  rw [List.length_append, List.length_cons, List.length_take, List.length_drop]
  omega
theorem addL_ok {es : List Th} (h : ∀ e ∈ es, Th.ok e) (m : Nat) (q : Int) (h0 : 0 ≤ q) (h1 : q < 64) : ∀ e ∈ addL es m q, Th.ok e := by
  intro e he
  unfold addL at he
  rcases List.mem_append.1 he with he | he
  · exact h e (List.mem_of_mem_take he)
  · rcases List.mem_cons.1 he with rfl | he
    · exact trim_ok q h0 h1
    · exact h e (List.mem_of_mem_drop he)
theorem chkL_add (es : List Th) (m : Nat) (q : Int) (h0 : 0 ≤ q) (h1 : q < 64) (l : Int) (h : chkL es l = 0) : chkL (addL es m q) l = 0 := by
  have e := List.take_append_drop m es
  rw [← e, chkL_app] at h
  unfold addL
  rw [chkL_app]
  by_cases hc : chkL (es.take m) l ≠ 0
  · rw [if_pos hc] at h; exact absurd h hc
  · rw [if_neg hc] at h ⊢
    rw [chkL, trim_chk q _ h0 h1, if_neg (by simp), nextL_2 rfl]
    exact h
theorem check_parts {st nx : Int} {es : List Th} (h : checkF st nx es = 0) : es.length ≤ 16 ∧ (0 ≤ st ∧ st ≤ 1099511627776) ∧ (-1 ≤ nx ∧ nx ≤ 31) ∧ chkL es (-1) = 0 := by
  unfold checkF at h
  split at h
  · cases h
  · split at h
    · cases h
    · rename_i h1 h2
      exact ⟨by omega, by omega, by omega, h⟩
theorem check_add {st nx : Int} {es : List Th} (h : checkF st nx es = 0) (m : Nat) (q : Int) (h0 : 0 ≤ q) (h1 : q < 64) : checkF st nx (addL es m q) = if es.length = 16 then 17 else 0 := by
  obtain ⟨a, b, c, d⟩ := check_parts h
  unfold checkF
  rw [addL_len]
  by_cases hl : es.length = 16
  · rw [if_pos hl, if_pos (by omega)]
  · rw [if_neg hl, if_neg (by omega), if_neg (by omega)]
    exact chkL_add es m q h0 h1 _ d
theorem check_take {st nx : Int} {es : List Th} (h : checkF st nx es = 0) (m : Nat) : checkF st nx (es.take m) = 0 := by
  obtain ⟨a, b, c, d⟩ := check_parts h
  have e := List.take_append_drop m es
  rw [← e, chkL_app] at d
  unfold checkF
  rw [if_neg (by rw [List.length_take]; omega), if_neg (by omega)]
  by_cases hc : chkL (es.take m) (-1) ≠ 0
  · rw [if_pos hc] at d; exact absurd d hc
  · omega

section
variable {P : Program} {ops : Array Oper} {rest : List Oper} {o : Oper} {a : Act} {Q : Exit → Act → World → Prop} {w : World}
theorem slice1_at (hw : Region.wanted o (yielded ops a.tmps) = true) (t e : TypeId) (x : Operand) (ho : o.op = .buildSlice t 1 #[(0, x)])
    (cells : Array Value) (hx : a.eval x = .agg cells) (ie : TypeInfo) (z : Value) (hu : P.underlying t = some (.slice e)) (hie : P.info? e = some ie) (hz : ie.zero = some z) (hsmall : ¬ 1 * ie.size > 2 ^ 24) (hpos : ¬ 1 * ie.size = 0)
    (hf : Instr.fill (fun i => some (i * ie.size, ie.size)) ((Array.range (1 * ie.size)).map (z.cells[· % z.cells.size]!)) [(0, .agg cells)] = some cells)
    (h : wpList P ops Q rest (a.put o.dst (.slice (some ⟨w.heap.size, 0, none⟩) 1 1)) (w.alloc (.cells cells e))) : wpList P ops Q (o :: rest) a w :=
  BigFrame.wpList_want hw fun _ hK => wp_slice1 t e x ho cells hx ie z hu hie hz hsmall hpos hf (hK _ _ h)
end
theorem C_cutE {w : World} {A : Option Addr} {n : Nat} {X : List Th} (h : Kd.C kTh w A n X) (m : Nat) (hm : m ≤ n) : Kd.C kTh w A m (X.take m) := by
  have hn := h.1
  refine ⟨by rw [List.length_take]; omega, Nat.le_trans hm h.2.1, fun hp => ?_⟩
  obtain ⟨ad, e, f⟩ := h.2.2 (by omega)
  refine ⟨ad, e, fun j p hj => f j p ?_⟩
  rw [List.getElem?_take] at hj
  split at hj
  · exact hj
  · cases hj
set_option maxRecDepth 100000 in
set_option maxHeartbeats 8000000 in
theorem copyE_calls (w : World) (A : Option Addr) (n c : Nat) (es : List Th) (hn : n = es.length) (hr : Kd.C kTh w A n es) (hc : n ≤ c) (hok : ∀ e ∈ es, Th.ok e) (hl : n ≤ 1000000) :
    Calls Try.prog 57 #[.slice A n c] w fun e w' => ∃ V, e = .returned V ∧ EB w' w.heap.size V es ∧ Ext w w' := by
  have HN := Aside0.mk hn
  have HR := Aside0.mk hr
  have HOK := Aside0.mk hok
  have HIN : Aside0 ((Try.prog.info? 73).map (fun i => (i.zero, i.size, i.bytes)) = some (some (Value.agg #[Value.int .i64 0, Value.int .i64 0, Value.int .i64 0, Value.int .u8 0, Value.int .u8 0, Value.int .u8 0, Value.int .u8 0, Value.int .u8 0, Value.int .u8 0, Value.int .u8 0, Value.int .u8 0, Value.int .u8 0, Value.int .u8 0, Value.int .u8 0, Value.int .u8 0, Value.int .u8 0, Value.int .u8 0, Value.int .u8 0, Value.int .u8 0, Value.int .u8 0, Value.int .u8 0, Value.int .u8 0, Value.int .u8 0, Value.int .u8 0, Value.int .u8 0, Value.int .u8 0, Value.int .u8 0, Value.int .u8 0, Value.int .u8 0, Value.int .u8 0, Value.int .u8 0, Value.int .u8 0, Value.int .u8 0, Value.int .u8 0, Value.int .u8 0]), 35, 56)) := ⟨by kernel_rfl⟩
  have HE0 := Aside0.mk (Ext.refl w)
  obtain ⟨ie, hie, hx⟩ := Option.map_eq_some_iff.1 HIN.out
  have hz : ie.zero = some (Value.agg #[Value.int .i64 0, Value.int .i64 0, Value.int .i64 0, Value.int .u8 0, Value.int .u8 0, Value.int .u8 0, Value.int .u8 0, Value.int .u8 0, Value.int .u8 0, Value.int .u8 0, Value.int .u8 0, Value.int .u8 0, Value.int .u8 0, Value.int .u8 0, Value.int .u8 0, Value.int .u8 0, Value.int .u8 0, Value.int .u8 0, Value.int .u8 0, Value.int .u8 0, Value.int .u8 0, Value.int .u8 0, Value.int .u8 0, Value.int .u8 0, Value.int .u8 0, Value.int .u8 0, Value.int .u8 0, Value.int .u8 0, Value.int .u8 0, Value.int .u8 0, Value.int .u8 0, Value.int .u8 0, Value.int .u8 0, Value.int .u8 0, Value.int .u8 0]) := congrArg (·.1) hx
  have hsz : ie.size = 35 := congrArg (·.2.1) hx
  have HSL := Aside0.mk (⟨hie, hz, by rw [hsz]; decide, by rw [hsz]; decide, fun (e : Th) (he : e.2.2.2.length = 32) => by rw [hsz]; exact fill_th e he⟩ : Try.prog.info? 73 = some ie ∧ ie.zero = some (Value.agg #[Value.int .i64 0, Value.int .i64 0, Value.int .i64 0, Value.int .u8 0, Value.int .u8 0, Value.int .u8 0, Value.int .u8 0, Value.int .u8 0, Value.int .u8 0, Value.int .u8 0, Value.int .u8 0, Value.int .u8 0, Value.int .u8 0, Value.int .u8 0, Value.int .u8 0, Value.int .u8 0, Value.int .u8 0, Value.int .u8 0, Value.int .u8 0, Value.int .u8 0, Value.int .u8 0, Value.int .u8 0, Value.int .u8 0, Value.int .u8 0, Value.int .u8 0, Value.int .u8 0, Value.int .u8 0, Value.int .u8 0, Value.int .u8 0, Value.int .u8 0, Value.int .u8 0, Value.int .u8 0, Value.int .u8 0, Value.int .u8 0, Value.int .u8 0]) ∧ (¬ 1 * ie.size > 2 ^ 24) ∧ (¬ 1 * ie.size = 0) ∧ (∀ e : Th, e.2.2.2.length = 32 → Instr.fill (fun i => some (i * ie.size, ie.size)) ((Array.range (1 * ie.size)).map ((Value.agg #[Value.int .i64 0, Value.int .i64 0, Value.int .i64 0, Value.int .u8 0, Value.int .u8 0, Value.int .u8 0, Value.int .u8 0, Value.int .u8 0, Value.int .u8 0, Value.int .u8 0, Value.int .u8 0, Value.int .u8 0, Value.int .u8 0, Value.int .u8 0, Value.int .u8 0, Value.int .u8 0, Value.int .u8 0, Value.int .u8 0, Value.int .u8 0, Value.int .u8 0, Value.int .u8 0, Value.int .u8 0, Value.int .u8 0, Value.int .u8 0, Value.int .u8 0, Value.int .u8 0, Value.int .u8 0, Value.int .u8 0, Value.int .u8 0, Value.int .u8 0, Value.int .u8 0, Value.int .u8 0, Value.int .u8 0, Value.int .u8 0, Value.int .u8 0]).cells[· % (Value.agg #[Value.int .i64 0, Value.int .i64 0, Value.int .i64 0, Value.int .u8 0, Value.int .u8 0, Value.int .u8 0, Value.int .u8 0, Value.int .u8 0, Value.int .u8 0, Value.int .u8 0, Value.int .u8 0, Value.int .u8 0, Value.int .u8 0, Value.int .u8 0, Value.int .u8 0, Value.int .u8 0, Value.int .u8 0, Value.int .u8 0, Value.int .u8 0, Value.int .u8 0, Value.int .u8 0, Value.int .u8 0, Value.int .u8 0, Value.int .u8 0, Value.int .u8 0, Value.int .u8 0, Value.int .u8 0, Value.int .u8 0, Value.int .u8 0, Value.int .u8 0, Value.int .u8 0, Value.int .u8 0, Value.int .u8 0, Value.int .u8 0, Value.int .u8 0]).cells.size]!)) [(0, .agg (thC e).toArray)] = some (thC e).toArray))
  clear hn hr hok hx hz hsz hie
  go_enter Try.func57, Try.ntmps57
  go_wp2_with fail
  go_loopw [3, 4] (fun v i wr => ∃ x : Nat, i = .int .i64 x ∧ Aside0 (x ≤ n) ∧ Aside0 (EB wr w.heap.size v (es.take x)) ∧ Aside0 (Ext w wr)) (fun _ i _ => n - (intOf i).toNat)
  case atStart => exact ⟨0, rfl, ⟨Nat.zero_le _⟩, ⟨EB.nil _ _⟩, HE0⟩
  case round =>
    clear HE0
    obtain ⟨x, rfl, HX, HV, HE⟩ := hrel
    have g1 := HX.out
    obtain ⟨wx, hwx⟩ : ∃ wx : World, wx = wr := ⟨_, rfl⟩
    subst hwx
    obtain ⟨V, hV⟩ : ∃ V, V = u3 := ⟨_, rfl⟩
    subst hV
    obtain ⟨A1, C1, hV1, _, _⟩ := EB.reads HV.out
    obtain ⟨N1, hN1⟩ : ∃ N1, N1 = (es.take x).length := ⟨_, rfl⟩
    rw [← hN1] at hV1
    subst hV1
    have HN1 := Aside0.mk hN1
    clear hN1
    by_cases hlt : x < n
    · have HLT := Aside0.mk hlt
      have hxe : x < es.length := by have := HN.out; omega
      obtain ⟨b, off, hA, hrg⟩ := th_at (Kd.C_below HR.out HE.out) x hlt _ (List.getElem?_eq_getElem hxe)
      have ho := HOK.out _ (List.getElem_mem hxe)
      have hq : es.take (x + 1) = es.take x ++ [es[x]] := List.take_succ_eq_append_getElem hxe
      generalize es[x] = q at hrg ho hq
      subst hA
      have HQ := Aside0.mk hq
      have HO := Aside0.mk ho
      have HG1 := Aside0.mk hrg
      have HI1 := Aside0.mk (show (Try.prog.info? 73).map (·.size) = some (thC q).length by rw [thC_len ho.2.2.2.1]; kernel_rfl)
      have HL1 := Aside0.mk (show ((es.take x).length + 1) * 56 ≤ 140737488355328 by rw [List.length_take]; omega)
      have HBS := Aside0.mk (show w.heap.size ≤ wx.heap.size from HE.out.size)
      clear hq ho hrg hxe
      go_wp2_with (first | ((with_reducible refine gate_load (ty := 73) rfl ?_); refine load_at rfl 73 _ rfl b (off + x * 35) rfl (thC q) _ HG1.out Try.underlying73 rfl HI1.out ?_) | ((with_reducible refine gate_slice (ty := 56) rfl ?_); refine slice1_at rfl 56 73 _ rfl (thC q).toArray rfl ie (Value.agg #[Value.int .i64 0, Value.int .i64 0, Value.int .i64 0, Value.int .u8 0, Value.int .u8 0, Value.int .u8 0, Value.int .u8 0, Value.int .u8 0, Value.int .u8 0, Value.int .u8 0, Value.int .u8 0, Value.int .u8 0, Value.int .u8 0, Value.int .u8 0, Value.int .u8 0, Value.int .u8 0, Value.int .u8 0, Value.int .u8 0, Value.int .u8 0, Value.int .u8 0, Value.int .u8 0, Value.int .u8 0, Value.int .u8 0, Value.int .u8 0, Value.int .u8 0, Value.int .u8 0, Value.int .u8 0, Value.int .u8 0, Value.int .u8 0, Value.int .u8 0, Value.int .u8 0, Value.int .u8 0, Value.int .u8 0, Value.int .u8 0, Value.int .u8 0]) Try.underlying56 HSL.out.1 HSL.out.2.1 HSL.out.2.2.1 HSL.out.2.2.2.1 (HSL.out.2.2.2.2 q HO.out.2.2.2.1) ?_) | (at_builtin; refine Kd.R_append kTh (w0 := wx) w.heap.size rfl (.tmp 11) (.tmp 16) 56 73 (Value.agg #[Value.int .i64 0, Value.int .i64 0, Value.int .i64 0, Value.int .u8 0, Value.int .u8 0, Value.int .u8 0, Value.int .u8 0, Value.int .u8 0, Value.int .u8 0, Value.int .u8 0, Value.int .u8 0, Value.int .u8 0, Value.int .u8 0, Value.int .u8 0, Value.int .u8 0, Value.int .u8 0, Value.int .u8 0, Value.int .u8 0, Value.int .u8 0, Value.int .u8 0, Value.int .u8 0, Value.int .u8 0, Value.int .u8 0, Value.int .u8 0, Value.int .u8 0, Value.int .u8 0, Value.int .u8 0, Value.int .u8 0, Value.int .u8 0, Value.int .u8 0, Value.int .u8 0, Value.int .u8 0, Value.int .u8 0, Value.int .u8 0, Value.int .u8 0]) 56 rfl Try.underlying56 HIN.out rfl (by decide) (by decide) (.slice A1 N1 C1) (es.take x) q (thC q) (fun _ => True) (fun _ => False) rfl rfl (th_cells_of q HO.out.2.2.2.1 wx wx w.heap.size (fun _ => False)) (fun _ hk => hk.elim) (fun _ _ => trivial) HV.out (Below.refl _ _) HBS.out HL1.out ?_) | fail)
      intro V1 w1 hR hBl _ _
      have HV1 := Aside0.mk (show EB w1 w.heap.size V1 (es.take (x + 1)) by rw [HQ.out]; exact hR)
      have HE1 := Aside0.mk (show Ext w w1 from Below.trans HE.out hBl)
      obtain ⟨A2, C2, hV2, _, _⟩ := EB.reads hR
      obtain ⟨N2, hN2⟩ : ∃ N2, N2 = (es.take x ++ [q]).length := ⟨_, rfl⟩
      rw [← hN2] at hV2
      subst hV2
      clear hR hBl hN2
      go_wp2_with fail
      go_roundw
      case rel => exact ⟨x + 1, by go_num, ⟨hlt⟩, HV1, HE1⟩
      case measure => have := HLT.out; simp only [intOf]; omega
    · have HFV := Aside0.mk (show EB wx w.heap.size (.slice A1 N1 C1) es by
        have := HV.out
        rwa [List.take_of_length_le (by have := HN.out; omega)] at this)
      clear HV
      go_wp2_with fail
      go_ret
      exact ⟨_, rfl, HFV.out, HE.out⟩
end Go.Proofs.Ythgdjgnbifakbaa.By

/- BatchAdds: a trim more, at any place; one entry less. -/
namespace Go.Proofs.Ythgdjgnbifakbaa.By
open Go.RowKit Go.Proofs.Ythgdjgnbifakbaa.Reg Go.Proofs.YthgdjgnbifakbaaW.PrintWords Go.Proofs.YthgdjgnbifakbaaW.PrintLast Go.Proofs.YthgdjgnbifakbaaW.PrintMore
set_option linter.unusedVariables false
set_option linter.unusedSimpArgs false


theorem built_t (q : Int) : Program.built Try.prog 73 [(0, .int .i64 2), (1, .int .i64 q)] = some (thC (trimE q)).toArray := by kernel_rfl
theorem run_load_at {P : Program} {w : World} {o : Oper} {a : Act} (ty : TypeId) (x : Operand) (ho : o.op = .load ty x) (b off : Nat) (hx : a.eval x = .pointer (some ⟨b, off, none⟩)) (cs : List Value) (d : TypeDesc) (hc : w.rangeAt b off cs)
    (hu : P.underlying ty = some d) (hd : d.isRow = true) (hi : (P.info? ty).map (·.size) = some cs.length) : (execOp a.eval o).run P w = .ok (.value (.agg cs.toArray)) w := by
  unfold execOp
  simp only [ho, hx, Instr.loadAt, Instr.sureAddr, Sem.run_bind, Sem.run_pure, Result.andThen_ok, run_loadVar_mid w b off ty cs d hc hu hd hi]
def addX (es : List Th) (m : Nat) (q : Int) (x : Nat) : List Th := es.take m ++ trimE q :: (es.take x).drop m
theorem addX_0 (es : List Th) (m : Nat) (q : Int) : addX es m q m = es.take m ++ [trimE q] := by
  unfold addX
  rw [List.drop_take_self]
theorem addX_s (es : List Th) (m : Nat) (q : Int) (x : Nat) (hm : m ≤ x) (hx : x < es.length) : addX es m q (x + 1) = addX es m q x ++ [es[x]] := by
  unfold addX
  rw [List.take_succ_eq_append_getElem hx, List.drop_append_of_le_length (by rw [List.length_take]; omega), List.append_assoc, List.cons_append]
theorem addX_n (es : List Th) (m : Nat) (q : Int) : addX es m q es.length = addL es m q := by
  unfold addX addL
  rw [List.take_length]
theorem addX_len (es : List Th) (m : Nat) (q : Int) (x : Nat) (hm : m ≤ x) (hx : x ≤ es.length) : (addX es m q x).length = x + 1 := by
  unfold addX
  rw [List.length_append, List.length_cons, List.length_drop, List.length_take, List.length_take]
  omega
def SX (b9 b1 : Nat) (V V1 : Value) (b o : Nat) (cs : List Value) (w' : World) : Prop := w'.cell? ⟨b9, 34, none⟩ = some V ∧ w'.cell? ⟨b1, 34, none⟩ = some V1 ∧ w'.rangeAt b o cs
set_option maxRecDepth 100000 in
set_option maxHeartbeats 16000000 in
theorem adds_calls (w : World) (A : Option Addr) (c n : Nat) (q : Smy) (at_ bl : Int) (hn : n = q.2.2.2.length) (hr : Kd.C kTh w A n q.2.2.2) (hc : n ≤ c) (hq : Smy.ok q) (hat : -9223372036854775808 ≤ at_ ∧ at_ ≤ 9223372036854775807) (hbl : -9223372036854775808 ≤ bl ∧ bl ≤ 9223372036854775807) :
    Calls Try.prog 15 #[smyV q.1 q.2.1 q.2.2.1 (.slice A n c), .int .i64 at_, .int .i64 bl] w fun e w' => e = .returned (.bool true) ∧ Ext w w' := by
  obtain ⟨st, pr, nx, es⟩ := q
  obtain ⟨hst, ⟨hp, hpB⟩, hnx, hes⟩ := hq
  dsimp only at *
  have HX := Aside0.mk hes
  have HN := Aside0.mk hn
  have HPL := Aside0.mk hp
  have HK := Aside0.mk (Blk.new w (smyC st pr nx (.slice A n c)).toArray 58)
  have HE := Aside0.mk ((Ext.refl w).alloc (.cells (smyC st pr nx (.slice A n c)).toArray 58))
  have HC0 := Aside0.mk hr
  have c34 := (smyBlk HK.out HPL.out).2.2.2
  have HIS := Aside0.mk (fun V => show (Try.prog.info? 58).map (·.size) = some (smyC st pr nx V).length by rw [smyC_len HPL.out]; kernel_rfl)
  have HSS := Aside0.mk (fun V => show #[Value.int .i64 0, Value.int .u8 0, Value.int .u8 0, Value.int .u8 0, Value.int .u8 0, Value.int .u8 0, Value.int .u8 0, Value.int .u8 0, Value.int .u8 0, Value.int .u8 0, Value.int .u8 0, Value.int .u8 0, Value.int .u8 0, Value.int .u8 0, Value.int .u8 0, Value.int .u8 0, Value.int .u8 0, Value.int .u8 0, Value.int .u8 0, Value.int .u8 0, Value.int .u8 0, Value.int .u8 0, Value.int .u8 0, Value.int .u8 0, Value.int .u8 0, Value.int .u8 0, Value.int .u8 0, Value.int .u8 0, Value.int .u8 0, Value.int .u8 0, Value.int .u8 0, Value.int .u8 0, Value.int .u8 0, Value.int .i64 0, Value.slice none 0 0].size = (smyC st pr nx V).length by rw [smyC_len HPL.out]; rfl)
  have HIN : Aside0 ((Try.prog.info? 73).map (fun i => (i.zero, i.size, i.bytes)) = some (some (Value.agg #[Value.int .i64 0, Value.int .i64 0, Value.int .i64 0, Value.int .u8 0, Value.int .u8 0, Value.int .u8 0, Value.int .u8 0, Value.int .u8 0, Value.int .u8 0, Value.int .u8 0, Value.int .u8 0, Value.int .u8 0, Value.int .u8 0, Value.int .u8 0, Value.int .u8 0, Value.int .u8 0, Value.int .u8 0, Value.int .u8 0, Value.int .u8 0, Value.int .u8 0, Value.int .u8 0, Value.int .u8 0, Value.int .u8 0, Value.int .u8 0, Value.int .u8 0, Value.int .u8 0, Value.int .u8 0, Value.int .u8 0, Value.int .u8 0, Value.int .u8 0, Value.int .u8 0, Value.int .u8 0, Value.int .u8 0, Value.int .u8 0, Value.int .u8 0]), 35, 56)) := ⟨by kernel_rfl⟩
  obtain ⟨ie, hie, hx⟩ := Option.map_eq_some_iff.1 HIN.out
  have hz : ie.zero = some (Value.agg #[Value.int .i64 0, Value.int .i64 0, Value.int .i64 0, Value.int .u8 0, Value.int .u8 0, Value.int .u8 0, Value.int .u8 0, Value.int .u8 0, Value.int .u8 0, Value.int .u8 0, Value.int .u8 0, Value.int .u8 0, Value.int .u8 0, Value.int .u8 0, Value.int .u8 0, Value.int .u8 0, Value.int .u8 0, Value.int .u8 0, Value.int .u8 0, Value.int .u8 0, Value.int .u8 0, Value.int .u8 0, Value.int .u8 0, Value.int .u8 0, Value.int .u8 0, Value.int .u8 0, Value.int .u8 0, Value.int .u8 0, Value.int .u8 0, Value.int .u8 0, Value.int .u8 0, Value.int .u8 0, Value.int .u8 0, Value.int .u8 0, Value.int .u8 0]) := congrArg (·.1) hx
  have hsz : ie.size = 35 := congrArg (·.2.1) hx
  have HSL := Aside0.mk (⟨hie, hz, by rw [hsz]; decide, by rw [hsz]; decide, fun (e : Th) (he : e.2.2.2.length = 32) => by rw [hsz]; exact fill_th e he⟩ : Try.prog.info? 73 = some ie ∧ ie.zero = some (Value.agg #[Value.int .i64 0, Value.int .i64 0, Value.int .i64 0, Value.int .u8 0, Value.int .u8 0, Value.int .u8 0, Value.int .u8 0, Value.int .u8 0, Value.int .u8 0, Value.int .u8 0, Value.int .u8 0, Value.int .u8 0, Value.int .u8 0, Value.int .u8 0, Value.int .u8 0, Value.int .u8 0, Value.int .u8 0, Value.int .u8 0, Value.int .u8 0, Value.int .u8 0, Value.int .u8 0, Value.int .u8 0, Value.int .u8 0, Value.int .u8 0, Value.int .u8 0, Value.int .u8 0, Value.int .u8 0, Value.int .u8 0, Value.int .u8 0, Value.int .u8 0, Value.int .u8 0, Value.int .u8 0, Value.int .u8 0, Value.int .u8 0, Value.int .u8 0]) ∧ (¬ 1 * ie.size > 2 ^ 24) ∧ (¬ 1 * ie.size = 0) ∧ (∀ e : Th, e.2.2.2.length = 32 → Instr.fill (fun i => some (i * ie.size, ie.size)) ((Array.range (1 * ie.size)).map ((Value.agg #[Value.int .i64 0, Value.int .i64 0, Value.int .i64 0, Value.int .u8 0, Value.int .u8 0, Value.int .u8 0, Value.int .u8 0, Value.int .u8 0, Value.int .u8 0, Value.int .u8 0, Value.int .u8 0, Value.int .u8 0, Value.int .u8 0, Value.int .u8 0, Value.int .u8 0, Value.int .u8 0, Value.int .u8 0, Value.int .u8 0, Value.int .u8 0, Value.int .u8 0, Value.int .u8 0, Value.int .u8 0, Value.int .u8 0, Value.int .u8 0, Value.int .u8 0, Value.int .u8 0, Value.int .u8 0, Value.int .u8 0, Value.int .u8 0, Value.int .u8 0, Value.int .u8 0, Value.int .u8 0, Value.int .u8 0, Value.int .u8 0, Value.int .u8 0]).cells[· % (Value.agg #[Value.int .i64 0, Value.int .i64 0, Value.int .i64 0, Value.int .u8 0, Value.int .u8 0, Value.int .u8 0, Value.int .u8 0, Value.int .u8 0, Value.int .u8 0, Value.int .u8 0, Value.int .u8 0, Value.int .u8 0, Value.int .u8 0, Value.int .u8 0, Value.int .u8 0, Value.int .u8 0, Value.int .u8 0, Value.int .u8 0, Value.int .u8 0, Value.int .u8 0, Value.int .u8 0, Value.int .u8 0, Value.int .u8 0, Value.int .u8 0, Value.int .u8 0, Value.int .u8 0, Value.int .u8 0, Value.int .u8 0, Value.int .u8 0, Value.int .u8 0, Value.int .u8 0, Value.int .u8 0, Value.int .u8 0, Value.int .u8 0, Value.int .u8 0]).cells.size]!)) [(0, .agg (thC e).toArray)] = some (thC e).toArray))
  obtain ⟨F, hF⟩ : ∃ F, F = checkF st nx es := ⟨_, rfl⟩
  have HF := Aside0.mk hF
  have HCK := Aside0.mk (fun (W : World) (h : Ext w W) => check_calls W st nx pr A c n es (Kd.C_below hr h) hc hp hes)
  rw [← hF] at HCK
  have HPC := Aside0.mk (fun (W : World) (h : Ext w W) => put_calls W st nx pr A c n es F hF (Kd.C_below hr h) hc hp hes)
  have HAT := Aside0.mk hat
  have HBL := Aside0.mk hbl
  clear hst hp hpB hnx hes hn hr hF hat hbl hz hsz hx
  unfold smyV
  by_cases hbig : (300 : Int) < n
  · go_enter Try.func15, Try.ntmps15
    go_wp2_with fail
    refine (works_calls _).mono ?_
    rintro e w1 ⟨rfl, hE⟩
    go_wp2_with fail
    go_ret
    exact ⟨rfl, HE.out.trans hE⟩
  have HRW1 := Aside0.mk HK.out.whole
  go_enter Try.func15, Try.ntmps15
  go_wp2_with (first | ((with_reducible refine gate_load (ty := 58) rfl ?_); refine load_at rfl 58 _ rfl w.heap.size 0 rfl (smyC st pr nx (.slice A n c)) _ HRW1.out Try.underlying58 rfl (HIS.out _) ?_) | fail)
  refine (HCK.out _ HE.out).mono ?_
  rintro e w2 ⟨rfl, hE⟩
  obtain ⟨b1, hb1⟩ : ∃ b1, b1 = w.heap.size := ⟨_, rfl⟩
  rw [← hb1] at HK HRW1 c34 ⊢
  clear hb1
  replace HK := Aside0.mk (HK.out.ext hE)
  replace HE := Aside0.mk (HE.out.trans hE)
  replace HRW1 := Aside0.mk HK.out.whole
  replace c34 := Ext.cell hE c34
  clear hE
  by_cases z1 : F = 0
  case neg =>
    go_wp2_with fail
    refine (works_calls _).mono ?_
    rintro e w5 ⟨rfl, hE⟩
    go_wp2_with fail
    go_ret
    exact ⟨rfl, HE.out.trans hE⟩
  subst z1
  have HN16 := Aside0.mk (show n ≤ 16 by rw [HN.out]; exact checkF_le HF.out.symm)
  have hn16 := HN16.out
  obtain ⟨k1, hk1⟩ : ∃ k1, k1 = 56 + 56 * n := ⟨_, rfl⟩
  have HL1 := Aside0.mk (show (outP st pr nx es).length = k1 by rw [hk1]; unfold outP; rw [if_pos HF.out.symm, smyB_len HPL.out HX.out, HN.out])
  have HK1 := Aside0.mk hk1
  clear hk1
  go_wp2_with (first | ((with_reducible refine gate_load (ty := 58) rfl ?_); refine load_at rfl 58 _ rfl b1 0 rfl (smyC st pr nx (.slice A n c)) _ HRW1.out Try.underlying58 rfl (HIS.out _) ?_) | fail)
  refine (HPC.out _ HE.out).mono ?_
  rintro e w3 ⟨V, rfl, hN, hE⟩
  obtain ⟨A4, c4, hV, _, _⟩ := hN.reads
  rw [HL1.out] at hV
  subst hV
  replace HK := Aside0.mk (HK.out.ext hE)
  replace HE := Aside0.mk (HE.out.trans hE)
  replace HRW1 := Aside0.mk HK.out.whole
  replace c34 := Ext.cell hE c34
  clear hN hE HCK HPC
  obtain ⟨p, hp⟩ : ∃ p, p = pickT at_ ((n : Int) + 1) := ⟨_, rfl⟩
  have hpr := pickT_range at_ ((n : Int) + 1) (by omega)
  rw [← hp] at hpr
  obtain ⟨m, hm⟩ : ∃ m : Nat, p = m := ⟨p.toNat, by omega⟩
  have hmn : m ≤ n := by omega
  have HPK := Aside0.mk (pick_calls w3 at_ ((n : Int) + 1) p HAT.out.1 HAT.out.2 (by omega) hp)
  rw [hm] at HPK
  have hcut := cut_to (P := Try.prog) 56 73 .i64 Try.underlying56 hie A n c (m : Int) (by omega) (by omega) hc
  rw [Int.toNat_natCast] at hcut
  have HCUT := Aside0.mk hcut
  clear hp hpr hm hcut
  go_wp2_with fail
  refine HPK.out.mono ?_
  rintro e w4 ⟨rfl, hE⟩
  replace HK := Aside0.mk (HK.out.ext hE)
  replace HE := Aside0.mk (HE.out.trans hE)
  replace HRW1 := Aside0.mk HK.out.whole
  replace c34 := Ext.cell hE c34
  clear hE HPK
  go_wp2_with (first | ((with_reducible refine gate_load (ty := 58) rfl ?_); refine load_at rfl 58 _ rfl b1 0 rfl (smyC st pr nx (.slice A n c)) _ HRW1.out Try.underlying58 rfl (HIS.out _) ?_) | ((with_reducible refine gate_store (ty := 58) rfl ?_); (refine store_at rfl 58 _ _ rfl w4.heap.size (smyC st pr nx (.slice A n c)) rfl rfl #[Value.int .i64 0, Value.int .u8 0, Value.int .u8 0, Value.int .u8 0, Value.int .u8 0, Value.int .u8 0, Value.int .u8 0, Value.int .u8 0, Value.int .u8 0, Value.int .u8 0, Value.int .u8 0, Value.int .u8 0, Value.int .u8 0, Value.int .u8 0, Value.int .u8 0, Value.int .u8 0, Value.int .u8 0, Value.int .u8 0, Value.int .u8 0, Value.int .u8 0, Value.int .u8 0, Value.int .u8 0, Value.int .u8 0, Value.int .u8 0, Value.int .u8 0, Value.int .u8 0, Value.int .u8 0, Value.int .u8 0, Value.int .u8 0, Value.int .u8 0, Value.int .u8 0, Value.int .u8 0, Value.int .u8 0, Value.int .i64 0, Value.slice none 0 0] 58 (Blk.new w4 _ 58) (HSS.out _) (HIS.out _) (smyC_one _ _ _ _ _ _) ?_)) | fail)
  have HK4 := HK
  intro w5 hW hB9
  have hx5 := hW.ext ((Ext.refl w4).alloc _) (Nat.le_refl _)
  replace HK := Aside0.mk (HK.out.ext hx5)
  have H19 := Aside0.mk (show b1 < w4.heap.size from HK4.out.lt)
  have H9W := Aside0.mk (show w.heap.size ≤ w4.heap.size from HE.out.size)
  replace HE := Aside0.mk (HE.out.trans hx5)
  replace c34 := Ext.cell hx5 c34
  have HB9 := Aside0.mk hB9
  clear hW hx5 hB9 HRW1 HK4
  generalize w4.heap.size = b9 at HB9 H19 H9W ⊢
  have hcut := HCUT.out
  go_wp2_with fail
  refine (copyE_calls w5 A m c (es.take m) (by rw [List.length_take]; have := HN.out; omega) (C_cutE (Kd.C_below HC0.out HE.out) m hmn) (by omega) (fun e he => HX.out e (List.mem_of_mem_take he)) (by omega)).mono ?_
  rintro e w6 ⟨V, rfl, hR, hE⟩
  have HVb := Aside0.mk (show EB w6 (b9 + 1) V (es.take m) from EB.lower hR (by have := HB9.out.lt; omega))
  obtain ⟨A6, C6, hV6, _, _⟩ := EB.reads hR
  obtain ⟨N6, hN6⟩ : ∃ N6, N6 = (es.take m).length := ⟨_, rfl⟩
  rw [← hN6] at hV6
  subst hV6
  have HBb := Aside0.mk (HB9.out.ext hE)
  have HKb := Aside0.mk (HK.out.ext hE)
  have HXb := Aside0.mk (HE.out.trans hE)
  have c9 := (smyBlk HBb.out HPL.out).2.2.2
  have f9 := HBb.out.free 34
  clear hR hE hN6 hcut HB9 HK HE c34
  go_wp2_with fail
  clear c9 f9
  have HWs := Aside0.mk (Wrote.setCell w6 b9 34 (.slice A6 N6 C6))
  replace HBb := Aside0.mk (smy_set HBb.out HPL.out (.slice A6 N6 C6))
  replace HVb := Aside0.mk (HVb.out.wrote HWs.out (fun h => by have := Kd.R_base HVb.out _ h; omega))
  replace HKb := Aside0.mk (HKb.out.wrote HWs.out (by have := H19.out; omega))
  replace HXb := Aside0.mk (HWs.out.ext HXb.out (by have := H9W.out; omega))
  clear HWs
  generalize w6.setCell ⟨b9, 34, none⟩ (.slice A6 N6 C6) = w7 at *
  obtain ⟨r, hr⟩ : ∃ r, r = pickT bl 64 := ⟨_, rfl⟩
  have hrr := pickT_range bl 64 (by omega)
  rw [← hr] at hrr
  have HRR := Aside0.mk hrr
  have HPK := Aside0.mk (fun W => pick_calls W bl 64 r HBL.out.1 HBL.out.2 (by omega) hr)
  have HBT := Aside0.mk (built_t r)
  have cS : w7.drew.cell? ⟨b9, 34, none⟩ = some (.slice A6 N6 C6) := (smyBlk HBb.out HPL.out).2.2.2
  have HLIM := Aside0.mk (show ((es.take m).length + 1) * 56 ≤ 140737488355328 by rw [List.length_take]; omega)
  replace HVb := Aside0.mk (HVb.out.ext (Ext.refl w7).drew)
  replace HBb := Aside0.mk (HBb.out.drew)
  replace HKb := Aside0.mk (HKb.out.drew)
  replace HXb := Aside0.mk (show Ext w w7.drew from HXb.out.drew)
  clear hr hrr
  obtain ⟨V, hV⟩ : ∃ V : Value, V = .slice A6 N6 C6 := ⟨_, rfl⟩
  rw [← hV] at HVb HBb cS
  clear hV
  refine wp_region_u (fun w' => w'.cell? ⟨b9, 34, none⟩ = some V) 8 (by kernel_rfl) ?_
  show wpAnyU _ _ _ _ 8 9 (Array.replicate 9 false) _ w7.drew
  refine u_take 0 _ rfl (by kernel_rfl) (by kernel_rfl) (by kernel_rfl) rfl rfl (by kernel_rfl) rfl (fun _ _ _ h => h) (by rfl) cS (fun w' hc => by (try dsimp only at hc); (go_simp <;> rfl)) ?_
  (try simp only [Act.put, List.setIfInBounds_toArray, List.set_cons_zero, List.set_cons_succ])
  refine u_take 1 _ rfl (by kernel_rfl) (by kernel_rfl) (by kernel_rfl) rfl rfl (by kernel_rfl) rfl (fun _ _ _ h => h) (by rfl) cS (fun w' hc => by (try dsimp only at hc); (go_simp <;> rfl)) ?_
  (try simp only [Act.put, List.setIfInBounds_toArray, List.set_cons_zero, List.set_cons_succ])
  refine u_take 2 _ rfl (by kernel_rfl) (by kernel_rfl) (by kernel_rfl) rfl rfl (by kernel_rfl) rfl (fun _ _ _ h => h) (by rfl) cS (fun w' hc => by (try dsimp only at hc); (go_simp <;> rfl)) ?_
  (try simp only [Act.put, List.setIfInBounds_toArray, List.set_cons_zero, List.set_cons_succ])
  refine u_next 3 (fun u w2 => u = .int .i64 r ∧ Ext w7.drew w2) rfl (by kernel_rfl) (by rfl) (by unfold YldG; go_simp; exact (HPK.out _).mono fun e w2 h => ⟨_, h.1, trivial, rfl, h.2⟩) ?_
  rintro _ w8 ⟨rfl, hE⟩
  refine ⟨fun _ => Ext.cell hE cS, ?_⟩
  (try simp only [Act.put, List.setIfInBounds_toArray, List.set_cons_zero, List.set_cons_succ])
  replace HVb := Aside0.mk (HVb.out.ext hE)
  replace HBb := Aside0.mk (HBb.out.ext hE)
  replace HKb := Aside0.mk (HKb.out.ext hE)
  replace HXb := Aside0.mk (HXb.out.trans hE)
  replace cS := Ext.cell hE cS
  clear hE
  refine u_next 4 (fun u w2 => u = .agg (thC (trimE r)).toArray ∧ Ext w8 w2) rfl (by kernel_rfl) (by rfl) (by exact YldG_val (Yld_build 73 #[(0, .const (.int .i64 2)), (1, .tmp 44)] rfl (thC (trimE r)).toArray [(0, .int .i64 2), (1, .int .i64 r)] rfl HBT.out)) ?_
  rintro _ wb ⟨rfl, hE⟩
  refine ⟨fun _ => Ext.cell hE cS, ?_⟩
  (try simp only [Act.put, List.setIfInBounds_toArray, List.set_cons_zero, List.set_cons_succ])
  replace HVb := Aside0.mk (HVb.out.ext hE)
  replace HBb := Aside0.mk (HBb.out.ext hE)
  replace HKb := Aside0.mk (HKb.out.ext hE)
  replace HXb := Aside0.mk (HXb.out.trans hE)
  replace cS := Ext.cell hE cS
  clear hE
  refine u_next_wp 5 rfl (by kernel_rfl) (by rfl) ?_
  refine wp_slice1 56 73 (.tmp 45) rfl (thC (trimE r)).toArray rfl ie (Value.agg #[Value.int .i64 0, Value.int .i64 0, Value.int .i64 0, Value.int .u8 0, Value.int .u8 0, Value.int .u8 0, Value.int .u8 0, Value.int .u8 0, Value.int .u8 0, Value.int .u8 0, Value.int .u8 0, Value.int .u8 0, Value.int .u8 0, Value.int .u8 0, Value.int .u8 0, Value.int .u8 0, Value.int .u8 0, Value.int .u8 0, Value.int .u8 0, Value.int .u8 0, Value.int .u8 0, Value.int .u8 0, Value.int .u8 0, Value.int .u8 0, Value.int .u8 0, Value.int .u8 0, Value.int .u8 0, Value.int .u8 0, Value.int .u8 0, Value.int .u8 0, Value.int .u8 0, Value.int .u8 0, Value.int .u8 0, Value.int .u8 0, Value.int .u8 0]) Try.underlying56 HSL.out.1 HSL.out.2.1 HSL.out.2.2.1 HSL.out.2.2.2.1 (HSL.out.2.2.2.2 (trimE r) zero32_length) ?_
  refine ⟨fun _ => Ext.cell ((Ext.refl wb).alloc _) cS, ?_⟩
  (try simp only [Act.put, List.setIfInBounds_toArray, List.set_cons_zero, List.set_cons_succ])
  refine u_next_if 6 rfl (by kernel_rfl) (by rfl) ?_
  refine Kd.R_append_step kTh (w0 := wb) (b9 + 1) (by rfl) (.tmp 42) (.tmp 46) 56 73 (Value.agg #[Value.int .i64 0, Value.int .i64 0, Value.int .i64 0, Value.int .u8 0, Value.int .u8 0, Value.int .u8 0, Value.int .u8 0, Value.int .u8 0, Value.int .u8 0, Value.int .u8 0, Value.int .u8 0, Value.int .u8 0, Value.int .u8 0, Value.int .u8 0, Value.int .u8 0, Value.int .u8 0, Value.int .u8 0, Value.int .u8 0, Value.int .u8 0, Value.int .u8 0, Value.int .u8 0, Value.int .u8 0, Value.int .u8 0, Value.int .u8 0, Value.int .u8 0, Value.int .u8 0, Value.int .u8 0, Value.int .u8 0, Value.int .u8 0, Value.int .u8 0, Value.int .u8 0, Value.int .u8 0, Value.int .u8 0, Value.int .u8 0, Value.int .u8 0]) 56 rfl Try.underlying56 HIN.out rfl (by decide) (by decide) V (es.take m) (trimE r) (thC (trimE r)) (fun _ => True) (fun _ => False) rfl rfl (th_cells_of (trimE r) zero32_length wb wb (b9 + 1) (fun _ => False)) (fun _ hk => hk.elim) (fun _ _ => trivial) HVb.out (Below.refl _ _) HBb.out.lt HLIM.out ?_
  intro V1 wa hR hBl _ _
  obtain ⟨A1, C1, hV1, _, _⟩ := EB.reads hR
  obtain ⟨N1, hN1⟩ : ∃ N1, N1 = ((es.take m) ++ [(trimE r)]).length := ⟨_, rfl⟩
  rw [← hN1] at hV1
  subst hV1
  clear hN1
  have HVa := Aside0.mk (show EB wa (b9 + 1) (.slice A1 N1 C1) ((es.take m) ++ [(trimE r)]) from hR)
  have HBa := Aside0.mk (HBb.out.below (Nat.lt_succ_self _) hBl)
  have HKa := Aside0.mk (HKb.out.below (Nat.lt_succ_of_lt H19.out) hBl)
  have HXa := Aside0.mk (ext_below HXb.out hBl (by have := H9W.out; omega))
  refine ⟨fun _ => (smyBlk HBa.out HPL.out).2.2.2, ?_⟩
  clear hR hBl HVb HBb HKb HXb
  (try simp only [Act.put, List.setIfInBounds_toArray, List.set_cons_zero, List.set_cons_succ])
  refine u_next_wp 7 rfl (by kernel_rfl) (by rfl) ?_
  go_simp
  refine ⟨(smyBlk HBa.out HPL.out).2.2.2, ?_⟩
  (try simp only [Act.put, List.setIfInBounds_toArray, List.set_cons_zero, List.set_cons_succ])
  refine u_next_wp 8 rfl (by kernel_rfl) (by rfl) ?_
  have ca := (smyBlk HBa.out HPL.out).2.2.2
  have cf := HBa.out.free 34
  go_simp
  (try simp only [Act.put, List.setIfInBounds_toArray, List.set_cons_zero, List.set_cons_succ])
  refine u_done (by kernel_rfl) ?_ _
  have HWs := Aside0.mk (Wrote.setCell wa b9 34 (.slice A1 N1 C1))
  have HBs := Aside0.mk (show Blk (wa.setCell ⟨b9, 34, none⟩ (.slice A1 N1 C1)) b9 (smyC st pr nx (.slice A1 N1 C1)).toArray 58 from smy_set HBa.out HPL.out (.slice A1 N1 C1))
  have HVs := Aside0.mk (HVa.out.wrote HWs.out (fun h => by have := Kd.R_base HVa.out _ h; omega))
  have HKs := Aside0.mk (HKa.out.wrote HWs.out (by have := H19.out; omega))
  have HXs := Aside0.mk (HWs.out.ext HXa.out (by have := H9W.out; omega))
  clear HWs HBa HVa HKa HXa ca cf
  generalize wa.setCell ⟨b9, 34, none⟩ (.slice A1 N1 C1) = wz at *
  have HV0 := Aside0.mk (show EB wz (b9 + 1) (.slice A1 N1 C1) (addX es m r m) by rw [addX_0]; exact HVs.out)
  clear HVs
  go_wp2_with fail
  go_loopw [10] (fun i wr => ∃ x : Nat, i = .int .i64 x ∧ Aside0 (m ≤ x ∧ x ≤ n) ∧ (∃ A1 N1 C1, Aside0 (Blk wr b9 (smyC st pr nx (.slice A1 N1 C1)).toArray 58) ∧ Aside0 (EB wr (b9 + 1) (.slice A1 N1 C1) (addX es m r x))) ∧ Aside0 (Blk wr b1 (smyC st pr nx (.slice A n c)).toArray 58) ∧ Aside0 (Ext w wr)) (fun i _ => n - (intOf i).toNat)
  case atStart => exact ⟨m, rfl, ⟨Nat.le_refl _, hmn⟩, ⟨_, _, _, HBs, HV0⟩, HKs, HXs⟩
  case round =>
    clear HBs HKs HXs HV0 HCUT
    obtain ⟨x, rfl, HXX, ⟨A2, N2, C2, HB2, HV2⟩, HK2, HE2⟩ := hrel
    have g0 := HXX.out.1
    have g1 := HXX.out.2
    obtain ⟨wx, hwx⟩ : ∃ wx : World, wx = wr := ⟨_, rfl⟩
    subst hwx
    have c34 := (smyBlk HK2.out HPL.out).2.2.2
    by_cases hlt : x < n
    · have HLT := Aside0.mk hlt
      have hxe : x < es.length := by have := HN.out; omega
      obtain ⟨b, off, hA, hrg⟩ := th_at HC0.out x hlt _ (List.getElem?_eq_getElem hxe)
      have ho := HX.out _ (List.getElem_mem hxe)
      have hq := addX_s es m r x g0 hxe
      generalize es[x] = e at hrg ho hq
      subst hA
      have HQ := Aside0.mk hq
      have HO := Aside0.mk ho
      have HRG := Aside0.mk hrg
      have HI1 := Aside0.mk (show (Try.prog.info? 73).map (·.size) = some (thC e).length by rw [thC_len ho.2.2.2.1]; kernel_rfl)
      have HLIM := Aside0.mk (show ((addX es m r x).length + 1) * 56 ≤ 140737488355328 by rw [addX_len es m r x g0 (Nat.le_of_lt hxe)]; omega)
      clear hq ho hrg hxe
      obtain ⟨V, hV⟩ : ∃ V : Value, V = .slice A2 N2 C2 := ⟨_, rfl⟩
      rw [← hV] at HB2 HV2
      clear hV
      have HVb := Aside0.mk (HV2.out.ext (Ext.refl wx).drew)
      have HBb := Aside0.mk (HB2.out.drew)
      have HKb := Aside0.mk (HK2.out.drew)
      have HXb := Aside0.mk (show Ext w wx.drew from HE2.out.drew)
      have cS : SX b9 b1 V (.slice (some ⟨b, off, none⟩) n c) b (off + x * 35) (thC e) wx.drew := ⟨(smyBlk HBb.out HPL.out).2.2.2, (smyBlk HKb.out HPL.out).2.2.2, rangeAt_ext HRG.out HXb.out⟩
      go_wp2_with fail
      clear c34 HV2 HB2 HK2 HE2
      refine wp_region_u (SX b9 b1 V (.slice (some ⟨b, off, none⟩) n c) b (off + x * 35) (thC e)) 10 (by kernel_rfl) ?_
      show wpAnyU _ _ _ _ 10 11 (Array.replicate 11 false) _ wx.drew
      refine u_take 0 _ rfl (by kernel_rfl) (by kernel_rfl) (by kernel_rfl) rfl rfl (by kernel_rfl) rfl (fun _ _ _ h => h) (by rfl) cS (fun w' hc => by (try dsimp only at hc); obtain ⟨h1, h2, h3⟩ := hc; (go_simp <;> rfl)) ?_
      (try simp only [Act.put, List.setIfInBounds_toArray, List.set_cons_zero, List.set_cons_succ])
      refine u_take 1 _ rfl (by kernel_rfl) (by kernel_rfl) (by kernel_rfl) rfl rfl (by kernel_rfl) rfl (fun _ _ _ h => h) (by rfl) cS (fun w' hc => by (try dsimp only at hc); obtain ⟨h1, h2, h3⟩ := hc; (go_simp <;> rfl)) ?_
      (try simp only [Act.put, List.setIfInBounds_toArray, List.set_cons_zero, List.set_cons_succ])
      refine u_take 2 _ rfl (by kernel_rfl) (by kernel_rfl) (by kernel_rfl) rfl rfl (by kernel_rfl) rfl (fun _ _ _ h => h) (by rfl) cS (fun w' hc => by (try dsimp only at hc); obtain ⟨h1, h2, h3⟩ := hc; (go_simp <;> rfl)) ?_
      (try simp only [Act.put, List.setIfInBounds_toArray, List.set_cons_zero, List.set_cons_succ])
      refine u_take 3 _ rfl (by kernel_rfl) (by kernel_rfl) (by kernel_rfl) rfl rfl (by kernel_rfl) rfl (fun _ _ _ h => h) (by rfl) cS (fun w' hc => by (try dsimp only at hc); obtain ⟨h1, h2, h3⟩ := hc; (go_simp <;> rfl)) ?_
      (try simp only [Act.put, List.setIfInBounds_toArray, List.set_cons_zero, List.set_cons_succ])
      refine u_take 4 _ rfl (by kernel_rfl) (by kernel_rfl) (by kernel_rfl) rfl rfl (by kernel_rfl) rfl (fun _ _ _ h => h) (by rfl) cS (fun w' hc => by (try dsimp only at hc); obtain ⟨h1, h2, h3⟩ := hc; (go_simp <;> rfl)) ?_
      (try simp only [Act.put, List.setIfInBounds_toArray, List.set_cons_zero, List.set_cons_succ])
      refine u_take 5 _ rfl (by kernel_rfl) (by kernel_rfl) (by kernel_rfl) rfl rfl (by kernel_rfl) rfl (fun _ _ _ h => h) (by rfl) cS (fun w' hc => by (try dsimp only at hc); obtain ⟨h1, h2, h3⟩ := hc; (go_simp <;> rfl)) ?_
      (try simp only [Act.put, List.setIfInBounds_toArray, List.set_cons_zero, List.set_cons_succ])
      refine u_take 6 _ rfl (by kernel_rfl) (by kernel_rfl) (by kernel_rfl) rfl rfl (by kernel_rfl) rfl (fun _ _ _ h => h) (by rfl) cS (fun w' hc => by (try dsimp only at hc); obtain ⟨h1, h2, h3⟩ := hc; exact run_load_at 73 (.tmp 62) rfl b (off + x * 35) rfl (thC e) _ h3 Try.underlying73 rfl HI1.out) ?_
      (try simp only [Act.put, List.setIfInBounds_toArray, List.set_cons_zero, List.set_cons_succ])
      refine u_next_wp 7 rfl (by kernel_rfl) (by rfl) ?_
      refine wp_slice1 56 73 (.tmp 63) rfl (thC e).toArray rfl ie (Value.agg #[Value.int .i64 0, Value.int .i64 0, Value.int .i64 0, Value.int .u8 0, Value.int .u8 0, Value.int .u8 0, Value.int .u8 0, Value.int .u8 0, Value.int .u8 0, Value.int .u8 0, Value.int .u8 0, Value.int .u8 0, Value.int .u8 0, Value.int .u8 0, Value.int .u8 0, Value.int .u8 0, Value.int .u8 0, Value.int .u8 0, Value.int .u8 0, Value.int .u8 0, Value.int .u8 0, Value.int .u8 0, Value.int .u8 0, Value.int .u8 0, Value.int .u8 0, Value.int .u8 0, Value.int .u8 0, Value.int .u8 0, Value.int .u8 0, Value.int .u8 0, Value.int .u8 0, Value.int .u8 0, Value.int .u8 0, Value.int .u8 0, Value.int .u8 0]) Try.underlying56 HSL.out.1 HSL.out.2.1 HSL.out.2.2.1 HSL.out.2.2.2.1 (HSL.out.2.2.2.2 e HO.out.2.2.2.1) ?_
      refine ⟨fun _ => ⟨Ext.cell ((Ext.refl wx.drew).alloc _) cS.1, Ext.cell ((Ext.refl wx.drew).alloc _) cS.2.1, rangeAt_ext cS.2.2 ((Ext.refl wx.drew).alloc _)⟩, ?_⟩
      (try simp only [Act.put, List.setIfInBounds_toArray, List.set_cons_zero, List.set_cons_succ])
      refine u_next_if 8 rfl (by kernel_rfl) (by rfl) ?_
      refine Kd.R_append_step kTh (w0 := wx.drew) (b9 + 1) (by rfl) (.tmp 58) (.tmp 64) 56 73 (Value.agg #[Value.int .i64 0, Value.int .i64 0, Value.int .i64 0, Value.int .u8 0, Value.int .u8 0, Value.int .u8 0, Value.int .u8 0, Value.int .u8 0, Value.int .u8 0, Value.int .u8 0, Value.int .u8 0, Value.int .u8 0, Value.int .u8 0, Value.int .u8 0, Value.int .u8 0, Value.int .u8 0, Value.int .u8 0, Value.int .u8 0, Value.int .u8 0, Value.int .u8 0, Value.int .u8 0, Value.int .u8 0, Value.int .u8 0, Value.int .u8 0, Value.int .u8 0, Value.int .u8 0, Value.int .u8 0, Value.int .u8 0, Value.int .u8 0, Value.int .u8 0, Value.int .u8 0, Value.int .u8 0, Value.int .u8 0, Value.int .u8 0, Value.int .u8 0]) 56 rfl Try.underlying56 HIN.out rfl (by decide) (by decide) V (addX es m r x) e (thC e) (fun _ => True) (fun _ => False) rfl rfl (th_cells_of e HO.out.2.2.2.1 wx.drew wx.drew (b9 + 1) (fun _ => False)) (fun _ hk => hk.elim) (fun _ _ => trivial) HVb.out (Below.refl _ _) HBb.out.lt HLIM.out ?_
      intro V1 wa hR hBl _ _
      obtain ⟨A1, C1, hV1, _, _⟩ := EB.reads hR
      obtain ⟨N1, hN1⟩ : ∃ N1, N1 = ((addX es m r x) ++ [e]).length := ⟨_, rfl⟩
      rw [← hN1] at hV1
      subst hV1
      clear hN1
      have HVa := Aside0.mk (show EB wa (b9 + 1) (.slice A1 N1 C1) ((addX es m r x) ++ [e]) from hR)
      have HBa := Aside0.mk (HBb.out.below (Nat.lt_succ_self _) hBl)
      have HKa := Aside0.mk (HKb.out.below (Nat.lt_succ_of_lt H19.out) hBl)
      have HXa := Aside0.mk (ext_below HXb.out hBl (by have := H9W.out; omega))
      refine ⟨fun _ => ⟨(smyBlk HBa.out HPL.out).2.2.2, (smyBlk HKa.out HPL.out).2.2.2, rangeAt_ext HRG.out HXa.out⟩, ?_⟩
      clear hR hBl HVb HBb HKb HXb
      (try simp only [Act.put, List.setIfInBounds_toArray, List.set_cons_zero, List.set_cons_succ])
      refine u_next_wp 9 rfl (by kernel_rfl) (by rfl) ?_
      go_simp
      refine ⟨⟨(smyBlk HBa.out HPL.out).2.2.2, (smyBlk HKa.out HPL.out).2.2.2, rangeAt_ext HRG.out HXa.out⟩, ?_⟩
      (try simp only [Act.put, List.setIfInBounds_toArray, List.set_cons_zero, List.set_cons_succ])
      refine u_next_wp 10 rfl (by kernel_rfl) (by rfl) ?_
      have ca := (smyBlk HBa.out HPL.out).2.2.2
      have cf := HBa.out.free 34
      go_simp
      (try simp only [Act.put, List.setIfInBounds_toArray, List.set_cons_zero, List.set_cons_succ])
      refine u_done (by kernel_rfl) ?_ _
      have HWs := Aside0.mk (Wrote.setCell wa b9 34 (.slice A1 N1 C1))
      have HBs := Aside0.mk (show Blk (wa.setCell ⟨b9, 34, none⟩ (.slice A1 N1 C1)) b9 (smyC st pr nx (.slice A1 N1 C1)).toArray 58 from smy_set HBa.out HPL.out (.slice A1 N1 C1))
      have HVs := Aside0.mk (HVa.out.wrote HWs.out (fun h => by have := Kd.R_base HVa.out _ h; omega))
      have HKs := Aside0.mk (HKa.out.wrote HWs.out (by have := H19.out; omega))
      have HXs := Aside0.mk (HWs.out.ext HXa.out (by have := H9W.out; omega))
      clear HWs HBa HVa HKa HXa ca cf
      generalize wa.setCell ⟨b9, 34, none⟩ (.slice A1 N1 C1) = wz at *
      have HV3 := Aside0.mk (show EB wz (b9 + 1) (.slice A1 N1 C1) (addX es m r (x + 1)) by rw [HQ.out]; exact HVs.out)
      clear HVs
      go_wp2_with fail
      go_roundw
      case rel => exact ⟨x + 1, by go_num, ⟨by omega, by omega⟩, ⟨_, _, _, HBs, HV3⟩, HKs, HXs⟩
      case measure => have := HLT.out; simp only [intOf]; omega
    · have hxn : x = es.length := by have := HN.out; omega
      have HV := Aside0.mk (show EB wx (b9 + 1) (.slice A2 N2 C2) (addL es m r) by rw [← addX_n, ← hxn]; exact HV2.out)
      have hN2 : N2 = (addL es m r).length := (Kd.R_reads' HV.out).1
      have hC2 : N2 ≤ C2 := (Kd.R_reads' HV.out).2.1
      have hok2 := addL_ok HX.out m r HRR.out.1 HRR.out.2
      obtain ⟨F2, hF2⟩ : ∃ F2, F2 = checkF st nx (addL es m r) := ⟨_, rfl⟩
      have HP2 := Aside0.mk (put_calls wx st nx pr A2 C2 N2 (addL es m r) F2 hF2 (EB.reads' HV.out hN2) hC2 HPL.out hok2)
      have HF2 := Aside0.mk (show F2 = if es.length = 16 then 17 else 0 by rw [hF2]; exact check_add HF.out.symm m r HRR.out.1 HRR.out.2)
      have HF3 := Aside0.mk hF2
      have HOK2 := Aside0.mk hok2
      have HRW9 := Aside0.mk HB2.out.whole
      clear hF2 hok2 hN2 hxn HV2 HPK HBT
      go_wp2_with (first | ((with_reducible refine gate_load (ty := 58) rfl ?_); refine load_at rfl 58 _ rfl b9 0 rfl (smyC st pr nx (.slice A2 N2 C2)) _ HRW9.out Try.underlying58 rfl (HIS.out _) ?_) | fail)
      refine HP2.out.mono ?_
      rintro e w8 ⟨V8, rfl, hN8, hE8⟩
      obtain ⟨A8, c8, hV8, _, _⟩ := hN8.reads
      obtain ⟨k2, hk2⟩ : ∃ k2, k2 = (outP st pr nx (addL es m r)).length := ⟨_, rfl⟩
      rw [← hk2] at hV8
      subst hV8
      have HK2' := Aside0.mk hk2
      replace HK2 := Aside0.mk (HK2.out.ext hE8)
      replace HB2 := Aside0.mk (HB2.out.ext hE8)
      replace HE2 := Aside0.mk (HE2.out.trans hE8)
      replace c34 := Ext.cell hE8 c34
      clear hk2 hN8 hE8 HRW9 HV HP2
      by_cases h16 : n = 16
      · have h17 : F2 = 17 := by rw [HF2.out, if_pos (by have := HN.out; omega)]
        subst h17
        subst h16
        go_wp2_with fail
        refine (works_calls _).mono ?_
        rintro e w9 ⟨rfl, hE⟩
        go_wp2_with fail
        go_ret
        exact ⟨rfl, HE2.out.trans hE⟩
      · have h0 : F2 = 0 := by rw [HF2.out, if_neg (by have := HN.out; omega)]
        subst h0
        obtain rfl : k2 = k1 + 56 := by
          rw [HK2'.out]
          unfold outP
          rw [if_pos HF3.out.symm, smyB_len HPL.out HOK2.out, addL_len, HK1.out]
          have := HN.out
          omega
        have h16d : ((n : Int) == 16) = false := by simp; omega
        have h88 : ((k1 : Int) + 56 != (k1 : Int) + 56) = false := by simp
        have hk1 : k1 ≤ 1000 := by have := HK1.out; omega
        by_cases hpos : 0 < n
        · have hcut := cut_to (P := Try.prog) 56 73 .i64 Try.underlying56 hie A n c ((n : Int) - 1) (by omega) (by omega) hc
          rw [show ((n : Int) - 1).toNat = n - 1 by omega] at hcut
          have hpd : decide (0 < (n : Int)) = true := decide_eq_true (by omega)
          go_wp2_with fail
          refine (copyE_calls w8 A (n - 1) c (es.take (n - 1)) (by rw [List.length_take]; have := HN.out; omega) (C_cutE (Kd.C_below HC0.out HE2.out) (n - 1) (by omega)) (by omega) (fun e he => HX.out e (List.mem_of_mem_take he)) (by omega)).mono ?_
          rintro e w9 ⟨V, rfl, hR, hE⟩
          have HVb := Aside0.mk (show EB w9 (b9 + 1) V (es.take (n - 1)) from EB.lower hR (by have := HB2.out.lt; omega))
          obtain ⟨A6, C6, hV6, _, _⟩ := EB.reads hR
          obtain ⟨N6, hN6⟩ : ∃ N6, N6 = (es.take (n - 1)).length := ⟨_, rfl⟩
          rw [← hN6] at hV6
          subst hV6
          replace HB2 := Aside0.mk (HB2.out.ext hE)
          replace HE2 := Aside0.mk (HE2.out.trans hE)
          have c9 := (smyBlk HB2.out HPL.out).2.2.2
          have f9 := HB2.out.free 34
          have HW := Aside0.mk (Wrote.setCell w9 b9 34 (.slice A6 N6 C6))
          have HB3 := Aside0.mk (smy_set HB2.out HPL.out (.slice A6 N6 C6))
          have HV3 := Aside0.mk (HVb.out.wrote HW.out (fun h => by have := Kd.R_base HVb.out _ h; omega))
          have HE3 := Aside0.mk (HW.out.ext HE2.out (by have := H9W.out; omega))
          have HRW6 := Aside0.mk HB3.out.whole
          have HN6 := Aside0.mk hN6
          clear hR hE hN6 c34 HK2 HW hcut
          go_wp2_with (first | ((with_reducible refine gate_load (ty := 58) rfl ?_); refine load_at rfl 58 _ rfl b9 0 rfl (smyC st pr nx (.slice A6 N6 C6)) _ HRW6.out Try.underlying58 rfl (HIS.out _) ?_) | fail)
          clear c9 f9 HB2 HVb HE2
          generalize w9.setCell ⟨b9, 34, none⟩ (.slice A6 N6 C6) = wa at *
          refine (check_calls wa st nx pr A6 C6 N6 (es.take (n - 1)) (EB.reads' HV3.out HN6.out) (Kd.R_reads' HV3.out).2.1 HPL.out (fun e he => HX.out e (List.mem_of_mem_take he))).mono ?_
          rw [check_take HF.out.symm (n - 1)]
          rintro e wb ⟨rfl, hE⟩
          have HEb := Aside0.mk (HE3.out.trans hE)
          clear hE
          go_wp2_with fail
          refine (works_calls _).mono ?_
          rintro e wc ⟨rfl, hE⟩
          go_wp2_with fail
          go_ret
          exact ⟨rfl, HEb.out.trans hE⟩
        · have hpd : decide (0 < (n : Int)) = false := decide_eq_false (by omega)
          obtain rfl : n = 0 := by omega
          go_wp2_with fail
          refine (works_calls _).mono ?_
          rintro e w9 ⟨rfl, hE⟩
          go_wp2_with fail
          go_ret
          exact ⟨rfl, HE2.out.trans hE⟩
end Go.Proofs.Ythgdjgnbifakbaa.By

/- BatchKnown: the function set. -/
namespace Go.Proofs.Ythgdjgnbifakbaa.By
open Go.RowKit Go.Proofs.Ythgdjgnbifakbaa.Reg Go.Proofs.YthgdjgnbifakbaaW.PrintWords Go.Proofs.YthgdjgnbifakbaaW.PrintLast Go.Proofs.YthgdjgnbifakbaaW.PrintMore
set_option linter.unusedVariables false
set_option linter.unusedSimpArgs false


def SetP (n : Nat) (w : World) (e : Ending) (w' : World) : Prop := ∃ (V : Value) (q : Smy), e = .returned (smyV q.1 q.2.1 q.2.2.1 V) ∧ EB w' w.heap.size V q.2.2.2 ∧ q.2.2.2.length = n ∧ Smy.ok q ∧ Ext w w'
/-- An entry, one number of which is another one. -/
def e0 (e : Th) (x : Int) : Th := (x, e.2.1, e.2.2.1, e.2.2.2)
def e1 (e : Th) (x : Int) : Th := (e.1, x, e.2.2.1, e.2.2.2)
def e2 (e : Th) (x : Int) : Th := (e.1, e.2.1, x, e.2.2.2)
def e3 (e : Th) (k : Nat) : Th := (e.1, e.2.1, e.2.2.1, e.2.2.2.set k 1)
theorem e3C (e : Th) (k : Nat) (he : e.2.2.2.length = 32) (hk : k < 32) : (thC e).take (3 + k) ++ [.int .u8 1] ++ (thC e).drop (3 + k + 1) = thC (e3 e k) := by
  obtain ⟨a, b, c, s⟩ := e
  dsimp only at he
  rw [show 3 + k = k + 3 by omega]
  simp only [thC, refC, e3, List.take_succ_cons, List.drop_succ_cons, List.cons_append, nums]
  rw [List.map_set, List.set_eq_take_append_cons_drop, if_pos (by rw [List.length_map, he]; exact hk), List.append_assoc]
  rfl
theorem e3_ok {e : Th} (h : Th.ok e) (k : Nat) : Th.ok (e3 e k) := ⟨h.1, h.2.1, h.2.2.1, by show (e.2.2.2.set k 1).length = 32; rw [List.length_set]; exact h.2.2.2.1, fun y hy => by
  rcases List.mem_or_eq_of_mem_set hy with hy | rfl
  · exact h.2.2.2.2 y hy
  · exact ⟨by decide, by decide⟩⟩
theorem set_all {es : List Th} (h : ∀ e ∈ es, Th.ok e) (i : Nat) (x : Th) (hx : Th.ok x) : ∀ e ∈ es.set i x, Th.ok e := fun e he => by
  rcases List.mem_or_eq_of_mem_set he with he | rfl
  · exact h e he
  · exact hx
theorem lit_M (w : World) (B : Nat) (e : Th) (cs : List Value) (he : e.2.2.2.length = 32) (h : cs = thC e) : kTh.M w B (fun _ => False) e cs := by rw [h]; exact th_cells_of e he w w B _

set_option maxRecDepth 100000 in
set_option maxHeartbeats 8000000 in
theorem set0_calls (w : World) (A : Option Addr) (c n : Nat) (st nx : Int) (pr : List Int) (es : List Th) (x : Int) (a : Nat) (hn : n = es.length) (hr : Kd.C kTh w A n es) (hc : n ≤ c) (hl : n ≤ 1000) (hq : Smy.ok (st, pr, nx, es)) (ha : a < n) (hx : -9223372036854775808 ≤ x ∧ x ≤ 9223372036854775807) :
    Calls Try.prog 55 #[smyV st pr nx (.slice A n c), .int .i64 0, .int .i64 a, .int .i64 x] w (SetP n w) := by
  have hK1 := (Blk.new w (smyC st pr nx (.slice A n c)).toArray 58).alloc (.cells #[Value.int .i64 0, Value.int .u8 0, Value.int .u8 0, Value.int .u8 0, Value.int .u8 0, Value.int .u8 0, Value.int .u8 0, Value.int .u8 0, Value.int .u8 0, Value.int .u8 0, Value.int .u8 0, Value.int .u8 0, Value.int .u8 0, Value.int .u8 0, Value.int .u8 0, Value.int .u8 0, Value.int .u8 0, Value.int .u8 0, Value.int .u8 0, Value.int .u8 0, Value.int .u8 0, Value.int .u8 0, Value.int .u8 0, Value.int .u8 0, Value.int .u8 0, Value.int .u8 0, Value.int .u8 0, Value.int .u8 0, Value.int .u8 0, Value.int .u8 0, Value.int .u8 0, Value.int .u8 0, Value.int .u8 0, Value.int .i64 0, Value.slice none 0 0] 58)
  have hK2 := Blk.new (w.alloc (.cells (smyC st pr nx (.slice A n c)).toArray 58)) #[Value.int .i64 0, Value.int .u8 0, Value.int .u8 0, Value.int .u8 0, Value.int .u8 0, Value.int .u8 0, Value.int .u8 0, Value.int .u8 0, Value.int .u8 0, Value.int .u8 0, Value.int .u8 0, Value.int .u8 0, Value.int .u8 0, Value.int .u8 0, Value.int .u8 0, Value.int .u8 0, Value.int .u8 0, Value.int .u8 0, Value.int .u8 0, Value.int .u8 0, Value.int .u8 0, Value.int .u8 0, Value.int .u8 0, Value.int .u8 0, Value.int .u8 0, Value.int .u8 0, Value.int .u8 0, Value.int .u8 0, Value.int .u8 0, Value.int .u8 0, Value.int .u8 0, Value.int .u8 0, Value.int .u8 0, Value.int .i64 0, Value.slice none 0 0] 58
  rw [show (w.alloc (.cells (smyC st pr nx (.slice A n c)).toArray 58)).heap.size = w.heap.size + 1 from size_alloc _ _] at hK2
  have HE := Aside0.mk (((Ext.refl w).alloc (.cells (smyC st pr nx (.slice A n c)).toArray 58)).alloc (.cells #[Value.int .i64 0, Value.int .u8 0, Value.int .u8 0, Value.int .u8 0, Value.int .u8 0, Value.int .u8 0, Value.int .u8 0, Value.int .u8 0, Value.int .u8 0, Value.int .u8 0, Value.int .u8 0, Value.int .u8 0, Value.int .u8 0, Value.int .u8 0, Value.int .u8 0, Value.int .u8 0, Value.int .u8 0, Value.int .u8 0, Value.int .u8 0, Value.int .u8 0, Value.int .u8 0, Value.int .u8 0, Value.int .u8 0, Value.int .u8 0, Value.int .u8 0, Value.int .u8 0, Value.int .u8 0, Value.int .u8 0, Value.int .u8 0, Value.int .u8 0, Value.int .u8 0, Value.int .u8 0, Value.int .u8 0, Value.int .i64 0, Value.slice none 0 0] 58))
  have HW := Aside0.mk (show ((w.alloc (.cells (smyC st pr nx (.slice A n c)).toArray 58)).alloc (.cells #[Value.int .i64 0, Value.int .u8 0, Value.int .u8 0, Value.int .u8 0, Value.int .u8 0, Value.int .u8 0, Value.int .u8 0, Value.int .u8 0, Value.int .u8 0, Value.int .u8 0, Value.int .u8 0, Value.int .u8 0, Value.int .u8 0, Value.int .u8 0, Value.int .u8 0, Value.int .u8 0, Value.int .u8 0, Value.int .u8 0, Value.int .u8 0, Value.int .u8 0, Value.int .u8 0, Value.int .u8 0, Value.int .u8 0, Value.int .u8 0, Value.int .u8 0, Value.int .u8 0, Value.int .u8 0, Value.int .u8 0, Value.int .u8 0, Value.int .u8 0, Value.int .u8 0, Value.int .u8 0, Value.int .u8 0, Value.int .i64 0, Value.slice none 0 0] 58)).heap.size = w.heap.size + 2 by rw [size_alloc, size_alloc])
  have HQ := Aside0.mk hq
  have HN := Aside0.mk hn
  have HPL := Aside0.mk hq.2.1.1
  have HR := Aside0.mk (Kd.C_below hr HE.out)
  have HXB := Aside0.mk hx
  obtain ⟨c0, r1, c33, c34⟩ := smyBlk hK1 HPL.out
  have HIS := Aside0.mk (fun (st nx : Int) (V : Value) => show (Try.prog.info? 58).map (·.size) = some (smyC st pr nx V).length by rw [smyC_len HPL.out]; kernel_rfl)
  have HSS := Aside0.mk (fun (st nx : Int) (V : Value) => show #[Value.int .i64 0, Value.int .u8 0, Value.int .u8 0, Value.int .u8 0, Value.int .u8 0, Value.int .u8 0, Value.int .u8 0, Value.int .u8 0, Value.int .u8 0, Value.int .u8 0, Value.int .u8 0, Value.int .u8 0, Value.int .u8 0, Value.int .u8 0, Value.int .u8 0, Value.int .u8 0, Value.int .u8 0, Value.int .u8 0, Value.int .u8 0, Value.int .u8 0, Value.int .u8 0, Value.int .u8 0, Value.int .u8 0, Value.int .u8 0, Value.int .u8 0, Value.int .u8 0, Value.int .u8 0, Value.int .u8 0, Value.int .u8 0, Value.int .u8 0, Value.int .u8 0, Value.int .u8 0, Value.int .u8 0, Value.int .i64 0, Value.slice none 0 0].size = (smyC st pr nx V).length by rw [smyC_len HPL.out]; rfl)
  have HK1 := Aside0.mk hK1
  have HK2 := Aside0.mk hK2
  clear hn hr hq hx hK1 hK2 r1
  unfold smyV
  go_enter Try.func55, Try.ntmps55
  go_wp2_with fail
  refine (copyE_calls _ A n c es HN.out HR.out hc HQ.out.2.2.2 (by omega)).mono ?_
  rintro e w1 ⟨V, rfl, hR, hE⟩
  rw [HW.out] at hR
  obtain ⟨A5, C5, hV, hC5, _⟩ := EB.reads hR
  rw [← HN.out] at hV hC5
  subst hV
  have HV := Aside0.mk hR
  replace HK1 := Aside0.mk (HK1.out.ext hE)
  replace HK2 := Aside0.mk (HK2.out.ext hE)
  replace HE := Aside0.mk (HE.out.trans hE)
  clear hR hE c0 c33 c34 HR HW
  obtain ⟨c0, r1, c33, c34⟩ := smyBlk HK1.out HPL.out
  have f0 := HK1.out.free 0
  have f33 := HK1.out.free 33
  have f34 := HK1.out.free 34
  clear r1
  have HB1 := Aside0.mk (smy_set HK1.out HPL.out (.slice A5 n C5))
  have HWs := Aside0.mk (Wrote.setCell w1 w.heap.size 34 (.slice A5 n C5))
  have HV1 := Aside0.mk (HV.out.wrote HWs.out (fun h => by have := Kd.R_base HV.out _ h; omega))
  have HB2 := Aside0.mk (HK2.out.wrote HWs.out (by omega))
  have HE1 := Aside0.mk (HWs.out.ext HE.out (Nat.le_refl _))
  clear HV HK1 HK2 HE HWs
  have HBX := Aside0.mk (smy_set0 HB1.out x)
  have HWs := Aside0.mk (Wrote.setCell (w1.setCell ⟨w.heap.size, 34, none⟩ (.slice A5 n C5)) w.heap.size 0 (.int .i64 x))
  have HVX := Aside0.mk (HV1.out.wrote HWs.out (fun h => by have := Kd.R_base HV1.out _ h; omega))
  have HKX := Aside0.mk (HB2.out.wrote HWs.out (by omega))
  have HEX := Aside0.mk (HWs.out.ext HE1.out (Nat.le_refl _))
  have HRW := Aside0.mk HBX.out.whole
  go_wp2_with (first | ((with_reducible refine gate_load (ty := 58) rfl ?_); refine load_at rfl 58 _ rfl w.heap.size 0 rfl (smyC x pr nx (.slice A5 n C5)) _ HRW.out Try.underlying58 rfl (HIS.out _ _ _) ?_) | ((with_reducible refine gate_store (ty := 58) rfl ?_); (refine store_at rfl 58 _ _ rfl (w.heap.size + 1) (smyC x pr nx (.slice A5 n C5)) rfl rfl #[Value.int .i64 0, Value.int .u8 0, Value.int .u8 0, Value.int .u8 0, Value.int .u8 0, Value.int .u8 0, Value.int .u8 0, Value.int .u8 0, Value.int .u8 0, Value.int .u8 0, Value.int .u8 0, Value.int .u8 0, Value.int .u8 0, Value.int .u8 0, Value.int .u8 0, Value.int .u8 0, Value.int .u8 0, Value.int .u8 0, Value.int .u8 0, Value.int .u8 0, Value.int .u8 0, Value.int .u8 0, Value.int .u8 0, Value.int .u8 0, Value.int .u8 0, Value.int .u8 0, Value.int .u8 0, Value.int .u8 0, Value.int .u8 0, Value.int .u8 0, Value.int .u8 0, Value.int .u8 0, Value.int .u8 0, Value.int .i64 0, Value.slice none 0 0] 58 HKX.out (HSS.out _ _ _) (HIS.out _ _ _) (smyC_one _ _ _ _ _ _) ?_)) | fail)
  intro wf hWf hBf
  have HVf := Aside0.mk (HVX.out.wrote hWf (fun h => by have := Kd.R_base HVX.out _ h; omega))
  have HEF := Aside0.mk (hWf.ext HEX.out (Nat.le_succ _))
  have HBf := Aside0.mk hBf
  clear hWf hBf
  go_wp2_with fail
  (try simp only [Exit.inBlock, Exit.then])
  refine bodyPost_ret (results_c1 rfl _ _ (w.heap.size + 1) 58 (smyC x pr nx (.slice A5 n C5)).toArray (0, 0) _ rfl HBf.out.is Try.underlying58 rfl (by have := HIS.out x nx (.slice A5 n C5); simpa using this)) rfl ?_
  exact ⟨.slice A5 n C5, (x, pr, nx, es), rfl, EB.lower HVf.out (by omega), by show es.length = n; exact HN.out.symm, ⟨HXB.out, HQ.out.2.1, HQ.out.2.2.1, HQ.out.2.2.2⟩, HEF.out⟩

set_option maxRecDepth 100000 in
set_option maxHeartbeats 8000000 in
theorem set1_calls (w : World) (A : Option Addr) (c n : Nat) (st nx : Int) (pr : List Int) (es : List Th) (x : Int) (a : Nat) (hn : n = es.length) (hr : Kd.C kTh w A n es) (hc : n ≤ c) (hl : n ≤ 1000) (hq : Smy.ok (st, pr, nx, es)) (ha : a < n) (hx : -9223372036854775808 ≤ x ∧ x ≤ 9223372036854775807) :
    Calls Try.prog 55 #[smyV st pr nx (.slice A n c), .int .i64 1, .int .i64 a, .int .i64 x] w (SetP n w) := by
  have hK1 := (Blk.new w (smyC st pr nx (.slice A n c)).toArray 58).alloc (.cells #[Value.int .i64 0, Value.int .u8 0, Value.int .u8 0, Value.int .u8 0, Value.int .u8 0, Value.int .u8 0, Value.int .u8 0, Value.int .u8 0, Value.int .u8 0, Value.int .u8 0, Value.int .u8 0, Value.int .u8 0, Value.int .u8 0, Value.int .u8 0, Value.int .u8 0, Value.int .u8 0, Value.int .u8 0, Value.int .u8 0, Value.int .u8 0, Value.int .u8 0, Value.int .u8 0, Value.int .u8 0, Value.int .u8 0, Value.int .u8 0, Value.int .u8 0, Value.int .u8 0, Value.int .u8 0, Value.int .u8 0, Value.int .u8 0, Value.int .u8 0, Value.int .u8 0, Value.int .u8 0, Value.int .u8 0, Value.int .i64 0, Value.slice none 0 0] 58)
  have hK2 := Blk.new (w.alloc (.cells (smyC st pr nx (.slice A n c)).toArray 58)) #[Value.int .i64 0, Value.int .u8 0, Value.int .u8 0, Value.int .u8 0, Value.int .u8 0, Value.int .u8 0, Value.int .u8 0, Value.int .u8 0, Value.int .u8 0, Value.int .u8 0, Value.int .u8 0, Value.int .u8 0, Value.int .u8 0, Value.int .u8 0, Value.int .u8 0, Value.int .u8 0, Value.int .u8 0, Value.int .u8 0, Value.int .u8 0, Value.int .u8 0, Value.int .u8 0, Value.int .u8 0, Value.int .u8 0, Value.int .u8 0, Value.int .u8 0, Value.int .u8 0, Value.int .u8 0, Value.int .u8 0, Value.int .u8 0, Value.int .u8 0, Value.int .u8 0, Value.int .u8 0, Value.int .u8 0, Value.int .i64 0, Value.slice none 0 0] 58
  rw [show (w.alloc (.cells (smyC st pr nx (.slice A n c)).toArray 58)).heap.size = w.heap.size + 1 from size_alloc _ _] at hK2
  have HE := Aside0.mk (((Ext.refl w).alloc (.cells (smyC st pr nx (.slice A n c)).toArray 58)).alloc (.cells #[Value.int .i64 0, Value.int .u8 0, Value.int .u8 0, Value.int .u8 0, Value.int .u8 0, Value.int .u8 0, Value.int .u8 0, Value.int .u8 0, Value.int .u8 0, Value.int .u8 0, Value.int .u8 0, Value.int .u8 0, Value.int .u8 0, Value.int .u8 0, Value.int .u8 0, Value.int .u8 0, Value.int .u8 0, Value.int .u8 0, Value.int .u8 0, Value.int .u8 0, Value.int .u8 0, Value.int .u8 0, Value.int .u8 0, Value.int .u8 0, Value.int .u8 0, Value.int .u8 0, Value.int .u8 0, Value.int .u8 0, Value.int .u8 0, Value.int .u8 0, Value.int .u8 0, Value.int .u8 0, Value.int .u8 0, Value.int .i64 0, Value.slice none 0 0] 58))
  have HW := Aside0.mk (show ((w.alloc (.cells (smyC st pr nx (.slice A n c)).toArray 58)).alloc (.cells #[Value.int .i64 0, Value.int .u8 0, Value.int .u8 0, Value.int .u8 0, Value.int .u8 0, Value.int .u8 0, Value.int .u8 0, Value.int .u8 0, Value.int .u8 0, Value.int .u8 0, Value.int .u8 0, Value.int .u8 0, Value.int .u8 0, Value.int .u8 0, Value.int .u8 0, Value.int .u8 0, Value.int .u8 0, Value.int .u8 0, Value.int .u8 0, Value.int .u8 0, Value.int .u8 0, Value.int .u8 0, Value.int .u8 0, Value.int .u8 0, Value.int .u8 0, Value.int .u8 0, Value.int .u8 0, Value.int .u8 0, Value.int .u8 0, Value.int .u8 0, Value.int .u8 0, Value.int .u8 0, Value.int .u8 0, Value.int .i64 0, Value.slice none 0 0] 58)).heap.size = w.heap.size + 2 by rw [size_alloc, size_alloc])
  have HQ := Aside0.mk hq
  have HN := Aside0.mk hn
  have HPL := Aside0.mk hq.2.1.1
  have HR := Aside0.mk (Kd.C_below hr HE.out)
  have HXB := Aside0.mk hx
  obtain ⟨c0, r1, c33, c34⟩ := smyBlk hK1 HPL.out
  have HIS := Aside0.mk (fun (st nx : Int) (V : Value) => show (Try.prog.info? 58).map (·.size) = some (smyC st pr nx V).length by rw [smyC_len HPL.out]; kernel_rfl)
  have HSS := Aside0.mk (fun (st nx : Int) (V : Value) => show #[Value.int .i64 0, Value.int .u8 0, Value.int .u8 0, Value.int .u8 0, Value.int .u8 0, Value.int .u8 0, Value.int .u8 0, Value.int .u8 0, Value.int .u8 0, Value.int .u8 0, Value.int .u8 0, Value.int .u8 0, Value.int .u8 0, Value.int .u8 0, Value.int .u8 0, Value.int .u8 0, Value.int .u8 0, Value.int .u8 0, Value.int .u8 0, Value.int .u8 0, Value.int .u8 0, Value.int .u8 0, Value.int .u8 0, Value.int .u8 0, Value.int .u8 0, Value.int .u8 0, Value.int .u8 0, Value.int .u8 0, Value.int .u8 0, Value.int .u8 0, Value.int .u8 0, Value.int .u8 0, Value.int .u8 0, Value.int .i64 0, Value.slice none 0 0].size = (smyC st pr nx V).length by rw [smyC_len HPL.out]; rfl)
  have HK1 := Aside0.mk hK1
  have HK2 := Aside0.mk hK2
  clear hn hr hq hx hK1 hK2 r1
  unfold smyV
  go_enter Try.func55, Try.ntmps55
  go_wp2_with fail
  refine (copyE_calls _ A n c es HN.out HR.out hc HQ.out.2.2.2 (by omega)).mono ?_
  rintro e w1 ⟨V, rfl, hR, hE⟩
  rw [HW.out] at hR
  obtain ⟨A5, C5, hV, hC5, _⟩ := EB.reads hR
  rw [← HN.out] at hV hC5
  subst hV
  have HV := Aside0.mk hR
  replace HK1 := Aside0.mk (HK1.out.ext hE)
  replace HK2 := Aside0.mk (HK2.out.ext hE)
  replace HE := Aside0.mk (HE.out.trans hE)
  clear hR hE c0 c33 c34 HR HW
  obtain ⟨c0, r1, c33, c34⟩ := smyBlk HK1.out HPL.out
  have f0 := HK1.out.free 0
  have f33 := HK1.out.free 33
  have f34 := HK1.out.free 34
  clear r1
  have HB1 := Aside0.mk (smy_set HK1.out HPL.out (.slice A5 n C5))
  have HWs := Aside0.mk (Wrote.setCell w1 w.heap.size 34 (.slice A5 n C5))
  have HV1 := Aside0.mk (HV.out.wrote HWs.out (fun h => by have := Kd.R_base HV.out _ h; omega))
  have HB2 := Aside0.mk (HK2.out.wrote HWs.out (by omega))
  have HE1 := Aside0.mk (HWs.out.ext HE.out (Nat.le_refl _))
  clear HV HK1 HK2 HE HWs
  have HBX := Aside0.mk (smy_set33 HB1.out HPL.out x)
  have HWs := Aside0.mk (Wrote.setCell (w1.setCell ⟨w.heap.size, 34, none⟩ (.slice A5 n C5)) w.heap.size 33 (.int .i64 x))
  have HVX := Aside0.mk (HV1.out.wrote HWs.out (fun h => by have := Kd.R_base HV1.out _ h; omega))
  have HKX := Aside0.mk (HB2.out.wrote HWs.out (by omega))
  have HEX := Aside0.mk (HWs.out.ext HE1.out (Nat.le_refl _))
  have HRW := Aside0.mk HBX.out.whole
  go_wp2_with (first | ((with_reducible refine gate_load (ty := 58) rfl ?_); refine load_at rfl 58 _ rfl w.heap.size 0 rfl (smyC st pr x (.slice A5 n C5)) _ HRW.out Try.underlying58 rfl (HIS.out _ _ _) ?_) | ((with_reducible refine gate_store (ty := 58) rfl ?_); (refine store_at rfl 58 _ _ rfl (w.heap.size + 1) (smyC st pr x (.slice A5 n C5)) rfl rfl #[Value.int .i64 0, Value.int .u8 0, Value.int .u8 0, Value.int .u8 0, Value.int .u8 0, Value.int .u8 0, Value.int .u8 0, Value.int .u8 0, Value.int .u8 0, Value.int .u8 0, Value.int .u8 0, Value.int .u8 0, Value.int .u8 0, Value.int .u8 0, Value.int .u8 0, Value.int .u8 0, Value.int .u8 0, Value.int .u8 0, Value.int .u8 0, Value.int .u8 0, Value.int .u8 0, Value.int .u8 0, Value.int .u8 0, Value.int .u8 0, Value.int .u8 0, Value.int .u8 0, Value.int .u8 0, Value.int .u8 0, Value.int .u8 0, Value.int .u8 0, Value.int .u8 0, Value.int .u8 0, Value.int .u8 0, Value.int .i64 0, Value.slice none 0 0] 58 HKX.out (HSS.out _ _ _) (HIS.out _ _ _) (smyC_one _ _ _ _ _ _) ?_)) | fail)
  intro wf hWf hBf
  have HVf := Aside0.mk (HVX.out.wrote hWf (fun h => by have := Kd.R_base HVX.out _ h; omega))
  have HEF := Aside0.mk (hWf.ext HEX.out (Nat.le_succ _))
  have HBf := Aside0.mk hBf
  clear hWf hBf
  go_wp2_with fail
  (try simp only [Exit.inBlock, Exit.then])
  refine bodyPost_ret (results_c1 rfl _ _ (w.heap.size + 1) 58 (smyC st pr x (.slice A5 n C5)).toArray (0, 0) _ rfl HBf.out.is Try.underlying58 rfl (by have := HIS.out st x (.slice A5 n C5); simpa using this)) rfl ?_
  exact ⟨.slice A5 n C5, (st, pr, x, es), rfl, EB.lower HVf.out (by omega), by show es.length = n; exact HN.out.symm, ⟨HQ.out.1, HQ.out.2.1, HXB.out, HQ.out.2.2.2⟩, HEF.out⟩

set_option maxRecDepth 100000 in
set_option maxHeartbeats 8000000 in
theorem set2_calls (w : World) (A : Option Addr) (c n : Nat) (st nx : Int) (pr : List Int) (es : List Th) (x : Int) (a : Nat) (hn : n = es.length) (hr : Kd.C kTh w A n es) (hc : n ≤ c) (hl : n ≤ 1000) (hq : Smy.ok (st, pr, nx, es)) (ha : a < n) (hx : -9223372036854775808 ≤ x ∧ x ≤ 9223372036854775807) :
    Calls Try.prog 55 #[smyV st pr nx (.slice A n c), .int .i64 2, .int .i64 a, .int .i64 x] w (SetP n w) := by
  have hK1 := (Blk.new w (smyC st pr nx (.slice A n c)).toArray 58).alloc (.cells #[Value.int .i64 0, Value.int .u8 0, Value.int .u8 0, Value.int .u8 0, Value.int .u8 0, Value.int .u8 0, Value.int .u8 0, Value.int .u8 0, Value.int .u8 0, Value.int .u8 0, Value.int .u8 0, Value.int .u8 0, Value.int .u8 0, Value.int .u8 0, Value.int .u8 0, Value.int .u8 0, Value.int .u8 0, Value.int .u8 0, Value.int .u8 0, Value.int .u8 0, Value.int .u8 0, Value.int .u8 0, Value.int .u8 0, Value.int .u8 0, Value.int .u8 0, Value.int .u8 0, Value.int .u8 0, Value.int .u8 0, Value.int .u8 0, Value.int .u8 0, Value.int .u8 0, Value.int .u8 0, Value.int .u8 0, Value.int .i64 0, Value.slice none 0 0] 58)
  have hK2 := Blk.new (w.alloc (.cells (smyC st pr nx (.slice A n c)).toArray 58)) #[Value.int .i64 0, Value.int .u8 0, Value.int .u8 0, Value.int .u8 0, Value.int .u8 0, Value.int .u8 0, Value.int .u8 0, Value.int .u8 0, Value.int .u8 0, Value.int .u8 0, Value.int .u8 0, Value.int .u8 0, Value.int .u8 0, Value.int .u8 0, Value.int .u8 0, Value.int .u8 0, Value.int .u8 0, Value.int .u8 0, Value.int .u8 0, Value.int .u8 0, Value.int .u8 0, Value.int .u8 0, Value.int .u8 0, Value.int .u8 0, Value.int .u8 0, Value.int .u8 0, Value.int .u8 0, Value.int .u8 0, Value.int .u8 0, Value.int .u8 0, Value.int .u8 0, Value.int .u8 0, Value.int .u8 0, Value.int .i64 0, Value.slice none 0 0] 58
  rw [show (w.alloc (.cells (smyC st pr nx (.slice A n c)).toArray 58)).heap.size = w.heap.size + 1 from size_alloc _ _] at hK2
  have HE := Aside0.mk (((Ext.refl w).alloc (.cells (smyC st pr nx (.slice A n c)).toArray 58)).alloc (.cells #[Value.int .i64 0, Value.int .u8 0, Value.int .u8 0, Value.int .u8 0, Value.int .u8 0, Value.int .u8 0, Value.int .u8 0, Value.int .u8 0, Value.int .u8 0, Value.int .u8 0, Value.int .u8 0, Value.int .u8 0, Value.int .u8 0, Value.int .u8 0, Value.int .u8 0, Value.int .u8 0, Value.int .u8 0, Value.int .u8 0, Value.int .u8 0, Value.int .u8 0, Value.int .u8 0, Value.int .u8 0, Value.int .u8 0, Value.int .u8 0, Value.int .u8 0, Value.int .u8 0, Value.int .u8 0, Value.int .u8 0, Value.int .u8 0, Value.int .u8 0, Value.int .u8 0, Value.int .u8 0, Value.int .u8 0, Value.int .i64 0, Value.slice none 0 0] 58))
  have HW := Aside0.mk (show ((w.alloc (.cells (smyC st pr nx (.slice A n c)).toArray 58)).alloc (.cells #[Value.int .i64 0, Value.int .u8 0, Value.int .u8 0, Value.int .u8 0, Value.int .u8 0, Value.int .u8 0, Value.int .u8 0, Value.int .u8 0, Value.int .u8 0, Value.int .u8 0, Value.int .u8 0, Value.int .u8 0, Value.int .u8 0, Value.int .u8 0, Value.int .u8 0, Value.int .u8 0, Value.int .u8 0, Value.int .u8 0, Value.int .u8 0, Value.int .u8 0, Value.int .u8 0, Value.int .u8 0, Value.int .u8 0, Value.int .u8 0, Value.int .u8 0, Value.int .u8 0, Value.int .u8 0, Value.int .u8 0, Value.int .u8 0, Value.int .u8 0, Value.int .u8 0, Value.int .u8 0, Value.int .u8 0, Value.int .i64 0, Value.slice none 0 0] 58)).heap.size = w.heap.size + 2 by rw [size_alloc, size_alloc])
  have HQ := Aside0.mk hq
  have HN := Aside0.mk hn
  have HPL := Aside0.mk hq.2.1.1
  have HR := Aside0.mk (Kd.C_below hr HE.out)
  have HXB := Aside0.mk hx
  obtain ⟨c0, r1, c33, c34⟩ := smyBlk hK1 HPL.out
  have HIS := Aside0.mk (fun (st nx : Int) (V : Value) => show (Try.prog.info? 58).map (·.size) = some (smyC st pr nx V).length by rw [smyC_len HPL.out]; kernel_rfl)
  have HSS := Aside0.mk (fun (st nx : Int) (V : Value) => show #[Value.int .i64 0, Value.int .u8 0, Value.int .u8 0, Value.int .u8 0, Value.int .u8 0, Value.int .u8 0, Value.int .u8 0, Value.int .u8 0, Value.int .u8 0, Value.int .u8 0, Value.int .u8 0, Value.int .u8 0, Value.int .u8 0, Value.int .u8 0, Value.int .u8 0, Value.int .u8 0, Value.int .u8 0, Value.int .u8 0, Value.int .u8 0, Value.int .u8 0, Value.int .u8 0, Value.int .u8 0, Value.int .u8 0, Value.int .u8 0, Value.int .u8 0, Value.int .u8 0, Value.int .u8 0, Value.int .u8 0, Value.int .u8 0, Value.int .u8 0, Value.int .u8 0, Value.int .u8 0, Value.int .u8 0, Value.int .i64 0, Value.slice none 0 0].size = (smyC st pr nx V).length by rw [smyC_len HPL.out]; rfl)
  have HK1 := Aside0.mk hK1
  have HK2 := Aside0.mk hK2
  clear hn hr hq hx hK1 hK2 r1
  unfold smyV
  go_enter Try.func55, Try.ntmps55
  go_wp2_with fail
  refine (copyE_calls _ A n c es HN.out HR.out hc HQ.out.2.2.2 (by omega)).mono ?_
  rintro e w1 ⟨V, rfl, hR, hE⟩
  rw [HW.out] at hR
  obtain ⟨A5, C5, hV, hC5, _⟩ := EB.reads hR
  rw [← HN.out] at hV hC5
  subst hV
  have HV := Aside0.mk hR
  replace HK1 := Aside0.mk (HK1.out.ext hE)
  replace HK2 := Aside0.mk (HK2.out.ext hE)
  replace HE := Aside0.mk (HE.out.trans hE)
  clear hR hE c0 c33 c34 HR HW
  obtain ⟨c0, r1, c33, c34⟩ := smyBlk HK1.out HPL.out
  have f0 := HK1.out.free 0
  have f33 := HK1.out.free 33
  have f34 := HK1.out.free 34
  clear r1
  have HB1 := Aside0.mk (smy_set HK1.out HPL.out (.slice A5 n C5))
  have HWs := Aside0.mk (Wrote.setCell w1 w.heap.size 34 (.slice A5 n C5))
  have HV1 := Aside0.mk (HV.out.wrote HWs.out (fun h => by have := Kd.R_base HV.out _ h; omega))
  have HB2 := Aside0.mk (HK2.out.wrote HWs.out (by omega))
  have HE1 := Aside0.mk (HWs.out.ext HE.out (Nat.le_refl _))
  clear HV HK1 HK2 HE HWs
  obtain ⟨g, t, hA, hg, hxt, hrg, htl⟩ := EB.elem HV1.out a ha
  subst hA
  have HTL := Aside0.mk htl
  have HG := Aside0.mk hrg
  have HTO := Aside0.mk (HQ.out.2.2.2 t (List.mem_of_getElem? hxt))
  have HT0 := Aside0.mk (show t.2.2.2.length = 32 from HTO.out.2.2.2.1)
  clear hg hxt hrg htl
  generalize hws : w1.setCell ⟨w.heap.size, 34, none⟩ (.slice (some ⟨g, 0, none⟩) n C5) = w2 at HB1 HV1 HB2 HE1 HG
  have c34' := (smyBlk HB1.out HPL.out).2.2.2
  go_wp2_with (first | ((with_reducible refine gate_store (ty := 3) rfl ?_); refine Held.out ?_) | fail)
  (try rw [hws])
  clear hws
  refine Held.mk ?_
  refine Kd.R_store kTh (w0 := w2) (w.heap.size + 2) rfl rfl 3 (.tmp 29) (.tmp 27) rfl 73 (a : Int) 0 es (e0 t x) (.int .i64 x) [(.int .i64 x)] (thC t) (fun _ => True) (fun _ => False) rfl ?f1 rfl rfl (by kernel_rfl) (by simp [Value.oneCell']) HV1.out (Int.natCast_nonneg a) (by omega) HTL.out ?f2 ?f3 ?f4 (fun _ h => h.elim) (Below.refl _ _) ?_
  case f1 => show _ = (a : Int).toNat * 35 + _; omega
  case f2 => exact fun j u hu => HG.out j u hu
  case f3 => show 0 + 1 ≤ 35; decide
  case f4 => exact lit_M _ _ _ _ HT0.out rfl
  intro w3 hR hBl _
  have HVX := Aside0.mk (show EB w3 (w.heap.size + 2) (.slice (some ⟨g, 0, none⟩) n C5) (es.set (a : Int).toNat (e0 t x)) from hR)
  have HBX := Aside0.mk (HB1.out.below (by omega) hBl)
  have HKX := Aside0.mk (HB2.out.below (by omega) hBl)
  have HEX := Aside0.mk (ext_below HE1.out hBl (by omega))
  have HRW := Aside0.mk HBX.out.whole
  clear hR hBl HV1 HB1 HB2 HE1 c34'
  go_wp2_with (first | ((with_reducible refine gate_load (ty := 58) rfl ?_); refine load_at rfl 58 _ rfl w.heap.size 0 rfl (smyC st pr nx (.slice (some ⟨g, 0, none⟩) n C5)) _ HRW.out Try.underlying58 rfl (HIS.out _ _ _) ?_) | ((with_reducible refine gate_store (ty := 58) rfl ?_); (refine store_at rfl 58 _ _ rfl (w.heap.size + 1) (smyC st pr nx (.slice (some ⟨g, 0, none⟩) n C5)) rfl rfl #[Value.int .i64 0, Value.int .u8 0, Value.int .u8 0, Value.int .u8 0, Value.int .u8 0, Value.int .u8 0, Value.int .u8 0, Value.int .u8 0, Value.int .u8 0, Value.int .u8 0, Value.int .u8 0, Value.int .u8 0, Value.int .u8 0, Value.int .u8 0, Value.int .u8 0, Value.int .u8 0, Value.int .u8 0, Value.int .u8 0, Value.int .u8 0, Value.int .u8 0, Value.int .u8 0, Value.int .u8 0, Value.int .u8 0, Value.int .u8 0, Value.int .u8 0, Value.int .u8 0, Value.int .u8 0, Value.int .u8 0, Value.int .u8 0, Value.int .u8 0, Value.int .u8 0, Value.int .u8 0, Value.int .u8 0, Value.int .i64 0, Value.slice none 0 0] 58 HKX.out (HSS.out _ _ _) (HIS.out _ _ _) (smyC_one _ _ _ _ _ _) ?_)) | fail)
  intro wf hWf hBf
  have HVf := Aside0.mk (HVX.out.wrote hWf (fun h => by have := Kd.R_base HVX.out _ h; omega))
  have HEF := Aside0.mk (hWf.ext HEX.out (Nat.le_succ _))
  have HBf := Aside0.mk hBf
  clear hWf hBf
  go_wp2_with fail
  (try simp only [Exit.inBlock, Exit.then])
  refine bodyPost_ret (results_c1 rfl _ _ (w.heap.size + 1) 58 (smyC st pr nx (.slice (some ⟨g, 0, none⟩) n C5)).toArray (0, 0) _ rfl HBf.out.is Try.underlying58 rfl (by have := HIS.out st nx (.slice (some ⟨g, 0, none⟩) n C5); simpa using this)) rfl ?_
  exact ⟨.slice (some ⟨g, 0, none⟩) n C5, (st, pr, nx, (es.set (a : Int).toNat (e0 t x))), rfl, EB.lower HVf.out (by omega), by show (es.set (a : Int).toNat (e0 t x)).length = n; rw [List.length_set]; exact HN.out.symm, ⟨HQ.out.1, HQ.out.2.1, HQ.out.2.2.1, set_all HQ.out.2.2.2 _ _ ⟨HXB.out, HTO.out.2⟩⟩, HEF.out⟩

set_option maxRecDepth 100000 in
set_option maxHeartbeats 8000000 in
theorem set3_calls (w : World) (A : Option Addr) (c n : Nat) (st nx : Int) (pr : List Int) (es : List Th) (x : Int) (a : Nat) (hn : n = es.length) (hr : Kd.C kTh w A n es) (hc : n ≤ c) (hl : n ≤ 1000) (hq : Smy.ok (st, pr, nx, es)) (ha : a < n) (hx : -9223372036854775808 ≤ x ∧ x ≤ 9223372036854775807) :
    Calls Try.prog 55 #[smyV st pr nx (.slice A n c), .int .i64 3, .int .i64 a, .int .i64 x] w (SetP n w) := by
  have hK1 := (Blk.new w (smyC st pr nx (.slice A n c)).toArray 58).alloc (.cells #[Value.int .i64 0, Value.int .u8 0, Value.int .u8 0, Value.int .u8 0, Value.int .u8 0, Value.int .u8 0, Value.int .u8 0, Value.int .u8 0, Value.int .u8 0, Value.int .u8 0, Value.int .u8 0, Value.int .u8 0, Value.int .u8 0, Value.int .u8 0, Value.int .u8 0, Value.int .u8 0, Value.int .u8 0, Value.int .u8 0, Value.int .u8 0, Value.int .u8 0, Value.int .u8 0, Value.int .u8 0, Value.int .u8 0, Value.int .u8 0, Value.int .u8 0, Value.int .u8 0, Value.int .u8 0, Value.int .u8 0, Value.int .u8 0, Value.int .u8 0, Value.int .u8 0, Value.int .u8 0, Value.int .u8 0, Value.int .i64 0, Value.slice none 0 0] 58)
  have hK2 := Blk.new (w.alloc (.cells (smyC st pr nx (.slice A n c)).toArray 58)) #[Value.int .i64 0, Value.int .u8 0, Value.int .u8 0, Value.int .u8 0, Value.int .u8 0, Value.int .u8 0, Value.int .u8 0, Value.int .u8 0, Value.int .u8 0, Value.int .u8 0, Value.int .u8 0, Value.int .u8 0, Value.int .u8 0, Value.int .u8 0, Value.int .u8 0, Value.int .u8 0, Value.int .u8 0, Value.int .u8 0, Value.int .u8 0, Value.int .u8 0, Value.int .u8 0, Value.int .u8 0, Value.int .u8 0, Value.int .u8 0, Value.int .u8 0, Value.int .u8 0, Value.int .u8 0, Value.int .u8 0, Value.int .u8 0, Value.int .u8 0, Value.int .u8 0, Value.int .u8 0, Value.int .u8 0, Value.int .i64 0, Value.slice none 0 0] 58
  rw [show (w.alloc (.cells (smyC st pr nx (.slice A n c)).toArray 58)).heap.size = w.heap.size + 1 from size_alloc _ _] at hK2
  have HE := Aside0.mk (((Ext.refl w).alloc (.cells (smyC st pr nx (.slice A n c)).toArray 58)).alloc (.cells #[Value.int .i64 0, Value.int .u8 0, Value.int .u8 0, Value.int .u8 0, Value.int .u8 0, Value.int .u8 0, Value.int .u8 0, Value.int .u8 0, Value.int .u8 0, Value.int .u8 0, Value.int .u8 0, Value.int .u8 0, Value.int .u8 0, Value.int .u8 0, Value.int .u8 0, Value.int .u8 0, Value.int .u8 0, Value.int .u8 0, Value.int .u8 0, Value.int .u8 0, Value.int .u8 0, Value.int .u8 0, Value.int .u8 0, Value.int .u8 0, Value.int .u8 0, Value.int .u8 0, Value.int .u8 0, Value.int .u8 0, Value.int .u8 0, Value.int .u8 0, Value.int .u8 0, Value.int .u8 0, Value.int .u8 0, Value.int .i64 0, Value.slice none 0 0] 58))
  have HW := Aside0.mk (show ((w.alloc (.cells (smyC st pr nx (.slice A n c)).toArray 58)).alloc (.cells #[Value.int .i64 0, Value.int .u8 0, Value.int .u8 0, Value.int .u8 0, Value.int .u8 0, Value.int .u8 0, Value.int .u8 0, Value.int .u8 0, Value.int .u8 0, Value.int .u8 0, Value.int .u8 0, Value.int .u8 0, Value.int .u8 0, Value.int .u8 0, Value.int .u8 0, Value.int .u8 0, Value.int .u8 0, Value.int .u8 0, Value.int .u8 0, Value.int .u8 0, Value.int .u8 0, Value.int .u8 0, Value.int .u8 0, Value.int .u8 0, Value.int .u8 0, Value.int .u8 0, Value.int .u8 0, Value.int .u8 0, Value.int .u8 0, Value.int .u8 0, Value.int .u8 0, Value.int .u8 0, Value.int .u8 0, Value.int .i64 0, Value.slice none 0 0] 58)).heap.size = w.heap.size + 2 by rw [size_alloc, size_alloc])
  have HQ := Aside0.mk hq
  have HN := Aside0.mk hn
  have HPL := Aside0.mk hq.2.1.1
  have HR := Aside0.mk (Kd.C_below hr HE.out)
  have HXB := Aside0.mk hx
  obtain ⟨c0, r1, c33, c34⟩ := smyBlk hK1 HPL.out
  have HIS := Aside0.mk (fun (st nx : Int) (V : Value) => show (Try.prog.info? 58).map (·.size) = some (smyC st pr nx V).length by rw [smyC_len HPL.out]; kernel_rfl)
  have HSS := Aside0.mk (fun (st nx : Int) (V : Value) => show #[Value.int .i64 0, Value.int .u8 0, Value.int .u8 0, Value.int .u8 0, Value.int .u8 0, Value.int .u8 0, Value.int .u8 0, Value.int .u8 0, Value.int .u8 0, Value.int .u8 0, Value.int .u8 0, Value.int .u8 0, Value.int .u8 0, Value.int .u8 0, Value.int .u8 0, Value.int .u8 0, Value.int .u8 0, Value.int .u8 0, Value.int .u8 0, Value.int .u8 0, Value.int .u8 0, Value.int .u8 0, Value.int .u8 0, Value.int .u8 0, Value.int .u8 0, Value.int .u8 0, Value.int .u8 0, Value.int .u8 0, Value.int .u8 0, Value.int .u8 0, Value.int .u8 0, Value.int .u8 0, Value.int .u8 0, Value.int .i64 0, Value.slice none 0 0].size = (smyC st pr nx V).length by rw [smyC_len HPL.out]; rfl)
  have HK1 := Aside0.mk hK1
  have HK2 := Aside0.mk hK2
  clear hn hr hq hx hK1 hK2 r1
  unfold smyV
  go_enter Try.func55, Try.ntmps55
  go_wp2_with fail
  refine (copyE_calls _ A n c es HN.out HR.out hc HQ.out.2.2.2 (by omega)).mono ?_
  rintro e w1 ⟨V, rfl, hR, hE⟩
  rw [HW.out] at hR
  obtain ⟨A5, C5, hV, hC5, _⟩ := EB.reads hR
  rw [← HN.out] at hV hC5
  subst hV
  have HV := Aside0.mk hR
  replace HK1 := Aside0.mk (HK1.out.ext hE)
  replace HK2 := Aside0.mk (HK2.out.ext hE)
  replace HE := Aside0.mk (HE.out.trans hE)
  clear hR hE c0 c33 c34 HR HW
  obtain ⟨c0, r1, c33, c34⟩ := smyBlk HK1.out HPL.out
  have f0 := HK1.out.free 0
  have f33 := HK1.out.free 33
  have f34 := HK1.out.free 34
  clear r1
  have HB1 := Aside0.mk (smy_set HK1.out HPL.out (.slice A5 n C5))
  have HWs := Aside0.mk (Wrote.setCell w1 w.heap.size 34 (.slice A5 n C5))
  have HV1 := Aside0.mk (HV.out.wrote HWs.out (fun h => by have := Kd.R_base HV.out _ h; omega))
  have HB2 := Aside0.mk (HK2.out.wrote HWs.out (by omega))
  have HE1 := Aside0.mk (HWs.out.ext HE.out (Nat.le_refl _))
  clear HV HK1 HK2 HE HWs
  obtain ⟨g, t, hA, hg, hxt, hrg, htl⟩ := EB.elem HV1.out a ha
  subst hA
  have HTL := Aside0.mk htl
  have HG := Aside0.mk hrg
  have HTO := Aside0.mk (HQ.out.2.2.2 t (List.mem_of_getElem? hxt))
  have HT0 := Aside0.mk (show t.2.2.2.length = 32 from HTO.out.2.2.2.1)
  clear hg hxt hrg htl
  generalize hws : w1.setCell ⟨w.heap.size, 34, none⟩ (.slice (some ⟨g, 0, none⟩) n C5) = w2 at HB1 HV1 HB2 HE1 HG
  have c34' := (smyBlk HB1.out HPL.out).2.2.2
  go_wp2_with (first | ((with_reducible refine gate_store (ty := 3) rfl ?_); refine Held.out ?_) | fail)
  (try rw [hws])
  clear hws
  refine Held.mk ?_
  refine Kd.R_store kTh (w0 := w2) (w.heap.size + 2) rfl rfl 3 (.tmp 37) (.tmp 35) rfl 73 (a : Int) 1 es (e1 t x) (.int .i64 x) [(.int .i64 x)] (thC t) (fun _ => True) (fun _ => False) rfl ?f1 rfl rfl (by kernel_rfl) (by simp [Value.oneCell']) HV1.out (Int.natCast_nonneg a) (by omega) HTL.out ?f2 ?f3 ?f4 (fun _ h => h.elim) (Below.refl _ _) ?_
  case f1 => show _ = (a : Int).toNat * 35 + _; omega
  case f2 => exact fun j u hu => HG.out j u hu
  case f3 => show 1 + 1 ≤ 35; decide
  case f4 => exact lit_M _ _ _ _ HT0.out rfl
  intro w3 hR hBl _
  have HVX := Aside0.mk (show EB w3 (w.heap.size + 2) (.slice (some ⟨g, 0, none⟩) n C5) (es.set (a : Int).toNat (e1 t x)) from hR)
  have HBX := Aside0.mk (HB1.out.below (by omega) hBl)
  have HKX := Aside0.mk (HB2.out.below (by omega) hBl)
  have HEX := Aside0.mk (ext_below HE1.out hBl (by omega))
  have HRW := Aside0.mk HBX.out.whole
  clear hR hBl HV1 HB1 HB2 HE1 c34'
  go_wp2_with (first | ((with_reducible refine gate_load (ty := 58) rfl ?_); refine load_at rfl 58 _ rfl w.heap.size 0 rfl (smyC st pr nx (.slice (some ⟨g, 0, none⟩) n C5)) _ HRW.out Try.underlying58 rfl (HIS.out _ _ _) ?_) | ((with_reducible refine gate_store (ty := 58) rfl ?_); (refine store_at rfl 58 _ _ rfl (w.heap.size + 1) (smyC st pr nx (.slice (some ⟨g, 0, none⟩) n C5)) rfl rfl #[Value.int .i64 0, Value.int .u8 0, Value.int .u8 0, Value.int .u8 0, Value.int .u8 0, Value.int .u8 0, Value.int .u8 0, Value.int .u8 0, Value.int .u8 0, Value.int .u8 0, Value.int .u8 0, Value.int .u8 0, Value.int .u8 0, Value.int .u8 0, Value.int .u8 0, Value.int .u8 0, Value.int .u8 0, Value.int .u8 0, Value.int .u8 0, Value.int .u8 0, Value.int .u8 0, Value.int .u8 0, Value.int .u8 0, Value.int .u8 0, Value.int .u8 0, Value.int .u8 0, Value.int .u8 0, Value.int .u8 0, Value.int .u8 0, Value.int .u8 0, Value.int .u8 0, Value.int .u8 0, Value.int .u8 0, Value.int .i64 0, Value.slice none 0 0] 58 HKX.out (HSS.out _ _ _) (HIS.out _ _ _) (smyC_one _ _ _ _ _ _) ?_)) | fail)
  intro wf hWf hBf
  have HVf := Aside0.mk (HVX.out.wrote hWf (fun h => by have := Kd.R_base HVX.out _ h; omega))
  have HEF := Aside0.mk (hWf.ext HEX.out (Nat.le_succ _))
  have HBf := Aside0.mk hBf
  clear hWf hBf
  go_wp2_with fail
  (try simp only [Exit.inBlock, Exit.then])
  refine bodyPost_ret (results_c1 rfl _ _ (w.heap.size + 1) 58 (smyC st pr nx (.slice (some ⟨g, 0, none⟩) n C5)).toArray (0, 0) _ rfl HBf.out.is Try.underlying58 rfl (by have := HIS.out st nx (.slice (some ⟨g, 0, none⟩) n C5); simpa using this)) rfl ?_
  exact ⟨.slice (some ⟨g, 0, none⟩) n C5, (st, pr, nx, (es.set (a : Int).toNat (e1 t x))), rfl, EB.lower HVf.out (by omega), by show (es.set (a : Int).toNat (e1 t x)).length = n; rw [List.length_set]; exact HN.out.symm, ⟨HQ.out.1, HQ.out.2.1, HQ.out.2.2.1, set_all HQ.out.2.2.2 _ _ ⟨HTO.out.1, HXB.out, HTO.out.2.2⟩⟩, HEF.out⟩

set_option maxRecDepth 100000 in
set_option maxHeartbeats 8000000 in
theorem set4_calls (w : World) (A : Option Addr) (c n : Nat) (st nx : Int) (pr : List Int) (es : List Th) (x : Int) (a : Nat) (hn : n = es.length) (hr : Kd.C kTh w A n es) (hc : n ≤ c) (hl : n ≤ 1000) (hq : Smy.ok (st, pr, nx, es)) (ha : a < n) (hx : -9223372036854775808 ≤ x ∧ x ≤ 9223372036854775807) :
    Calls Try.prog 55 #[smyV st pr nx (.slice A n c), .int .i64 4, .int .i64 a, .int .i64 x] w (SetP n w) := by
  have hK1 := (Blk.new w (smyC st pr nx (.slice A n c)).toArray 58).alloc (.cells #[Value.int .i64 0, Value.int .u8 0, Value.int .u8 0, Value.int .u8 0, Value.int .u8 0, Value.int .u8 0, Value.int .u8 0, Value.int .u8 0, Value.int .u8 0, Value.int .u8 0, Value.int .u8 0, Value.int .u8 0, Value.int .u8 0, Value.int .u8 0, Value.int .u8 0, Value.int .u8 0, Value.int .u8 0, Value.int .u8 0, Value.int .u8 0, Value.int .u8 0, Value.int .u8 0, Value.int .u8 0, Value.int .u8 0, Value.int .u8 0, Value.int .u8 0, Value.int .u8 0, Value.int .u8 0, Value.int .u8 0, Value.int .u8 0, Value.int .u8 0, Value.int .u8 0, Value.int .u8 0, Value.int .u8 0, Value.int .i64 0, Value.slice none 0 0] 58)
  have hK2 := Blk.new (w.alloc (.cells (smyC st pr nx (.slice A n c)).toArray 58)) #[Value.int .i64 0, Value.int .u8 0, Value.int .u8 0, Value.int .u8 0, Value.int .u8 0, Value.int .u8 0, Value.int .u8 0, Value.int .u8 0, Value.int .u8 0, Value.int .u8 0, Value.int .u8 0, Value.int .u8 0, Value.int .u8 0, Value.int .u8 0, Value.int .u8 0, Value.int .u8 0, Value.int .u8 0, Value.int .u8 0, Value.int .u8 0, Value.int .u8 0, Value.int .u8 0, Value.int .u8 0, Value.int .u8 0, Value.int .u8 0, Value.int .u8 0, Value.int .u8 0, Value.int .u8 0, Value.int .u8 0, Value.int .u8 0, Value.int .u8 0, Value.int .u8 0, Value.int .u8 0, Value.int .u8 0, Value.int .i64 0, Value.slice none 0 0] 58
  rw [show (w.alloc (.cells (smyC st pr nx (.slice A n c)).toArray 58)).heap.size = w.heap.size + 1 from size_alloc _ _] at hK2
  have HE := Aside0.mk (((Ext.refl w).alloc (.cells (smyC st pr nx (.slice A n c)).toArray 58)).alloc (.cells #[Value.int .i64 0, Value.int .u8 0, Value.int .u8 0, Value.int .u8 0, Value.int .u8 0, Value.int .u8 0, Value.int .u8 0, Value.int .u8 0, Value.int .u8 0, Value.int .u8 0, Value.int .u8 0, Value.int .u8 0, Value.int .u8 0, Value.int .u8 0, Value.int .u8 0, Value.int .u8 0, Value.int .u8 0, Value.int .u8 0, Value.int .u8 0, Value.int .u8 0, Value.int .u8 0, Value.int .u8 0, Value.int .u8 0, Value.int .u8 0, Value.int .u8 0, Value.int .u8 0, Value.int .u8 0, Value.int .u8 0, Value.int .u8 0, Value.int .u8 0, Value.int .u8 0, Value.int .u8 0, Value.int .u8 0, Value.int .i64 0, Value.slice none 0 0] 58))
  have HW := Aside0.mk (show ((w.alloc (.cells (smyC st pr nx (.slice A n c)).toArray 58)).alloc (.cells #[Value.int .i64 0, Value.int .u8 0, Value.int .u8 0, Value.int .u8 0, Value.int .u8 0, Value.int .u8 0, Value.int .u8 0, Value.int .u8 0, Value.int .u8 0, Value.int .u8 0, Value.int .u8 0, Value.int .u8 0, Value.int .u8 0, Value.int .u8 0, Value.int .u8 0, Value.int .u8 0, Value.int .u8 0, Value.int .u8 0, Value.int .u8 0, Value.int .u8 0, Value.int .u8 0, Value.int .u8 0, Value.int .u8 0, Value.int .u8 0, Value.int .u8 0, Value.int .u8 0, Value.int .u8 0, Value.int .u8 0, Value.int .u8 0, Value.int .u8 0, Value.int .u8 0, Value.int .u8 0, Value.int .u8 0, Value.int .i64 0, Value.slice none 0 0] 58)).heap.size = w.heap.size + 2 by rw [size_alloc, size_alloc])
  have HQ := Aside0.mk hq
  have HN := Aside0.mk hn
  have HPL := Aside0.mk hq.2.1.1
  have HR := Aside0.mk (Kd.C_below hr HE.out)
  have HXB := Aside0.mk hx
  obtain ⟨c0, r1, c33, c34⟩ := smyBlk hK1 HPL.out
  have HIS := Aside0.mk (fun (st nx : Int) (V : Value) => show (Try.prog.info? 58).map (·.size) = some (smyC st pr nx V).length by rw [smyC_len HPL.out]; kernel_rfl)
  have HSS := Aside0.mk (fun (st nx : Int) (V : Value) => show #[Value.int .i64 0, Value.int .u8 0, Value.int .u8 0, Value.int .u8 0, Value.int .u8 0, Value.int .u8 0, Value.int .u8 0, Value.int .u8 0, Value.int .u8 0, Value.int .u8 0, Value.int .u8 0, Value.int .u8 0, Value.int .u8 0, Value.int .u8 0, Value.int .u8 0, Value.int .u8 0, Value.int .u8 0, Value.int .u8 0, Value.int .u8 0, Value.int .u8 0, Value.int .u8 0, Value.int .u8 0, Value.int .u8 0, Value.int .u8 0, Value.int .u8 0, Value.int .u8 0, Value.int .u8 0, Value.int .u8 0, Value.int .u8 0, Value.int .u8 0, Value.int .u8 0, Value.int .u8 0, Value.int .u8 0, Value.int .i64 0, Value.slice none 0 0].size = (smyC st pr nx V).length by rw [smyC_len HPL.out]; rfl)
  have HK1 := Aside0.mk hK1
  have HK2 := Aside0.mk hK2
  clear hn hr hq hx hK1 hK2 r1
  unfold smyV
  go_enter Try.func55, Try.ntmps55
  go_wp2_with fail
  refine (copyE_calls _ A n c es HN.out HR.out hc HQ.out.2.2.2 (by omega)).mono ?_
  rintro e w1 ⟨V, rfl, hR, hE⟩
  rw [HW.out] at hR
  obtain ⟨A5, C5, hV, hC5, _⟩ := EB.reads hR
  rw [← HN.out] at hV hC5
  subst hV
  have HV := Aside0.mk hR
  replace HK1 := Aside0.mk (HK1.out.ext hE)
  replace HK2 := Aside0.mk (HK2.out.ext hE)
  replace HE := Aside0.mk (HE.out.trans hE)
  clear hR hE c0 c33 c34 HR HW
  obtain ⟨c0, r1, c33, c34⟩ := smyBlk HK1.out HPL.out
  have f0 := HK1.out.free 0
  have f33 := HK1.out.free 33
  have f34 := HK1.out.free 34
  clear r1
  have HB1 := Aside0.mk (smy_set HK1.out HPL.out (.slice A5 n C5))
  have HWs := Aside0.mk (Wrote.setCell w1 w.heap.size 34 (.slice A5 n C5))
  have HV1 := Aside0.mk (HV.out.wrote HWs.out (fun h => by have := Kd.R_base HV.out _ h; omega))
  have HB2 := Aside0.mk (HK2.out.wrote HWs.out (by omega))
  have HE1 := Aside0.mk (HWs.out.ext HE.out (Nat.le_refl _))
  clear HV HK1 HK2 HE HWs
  obtain ⟨g, t, hA, hg, hxt, hrg, htl⟩ := EB.elem HV1.out a ha
  subst hA
  have HTL := Aside0.mk htl
  have HG := Aside0.mk hrg
  have HTO := Aside0.mk (HQ.out.2.2.2 t (List.mem_of_getElem? hxt))
  have HT0 := Aside0.mk (show t.2.2.2.length = 32 from HTO.out.2.2.2.1)
  clear hg hxt hrg htl
  generalize hws : w1.setCell ⟨w.heap.size, 34, none⟩ (.slice (some ⟨g, 0, none⟩) n C5) = w2 at HB1 HV1 HB2 HE1 HG
  have c34' := (smyBlk HB1.out HPL.out).2.2.2
  go_wp2_with (first | ((with_reducible refine gate_store (ty := 3) rfl ?_); refine Held.out ?_) | fail)
  (try rw [hws])
  clear hws
  refine Held.mk ?_
  refine Kd.R_store kTh (w0 := w2) (w.heap.size + 2) rfl rfl 3 (.tmp 45) (.tmp 43) rfl 73 (a : Int) 2 es (e2 t x) (.int .i64 x) [(.int .i64 x)] (thC t) (fun _ => True) (fun _ => False) rfl ?f1 rfl rfl (by kernel_rfl) (by simp [Value.oneCell']) HV1.out (Int.natCast_nonneg a) (by omega) HTL.out ?f2 ?f3 ?f4 (fun _ h => h.elim) (Below.refl _ _) ?_
  case f1 => show _ = (a : Int).toNat * 35 + _; omega
  case f2 => exact fun j u hu => HG.out j u hu
  case f3 => show 2 + 1 ≤ 35; decide
  case f4 => exact lit_M _ _ _ _ HT0.out rfl
  intro w3 hR hBl _
  have HVX := Aside0.mk (show EB w3 (w.heap.size + 2) (.slice (some ⟨g, 0, none⟩) n C5) (es.set (a : Int).toNat (e2 t x)) from hR)
  have HBX := Aside0.mk (HB1.out.below (by omega) hBl)
  have HKX := Aside0.mk (HB2.out.below (by omega) hBl)
  have HEX := Aside0.mk (ext_below HE1.out hBl (by omega))
  have HRW := Aside0.mk HBX.out.whole
  clear hR hBl HV1 HB1 HB2 HE1 c34'
  go_wp2_with (first | ((with_reducible refine gate_load (ty := 58) rfl ?_); refine load_at rfl 58 _ rfl w.heap.size 0 rfl (smyC st pr nx (.slice (some ⟨g, 0, none⟩) n C5)) _ HRW.out Try.underlying58 rfl (HIS.out _ _ _) ?_) | ((with_reducible refine gate_store (ty := 58) rfl ?_); (refine store_at rfl 58 _ _ rfl (w.heap.size + 1) (smyC st pr nx (.slice (some ⟨g, 0, none⟩) n C5)) rfl rfl #[Value.int .i64 0, Value.int .u8 0, Value.int .u8 0, Value.int .u8 0, Value.int .u8 0, Value.int .u8 0, Value.int .u8 0, Value.int .u8 0, Value.int .u8 0, Value.int .u8 0, Value.int .u8 0, Value.int .u8 0, Value.int .u8 0, Value.int .u8 0, Value.int .u8 0, Value.int .u8 0, Value.int .u8 0, Value.int .u8 0, Value.int .u8 0, Value.int .u8 0, Value.int .u8 0, Value.int .u8 0, Value.int .u8 0, Value.int .u8 0, Value.int .u8 0, Value.int .u8 0, Value.int .u8 0, Value.int .u8 0, Value.int .u8 0, Value.int .u8 0, Value.int .u8 0, Value.int .u8 0, Value.int .u8 0, Value.int .i64 0, Value.slice none 0 0] 58 HKX.out (HSS.out _ _ _) (HIS.out _ _ _) (smyC_one _ _ _ _ _ _) ?_)) | fail)
  intro wf hWf hBf
  have HVf := Aside0.mk (HVX.out.wrote hWf (fun h => by have := Kd.R_base HVX.out _ h; omega))
  have HEF := Aside0.mk (hWf.ext HEX.out (Nat.le_succ _))
  have HBf := Aside0.mk hBf
  clear hWf hBf
  go_wp2_with fail
  (try simp only [Exit.inBlock, Exit.then])
  refine bodyPost_ret (results_c1 rfl _ _ (w.heap.size + 1) 58 (smyC st pr nx (.slice (some ⟨g, 0, none⟩) n C5)).toArray (0, 0) _ rfl HBf.out.is Try.underlying58 rfl (by have := HIS.out st nx (.slice (some ⟨g, 0, none⟩) n C5); simpa using this)) rfl ?_
  exact ⟨.slice (some ⟨g, 0, none⟩) n C5, (st, pr, nx, (es.set (a : Int).toNat (e2 t x))), rfl, EB.lower HVf.out (by omega), by show (es.set (a : Int).toNat (e2 t x)).length = n; rw [List.length_set]; exact HN.out.symm, ⟨HQ.out.1, HQ.out.2.1, HQ.out.2.2.1, set_all HQ.out.2.2.2 _ _ ⟨HTO.out.1, HTO.out.2.1, HXB.out, HTO.out.2.2.2⟩⟩, HEF.out⟩

set_option maxRecDepth 100000 in
set_option maxHeartbeats 8000000 in
theorem set5_calls (w : World) (A : Option Addr) (c n : Nat) (st nx : Int) (pr : List Int) (es : List Th) (x : Int) (a : Nat) (hn : n = es.length) (hr : Kd.C kTh w A n es) (hc : n ≤ c) (hl : n ≤ 1000) (hq : Smy.ok (st, pr, nx, es)) (ha : a < n) (hx : -9223372036854775808 ≤ x ∧ x ≤ 9223372036854775807) :
    Calls Try.prog 55 #[smyV st pr nx (.slice A n c), .int .i64 5, .int .i64 a, .int .i64 x] w (SetP n w) := by
  have hK1 := (Blk.new w (smyC st pr nx (.slice A n c)).toArray 58).alloc (.cells #[Value.int .i64 0, Value.int .u8 0, Value.int .u8 0, Value.int .u8 0, Value.int .u8 0, Value.int .u8 0, Value.int .u8 0, Value.int .u8 0, Value.int .u8 0, Value.int .u8 0, Value.int .u8 0, Value.int .u8 0, Value.int .u8 0, Value.int .u8 0, Value.int .u8 0, Value.int .u8 0, Value.int .u8 0, Value.int .u8 0, Value.int .u8 0, Value.int .u8 0, Value.int .u8 0, Value.int .u8 0, Value.int .u8 0, Value.int .u8 0, Value.int .u8 0, Value.int .u8 0, Value.int .u8 0, Value.int .u8 0, Value.int .u8 0, Value.int .u8 0, Value.int .u8 0, Value.int .u8 0, Value.int .u8 0, Value.int .i64 0, Value.slice none 0 0] 58)
  have hK2 := Blk.new (w.alloc (.cells (smyC st pr nx (.slice A n c)).toArray 58)) #[Value.int .i64 0, Value.int .u8 0, Value.int .u8 0, Value.int .u8 0, Value.int .u8 0, Value.int .u8 0, Value.int .u8 0, Value.int .u8 0, Value.int .u8 0, Value.int .u8 0, Value.int .u8 0, Value.int .u8 0, Value.int .u8 0, Value.int .u8 0, Value.int .u8 0, Value.int .u8 0, Value.int .u8 0, Value.int .u8 0, Value.int .u8 0, Value.int .u8 0, Value.int .u8 0, Value.int .u8 0, Value.int .u8 0, Value.int .u8 0, Value.int .u8 0, Value.int .u8 0, Value.int .u8 0, Value.int .u8 0, Value.int .u8 0, Value.int .u8 0, Value.int .u8 0, Value.int .u8 0, Value.int .u8 0, Value.int .i64 0, Value.slice none 0 0] 58
  rw [show (w.alloc (.cells (smyC st pr nx (.slice A n c)).toArray 58)).heap.size = w.heap.size + 1 from size_alloc _ _] at hK2
  have HE := Aside0.mk (((Ext.refl w).alloc (.cells (smyC st pr nx (.slice A n c)).toArray 58)).alloc (.cells #[Value.int .i64 0, Value.int .u8 0, Value.int .u8 0, Value.int .u8 0, Value.int .u8 0, Value.int .u8 0, Value.int .u8 0, Value.int .u8 0, Value.int .u8 0, Value.int .u8 0, Value.int .u8 0, Value.int .u8 0, Value.int .u8 0, Value.int .u8 0, Value.int .u8 0, Value.int .u8 0, Value.int .u8 0, Value.int .u8 0, Value.int .u8 0, Value.int .u8 0, Value.int .u8 0, Value.int .u8 0, Value.int .u8 0, Value.int .u8 0, Value.int .u8 0, Value.int .u8 0, Value.int .u8 0, Value.int .u8 0, Value.int .u8 0, Value.int .u8 0, Value.int .u8 0, Value.int .u8 0, Value.int .u8 0, Value.int .i64 0, Value.slice none 0 0] 58))
  have HW := Aside0.mk (show ((w.alloc (.cells (smyC st pr nx (.slice A n c)).toArray 58)).alloc (.cells #[Value.int .i64 0, Value.int .u8 0, Value.int .u8 0, Value.int .u8 0, Value.int .u8 0, Value.int .u8 0, Value.int .u8 0, Value.int .u8 0, Value.int .u8 0, Value.int .u8 0, Value.int .u8 0, Value.int .u8 0, Value.int .u8 0, Value.int .u8 0, Value.int .u8 0, Value.int .u8 0, Value.int .u8 0, Value.int .u8 0, Value.int .u8 0, Value.int .u8 0, Value.int .u8 0, Value.int .u8 0, Value.int .u8 0, Value.int .u8 0, Value.int .u8 0, Value.int .u8 0, Value.int .u8 0, Value.int .u8 0, Value.int .u8 0, Value.int .u8 0, Value.int .u8 0, Value.int .u8 0, Value.int .u8 0, Value.int .i64 0, Value.slice none 0 0] 58)).heap.size = w.heap.size + 2 by rw [size_alloc, size_alloc])
  have HQ := Aside0.mk hq
  have HN := Aside0.mk hn
  have HPL := Aside0.mk hq.2.1.1
  have HR := Aside0.mk (Kd.C_below hr HE.out)
  have HXB := Aside0.mk hx
  obtain ⟨c0, r1, c33, c34⟩ := smyBlk hK1 HPL.out
  have HIS := Aside0.mk (fun (st nx : Int) (V : Value) => show (Try.prog.info? 58).map (·.size) = some (smyC st pr nx V).length by rw [smyC_len HPL.out]; kernel_rfl)
  have HSS := Aside0.mk (fun (st nx : Int) (V : Value) => show #[Value.int .i64 0, Value.int .u8 0, Value.int .u8 0, Value.int .u8 0, Value.int .u8 0, Value.int .u8 0, Value.int .u8 0, Value.int .u8 0, Value.int .u8 0, Value.int .u8 0, Value.int .u8 0, Value.int .u8 0, Value.int .u8 0, Value.int .u8 0, Value.int .u8 0, Value.int .u8 0, Value.int .u8 0, Value.int .u8 0, Value.int .u8 0, Value.int .u8 0, Value.int .u8 0, Value.int .u8 0, Value.int .u8 0, Value.int .u8 0, Value.int .u8 0, Value.int .u8 0, Value.int .u8 0, Value.int .u8 0, Value.int .u8 0, Value.int .u8 0, Value.int .u8 0, Value.int .u8 0, Value.int .u8 0, Value.int .i64 0, Value.slice none 0 0].size = (smyC st pr nx V).length by rw [smyC_len HPL.out]; rfl)
  have HK1 := Aside0.mk hK1
  have HK2 := Aside0.mk hK2
  clear hn hr hq hx hK1 hK2 r1
  unfold smyV
  go_enter Try.func55, Try.ntmps55
  go_wp2_with fail
  refine (copyE_calls _ A n c es HN.out HR.out hc HQ.out.2.2.2 (by omega)).mono ?_
  rintro e w1 ⟨V, rfl, hR, hE⟩
  rw [HW.out] at hR
  obtain ⟨A5, C5, hV, hC5, _⟩ := EB.reads hR
  rw [← HN.out] at hV hC5
  subst hV
  have HV := Aside0.mk hR
  replace HK1 := Aside0.mk (HK1.out.ext hE)
  replace HK2 := Aside0.mk (HK2.out.ext hE)
  replace HE := Aside0.mk (HE.out.trans hE)
  clear hR hE c0 c33 c34 HR HW
  obtain ⟨c0, r1, c33, c34⟩ := smyBlk HK1.out HPL.out
  have f0 := HK1.out.free 0
  have f33 := HK1.out.free 33
  have f34 := HK1.out.free 34
  clear r1
  have HB1 := Aside0.mk (smy_set HK1.out HPL.out (.slice A5 n C5))
  have HWs := Aside0.mk (Wrote.setCell w1 w.heap.size 34 (.slice A5 n C5))
  have HV1 := Aside0.mk (HV.out.wrote HWs.out (fun h => by have := Kd.R_base HV.out _ h; omega))
  have HB2 := Aside0.mk (HK2.out.wrote HWs.out (by omega))
  have HE1 := Aside0.mk (HWs.out.ext HE.out (Nat.le_refl _))
  clear HV HK1 HK2 HE HWs
  obtain ⟨g, t, hA, hg, hxt, hrg, htl⟩ := EB.elem HV1.out a ha
  subst hA
  have HTL := Aside0.mk htl
  have HG := Aside0.mk hrg
  have HTO := Aside0.mk (HQ.out.2.2.2 t (List.mem_of_getElem? hxt))
  have HT0 := Aside0.mk (show t.2.2.2.length = 32 from HTO.out.2.2.2.1)
  clear hg hxt hrg htl
  generalize hws : w1.setCell ⟨w.heap.size, 34, none⟩ (.slice (some ⟨g, 0, none⟩) n C5) = w2 at HB1 HV1 HB2 HE1 HG
  have c34' := (smyBlk HB1.out HPL.out).2.2.2
  obtain ⟨r, hr⟩ : ∃ r, r = pickT x 32 := ⟨_, rfl⟩
  have hrr := pickT_range x 32 (by omega)
  rw [← hr] at hrr
  obtain ⟨k, hk⟩ : ∃ k : Nat, r = k := ⟨r.toNat, by omega⟩
  have hk32 : k < 32 := by omega
  have HPK := Aside0.mk (fun W => pick_calls W x 32 r HXB.out.1 HXB.out.2 (by omega) hr)
  rw [hk] at HPK
  have hkd : (k : Int) < 32 := by omega
  clear hr hrr hk
  go_wp2_with fail
  try rw [hws]
  clear hws
  apply wp_region_facts 8 [RF.val _, RF.val _, RF.val _, RF.val _, RF.val _, RF.val _, RF.val _, RF.val _]
  case hm => kernel_rfl
  case hB => kernel_rfl
  simp only [List.take_succ_cons, List.take_zero, List.zip_cons_cons, List.zip_nil_left]
  (first | refine wpF_val rfl (fun w' hE hD => by unfold Yld; go_simp; exact ⟨Ext.refl _, rfl⟩) ?_ | refine wpF_valg (by rfl) (fun w' hE hD => by unfold Yld; go_simp; exact ⟨Ext.refl _, rfl⟩) ?_)
  (try simp only [Act.put, List.setIfInBounds_toArray, List.set_cons_zero, List.set_cons_succ])
  (first | refine wpF_val rfl (fun w' hE hD => by have hc34 := Ext.cell hE c34'; unfold Yld; go_simp; exact ⟨Ext.refl _, rfl⟩) ?_ | refine wpF_valg (by rfl) (fun w' hE hD => by have hc34 := Ext.cell hE c34'; unfold Yld; go_simp; exact ⟨Ext.refl _, rfl⟩) ?_)
  (try simp only [Act.put, List.setIfInBounds_toArray, List.set_cons_zero, List.set_cons_succ])
  (first | refine wpF_val rfl (fun w' hE hD => by unfold Yld; go_simp; exact ⟨Ext.refl _, rfl⟩) ?_ | refine wpF_valg (by rfl) (fun w' hE hD => by unfold Yld; go_simp; exact ⟨Ext.refl _, rfl⟩) ?_)
  (try simp only [Act.put, List.setIfInBounds_toArray, List.set_cons_zero, List.set_cons_succ])
  (first | refine wpF_val rfl (fun w' hE hD => by unfold Yld; go_simp; exact ⟨Ext.refl _, rfl⟩) ?_ | refine wpF_valg (by rfl) (fun w' hE hD => by unfold Yld; go_simp; exact ⟨Ext.refl _, rfl⟩) ?_)
  (try simp only [Act.put, List.setIfInBounds_toArray, List.set_cons_zero, List.set_cons_succ])
  (first | refine wpF_val rfl (fun w' hE hD => by unfold Yld; go_simp; exact (HPK.out w').mono fun e w2 h => ⟨_, h.1, h.2, rfl⟩) ?_ | refine wpF_valg (by rfl) (fun w' hE hD => by unfold Yld; go_simp; exact (HPK.out w').mono fun e w2 h => ⟨_, h.1, h.2, rfl⟩) ?_)
  (try simp only [Act.put, List.setIfInBounds_toArray, List.set_cons_zero, List.set_cons_succ])
  (first | refine wpF_val rfl (fun w' hE hD => by unfold Yld; go_simp; exact ⟨Ext.refl _, rfl⟩) ?_ | refine wpF_valg (by rfl) (fun w' hE hD => by unfold Yld; go_simp; exact ⟨Ext.refl _, rfl⟩) ?_)
  (try simp only [Act.put, List.setIfInBounds_toArray, List.set_cons_zero, List.set_cons_succ])
  (first | refine wpF_val rfl (fun w' hE hD => by unfold Yld; go_simp; exact ⟨Ext.refl _, rfl⟩) ?_ | refine wpF_valg (by rfl) (fun w' hE hD => by unfold Yld; go_simp; exact ⟨Ext.refl _, rfl⟩) ?_)
  (try simp only [Act.put, List.setIfInBounds_toArray, List.set_cons_zero, List.set_cons_succ])
  (first | refine wpF_val rfl (fun w' hE hD => by unfold Yld; go_simp; exact ⟨Ext.refl _, rfl⟩) ?_ | refine wpF_valg (by rfl) (fun w' hE hD => by unfold Yld; go_simp; exact ⟨Ext.refl _, rfl⟩) ?_)
  (try simp only [Act.put, List.setIfInBounds_toArray, List.set_cons_zero, List.set_cons_succ])
  refine wpF_nil fun w3 hE3 hA => ?_
  simp only [List.drop_succ_cons, List.drop_zero]
  replace HV1 := Aside0.mk (HV1.out.ext hE3)
  replace HB1 := Aside0.mk (HB1.out.ext hE3)
  replace HB2 := Aside0.mk (HB2.out.ext hE3)
  replace HE1 := Aside0.mk (HE1.out.trans hE3)
  replace HG := Aside0.mk (rangeAt_ext HG.out hE3)
  clear hA hE3 c34'
  refine Kd.R_store kTh (w0 := w3) (w.heap.size + 2) rfl rfl 5 (.tmp 55) (.const (.int .u8 1)) rfl 73 (a : Int) (3 + k) es (e3 t k) (.int .u8 1) [(.int .u8 1)] (thC t) (fun _ => True) (fun _ => False) rfl ?f1 rfl rfl (by kernel_rfl) (by simp [Value.oneCell']) HV1.out (Int.natCast_nonneg a) (by omega) HTL.out ?f2 ?f3 ?f4 (fun _ h => h.elim) (Below.refl _ _) ?_
  case f1 => show _ = (a : Int).toNat * 35 + _; omega
  case f2 => exact fun j u hu => HG.out j u hu
  case f3 => show 3 + k + 1 ≤ 35; omega
  case f4 => exact lit_M _ _ _ _ (by show (t.2.2.2.set k 1).length = 32; rw [List.length_set]; exact HT0.out) (e3C t k HT0.out hk32)
  intro w4 hR hBl _
  have HVX := Aside0.mk (show EB w4 (w.heap.size + 2) (.slice (some ⟨g, 0, none⟩) n C5) (es.set (a : Int).toNat (e3 t k)) from hR)
  have HBX := Aside0.mk (HB1.out.below (by omega) hBl)
  have HKX := Aside0.mk (HB2.out.below (by omega) hBl)
  have HEX := Aside0.mk (ext_below HE1.out hBl (by omega))
  have HRW := Aside0.mk HBX.out.whole
  clear hR hBl HV1 HB1 HB2 HE1
  go_wp2_with (first | ((with_reducible refine gate_load (ty := 58) rfl ?_); refine load_at rfl 58 _ rfl w.heap.size 0 rfl (smyC st pr nx (.slice (some ⟨g, 0, none⟩) n C5)) _ HRW.out Try.underlying58 rfl (HIS.out _ _ _) ?_) | ((with_reducible refine gate_store (ty := 58) rfl ?_); (refine store_at rfl 58 _ _ rfl (w.heap.size + 1) (smyC st pr nx (.slice (some ⟨g, 0, none⟩) n C5)) rfl rfl #[Value.int .i64 0, Value.int .u8 0, Value.int .u8 0, Value.int .u8 0, Value.int .u8 0, Value.int .u8 0, Value.int .u8 0, Value.int .u8 0, Value.int .u8 0, Value.int .u8 0, Value.int .u8 0, Value.int .u8 0, Value.int .u8 0, Value.int .u8 0, Value.int .u8 0, Value.int .u8 0, Value.int .u8 0, Value.int .u8 0, Value.int .u8 0, Value.int .u8 0, Value.int .u8 0, Value.int .u8 0, Value.int .u8 0, Value.int .u8 0, Value.int .u8 0, Value.int .u8 0, Value.int .u8 0, Value.int .u8 0, Value.int .u8 0, Value.int .u8 0, Value.int .u8 0, Value.int .u8 0, Value.int .u8 0, Value.int .i64 0, Value.slice none 0 0] 58 HKX.out (HSS.out _ _ _) (HIS.out _ _ _) (smyC_one _ _ _ _ _ _) ?_)) | fail)
  intro wf hWf hBf
  have HVf := Aside0.mk (HVX.out.wrote hWf (fun h => by have := Kd.R_base HVX.out _ h; omega))
  have HEF := Aside0.mk (hWf.ext HEX.out (Nat.le_succ _))
  have HBf := Aside0.mk hBf
  clear hWf hBf
  go_wp2_with fail
  (try simp only [Exit.inBlock, Exit.then])
  refine bodyPost_ret (results_c1 rfl _ _ (w.heap.size + 1) 58 (smyC st pr nx (.slice (some ⟨g, 0, none⟩) n C5)).toArray (0, 0) _ rfl HBf.out.is Try.underlying58 rfl (by have := HIS.out st nx (.slice (some ⟨g, 0, none⟩) n C5); simpa using this)) rfl ?_
  exact ⟨.slice (some ⟨g, 0, none⟩) n C5, (st, pr, nx, (es.set (a : Int).toNat (e3 t k))), rfl, EB.lower HVf.out (by omega), by show (es.set (a : Int).toNat (e3 t k)).length = n; rw [List.length_set]; exact HN.out.symm, ⟨HQ.out.1, HQ.out.2.1, HQ.out.2.2.1, set_all HQ.out.2.2.2 _ _ (e3_ok HTO.out k)⟩, HEF.out⟩

theorem set_calls (w : World) (A : Option Addr) (c n : Nat) (st nx : Int) (pr : List Int) (es : List Th) (f x : Int) (a : Nat) (hn : n = es.length) (hr : Kd.C kTh w A n es) (hc : n ≤ c) (hl : n ≤ 1000) (hq : Smy.ok (st, pr, nx, es)) (ha : a < n) (hf : 0 ≤ f ∧ f < 6) (hx : -9223372036854775808 ≤ x ∧ x ≤ 9223372036854775807) :
    Calls Try.prog 55 #[smyV st pr nx (.slice A n c), .int .i64 f, .int .i64 a, .int .i64 x] w (SetP n w) := by
  have h : f = 0 ∨ f = 1 ∨ f = 2 ∨ f = 3 ∨ f = 4 ∨ f = 5 := by omega
  rcases h with rfl | rfl | rfl | rfl | rfl | rfl
  · exact set0_calls w A c n st nx pr es x a hn hr hc hl hq ha hx
  · exact set1_calls w A c n st nx pr es x a hn hr hc hl hq ha hx
  · exact set2_calls w A c n st nx pr es x a hn hr hc hl hq ha hx
  · exact set3_calls w A c n st nx pr es x a hn hr hc hl hq ha hx
  · exact set4_calls w A c n st nx pr es x a hn hr hc hl hq ha hx
  · exact set5_calls w A c n st nx pr es x a hn hr hc hl hq ha hx
end Go.Proofs.Ythgdjgnbifakbaa.By

/- BatchKnown: the chapter's examples, in loops. -/
namespace Go.Proofs.Ythgdjgnbifakbaa.By
open Go.RowKit Go.Proofs.Ythgdjgnbifakbaa.Reg Go.Proofs.YthgdjgnbifakbaaW.PrintWords Go.Proofs.YthgdjgnbifakbaaW.PrintLast Go.Proofs.YthgdjgnbifakbaaW.PrintMore
set_option linter.unusedVariables false
set_option linter.unusedSimpArgs false


def T3Q (nV : Nat) (u : Value) (w : World) : Prop := ∃ A2 c2, u = smyV 3 zero32 (-1) (.slice A2 nV c2) ∧ nV ≤ c2 ∧ Kd.C kTh w A2 nV threeL
def SmQ (u : Value) (w : World) : Prop := ∃ A c n, ∃ q : Smy, u = smyV q.1 q.2.1 q.2.2.1 (.slice A n c) ∧ n = q.2.2.2.length ∧ n ≤ c ∧ EB w 0 (.slice A n c) q.2.2.2 ∧ Smy.ok q
def AlQ (B : Nat) (u : Value) (w : World) : Prop := ∃ b, u = .pointer (some ⟨b, 0, none⟩) ∧ B ≤ b ∧ Blk w b #[Value.int .i64 0, Value.int .u8 0, Value.int .u8 0, Value.int .u8 0, Value.int .u8 0, Value.int .u8 0, Value.int .u8 0, Value.int .u8 0, Value.int .u8 0, Value.int .u8 0, Value.int .u8 0, Value.int .u8 0, Value.int .u8 0, Value.int .u8 0, Value.int .u8 0, Value.int .u8 0, Value.int .u8 0, Value.int .u8 0, Value.int .u8 0, Value.int .u8 0, Value.int .u8 0, Value.int .u8 0, Value.int .u8 0, Value.int .u8 0, Value.int .u8 0, Value.int .u8 0, Value.int .u8 0, Value.int .u8 0, Value.int .u8 0, Value.int .u8 0, Value.int .u8 0, Value.int .u8 0, Value.int .u8 0, Value.int .i64 0, Value.slice none 0 0] 58
theorem T3Q.ext {nV : Nat} {u : Value} {w w' : World} (h : T3Q nV u w) (he : Ext w w') : T3Q nV u w' := by
  obtain ⟨A2, c2, h1, h2, h3⟩ := h
  exact ⟨A2, c2, h1, h2, Kd.C_below h3 he⟩
theorem SmQ.ext {u : Value} {w w' : World} (h : SmQ u w) (he : Ext w w') : SmQ u w' := by
  obtain ⟨A, c, n, q, h1, h2, h3, h4, h5⟩ := h
  exact ⟨A, c, n, q, h1, h2, h3, h4.ext he, h5⟩
theorem AlQ.ext {B : Nat} {u : Value} {w w' : World} (h : AlQ B u w) (he : Ext w w') : AlQ B u w' := by
  obtain ⟨b, h1, h2, h3⟩ := h
  exact ⟨b, h1, h2, h3.ext he⟩
theorem three_q (w : World) (nV : Nat) (hn : nV = threeL.length) : Calls Try.prog 56 #[] w fun e w' => ∃ u, e = .returned u ∧ Ext w w' ∧ T3Q nV u w' := by
  refine (three_calls w).mono fun e w' h => ?_
  obtain ⟨V, h1, h2, h3⟩ := h
  obtain ⟨A2, c2, hV2, hc2, hC2⟩ := EB.reads h2
  rw [← hn] at hV2 hc2 hC2
  subst hV2
  exact ⟨_, h1, h3, A2, c2, rfl, hc2, hC2⟩
theorem set_q (w : World) (nV : Nat) (hn : nV = threeL.length) (u : Value) (h : T3Q nV u w) (f x : Int) (a : Nat) (hf : 0 ≤ f ∧ f < 6) (ha : a < 3) (hx : -9223372036854775808 ≤ x ∧ x ≤ 9223372036854775807) :
    Calls Try.prog 55 #[u, .int .i64 f, .int .i64 a, .int .i64 x] w fun e w' => ∃ u, e = .returned u ∧ Ext w w' ∧ SmQ u w' := by
  obtain ⟨A2, c2, rfl, h2, h3⟩ := h
  have h3n : threeL.length = 3 := three_len
  refine (set_calls w A2 c2 nV 3 (-1) zero32 threeL f x a hn h3 h2 (by omega) ⟨⟨by decide, by decide⟩, ⟨zero32_length, zero32_isB⟩, ⟨by decide, by decide⟩, three_ok⟩ (by omega) hf hx).mono fun e w' h => ?_
  obtain ⟨V, q, h1, h2, h3, h4, h5⟩ := h
  obtain ⟨A, c, hV, hc, hC⟩ := EB.reads h2
  subst hV
  exact ⟨_, h1, h5, A, c, q.2.2.2.length, q, rfl, rfl, hc, EB.lower h2 (Nat.zero_le _), h4⟩
theorem plain_q (w : World) (A : Option Addr) (c n : Nat) (q : Smy) (hn : n = q.2.2.2.length) (hr : Kd.C kTh w A n q.2.2.2) (hc : n ≤ c) (hq : Smy.ok q) (nV : Nat) (hnV : nV = threeL.length) (u : Value) (h : T3Q nV u w) (x : Int) (hx : -9223372036854775808 ≤ x ∧ x ≤ 9223372036854775807) :
    Calls Try.prog 13 #[smyV q.1 q.2.1 q.2.2.1 (.slice A n c), u, .int .i64 x, .int .u8 0] w fun e w' => e = .returned (.bool true) ∧ Ext w w' := by
  obtain ⟨A2, c2, rfl, h2, h3⟩ := h
  exact plain_calls w A A2 c n c2 nV q (3, zero32, -1, threeL) x 0 hn hr hc hq hnV h3 h2 ⟨⟨by decide, by decide⟩, ⟨zero32_length, zero32_isB⟩, ⟨by decide, by decide⟩, three_ok⟩ hx ⟨by decide, by decide⟩
theorem rd_isB {l : List Int} (h : isB l) (i : Int) : 0 ≤ rd l i ∧ rd l i < 256 := by
  unfold rd
  rw [List.getD_eq_getElem?_getD]
  cases hg : l[i.toNat]? with
  | none => exact ⟨by decide, by decide⟩
  | some x => exact h x (List.mem_of_getElem? hg)
theorem bits_u8 (op : BinOp) (x y : Int) : 0 ≤ Go.bits op .u8 x y ∧ Go.bits op .u8 x y < 256 := by
  unfold Go.bits
  simp only [IntKind.wrap, IntKind.bits, IntKind.signed, Bool.false_and]
  rw [if_neg (by decide)]
  omega
theorem addr_at (g j : Nat) : (⟨g, 0, none⟩ : Addr).add (j : Int).toNat = ⟨g, j, none⟩ := by
  rcases Nat.eq_zero_or_pos j with h | h
  · subst h; simp [Addr.add]
  · have : ¬ j = 0 := by omega
    simp [Addr.add, this]
section
variable {P : Program} {ops : Array Oper} {rest : List Oper} {o : Oper} {a : Act} {Q : Exit → Act → World → Prop} {α : Type}
theorem R_append_want (d : Kd α) {w0 W : World} (base : Nat) (hw : Region.wanted o (yielded ops a.tmps) = true) (s x : Operand) (t e : TypeId) (z : Value) (bytes : Nat)
    (ho : o.op = .call { callee := .builtin .append, args := #[s, x], argTypes := #[t, t] })
    (ht : P.underlying t = some (.slice e)) (hinfo : (P.info? e).map (fun i => (i.zero, i.size, i.bytes)) = some (some z, d.sz, bytes)) (hz : z.cells.size = d.sz) (hs0 : 0 < d.sz) (hb0 : 0 < bytes)
    (v : Value) (xs : List α) (p : α) (cs : List Value) (ok okp : Nat → Prop) (hs : a.eval s = v) (hx : a.eval x = .slice (some ⟨W.heap.size, 0, none⟩) 1 1) (hp : d.M W base okp p cs) (hokp : ∀ k, okp k → ok k ∧ some k ≠ v.ownBlock) (hfresh : ∀ k, W.heap.size ≤ k → ok k)
    (HO : d.R e W base ok v xs) (HB : Below base w0 W) (hbase : base ≤ W.heap.size) (hl : (xs.length + 1) * bytes ≤ 140737488355328)
    (h : ∀ v1 w1, d.R e w1 base ok v1 (xs ++ [p]) → Below base w0 w1 → W.grownBy w1 v.ownBlock → (v1.ownBlock = v.ownBlock ∨ ∃ b, v1.ownBlock = some b ∧ W.heap.size ≤ b) → wpList P ops Q rest (a.put o.dst v1) w1) :
    wpList P ops Q (o :: rest) a (W.alloc (.cells cs.toArray e)) :=
  BigFrame.wpList_want hw fun K hK => by
    have := Kd.R_append_step (P := P) (ops := ops) (o := o) (a := a) (Q := Q) (Kc := K) d base hw s x t e z bytes ho ht hinfo hz hs0 hb0 v xs p cs ok okp hs hx hp hokp hfresh HO HB hbase hl (fun v1 w1 h1 h2 h3 h4 => hK _ _ (h v1 w1 h1 h2 h3 h4))
    rw [if_pos hw] at this
    exact this
end
def kT (i : Nat) : Th := (1, Int.ofNat i, Int.ofNat i, zero32)
def KL (k : Nat) : List Th := (List.range k).map kT
theorem KL_s (k : Nat) : KL (k + 1) = KL k ++ [(1, (k : Int), (k : Int), zero32)] := by unfold KL; rw [List.range_succ, List.map_append]; rfl
theorem KL_len (k : Nat) : (KL k).length = k := by simp [KL]
theorem KL_ok (k : Nat) (hk : k ≤ 100) : ∀ e ∈ KL k, Th.ok e := by
  intro e he
  obtain ⟨i, hi, rfl⟩ := List.mem_map.1 he
  have := List.mem_range.1 hi
  exact ⟨⟨show (-9223372036854775808 : Int) ≤ 1 by decide, show (1 : Int) ≤ 9223372036854775807 by decide⟩, ⟨show (-9223372036854775808 : Int) ≤ i by omega, show (i : Int) ≤ 9223372036854775807 by omega⟩, ⟨show (-9223372036854775808 : Int) ≤ i by omega, show (i : Int) ≤ 9223372036854775807 by omega⟩, zero32_length, zero32_isB⟩
theorem KL_15 : checkF 0 0 (KL 15) = 0 := by kernel_rfl
theorem KL_16 : checkF 0 0 (KL 16) = 0 := by kernel_rfl
theorem KL_17 : checkF 0 0 (KL 17) = 17 := by kernel_rfl
theorem built_k (i : Int) : Program.built Try.prog 73 [(0, .int .i64 1), (1, .int .i64 i), (2, .int .i64 i)] = some (thC (1, i, i, zero32)).toArray := by kernel_rfl
theorem built_one : Program.built Try.prog 58 [(0, .int .i64 3), (2, .int .i64 (-1))] = some (smyC 3 zero32 (-1) (.slice none 0 0)).toArray := by kernel_rfl
theorem one_chk : checkF 3 (-1) [] = 0 := by kernel_rfl
theorem okZ {es : List Th} (h : ∀ e ∈ es, Th.ok e) : Smy.ok (0, zero32, 0, es) := ⟨⟨show (-9223372036854775808 : Int) ≤ 0 by decide, show (0 : Int) ≤ 9223372036854775807 by decide⟩, ⟨zero32_length, zero32_isB⟩, ⟨show (-9223372036854775808 : Int) ≤ 0 by decide, show (0 : Int) ≤ 9223372036854775807 by decide⟩, h⟩
theorem one_len : (outP 3 zero32 (-1) []).length = 56 := by unfold outP; rw [if_pos one_chk, smyB_len zero32_length (fun e he => by cases he)]; rfl
theorem one_isB : isB (outP 3 zero32 (-1) []) := by unfold outP; rw [if_pos one_chk]; exact smyB_isB zero32_isB (fun e he => by cases he)
theorem nC_at (j : Nat) (h : j < 20) : ∃ x : Int, (#[Value.int .i64 (-9223372036854775808), Value.int .i64 (-2), Value.int .i64 (-1), Value.int .i64 (0), Value.int .i64 (1), Value.int .i64 (2), Value.int .i64 (3), Value.int .i64 (4), Value.int .i64 (6), Value.int .i64 (7), Value.int .i64 (8), Value.int .i64 (9), Value.int .i64 (10), Value.int .i64 (31), Value.int .i64 (32), Value.int .i64 (63), Value.int .i64 (64), Value.int .i64 (1099511627776), Value.int .i64 (1099511627777), Value.int .i64 (9223372036854775807)] : Array Value)[j]? = some (.int .i64 x) ∧ -9223372036854775808 ≤ x ∧ x ≤ 9223372036854775807 := by
  match j, h with
  | 0, _ => exact ⟨-9223372036854775808, rfl, by decide, by decide⟩
  | 1, _ => exact ⟨-2, rfl, by decide, by decide⟩
  | 2, _ => exact ⟨-1, rfl, by decide, by decide⟩
  | 3, _ => exact ⟨0, rfl, by decide, by decide⟩
  | 4, _ => exact ⟨1, rfl, by decide, by decide⟩
  | 5, _ => exact ⟨2, rfl, by decide, by decide⟩
  | 6, _ => exact ⟨3, rfl, by decide, by decide⟩
  | 7, _ => exact ⟨4, rfl, by decide, by decide⟩
  | 8, _ => exact ⟨6, rfl, by decide, by decide⟩
  | 9, _ => exact ⟨7, rfl, by decide, by decide⟩
  | 10, _ => exact ⟨8, rfl, by decide, by decide⟩
  | 11, _ => exact ⟨9, rfl, by decide, by decide⟩
  | 12, _ => exact ⟨10, rfl, by decide, by decide⟩
  | 13, _ => exact ⟨31, rfl, by decide, by decide⟩
  | 14, _ => exact ⟨32, rfl, by decide, by decide⟩
  | 15, _ => exact ⟨63, rfl, by decide, by decide⟩
  | 16, _ => exact ⟨64, rfl, by decide, by decide⟩
  | 17, _ => exact ⟨1099511627776, rfl, by decide, by decide⟩
  | 18, _ => exact ⟨1099511627777, rfl, by decide, by decide⟩
  | 19, _ => exact ⟨9223372036854775807, rfl, by decide, by decide⟩
  | n + 20, h => exact absurd h (by omega)

set_option maxRecDepth 100000 in
set_option maxHeartbeats 32000000 in
theorem bknown_calls (w : World) : Calls Try.prog 14 #[] w fun e w' => e = .returned (.bool true) ∧ Ext w w' := by
  have HNB := Aside0.mk (Blk.new w #[Value.int .i64 (-9223372036854775808), Value.int .i64 (-2), Value.int .i64 (-1), Value.int .i64 (0), Value.int .i64 (1), Value.int .i64 (2), Value.int .i64 (3), Value.int .i64 (4), Value.int .i64 (6), Value.int .i64 (7), Value.int .i64 (8), Value.int .i64 (9), Value.int .i64 (10), Value.int .i64 (31), Value.int .i64 (32), Value.int .i64 (63), Value.int .i64 (64), Value.int .i64 (1099511627776), Value.int .i64 (1099511627777), Value.int .i64 (9223372036854775807)] 3)
  have HE0 := Aside0.mk ((Ext.refl w).alloc (.cells #[Value.int .i64 (-9223372036854775808), Value.int .i64 (-2), Value.int .i64 (-1), Value.int .i64 (0), Value.int .i64 (1), Value.int .i64 (2), Value.int .i64 (3), Value.int .i64 (4), Value.int .i64 (6), Value.int .i64 (7), Value.int .i64 (8), Value.int .i64 (9), Value.int .i64 (10), Value.int .i64 (31), Value.int .i64 (32), Value.int .i64 (63), Value.int .i64 (64), Value.int .i64 (1099511627776), Value.int .i64 (1099511627777), Value.int .i64 (9223372036854775807)] 3))
  obtain ⟨nV, hnV⟩ : ∃ nV, nV = threeL.length := ⟨_, rfl⟩
  have HNV := Aside0.mk hnV
  clear hnV
  obtain ⟨bs, hbs⟩ : ∃ bs, bs = smyB 3 zero32 (-1) threeL := ⟨_, rfl⟩
  have HBB := Aside0.mk (smyB_isB (st := 3) (nx := -1) zero32_isB three_ok)
  have HBL := Aside0.mk (show bs.length = 224 by rw [hbs, smyB_len zero32_length three_ok, three_len])
  have HOP := Aside0.mk (show outP 3 zero32 (-1) threeL = bs by unfold outP; rw [if_pos three_chk, hbs])
  rw [← hbs] at HBB
  clear hbs
  have HIN : Aside0 ((Try.prog.info? 73).map (fun i => (i.zero, i.size, i.bytes)) = some (some (Value.agg #[Value.int .i64 0, Value.int .i64 0, Value.int .i64 0, Value.int .u8 0, Value.int .u8 0, Value.int .u8 0, Value.int .u8 0, Value.int .u8 0, Value.int .u8 0, Value.int .u8 0, Value.int .u8 0, Value.int .u8 0, Value.int .u8 0, Value.int .u8 0, Value.int .u8 0, Value.int .u8 0, Value.int .u8 0, Value.int .u8 0, Value.int .u8 0, Value.int .u8 0, Value.int .u8 0, Value.int .u8 0, Value.int .u8 0, Value.int .u8 0, Value.int .u8 0, Value.int .u8 0, Value.int .u8 0, Value.int .u8 0, Value.int .u8 0, Value.int .u8 0, Value.int .u8 0, Value.int .u8 0, Value.int .u8 0, Value.int .u8 0, Value.int .u8 0]), 35, 56)) := ⟨by kernel_rfl⟩
  obtain ⟨ie, hie, hx⟩ := Option.map_eq_some_iff.1 HIN.out
  have hz : ie.zero = some (Value.agg #[Value.int .i64 0, Value.int .i64 0, Value.int .i64 0, Value.int .u8 0, Value.int .u8 0, Value.int .u8 0, Value.int .u8 0, Value.int .u8 0, Value.int .u8 0, Value.int .u8 0, Value.int .u8 0, Value.int .u8 0, Value.int .u8 0, Value.int .u8 0, Value.int .u8 0, Value.int .u8 0, Value.int .u8 0, Value.int .u8 0, Value.int .u8 0, Value.int .u8 0, Value.int .u8 0, Value.int .u8 0, Value.int .u8 0, Value.int .u8 0, Value.int .u8 0, Value.int .u8 0, Value.int .u8 0, Value.int .u8 0, Value.int .u8 0, Value.int .u8 0, Value.int .u8 0, Value.int .u8 0, Value.int .u8 0, Value.int .u8 0, Value.int .u8 0]) := congrArg (·.1) hx
  have hsz : ie.size = 35 := congrArg (·.2.1) hx
  have HSL := Aside0.mk (⟨hie, hz, by rw [hsz]; decide, by rw [hsz]; decide, fun (e : Th) (he : e.2.2.2.length = 32) => by rw [hsz]; exact fill_th e he⟩ : Try.prog.info? 73 = some ie ∧ ie.zero = some (Value.agg #[Value.int .i64 0, Value.int .i64 0, Value.int .i64 0, Value.int .u8 0, Value.int .u8 0, Value.int .u8 0, Value.int .u8 0, Value.int .u8 0, Value.int .u8 0, Value.int .u8 0, Value.int .u8 0, Value.int .u8 0, Value.int .u8 0, Value.int .u8 0, Value.int .u8 0, Value.int .u8 0, Value.int .u8 0, Value.int .u8 0, Value.int .u8 0, Value.int .u8 0, Value.int .u8 0, Value.int .u8 0, Value.int .u8 0, Value.int .u8 0, Value.int .u8 0, Value.int .u8 0, Value.int .u8 0, Value.int .u8 0, Value.int .u8 0, Value.int .u8 0, Value.int .u8 0, Value.int .u8 0, Value.int .u8 0, Value.int .u8 0, Value.int .u8 0]) ∧ (¬ 1 * ie.size > 2 ^ 24) ∧ (¬ 1 * ie.size = 0) ∧ (∀ e : Th, e.2.2.2.length = 32 → Instr.fill (fun i => some (i * ie.size, ie.size)) ((Array.range (1 * ie.size)).map ((Value.agg #[Value.int .i64 0, Value.int .i64 0, Value.int .i64 0, Value.int .u8 0, Value.int .u8 0, Value.int .u8 0, Value.int .u8 0, Value.int .u8 0, Value.int .u8 0, Value.int .u8 0, Value.int .u8 0, Value.int .u8 0, Value.int .u8 0, Value.int .u8 0, Value.int .u8 0, Value.int .u8 0, Value.int .u8 0, Value.int .u8 0, Value.int .u8 0, Value.int .u8 0, Value.int .u8 0, Value.int .u8 0, Value.int .u8 0, Value.int .u8 0, Value.int .u8 0, Value.int .u8 0, Value.int .u8 0, Value.int .u8 0, Value.int .u8 0, Value.int .u8 0, Value.int .u8 0, Value.int .u8 0, Value.int .u8 0, Value.int .u8 0, Value.int .u8 0]).cells[· % (Value.agg #[Value.int .i64 0, Value.int .i64 0, Value.int .i64 0, Value.int .u8 0, Value.int .u8 0, Value.int .u8 0, Value.int .u8 0, Value.int .u8 0, Value.int .u8 0, Value.int .u8 0, Value.int .u8 0, Value.int .u8 0, Value.int .u8 0, Value.int .u8 0, Value.int .u8 0, Value.int .u8 0, Value.int .u8 0, Value.int .u8 0, Value.int .u8 0, Value.int .u8 0, Value.int .u8 0, Value.int .u8 0, Value.int .u8 0, Value.int .u8 0, Value.int .u8 0, Value.int .u8 0, Value.int .u8 0, Value.int .u8 0, Value.int .u8 0, Value.int .u8 0, Value.int .u8 0, Value.int .u8 0, Value.int .u8 0, Value.int .u8 0, Value.int .u8 0]).cells.size]!)) [(0, .agg (thC e).toArray)] = some (thC e).toArray))
  clear hx hz hsz hie
  go_enter Try.func14, Try.ntmps14
  go_wp2_with fail
  generalize w.alloc (.cells #[Value.int .i64 (-9223372036854775808), Value.int .i64 (-2), Value.int .i64 (-1), Value.int .i64 (0), Value.int .i64 (1), Value.int .i64 (2), Value.int .i64 (3), Value.int .i64 (4), Value.int .i64 (6), Value.int .i64 (7), Value.int .i64 (8), Value.int .i64 (9), Value.int .i64 (10), Value.int .i64 (31), Value.int .i64 (32), Value.int .i64 (63), Value.int .i64 (64), Value.int .i64 (1099511627776), Value.int .i64 (1099511627777), Value.int .i64 (9223372036854775807)] 3) = w0 at *
  generalize w.heap.size = bn at *
  go_loopw [2] (fun i wr => ∃ f : Int, i = .int .i64 f ∧ Aside0 (0 ≤ f ∧ f ≤ 6) ∧ Aside0 (Ext w0 wr)) (fun i _ => 6 - (intOf i).toNat)
  case atStart => exact ⟨0, rfl, ⟨by decide⟩, ⟨Ext.refl w0⟩⟩
  case round =>
    obtain ⟨f, rfl, HF, HEf⟩ := hrel
    obtain ⟨g0, g1⟩ := HF.out
    by_cases hlt : f < 6
    · have HLT := Aside0.mk (show 0 ≤ f ∧ f < 6 from ⟨g0, hlt⟩)
      obtain ⟨wf, hwf⟩ : ∃ wf : World, wf = wr := ⟨_, rfl⟩
      subst hwf
      go_wp2_with fail
      go_loopw [3] (fun i wr => ∃ a : Nat, i = .int .i64 a ∧ Aside0 (a ≤ 3) ∧ Aside0 (Ext w0 wr)) (fun i _ => 3 - (intOf i).toNat)
      case atStart => exact ⟨0, rfl, ⟨by decide⟩, HEf⟩
      case round =>
        clear HEf
        obtain ⟨a, rfl, HA, HEa⟩ := hrel
        have g2 := HA.out
        by_cases hlt2 : a < 3
        · have HLT2 := Aside0.mk hlt2
          have hd2 : decide ((a : Int) < 3) = true := decide_eq_true (by omega)
          obtain ⟨wa, hwa⟩ : ∃ wa : World, wa = wr := ⟨_, rfl⟩
          subst hwa
          go_wp2_with fail
          go_loopw [4] (fun i wr => ∃ j : Nat, i = .int .i64 j ∧ Aside0 (j ≤ 20) ∧ Aside0 (Ext w0 wr)) (fun i _ => 20 - (intOf i).toNat)
          case atStart => exact ⟨0, rfl, ⟨by decide⟩, HEa⟩
          case round =>
            clear HEa
            obtain ⟨j, rfl, HJ, HEj⟩ := hrel
            have g3 := HJ.out
            by_cases hlt3 : j < 20
            · have HLT3 := Aside0.mk hlt3
              have hd3 : decide ((j : Int) < 20) = true := decide_eq_true (by omega)
              obtain ⟨x, hx, hx0, hx1⟩ := nC_at j hlt3
              have HXB := Aside0.mk (show -9223372036854775808 ≤ x ∧ x ≤ 9223372036854775807 from ⟨hx0, hx1⟩)
              obtain ⟨wj, hwj⟩ : ∃ wj : World, wj = wr := ⟨_, rfl⟩
              subst hwj
              have hcj := Ext.cell HEj.out (HNB.out.cell j hx)
              clear hx hx0 hx1
              go_wp2_with fail
              apply wp_region_facts 9 [RF.fact (fun u w => T3Q nV u w), RF.val _, RF.val _, RF.val _, RF.val _, RF.val _, RF.val _, RF.fact (fun u w => SmQ u w), RF.fact (fun u w => AlQ wj.heap.size u w)]
              case hm => kernel_rfl
              case hB => kernel_rfl
              simp only [List.take_succ_cons, List.take_zero, List.zip_cons_cons, List.zip_nil_left]
              refine wpF_fact rfl (fun u Wa Wb h he => h.ext he) (fun w' hE hD => ?_) (fun u30 => ?_)
              · unfold Yld; go_simp; exact (three_q w' nV HNV.out).mono fun e w2 h => h
              (try simp only [Act.put, List.setIfInBounds_toArray, List.set_cons_zero, List.set_cons_succ])
              (first | refine wpF_val rfl (fun w' hE hD => by unfold Yld; go_simp; exact ⟨Ext.refl _, rfl⟩) ?_ | refine wpF_valg (by rfl) (fun w' hE hD => by unfold Yld; go_simp; exact ⟨Ext.refl _, rfl⟩) ?_)
              (try simp only [Act.put, List.setIfInBounds_toArray, List.set_cons_zero, List.set_cons_succ])
              (first | refine wpF_val rfl (fun w' hE hD => by unfold Yld; go_simp; exact ⟨Ext.refl _, rfl⟩) ?_ | refine wpF_valg (by rfl) (fun w' hE hD => by unfold Yld; go_simp; exact ⟨Ext.refl _, rfl⟩) ?_)
              (try simp only [Act.put, List.setIfInBounds_toArray, List.set_cons_zero, List.set_cons_succ])
              (first | refine wpF_val rfl (fun w' hE hD => by unfold Yld; go_simp; exact ⟨Ext.refl _, rfl⟩) ?_ | refine wpF_valg (by rfl) (fun w' hE hD => by unfold Yld; go_simp; exact ⟨Ext.refl _, rfl⟩) ?_)
              (try simp only [Act.put, List.setIfInBounds_toArray, List.set_cons_zero, List.set_cons_succ])
              (first | refine wpF_val rfl (fun w' hE hD => by unfold Yld; go_simp; exact ⟨Ext.refl _, rfl⟩) ?_ | refine wpF_valg (by rfl) (fun w' hE hD => by unfold Yld; go_simp; exact ⟨Ext.refl _, rfl⟩) ?_)
              (try simp only [Act.put, List.setIfInBounds_toArray, List.set_cons_zero, List.set_cons_succ])
              (first | refine wpF_val rfl (fun w' hE hD => by have hj3 : (j : Int) < 20 := (by omega); unfold Yld; go_simp; exact ⟨Ext.refl _, rfl⟩) ?_ | refine wpF_valg (by rfl) (fun w' hE hD => by have hj3 : (j : Int) < 20 := (by omega); unfold Yld; go_simp; exact ⟨Ext.refl _, rfl⟩) ?_)
              (try simp only [Act.put, List.setIfInBounds_toArray, List.set_cons_zero, List.set_cons_succ])
              (first | refine wpF_val rfl (fun w' hE hD => by have hcj' := Ext.cell hE hcj; unfold Yld; go_simp; exact ⟨Ext.refl _, rfl⟩) ?_ | refine wpF_valg (by rfl) (fun w' hE hD => by have hcj' := Ext.cell hE hcj; unfold Yld; go_simp; exact ⟨Ext.refl _, rfl⟩) ?_)
              (try simp only [Act.put, List.setIfInBounds_toArray, List.set_cons_zero, List.set_cons_succ])
              refine wpF_fact rfl (fun u Wa Wb h he => h.ext he) (fun w' hE hD => ?_) (fun u37 => ?_)
              · have h30 := hD.1 (by kernel_rfl)
                unfold Yld; go_simp; exact (set_q w' nV HNV.out u30 h30 f x a HLT.out HLT2.out HXB.out).mono fun e w2 h => h
              (try simp only [Act.put, List.setIfInBounds_toArray, List.set_cons_zero, List.set_cons_succ])
              refine wpF_fact rfl (fun u Wa Wb h he => h.ext he) (fun w' hE hD => ?_) (fun u5 => ?_)
              · unfold Yld; go_simp; exact ⟨(Ext.refl _).alloc _, _, rfl, hE.size, Blk.new _ _ _⟩
              (try simp only [Act.put, List.setIfInBounds_toArray, List.set_cons_zero, List.set_cons_succ])
              refine wpF_nil fun w5 hE5 hA => ?_
              simp only [List.drop_succ_cons, List.drop_zero]
              obtain ⟨_, h7, h8, _⟩ := hA
              obtain ⟨A5, c5, n5, q, rfl, hn5, hc5, hC5, hq5⟩ := h7
              obtain ⟨b5, rfl, hb5, hB5⟩ := h8
              have HIS := Aside0.mk (fun V => show (Try.prog.info? 58).map (·.size) = some (smyC q.1 q.2.1 q.2.2.1 V).length by rw [smyC_len hq5.2.1.1]; kernel_rfl)
              have HSS := Aside0.mk (fun V => show #[Value.int .i64 0, Value.int .u8 0, Value.int .u8 0, Value.int .u8 0, Value.int .u8 0, Value.int .u8 0, Value.int .u8 0, Value.int .u8 0, Value.int .u8 0, Value.int .u8 0, Value.int .u8 0, Value.int .u8 0, Value.int .u8 0, Value.int .u8 0, Value.int .u8 0, Value.int .u8 0, Value.int .u8 0, Value.int .u8 0, Value.int .u8 0, Value.int .u8 0, Value.int .u8 0, Value.int .u8 0, Value.int .u8 0, Value.int .u8 0, Value.int .u8 0, Value.int .u8 0, Value.int .u8 0, Value.int .u8 0, Value.int .u8 0, Value.int .u8 0, Value.int .u8 0, Value.int .u8 0, Value.int .u8 0, Value.int .i64 0, Value.slice none 0 0].size = (smyC q.1 q.2.1 q.2.2.1 V).length by rw [smyC_len hq5.2.1.1]; rfl)
              unfold smyV
              refine store_at rfl 58 _ _ rfl b5 (smyC q.1 q.2.1 q.2.2.1 (.slice A5 n5 c5)) rfl rfl #[Value.int .i64 0, Value.int .u8 0, Value.int .u8 0, Value.int .u8 0, Value.int .u8 0, Value.int .u8 0, Value.int .u8 0, Value.int .u8 0, Value.int .u8 0, Value.int .u8 0, Value.int .u8 0, Value.int .u8 0, Value.int .u8 0, Value.int .u8 0, Value.int .u8 0, Value.int .u8 0, Value.int .u8 0, Value.int .u8 0, Value.int .u8 0, Value.int .u8 0, Value.int .u8 0, Value.int .u8 0, Value.int .u8 0, Value.int .u8 0, Value.int .u8 0, Value.int .u8 0, Value.int .u8 0, Value.int .u8 0, Value.int .u8 0, Value.int .u8 0, Value.int .u8 0, Value.int .u8 0, Value.int .u8 0, Value.int .i64 0, Value.slice none 0 0] 58 hB5 (HSS.out _) (HIS.out _) (smyC_one _ _ _ _ _ _) ?_
              intro w6 hW6 hB6
              have hx6 : Ext wj w6 := hW6.ext hE5 hb5
              have HEW := Aside0.mk (HEj.out.trans hx6)
              have HC6 := Aside0.mk (EB.reads' (hC5.wrote hW6 (Ne.symm (Kd.R_ne hC5 hB5.is (by decide)))) hn5)
              have HRW := Aside0.mk hB6.whole
              have HN5 := Aside0.mk hn5
              have HQ5 := Aside0.mk hq5
              replace hcj := Ext.cell hx6 hcj
              clear hW6 hB6 hx6 hE5 hB5 hb5 hC5 hn5 hq5
              (try simp only [Act.put, List.setIfInBounds_toArray, List.set_cons_zero, List.set_cons_succ])
              go_wp2_with fail
              apply wp_region_facts 18 [RF.val _, RF.val _, RF.val _, RF.val _, RF.val _, RF.val _, RF.val _, RF.val _, RF.val _, RF.val _, RF.fact (fun u w => T3Q nV u w), RF.val _, RF.val _, RF.val _, RF.val _, RF.val _, RF.val _, RF.val _]
              case hm => kernel_rfl
              case hB => kernel_rfl
              simp only [List.take_succ_cons, List.take_zero, List.zip_cons_cons, List.zip_nil_left]
              (first | refine wpF_val rfl (fun w' hE hD => Yld_load 58 (.tmp 5) rfl b5 0 rfl (smyC q.1 q.2.1 q.2.2.1 (.slice A5 n5 c5)) _ (rangeAt_ext HRW.out hE) Try.underlying58 rfl (HIS.out _)) ?_ | refine wpF_valg (by rfl) (fun w' hE hD => Yld_load 58 (.tmp 5) rfl b5 0 rfl (smyC q.1 q.2.1 q.2.2.1 (.slice A5 n5 c5)) _ (rangeAt_ext HRW.out hE) Try.underlying58 rfl (HIS.out _)) ?_)
              (try simp only [Act.put, List.setIfInBounds_toArray, List.set_cons_zero, List.set_cons_succ])
              (first | refine wpF_val rfl (fun w' hE hD => by unfold Yld; go_simp; exact (bputs_calls w' A5 c5 n5 q HN5.out (Kd.C_below HC6.out hE) hc5 HQ5.out).mono fun e w2 h => ⟨_, h.1, h.2, rfl⟩) ?_ | refine wpF_valg (by rfl) (fun w' hE hD => by unfold Yld; go_simp; exact (bputs_calls w' A5 c5 n5 q HN5.out (Kd.C_below HC6.out hE) hc5 HQ5.out).mono fun e w2 h => ⟨_, h.1, h.2, rfl⟩) ?_)
              (try simp only [Act.put, List.setIfInBounds_toArray, List.set_cons_zero, List.set_cons_succ])
              (first | refine wpF_val rfl (fun w' hE hD => by unfold Yld; go_simp; exact ⟨Ext.refl _, rfl⟩) ?_ | refine wpF_valg (by rfl) (fun w' hE hD => by unfold Yld; go_simp; exact ⟨Ext.refl _, rfl⟩) ?_)
              (try simp only [Act.put, List.setIfInBounds_toArray, List.set_cons_zero, List.set_cons_succ])
              (first | refine wpF_val rfl (fun w' hE hD => by unfold Yld; go_simp; exact ⟨Ext.refl _, rfl⟩) ?_ | refine wpF_valg (by rfl) (fun w' hE hD => by unfold Yld; go_simp; exact ⟨Ext.refl _, rfl⟩) ?_)
              (try simp only [Act.put, List.setIfInBounds_toArray, List.set_cons_zero, List.set_cons_succ])
              (first | refine wpF_val rfl (fun w' hE hD => Yld_load 58 (.tmp 5) rfl b5 0 rfl (smyC q.1 q.2.1 q.2.2.1 (.slice A5 n5 c5)) _ (rangeAt_ext HRW.out hE) Try.underlying58 rfl (HIS.out _)) ?_ | refine wpF_valg (by rfl) (fun w' hE hD => Yld_load 58 (.tmp 5) rfl b5 0 rfl (smyC q.1 q.2.1 q.2.2.1 (.slice A5 n5 c5)) _ (rangeAt_ext HRW.out hE) Try.underlying58 rfl (HIS.out _)) ?_)
              (try simp only [Act.put, List.setIfInBounds_toArray, List.set_cons_zero, List.set_cons_succ])
              (first | refine wpF_val rfl (fun w' hE hD => by unfold Yld; go_simp; exact (bback_calls w' A5 c5 n5 q HN5.out (Kd.C_below HC6.out hE) hc5 HQ5.out).mono fun e w2 h => ⟨_, h.1, h.2, rfl⟩) ?_ | refine wpF_valg (by rfl) (fun w' hE hD => by unfold Yld; go_simp; exact (bback_calls w' A5 c5 n5 q HN5.out (Kd.C_below HC6.out hE) hc5 HQ5.out).mono fun e w2 h => ⟨_, h.1, h.2, rfl⟩) ?_)
              (try simp only [Act.put, List.setIfInBounds_toArray, List.set_cons_zero, List.set_cons_succ])
              (first | refine wpF_val rfl (fun w' hE hD => by unfold Yld; go_simp; exact ⟨Ext.refl _, rfl⟩) ?_ | refine wpF_valg (by rfl) (fun w' hE hD => by unfold Yld; go_simp; exact ⟨Ext.refl _, rfl⟩) ?_)
              (try simp only [Act.put, List.setIfInBounds_toArray, List.set_cons_zero, List.set_cons_succ])
              (first | refine wpF_val rfl (fun w' hE hD => by unfold Yld; go_simp; exact ⟨Ext.refl _, rfl⟩) ?_ | refine wpF_valg (by rfl) (fun w' hE hD => by unfold Yld; go_simp; exact ⟨Ext.refl _, rfl⟩) ?_)
              (try simp only [Act.put, List.setIfInBounds_toArray, List.set_cons_zero, List.set_cons_succ])
              (first | refine wpF_val rfl (fun w' hE hD => by unfold Yld; go_simp; exact ⟨Ext.refl _, rfl⟩) ?_ | refine wpF_valg (by rfl) (fun w' hE hD => by unfold Yld; go_simp; exact ⟨Ext.refl _, rfl⟩) ?_)
              (try simp only [Act.put, List.setIfInBounds_toArray, List.set_cons_zero, List.set_cons_succ])
              (first | refine wpF_val rfl (fun w' hE hD => Yld_load 58 (.tmp 5) rfl b5 0 rfl (smyC q.1 q.2.1 q.2.2.1 (.slice A5 n5 c5)) _ (rangeAt_ext HRW.out hE) Try.underlying58 rfl (HIS.out _)) ?_ | refine wpF_valg (by rfl) (fun w' hE hD => Yld_load 58 (.tmp 5) rfl b5 0 rfl (smyC q.1 q.2.1 q.2.2.1 (.slice A5 n5 c5)) _ (rangeAt_ext HRW.out hE) Try.underlying58 rfl (HIS.out _)) ?_)
              (try simp only [Act.put, List.setIfInBounds_toArray, List.set_cons_zero, List.set_cons_succ])
              refine wpF_factg (by rfl) (fun u Wa Wb h he => h.ext he) (fun w' hE hD => ?_) (fun u48 => ?_)
              · unfold Yld; go_simp; exact (three_q w' nV HNV.out).mono fun e w2 h => h
              (try simp only [Act.put, List.setIfInBounds_toArray, List.set_cons_zero, List.set_cons_succ])
              (first | refine wpF_val rfl (fun w' hE hD => by unfold Yld; go_simp; exact ⟨Ext.refl _, rfl⟩) ?_ | refine wpF_valg (by rfl) (fun w' hE hD => by unfold Yld; go_simp; exact ⟨Ext.refl _, rfl⟩) ?_)
              (try simp only [Act.put, List.setIfInBounds_toArray, List.set_cons_zero, List.set_cons_succ])
              (first | refine wpF_val rfl (fun w' hE hD => by unfold Yld; go_simp; exact ⟨Ext.refl _, rfl⟩) ?_ | refine wpF_valg (by rfl) (fun w' hE hD => by unfold Yld; go_simp; exact ⟨Ext.refl _, rfl⟩) ?_)
              (try simp only [Act.put, List.setIfInBounds_toArray, List.set_cons_zero, List.set_cons_succ])
              (first | refine wpF_val rfl (fun w' hE hD => by have hj3 : (j : Int) < 20 := (by omega); unfold Yld; go_simp; exact ⟨Ext.refl _, rfl⟩) ?_ | refine wpF_valg (by rfl) (fun w' hE hD => by have hj3 : (j : Int) < 20 := (by omega); unfold Yld; go_simp; exact ⟨Ext.refl _, rfl⟩) ?_)
              (try simp only [Act.put, List.setIfInBounds_toArray, List.set_cons_zero, List.set_cons_succ])
              (first | refine wpF_val rfl (fun w' hE hD => by have hcj' := Ext.cell hE hcj; unfold Yld; go_simp; exact ⟨Ext.refl _, rfl⟩) ?_ | refine wpF_valg (by rfl) (fun w' hE hD => by have hcj' := Ext.cell hE hcj; unfold Yld; go_simp; exact ⟨Ext.refl _, rfl⟩) ?_)
              (try simp only [Act.put, List.setIfInBounds_toArray, List.set_cons_zero, List.set_cons_succ])
              (first | refine wpF_val rfl (fun w' hE hD => by have h48 := hD.1 (by kernel_rfl); unfold Yld; go_simp; exact (plain_q w' A5 c5 n5 q HN5.out (Kd.C_below HC6.out hE) hc5 HQ5.out nV HNV.out u48 h48 x HXB.out).mono fun e w2 h => ⟨_, h.1, h.2, rfl⟩) ?_ | refine wpF_valg (by rfl) (fun w' hE hD => by have h48 := hD.1 (by kernel_rfl); unfold Yld; go_simp; exact (plain_q w' A5 c5 n5 q HN5.out (Kd.C_below HC6.out hE) hc5 HQ5.out nV HNV.out u48 h48 x HXB.out).mono fun e w2 h => ⟨_, h.1, h.2, rfl⟩) ?_)
              (try simp only [Act.put, List.setIfInBounds_toArray, List.set_cons_zero, List.set_cons_succ])
              (first | refine wpF_val rfl (fun w' hE hD => by unfold Yld; go_simp; exact ⟨Ext.refl _, rfl⟩) ?_ | refine wpF_valg (by rfl) (fun w' hE hD => by unfold Yld; go_simp; exact ⟨Ext.refl _, rfl⟩) ?_)
              (try simp only [Act.put, List.setIfInBounds_toArray, List.set_cons_zero, List.set_cons_succ])
              (first | refine wpF_val rfl (fun w' hE hD => by unfold Yld; go_simp; exact ⟨Ext.refl _, rfl⟩) ?_ | refine wpF_valg (by rfl) (fun w' hE hD => by unfold Yld; go_simp; exact ⟨Ext.refl _, rfl⟩) ?_)
              (try simp only [Act.put, List.setIfInBounds_toArray, List.set_cons_zero, List.set_cons_succ])
              refine wpF_nil fun w7 hE7 hA => ?_
              simp only [List.drop_succ_cons, List.drop_zero]
              have HE7 := Aside0.mk (HEW.out.trans hE7)
              clear hA hE7 HEW HC6 HRW hcj HIS HSS
              go_wp2_with fail
              go_roundw
              case rel => exact ⟨j + 1, by go_num, ⟨hlt3⟩, HE7⟩
              case measure => have := HLT3.out; simp only [intOf]; omega
            · go_wp2_with fail
              go_roundw
              case rel => exact ⟨a + 1, by go_num, ⟨hlt2⟩, HEj⟩
              case measure => have := HLT2.out; simp only [intOf]; omega
        · go_wp2_with fail
          go_roundw
          case rel => exact ⟨f + 1, rfl, ⟨by omega, by omega⟩, HEa⟩
          case measure => have := HLT.out.2; simp only [intOf]; omega
    · have HE1 := Aside0.mk (HE0.out.trans HEf.out)
      clear HNB HE0 HEf HF g0 g1
      obtain ⟨wx, hwx⟩ : ∃ wx : World, wx = wr := ⟨_, rfl⟩
      subst hwx
      go_wp2_with fail
      refine (three_q wx nV HNV.out).mono ?_
      rintro e w1 ⟨u, rfl, hE, A3, c3, rfl, hc3, hC3⟩
      replace HE1 := Aside0.mk (HE1.out.trans hE)
      have HPC := Aside0.mk (put_calls w1 3 (-1) zero32 A3 c3 nV threeL 0 three_chk.symm hC3 hc3 zero32_length three_ok)
      rw [HOP.out] at HPC
      clear hE hC3 hc3
      go_wp2_with fail
      refine HPC.out.mono ?_
      rintro e w2 ⟨V, rfl, hN, hE⟩
      obtain ⟨A6, c6, hV, hc6, hC6⟩ := hN.reads
      rw [HBL.out] at hV hc6 hC6
      subst hV
      have HC6 := Aside0.mk hC6
      replace HE1 := Aside0.mk (HE1.out.trans hE)
      clear hE hC6 hN HPC
      go_wp2_with fail
      go_loopw [8] (fun i wr => ∃ j : Nat, i = .int .i64 j ∧ Aside0 (j ≤ 224) ∧ Aside0 (Ext w2 wr)) (fun i _ => 224 - (intOf i).toNat)
      case atStart => exact ⟨0, rfl, ⟨by decide⟩, ⟨Ext.refl w2⟩⟩
      case round =>
        obtain ⟨j, rfl, HJ, HEj⟩ := hrel
        have g3 := HJ.out
        obtain ⟨wj, hwj⟩ : ∃ wj : World, wj = wr := ⟨_, rfl⟩
        subst hwj
        by_cases hlt3 : j < 224
        · have HLT3 := Aside0.mk hlt3
          have hd3 : decide ((j : Int) < 224) = true := decide_eq_true (by omega)
          have hj3 : (j : Int) < 224 := by omega
          go_wp2_with fail
          refine (copy_at wj A6 c6 224 bs HBL.out.symm (Kd.C_below HC6.out HEj.out) hc6 (by decide)).mono ?_
          rintro e w3 ⟨V, rfl, hN, hE⟩
          obtain ⟨gb, cap, hv, hb0, hb1, _⟩ := Kd.R_form hN (by rw [HBL.out]; decide)
          rw [HBL.out] at hv
          subst hv
          have HNV9 := Aside0.mk hN
          have HE3 := Aside0.mk (HEj.out.trans hE)
          obtain ⟨ad, had, hcell⟩ := at_k (Kd.R_reads' hN).2.2 (j : Int) (by omega) (by rw [HBL.out]; omega)
          injection had with had
          subst had
          obtain ⟨y, hy⟩ : ∃ y, y = rd bs (j : Int) := ⟨_, rfl⟩
          rw [← hy] at hcell
          have hyr : 0 ≤ y ∧ y < 256 := by rw [hy]; exact rd_isB HBB.out (j : Int)
          have HY := Aside0.mk hyr
          replace hcell : w3.cell? ⟨gb, j, none⟩ = some (.int .u8 y) := by rw [addr_at] at hcell; exact hcell
          clear hN hE hy
          go_wp2_with (first | ((with_reducible refine gate_store (ty := 5) rfl ?_); refine Held.out ?_) | fail)
          obtain ⟨z, hz⟩ : ∃ z, z = Go.bits .xor .u8 y 3 := ⟨_, rfl⟩
          have hzr := bits_u8 .xor y 3
          rw [← hz] at hzr ⊢
          refine Held.mk ?_
          refine Kd.R_store kb (w0 := w3) wj.heap.size rfl rfl 5 (.tmp 76) (.tmp 75) rfl 5 (j : Int) 0 bs z (.int .u8 z) [.int .u8 z] [.int .u8 y] (fun _ => True) (fun _ => False) rfl ?f1 rfl rfl (by kernel_rfl) (by simp [Value.oneCell']) HNV9.out (by omega) (by omega) rfl ?f2 ?f3 ?f4 (fun _ h => h.elim) (Below.refl _ _) ?_
          case f1 => show _ = (j : Int).toNat * 1 + 0; omega
          case f2 =>
            intro k u hu
            match k, hu with
            | 0, hu =>
              obtain rfl : Value.int .u8 y = u := Option.some.inj hu
              show w3.cell? ⟨gb, (j : Int).toNat * 1 + 0, none⟩ = _
              rw [show (j : Int).toNat * 1 + 0 = j by omega]
              exact hcell
            | k + 1, hu => simp at hu
          case f3 => show 0 + 1 ≤ 1; decide
          case f4 => exact rfl
          intro w4 hR hBl _
          have HR4 := Aside0.mk (Kd.R_reads' (show NB w4 wj.heap.size (.slice (some ⟨gb, 0, none⟩) 224 cap) (bs.set (j : Int).toNat z) from hR))
          have HX4 := Aside0.mk (show Ext w2 w4 from ext_below HE3.out hBl HEj.out.size)
          have HBZ := Aside0.mk (show isB (bs.set (j : Int).toNat z) from fun v hv => by
            rcases List.mem_or_eq_of_mem_set hv with hv | rfl
            · exact HBB.out v hv
            · exact hzr)
          obtain ⟨i0, hi0, _, hsz, _⟩ := info_parts PPackPuts.info5
          have hcut := cut_to (P := Try.prog) 22 5 .i64 Try.underlying22 hi0 A6 224 c6 (j : Int) (by omega) (by omega) hc6
          rw [Int.toNat_natCast] at hcut
          clear hR hBl hcell hz hzr hyr HY HNV9 hi0 hsz HE3
          go_wp2_with fail
          refine (gets_calls w4 (some ⟨gb, 0, none⟩) cap 224 (bs.set (j : Int).toNat z) (by rw [List.length_set]; exact HBL.out.symm) (by have := HR4.out.2.2; rwa [List.length_set, HBL.out] at this) HR4.out.2.1 HBZ.out).mono ?_
          rintro e w5 ⟨rfl, hE5⟩
          have HX5 := Aside0.mk (HX4.out.trans hE5)
          have HC5 := Aside0.mk (Kd.C_below HR4.out.2.2 hE5)
          clear hE5
          go_wp2_with fail
          refine (forms_calls w5 (some ⟨gb, 0, none⟩) cap 224 (bs.set (j : Int).toNat z) (by rw [List.length_set]; exact HBL.out.symm) (by have := HC5.out; rwa [List.length_set, HBL.out] at this) HR4.out.2.1 HBZ.out).mono ?_
          rintro e w6 ⟨rfl, hE6⟩
          have HX6 := Aside0.mk (HX5.out.trans hE6)
          clear hE6 HC5 HR4
          go_wp2_with fail
          refine (gets_calls w6 A6 c6 j (bs.take j) (by rw [List.length_take, HBL.out]; omega) (C_cut (Kd.C_below HC6.out HX6.out) j (by omega)) (by omega) (HBB.out.take j)).mono ?_
          rintro e w7 ⟨rfl, hE7⟩
          have HX7 := Aside0.mk (HX6.out.trans hE7)
          clear hE7 hcut
          go_wp2_with fail
          go_roundw
          case rel => exact ⟨j + 1, by go_num, ⟨hlt3⟩, HX7⟩
          case measure => have := HLT3.out; simp only [intOf]; omega
        · have HE2 := Aside0.mk (HE1.out.trans HEj.out)
          clear HE1 HEj HC6
          go_wp2_with fail
          go_loopw [10] (fun i wr => ∃ k : Nat, i = .int .i64 k ∧ Aside0 (15 ≤ k ∧ k ≤ 18) ∧ Aside0 (Ext w wr)) (fun i _ => 18 - (intOf i).toNat)
          case atStart => exact ⟨15, rfl, ⟨by decide, by decide⟩, HE2⟩
          case round =>
            clear HE2 HJ g3 hlt3
            obtain ⟨k, rfl, HK, HEk⟩ := hrel
            have g4 := HK.out.1
            have g5 := HK.out.2
            obtain ⟨wk, hwk⟩ : ∃ wk : World, wk = wr := ⟨_, rfl⟩
            subst hwk
            by_cases hlt4 : k < 18
            · have HLT4 := Aside0.mk hlt4
              have hd4 : decide ((k : Int) < 18) = true := decide_eq_true (by omega)
              have HI0 := Aside0.mk (fun V => show (Try.prog.info? 58).map (·.size) = some (smyC 0 zero32 0 V).length by rw [smyC_len zero32_length]; kernel_rfl)
              have HS0 := Aside0.mk (fun V => show #[Value.int .i64 0, Value.int .u8 0, Value.int .u8 0, Value.int .u8 0, Value.int .u8 0, Value.int .u8 0, Value.int .u8 0, Value.int .u8 0, Value.int .u8 0, Value.int .u8 0, Value.int .u8 0, Value.int .u8 0, Value.int .u8 0, Value.int .u8 0, Value.int .u8 0, Value.int .u8 0, Value.int .u8 0, Value.int .u8 0, Value.int .u8 0, Value.int .u8 0, Value.int .u8 0, Value.int .u8 0, Value.int .u8 0, Value.int .u8 0, Value.int .u8 0, Value.int .u8 0, Value.int .u8 0, Value.int .u8 0, Value.int .u8 0, Value.int .u8 0, Value.int .u8 0, Value.int .u8 0, Value.int .u8 0, Value.int .i64 0, Value.slice none 0 0].size = (smyC 0 zero32 0 V).length by rw [smyC_len zero32_length]; rfl)
              go_wp2_with (first | ((with_reducible refine gate_build (ty := 58) rfl ?_); refine build_at rfl 58 #[] rfl _ [] rfl built_smy0 ?_) | ((with_reducible refine gate_store (ty := 58) rfl ?_); (refine store_at rfl 58 _ _ rfl wk.heap.size (smyC 0 zero32 0 (.slice none 0 0)) rfl rfl #[Value.int .i64 0, Value.int .u8 0, Value.int .u8 0, Value.int .u8 0, Value.int .u8 0, Value.int .u8 0, Value.int .u8 0, Value.int .u8 0, Value.int .u8 0, Value.int .u8 0, Value.int .u8 0, Value.int .u8 0, Value.int .u8 0, Value.int .u8 0, Value.int .u8 0, Value.int .u8 0, Value.int .u8 0, Value.int .u8 0, Value.int .u8 0, Value.int .u8 0, Value.int .u8 0, Value.int .u8 0, Value.int .u8 0, Value.int .u8 0, Value.int .u8 0, Value.int .u8 0, Value.int .u8 0, Value.int .u8 0, Value.int .u8 0, Value.int .u8 0, Value.int .u8 0, Value.int .u8 0, Value.int .u8 0, Value.int .i64 0, Value.slice none 0 0] 58 (Blk.new wk _ 58) (HS0.out _) (HI0.out _) (smyC_one _ _ _ _ _ _) ?_)) | fail)
              intro w5 hW hB5
              have hx5 := hW.ext ((Ext.refl wk).alloc _) (Nat.le_refl _)
              have HB5 := Aside0.mk hB5
              have HE5 := Aside0.mk (HEk.out.trans hx5)
              have HBW := Aside0.mk (show w.heap.size ≤ wk.heap.size from HEk.out.size)
              have HV5 := Aside0.mk (EB.nil w5 (wk.heap.size + 1))
              clear hW hB5 hx5 HEk
              generalize wk.heap.size = b5 at HB5 HBW HV5 ⊢
              go_wp2_with fail
              go_loopw [12] (fun i wr => ∃ x : Nat, i = .int .i64 x ∧ Aside0 (x ≤ k) ∧ (∃ A N C, Aside0 (Blk wr b5 (smyC 0 zero32 0 (.slice A N C)).toArray 58) ∧ Aside0 (EB wr (b5 + 1) (.slice A N C) (KL x))) ∧ Aside0 (Ext w wr)) (fun i _ => k - (intOf i).toNat)
              case atStart => exact ⟨0, rfl, ⟨Nat.zero_le _⟩, ⟨_, _, _, HB5, HV5⟩, HE5⟩
              case round =>
                clear HB5 HV5 HE5
                obtain ⟨x, rfl, HX, ⟨A5, N5, C5, HB5, HV5⟩, HE5⟩ := hrel
                have g6 := HX.out
                obtain ⟨wx, hwx⟩ : ∃ wx : World, wx = wr := ⟨_, rfl⟩
                subst hwx
                by_cases hlt5 : x < k
                · have HLT5 := Aside0.mk hlt5
                  have hd5 : decide ((x : Int) < (k : Int)) = true := decide_eq_true (by omega)
                  have c34 := (smyBlk HB5.out zero32_length).2.2.2
                  have HBU := Aside0.mk (built_k (x : Int))
                  have HL1 := Aside0.mk (show ((KL x).length + 1) * 56 ≤ 140737488355328 by rw [KL_len]; omega)
                  have HB1 := Aside0.mk HB5.out.lt
                  go_wp2_with (first | ((with_reducible refine gate_build (ty := 73) rfl ?_); refine Held.out ?_) | fail)
                  refine Held.mk ?_
                  refine build_at rfl 73 _ rfl _ [(0, .int .i64 1), (1, .int .i64 x), (2, .int .i64 x)] rfl HBU.out ?_
                  (try simp only [Act.put, List.setIfInBounds_toArray, List.set_cons_zero, List.set_cons_succ])
                  refine slice1_at rfl 56 73 _ rfl (thC (1, (x : Int), (x : Int), zero32)).toArray rfl ie (Value.agg #[Value.int .i64 0, Value.int .i64 0, Value.int .i64 0, Value.int .u8 0, Value.int .u8 0, Value.int .u8 0, Value.int .u8 0, Value.int .u8 0, Value.int .u8 0, Value.int .u8 0, Value.int .u8 0, Value.int .u8 0, Value.int .u8 0, Value.int .u8 0, Value.int .u8 0, Value.int .u8 0, Value.int .u8 0, Value.int .u8 0, Value.int .u8 0, Value.int .u8 0, Value.int .u8 0, Value.int .u8 0, Value.int .u8 0, Value.int .u8 0, Value.int .u8 0, Value.int .u8 0, Value.int .u8 0, Value.int .u8 0, Value.int .u8 0, Value.int .u8 0, Value.int .u8 0, Value.int .u8 0, Value.int .u8 0, Value.int .u8 0, Value.int .u8 0]) Try.underlying56 HSL.out.1 HSL.out.2.1 HSL.out.2.2.1 HSL.out.2.2.2.1 (HSL.out.2.2.2.2 (1, (x : Int), (x : Int), zero32) zero32_length) ?_
                  (try simp only [Act.put, List.setIfInBounds_toArray, List.set_cons_zero, List.set_cons_succ])
                  refine Kd.R_append kTh (w0 := wx) (b5 + 1) rfl (.tmp 103) (.tmp 107) 56 73 (Value.agg #[Value.int .i64 0, Value.int .i64 0, Value.int .i64 0, Value.int .u8 0, Value.int .u8 0, Value.int .u8 0, Value.int .u8 0, Value.int .u8 0, Value.int .u8 0, Value.int .u8 0, Value.int .u8 0, Value.int .u8 0, Value.int .u8 0, Value.int .u8 0, Value.int .u8 0, Value.int .u8 0, Value.int .u8 0, Value.int .u8 0, Value.int .u8 0, Value.int .u8 0, Value.int .u8 0, Value.int .u8 0, Value.int .u8 0, Value.int .u8 0, Value.int .u8 0, Value.int .u8 0, Value.int .u8 0, Value.int .u8 0, Value.int .u8 0, Value.int .u8 0, Value.int .u8 0, Value.int .u8 0, Value.int .u8 0, Value.int .u8 0, Value.int .u8 0]) 56 rfl Try.underlying56 HIN.out rfl (by decide) (by decide) (.slice A5 N5 C5) (KL x) (1, (x : Int), (x : Int), zero32) (thC (1, (x : Int), (x : Int), zero32)) (fun _ => True) (fun _ => False) rfl rfl (th_cells_of (1, (x : Int), (x : Int), zero32) zero32_length wx wx (b5 + 1) (fun _ => False)) (fun _ hk => hk.elim) (fun _ _ => trivial) HV5.out (Below.refl _ _) HB1.out HL1.out ?_
                  intro V1 wa hR hBl _ _
                  obtain ⟨A1, C1, hV1, _, _⟩ := EB.reads hR
                  obtain ⟨N1, hN1⟩ : ∃ N1, N1 = (KL x ++ [((1 : Int), (x : Int), (x : Int), zero32)]).length := ⟨_, rfl⟩
                  rw [← hN1] at hV1
                  subst hV1
                  have HVa := Aside0.mk (show EB wa (b5 + 1) (.slice A1 N1 C1) (KL (x + 1)) by rw [KL_s]; exact hR)
                  have HBa := Aside0.mk (HB5.out.below (Nat.lt_succ_self _) hBl)
                  have HXa := Aside0.mk (ext_below HE5.out hBl (by have := HBW.out; omega))
                  clear hR hBl HB5 HV5 HE5 c34 hN1
                  have ca := (smyBlk HBa.out zero32_length).2.2.2
                  have cf := HBa.out.free 34
                  go_wp2_with fail
                  have HWs := Aside0.mk (Wrote.setCell wa b5 34 (.slice A1 N1 C1))
                  have HBs := Aside0.mk (smy_set HBa.out zero32_length (.slice A1 N1 C1))
                  have HVs := Aside0.mk (HVa.out.wrote HWs.out (fun h => by have := Kd.R_base HVa.out _ h; omega))
                  have HXs := Aside0.mk (HWs.out.ext HXa.out HBW.out)
                  clear HWs HBa HVa HXa ca cf
                  generalize wa.setCell ⟨b5, 34, none⟩ (.slice A1 N1 C1) = wz at *
                  go_roundw
                  case rel => exact ⟨x + 1, by go_num, ⟨hlt5⟩, ⟨_, _, _, HBs, HVs⟩, HXs⟩
                  case measure => have := HLT5.out; simp only [intOf]; omega
                · obtain rfl : x = k := by omega
                  have HC5 := Aside0.mk (EB.reads' HV5.out (Kd.R_reads' HV5.out).1)
                  have HNK := Aside0.mk (show N5 = (KL x).length from (Kd.R_reads' HV5.out).1)
                  have hNC : N5 ≤ C5 := (Kd.R_reads' HV5.out).2.1
                  have HOK := Aside0.mk (show Smy.ok (0, zero32, 0, KL x) from okZ (KL_ok x (by omega)))
                  have HRW := Aside0.mk HB5.out.whole
                  clear HV5
                  go_wp2_with (first | ((with_reducible refine gate_load (ty := 58) rfl ?_); refine load_at rfl 58 _ rfl b5 0 rfl (smyC 0 zero32 0 (.slice A5 N5 C5)) _ HRW.out Try.underlying58 rfl (HI0.out _) ?_) | fail)
                  refine (bputs_calls wx A5 C5 N5 (0, zero32, 0, KL x) HNK.out HC5.out hNC HOK.out).mono ?_
                  rintro e w6 ⟨rfl, hE⟩
                  replace HB5 := Aside0.mk (HB5.out.ext hE)
                  replace HC5 := Aside0.mk (Kd.C_below HC5.out hE)
                  replace HE5 := Aside0.mk (HE5.out.trans hE)
                  replace HRW := Aside0.mk HB5.out.whole
                  clear hE
                  go_wp2_with (first | ((with_reducible refine gate_load (ty := 58) rfl ?_); refine load_at rfl 58 _ rfl b5 0 rfl (smyC 0 zero32 0 (.slice A5 N5 C5)) _ HRW.out Try.underlying58 rfl (HI0.out _) ?_) | fail)
                  refine (bback_calls w6 A5 C5 N5 (0, zero32, 0, KL x) HNK.out HC5.out hNC HOK.out).mono ?_
                  rintro e w7 ⟨rfl, hE⟩
                  replace HB5 := Aside0.mk (HB5.out.ext hE)
                  replace HC5 := Aside0.mk (Kd.C_below HC5.out hE)
                  replace HE5 := Aside0.mk (HE5.out.trans hE)
                  replace HRW := Aside0.mk HB5.out.whole
                  clear hE
                  go_wp2_with (first | ((with_reducible refine gate_load (ty := 58) rfl ?_); refine load_at rfl 58 _ rfl b5 0 rfl (smyC 0 zero32 0 (.slice A5 N5 C5)) _ HRW.out Try.underlying58 rfl (HI0.out _) ?_) | fail)
                  refine (check_calls w7 0 0 zero32 A5 C5 N5 (KL x) HC5.out hNC zero32_length HOK.out.2.2.2).mono ?_
                  rintro e w8 ⟨rfl, hE⟩
                  have HE8 := Aside0.mk (HE5.out.trans hE)
                  clear hE HB5 HC5 HE5 HRW HNK HOK hlt5
                  have h3 : x = 15 ∨ x = 16 ∨ x = 17 := by omega
                  clear HK g4 g5 g6 HX
                  rcases h3 with rfl | rfl | rfl
                  · rw [KL_15]
                    go_wp2_with fail
                    go_roundw
                    case rel => exact ⟨16, rfl, ⟨by decide, by decide⟩, HE8⟩
                    case measure => simp [intOf]
                  · rw [KL_16]
                    go_wp2_with fail
                    go_roundw
                    case rel => exact ⟨17, rfl, ⟨by decide, by decide⟩, HE8⟩
                    case measure => simp [intOf]
                  · rw [KL_17]
                    go_wp2_with fail
                    go_roundw
                    case rel => exact ⟨18, rfl, ⟨by decide, by decide⟩, HE8⟩
                    case measure => simp [intOf]
            · have HBO := Aside0.mk built_one
              go_wp2_with (first | ((with_reducible refine gate_build (ty := 58) rfl ?_); refine build_at rfl 58 _ rfl _ [(0, .int .i64 3), (2, .int .i64 (-1))] rfl HBO.out ?_) | fail)
              refine (put_calls wk 3 (-1) zero32 none 0 0 [] 0 one_chk.symm (Kd.C_nil kTh wk) (Nat.le_refl _) zero32_length (fun e he => by cases he)).mono ?_
              rintro e w5 ⟨V, rfl, hN, hE⟩
              obtain ⟨A5, c5, hV, hc5, hC5⟩ := hN.reads
              rw [one_len] at hV hc5 hC5
              subst hV
              have HN5 := Aside0.mk hN
              have HIB := Aside0.mk one_isB
              have HLO := Aside0.mk one_len
              have HC5 := Aside0.mk hC5
              have HE5 := Aside0.mk (HEk.out.trans hE)
              have HKW := Aside0.mk (show w.heap.size ≤ wk.heap.size from HEk.out.size)
              have HK5 := Aside0.mk (show wk.heap.size ≤ w5.heap.size from hE.size)
              clear hN hE hC5 HEk
              generalize outP 3 zero32 (-1) [] = b1 at HN5 HIB HLO HC5
              go_wp2_with fail
              refine (gets_calls w5 A5 c5 56 b1 HLO.out.symm HC5.out hc5 HIB.out).mono ?_
              rintro e w6 ⟨rfl, hE⟩
              replace HN5 := Aside0.mk (NB.ext HN5.out hE)
              replace HE5 := Aside0.mk (HE5.out.trans hE)
              have HK6 := Aside0.mk (Nat.le_trans HK5.out hE.size)
              clear hE HC5
              go_wp2_with (at_builtin; go_loud (refine R_append_want kb (w0 := w6) wk.heap.size (by rfl) (.tmp 139) (.tmp 140) 22 5 _ 1 rfl Try.underlying22 PPackPuts.info5 rfl (by decide) (by decide) (.slice A5 56 c5) b1 0 [.int .u8 0] (fun _ => True) (fun _ => False) rfl rfl ?c1 (fun _ h => h.elim) (fun _ _ => trivial) HN5.out (Below.refl _ _) HK6.out ?c4 ?_))
              case c1 => exact rfl
              case c4 => rw [HLO.out]; decide
              intro v7 w7 hR7 hB7 _ _
              replace hR7 : NB w7 wk.heap.size v7 (b1 ++ [0]) := hR7
              obtain ⟨Y, d, rfl, hd, hCY⟩ := hR7.reads
              have hy : (b1 ++ [(0 : Int)]).length = 57 := by rw [List.length_append, HLO.out]; rfl
              rw [hy] at hd hCY
              rw [hy]
              have HY := Aside0.mk hy
              have HCY := Aside0.mk hCY
              have HE7 := Aside0.mk (ext_below HE5.out hB7 HKW.out)
              clear hR7 hB7 hCY hy HE5 HN5
              go_wp2_with fail
              refine (gets_calls w7 Y d 57 (b1 ++ [0]) HY.out.symm HCY.out hd (HIB.out.app (fun z hz => by rw [List.mem_singleton.1 hz]; exact ⟨by decide, by decide⟩))).mono ?_
              rintro e w8 ⟨rfl, hE⟩
              replace HE7 := Aside0.mk (HE7.out.trans hE)
              clear hE HCY
              go_wp2_with fail
              refine (gets_calls w8 none 0 0 [] rfl (Kd.C_nil kb w8) (Nat.le_refl _) (fun z hz => by cases hz)).mono ?_
              rintro e w9 ⟨rfl, hE⟩
              replace HE7 := Aside0.mk (HE7.out.trans hE)
              clear hE
              go_wp2_with fail
              refine (works_calls w9).mono ?_
              rintro e wa ⟨rfl, hE⟩
              go_wp2_with fail
              go_ret
              exact ⟨rfl, HE7.out.trans hE⟩
end Go.Proofs.Ythgdjgnbifakbaa.By
