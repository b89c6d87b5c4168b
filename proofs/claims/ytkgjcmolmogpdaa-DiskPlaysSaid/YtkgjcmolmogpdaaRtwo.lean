/- The reference of layer 7: Write. -/
import Derived.Test.YtkgjcmolmogpdaaRone
namespace Go.Proofs.Ytkgjcmolmogpdaa.By
open Go.RowKit Go.Proofs.Ytkgjcmolmogpdaa.Reg Go.Proofs.YtkgjcmolmogpdaaW.PrintWords Go.Proofs.YtkgjcmolmogpdaaW.PrintLast Go.Proofs.YtkgjcmolmogpdaaW.PrintMore
set_option linter.unusedVariables false
set_option linter.unusedSimpArgs false


theorem put_at (w : World) (A : Option Addr) (n c : Nat) (l : List PP) (hn : n = l.length) (hr : Kd.C kP w A n l) (hc : n ≤ c) (hl : n ≤ 1000000) (i : Int) (s : SlT) :
    Calls Try.prog 75 #[.slice A n c, .agg #[.int .i64 i, slV s]] w fun e w' => ∃ V, e = .returned V ∧ RW w' w.heap.size V (putA l i s) ∧ Ext w w' := put_calls w A n c l hn hr hc hl i s
theorem copy_at (w : World) (A : Option Addr) (m c : Nat) (xs : List Int) (hn : m = xs.length) (hr : Kd.C kb w A m xs) (hc : m ≤ c) (hl : m < 140737488355328) : Calls Try.prog 76 #[.slice A m c] w fun e w' => ∃ V, e = .returned V ∧ NB w' w.heap.size V xs ∧ Ext w w' := by
  subst hn
  exact copy_calls w A c xs hr hc hl
def BQ (B : Nat) (i : Int) (xs : List Int) (u : Value) (w : World) : Prop := ∃ s, u = .agg #[.int .i64 i, slV s] ∧ NB w B (slV s) xs
def PQ (B : Nat) (i : Int) (xs : List Int) (l : List PP) (u : Value) (w : World) : Prop := ∃ s, NB w B (slV s) xs ∧ RW w 0 u (putA l i s)
theorem NB.sl {w : World} {B : Nat} {V : Value} {xs : List Int} (h : NB w B V xs) : ∃ s, V = slV s := by
  obtain ⟨A, n, c, e⟩ := h.isSl
  exact ⟨(A, n, c), e⟩
theorem BQ.ext {B : Nat} {i : Int} {xs : List Int} {u : Value} {w w' : World} (h : BQ B i xs u w) (he : Ext w w') : BQ B i xs u w' := by
  obtain ⟨s, h1, h2⟩ := h
  exact ⟨s, h1, h2.ext he⟩
theorem PQ.ext {B : Nat} {i : Int} {xs : List Int} {l : List PP} {u : Value} {w w' : World} (h : PQ B i xs l u w) (he : Ext w w') : PQ B i xs l u w' := by
  obtain ⟨s, h1, h2⟩ := h
  exact ⟨s, h1.ext he, h2.ext he⟩
theorem RW.typed {w : World} {B : Nat} {V : Value} {l : List PP} (h : RW w B V l) : ∀ k, V.ownBlock = some k → ∃ cells, w.heap[k]? = some (.cells cells 94 (0, 0)) := Kd.R_typed h
theorem RW.chg {w w' : World} {S : Nat → Prop} {B : Nat} {V : Value} {l : List PP} (h : RW w B V l) (k : Chg w w' S) (hn : ∀ j, V.ownBlock = some j → ¬ S j) : RW w' B V l := by
  have h1 := Kd.R_tight (d := kP) rfl h
  exact Kd.R_mono (Kd.R_step h1 (fun j hj hlt => k.block j hlt (hn j hj.symm))) (fun _ _ => trivial)
section
variable {w : World} {bm bq n : Nat} {VL VC : Value} {left : Int} {off : Bool} {wt : Int} {rq : List Int}
/-- A block of another type is none of the reference's disk. -/
theorem RV.apart {j t : Nat} {cells : Array Value} (h : RV w bm bq n VL VC left off wt rq) (hj : w.heap[j]? = some (.cells cells t (0, 0))) (h1 : t ≠ 82) (h2 : t ≠ 3) : ¬ Rst bm bq j := by
  rintro (e | e)
  · rw [e] at hj
    have := h.hm.is.symm.trans hj
    injection this with this
    injection this with _ h3
    exact h1 h3.symm
  · rw [e] at hj
    have := h.hq.is.symm.trans hj
    injection this with this
    injection this with _ h3
    exact h2 h3.symm
theorem RW.rst {B : Nat} {V : Value} {l : List PP} {w' : World} (h : RW w B V l) (hd : RV w bm bq n VL VC left off wt rq) (k : Chg w w' (Rst bm bq)) : RW w' B V l := h.chg k (fun j hj => by
  obtain ⟨cells, hc⟩ := h.typed j hj
  exact hd.apart hc (by decide) (by decide))
theorem NB.rst {B : Nat} {V : Value} {xs : List Int} {w' : World} (h : NB w B V xs) (hd : RV w bm bq n VL VC left off wt rq) (k : Chg w w' (Rst bm bq)) : NB w' B V xs := h.chg k (fun j hj => by
  obtain ⟨cells, hc⟩ := h.typed j hj
  exact hd.apart hc (by decide) (by decide))
set_option maxRecDepth 100000 in
set_option maxHeartbeats 2000000 in
theorem rwrite_ok (h : RV w bm bq n VL VC left false wt rq) {l : List PP} (hl : RW w 0 VC l) (hln : l.length ≤ 100000) (i : Int) (A : Option Addr) (m c : Nat) (xs : List Int) (hn : m = xs.length) (hr : Kd.F kb w (fun k => ¬ Rst bm bq k) A m xs) (hc : m ≤ c) (hq : wrongF i n m = 0) (hs : rdownF left false = false) :
    Calls Try.prog 53 #[.pointer (some ⟨bm, 0, none⟩), .int .i64 i, .slice A m c] w fun e w' => ∃ s VC', e = .returned (.int .i64 0) ∧ NB w' w.heap.size (slV s) xs ∧ RW w' 0 VC' (putA l i s) ∧ RV w' bm bq n VL VC' (rspL left false) false (wrap64 (wt + 1)) rq ∧ Chg w w' (Rst bm bq) := by
  have HWR := Aside0.mk (rwrong_calls h i A m c)
  rw [hq] at HWR
  have HS := Aside0.mk (rspend_calls h)
  rw [show rspE left false = 0 by unfold rspE; rw [if_neg (by rw [hs]; decide)], hs] at HS
  obtain ⟨wsz, hwsz⟩ : ∃ z, z = w.heap.size := ⟨_, rfl⟩
  rw [← hwsz]
  have HWS := Aside0.mk hwsz
  clear hwsz
  have HLT := Aside0.mk h.lt
  have HD := Aside0.mk h
  have HN := Aside0.mk hn
  have HLW := Aside0.mk hl
  have hm1 : m ≤ 1024 := by
    unfold wrongF at hq
    split at hq
    · omega
    · split at hq <;> omega
  obtain ⟨c0, c1, c2, c3, c4, c5, c6⟩ := h.cells
  clear h hn hl hs hq c0 c1 c2 c4 c5 c6
  go_enter Try.func53, Try.ntmps53
  go_wp2_with fail
  refine HWR.out.mono ?_
  rintro e w1 ⟨rfl, rfl⟩
  go_wp2_with fail
  refine HS.out.mono ?_
  rintro e w2 ⟨rfl, hD, hC⟩
  have HR2 := Aside0.mk (show Kd.C kb w2 A m xs from Kd.F_now (Kd.F_step hr (fun k hk hkl => hC.block k hkl hk)))
  have HL2 := Aside0.mk (HLW.out.rst HD.out hC)
  have HD2 := Aside0.mk hD
  have HC2 := Aside0.mk hC
  clear hD hC hr HD HLW HWR HS c3
  obtain ⟨AC, cC, hVC, hcC, hCC⟩ := HL2.out.reads
  have HPUT := Aside0.mk (fun (W : World) (hW : Ext w2 W) (s : SlT) => put_at W AC l.length cC l rfl (Kd.C_below hCC hW) hcC (by omega) i s)
  clear hCC
  obtain ⟨nC, hnC⟩ : ∃ nC, nC = l.length := ⟨_, rfl⟩
  rw [← hnC] at hVC hcC HPUT
  have HNC := Aside0.mk hnC
  clear hnC
  obtain ⟨c0, c1, c2, c3, c4, c5, c6⟩ := HD2.out.cells
  rw [hVC] at c5
  have HVC := Aside0.mk hVC
  clear c0 c1 c2 c3 c4 c6 hVC
  go_wp2_with fail
  apply wp_region_facts 12 [RF.val _, RF.val _, RF.val _, RF.val _, RF.val _, RF.val _, RF.val _, RF.fact (fun u w => NbQ wsz xs u w), RF.fact (fun u w => BQ wsz i xs u w), RF.fact (fun u w => PQ wsz i xs l u w), RF.val _, RF.val _]
  case hm => kernel_rfl
  case hB => kernel_rfl
  simp only [List.take_succ_cons, List.take_zero, List.zip_cons_cons, List.zip_nil_left]
  (first | refine wpF_val rfl (fun w' hE hD => by unfold Yld; go_simp; exact ⟨Ext.refl _, rfl⟩) ?_ | refine wpF_valg (by rfl) (fun w' hE hD => by unfold Yld; go_simp; exact ⟨Ext.refl _, rfl⟩) ?_)
  (try simp only [Act.put, List.setIfInBounds_toArray, List.set_cons_zero, List.set_cons_succ])
  (first | refine wpF_val rfl (fun w' hE hD => by unfold Yld; go_simp; exact ⟨Ext.refl _, rfl⟩) ?_ | refine wpF_valg (by rfl) (fun w' hE hD => by unfold Yld; go_simp; exact ⟨Ext.refl _, rfl⟩) ?_)
  (try simp only [Act.put, List.setIfInBounds_toArray, List.set_cons_zero, List.set_cons_succ])
  (first | refine wpF_val rfl (fun w' hE hD => by unfold Yld; go_simp; exact ⟨Ext.refl _, rfl⟩) ?_ | refine wpF_valg (by rfl) (fun w' hE hD => by unfold Yld; go_simp; exact ⟨Ext.refl _, rfl⟩) ?_)
  (try simp only [Act.put, List.setIfInBounds_toArray, List.set_cons_zero, List.set_cons_succ])
  (first | refine wpF_val rfl (fun w' hE hD => by unfold Yld; go_simp; exact ⟨Ext.refl _, rfl⟩) ?_ | refine wpF_valg (by rfl) (fun w' hE hD => by unfold Yld; go_simp; exact ⟨Ext.refl _, rfl⟩) ?_)
  (try simp only [Act.put, List.setIfInBounds_toArray, List.set_cons_zero, List.set_cons_succ])
  (first | refine wpF_val rfl (fun w' hE hD => by have hc5 := Ext.cell hE c5; unfold Yld; go_simp; exact ⟨Ext.refl _, rfl⟩) ?_ | refine wpF_valg (by rfl) (fun w' hE hD => by have hc5 := Ext.cell hE c5; unfold Yld; go_simp; exact ⟨Ext.refl _, rfl⟩) ?_)
  (try simp only [Act.put, List.setIfInBounds_toArray, List.set_cons_zero, List.set_cons_succ])
  (first | refine wpF_val rfl (fun w' hE hD => by unfold Yld; go_simp; exact ⟨Ext.refl _, rfl⟩) ?_ | refine wpF_valg (by rfl) (fun w' hE hD => by unfold Yld; go_simp; exact ⟨Ext.refl _, rfl⟩) ?_)
  (try simp only [Act.put, List.setIfInBounds_toArray, List.set_cons_zero, List.set_cons_succ])
  (first | refine wpF_val rfl (fun w' hE hD => by unfold Yld; go_simp; exact ⟨Ext.refl _, rfl⟩) ?_ | refine wpF_valg (by rfl) (fun w' hE hD => by unfold Yld; go_simp; exact ⟨Ext.refl _, rfl⟩) ?_)
  (try simp only [Act.put, List.setIfInBounds_toArray, List.set_cons_zero, List.set_cons_succ])
  refine wpF_fact rfl (fun u Wa Wb h he => h.ext he) (fun w' hE hD => ?_) (fun u30 => ?_)
  · unfold Yld; go_simp; exact (copy_at w' A m c xs HN.out (Kd.C_below HR2.out hE) hc (by omega)).mono fun e w2 h => by obtain ⟨U, h1, h2, h3⟩ := h; exact ⟨U, h1, h3, h2.lower (by rw [HWS.out]; exact Nat.le_trans HC2.out.size hE.size)⟩
  (try simp only [Act.put, List.setIfInBounds_toArray, List.set_cons_zero, List.set_cons_succ])
  refine wpF_fact rfl (fun u Wa Wb h he => h.ext he) (fun w' hE hD => ?_) (fun u31 => ?_)
  · have hb := hD.1 (by kernel_rfl)
    obtain ⟨s, hs⟩ := NB.sl hb
    rw [hs] at hb ⊢
    unfold Yld
    go_simp
    exact ⟨Ext.refl _, s, rfl, hb⟩
  (try simp only [Act.put, List.setIfInBounds_toArray, List.set_cons_zero, List.set_cons_succ])
  refine wpF_fact rfl (fun u Wa Wb h he => h.ext he) (fun w' hE hD => ?_) (fun u32 => ?_)
  · obtain ⟨s, hs, hb⟩ := hD.2.1 (by kernel_rfl)
    rw [hs]
    unfold Yld
    go_simp
    exact (HPUT.out w' hE s).mono fun e w2 h => by obtain ⟨V, h1, h2, h3⟩ := h; exact ⟨V, h1, h3, s, hb.ext h3, h2.lower (Nat.zero_le _)⟩
  (try simp only [Act.put, List.setIfInBounds_toArray, List.set_cons_zero, List.set_cons_succ])
  (first | refine wpF_val rfl (fun w' hE hD => by unfold Yld; go_simp; exact ⟨Ext.refl _, rfl⟩) ?_ | refine wpF_valg (by rfl) (fun w' hE hD => by unfold Yld; go_simp; exact ⟨Ext.refl _, rfl⟩) ?_)
  (try simp only [Act.put, List.setIfInBounds_toArray, List.set_cons_zero, List.set_cons_succ])
  (first | refine wpF_val rfl (fun w' hE hD => by unfold Yld; go_simp; exact ⟨Ext.refl _, rfl⟩) ?_ | refine wpF_valg (by rfl) (fun w' hE hD => by unfold Yld; go_simp; exact ⟨Ext.refl _, rfl⟩) ?_)
  (try simp only [Act.put, List.setIfInBounds_toArray, List.set_cons_zero, List.set_cons_succ])
  refine wpF_nil fun w3 hE3 hA => ?_
  simp only [List.drop_succ_cons, List.drop_zero]
  obtain ⟨_, _, ⟨s, hb, hp⟩, _⟩ := hA
  have HNB := Aside0.mk hb
  have HRP := Aside0.mk hp
  have HD3 := Aside0.mk (HD2.out.ext hE3)
  have HC3 := Aside0.mk (HC2.out.ext hE3)
  clear hb hp hE3 HD2 HC2 HL2 HR2 c5
  obtain ⟨c0, c1, c2, c3, c4, c5, c6⟩ := HD3.out.cells
  obtain ⟨A7, c7, hV7, _, _⟩ := HRP.out.reads
  obtain ⟨n7, hn7⟩ : ∃ n7, n7 = (putA l i s).length := ⟨_, rfl⟩
  rw [← hn7] at hV7
  clear hn7
  subst hV7
  have f5 := HD3.out.hm.free 5
  have f2 := HD3.out.hm.free 2
  have HW := Aside0.mk ((Wrote.setCell w3 bm 5 (.slice A7 n7 c7)).trans (Wrote.setCell (w3.setCell ⟨bm, 5, none⟩ (.slice A7 n7 c7)) bm 2 (.int .i64 (wrap64 (wt + 1)))))
  have HB := Aside0.mk (show Blk ((w3.setCell ⟨bm, 5, none⟩ (.slice A7 n7 c7)).setCell ⟨bm, 2, none⟩ (.int .i64 (wrap64 (wt + 1)))) bm (rC n (rspL left false) (wrap64 (wt + 1)) false VL (.slice A7 n7 c7) bq).toArray 82 by simpa [rC] using (HD3.out.hm.set 5 (.slice A7 n7 c7)).set 2 (.int .i64 (wrap64 (wt + 1))))
  have HCW := Aside0.mk (Chg.of_wrote (S := Rst bm bq) HW.out (.inl rfl))
  have HVC2 := HVC
  rw [HVC.out] at c5
  clear c0 c1 c3 c4 c6 HPUT HVC
  go_wp2
  go_ret
  exact ⟨s, _, rfl, HNB.out.rst HD3.out HCW.out, HRP.out.rst HD3.out HCW.out, HD3.out.set HW.out HB.out, HC3.out.trans HCW.out⟩
end
end Go.Proofs.Ytkgjcmolmogpdaa.By

/- The reference of layer 7: Write where it fails. -/
namespace Go.Proofs.Ytkgjcmolmogpdaa.By
open Go.RowKit Go.Proofs.Ytkgjcmolmogpdaa.Reg Go.Proofs.YtkgjcmolmogpdaaW.PrintWords Go.Proofs.YtkgjcmolmogpdaaW.PrintLast Go.Proofs.YtkgjcmolmogpdaaW.PrintMore
set_option linter.unusedVariables false
set_option linter.unusedSimpArgs false


section
variable {w : World} {bm bq n : Nat} {VL VC : Value} {left : Int} {off : Bool} {wt : Int} {rq : List Int}
set_option maxRecDepth 100000 in
set_option maxHeartbeats 2000000 in
theorem rwrite_down (h : RV w bm bq n VL VC left true wt rq) (i : Int) (A : Option Addr) (m c : Nat) : Calls Try.prog 53 #[.pointer (some ⟨bm, 0, none⟩), .int .i64 i, .slice A m c] w fun e w' => e = .returned (.int .i64 12) ∧ w = w' := by
  obtain ⟨c0, c1, c2, c3, c4, c5, c6⟩ := h.cells
  clear h c0 c1 c2 c4 c5 c6
  go_enter Try.func53, Try.ntmps53
  go_wp2
  go_ret
  exact ⟨rfl, rfl⟩
set_option maxRecDepth 100000 in
set_option maxHeartbeats 2000000 in
theorem rwrite_wrong (h : RV w bm bq n VL VC left false wt rq) (i : Int) (A : Option Addr) (m c : Nat) (q : Int) (hq : wrongF i n m = q) (hq0 : ¬ q = 0) : Calls Try.prog 53 #[.pointer (some ⟨bm, 0, none⟩), .int .i64 i, .slice A m c] w fun e w' => e = .returned (.int .i64 q) ∧ w = w' := by
  have HWR := Aside0.mk (rwrong_calls h i A m c)
  rw [hq] at HWR
  obtain ⟨c0, c1, c2, c3, c4, c5, c6⟩ := h.cells
  clear h c0 c1 c2 c4 c5 c6 hq
  have hqb : (q == 0) = false := by simpa using hq0
  go_enter Try.func53, Try.ntmps53
  go_wp2_with fail
  refine HWR.out.mono ?_
  rintro e w1 ⟨rfl, rfl⟩
  go_wp2
  go_ret
  exact ⟨rfl, rfl⟩
set_option maxRecDepth 100000 in
set_option maxHeartbeats 2000000 in
theorem rwrite_spent (h : RV w bm bq n VL VC left false wt rq) (i : Int) (A : Option Addr) (m c : Nat) (hq : wrongF i n m = 0) (hs : rdownF left false = true) : Calls Try.prog 53 #[.pointer (some ⟨bm, 0, none⟩), .int .i64 i, .slice A m c] w fun e w' => e = .returned (.int .i64 12) ∧ RV w' bm bq n VL VC left true wt rq ∧ Chg w w' (Rst bm bq) := by
  have HWR := Aside0.mk (rwrong_calls h i A m c)
  rw [hq] at HWR
  have HS := Aside0.mk (rspend_calls h)
  rw [show rspE left false = 12 by unfold rspE; rw [if_pos hs], show rspL left false = left by unfold rspL; rw [if_pos hs], hs] at HS
  obtain ⟨c0, c1, c2, c3, c4, c5, c6⟩ := h.cells
  clear h c0 c1 c2 c4 c5 c6 hq hs
  go_enter Try.func53, Try.ntmps53
  go_wp2_with fail
  refine HWR.out.mono ?_
  rintro e w1 ⟨rfl, rfl⟩
  go_wp2_with fail
  refine HS.out.mono ?_
  rintro e w2 ⟨rfl, hD, hC⟩
  have HD := Aside0.mk hD
  have HC := Aside0.mk hC
  clear hD hC HS c3
  go_wp2
  go_ret
  exact ⟨rfl, HD.out, HC.out⟩
end
end Go.Proofs.Ytkgjcmolmogpdaa.By

/- The reference of layer 7: Tamper. -/
namespace Go.Proofs.Ytkgjcmolmogpdaa.By
open Go.RowKit Go.Proofs.Ytkgjcmolmogpdaa.Reg Go.Proofs.YtkgjcmolmogpdaaW.PrintWords Go.Proofs.YtkgjcmolmogpdaaW.PrintLast Go.Proofs.YtkgjcmolmogpdaaW.PrintMore
set_option linter.unusedVariables false
set_option linter.unusedSimpArgs false


section
variable {w : World} {bm bq n : Nat} {VL VC : Value} {left : Int} {off : Bool} {wt : Int} {rq : List Int}
set_option maxRecDepth 100000 in
set_option maxHeartbeats 2000000 in
theorem rtamper_wrong (h : RV w bm bq n VL VC left off wt rq) (i : Int) (A : Option Addr) (m c : Nat) (q : Int) (hq : wrongF i n m = q) (hq0 : ¬ q = 0) : Calls Try.prog 62 #[.pointer (some ⟨bm, 0, none⟩), .int .i64 i, .slice A m c] w fun e w' => e = .returned (.int .i64 q) ∧ w = w' := by
  have HWR := Aside0.mk (rwrong_calls h i A m c)
  rw [hq] at HWR
  clear h hq
  have hqb : (q == 0) = false := by simpa using hq0
  go_enter Try.func62, Try.ntmps62
  go_wp2_with fail
  refine HWR.out.mono ?_
  rintro e w1 ⟨rfl, rfl⟩
  go_wp2
  go_ret
  exact ⟨rfl, rfl⟩
set_option maxRecDepth 100000 in
set_option maxHeartbeats 2000000 in
theorem rtamper_ok (h : RV w bm bq n VL VC left off wt rq) {l k : List PP} (hl : RW w 0 VL l) (hln : l.length ≤ 100000) (hk : RW w 0 VC k) (hkn : k.length ≤ 100000) (i : Int) (A : Option Addr) (m c : Nat) (xs : List Int) (hn : m = xs.length) (hr : Kd.C kb w A m xs) (hc : m ≤ c) (hq : wrongF i n m = 0) :
    Calls Try.prog 62 #[.pointer (some ⟨bm, 0, none⟩), .int .i64 i, .slice A m c] w fun e w' => ∃ s VL' VC', e = .returned (.int .i64 0) ∧ NB w' w.heap.size (slV s) xs ∧ RW w' 0 VL' (putA l i s) ∧ RW w' 0 VC' (delA k i) ∧ RV w' bm bq n VL' VC' left off wt rq ∧ Chg w w' (Rst bm bq) := by
  have HWR := Aside0.mk (rwrong_calls h i A m c)
  rw [hq] at HWR
  obtain ⟨wsz, hwsz⟩ : ∃ z, z = w.heap.size := ⟨_, rfl⟩
  rw [← hwsz]
  have HWS := Aside0.mk hwsz
  clear hwsz
  have HD2 := Aside0.mk h
  have HN := Aside0.mk hn
  have HL2 := Aside0.mk hl
  have HK2 := Aside0.mk hk
  have HR2 := Aside0.mk hr
  have hm1 : m ≤ 1024 := by
    unfold wrongF at hq
    split at hq
    · omega
    · split at hq <;> omega
  obtain ⟨c0, c1, c2, c3, c4, c5, c6⟩ := h.cells
  clear h hn hl hk hr hq c0 c1 c2 c3 c5 c6
  obtain ⟨AC, cC, hVC, hcC, hCC⟩ := HL2.out.reads
  have HISL := Aside0.mk (show ∃ a b d, VL = Value.slice a b d from ⟨_, _, _, hVC⟩)
  have HPUT := Aside0.mk (fun (W : World) (hW : Ext w W) (s : SlT) => put_at W AC l.length cC l rfl (Kd.C_below hCC hW) hcC (by omega) i s)
  clear hCC
  obtain ⟨nC, hnC⟩ : ∃ nC, nC = l.length := ⟨_, rfl⟩
  rw [← hnC] at hVC hcC HPUT
  clear hnC
  rw [hVC] at c4
  clear hVC
  go_enter Try.func62, Try.ntmps62
  go_wp2_with fail
  refine HWR.out.mono ?_
  rintro e w1 ⟨rfl, rfl⟩
  go_wp2_with fail
  apply wp_region_facts 12 [RF.val _, RF.val _, RF.val _, RF.val _, RF.val _, RF.val _, RF.val _, RF.fact (fun u w => NbQ wsz xs u w), RF.fact (fun u w => BQ wsz i xs u w), RF.fact (fun u w => PQ wsz i xs l u w), RF.val _, RF.val _]
  case hm => kernel_rfl
  case hB => kernel_rfl
  simp only [List.take_succ_cons, List.take_zero, List.zip_cons_cons, List.zip_nil_left]
  (first | refine wpF_val rfl (fun w' hE hD => by unfold Yld; go_simp; exact ⟨Ext.refl _, rfl⟩) ?_ | refine wpF_valg (by rfl) (fun w' hE hD => by unfold Yld; go_simp; exact ⟨Ext.refl _, rfl⟩) ?_)
  (try simp only [Act.put, List.setIfInBounds_toArray, List.set_cons_zero, List.set_cons_succ])
  (first | refine wpF_val rfl (fun w' hE hD => by unfold Yld; go_simp; exact ⟨Ext.refl _, rfl⟩) ?_ | refine wpF_valg (by rfl) (fun w' hE hD => by unfold Yld; go_simp; exact ⟨Ext.refl _, rfl⟩) ?_)
  (try simp only [Act.put, List.setIfInBounds_toArray, List.set_cons_zero, List.set_cons_succ])
  (first | refine wpF_val rfl (fun w' hE hD => by unfold Yld; go_simp; exact ⟨Ext.refl _, rfl⟩) ?_ | refine wpF_valg (by rfl) (fun w' hE hD => by unfold Yld; go_simp; exact ⟨Ext.refl _, rfl⟩) ?_)
  (try simp only [Act.put, List.setIfInBounds_toArray, List.set_cons_zero, List.set_cons_succ])
  (first | refine wpF_val rfl (fun w' hE hD => by unfold Yld; go_simp; exact ⟨Ext.refl _, rfl⟩) ?_ | refine wpF_valg (by rfl) (fun w' hE hD => by unfold Yld; go_simp; exact ⟨Ext.refl _, rfl⟩) ?_)
  (try simp only [Act.put, List.setIfInBounds_toArray, List.set_cons_zero, List.set_cons_succ])
  (first | refine wpF_val rfl (fun w' hE hD => by have hc4 := Ext.cell hE c4; unfold Yld; go_simp; exact ⟨Ext.refl _, rfl⟩) ?_ | refine wpF_valg (by rfl) (fun w' hE hD => by have hc4 := Ext.cell hE c4; unfold Yld; go_simp; exact ⟨Ext.refl _, rfl⟩) ?_)
  (try simp only [Act.put, List.setIfInBounds_toArray, List.set_cons_zero, List.set_cons_succ])
  (first | refine wpF_val rfl (fun w' hE hD => by unfold Yld; go_simp; exact ⟨Ext.refl _, rfl⟩) ?_ | refine wpF_valg (by rfl) (fun w' hE hD => by unfold Yld; go_simp; exact ⟨Ext.refl _, rfl⟩) ?_)
  (try simp only [Act.put, List.setIfInBounds_toArray, List.set_cons_zero, List.set_cons_succ])
  (first | refine wpF_val rfl (fun w' hE hD => by unfold Yld; go_simp; exact ⟨Ext.refl _, rfl⟩) ?_ | refine wpF_valg (by rfl) (fun w' hE hD => by unfold Yld; go_simp; exact ⟨Ext.refl _, rfl⟩) ?_)
  (try simp only [Act.put, List.setIfInBounds_toArray, List.set_cons_zero, List.set_cons_succ])
  refine wpF_fact rfl (fun u Wa Wb h he => h.ext he) (fun w' hE hD => ?_) (fun u22 => ?_)
  · unfold Yld; go_simp; exact (copy_at w' A m c xs HN.out (Kd.C_below HR2.out hE) hc (by omega)).mono fun e w2 h => by obtain ⟨U, h1, h2, h3⟩ := h; exact ⟨U, h1, h3, h2.lower (by rw [HWS.out]; exact hE.size)⟩
  (try simp only [Act.put, List.setIfInBounds_toArray, List.set_cons_zero, List.set_cons_succ])
  refine wpF_fact rfl (fun u Wa Wb h he => h.ext he) (fun w' hE hD => ?_) (fun u23 => ?_)
  · have hb := hD.1 (by kernel_rfl)
    obtain ⟨s, hs⟩ := NB.sl hb
    rw [hs] at hb ⊢
    unfold Yld
    go_simp
    exact ⟨Ext.refl _, s, rfl, hb⟩
  (try simp only [Act.put, List.setIfInBounds_toArray, List.set_cons_zero, List.set_cons_succ])
  refine wpF_fact rfl (fun u Wa Wb h he => h.ext he) (fun w' hE hD => ?_) (fun u24 => ?_)
  · obtain ⟨s, hs, hb⟩ := hD.2.1 (by kernel_rfl)
    rw [hs]
    unfold Yld
    go_simp
    exact (HPUT.out w' hE s).mono fun e w2 h => by obtain ⟨V, h1, h2, h3⟩ := h; exact ⟨V, h1, h3, s, hb.ext h3, h2.lower (Nat.zero_le _)⟩
  (try simp only [Act.put, List.setIfInBounds_toArray, List.set_cons_zero, List.set_cons_succ])
  (first | refine wpF_val rfl (fun w' hE hD => by unfold Yld; go_simp; exact ⟨Ext.refl _, rfl⟩) ?_ | refine wpF_valg (by rfl) (fun w' hE hD => by unfold Yld; go_simp; exact ⟨Ext.refl _, rfl⟩) ?_)
  (try simp only [Act.put, List.setIfInBounds_toArray, List.set_cons_zero, List.set_cons_succ])
  (first | refine wpF_val rfl (fun w' hE hD => by unfold Yld; go_simp; exact ⟨Ext.refl _, rfl⟩) ?_ | refine wpF_valg (by rfl) (fun w' hE hD => by unfold Yld; go_simp; exact ⟨Ext.refl _, rfl⟩) ?_)
  (try simp only [Act.put, List.setIfInBounds_toArray, List.set_cons_zero, List.set_cons_succ])
  refine wpF_nil fun w3 hE3 hA => ?_
  simp only [List.drop_succ_cons, List.drop_zero]
  obtain ⟨_, _, ⟨s, hb, hp⟩, _⟩ := hA
  have HNB := Aside0.mk hb
  have HRP := Aside0.mk hp
  have HD3 := Aside0.mk (HD2.out.ext hE3)
  have HK3 := Aside0.mk (HK2.out.ext hE3)
  have HC3 := Aside0.mk (Chg.of_ext hE3 (Rst bm bq))
  clear hb hp hE3 HD2 HL2 HK2 HR2 c4 HPUT
  obtain ⟨A7, c7, hV7, _, _⟩ := HRP.out.reads
  obtain ⟨n7, hn7⟩ : ∃ n7, n7 = (putA l i s).length := ⟨_, rfl⟩
  rw [← hn7] at hV7
  clear hn7
  subst hV7
  obtain ⟨c0, c1, c2, c3, c4, c5, c6⟩ := HD3.out.cells
  obtain ⟨AL, cL, nL, hc4⟩ : ∃ AL cL nL, VL = .slice AL cL nL := by
    obtain ⟨a, b, d, e⟩ := HISL.out
    exact ⟨a, b, d, e⟩
  rw [hc4] at c4
  have f4 := HD3.out.hm.free 4
  have HW := Aside0.mk (Wrote.setCell w3 bm 4 (.slice A7 n7 c7))
  have HB := Aside0.mk (show Blk (w3.setCell ⟨bm, 4, none⟩ (.slice A7 n7 c7)) bm (rC n left wt off (.slice A7 n7 c7) VC bq).toArray 82 by simpa [rC] using HD3.out.hm.set 4 (.slice A7 n7 c7))
  have HCW := Aside0.mk (Chg.of_wrote (S := Rst bm bq) HW.out (.inl rfl))
  have HD4 := Aside0.mk (HD3.out.set HW.out HB.out)
  have HNB4 := Aside0.mk (HNB.out.rst HD3.out HCW.out)
  have HRP4 := Aside0.mk (HRP.out.rst HD3.out HCW.out)
  have HK4 := Aside0.mk (HK3.out.rst HD3.out HCW.out)
  have HC4 := Aside0.mk (HC3.out.trans HCW.out)
  clear c0 c1 c2 c3 c6
  obtain ⟨AK, cK, hVK, hcK, hCK⟩ := HK4.out.reads
  have HWO := Aside0.mk (wo_calls (w3.setCell ⟨bm, 4, none⟩ (.slice A7 n7 c7)) AK k.length cK k rfl hCK hcK (by omega) i)
  obtain ⟨nK, hnK⟩ : ∃ nK, nK = k.length := ⟨_, rfl⟩
  rw [← hnK] at hVK HWO
  clear hnK hCK hcK
  rw [hVK] at c5
  go_wp2_with fail
  refine HWO.out.mono ?_
  rintro e w5 ⟨V2, rfl, hR, hE⟩
  have HD5 := Aside0.mk (HD4.out.ext hE)
  have HNB5 := Aside0.mk (HNB4.out.ext hE)
  have HRP5 := Aside0.mk (HRP4.out.ext hE)
  have HRK5 := Aside0.mk (show RW w5 0 V2 (delA k i) from hR.lower (Nat.zero_le _))
  have HC5 := Aside0.mk (HC4.out.ext hE)
  have HVK := Aside0.mk hVK
  clear hR hE HD4 HNB4 HRP4 HK4 HC4 HWO c5 c4 f4 HB HW HCW HD3 HNB HRP HK3 HC3 hVK
  obtain ⟨c0, c1, c2, c3, c4, c5, c6⟩ := HD5.out.cells
  rw [HVK.out] at c5
  have f5 := HD5.out.hm.free 5
  obtain ⟨A9, c9, hV9, _, _⟩ := HRK5.out.reads
  obtain ⟨n9, hn9⟩ : ∃ n9, n9 = (delA k i).length := ⟨_, rfl⟩
  rw [← hn9] at hV9
  clear hn9
  subst hV9
  have HW := Aside0.mk (Wrote.setCell w5 bm 5 (.slice A9 n9 c9))
  have HB := Aside0.mk (show Blk (w5.setCell ⟨bm, 5, none⟩ (.slice A9 n9 c9)) bm (rC n left wt off (.slice A7 n7 c7) (.slice A9 n9 c9) bq).toArray 82 by simpa [rC] using HD5.out.hm.set 5 (.slice A9 n9 c9))
  have HCW := Aside0.mk (Chg.of_wrote (S := Rst bm bq) HW.out (.inl rfl))
  clear c0 c1 c2 c3 c4 c6
  go_wp2
  go_ret
  exact ⟨s, _, _, rfl, HNB5.out.rst HD5.out HCW.out, HRP5.out.rst HD5.out HCW.out, HRK5.out.rst HD5.out HCW.out, HD5.out.set HW.out HB.out, HC5.out.trans HCW.out⟩
end
end Go.Proofs.Ytkgjcmolmogpdaa.By

/- The reference of layer 7: Peek. -/
namespace Go.Proofs.Ytkgjcmolmogpdaa.By
open Go.RowKit Go.Proofs.Ytkgjcmolmogpdaa.Reg Go.Proofs.YtkgjcmolmogpdaaW.PrintWords Go.Proofs.YtkgjcmolmogpdaaW.PrintLast Go.Proofs.YtkgjcmolmogpdaaW.PrintMore
set_option linter.unusedVariables false
set_option linter.unusedSimpArgs false


theorem kb_inj {w : World} {A : Option Addr} {n : Nat} {xs ys : List Int} (h : Kd.C kb w A n xs) (k : Kd.C kb w A n ys) : xs = ys := by
  apply List.ext_getElem (by rw [h.1, k.1])
  intro j h1 h2
  have hj : j < n := by have := h.1; omega
  obtain ⟨a, ha, e1⟩ := at_k h (j : Int) (by omega) (by omega)
  obtain ⟨b, hb, e2⟩ := at_k k (j : Int) (by omega) (by omega)
  rw [ha] at hb
  injection hb with hb
  subst hb
  rw [e1] at e2
  injection e2 with e2
  injection e2 with _ e3
  unfold Go.Proofs.YtkgjcmolmogpdaaW.PrintWords.rd at e3
  rw [Int.toNat_natCast, List.getD_eq_getElem?_getD, List.getD_eq_getElem?_getD, List.getElem?_eq_getElem h1, List.getElem?_eq_getElem h2] at e3
  exact e3
def PeekQ (w w' : World) (k l : List PP) (i : Int) (U : Value) : Prop :=
  (∃ s xs, getA k i = some s ∧ FS w s xs ∧ NB w' w.heap.size U xs) ∨ (getA k i = none ∧ ∃ s xs, getA l i = some s ∧ FS w s xs ∧ NB w' w.heap.size U xs) ∨ (getA k i = none ∧ getA l i = none ∧ U = .slice none 0 0)
section
variable {w : World} {bm bq n : Nat} {VL VC : Value} {left : Int} {off : Bool} {wt : Int} {rq : List Int}
set_option maxRecDepth 100000 in
set_option maxHeartbeats 2000000 in
theorem rpeek_calls (h : RV w bm bq n VL VC left off wt rq) {l k : List PP} (hl : RW w 0 VL l) (hln : l.length ≤ 100000) (hk : RW w 0 VC k) (hkn : k.length ≤ 100000) (i : Int) (fl : ∀ s, getA l i = some s → ∃ xs, FS w s xs) (fk : ∀ s, getA k i = some s → ∃ xs, FS w s xs) :
    Calls Try.prog 77 #[.pointer (some ⟨bm, 0, none⟩), .int .i64 i] w fun e w' => ∃ U, e = .returned U ∧ PeekQ w w' k l i U ∧ Ext w w' := by
  obtain ⟨c0, c1, c2, c3, c4, c5, c6⟩ := h.cells
  obtain ⟨AK, cK, hVK, hcK, hCK⟩ := hk.reads
  obtain ⟨AL, cL, hVL, hcL, hCL⟩ := hl.reads
  have HFK := Aside0.mk (find_calls w AK k.length cK k rfl hCK hcK (by omega) i fk)
  have HFL := Aside0.mk (fun (W : World) (hW : Ext w W) => find_calls W AL l.length cL l rfl (Kd.C_below hCL hW) hcL (by omega) i (fun s hs => by obtain ⟨xs, h⟩ := fl s hs; exact ⟨xs, h.ext hW⟩))
  have HFLF := Aside0.mk fl
  obtain ⟨nK, hnK⟩ : ∃ nK, nK = k.length := ⟨_, rfl⟩
  obtain ⟨nL, hnL⟩ : ∃ nL, nL = l.length := ⟨_, rfl⟩
  rw [← hnK] at hVK HFK
  rw [← hnL] at hVL HFL
  rw [hVK] at c5
  rw [hVL] at c4
  clear h hl hk c0 c1 c2 c3 c6 hnK hnL hVK hVL hcK hCK hcL hCL fl fk
  go_enter Try.func77, Try.ntmps77
  go_wp2_with fail
  refine HFK.out.mono ?_
  rintro e w1 ⟨U, b, rfl, hE, hQ⟩
  have HE := Aside0.mk hE
  have hc4 := Ext.cell hE c4
  clear hE c4 c5 HFK
  rcases hQ with ⟨hg, rfl, rfl⟩ | ⟨s, xs, hg, rfl, hf, hU⟩
  · have HG := Aside0.mk hg
    have HF2 := Aside0.mk (HFL.out w1 HE.out)
    clear hg HFL
    go_wp2_with fail
    refine HF2.out.mono ?_
    rintro e w2 ⟨U2, b2, rfl, hE2, hQ2⟩
    have HE2 := Aside0.mk (HE.out.trans hE2)
    have HPQ := Aside0.mk (show PeekQ w w2 k l i U2 from by
      rcases hQ2 with ⟨h1, _, h3⟩ | ⟨s, xs, h1, _, h3, h4⟩
      · exact Or.inr (Or.inr ⟨HG.out, h1, h3⟩)
      · obtain ⟨ys, h5⟩ := HFLF.out s h1
        have h6 := h5.ext HE.out
        have e : xs = ys := by
          have a := h3.2.2.2
          have b := h6.2.2.2
          exact kb_inj a b
        subst e
        exact Or.inr (Or.inl ⟨HG.out, s, xs, h1, h5, h4.lower HE.out.size⟩))
    clear hE2 hQ2 HF2 HE
    go_wp2
    go_ret
    exact ⟨U2, rfl, HPQ.out, HE2.out⟩
  · have HPQ := Aside0.mk (show PeekQ w w1 k l i U from Or.inl ⟨s, xs, hg, hf, hU⟩)
    clear hg hf hU HFL
    go_wp2
    go_ret
    exact ⟨U, rfl, HPQ.out, HE.out⟩
end
end Go.Proofs.Ytkgjcmolmogpdaa.By

/- The reference of layer 7: Dirty. -/
namespace Go.Proofs.Ytkgjcmolmogpdaa.By
open Go.RowKit Go.Proofs.Ytkgjcmolmogpdaa.Reg Go.Proofs.YtkgjcmolmogpdaaW.PrintWords Go.Proofs.YtkgjcmolmogpdaaW.PrintLast Go.Proofs.YtkgjcmolmogpdaaW.PrintMore
set_option linter.unusedVariables false
set_option linter.unusedSimpArgs false


section
variable {w : World} {bm bq n : Nat} {VL VC : Value} {left : Int} {off : Bool} {wt : Int} {rq : List Int}
set_option maxRecDepth 100000 in
set_option maxHeartbeats 2000000 in
theorem rdirty_calls (h : RV w bm bq n VL VC left off wt rq) {k : List PP} (hk : RW w 0 VC k) (hkn : k.length ≤ 100000) :
    Calls Try.prog 65 #[.pointer (some ⟨bm, 0, none⟩)] w fun e w' => ∃ V, e = .returned V ∧ Kd.R kI 3 w' w.heap.size (fun _ => True) V (k.map (·.1)) ∧ Ext w w' := by
  have HD := Aside0.mk h
  obtain ⟨AK, cK, hVK, hcK, hCK⟩ := hk.reads
  have HCK := Aside0.mk hCK
  obtain ⟨nK, hnK⟩ : ∃ nK, nK = k.length := ⟨_, rfl⟩
  rw [← hnK] at hVK HCK
  have HNK := Aside0.mk hnK
  have HLK := Aside0.mk (show nK ≤ 100000 by omega)
  have HVK := Aside0.mk hVK
  have HIN := Aside0.mk (show (Try.prog.info? 3).map (fun i => (i.zero, i.size, i.bytes)) = some (some (.int .i64 0), 1, 8) by kernel_rfl)
  have HE0 := Aside0.mk (Ext.refl w)
  clear h hk hCK hcK hnK hVK hkn
  go_enter Try.func65, Try.ntmps65
  go_wp2_with fail
  go_loopw [3, 4] (fun v j wr => ∃ x : Nat, j = .int .i64 x ∧ Aside0 (x ≤ nK) ∧ Aside0 (Kd.R kI 3 wr w.heap.size (fun _ => True) v ((k.take x).map (·.1))) ∧ Aside0 (Ext w wr)) (fun _ j _ => nK - (intOf j).toNat)
  case atStart => exact ⟨0, rfl, ⟨Nat.zero_le _⟩, ⟨Kd.R_nil _ _ _ _ _⟩, HE0⟩
  case round =>
    clear HE0
    obtain ⟨x, rfl, HX, HV, HE⟩ := hrel
    have g1 := HX.out
    obtain ⟨wx, hwx⟩ : ∃ wx : World, wx = wr := ⟨_, rfl⟩
    subst hwx
    obtain ⟨V, hV⟩ : ∃ V, V = u3 := ⟨_, rfl⟩
    subst hV
    obtain ⟨A1, C1, hV1, _, _⟩ := Kd.R_reads HV.out
    obtain ⟨N1, hN1⟩ : ∃ N1, N1 = ((k.take x).map (·.1)).length := ⟨_, rfl⟩
    rw [← hN1] at hV1
    subst hV1
    clear hN1
    have gl := HLK.out
    obtain ⟨c0, c1, c2, c3, c4, c5, c6⟩ := (HD.out.ext HE.out).cells
    rw [HVK.out] at c5
    clear c0 c1 c2 c3 c4 c6
    by_cases hlt : x < nK
    · have HLT := Aside0.mk hlt
      have hxe : x < k.length := by have := HNK.out; omega
      obtain ⟨b, off', hA, hrg⟩ := p_at (Kd.C_below HCK.out HE.out) x hlt _ (List.getElem?_eq_getElem hxe)
      have HTK := Aside0.mk (show (k.take (x + 1)).map (·.1) = (k.take x).map (·.1) ++ [k[x].1] by rw [List.take_succ_eq_append_getElem hxe, List.map_append]; rfl)
      generalize k[x] = p at hrg HTK
      obtain ⟨pi, ps⟩ := p
      dsimp only at HTK
      subst hA
      have hcell : wx.cell? ⟨b, off' + x * 2, none⟩ = some (.int .i64 pi) := hrg 0 _ rfl
      have HBS := Aside0.mk (show w.heap.size ≤ wx.heap.size from HE.out.size)
      have HL1 := Aside0.mk (show (((k.take x).map (·.1)).length + 1) * 8 ≤ 140737488355328 from by rw [List.length_map, List.length_take]; omega)
      clear hrg hxe
      go_wp2_with (first | (at_builtin; refine Kd.R_append kI (w0 := wx) w.heap.size rfl (.tmp 14) (.tmp 23) 23 3 (.int .i64 0) 8 rfl Try.underlying23 HIN.out rfl (by decide) (by decide) (.slice A1 N1 C1) ((k.take x).map (·.1)) pi [.int .i64 pi] (fun _ => True) (fun _ => False) rfl rfl rfl (fun _ hk => hk.elim) (fun _ _ => trivial) HV.out (Below.refl _ _) HBS.out HL1.out ?_) | fail)
      intro V1 w1 hR hBl _ _
      have HV1 := Aside0.mk (show Kd.R kI 3 w1 w.heap.size (fun _ => True) V1 ((k.take (x + 1)).map (·.1)) from by rw [HTK.out, List.map_take]; exact hR)
      have HE1 := Aside0.mk (show Ext w w1 from Below.trans HE.out hBl)
      clear hR hBl
      go_wp2_with fail
      go_roundw
      case rel => exact ⟨x + 1, by go_num, ⟨hlt⟩, HV1, HE1⟩
      case measure => have := HLT.out; simp only [intOf]; omega
    · have HFV := Aside0.mk (show Kd.R kI 3 wx w.heap.size (fun _ => True) (.slice A1 N1 C1) (k.map (·.1)) from by
        have := HV.out
        rwa [List.take_of_length_le (by have := HNK.out; omega)] at this)
      clear HV
      go_wp2_with fail
      go_ret
      exact ⟨_, rfl, HFV.out, HE.out⟩
end
end Go.Proofs.Ytkgjcmolmogpdaa.By

/- The reference of layer 7: Read. -/
namespace Go.Proofs.Ytkgjcmolmogpdaa.By
open Go.RowKit Go.Proofs.Ytkgjcmolmogpdaa.Reg Go.Proofs.YtkgjcmolmogpdaaW.PrintWords Go.Proofs.YtkgjcmolmogpdaaW.PrintLast Go.Proofs.YtkgjcmolmogpdaaW.PrintMore
set_option linter.unusedVariables false
set_option linter.unusedSimpArgs false


section
variable {w : World} {bm bq n : Nat} {VL VC : Value} {left : Int} {off : Bool} {wt : Int} {rq : List Int}
set_option maxRecDepth 100000 in
set_option maxHeartbeats 2000000 in
theorem rread_no (h : RV w bm bq n VL VC left off wt rq) (i : Int) (hi : inB i n = false) : Calls Try.prog 56 #[.pointer (some ⟨bm, 0, none⟩), .int .i64 i] w fun e w' => e = .returned (.tuple #[.slice none 0 0, .int .i64 7]) ∧ w = w' := by
  obtain ⟨c0, c1, c2, c3, c4, c5, c6⟩ := h.cells
  clear h c1 c2 c3 c4 c5 c6
  by_cases h0 : i < 0
  · have hd0 : decide (i < 0) = true := decide_eq_true h0
    clear hi
    go_enter Try.func56, Try.ntmps56
    go_wp2
    go_ret2
    exact ⟨rfl, rfl⟩
  · have hd0 : decide (i < 0) = false := decide_eq_false h0
    have h1 : (n : Int) ≤ i := by
      by_cases h1 : (n : Int) ≤ i
      · exact h1
      · unfold inB at hi
        rw [decide_eq_true (by omega : 0 ≤ i), decide_eq_true (by omega : i < n)] at hi
        cases hi
    have hd1 : decide ((n : Int) ≤ i) = true := decide_eq_true h1
    clear hi
    go_enter Try.func56, Try.ntmps56
    go_wp2
    go_ret2
    exact ⟨rfl, rfl⟩
theorem RV.setQ (h : RV w bm bq n VL VC left off wt rq) (k : Nat) (v : Int) : RV (w.setCell ⟨bq, k, none⟩ (.int .i64 v)) bm bq n VL VC left off wt (rq.set k v) :=
  ⟨h.hm.wrote (Wrote.setCell w bq k (.int .i64 v)) h.ne, by
    have := h.hq.set k (.int .i64 v)
    rwa [List.setIfInBounds_toArray, ← List.map_set] at this, by rw [List.length_set]; exact h.lq, h.nn⟩
variable {X : Nat → Prop}
/-- What lasts of a sector, as bytes: nothing is no bytes. -/
def LK (X : Nat → Prop) (w : World) : Option SlT → List Int → Prop
  | none, F => F = []
  | some s, F => Kx X w (slV s) F
def oV (o : Option SlT) : Option Value := o.map slV
theorem Kx.fs {w : World} {s : SlT} {xs : List Int} (h : Kx X w (slV s) xs) : FS w s xs := by
  obtain ⟨A, c, e, h1, h2⟩ := h.1.reads
  obtain ⟨a, b, d⟩ := s
  injection e with e1 e2 e3
  subst e1 e2 e3
  exact ⟨rfl, h1, h.2.1, h2⟩
theorem FS.same {w : World} {s : SlT} {xs ys : List Int} (h : FS w s xs) (k : FS w s ys) : xs = ys := kb_inj h.2.2.2 k.2.2.2
theorem LK.rst {o : Option SlT} {F : List Int} {w' : World} (h : LK X w o F) (hd : RV w bm bq n VL VC left off wt rq) (k : Chg w w' (Rst bm bq)) : LK X w' o F := by
  cases o with
  | none => exact h
  | some s => exact ⟨h.1.rst hd k, h.2⟩
theorem Kx.rst {V : Value} {F : List Int} {w' : World} (h : Kx X w V F) (hd : RV w bm bq n VL VC left off wt rq) (k : Chg w w' (Rst bm bq)) : Kx X w' V F := ⟨h.1.rst hd k, h.2⟩
theorem peek_is {w w' : World} {l k : List PP} {i : Int} {U : Value} (h : PeekQ w w' k l i U) {F : List Int} {G : Option (List Int)} (hF : LK X w (getA l i) F) (hG : OptR X w (oV (getA k i)) G) : NB w' w.heap.size U (G.getD F) := by
  rcases h with ⟨s, xs, h1, h2, h3⟩ | ⟨h1, s, xs, h2, h3, h4⟩ | ⟨h1, h2, h3⟩
  · rw [h1] at hG
    cases G with
    | none => exact hG.elim
    | some ys =>
      have e : xs = ys := h2.same (Kx.fs hG)
      subst e
      exact h3
  · rw [h1] at hG
    cases G with
    | some ys => exact hG.elim
    | none =>
      rw [h2] at hF
      have e : xs = F := h3.same (Kx.fs hF)
      subst e
      exact h4
  · rw [h1] at hG
    cases G with
    | some ys => exact hG.elim
    | none =>
      rw [h2] at hF
      have e : F = [] := hF
      subst e
      rw [h3]
      exact Kd.R_nil _ _ _ _ _
set_option maxRecDepth 100000 in
set_option maxHeartbeats 2000000 in
theorem rread_ok (h : RV w bm bq n VL VC left off wt rq) {l k : List PP} (hl : RW w 0 VL l) (hln : l.length ≤ 100000) (hk : RW w 0 VC k) (hkn : k.length ≤ 100000) (i : Nat) (hi : i < n) (F : List Int) (G : Option (List Int)) (hF : LK X w (getA l (i : Int)) F) (hG : OptR X w (oV (getA k (i : Int))) G) :
    Calls Try.prog 56 #[.pointer (some ⟨bm, 0, none⟩), .int .i64 (i : Int)] w fun e w' => ∃ U, e = .returned (.tuple #[U, .int .i64 0]) ∧ NB w' w.heap.size U (G.getD F) ∧ RV w' bm bq n VL VC left off wt (rq.set i (wrap64 (rq.getD i 0 + 1))) ∧ Chg w w' (Rst bm bq) := by
  have HD := Aside0.mk h
  have HL := Aside0.mk hl
  have HK := Aside0.mk hk
  have HF := Aside0.mk hF
  have HG := Aside0.mk hG
  obtain ⟨c0, c1, c2, c3, c4, c5, c6⟩ := h.cells
  have hd0 : decide ((i : Int) < 0) = false := decide_eq_false (by omega)
  have hd1 : decide ((n : Int) ≤ i) = false := decide_eq_false (by omega)
  have hin : (i : Int) < n := by omega
  have hq : i < rq.length := by rw [h.lq]; omega
  have hcq := h.hq.cell i (v := .int .i64 rq[i]) (by simp [hq])
  have HX := Aside0.mk (show rq.getD i 0 = rq[i] by simp [List.getD_eq_getElem?_getD, hq])
  generalize rq[i] = x at hcq HX
  clear h hl hk hF hG hq c1 c2 c3 c4 c5
  go_enter Try.func56, Try.ntmps56
  go_wp2_with fail
  apply wp_region_facts 13 [RF.val _, RF.val _, RF.val _, RF.val _, RF.val _, RF.val _, RF.val _, RF.val _, RF.val _, RF.val _, RF.val _, RF.val _, RF.val _]
  case hm => kernel_rfl
  case hB => kernel_rfl
  simp only [List.take_succ_cons, List.take_zero, List.zip_cons_cons, List.zip_nil_left]
  (first | refine wpF_val rfl (fun w' hE hD => by unfold Yld; go_simp; exact ⟨Ext.refl _, rfl⟩) ?_ | refine wpF_valg (by rfl) (fun w' hE hD => by unfold Yld; go_simp; exact ⟨Ext.refl _, rfl⟩) ?_)
  (try simp only [Act.put, List.setIfInBounds_toArray, List.set_cons_zero, List.set_cons_succ])
  (first | refine wpF_val rfl (fun w' hE hD => by unfold Yld; go_simp; exact ⟨Ext.refl _, rfl⟩) ?_ | refine wpF_valg (by rfl) (fun w' hE hD => by unfold Yld; go_simp; exact ⟨Ext.refl _, rfl⟩) ?_)
  (try simp only [Act.put, List.setIfInBounds_toArray, List.set_cons_zero, List.set_cons_succ])
  (first | refine wpF_val rfl (fun w' hE hD => by unfold Yld; go_simp; exact ⟨Ext.refl _, rfl⟩) ?_ | refine wpF_valg (by rfl) (fun w' hE hD => by unfold Yld; go_simp; exact ⟨Ext.refl _, rfl⟩) ?_)
  (try simp only [Act.put, List.setIfInBounds_toArray, List.set_cons_zero, List.set_cons_succ])
  (first | refine wpF_val rfl (fun w' hE hD => by have hc6 := Ext.cell hE c6; unfold Yld; go_simp; exact ⟨Ext.refl _, rfl⟩) ?_ | refine wpF_valg (by rfl) (fun w' hE hD => by have hc6 := Ext.cell hE c6; unfold Yld; go_simp; exact ⟨Ext.refl _, rfl⟩) ?_)
  (try simp only [Act.put, List.setIfInBounds_toArray, List.set_cons_zero, List.set_cons_succ])
  (first | refine wpF_val rfl (fun w' hE hD => by unfold Yld; go_simp; exact ⟨Ext.refl _, rfl⟩) ?_ | refine wpF_valg (by rfl) (fun w' hE hD => by unfold Yld; go_simp; exact ⟨Ext.refl _, rfl⟩) ?_)
  (try simp only [Act.put, List.setIfInBounds_toArray, List.set_cons_zero, List.set_cons_succ])
  (first | refine wpF_val rfl (fun w' hE hD => by unfold Yld; go_simp; exact ⟨Ext.refl _, rfl⟩) ?_ | refine wpF_valg (by rfl) (fun w' hE hD => by unfold Yld; go_simp; exact ⟨Ext.refl _, rfl⟩) ?_)
  (try simp only [Act.put, List.setIfInBounds_toArray, List.set_cons_zero, List.set_cons_succ])
  (first | refine wpF_val rfl (fun w' hE hD => by unfold Yld; go_simp; exact ⟨Ext.refl _, rfl⟩) ?_ | refine wpF_valg (by rfl) (fun w' hE hD => by unfold Yld; go_simp; exact ⟨Ext.refl _, rfl⟩) ?_)
  (try simp only [Act.put, List.setIfInBounds_toArray, List.set_cons_zero, List.set_cons_succ])
  (first | refine wpF_val rfl (fun w' hE hD => by unfold Yld; go_simp; exact ⟨Ext.refl _, rfl⟩) ?_ | refine wpF_valg (by rfl) (fun w' hE hD => by unfold Yld; go_simp; exact ⟨Ext.refl _, rfl⟩) ?_)
  (try simp only [Act.put, List.setIfInBounds_toArray, List.set_cons_zero, List.set_cons_succ])
  (first | refine wpF_val rfl (fun w' hE hD => by have hc6 := Ext.cell hE c6; unfold Yld; go_simp; exact ⟨Ext.refl _, rfl⟩) ?_ | refine wpF_valg (by rfl) (fun w' hE hD => by have hc6 := Ext.cell hE c6; unfold Yld; go_simp; exact ⟨Ext.refl _, rfl⟩) ?_)
  (try simp only [Act.put, List.setIfInBounds_toArray, List.set_cons_zero, List.set_cons_succ])
  (first | refine wpF_val rfl (fun w' hE hD => by unfold Yld; go_simp; exact ⟨Ext.refl _, rfl⟩) ?_ | refine wpF_valg (by rfl) (fun w' hE hD => by unfold Yld; go_simp; exact ⟨Ext.refl _, rfl⟩) ?_)
  (try simp only [Act.put, List.setIfInBounds_toArray, List.set_cons_zero, List.set_cons_succ])
  (first | refine wpF_val rfl (fun w' hE hD => by unfold Yld; go_simp; exact ⟨Ext.refl _, rfl⟩) ?_ | refine wpF_valg (by rfl) (fun w' hE hD => by unfold Yld; go_simp; exact ⟨Ext.refl _, rfl⟩) ?_)
  (try simp only [Act.put, List.setIfInBounds_toArray, List.set_cons_zero, List.set_cons_succ])
  (first | refine wpF_val rfl (fun w' hE hD => by have hcq' := Ext.cell hE hcq; unfold Yld; go_simp; exact ⟨Ext.refl _, rfl⟩) ?_ | refine wpF_valg (by rfl) (fun w' hE hD => by have hcq' := Ext.cell hE hcq; unfold Yld; go_simp; exact ⟨Ext.refl _, rfl⟩) ?_)
  (try simp only [Act.put, List.setIfInBounds_toArray, List.set_cons_zero, List.set_cons_succ])
  (first | refine wpF_val rfl (fun w' hE hD => by unfold Yld; go_simp; exact ⟨Ext.refl _, rfl⟩) ?_ | refine wpF_valg (by rfl) (fun w' hE hD => by unfold Yld; go_simp; exact ⟨Ext.refl _, rfl⟩) ?_)
  (try simp only [Act.put, List.setIfInBounds_toArray, List.set_cons_zero, List.set_cons_succ])
  refine wpF_nil fun w1 hE1 hA => ?_
  simp only [List.drop_succ_cons, List.drop_zero]
  clear hA
  have HD1 := Aside0.mk (HD.out.ext hE1)
  have HC1 := Aside0.mk (Chg.of_ext hE1 (Rst bm bq))
  have HE1 := Aside0.mk hE1
  clear c0 c6 hcq hE1
  obtain ⟨c0, c1, c2, c3, c4, c5, c6⟩ := HD1.out.cells
  have hcq := HD1.out.hq.cell i (v := .int .i64 x) (by rw [← HX.out]; have hq : i < rq.length := (by rw [HD1.out.lq]; omega); simp [List.getD_eq_getElem?_getD, hq])
  have hfr := HD1.out.hq.free i
  obtain ⟨xn, hxn⟩ : ∃ y, wrap64 (x + 1) = y := ⟨_, rfl⟩
  have HCW := Aside0.mk (Chg.of_wrote (S := Rst bm bq) (Wrote.setCell w1 bq i (.int .i64 xn)) (.inr rfl))
  have HD2 := Aside0.mk (HD1.out.setQ i xn)
  have HC2 := Aside0.mk (HC1.out.trans HCW.out)
  have HL2 := Aside0.mk ((HL.out.ext HE1.out).rst HD1.out HCW.out)
  have HK2 := Aside0.mk ((HK.out.ext HE1.out).rst HD1.out HCW.out)
  have HF2 := Aside0.mk (HF.out.rst HD.out HC2.out)
  have HG2 := Aside0.mk (OptR.map HG.out (fun V xs hx => hx.rst HD.out HC2.out))
  have HSZ := Aside0.mk (show w.heap.size ≤ (w1.setCell ⟨bq, i, none⟩ (.int .i64 xn)).heap.size from HC2.out.size)
  have HP := Aside0.mk (rpeek_calls HD2.out HL2.out hln HK2.out hkn (i : Int) (fun s hs => by have := HF2.out; rw [hs] at this; exact ⟨_, Kx.fs this⟩) (fun s hs => by
    have := HG2.out
    rw [hs] at this
    cases G with
    | none => exact this.elim
    | some ys => exact ⟨_, Kx.fs this⟩))
  have HXN := Aside0.mk (show wrap64 (rq.getD i 0 + 1) = xn by rw [HX.out, hxn])
  clear c0 c1 c2 c3 c4 c5
  go_wp2_with fail
  refine HP.out.mono ?_
  rintro e w3 ⟨U, rfl, hQ, hE⟩
  have HQ := Aside0.mk (peek_is hQ HF2.out HG2.out)
  have HE := Aside0.mk hE
  clear hQ hE HP hcq hfr c6
  go_wp2
  go_ret2
  exact ⟨_, rfl, HQ.out.lower HSZ.out, by rw [HXN.out]; exact HD2.out.ext HE.out, HC2.out.ext HE.out⟩
end
end Go.Proofs.Ytkgjcmolmogpdaa.By

/- The reference of layer 7: Sync, Crash. -/
namespace Go.Proofs.Ytkgjcmolmogpdaa.By
open Go.RowKit Go.Proofs.Ytkgjcmolmogpdaa.Reg Go.Proofs.YtkgjcmolmogpdaaW.PrintWords Go.Proofs.YtkgjcmolmogpdaaW.PrintLast Go.Proofs.YtkgjcmolmogpdaaW.PrintMore
set_option linter.unusedVariables false
set_option linter.unusedSimpArgs false


def mrg (l k : List PP) : List PP := k.foldl (fun l p => putA l p.1 p.2) l
/-- What lasts behind a Crash: of the first sectors those whose fate is not 0. -/
def crr (l k : List PP) (fl : List Int) : Nat → List PP
  | 0 => l
  | j + 1 => if fl.getD j 0 = 0 then crr l k fl j else match k[j]? with | some p => putA (crr l k fl j) p.1 p.2 | none => crr l k fl j
theorem putA_len (l : List PP) (i : Int) (s : SlT) : (putA l i s).length ≤ l.length + 1 := by
  unfold putA
  rw [length_insA]
  have := del_len l i
  omega
theorem mrg_len (l : List PP) : ∀ (k : List PP), (mrg l k).length ≤ l.length + k.length := by
  intro k
  unfold mrg
  induction k generalizing l with
  | nil => simp
  | cons p k ih =>
    rw [List.foldl_cons]
    have := ih (putA l p.1 p.2)
    have := putA_len l p.1 p.2
    simp only [List.length_cons]
    omega
theorem mrg_take (l k : List PP) (x : Nat) (p : PP) (hp : k[x]? = some p) : mrg l (k.take (x + 1)) = putA (mrg l (k.take x)) p.1 p.2 := by
  obtain ⟨hx, e⟩ := List.getElem?_eq_some_iff.1 hp
  unfold mrg
  rw [List.take_succ_eq_append_getElem hx, List.foldl_append, e]
  rfl
theorem crr_len (l k : List PP) (fl : List Int) : ∀ j, (crr l k fl j).length ≤ l.length + j
  | 0 => Nat.le_refl _
  | j + 1 => by
    have ih := crr_len l k fl j
    rw [crr]
    split
    · omega
    · split
      · have := putA_len (crr l k fl j) (by assumption : PP).1 (by assumption : PP).2
        omega
      · omega
def RQ (l : List PP) (u : Value) (w : World) : Prop := RW w 0 u l
section
variable {w : World} {bm bq n : Nat} {VL VC : Value} {left : Int} {off : Bool} {wt : Int} {rq : List Int}
theorem rsync_spent0 (h : RV w bm bq n VL VC left off wt rq) (hs : rdownF left off = true) : rspE left off = 12 ∧ rspL left off = left := ⟨by unfold rspE; rw [if_pos hs], by unfold rspL; rw [if_pos hs]⟩
set_option maxRecDepth 100000 in
set_option maxHeartbeats 2000000 in
theorem rsync_spent (h : RV w bm bq n VL VC left off wt rq) (hs : rdownF left off = true) : Calls Try.prog 54 #[.pointer (some ⟨bm, 0, none⟩)] w fun e w' => e = .returned (.int .i64 12) ∧ RV w' bm bq n VL VC left true wt rq ∧ Chg w w' (Rst bm bq) := by
  have HS := Aside0.mk (rspend_calls h)
  rw [(rsync_spent0 h hs).1, (rsync_spent0 h hs).2, hs] at HS
  clear hs h
  go_enter Try.func54, Try.ntmps54
  go_wp2_with fail
  refine HS.out.mono ?_
  rintro e w2 ⟨rfl, hD, hC⟩
  have HD2 := Aside0.mk hD
  have HC2 := Aside0.mk hC
  clear hD hC HS
  go_wp2
  go_ret
  exact ⟨rfl, HD2.out, HC2.out⟩
theorem RV.set5 (h : RV w bm bq n VL VC left off wt rq) (V : Value) : RV (w.setCell ⟨bm, 5, none⟩ V) bm bq n VL V left off wt rq ∧ Wrote w (w.setCell ⟨bm, 5, none⟩ V) bm := by
  have HW := Wrote.setCell w bm 5 V
  exact ⟨h.set HW (by simpa [rC] using h.hm.set 5 V), HW⟩
theorem RV.set4 (h : RV w bm bq n VL VC left off wt rq) (V : Value) : RV (w.setCell ⟨bm, 4, none⟩ V) bm bq n V VC left off wt rq ∧ Wrote w (w.setCell ⟨bm, 4, none⟩ V) bm := by
  have HW := Wrote.setCell w bm 4 V
  exact ⟨h.set HW (by simpa [rC] using h.hm.set 4 V), HW⟩
theorem RV.set1 (h : RV w bm bq n VL VC left off wt rq) (v : Int) : RV (w.setCell ⟨bm, 1, none⟩ (.int .i64 v)) bm bq n VL VC v off wt rq ∧ Wrote w (w.setCell ⟨bm, 1, none⟩ (.int .i64 v)) bm := by
  have HW := Wrote.setCell w bm 1 (.int .i64 v)
  exact ⟨h.set HW (by simpa [rC] using h.hm.set 1 (.int .i64 v)), HW⟩
theorem RV.set3 (h : RV w bm bq n VL VC left off wt rq) (v : Bool) : RV (w.setCell ⟨bm, 3, none⟩ (.bool v)) bm bq n VL VC left v wt rq ∧ Wrote w (w.setCell ⟨bm, 3, none⟩ (.bool v)) bm := by
  have HW := Wrote.setCell w bm 3 (.bool v)
  exact ⟨h.set HW (by simpa [rC] using h.hm.set 3 (.bool v)), HW⟩
/-- The state of the loops of Sync and Crash: what lasts is m, at the value V. -/
structure RL (w0 w : World) (bm bq n : Nat) (V VC : Value) (left : Int) (off : Bool) (wt : Int) (rq : List Int) (m k : List PP) : Prop where
  rv : RV w bm bq n V VC left off wt rq
  rl : RW w 0 V m
  rk : RW w 0 VC k
  ch : Chg w0 w (Rst bm bq)
theorem rl_step {w0 w1 : World} {V : Value} {m k : List PP} (h : RL w0 w bm bq n V VC left off wt rq m k) (he : Ext w w1) {V' : Value} {m' : List PP} (hr : RW w1 0 V' m') :
    RL w0 (w1.setCell ⟨bm, 4, none⟩ V') bm bq n V' VC left off wt rq m' k := by
  have h1 := h.rv.ext he
  obtain ⟨a, b⟩ := h1.set4 V'
  have hc := Chg.of_wrote (S := Rst bm bq) b (.inl rfl)
  exact ⟨a, hr.rst h1 hc, (h.rk.ext he).rst h1 hc, (h.ch.ext he).trans hc⟩
set_option maxRecDepth 100000 in
set_option maxHeartbeats 2000000 in
theorem rsync_ok (h : RV w bm bq n VL VC left off wt rq) {l k : List PP} (hl : RW w 0 VL l) (hln : l.length ≤ 100000) (hk : RW w 0 VC k) (hkn : k.length ≤ 100000) (hs : rdownF left off = false) :
    Calls Try.prog 54 #[.pointer (some ⟨bm, 0, none⟩)] w fun e w' => ∃ VL', e = .returned (.int .i64 0) ∧ RW w' 0 VL' (mrg l k) ∧ RV w' bm bq n VL' (.slice none 0 0) (rspL left off) false wt rq ∧ Chg w w' (Rst bm bq) := by
  have HS := Aside0.mk (rspend_calls h)
  rw [show rspE left off = 0 by unfold rspE; rw [if_neg (by rw [hs]; decide)], hs] at HS
  have HD := Aside0.mk h
  have HL := Aside0.mk hl
  have HK := Aside0.mk hk
  have HLN := Aside0.mk (And.intro hln hkn)
  obtain ⟨AK, cK, hVK, _, _⟩ := hk.reads
  obtain ⟨nK, hnK⟩ : ∃ nK, nK = k.length := ⟨_, rfl⟩
  rw [← hnK] at hVK
  have HNK := Aside0.mk hnK
  have HVK := Aside0.mk hVK
  have HKL := Aside0.mk (show nK ≤ 100000 by omega)
  have HI1 := Aside0.mk (fun (u v : Value) => show (Try.prog.info? 94).map (·.size) = some [u, v].length by kernel_rfl)
  clear h hl hk hln hkn hs hnK hVK
  go_enter Try.func54, Try.ntmps54
  go_wp2_with fail
  refine HS.out.mono ?_
  rintro e w2 ⟨rfl, hD, hC⟩
  obtain ⟨left', hleft⟩ : ∃ x, x = rspL left off := ⟨_, rfl⟩
  rw [← hleft] at hD
  have HLEFT := Aside0.mk hleft
  have HZ := Aside0.mk (show RL w w2 bm bq n VL VC left' false wt rq (mrg l (k.take 0)) k from ⟨hD, HL.out.rst HD.out hC, HK.out.rst HD.out hC, hC⟩)
  clear hD hC HS HD HL HK hleft
  go_wp2_with fail
  go_loopw [4] (fun j wr => ∃ x : Nat, j = .int .i64 x ∧ Aside0 (x ≤ nK) ∧ ∃ V, Aside0 (RL w wr bm bq n V VC left' false wt rq (mrg l (k.take x)) k)) (fun j _ => nK - (intOf j).toNat)
  case atStart => exact ⟨0, rfl, ⟨Nat.zero_le _⟩, _, HZ⟩
  case round =>
    clear HZ
    obtain ⟨x, rfl, HX, V, HR⟩ := hrel
    have g1 := HX.out
    obtain ⟨wx, hwx⟩ : ∃ wx : World, wx = wr := ⟨_, rfl⟩
    subst hwx
    obtain ⟨A1, C1, hV1, hc1, hC1⟩ := HR.out.rl.reads
    have HML := Aside0.mk (show (mrg l (k.take x)).length ≤ 200000 from by have h1 := mrg_len l (k.take x); rw [List.length_take] at h1; have := HLN.out; omega)
    obtain ⟨c0, c1, c2, c3, c4, c5, c6⟩ := HR.out.rv.cells
    rw [HVK.out] at c5
    rw [hV1] at c4
    have HPUT := Aside0.mk (fun (W : World) (hW : Ext wx W) (i : Int) (s : SlT) => put_at W A1 _ C1 _ rfl (Kd.C_below hC1 hW) hc1 (by have := HML.out; omega) i s)
    obtain ⟨N1, hN1⟩ : ∃ N1, N1 = (mrg l (k.take x)).length := ⟨_, rfl⟩
    rw [← hN1] at c4 HPUT
    have gl := HKL.out
    clear c0 c1 c2 c3 c6 hC1 hc1 hV1 hN1
    by_cases hlt : x < nK
    · have HLT := Aside0.mk hlt
      have hxe : x < k.length := by have := HNK.out; omega
      have hget : k[x]? = some k[x] := List.getElem?_eq_getElem hxe
      have hck : Kd.C kP wx AK nK k := by
        obtain ⟨A', c', e, _, hC'⟩ := HR.out.rk.reads
        rw [HVK.out] at e
        injection e with e1 e2 e3
        rw [e1, e2]
        exact hC'
      obtain ⟨b, off', hA, hrg⟩ := p_at hck x hlt _ hget
      have HMT := Aside0.mk (mrg_take l k x _ hget)
      generalize k[x] = p at hrg HMT
      obtain ⟨pi, ps⟩ := p
      dsimp only at HMT
      subst hA
      have HG1 := Aside0.mk (show wx.rangeAt b (off' + x * 2) [.int .i64 pi, slV ps] from hrg)
      clear hrg hget hxe hck
      go_wp2_with fail
      apply wp_region_facts 13 [RF.val _, RF.val _, RF.val _, RF.val _, RF.val _, RF.val _, RF.val _, RF.val _, RF.val _, RF.val _, RF.val _, RF.val _, RF.fact (fun u w => RW w 0 u (putA (mrg l (k.take x)) pi ps))]
      case hm => kernel_rfl
      case hB => kernel_rfl
      simp only [List.take_succ_cons, List.take_zero, List.zip_cons_cons, List.zip_nil_left]
      (first | refine wpF_val rfl (fun w' hE hD => by unfold Yld; go_simp; exact ⟨Ext.refl _, rfl⟩) ?_ | refine wpF_valg (by rfl) (fun w' hE hD => by unfold Yld; go_simp; exact ⟨Ext.refl _, rfl⟩) ?_)
      (try simp only [Act.put, List.setIfInBounds_toArray, List.set_cons_zero, List.set_cons_succ])
      (first | refine wpF_val rfl (fun w' hE hD => by unfold Yld; go_simp; exact ⟨Ext.refl _, rfl⟩) ?_ | refine wpF_valg (by rfl) (fun w' hE hD => by unfold Yld; go_simp; exact ⟨Ext.refl _, rfl⟩) ?_)
      (try simp only [Act.put, List.setIfInBounds_toArray, List.set_cons_zero, List.set_cons_succ])
      (first | refine wpF_val rfl (fun w' hE hD => by unfold Yld; go_simp; exact ⟨Ext.refl _, rfl⟩) ?_ | refine wpF_valg (by rfl) (fun w' hE hD => by unfold Yld; go_simp; exact ⟨Ext.refl _, rfl⟩) ?_)
      (try simp only [Act.put, List.setIfInBounds_toArray, List.set_cons_zero, List.set_cons_succ])
      (first | refine wpF_val rfl (fun w' hE hD => by unfold Yld; go_simp; exact ⟨Ext.refl _, rfl⟩) ?_ | refine wpF_valg (by rfl) (fun w' hE hD => by unfold Yld; go_simp; exact ⟨Ext.refl _, rfl⟩) ?_)
      (try simp only [Act.put, List.setIfInBounds_toArray, List.set_cons_zero, List.set_cons_succ])
      (first | refine wpF_val rfl (fun w' hE hD => by have hc4 := Ext.cell hE c4; unfold Yld; go_simp; exact ⟨Ext.refl _, rfl⟩) ?_ | refine wpF_valg (by rfl) (fun w' hE hD => by have hc4 := Ext.cell hE c4; unfold Yld; go_simp; exact ⟨Ext.refl _, rfl⟩) ?_)
      (try simp only [Act.put, List.setIfInBounds_toArray, List.set_cons_zero, List.set_cons_succ])
      (first | refine wpF_val rfl (fun w' hE hD => by unfold Yld; go_simp; exact ⟨Ext.refl _, rfl⟩) ?_ | refine wpF_valg (by rfl) (fun w' hE hD => by unfold Yld; go_simp; exact ⟨Ext.refl _, rfl⟩) ?_)
      (try simp only [Act.put, List.setIfInBounds_toArray, List.set_cons_zero, List.set_cons_succ])
      (first | refine wpF_val rfl (fun w' hE hD => by unfold Yld; go_simp; exact ⟨Ext.refl _, rfl⟩) ?_ | refine wpF_valg (by rfl) (fun w' hE hD => by unfold Yld; go_simp; exact ⟨Ext.refl _, rfl⟩) ?_)
      (try simp only [Act.put, List.setIfInBounds_toArray, List.set_cons_zero, List.set_cons_succ])
      (first | refine wpF_val rfl (fun w' hE hD => by unfold Yld; go_simp; exact ⟨Ext.refl _, rfl⟩) ?_ | refine wpF_valg (by rfl) (fun w' hE hD => by unfold Yld; go_simp; exact ⟨Ext.refl _, rfl⟩) ?_)
      (try simp only [Act.put, List.setIfInBounds_toArray, List.set_cons_zero, List.set_cons_succ])
      (first | refine wpF_val rfl (fun w' hE hD => by have hc5 := Ext.cell hE c5; unfold Yld; go_simp; exact ⟨Ext.refl _, rfl⟩) ?_ | refine wpF_valg (by rfl) (fun w' hE hD => by have hc5 := Ext.cell hE c5; unfold Yld; go_simp; exact ⟨Ext.refl _, rfl⟩) ?_)
      (try simp only [Act.put, List.setIfInBounds_toArray, List.set_cons_zero, List.set_cons_succ])
      (first | refine wpF_val rfl (fun w' hE hD => by unfold Yld; go_simp; exact ⟨Ext.refl _, rfl⟩) ?_ | refine wpF_valg (by rfl) (fun w' hE hD => by unfold Yld; go_simp; exact ⟨Ext.refl _, rfl⟩) ?_)
      (try simp only [Act.put, List.setIfInBounds_toArray, List.set_cons_zero, List.set_cons_succ])
      (first | refine wpF_val rfl (fun w' hE hD => by unfold Yld; go_simp; exact ⟨Ext.refl _, rfl⟩) ?_ | refine wpF_valg (by rfl) (fun w' hE hD => by unfold Yld; go_simp; exact ⟨Ext.refl _, rfl⟩) ?_)
      (try simp only [Act.put, List.setIfInBounds_toArray, List.set_cons_zero, List.set_cons_succ])
      (first | refine wpF_val rfl (fun w' hE hD => Yld_load 94 _ rfl b (off' + x * 2) rfl [.int .i64 pi, slV ps] _ (rangeAt_ext HG1.out hE) Try.underlying94 rfl (HI1.out _ _)) ?_ | refine wpF_valg (by rfl) (fun w' hE hD => Yld_load 94 _ rfl b (off' + x * 2) rfl [.int .i64 pi, slV ps] _ (rangeAt_ext HG1.out hE) Try.underlying94 rfl (HI1.out _ _)) ?_)
      (try simp only [Act.put, List.setIfInBounds_toArray, List.set_cons_zero, List.set_cons_succ])
      refine wpF_fact rfl (fun u Wa Wb h he => RW.ext h he) (fun w' hE hD => ?_) (fun u31 => ?_)
      · unfold Yld; go_simp; exact (HPUT.out w' hE pi ps).mono fun e w2 h => by obtain ⟨V, h1, h2, h3⟩ := h; exact ⟨V, h1, h3, h2.lower (Nat.zero_le _)⟩
      (try simp only [Act.put, List.setIfInBounds_toArray, List.set_cons_zero, List.set_cons_succ])
      refine wpF_nil fun w3 hE3 hA => ?_
      simp only [List.drop_succ_cons, List.drop_zero]
      have HRP := Aside0.mk (show RW w3 0 _ (mrg l (k.take (x + 1))) from by rw [HMT.out]; exact hA.1)
      have HD3 := Aside0.mk (HR.out.rv.ext hE3)
      have HE3 := Aside0.mk hE3
      clear hA hE3 HPUT HG1 c4 c5
      obtain ⟨c0, c1, c2, c3, c4, c5, c6⟩ := HD3.out.cells
      obtain ⟨A7, c7, hV7, _, _⟩ := HRP.out.reads
      obtain ⟨n7, hn7⟩ : ∃ n7, n7 = (mrg l (k.take (x + 1))).length := ⟨_, rfl⟩
      rw [← hn7] at hV7
      clear hn7
      subst hV7
      obtain ⟨A1', n1', c1', hV1'⟩ : ∃ a b d, V = Value.slice a b d := by
        obtain ⟨a, d, e, _, _⟩ := HR.out.rl.reads
        exact ⟨_, _, _, e⟩
      rw [hV1'] at c4
      have f4 := HD3.out.hm.free 4
      have HR4 := Aside0.mk (rl_step HR.out HE3.out HRP.out)
      clear c0 c1 c2 c3 c5 c6 hV1'
      go_wp2_with fail
      go_roundw
      case rel => exact ⟨x + 1, by go_num, ⟨hlt⟩, _, HR4⟩
      case measure => have := HLT.out; simp only [intOf]; omega
    · have HEND := Aside0.mk (show mrg l (k.take x) = mrg l k from by rw [List.take_of_length_le (by have := HNK.out; omega)])
      have f5 := HR.out.rv.hm.free 5
      obtain ⟨HD5, HW5⟩ := HR.out.rv.set5 (.slice none 0 0)
      have HD5 := Aside0.mk HD5
      have HC5 := Aside0.mk (Chg.of_wrote (S := Rst bm bq) HW5 (.inl rfl))
      clear HW5
      go_wp2_with fail
      go_ret
      exact ⟨_, rfl, by rw [← HEND.out]; exact HR.out.rl.rst HR.out.rv HC5.out, by rw [← HLEFT.out]; exact HD5.out, HR.out.ch.trans HC5.out⟩
set_option maxRecDepth 100000 in
set_option maxHeartbeats 2000000 in
theorem rcrash_calls (h : RV w bm bq n VL VC left off wt rq) {l k : List PP} (hl : RW w 0 VL l) (hln : l.length ≤ 100000) (hk : RW w 0 VC k) (hkn : k.length ≤ 100000) (A : Option Addr) (m c : Nat) (fl : List Int) (hn : m = fl.length) (hr : Kd.F kI w (fun k => ¬ Rst bm bq k) A m fl) (hc : m ≤ c) :
    Calls Try.prog 60 #[.pointer (some ⟨bm, 0, none⟩), .slice A m c] w fun e w' => ∃ VL', e = .returned (.tuple #[]) ∧ RW w' 0 VL' (crr l k fl k.length) ∧ RV w' bm bq n VL' (.slice none 0 0) (-1) false wt rq ∧ Chg w w' (Rst bm bq) := by
  have HLN := Aside0.mk (And.intro hln hkn)
  obtain ⟨AK, cK, hVK, _, _⟩ := hk.reads
  obtain ⟨nK, hnK⟩ : ∃ nK, nK = k.length := ⟨_, rfl⟩
  rw [← hnK] at hVK ⊢
  have HNK := Aside0.mk hnK
  have HVK := Aside0.mk hVK
  have HKL := Aside0.mk (show nK ≤ 100000 by omega)
  have HFR := Aside0.mk hr
  have HFN := Aside0.mk hn
  have HI1 := Aside0.mk (fun (u v : Value) => show (Try.prog.info? 94).map (·.size) = some [u, v].length by kernel_rfl)
  have HZ := Aside0.mk (show RL w w bm bq n VL VC left off wt rq (crr l k fl 0) k from ⟨h, hl, hk, Chg.refl _ _⟩)
  clear h hl hk hln hkn hnK hVK hr hn
  go_enter Try.func60, Try.ntmps60
  go_wp2_with fail
  go_loopw [4] (fun j wr => ∃ x : Nat, j = .int .i64 x ∧ Aside0 (x ≤ nK) ∧ ∃ V, Aside0 (RL w wr bm bq n V VC left off wt rq (crr l k fl x) k)) (fun j _ => nK - (intOf j).toNat)
  case atStart => exact ⟨0, rfl, ⟨Nat.zero_le _⟩, _, HZ⟩
  case round =>
    clear HZ
    obtain ⟨x, rfl, HX, V, HR⟩ := hrel
    have g1 := HX.out
    obtain ⟨wx, hwx⟩ : ∃ wx : World, wx = wr := ⟨_, rfl⟩
    subst hwx
    obtain ⟨A1, C1, hV1, hc1, hC1⟩ := HR.out.rl.reads
    have HML := Aside0.mk (show (crr l k fl x).length ≤ 200000 from by have := crr_len l k fl x; have := HLN.out; have := HKL.out; omega)
    obtain ⟨c0, c1, c2, c3, c4, c5, c6⟩ := HR.out.rv.cells
    rw [HVK.out] at c5
    rw [hV1] at c4
    have HPUT := Aside0.mk (fun (W : World) (hW : Ext wx W) (i : Int) (s : SlT) => put_at W A1 _ C1 _ rfl (Kd.C_below hC1 hW) hc1 (by have := HML.out; omega) i s)
    obtain ⟨N1, hN1⟩ : ∃ N1, N1 = (crr l k fl x).length := ⟨_, rfl⟩
    rw [← hN1] at c4 HPUT
    have gl := HKL.out
    clear c0 c2 c6 hC1 hc1 hV1 hN1
    by_cases hlt : x < nK
    · have HLT := Aside0.mk hlt
      have hxe : x < k.length := by have := HNK.out; omega
      have hget : k[x]? = some k[x] := List.getElem?_eq_getElem hxe
      have hck : Kd.C kP wx AK nK k := by
        obtain ⟨A', c', e, _, hC'⟩ := HR.out.rk.reads
        rw [HVK.out] at e
        injection e with e1 e2 e3
        rw [e1, e2]
        exact hC'
      obtain ⟨b, off', hA, hrg⟩ := p_at hck x hlt _ hget
      have HMT := Aside0.mk (show ¬ fl.getD x 0 = 0 → crr l k fl (x + 1) = putA (crr l k fl x) k[x].1 k[x].2 from fun hz => by rw [crr, if_neg hz, hget])
      have HMZ := Aside0.mk (show fl.getD x 0 = 0 → crr l k fl (x + 1) = crr l k fl x from fun hz => by rw [crr, if_pos hz])
      generalize k[x] = p at hrg HMT
      obtain ⟨pi, ps⟩ := p
      dsimp only at HMT
      subst hA
      have HG1 := Aside0.mk (show wx.rangeAt b (off' + x * 2) [.int .i64 pi, slV ps] from hrg)
      clear hrg hget hxe hck
      by_cases hxm : x < m
      · have hfc : Kd.C kI wx A m fl := Kd.F_now (Kd.F_step HFR.out (fun j hj hkl => HR.out.ch.block j hkl hj))
        obtain ⟨a, hA, hcx⟩ := at_k hfc (x : Int) (by omega) (by omega)
        rw [Int.toNat_natCast] at hcx
        subst hA
        have hRD := Aside0.mk (show rd fl (x : Int) = fl.getD x 0 from by unfold rd; rw [Int.toNat_natCast])
        generalize rd fl (x : Int) = f at hcx hRD
        by_cases hf0 : f = 0
        · subst hf0
          have HR4 := Aside0.mk (show RL w wx bm bq n V VC left off wt rq (crr l k fl (x + 1)) k from by rw [HMZ.out hRD.out.symm]; exact HR.out)
          clear hfc HMT HPUT HG1
          go_wp2_with fail
          go_roundw
          case rel => exact ⟨x + 1, by go_num, ⟨hlt⟩, _, HR4⟩
          case measure => have := HLT.out; simp only [intOf]; omega
        · have hfb : (f == 0) = false := by simpa using hf0
          have HMT := Aside0.mk (HMT.out (by rw [← hRD.out]; exact hf0))
          clear hfc HMZ
          go_wp2_with fail
          apply wp_region_facts 13 [RF.val _, RF.val _, RF.val _, RF.val _, RF.val _, RF.val _, RF.val _, RF.val _, RF.val _, RF.val _, RF.val _, RF.val _, RF.fact (fun u w => RW w 0 u (putA (crr l k fl x) pi ps))]
          case hm => kernel_rfl
          case hB => kernel_rfl
          simp only [List.take_succ_cons, List.take_zero, List.zip_cons_cons, List.zip_nil_left]
          (first | refine wpF_val rfl (fun w' hE hD => by unfold Yld; go_simp; exact ⟨Ext.refl _, rfl⟩) ?_ | refine wpF_valg (by rfl) (fun w' hE hD => by unfold Yld; go_simp; exact ⟨Ext.refl _, rfl⟩) ?_)
          (try simp only [Act.put, List.setIfInBounds_toArray, List.set_cons_zero, List.set_cons_succ])
          (first | refine wpF_val rfl (fun w' hE hD => by unfold Yld; go_simp; exact ⟨Ext.refl _, rfl⟩) ?_ | refine wpF_valg (by rfl) (fun w' hE hD => by unfold Yld; go_simp; exact ⟨Ext.refl _, rfl⟩) ?_)
          (try simp only [Act.put, List.setIfInBounds_toArray, List.set_cons_zero, List.set_cons_succ])
          (first | refine wpF_val rfl (fun w' hE hD => by unfold Yld; go_simp; exact ⟨Ext.refl _, rfl⟩) ?_ | refine wpF_valg (by rfl) (fun w' hE hD => by unfold Yld; go_simp; exact ⟨Ext.refl _, rfl⟩) ?_)
          (try simp only [Act.put, List.setIfInBounds_toArray, List.set_cons_zero, List.set_cons_succ])
          (first | refine wpF_val rfl (fun w' hE hD => by unfold Yld; go_simp; exact ⟨Ext.refl _, rfl⟩) ?_ | refine wpF_valg (by rfl) (fun w' hE hD => by unfold Yld; go_simp; exact ⟨Ext.refl _, rfl⟩) ?_)
          (try simp only [Act.put, List.setIfInBounds_toArray, List.set_cons_zero, List.set_cons_succ])
          (first | refine wpF_val rfl (fun w' hE hD => by have hc4 := Ext.cell hE c4; unfold Yld; go_simp; exact ⟨Ext.refl _, rfl⟩) ?_ | refine wpF_valg (by rfl) (fun w' hE hD => by have hc4 := Ext.cell hE c4; unfold Yld; go_simp; exact ⟨Ext.refl _, rfl⟩) ?_)
          (try simp only [Act.put, List.setIfInBounds_toArray, List.set_cons_zero, List.set_cons_succ])
          (first | refine wpF_val rfl (fun w' hE hD => by unfold Yld; go_simp; exact ⟨Ext.refl _, rfl⟩) ?_ | refine wpF_valg (by rfl) (fun w' hE hD => by unfold Yld; go_simp; exact ⟨Ext.refl _, rfl⟩) ?_)
          (try simp only [Act.put, List.setIfInBounds_toArray, List.set_cons_zero, List.set_cons_succ])
          (first | refine wpF_val rfl (fun w' hE hD => by unfold Yld; go_simp; exact ⟨Ext.refl _, rfl⟩) ?_ | refine wpF_valg (by rfl) (fun w' hE hD => by unfold Yld; go_simp; exact ⟨Ext.refl _, rfl⟩) ?_)
          (try simp only [Act.put, List.setIfInBounds_toArray, List.set_cons_zero, List.set_cons_succ])
          (first | refine wpF_val rfl (fun w' hE hD => by unfold Yld; go_simp; exact ⟨Ext.refl _, rfl⟩) ?_ | refine wpF_valg (by rfl) (fun w' hE hD => by unfold Yld; go_simp; exact ⟨Ext.refl _, rfl⟩) ?_)
          (try simp only [Act.put, List.setIfInBounds_toArray, List.set_cons_zero, List.set_cons_succ])
          (first | refine wpF_val rfl (fun w' hE hD => by have hc5 := Ext.cell hE c5; unfold Yld; go_simp; exact ⟨Ext.refl _, rfl⟩) ?_ | refine wpF_valg (by rfl) (fun w' hE hD => by have hc5 := Ext.cell hE c5; unfold Yld; go_simp; exact ⟨Ext.refl _, rfl⟩) ?_)
          (try simp only [Act.put, List.setIfInBounds_toArray, List.set_cons_zero, List.set_cons_succ])
          (first | refine wpF_val rfl (fun w' hE hD => by unfold Yld; go_simp; exact ⟨Ext.refl _, rfl⟩) ?_ | refine wpF_valg (by rfl) (fun w' hE hD => by unfold Yld; go_simp; exact ⟨Ext.refl _, rfl⟩) ?_)
          (try simp only [Act.put, List.setIfInBounds_toArray, List.set_cons_zero, List.set_cons_succ])
          (first | refine wpF_val rfl (fun w' hE hD => by unfold Yld; go_simp; exact ⟨Ext.refl _, rfl⟩) ?_ | refine wpF_valg (by rfl) (fun w' hE hD => by unfold Yld; go_simp; exact ⟨Ext.refl _, rfl⟩) ?_)
          (try simp only [Act.put, List.setIfInBounds_toArray, List.set_cons_zero, List.set_cons_succ])
          (first | refine wpF_val rfl (fun w' hE hD => Yld_load 94 _ rfl b (off' + x * 2) rfl [.int .i64 pi, slV ps] _ (rangeAt_ext HG1.out hE) Try.underlying94 rfl (HI1.out _ _)) ?_ | refine wpF_valg (by rfl) (fun w' hE hD => Yld_load 94 _ rfl b (off' + x * 2) rfl [.int .i64 pi, slV ps] _ (rangeAt_ext HG1.out hE) Try.underlying94 rfl (HI1.out _ _)) ?_)
          (try simp only [Act.put, List.setIfInBounds_toArray, List.set_cons_zero, List.set_cons_succ])
          refine wpF_fact rfl (fun u Wa Wb h he => RW.ext h he) (fun w' hE hD => ?_) (fun u37 => ?_)
          · unfold Yld; go_simp; exact (HPUT.out w' hE pi ps).mono fun e w2 h => by obtain ⟨V, h1, h2, h3⟩ := h; exact ⟨V, h1, h3, h2.lower (Nat.zero_le _)⟩
          (try simp only [Act.put, List.setIfInBounds_toArray, List.set_cons_zero, List.set_cons_succ])
          refine wpF_nil fun w3 hE3 hA => ?_
          simp only [List.drop_succ_cons, List.drop_zero]
          have HRP := Aside0.mk (show RW w3 0 _ (crr l k fl (x + 1)) from by rw [HMT.out]; exact hA.1)
          have HD3 := Aside0.mk (HR.out.rv.ext hE3)
          have HE3 := Aside0.mk hE3
          clear hA hE3 HPUT HG1 c1 c3 c4 c5 hcx
          obtain ⟨c0, c1, c2, c3, c4, c5, c6⟩ := HD3.out.cells
          obtain ⟨A7, c7, hV7, _, _⟩ := HRP.out.reads
          obtain ⟨n7, hn7⟩ : ∃ n7, n7 = (crr l k fl (x + 1)).length := ⟨_, rfl⟩
          rw [← hn7] at hV7
          clear hn7
          subst hV7
          obtain ⟨A1', n1', c1', hV1'⟩ : ∃ a b d, V = Value.slice a b d := by
            obtain ⟨a, d, e, _, _⟩ := HR.out.rl.reads
            exact ⟨_, _, _, e⟩
          rw [hV1'] at c4
          have f4 := HD3.out.hm.free 4
          have HR4 := Aside0.mk (rl_step HR.out HE3.out HRP.out)
          clear c0 c1 c2 c3 c5 c6 hV1'
          go_wp2_with fail
          go_roundw
          case rel => exact ⟨x + 1, by go_num, ⟨hlt⟩, _, HR4⟩
          case measure => have := HLT.out; simp only [intOf]; omega
      · have HR4 := Aside0.mk (show RL w wx bm bq n V VC left off wt rq (crr l k fl (x + 1)) k from by rw [HMZ.out (by rw [List.getD_eq_getElem?_getD, List.getElem?_eq_none (by have := HFN.out; omega)]; rfl)]; exact HR.out)
        clear HMT HPUT HG1
        go_wp2_with fail
        go_roundw
        case rel => exact ⟨x + 1, by go_num, ⟨hlt⟩, _, HR4⟩
        case measure => have := HLT.out; simp only [intOf]; omega
    · have HEQ := Aside0.mk (show x = nK from by omega)
      obtain ⟨HD5, HW5⟩ := HR.out.rv.set5 (.slice none 0 0)
      obtain ⟨HD6, HW6⟩ := HD5.set1 (-1)
      obtain ⟨HD7, HW7⟩ := HD6.set3 false
      have f5 := HR.out.rv.hm.free 5
      have f1 := HR.out.rv.hm.free 1
      have f3 := HR.out.rv.hm.free 3
      have HD7 := Aside0.mk HD7
      have HC7 := Aside0.mk (Chg.of_wrote (S := Rst bm bq) ((HW5.trans HW6).trans HW7) (.inl rfl))
      clear HW5 HW6 HW7 HD5 HD6
      go_wp2
      go_end0
      exact ⟨_, rfl, by rw [← HEQ.out]; exact HR.out.rl.rst HR.out.rv HC7.out, HD7.out, HR.out.ch.trans HC7.out⟩
end
end Go.Proofs.Ytkgjcmolmogpdaa.By

/- The reference of layer 7 at the level of bytes. -/
namespace Go.Proofs.Ytkgjcmolmogpdaa.By
open Go.RowKit Go.Proofs.Ytkgjcmolmogpdaa.Reg Go.Proofs.YtkgjcmolmogpdaaW.PrintWords Go.Proofs.YtkgjcmolmogpdaaW.PrintLast Go.Proofs.YtkgjcmolmogpdaaW.PrintMore
set_option linter.unusedVariables false
set_option linter.unusedSimpArgs false


def Keys (n : Nat) (l : List PP) : Prop := Rise l ∧ ∀ p ∈ l, 0 ≤ p.1 ∧ p.1 < (n : Int)
theorem Keys.nil (n : Nat) : Keys n [] := ⟨List.Pairwise.nil, fun p hp => by cases hp⟩
theorem Keys.del {n : Nat} {l : List PP} (h : Keys n l) (i : Int) : Keys n (delA l i) := ⟨rise_delA h.1 i, fun p hp => h.2 p (mem_delA.1 hp).1⟩
theorem Keys.put {n : Nat} {l : List PP} (h : Keys n l) (i : Int) (s : SlT) (h0 : 0 ≤ i) (h1 : i < n) : Keys n (putA l i s) := by
  refine ⟨rise_putA h.1 i s, fun p hp => ?_⟩
  rcases (mem_insA _ _ _).1 hp with rfl | hp
  · exact ⟨h0, h1⟩
  · exact (h.del i).2 p hp
theorem Keys.len {n : Nat} {l : List PP} (h : Keys n l) (hn : n ≤ 4096) : l.length ≤ 100000 := by
  have := rise_length h.1 (a := 0) (b := n) (by omega) h.2
  omega
theorem Keys.mrg {n : Nat} : ∀ {k l : List PP}, Keys n l → (∀ p ∈ k, 0 ≤ p.1 ∧ p.1 < (n : Int)) → Keys n (mrg l k)
  | [], l, h, _ => h
  | p :: k, l, h, hk => Keys.mrg (k := k) (h.put p.1 p.2 (hk p (List.mem_cons_self ..)).1 (hk p (List.mem_cons_self ..)).2) (fun q hq => hk q (List.mem_cons_of_mem _ hq))
theorem Keys.crr {n : Nat} {k l : List PP} (h : Keys n l) (hk : ∀ p ∈ k, 0 ≤ p.1 ∧ p.1 < (n : Int)) (fl : List Int) : ∀ j, Keys n (crr l k fl j)
  | 0 => h
  | j + 1 => by
    have ih := Keys.crr h hk fl j
    rw [By.crr]
    split
    · exact ih
    · split
      · rename_i p hp
        have := hk p (List.mem_of_getElem? hp)
        exact ih.put _ _ this.1 this.2
      · exact ih
def nilV : Value := .slice none 0 0
/-- The reference's rows, as the real disk has them. -/
def LVo (n : Nat) (l : List PP) : List Value := (List.range n).map fun (i : Nat) => (oV (getA l (i : Int))).getD nilV
def CVo (k : List PP) : List (Int × Value) := k.map fun p => (p.1, slV p.2)
theorem getA_cons (p : PP) (l : List PP) (i : Int) : getA (p :: l) i = if p.1 = i then some p.2 else getA l i := by
  unfold getA
  rw [List.find?_cons]
  by_cases h : p.1 = i
  · simp [h]
  · simp [h]
theorem CVo_get (k : List PP) (i : Int) : getA (CVo k) i = oV (getA k i) := by
  unfold getA CVo oV
  rw [List.find?_map, Option.map_map, Option.map_map]
  rfl
theorem LVo_len (n : Nat) (l : List PP) : (LVo n l).length = n := by simp [LVo]
theorem LVo_at (n : Nat) (l : List PP) (i : Nat) (hi : i < n) : (LVo n l).getD i (.slice none 0 0) = (oV (getA l (i : Int))).getD nilV := by
  unfold LVo
  rw [List.getD_eq_getElem?_getD, List.getElem?_map, List.getElem?_range hi]
  rfl
theorem LVo_put (n : Nat) (l : List PP) (i : Nat) (s : SlT) : LVo n (putA l (i : Int) s) = (LVo n l).set i (slV s) := by
  apply List.ext_getElem
  · simp [LVo]
  · intro j h1 h2
    rw [List.getElem_set]
    simp only [LVo, List.getElem_map, List.getElem_range, get_putA]
    by_cases h : i = j
    · subst h
      rw [if_pos rfl, if_pos rfl]
      rfl
    · rw [if_neg h, if_neg (by omega)]
theorem get_mrg : ∀ (k l : List PP), Rise k → ∀ i, getA (mrg l k) i = (getA k i).or (getA l i)
  | [], l, _, i => rfl
  | p :: k, l, h, i => by
    obtain ⟨h1, h2⟩ := List.pairwise_cons.1 h
    rw [show mrg l (p :: k) = mrg (putA l p.1 p.2) k from rfl, get_mrg k _ h2 i, get_putA, getA_cons]
    by_cases e : p.1 = i
    · rw [if_pos e.symm, if_pos e, getA_none.2 (fun q hq => by have := h1 q hq; omega)]
      rfl
    · rw [if_neg (fun h => e h.symm), if_neg e]
theorem LVo_sync (n : Nat) (l k : List PP) (hk : Rise k) : syncV (LVo n l) (CVo k) = LVo n (mrg l k) := by
  apply List.ext_getElem
  · simp [syncV, LVo]
  · intro j h1 h2
    have hj : j < n := by simpa [LVo] using h2
    simp only [syncV, List.getElem_map, List.getElem_range]
    rw [LVo_at n l j hj, CVo_get]
    simp only [LVo, List.getElem_map, List.getElem_range, get_mrg k l hk]
    cases getA k (j : Int) <;> rfl
theorem LVo_crash (n : Nat) (l k : List PP) (hk : ∀ p ∈ k, 0 ≤ p.1 ∧ p.1 < (n : Int)) (fl : List Int) : ∀ j, crashN (LVo n l) (CVo k) fl j = LVo n (crr l k fl j)
  | 0 => rfl
  | j + 1 => by
    have ih := LVo_crash n l k hk fl j
    rw [crashN, crr]
    by_cases hz : fl.getD j 0 = 0
    · rw [if_pos hz, if_pos hz]; exact ih
    · rw [if_neg hz, if_neg hz]
      unfold CVo at ih ⊢
      rw [List.getElem?_map]
      cases hp : k[j]? with
      | none => exact ih
      | some p =>
        have h0 := hk p (List.mem_of_getElem? hp)
        simp only [Option.map_some]
        rw [ih]
        have e : p.1 = ((p.1.toNat : Nat) : Int) := by omega
        conv => rhs; rw [e]
        exact (LVo_put n _ p.1.toNat p.2).symm
variable {X : Nat → Prop}
theorem nil_len {w : World} {xs : List Int} (h : Kx X w nilV xs) : xs = [] := by
  obtain ⟨A, c, e, h1, h2⟩ := h.1.reads
  unfold nilV at e
  injection e with e1 e2 e3
  exact List.length_eq_zero_iff.1 e2.symm
/-- The reference's disk at bm, n sectors: what lasts, what is cached. -/
def RBX (X : Nat → Prop) (w : World) (bm bq n : Nat) (f : Nat → List Int) (g : Nat → Option (List Int)) (left : Int) (off : Bool) (wt : Int) (rq : List Int) : Prop :=
  ∃ VL VC l k, RV w bm bq n VL VC left off wt rq ∧ RW w 0 VL l ∧ RW w 0 VC k ∧ Keys n l ∧ Keys n k ∧ Fit X w n (LVo n l) (CVo k) f g
abbrev RB : World → Nat → Nat → Nat → (Nat → List Int) → (Nat → Option (List Int)) → Int → Bool → Int → List Int → Prop := RBX (fun _ => False)
section
variable {w w' : World} {bm bq n : Nat} {f : Nat → List Int} {g : Nat → Option (List Int)} {left : Int} {off : Bool} {wt : Int} {rq : List Int}
theorem fit_lk {l k : List PP} (h : Fit X w n (LVo n l) (CVo k) f g) (i : Nat) (hi : i < n) : LK X w (getA l (i : Int)) (f i) := by
  have := h.1 i hi
  rw [LVo_at n l i hi] at this
  cases hg : getA l (i : Int) with
  | none => rw [hg] at this; exact nil_len this
  | some s => rw [hg] at this; exact this
theorem fit_ok {l k : List PP} (h : Fit X w n (LVo n l) (CVo k) f g) (i : Nat) (hi : i < n) : OptR X w (oV (getA k (i : Int))) (g i) := by
  rw [← CVo_get]
  exact h.2 i hi
theorem RBX.lt (h : RBX X w bm bq n f g left off wt rq) : ∀ j, Rst bm bq j → j < w.heap.size := by
  obtain ⟨VL, VC, l, k, h1, _⟩ := h
  exact h1.lt
theorem RBX.ext (h : RBX X w bm bq n f g left off wt rq) (he : Ext w w') : RBX X w' bm bq n f g left off wt rq := by
  obtain ⟨VL, VC, l, k, h1, h2, h3, h4, h5, h6⟩ := h
  exact ⟨VL, VC, l, k, h1.ext he, h2.ext he, h3.ext he, h4, h5, h6.map (fun V xs hx => hx.ext he)⟩
theorem RBX.byt (h : RBX X w bm bq n f g left off wt rq) {B : Nat} {V : Value} {xs : List Int} (hx : NB w B V xs) (k : Chg w w' (Rst bm bq)) : NB w' B V xs := by
  obtain ⟨VL, VC, l, kk, h1, _⟩ := h
  exact hx.rst h1 k
theorem RBX.re {VL VC : Value} {l k : List PP} (h1 : RV w bm bq n VL VC left off wt rq) (h2 : RW w 0 VL l) (h3 : RW w 0 VC k) (h4 : Keys n l) (h5 : Keys n k) (h6 : Fit X w n (LVo n l) (CVo k) f g) {left' : Int} {off' : Bool} {wt' : Int} {rq' : List Int} (h1' : RV w' bm bq n VL VC left' off' wt' rq') (hc : Chg w w' (Rst bm bq)) : RBX X w' bm bq n f g left' off' wt' rq' :=
  ⟨VL, VC, l, k, h1', h2.rst h1 hc, h3.rst h1 hc, h4, h5, h6.map (fun V xs hx => hx.rst h1 hc)⟩
theorem rb_spend (h : RBX X w bm bq n f g left off wt rq) : Calls Try.prog 55 #[.pointer (some ⟨bm, 0, none⟩)] w fun e w' => e = .returned (.int .i64 (rspE left off)) ∧ RBX X w' bm bq n f g (rspL left off) (rdownF left off) wt rq ∧ Chg w w' (Rst bm bq) := by
  obtain ⟨VL, VC, l, k, h1, h2, h3, h4, h5, h6⟩ := h
  exact (rspend_calls h1).mono fun e w' ⟨he, hr, hc⟩ => ⟨he, RBX.re h1 h2 h3 h4 h5 h6 hr hc, hc⟩
theorem rb_arm (h : RBX X w bm bq n f g left off wt rq) (x : Int) : Calls Try.prog 58 #[.pointer (some ⟨bm, 0, none⟩), .int .i64 x] w fun e w' => e = .returned (.tuple #[]) ∧ RBX X w' bm bq n f g (if x < 0 then -1 else x) off wt rq ∧ Chg w w' (Rst bm bq) := by
  obtain ⟨VL, VC, l, k, h1, h2, h3, h4, h5, h6⟩ := h
  exact (rarm_calls h1 x).mono fun e w' ⟨he, hr, hc⟩ => ⟨he, RBX.re h1 h2 h3 h4 h5 h6 hr hc, hc⟩
theorem rb_reads (h : RBX X w bm bq n f g left off wt rq) (i : Int) : Calls Try.prog 67 #[.pointer (some ⟨bm, 0, none⟩), .int .i64 i] w fun e w' => e = .returned (.int .i64 (cntF rq i n)) ∧ w = w' := by
  obtain ⟨VL, VC, l, k, h1, h2, h3, h4, h5, h6⟩ := h
  exact rreads_calls h1 i
theorem rb_dirty (h : RBX X w bm bq n f g left off wt rq) : Calls Try.prog 65 #[.pointer (some ⟨bm, 0, none⟩)] w fun e w' => ∃ V, e = .returned V ∧ Kd.R kI 3 w' w.heap.size (fun _ => True) V (dirtyB g n) ∧ Ext w w' := by
  obtain ⟨VL, VC, l, k, h1, h2, h3, h4, h5, h6⟩ := h
  have hk : Rise (CVo k) := by
    have := h5.1
    unfold Rise CVo at *
    rw [List.pairwise_map]
    exact this
  have e : k.map (·.1) = dirtyB g n := by
    rw [← h6.keys hk (fun p hp => by
      obtain ⟨q, hq, rfl⟩ := List.mem_map.1 hp
      exact h5.2 q hq)]
    unfold CVo
    rw [List.map_map]
    rfl
  rw [← e]
  exact rdirty_calls h1 h3 (h5.len h1.nn.2)
theorem rb_read (h : RBX X w bm bq n f g left off wt rq) (i : Nat) (hi : i < n) : Calls Try.prog 56 #[.pointer (some ⟨bm, 0, none⟩), .int .i64 (i : Int)] w fun e w' => ∃ U, e = .returned (.tuple #[U, .int .i64 0]) ∧ NB w' w.heap.size U (atB f g i) ∧ RBX X w' bm bq n f g left off wt (rq.set i (wrap64 (rq.getD i 0 + 1))) ∧ Chg w w' (Rst bm bq) := by
  obtain ⟨VL, VC, l, k, h1, h2, h3, h4, h5, h6⟩ := h
  exact (rread_ok h1 h2 (h4.len h1.nn.2) h3 (h5.len h1.nn.2) i hi (f i) (g i) (fit_lk h6 i hi) (fit_ok h6 i hi)).mono fun e w' ⟨U, he, hU, hr, hc⟩ => ⟨U, he, hU, RBX.re h1 h2 h3 h4 h5 h6 hr hc, hc⟩
theorem rb_read_no (h : RBX X w bm bq n f g left off wt rq) (i : Int) (hi : inB i n = false) : Calls Try.prog 56 #[.pointer (some ⟨bm, 0, none⟩), .int .i64 i] w fun e w' => e = .returned (.tuple #[.slice none 0 0, .int .i64 7]) ∧ w = w' := by
  obtain ⟨VL, VC, l, k, h1, h2, h3, h4, h5, h6⟩ := h
  exact rread_no h1 i hi
theorem rb_write_down (h : RBX X w bm bq n f g left true wt rq) (i : Int) (A : Option Addr) (m c : Nat) : Calls Try.prog 53 #[.pointer (some ⟨bm, 0, none⟩), .int .i64 i, .slice A m c] w fun e w' => e = .returned (.int .i64 12) ∧ w = w' := by
  obtain ⟨VL, VC, l, k, h1, h2, h3, h4, h5, h6⟩ := h
  exact rwrite_down h1 i A m c
theorem rb_write_wrong (h : RBX X w bm bq n f g left false wt rq) (i : Int) (A : Option Addr) (m c : Nat) (q : Int) (hq : wrongF i n m = q) (hq0 : ¬ q = 0) : Calls Try.prog 53 #[.pointer (some ⟨bm, 0, none⟩), .int .i64 i, .slice A m c] w fun e w' => e = .returned (.int .i64 q) ∧ w = w' := by
  obtain ⟨VL, VC, l, k, h1, h2, h3, h4, h5, h6⟩ := h
  exact rwrite_wrong h1 i A m c q hq hq0
theorem rb_write_spent (h : RBX X w bm bq n f g left false wt rq) (i : Nat) (A : Option Addr) (m c : Nat) (hi : i < n) (hm : m ≤ 1024) (hs : rdownF left false = true) : Calls Try.prog 53 #[.pointer (some ⟨bm, 0, none⟩), .int .i64 (i : Int), .slice A m c] w fun e w' => e = .returned (.int .i64 12) ∧ RBX X w' bm bq n f g left true wt rq ∧ Chg w w' (Rst bm bq) := by
  obtain ⟨VL, VC, l, k, h1, h2, h3, h4, h5, h6⟩ := h
  exact (rwrite_spent h1 i A m c (wrongF_0 hi hm) hs).mono fun e w' ⟨he, hr, hc⟩ => ⟨he, RBX.re h1 h2 h3 h4 h5 h6 hr hc, hc⟩
theorem rb_writeX (h : RBX X w bm bq n f g left false wt rq) (i : Nat) (A : Option Addr) (m c : Nat) (xs : List Int) (hn : m = xs.length) (hr : Kd.F kb w (fun k => ¬ Rst bm bq k) A m xs) (hc : m ≤ c) (hi : i < n) (hm : m ≤ 1024) (hs : rdownF left false = false) (hX : ∀ k, X k → k < w.heap.size) :
    Calls Try.prog 53 #[.pointer (some ⟨bm, 0, none⟩), .int .i64 (i : Int), .slice A m c] w fun e w' => e = .returned (.int .i64 0) ∧ RBX X w' bm bq n f (upd g i (some xs)) (rspL left false) false (wrap64 (wt + 1)) rq ∧ Chg w w' (Rst bm bq) := by
  obtain ⟨VL, VC, l, k, h1, h2, h3, h4, h5, h6⟩ := h
  refine (rwrite_ok h1 h3 (h5.len h1.nn.2) (i : Int) A m c xs hn hr hc (wrongF_0 hi hm) hs).mono fun e w' ⟨s, VC', he, hb, hk, hv, hc'⟩ => ?_
  refine ⟨he, ⟨VL, VC', l, putA k (i : Int) s, hv, h2.rst h1 hc', hk, h4, h5.put _ _ (by omega) (by omega), ?_⟩, hc'⟩
  have hf := (h6.map (fun V xs hx => hx.rst h1 hc')).put (U := slV s) ⟨hb.lower (Nat.zero_le _), by omega, fun k hk hx => by have h1 := Kd.R_base hb k hk; have h2 := hX k hx; omega⟩ i
  unfold CVo at hf ⊢
  rwa [putA_map slV] at hf
theorem rb_write (h : RB w bm bq n f g left false wt rq) (i : Nat) (A : Option Addr) (m c : Nat) (xs : List Int) (hn : m = xs.length) (hr : Kd.F kb w (fun k => ¬ Rst bm bq k) A m xs) (hc : m ≤ c) (hi : i < n) (hm : m ≤ 1024) (hs : rdownF left false = false) :
    Calls Try.prog 53 #[.pointer (some ⟨bm, 0, none⟩), .int .i64 (i : Int), .slice A m c] w fun e w' => e = .returned (.int .i64 0) ∧ RB w' bm bq n f (upd g i (some xs)) (rspL left false) false (wrap64 (wt + 1)) rq ∧ Chg w w' (Rst bm bq) := rb_writeX h i A m c xs hn hr hc hi hm hs (fun k h => h.elim)
theorem rb_tamper_wrong (h : RBX X w bm bq n f g left off wt rq) (i : Int) (A : Option Addr) (m c : Nat) (q : Int) (hq : wrongF i n m = q) (hq0 : ¬ q = 0) : Calls Try.prog 62 #[.pointer (some ⟨bm, 0, none⟩), .int .i64 i, .slice A m c] w fun e w' => e = .returned (.int .i64 q) ∧ w = w' := by
  obtain ⟨VL, VC, l, k, h1, h2, h3, h4, h5, h6⟩ := h
  exact rtamper_wrong h1 i A m c q hq hq0
theorem rb_tamperX (h : RBX X w bm bq n f g left off wt rq) (i : Nat) (A : Option Addr) (m c : Nat) (xs : List Int) (hn : m = xs.length) (hr : Kd.C kb w A m xs) (hc : m ≤ c) (hi : i < n) (hm : m ≤ 1024) (hX : ∀ k, X k → k < w.heap.size) :
    Calls Try.prog 62 #[.pointer (some ⟨bm, 0, none⟩), .int .i64 (i : Int), .slice A m c] w fun e w' => e = .returned (.int .i64 0) ∧ RBX X w' bm bq n (upd f i xs) (upd g i none) left off wt rq ∧ Chg w w' (Rst bm bq) := by
  obtain ⟨VL, VC, l, k, h1, h2, h3, h4, h5, h6⟩ := h
  refine (rtamper_ok h1 h2 (h4.len h1.nn.2) h3 (h5.len h1.nn.2) (i : Int) A m c xs hn hr hc (wrongF_0 hi hm)).mono fun e w' ⟨s, VL', VC', he, hb, hl, hk, hv, hc'⟩ => ?_
  refine ⟨he, ⟨VL', VC', _, _, hv, hl, hk, h4.put _ _ (by omega) (by omega), h5.del _, ?_⟩, hc'⟩
  have hf := (h6.map (fun V xs hx => hx.rst h1 hc')).tam (LVo_len n l) (U := slV s) ⟨hb.lower (Nat.zero_le _), by omega, fun k hk hx => by have h1 := Kd.R_base hb k hk; have h2 := hX k hx; omega⟩ i
  rw [← LVo_put] at hf
  unfold CVo at hf ⊢
  rwa [delA_map slV] at hf
theorem rb_tamper (h : RB w bm bq n f g left off wt rq) (i : Nat) (A : Option Addr) (m c : Nat) (xs : List Int) (hn : m = xs.length) (hr : Kd.C kb w A m xs) (hc : m ≤ c) (hi : i < n) (hm : m ≤ 1024) :
    Calls Try.prog 62 #[.pointer (some ⟨bm, 0, none⟩), .int .i64 (i : Int), .slice A m c] w fun e w' => e = .returned (.int .i64 0) ∧ RB w' bm bq n (upd f i xs) (upd g i none) left off wt rq ∧ Chg w w' (Rst bm bq) := rb_tamperX h i A m c xs hn hr hc hi hm (fun k h => h.elim)
theorem rb_sync_spent (h : RBX X w bm bq n f g left off wt rq) (hs : rdownF left off = true) : Calls Try.prog 54 #[.pointer (some ⟨bm, 0, none⟩)] w fun e w' => e = .returned (.int .i64 12) ∧ RBX X w' bm bq n f g left true wt rq ∧ Chg w w' (Rst bm bq) := by
  obtain ⟨VL, VC, l, k, h1, h2, h3, h4, h5, h6⟩ := h
  exact (rsync_spent h1 hs).mono fun e w' ⟨he, hr, hc⟩ => ⟨he, RBX.re h1 h2 h3 h4 h5 h6 hr hc, hc⟩
theorem rb_sync (h : RBX X w bm bq n f g left off wt rq) (hs : rdownF left off = false) : Calls Try.prog 54 #[.pointer (some ⟨bm, 0, none⟩)] w fun e w' => e = .returned (.int .i64 0) ∧ RBX X w' bm bq n (atB f g) (fun _ => none) (rspL left off) false wt rq ∧ Chg w w' (Rst bm bq) := by
  obtain ⟨VL, VC, l, k, h1, h2, h3, h4, h5, h6⟩ := h
  refine (rsync_ok h1 h2 (h4.len h1.nn.2) h3 (h5.len h1.nn.2) hs).mono fun e w' ⟨VL', he, hl, hv, hc'⟩ => ?_
  refine ⟨he, ⟨VL', _, _, [], hv, hl, RW.nil _ _, h4.mrg h5.2, Keys.nil n, ?_⟩, hc'⟩
  have hf := (h6.map (fun V xs hx => hx.rst h1 hc')).sync (LVo_len n l)
  rwa [LVo_sync n l k h5.1] at hf
theorem rb_crash (h : RBX X w bm bq n f g left off wt rq) (A : Option Addr) (m c : Nat) (fl : List Int) (hn : m = fl.length) (hr : Kd.F kI w (fun k => ¬ Rst bm bq k) A m fl) (hc : m ≤ c) : Calls Try.prog 60 #[.pointer (some ⟨bm, 0, none⟩), .slice A m c] w fun e w' => e = .returned (.tuple #[]) ∧ RBX X w' bm bq n (crashB f g fl) (fun _ => none) (-1) false wt rq ∧ Chg w w' (Rst bm bq) := by
  obtain ⟨VL, VC, l, k, h1, h2, h3, h4, h5, h6⟩ := h
  refine (rcrash_calls h1 h2 (h4.len h1.nn.2) h3 (h5.len h1.nn.2) A m c fl hn hr hc).mono fun e w' ⟨VL', he, hl, hv, hc'⟩ => ?_
  refine ⟨he, ⟨VL', _, _, [], hv, hl, RW.nil _ _, h4.crr h5.2 fl _, Keys.nil n, ?_⟩, hc'⟩
  have hk : Rise (CVo k) := by
    have := h5.1
    unfold Rise CVo at *
    rw [List.pairwise_map]
    exact this
  have hf := (h6.map (fun V xs hx => hx.rst h1 hc')).crash (LVo_len n l) hk (fun p hp => by
    obtain ⟨q, hq, rfl⟩ := List.mem_map.1 hp
    exact h5.2 q hq) fl
  unfold crashV at hf
  rwa [show (CVo k).length = k.length by simp [CVo], LVo_crash n l k h5.2 fl] at hf
end
section
variable {w w' : World} {bm bq n : Nat} {f : Nat → List Int} {g : Nat → Option (List Int)} {left : Int} {off : Bool} {wt : Int} {rq : List Int}
theorem RW.blt {w : World} {B : Nat} {V : Value} {l : List PP} (h : RW w B V l) : ∀ k, V.ownBlock = some k → k < w.heap.size := fun k hk => Kd.R_lt h k hk
theorem RBX.idle {Y : Nat → Prop} (h : RBX X w bm bq n f g left off wt rq) (hY : ∀ k, Y k → w.heap.size ≤ k) : RBX Y w bm bq n f g left off wt rq := by
  obtain ⟨VL, VC, l, k, h1, h2, h3, h4, h5, h6⟩ := h
  exact ⟨VL, VC, l, k, h1, h2, h3, h4, h5, h6.to (fun V xs hx => hx.off hY)⟩
theorem RBX.sub {Y : Nat → Prop} (h : RBX X w bm bq n f g left off wt rq) (hY : ∀ k, Y k → X k) : RBX Y w bm bq n f g left off wt rq := by
  obtain ⟨VL, VC, l, k, h1, h2, h3, h4, h5, h6⟩ := h
  exact ⟨VL, VC, l, k, h1, h2, h3, h4, h5, h6.to (fun V xs hx => hx.sub hY)⟩
theorem RBX.spoil {S : Nat → Prop} (h : RBX X w bm bq n f g left off wt rq) (hc : Chg w w' S) (hS : ∀ j, S j → X j) (hd : ∀ j, Rst bm bq j → ¬ S j) (hty : ∀ j, S j → ∀ cells, w.heap[j]? ≠ some (.cells cells 94 (0, 0))) : RBX X w' bm bq n f g left off wt rq := by
  obtain ⟨VL, VC, l, k, h1, h2, h3, h4, h5, h6⟩ := h
  have hr : ∀ {V : Value} {l : List PP}, RW w 0 V l → RW w' 0 V l := fun hx => hx.chg hc (fun j hj hs => by
    obtain ⟨cells, e⟩ := hx.typed j hj
    exact hty j hs cells e)
  exact ⟨VL, VC, l, k, h1.chg hc hd, hr h2, hr h3, h4, h5, h6.map (fun V xs hx => hx.spoil hc hS)⟩
end
theorem rb_new (w : World) (n : Nat) (h0 : 1 ≤ n) (h1 : n ≤ 4096) : Calls Try.prog 31 #[.int .i64 n] w fun e w' => ∃ bm bq, e = .returned (.tuple #[.pointer (some ⟨bm, 0, none⟩), .int .i64 0]) ∧
    RB w' bm bq n (fun _ => []) (fun _ => none) (-1) false 0 (List.replicate n 0) ∧ Ext w w' ∧ (∀ k, Rst bm bq k → w.heap.size ≤ k) := by
  refine (rnew_ok w n h0 h1).mono fun e w' ⟨bm, bq, he, hd, hE, hk⟩ => ⟨bm, bq, he, ⟨_, _, [], [], hd, RW.nil _ _, RW.nil _ _, Keys.nil n, Keys.nil n, fun i hi => ?_, fun i hi => trivial⟩, hE, hk⟩
  rw [LVo_at n [] i hi]
  exact Kx.nil w'
end Go.Proofs.Ytkgjcmolmogpdaa.By
