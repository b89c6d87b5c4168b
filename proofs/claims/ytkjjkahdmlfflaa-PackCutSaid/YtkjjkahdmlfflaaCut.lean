/- PackCut. -/
import Derived.Test.YtkjjkahdmlfflaaBack
namespace Go.Proofs.Ytkjjkahdmlfflaa.By
open Go.RowKit Go.Proofs.Ytkjjkahdmlfflaa.Reg Go.Proofs.YtkjjkahdmlfflaaW.PrintWords Go.Proofs.YtkjjkahdmlfflaaW.PrintLast Go.Proofs.YtkjjkahdmlfflaaW.PrintMore
set_option linter.unusedVariables false

abbrev ki : Kd Int := Kd.int .i64
theorem info3 : (Try.prog.info? 3).map (fun i => (i.zero, i.size, i.bytes)) = some (some (.int .i64 0), 1, 8) := by kernel_rfl
theorem ki_stays {w w' : World} {A : Option Addr} {n : Nat} {xs : List Int} (h : Kd.C ki w A n xs) (he : Ext w w') : Kd.C ki w' A n xs := Kd.C_below h he
/-- Where the first things end. -/
def endsL (L : List Th) (x : Nat) : List Int := (List.range x).map fun j => ((allB (L.take (j + 1))).length : Int)
theorem endsL_succ (L : List Th) (x : Nat) : endsL L (x + 1) = endsL L x ++ [((allB (L.take (x + 1))).length : Int)] := by
  simp [endsL, List.range_succ]
theorem endsL_length (L : List Th) (x : Nat) : (endsL L x).length = x := by simp [endsL]
theorem endsL_rd (L : List Th) (x : Nat) (y : Int) (h0 : 0 ≤ y) (h : y < x) : rd (endsL L x) y = ((allB (L.take (y.toNat + 1))).length : Int) := by
  unfold rd endsL
  rw [List.getD_eq_getElem?_getD, List.getElem?_eq_getElem (by simp; omega)]
  simp
theorem YldG_any {g : World → World → Prop} {P : Program} {w : World} {o : Oper} {a : Act} {v : Value} (h : YldG g P o a w (.val v)) : YldG g P o a w (.fact true (fun _ _ => True)) := by
  unfold YldG at h ⊢
  generalize (execOp a.eval o).run P w = r at h
  cases r with
  | ok n w' =>
    cases n with
    | value u => exact ⟨h.1, trivial⟩
    | skip => exact ⟨h.1, trivial⟩
    | enter f args => exact h.mono fun e w2 ⟨u, h1, h2, h3⟩ => ⟨u, h1, h2, trivial⟩
    | _ => exact h
  | halt x w' => exact h

set_option maxRecDepth 100000 in
set_option maxHeartbeats 8000000 in
theorem cut_small (w : World) (A : Option Addr) (c n : Nat) (cut : Int) (L : List Th) (hr : Kd.C kTh w A n L) (hmc : n ≤ n) (hc : n ≤ c) (h60 : n ≤ 40) (hm60 : n ≤ 40) (hok : ∀ t ∈ L, Th.ok t) (hcut0 : -9223372036854775808 ≤ cut) (hcut1 : cut ≤ 9223372036854775807) :
    Calls Try.prog 8 #[.slice A n c, .int .i64 cut] w fun e w' => e = .returned (.bool true) ∧ Ext w w' := by
  have HR := Aside0.mk hr
  have HOK := Aside0.mk hok
  have HL := Aside0.mk (show L.length = n from hr.1)
  have HCUT := Aside0.mk (And.intro hcut0 hcut1)
  clear hr hok hcut0 hcut1
  have hi53 : ∃ i, Try.prog.info? 53 = some i := ⟨_, rfl⟩
  obtain ⟨i3, hi3⟩ := hi53
  have hcut := cut_to (P := Try.prog) 51 53 .i64 Try.underlying51 hi3 A n c n (by omega) (by omega) hc
  rw [Int.toNat_natCast] at hcut
  have hz60 : ((40 : Int) < (n : Int)) = False := eq_false (by omega)
  have hz60' : ((n : Int) ≤ 40) = True := eq_true (by omega)
  clear h60 hi3
  go_enter Try.func8, Try.ntmps8
  go_wp2_with fail
  go_loopw [5, 6, 7] (fun v ev i wr => ∃ x : Int, i = .int .i64 x ∧ Aside0 (0 ≤ x ∧ x ≤ n) ∧ Aside0 (Kd.R ki 3 wr w.heap.size (fun _ => True) ev (endsL L x.toNat)) ∧ ∃ X k cx xs, v = .slice X k cx ∧ Aside0 (k = xs.length ∧ xs = allB (L.take x.toNat)) ∧ Aside0 (k ≤ cx ∧ Kd.C kb wr X k xs) ∧ Aside0 (Ext w wr)) (fun _ _ i _ => n - (intOf i).toNat)
  case atStart => exact ⟨0, rfl, ⟨by omega⟩, ⟨Kd.R_nil ki 3 w _ _⟩, none, 0, 0, [], rfl, ⟨rfl, rfl⟩, ⟨Nat.le_refl _, Kd.C_nil kb w⟩, ⟨Ext.refl w⟩⟩
  case round =>
    obtain ⟨x, rfl, HX, HEV, X, k, cx, xs, rfl, HXS, HCX, HE⟩ := hrel
    obtain ⟨g0, g1⟩ := HX.out
    by_cases hlt : x < n
    · have HLT := Aside0.mk hlt
      have hxl : x.toNat < L.length := by rw [HL.out]; omega
      obtain ⟨b, off, rfl, hrg⟩ := th_at (Kd.C_below HR.out HE.out) x.toNat (by omega) _ (List.getElem?_eq_getElem hxl)
      have htk := allB_take L x.toNat _ (List.getElem?_eq_getElem hxl)
      have hto := HOK.out _ (List.getElem_mem hxl)
      generalize L[x.toNat] = t at hrg htk hto
      have HRG := Aside0.mk hrg
      have HTK := Aside0.mk htk
      have HTO := Aside0.mk hto
      obtain ⟨p0, p1, p2, p3⟩ := th_parts hrg
      have hkl : k + 40 ≤ 140737488355328 := by
        have h1 := HXS.out
        have h2 := allB_len (L.take x.toNat) (fun t ht => HOK.out t (List.mem_of_mem_take ht))
        rw [List.length_take] at h2
        rw [h1.1, h1.2]
        omega
      clear hrg htk hto p1 p2 p3 hxl
      obtain ⟨wx, hwx⟩ : ∃ wx : World, wx = wr := ⟨_, rfl⟩
      subst hwx
      go_wp2_with fail
      refine (pick_calls wx t.1 3 _ HTO.out.1.1 HTO.out.1.2 (by decide) rfl).mono ?_
      rintro e w6 ⟨rfl, hE6⟩
      have hpr := pickT_range t.1 3 (by decide)
      have HRG6 := Aside0.mk (rangeAt_ext HRG.out hE6)
      have HC6 := Aside0.mk (Kd.C_below HCX.out.2 hE6)
      have HEV6 := Aside0.mk (Kd.R_below HEV.out hE6)
      have HE6 := Aside0.mk (HE.out.trans hE6)
      obtain ⟨p0', p1', p2', p3'⟩ := th_parts HRG6.out
      have hcx := HCX.out.1
      have HP2' := Aside0.mk p2'
      have HP3' := Aside0.mk p3'
      have HIS := Aside0.mk (show (Try.prog.info? 24).map (·.size) = some (nums .u8 t.2.2.2).length by rw [nums_length, HTO.out.2.2.2.1]; kernel_rfl)
      have HIR := Aside0.mk (show (Try.prog.info? 26).map (·.size) = some (refC t.2.2.1 t.2.2.2).length by unfold refC; rw [List.length_cons, nums_length, HTO.out.2.2.2.1]; kernel_rfl)
      generalize hpk : pickT t.1 3 = q at hpr
      have HT := Aside0.mk hpk
      clear hE6 HRG HCX HE p0 p2' p3' hpk HEV
      have hcase : q = 0 ∨ q = 1 ∨ q = 2 := by omega
      rcases hcase with rfl | rfl | rfl
      · go_wp2_with fail
        refine (int_at w6 X cx k xs t.2.1 HXS.out.1 HC6.out hcx (by omega)).mono ?_
        rintro e w7 ⟨V, rfl, hV, hE7⟩
        obtain ⟨X', c', rfl, hc', hC'⟩ := hV.reads
        have HFX := Aside0.mk hV.far
        generalize hys : xs ++ be8 t.2.1 = ys at hC' hc' ⊢
        generalize hkk : ys.length = kk at hC' hc' ⊢
        have HNX := Aside0.mk (show kk = ys.length ∧ ys = allB (L.take (x + 1).toNat) by
          refine ⟨hkk.symm, ?_⟩
          rw [show (x + 1).toNat = x.toNat + 1 by omega, HTK.out, ← hys, HXS.out.2]
          congr 1
          unfold thB
          rw [if_pos HT.out])
        have HNE := Aside0.mk (HE6.out.trans hE7)
        have HEV7 := Aside0.mk (Kd.R_below HEV6.out hE7)
        have HTP := Aside0.mk (fun k hk => own_lt (Kd.own_of_R HEV6.out) k hk)
        have HC7 := Aside0.mk hC'
        clear hV hE7 hC' hys hkk HEV6
        go_wp2_with (at_builtin; refine Kd.R_append ki (w0 := w) w.heap.size rfl (.tmp 54) (.tmp 57) 41 3 _ 8 rfl Try.underlying41 info3 rfl (by decide) (by decide) u6 (endsL L x.toNat) (kk : Int) [.int .i64 kk] (fun _ => True) (fun _ => False) rfl rfl ?c1 (fun _ h => h.elim) (fun _ _ => trivial) HEV7.out HNE.out ?c3 ?c4 ?_)
        case c1 => exact rfl
        case c3 => exact HNE.out.size
        case c4 => rw [endsL_length]; omega
        intro v8 w8 hR8 hB8 hg8 hat8
        have HEV8 := Aside0.mk (show Kd.R ki 3 w8 w.heap.size (fun _ => True) v8 (endsL L (x + 1).toNat) by
          rw [show (x + 1).toNat = x.toNat + 1 by omega, endsL_succ]
          have e := HNX.out
          rw [show (x + 1).toNat = x.toNat + 1 by omega] at e
          rw [← e.2, ← e.1]
          exact hR8)
        have HNC := Aside0.mk (show kk ≤ c' ∧ Kd.C kb w8 X' kk ys from ⟨hc', kb_stays HC7.out (fun a ha => hg8.block _ (HFX.out a ha).2 (fun h => by have := HTP.out _ h.symm; have := (HFX.out a ha).1; omega))⟩)
        have HNE8 := Aside0.mk (show Ext w w8 from hB8)
        clear hR8 hB8 hg8 hat8 HEV7 HC7 HNE hc'
        go_wp2
        go_roundw
        case rel => exact ⟨x + 1, rfl, ⟨by omega, by have := HLT.out; omega⟩, HEV8, X', kk, c', ys, rfl, HNX, HNC, HNE8⟩
        case measure => have := HLT.out; simp only [intOf]; omega
      · go_wp2_with (first | ((with_reducible refine gate_load (ty := 24) rfl ?_); refine load_at rfl 24 _ rfl b (off + x.toNat * 35 + 3) rfl (nums .u8 t.2.2.2) _ HP3'.out Try.underlying24 rfl HIS.out ?_) | fail)
        refine (sum_n w6 X cx k xs t.2.2.2 HXS.out.1 HC6.out hcx _ rfl HTO.out.2.2.2.1 (by omega)).mono ?_
        rintro e w7 ⟨V, rfl, hV, hE7⟩
        obtain ⟨X', c', rfl, hc', hC'⟩ := hV.reads
        have HFX := Aside0.mk hV.far
        generalize hys : xs ++ t.2.2.2 = ys at hC' hc' ⊢
        generalize hkk : ys.length = kk at hC' hc' ⊢
        have HNX := Aside0.mk (show kk = ys.length ∧ ys = allB (L.take (x + 1).toNat) by
          refine ⟨hkk.symm, ?_⟩
          rw [show (x + 1).toNat = x.toNat + 1 by omega, HTK.out, ← hys, HXS.out.2]
          congr 1
          unfold thB
          rw [if_neg (by rw [HT.out]; decide), if_pos HT.out])
        have HNE := Aside0.mk (HE6.out.trans hE7)
        have HEV7 := Aside0.mk (Kd.R_below HEV6.out hE7)
        have HTP := Aside0.mk (fun k hk => own_lt (Kd.own_of_R HEV6.out) k hk)
        have HC7 := Aside0.mk hC'
        clear hV hE7 hC' hys hkk HEV6
        go_wp2_with (at_builtin; refine Kd.R_append ki (w0 := w) w.heap.size rfl (.tmp 54) (.tmp 57) 41 3 _ 8 rfl Try.underlying41 info3 rfl (by decide) (by decide) u6 (endsL L x.toNat) (kk : Int) [.int .i64 kk] (fun _ => True) (fun _ => False) rfl rfl ?c1 (fun _ h => h.elim) (fun _ _ => trivial) HEV7.out HNE.out ?c3 ?c4 ?_)
        case c1 => exact rfl
        case c3 => exact HNE.out.size
        case c4 => rw [endsL_length]; omega
        intro v8 w8 hR8 hB8 hg8 hat8
        have HEV8 := Aside0.mk (show Kd.R ki 3 w8 w.heap.size (fun _ => True) v8 (endsL L (x + 1).toNat) by
          rw [show (x + 1).toNat = x.toNat + 1 by omega, endsL_succ]
          have e := HNX.out
          rw [show (x + 1).toNat = x.toNat + 1 by omega] at e
          rw [← e.2, ← e.1]
          exact hR8)
        have HNC := Aside0.mk (show kk ≤ c' ∧ Kd.C kb w8 X' kk ys from ⟨hc', kb_stays HC7.out (fun a ha => hg8.block _ (HFX.out a ha).2 (fun h => by have := HTP.out _ h.symm; have := (HFX.out a ha).1; omega))⟩)
        have HNE8 := Aside0.mk (show Ext w w8 from hB8)
        clear hR8 hB8 hg8 hat8 HEV7 HC7 HNE hc'
        go_wp2
        go_roundw
        case rel => exact ⟨x + 1, rfl, ⟨by omega, by have := HLT.out; omega⟩, HEV8, X', kk, c', ys, rfl, HNX, HNC, HNE8⟩
        case measure => have := HLT.out; simp only [intOf]; omega
      · go_wp2_with (first | ((with_reducible refine gate_load (ty := 26) rfl ?_); refine load_at rfl 26 _ rfl b (off + x.toNat * 35 + 2) rfl (refC t.2.2.1 t.2.2.2) _ HP2'.out Try.underlying26 rfl HIR.out ?_) | fail)
        refine (ref_at w6 X cx k xs t.2.2.2 t.2.2.1 _ HXS.out.1 rfl HTO.out.2.2.2.1 HC6.out hcx (by omega)).mono ?_
        rintro e w7 ⟨V, rfl, hV, hE7⟩
        obtain ⟨X', c', rfl, hc', hC'⟩ := hV.reads
        have HFX := Aside0.mk hV.far
        generalize hys : xs ++ refB t.2.2.1 t.2.2.2 = ys at hC' hc' ⊢
        generalize hkk : ys.length = kk at hC' hc' ⊢
        have HNX := Aside0.mk (show kk = ys.length ∧ ys = allB (L.take (x + 1).toNat) by
          refine ⟨hkk.symm, ?_⟩
          rw [show (x + 1).toNat = x.toNat + 1 by omega, HTK.out, ← hys, HXS.out.2]
          congr 1
          unfold thB
          rw [if_neg (by rw [HT.out]; decide), if_neg (by rw [HT.out]; decide)])
        have HNE := Aside0.mk (HE6.out.trans hE7)
        have HEV7 := Aside0.mk (Kd.R_below HEV6.out hE7)
        have HTP := Aside0.mk (fun k hk => own_lt (Kd.own_of_R HEV6.out) k hk)
        have HC7 := Aside0.mk hC'
        clear hV hE7 hC' hys hkk HEV6
        go_wp2_with (at_builtin; refine Kd.R_append ki (w0 := w) w.heap.size rfl (.tmp 54) (.tmp 57) 41 3 _ 8 rfl Try.underlying41 info3 rfl (by decide) (by decide) u6 (endsL L x.toNat) (kk : Int) [.int .i64 kk] (fun _ => True) (fun _ => False) rfl rfl ?c1 (fun _ h => h.elim) (fun _ _ => trivial) HEV7.out HNE.out ?c3 ?c4 ?_)
        case c1 => exact rfl
        case c3 => exact HNE.out.size
        case c4 => rw [endsL_length]; omega
        intro v8 w8 hR8 hB8 hg8 hat8
        have HEV8 := Aside0.mk (show Kd.R ki 3 w8 w.heap.size (fun _ => True) v8 (endsL L (x + 1).toNat) by
          rw [show (x + 1).toNat = x.toNat + 1 by omega, endsL_succ]
          have e := HNX.out
          rw [show (x + 1).toNat = x.toNat + 1 by omega] at e
          rw [← e.2, ← e.1]
          exact hR8)
        have HNC := Aside0.mk (show kk ≤ c' ∧ Kd.C kb w8 X' kk ys from ⟨hc', kb_stays HC7.out (fun a ha => hg8.block _ (HFX.out a ha).2 (fun h => by have := HTP.out _ h.symm; have := (HFX.out a ha).1; omega))⟩)
        have HNE8 := Aside0.mk (show Ext w w8 from hB8)
        clear hR8 hB8 hg8 hat8 HEV7 HC7 HNE hc'
        go_wp2
        go_roundw
        case rel => exact ⟨x + 1, rfl, ⟨by omega, by have := HLT.out; omega⟩, HEV8, X', kk, c', ys, rfl, HNX, HNC, HNE8⟩
        case measure => have := HLT.out; simp only [intOf]; omega
    · have hx : x = n := by omega
      have HL2 := Aside0.mk (show k = xs.length ∧ xs = allB L by
        refine ⟨HXS.out.1, ?_⟩
        rw [HXS.out.2, List.take_of_length_le (by rw [HL.out]; omega)])
      have hkl : k ≤ 1600 := by
        have h2 := allB_len L HOK.out
        rw [HL2.out.1, HL2.out.2]
        have := HL.out
        omega
      have HEV' := Aside0.mk (show Kd.R ki 3 wr w.heap.size (fun _ => True) u6 (endsL L n) by
        have := HEV.out
        rwa [show x.toNat = n by omega] at this)
      have hw1 : wrap64 ((k : Int) + 1) = k + 1 := wrap64_in (by omega) (by omega)
      have HC := Aside0.mk HCX.out
      clear HXS HCX HEV
      go_wp2_with fail
      refine (pick_calls wr cut ((k : Int) + 1) _ HCUT.out.1 HCUT.out.2 (by omega) rfl).mono ?_
      rintro e w6 ⟨rfl, hE6⟩
      have hpr := pickT_range cut ((k : Int) + 1) (by omega)
      generalize pickT cut ((k : Int) + 1) = r at hpr ⊢
      obtain ⟨i5, hi5, _, _, _⟩ := info_parts PPackPuts.info5
      have hcut2 := cut_to (P := Try.prog) 22 5 .i64 Try.underlying22 hi5 X k cx r hpr.1 (by omega) HC.out.1
      have HCT := Aside0.mk (show Kd.C kb w6 X r.toNat ((allB L).take r.toNat) by
        have h1 := Kd.C_below HC.out.2 hE6
        rw [HL2.out.1] at h1
        have h2 := Kd.C_take (m := r.toNat) h1 (by rw [← HL2.out.1]; omega)
        rw [show (xs.take r.toNat).length = r.toNat by rw [List.length_take, ← HL2.out.1]; omega] at h2
        rw [← HL2.out.2]
        exact h2)
      have HRL := Aside0.mk (show r.toNat = ((allB L).take r.toNat).length by rw [List.length_take, ← HL2.out.2, ← HL2.out.1]; omega)
      have HRK := Aside0.mk (show 0 ≤ r ∧ r ≤ (allB L).length by rw [← HL2.out.2, ← HL2.out.1]; omega)
      have hrc : r.toNat ≤ cx := by have := HC.out.1; omega
      have hrm : r.toNat ≤ 1600 := by omega
      have HE6 := Aside0.mk (HE.out.trans hE6)
      have HEV6 := Aside0.mk (Kd.R_below HEV'.out hE6)
      clear hE6 HC HE HEV' hw1 hi5
      go_wp2_with fail
      refine (read_calls w6 X cx r.toNat _ HRL.out HCT.out hrc (by omega)).mono ?_
      rintro e w7 ⟨b1, rfl, hRd, hE7⟩
      have HRd := Aside0.mk hRd
      have HE7 := Aside0.mk hE7
      obtain ⟨AE, cE, rfl, hlE, hCE⟩ := Kd.R_reads HEV6.out
      rw [endsL_length] at hlE hCE ⊢
      have HCE := Aside0.mk hCE
      have HLO := Aside0.mk (show w.heap.size ≤ w6.heap.size from HE6.out.size)
      obtain ⟨lo, hlo⟩ : ∃ lo, lo = w6.heap.size := ⟨_, rfl⟩
      obtain ⟨hi, hhi⟩ : ∃ hi, hi = w7.heap.size := ⟨_, rfl⟩
      rw [← hlo, ← hhi] at HRd
      have HLO6 := Aside0.mk (show w6.heap.size ≤ lo by omega)
      clear hRd hE7 HEV6 HCT HRL hcut2 hCE hlo hhi hrc hrm
      go_wp2_with fail
      go_loopw [9] (fun i wr => ∃ x : Int, i = .int .i64 x ∧ Aside0 (0 ≤ x ∧ x ≤ n) ∧ Aside0 (((allB (L.take x.toNat)).length : Int) ≤ r) ∧ Aside0 (Rd wr lo hi b1 ((allB (L.drop x.toNat)).take (r.toNat - (allB (L.take x.toNat)).length)) false) ∧ Aside0 (Ext w6 wr)) (fun i _ => n - (intOf i).toNat)
      case atStart => exact ⟨0, rfl, ⟨by omega⟩, ⟨by simpa [allB] using HRK.out.1⟩, by simpa [allB] using HRd, HE7⟩
      case round =>
        clear HRd HE7
        obtain ⟨y, rfl, HY, HPR, HRd, HEr⟩ := hrel
        obtain ⟨f0, f1⟩ := HY.out
        by_cases hly : y < n
        · have HLY := Aside0.mk hly
          have hyl : y.toNat < L.length := by rw [HL.out]; omega
          obtain ⟨b, off, rfl, hrg⟩ := th_at (Kd.C_below HR.out HE6.out) y.toNat (by omega) _ (List.getElem?_eq_getElem hyl)
          obtain ⟨adE, rfl, hcell⟩ := at_k HCE.out y f0 hly
          rw [endsL_rd L n y f0 hly] at hcell
          have hdr := allB_drop L y.toNat _ (List.getElem?_eq_getElem hyl)
          have htk := allB_take L y.toNat _ (List.getElem?_eq_getElem hyl)
          have hto := HOK.out _ (List.getElem_mem hyl)
          have hrb := allB_isB (L.drop (y.toNat + 1)) (fun t ht => HOK.out t (List.mem_of_mem_drop ht))
          generalize L[y.toNat] = t at hrg hdr htk hto
          have HRG := Aside0.mk hrg
          have HTO := Aside0.mk hto
          rw [hdr] at HRd
          have hE1 : ((allB (L.take (y.toNat + 1))).length : Int) = ((allB (L.take y.toNat)).length : Int) + ((thB t).length : Int) := by rw [htk, List.length_append]; omega
          obtain ⟨E, hEE⟩ : ∃ E : Int, E = ((allB (L.take (y.toNat + 1))).length : Int) := ⟨_, rfl⟩
          rw [← hEE] at hcell hE1
          have HCELL := Aside0.mk hcell
          have HE1 := Aside0.mk hE1
          have HEE := Aside0.mk hEE
          have HRB := Aside0.mk hrb
          have hyM : y < n := hly
          clear hrg hdr htk hto hyl hcell hE1 hEE hrb
          obtain ⟨wx, hwx⟩ : ∃ wx : World, wx = wr := ⟨_, rfl⟩
          subst hwx
          have p0 := (th_parts (rangeAt_ext HRG.out HEr.out)).1
          go_wp2_with fail
          refine (pick_calls wx t.1 3 _ HTO.out.1.1 HTO.out.1.2 (by decide) rfl).mono ?_
          rintro e w6' ⟨rfl, hE6'⟩
          have hpr' := pickT_range t.1 3 (by decide)
          have HS6 := Aside0.mk (HRd.out.ext hE6')
          have HS6E := Aside0.mk (HEr.out.trans hE6')
          have HIS := Aside0.mk (show (Try.prog.info? 24).map (·.size) = some (nums .u8 t.2.2.2).length by rw [nums_length, HTO.out.2.2.2.1]; kernel_rfl)
          have HIR := Aside0.mk (show (Try.prog.info? 26).map (·.size) = some (refC t.2.2.1 t.2.2.2).length by unfold refC; rw [List.length_cons, nums_length, HTO.out.2.2.2.1]; kernel_rfl)
          have HQS := Aside0.mk (fun W => by have := equal_sum t.2.2.2 t.2.2.2 HTO.out.2.2.2.1 HTO.out.2.2.2.1 HTO.out.2.2.2.2 HTO.out.2.2.2.2 W; rwa [show decide (t.2.2.2 = t.2.2.2) = true by simp] at this : ∀ W : World, (Op.equal 24 (sumV t.2.2.2) (sumV t.2.2.2)).run Try.prog W = .ok true W)
          have HQR := Aside0.mk (fun W => by have := equal_ref t.2.2.1 t.2.2.1 t.2.2.2 t.2.2.2 (wf_i64 HTO.out.2.2.1) (wf_i64 HTO.out.2.2.1) HTO.out.2.2.2.1 HTO.out.2.2.2.1 HTO.out.2.2.2.2 HTO.out.2.2.2.2 W; rwa [show decide (t.2.2.1 = t.2.2.1 ∧ t.2.2.2 = t.2.2.2) = true by simp] at this : ∀ W : World, (Op.equal 26 (refV t.2.2.1 t.2.2.2) (refV t.2.2.1 t.2.2.2)).run Try.prog W = .ok true W)
          generalize hpk : pickT t.1 3 = q at hpr'
          have HT := Aside0.mk hpk
          clear hE6' HRd HEr p0 hpk
          by_cases hfit : E ≤ r
          · have hgt : (r < E) = False := eq_false (by omega)
            have hgt' : (E > r) = False := eq_false (by omega)
            have HRest : Aside0 ((allB (L.drop (y.toNat + 1))).take (r.toNat - (allB (L.take (y.toNat + 1))).length) = (allB (L.drop (y + 1).toNat)).take (r.toNat - (allB (L.take (y + 1).toNat)).length)) := ⟨by rw [show (y + 1).toNat = y.toNat + 1 by omega]⟩
            have HNP : Aside0 (((allB (L.take (y + 1).toNat)).length : Int) ≤ r) := ⟨by rw [show (y + 1).toNat = y.toNat + 1 by omega, ← HEE.out]; exact hfit⟩
            have hsplit : (thB t ++ allB (L.drop (y.toNat + 1))).take (r.toNat - (allB (L.take y.toNat)).length) = thB t ++ (allB (L.drop (y.toNat + 1))).take (r.toNat - (allB (L.take (y.toNat + 1))).length) := by
              have h1 := HE1.out
              have h2 := HEE.out
              rw [List.take_append, List.take_of_length_le (by omega)]
              congr 2
              omega
            rw [hsplit] at HS6
            have HXB := Aside0.mk ((thB_isB HTO.out).app (HRB.out.take (r.toNat - (allB (L.take (y.toNat + 1))).length)))
            generalize (allB (L.drop (y.toNat + 1))).take (r.toNat - (allB (L.take (y.toNat + 1))).length) = rest at HS6 HXB HRest
            clear hsplit
            have hcase : q = 0 ∨ q = 1 ∨ q = 2 := by omega
            rcases hcase with rfl | rfl | rfl
            · have hth : thB t = be8 t.2.1 := by unfold thB; rw [if_pos HT.out]
              have HV1 := Aside0.mk (show numI ((thB t ++ rest).take 8) = t.2.1 by rw [hth, List.take_left' (be8_length _)]; exact numI_be8 _ HTO.out.2.1.1 HTO.out.2.1.2)
              have HV2 := Aside0.mk (show (thB t ++ rest).drop 8 = rest by rw [hth, List.drop_left' (be8_length _)])
              have HLN := Aside0.mk (show 8 ≤ (thB t ++ rest).length by rw [List.length_append, hth, be8_length _]; omega)
              clear hth
              go_wp2_with fail
              apply wp_region_G 9 1 (fun w w' => Tch w w' lo hi) (fun _ _ h => Tch.of_ext h lo hi) (fun _ _ _ h k => h.trans k) [GF.val (.pointer (some ⟨b1, 0, none⟩)), GF.fact true (fun u W => u = .int .i64 t.2.1 ∧ Rd W lo hi b1 rest false), GF.val (.slice (some ⟨b, off, none⟩) n c), GF.val (.int .i64 y), GF.val (.pointer (some ⟨b, off + y.toNat * 35, none⟩)), GF.val (.pointer (some ⟨b, off + y.toNat * 35 + 1, none⟩)), GF.val (.int .i64 t.2.1), GF.val (.bool true), GF.val (.bool true)] (by kernel_rfl) (by kernel_rfl)
              simp only [List.take_succ_cons, List.take_zero, List.zip_cons_cons, List.zip_nil_left]
              iterate 1 (refine wpG_val (by rfl) (by decide) (fun w' hT hD => ?_) ?_; (unfold YldG; go_simp; exact ⟨Ext.refl _, rfl⟩); (try simp only [Act.put, List.setIfInBounds_toArray, List.set_cons_zero, List.set_cons_succ]))
              refine wpG_here (by rfl) rfl (fun u W W' h he => ⟨h.1, h.2.ext he⟩) (fun w' hE hD => ?_) (fun u => ?_)
              · unfold YldG
                go_simp
                exact (rdint_ok w' lo hi b1 _ (HS6.out.ext hE) HXB.out HLN.out).mono fun e w2 ⟨h1, h2, h3⟩ => ⟨_, h1, h3, by rw [HV1.out], by rw [HV2.out] at h2; exact h2⟩
              (try simp only [Act.put, List.setIfInBounds_toArray, List.set_cons_zero, List.set_cons_succ])
              iterate 4 (refine wpG_val (by rfl) (by decide) (fun w' hT hD => ?_) ?_; (unfold YldG; go_simp; exact ⟨Ext.refl _, rfl⟩); (try simp only [Act.put, List.setIfInBounds_toArray, List.set_cons_zero, List.set_cons_succ]))
              refine wpG_val (by rfl) (by decide) (fun w' hT hD => ?_) ?_; (have e0 := (th_parts (rangeAt_ext HRG.out (hT.ext HS6E.out HLO6.out))).2.1; unfold YldG; go_simp; exact ⟨Ext.refl _, rfl⟩); (try simp only [Act.put, List.setIfInBounds_toArray, List.set_cons_zero, List.set_cons_succ])
              refine wpG_val (by rfl) (by decide) (fun w' hT hD => ?_) ?_; (have hu := (hD.1 rfl (by kernel_rfl)).1; subst hu; unfold YldG; go_simp; exact ⟨Ext.refl _, rfl⟩); (try simp only [Act.put, List.setIfInBounds_toArray, List.set_cons_zero, List.set_cons_succ])
              iterate 1 (refine wpG_val (by rfl) (by decide) (fun w' hT hD => ?_) ?_; (unfold YldG; go_simp; exact ⟨Ext.refl _, rfl⟩); (try simp only [Act.put, List.setIfInBounds_toArray, List.set_cons_zero, List.set_cons_succ]))
              refine wpG_nil fun w9 hT hA => ?_
              obtain ⟨hu, hRd9⟩ := hA.1 rfl
              subst hu
              have HR9 := Aside0.mk hRd9
              have HE9 := Aside0.mk (hT.ext HS6E.out HLO6.out)
              clear hA hT hRd9 HS6 HS6E
              simp only [List.drop_succ_cons, List.drop_zero]
              refine wpList_nil ?_
              go_wp2_with fail
              apply wp_region_facts 18 [RF.val (.pointer (some ⟨b1, 0, none⟩)), RF.val (.bool false), RF.val (.slice (some adE) n cE), RF.val (.int .i64 y), RF.val (.pointer (some (adE.add y.toNat))), RF.val (.int .i64 E), RF.val (.int .i64 r), RF.val (.bool false), RF.val (.bool false), RF.val (.bool false), RF.val (.pointer (some ⟨b1, 0, none⟩)), RF.val (.bool false), RF.val (.bool true), RF.val (.bool true), RF.val (.bool true), RF.val (.bool false), RF.val (.bool false), RF.val (.bool false)] (by kernel_rfl) (by kernel_rfl)
              simp only [List.take_succ_cons, List.take_zero, List.zip_cons_cons, List.zip_nil_left]
              iterate 1 ((first | apply wpF_val rfl | apply wpF_valg (by rfl)); (intro w' hE hD; unfold Yld; go_simp; exact ⟨Ext.refl _, rfl⟩); (try simp only [Act.put, List.setIfInBounds_toArray, List.set_cons_zero, List.set_cons_succ]))
              (first | apply wpF_val rfl | apply wpF_valg (by rfl)); (intro w' hE hD; unfold Yld; go_simp; exact (bad_calls w' lo hi b1 _ false (HR9.out.ext hE)).mono fun e w2 h => ⟨_, h.1, h.2, rfl⟩); (try simp only [Act.put, List.setIfInBounds_toArray, List.set_cons_zero, List.set_cons_succ])
              iterate 3 ((first | apply wpF_val rfl | apply wpF_valg (by rfl)); (intro w' hE hD; unfold Yld; go_simp; exact ⟨Ext.refl _, rfl⟩); (try simp only [Act.put, List.setIfInBounds_toArray, List.set_cons_zero, List.set_cons_succ]))
              (first | apply wpF_val rfl | apply wpF_valg (by rfl)); (intro w' hE hD; have e0 := Ext.cell (HE9.out.trans hE) HCELL.out; unfold Yld; go_simp; exact ⟨Ext.refl _, rfl⟩); (try simp only [Act.put, List.setIfInBounds_toArray, List.set_cons_zero, List.set_cons_succ])
              iterate 5 ((first | apply wpF_val rfl | apply wpF_valg (by rfl)); (intro w' hE hD; unfold Yld; go_simp; exact ⟨Ext.refl _, rfl⟩); (try simp only [Act.put, List.setIfInBounds_toArray, List.set_cons_zero, List.set_cons_succ]))
              (first | apply wpF_val rfl | apply wpF_valg (by rfl)); (intro w' hE hD; unfold Yld; go_simp; exact (bad_calls w' lo hi b1 _ false (HR9.out.ext hE)).mono fun e w2 h => ⟨_, h.1, h.2, rfl⟩); (try simp only [Act.put, List.setIfInBounds_toArray, List.set_cons_zero, List.set_cons_succ])
              iterate 6 ((first | apply wpF_val rfl | apply wpF_valg (by rfl)); (intro w' hE hD; unfold Yld; go_simp; exact ⟨Ext.refl _, rfl⟩); (try simp only [Act.put, List.setIfInBounds_toArray, List.set_cons_zero, List.set_cons_succ]))
              refine wpF_nil fun wb hE hA => ?_
              have HRb := Aside0.mk (HR9.out.ext hE)
              have HEb := Aside0.mk (HE9.out.trans hE)
              clear hA hE HR9 HE9
              simp only [List.drop_succ_cons, List.drop_zero]
              refine wpList_nil ?_
              go_wp2_with fail
              refine (bad_calls wb lo hi b1 _ false HRb.out).mono ?_
              rintro e wa ⟨rfl, hE⟩
              have HRa := Aside0.mk (HRb.out.ext hE)
              have HEa := Aside0.mk (HEb.out.trans hE)
              clear hE HRb HEb
              go_wp2
              go_roundw
              case rel => exact ⟨y + 1, rfl, ⟨by omega, by have := HLY.out; omega⟩, HNP, by rw [← HRest.out]; exact HRa, HEa⟩
              case measure => have := HLY.out; simp only [intOf]; omega
            · have hth : thB t = t.2.2.2 := by unfold thB; rw [if_neg (by rw [HT.out]; decide), if_pos HT.out]
              have HV1 := Aside0.mk (show (thB t ++ rest).take 32 = t.2.2.2 by rw [hth, List.take_left' HTO.out.2.2.2.1])
              have HV2 := Aside0.mk (show (thB t ++ rest).drop 32 = rest by rw [hth, List.drop_left' (HTO.out.2.2.2.1)])
              have HLN := Aside0.mk (show 32 ≤ (thB t ++ rest).length by rw [List.length_append, hth, show (t.2.2.2).length = 32 from HTO.out.2.2.2.1]; omega)
              clear hth
              go_wp2_with fail
              apply wp_region_G 10 1 (fun w w' => Tch w w' lo hi) (fun _ _ h => Tch.of_ext h lo hi) (fun _ _ _ h k => h.trans k) [GF.val (.pointer (some ⟨b1, 0, none⟩)), GF.fact true (fun u W => u = sumV t.2.2.2 ∧ Rd W lo hi b1 rest false), GF.val (.slice (some ⟨b, off, none⟩) n c), GF.val (.int .i64 y), GF.val (.pointer (some ⟨b, off + y.toNat * 35, none⟩)), GF.val (.pointer (some ⟨b, off + y.toNat * 35 + 2, none⟩)), GF.val (.pointer (some ⟨b, off + y.toNat * 35 + 3, none⟩)), GF.val (sumV t.2.2.2), GF.val (.bool true), GF.val (.bool true)] (by kernel_rfl) (by kernel_rfl)
              simp only [List.take_succ_cons, List.take_zero, List.zip_cons_cons, List.zip_nil_left]
              iterate 1 (refine wpG_val (by rfl) (by decide) (fun w' hT hD => ?_) ?_; (unfold YldG; go_simp; exact ⟨Ext.refl _, rfl⟩); (try simp only [Act.put, List.setIfInBounds_toArray, List.set_cons_zero, List.set_cons_succ]))
              refine wpG_here (by rfl) rfl (fun u W W' h he => ⟨h.1, h.2.ext he⟩) (fun w' hE hD => ?_) (fun u => ?_)
              · unfold YldG
                go_simp
                exact (rdsum_ok w' lo hi b1 _ (HS6.out.ext hE) HXB.out HLN.out).mono fun e w2 ⟨h1, h2, h3⟩ => ⟨_, h1, h3, by rw [HV1.out], by rw [HV2.out] at h2; exact h2⟩
              (try simp only [Act.put, List.setIfInBounds_toArray, List.set_cons_zero, List.set_cons_succ])
              iterate 5 (refine wpG_val (by rfl) (by decide) (fun w' hT hD => ?_) ?_; (unfold YldG; go_simp; exact ⟨Ext.refl _, rfl⟩); (try simp only [Act.put, List.setIfInBounds_toArray, List.set_cons_zero, List.set_cons_succ]))
              refine wpG_val (by rfl) (by decide) (fun w' hT hD => ?_) ?_; (exact YldG_load 24 _ rfl b (off + y.toNat * 35 + 3) rfl (nums .u8 t.2.2.2) _ (th_parts (rangeAt_ext HRG.out (hT.ext HS6E.out HLO6.out))).2.2.2 Try.underlying24 rfl HIS.out); (try simp only [Act.put, List.setIfInBounds_toArray, List.set_cons_zero, List.set_cons_succ])
              refine wpG_val (by rfl) (by decide) (fun w' hT hD => ?_) ?_; (have hu := (hD.1 rfl (by kernel_rfl)).1; subst hu; exact YldG_eql 24 24 (.tmp 101) (.tmp 107) rfl _ _ rfl rfl (by kernel_rfl) true (HQS.out w')); (try simp only [Act.put, List.setIfInBounds_toArray, List.set_cons_zero, List.set_cons_succ])
              iterate 1 (refine wpG_val (by rfl) (by decide) (fun w' hT hD => ?_) ?_; (unfold YldG; go_simp; exact ⟨Ext.refl _, rfl⟩); (try simp only [Act.put, List.setIfInBounds_toArray, List.set_cons_zero, List.set_cons_succ]))
              refine wpG_nil fun w9 hT hA => ?_
              obtain ⟨hu, hRd9⟩ := hA.1 rfl
              subst hu
              have HR9 := Aside0.mk hRd9
              have HE9 := Aside0.mk (hT.ext HS6E.out HLO6.out)
              clear hA hT hRd9 HS6 HS6E
              simp only [List.drop_succ_cons, List.drop_zero]
              refine wpList_nil ?_
              go_wp2_with fail
              apply wp_region_facts 18 [RF.val (.pointer (some ⟨b1, 0, none⟩)), RF.val (.bool false), RF.val (.slice (some adE) n cE), RF.val (.int .i64 y), RF.val (.pointer (some (adE.add y.toNat))), RF.val (.int .i64 E), RF.val (.int .i64 r), RF.val (.bool false), RF.val (.bool false), RF.val (.bool false), RF.val (.pointer (some ⟨b1, 0, none⟩)), RF.val (.bool false), RF.val (.bool true), RF.val (.bool true), RF.val (.bool true), RF.val (.bool false), RF.val (.bool false), RF.val (.bool false)] (by kernel_rfl) (by kernel_rfl)
              simp only [List.take_succ_cons, List.take_zero, List.zip_cons_cons, List.zip_nil_left]
              iterate 1 ((first | apply wpF_val rfl | apply wpF_valg (by rfl)); (intro w' hE hD; unfold Yld; go_simp; exact ⟨Ext.refl _, rfl⟩); (try simp only [Act.put, List.setIfInBounds_toArray, List.set_cons_zero, List.set_cons_succ]))
              (first | apply wpF_val rfl | apply wpF_valg (by rfl)); (intro w' hE hD; unfold Yld; go_simp; exact (bad_calls w' lo hi b1 _ false (HR9.out.ext hE)).mono fun e w2 h => ⟨_, h.1, h.2, rfl⟩); (try simp only [Act.put, List.setIfInBounds_toArray, List.set_cons_zero, List.set_cons_succ])
              iterate 3 ((first | apply wpF_val rfl | apply wpF_valg (by rfl)); (intro w' hE hD; unfold Yld; go_simp; exact ⟨Ext.refl _, rfl⟩); (try simp only [Act.put, List.setIfInBounds_toArray, List.set_cons_zero, List.set_cons_succ]))
              (first | apply wpF_val rfl | apply wpF_valg (by rfl)); (intro w' hE hD; have e0 := Ext.cell (HE9.out.trans hE) HCELL.out; unfold Yld; go_simp; exact ⟨Ext.refl _, rfl⟩); (try simp only [Act.put, List.setIfInBounds_toArray, List.set_cons_zero, List.set_cons_succ])
              iterate 5 ((first | apply wpF_val rfl | apply wpF_valg (by rfl)); (intro w' hE hD; unfold Yld; go_simp; exact ⟨Ext.refl _, rfl⟩); (try simp only [Act.put, List.setIfInBounds_toArray, List.set_cons_zero, List.set_cons_succ]))
              (first | apply wpF_val rfl | apply wpF_valg (by rfl)); (intro w' hE hD; unfold Yld; go_simp; exact (bad_calls w' lo hi b1 _ false (HR9.out.ext hE)).mono fun e w2 h => ⟨_, h.1, h.2, rfl⟩); (try simp only [Act.put, List.setIfInBounds_toArray, List.set_cons_zero, List.set_cons_succ])
              iterate 6 ((first | apply wpF_val rfl | apply wpF_valg (by rfl)); (intro w' hE hD; unfold Yld; go_simp; exact ⟨Ext.refl _, rfl⟩); (try simp only [Act.put, List.setIfInBounds_toArray, List.set_cons_zero, List.set_cons_succ]))
              refine wpF_nil fun wb hE hA => ?_
              have HRb := Aside0.mk (HR9.out.ext hE)
              have HEb := Aside0.mk (HE9.out.trans hE)
              clear hA hE HR9 HE9
              simp only [List.drop_succ_cons, List.drop_zero]
              refine wpList_nil ?_
              go_wp2_with fail
              refine (bad_calls wb lo hi b1 _ false HRb.out).mono ?_
              rintro e wa ⟨rfl, hE⟩
              have HRa := Aside0.mk (HRb.out.ext hE)
              have HEa := Aside0.mk (HEb.out.trans hE)
              clear hE HRb HEb
              go_wp2
              go_roundw
              case rel => exact ⟨y + 1, rfl, ⟨by omega, by have := HLY.out; omega⟩, HNP, by rw [← HRest.out]; exact HRa, HEa⟩
              case measure => have := HLY.out; simp only [intOf]; omega
            · have hth : thB t = refB t.2.2.1 t.2.2.2 := by unfold thB; rw [if_neg (by rw [HT.out]; decide), if_neg (by rw [HT.out]; decide)]
              have HV1 := Aside0.mk (show numI ((thB t ++ rest).take 8) = t.2.2.1 ∧ ((thB t ++ rest).take 40).drop 8 = t.2.2.2 by rw [hth]; unfold refB; constructor; (rw [List.append_assoc, List.take_left' (be8_length _)]; exact numI_be8 _ HTO.out.2.2.1.1 HTO.out.2.2.1.2); (rw [List.take_left' (by rw [List.length_append, be8_length, HTO.out.2.2.2.1]), List.drop_left' (be8_length _)]))
              have HV2 := Aside0.mk (show (thB t ++ rest).drop 40 = rest by rw [hth, List.drop_left' (by unfold refB; rw [List.length_append, be8_length, HTO.out.2.2.2.1])])
              have HLN := Aside0.mk (show 40 ≤ (thB t ++ rest).length by rw [List.length_append, hth, show (refB t.2.2.1 t.2.2.2).length = 40 from by unfold refB; rw [List.length_append, be8_length, HTO.out.2.2.2.1]]; omega)
              clear hth
              go_wp2_with fail
              apply wp_region_G 9 1 (fun w w' => Tch w w' lo hi) (fun _ _ h => Tch.of_ext h lo hi) (fun _ _ _ h k => h.trans k) [GF.val (.pointer (some ⟨b1, 0, none⟩)), GF.fact true (fun u W => u = refV t.2.2.1 t.2.2.2 ∧ Rd W lo hi b1 rest false), GF.val (.slice (some ⟨b, off, none⟩) n c), GF.val (.int .i64 y), GF.val (.pointer (some ⟨b, off + y.toNat * 35, none⟩)), GF.val (.pointer (some ⟨b, off + y.toNat * 35 + 2, none⟩)), GF.val (refV t.2.2.1 t.2.2.2), GF.val (.bool true), GF.val (.bool true)] (by kernel_rfl) (by kernel_rfl)
              simp only [List.take_succ_cons, List.take_zero, List.zip_cons_cons, List.zip_nil_left]
              iterate 1 (refine wpG_val (by rfl) (by decide) (fun w' hT hD => ?_) ?_; (unfold YldG; go_simp; exact ⟨Ext.refl _, rfl⟩); (try simp only [Act.put, List.setIfInBounds_toArray, List.set_cons_zero, List.set_cons_succ]))
              refine wpG_here (by rfl) rfl (fun u W W' h he => ⟨h.1, h.2.ext he⟩) (fun w' hE hD => ?_) (fun u => ?_)
              · unfold YldG
                go_simp
                exact (rdref_ok w' lo hi b1 _ (HS6.out.ext hE) HXB.out HLN.out).mono fun e w2 ⟨h1, h2, h3⟩ => ⟨_, h1, h3, by rw [HV1.out.1, HV1.out.2], by rw [HV2.out] at h2; exact h2⟩
              (try simp only [Act.put, List.setIfInBounds_toArray, List.set_cons_zero, List.set_cons_succ])
              iterate 4 (refine wpG_val (by rfl) (by decide) (fun w' hT hD => ?_) ?_; (unfold YldG; go_simp; exact ⟨Ext.refl _, rfl⟩); (try simp only [Act.put, List.setIfInBounds_toArray, List.set_cons_zero, List.set_cons_succ]))
              refine wpG_val (by rfl) (by decide) (fun w' hT hD => ?_) ?_; (exact YldG_load 26 _ rfl b (off + y.toNat * 35 + 2) rfl (refC t.2.2.1 t.2.2.2) _ (th_parts (rangeAt_ext HRG.out (hT.ext HS6E.out HLO6.out))).2.2.1 Try.underlying26 rfl HIR.out); (try simp only [Act.put, List.setIfInBounds_toArray, List.set_cons_zero, List.set_cons_succ])
              refine wpG_val (by rfl) (by decide) (fun w' hT hD => ?_) ?_; (have hu := (hD.1 rfl (by kernel_rfl)).1; subst hu; exact YldG_eql 26 26 (.tmp 81) (.tmp 86) rfl _ _ rfl rfl (by kernel_rfl) true (HQR.out w')); (try simp only [Act.put, List.setIfInBounds_toArray, List.set_cons_zero, List.set_cons_succ])
              iterate 1 (refine wpG_val (by rfl) (by decide) (fun w' hT hD => ?_) ?_; (unfold YldG; go_simp; exact ⟨Ext.refl _, rfl⟩); (try simp only [Act.put, List.setIfInBounds_toArray, List.set_cons_zero, List.set_cons_succ]))
              refine wpG_nil fun w9 hT hA => ?_
              obtain ⟨hu, hRd9⟩ := hA.1 rfl
              subst hu
              have HR9 := Aside0.mk hRd9
              have HE9 := Aside0.mk (hT.ext HS6E.out HLO6.out)
              clear hA hT hRd9 HS6 HS6E
              simp only [List.drop_succ_cons, List.drop_zero]
              refine wpList_nil ?_
              go_wp2_with fail
              apply wp_region_facts 18 [RF.val (.pointer (some ⟨b1, 0, none⟩)), RF.val (.bool false), RF.val (.slice (some adE) n cE), RF.val (.int .i64 y), RF.val (.pointer (some (adE.add y.toNat))), RF.val (.int .i64 E), RF.val (.int .i64 r), RF.val (.bool false), RF.val (.bool false), RF.val (.bool false), RF.val (.pointer (some ⟨b1, 0, none⟩)), RF.val (.bool false), RF.val (.bool true), RF.val (.bool true), RF.val (.bool true), RF.val (.bool false), RF.val (.bool false), RF.val (.bool false)] (by kernel_rfl) (by kernel_rfl)
              simp only [List.take_succ_cons, List.take_zero, List.zip_cons_cons, List.zip_nil_left]
              iterate 1 ((first | apply wpF_val rfl | apply wpF_valg (by rfl)); (intro w' hE hD; unfold Yld; go_simp; exact ⟨Ext.refl _, rfl⟩); (try simp only [Act.put, List.setIfInBounds_toArray, List.set_cons_zero, List.set_cons_succ]))
              (first | apply wpF_val rfl | apply wpF_valg (by rfl)); (intro w' hE hD; unfold Yld; go_simp; exact (bad_calls w' lo hi b1 _ false (HR9.out.ext hE)).mono fun e w2 h => ⟨_, h.1, h.2, rfl⟩); (try simp only [Act.put, List.setIfInBounds_toArray, List.set_cons_zero, List.set_cons_succ])
              iterate 3 ((first | apply wpF_val rfl | apply wpF_valg (by rfl)); (intro w' hE hD; unfold Yld; go_simp; exact ⟨Ext.refl _, rfl⟩); (try simp only [Act.put, List.setIfInBounds_toArray, List.set_cons_zero, List.set_cons_succ]))
              (first | apply wpF_val rfl | apply wpF_valg (by rfl)); (intro w' hE hD; have e0 := Ext.cell (HE9.out.trans hE) HCELL.out; unfold Yld; go_simp; exact ⟨Ext.refl _, rfl⟩); (try simp only [Act.put, List.setIfInBounds_toArray, List.set_cons_zero, List.set_cons_succ])
              iterate 5 ((first | apply wpF_val rfl | apply wpF_valg (by rfl)); (intro w' hE hD; unfold Yld; go_simp; exact ⟨Ext.refl _, rfl⟩); (try simp only [Act.put, List.setIfInBounds_toArray, List.set_cons_zero, List.set_cons_succ]))
              (first | apply wpF_val rfl | apply wpF_valg (by rfl)); (intro w' hE hD; unfold Yld; go_simp; exact (bad_calls w' lo hi b1 _ false (HR9.out.ext hE)).mono fun e w2 h => ⟨_, h.1, h.2, rfl⟩); (try simp only [Act.put, List.setIfInBounds_toArray, List.set_cons_zero, List.set_cons_succ])
              iterate 6 ((first | apply wpF_val rfl | apply wpF_valg (by rfl)); (intro w' hE hD; unfold Yld; go_simp; exact ⟨Ext.refl _, rfl⟩); (try simp only [Act.put, List.setIfInBounds_toArray, List.set_cons_zero, List.set_cons_succ]))
              refine wpF_nil fun wb hE hA => ?_
              have HRb := Aside0.mk (HR9.out.ext hE)
              have HEb := Aside0.mk (HE9.out.trans hE)
              clear hA hE HR9 HE9
              simp only [List.drop_succ_cons, List.drop_zero]
              refine wpList_nil ?_
              go_wp2_with fail
              refine (bad_calls wb lo hi b1 _ false HRb.out).mono ?_
              rintro e wa ⟨rfl, hE⟩
              have HRa := Aside0.mk (HRb.out.ext hE)
              have HEa := Aside0.mk (HEb.out.trans hE)
              clear hE HRb HEb
              go_wp2
              go_roundw
              case rel => exact ⟨y + 1, rfl, ⟨by omega, by have := HLY.out; omega⟩, HNP, by rw [← HRest.out]; exact HRa, HEa⟩
              case measure => have := HLY.out; simp only [intOf]; omega
          · have hgt : (r < E) = True := eq_true (by omega)
            have hgt' : (E > r) = True := eq_true (by omega)
            have HPL := Aside0.mk (show ((thB t ++ allB (L.drop (y.toNat + 1))).take (r.toNat - (allB (L.take y.toNat)).length)).length < (thB t).length by
              have h1 := HE1.out
              have h3 := HPR.out
              have h4 := thB_len HTO.out
              rw [List.length_take]
              omega)
            generalize (thB t ++ allB (L.drop (y.toNat + 1))).take (r.toNat - (allB (L.take y.toNat)).length) = part at HS6 HPL
            have hcase : q = 0 ∨ q = 1 ∨ q = 2 := by omega
            rcases hcase with rfl | rfl | rfl
            · have hth : thB t = be8 t.2.1 := by unfold thB; rw [if_pos HT.out]
              have HLN := Aside0.mk (show part.length < 8 by have := HPL.out; rw [hth, be8_length _] at this; exact this)
              clear hth
              go_wp2_with fail
              apply wp_region_G 9 1 (fun w w' => Tch w w' lo hi) (fun _ _ h => Tch.of_ext h lo hi) (fun _ _ _ h k => h.trans k) [GF.val (.pointer (some ⟨b1, 0, none⟩)), GF.fact true (fun u W => u = .int .i64 0 ∧ Rd W lo hi b1 part true), GF.val (.slice (some ⟨b, off, none⟩) n c), GF.val (.int .i64 y), GF.val (.pointer (some ⟨b, off + y.toNat * 35, none⟩)), GF.val (.pointer (some ⟨b, off + y.toNat * 35 + 1, none⟩)), GF.val (.int .i64 t.2.1), GF.fact true (fun _ _ => True), GF.fact true (fun _ _ => True)] (by kernel_rfl) (by kernel_rfl)
              simp only [List.take_succ_cons, List.take_zero, List.zip_cons_cons, List.zip_nil_left]
              iterate 1 (refine wpG_val (by rfl) (by decide) (fun w' hT hD => ?_) ?_; (unfold YldG; go_simp; exact ⟨Ext.refl _, rfl⟩); (try simp only [Act.put, List.setIfInBounds_toArray, List.set_cons_zero, List.set_cons_succ]))
              refine wpG_here (by rfl) rfl (fun u W W' h he => ⟨h.1, h.2.ext he⟩) (fun w' hE hD => ?_) (fun u => ?_)
              · unfold YldG
                go_simp
                exact (rdint_bad w' lo hi b1 _ false (HS6.out.ext hE) (.inr HLN.out)).mono fun e w2 ⟨h1, h2, h3⟩ => ⟨_, h1, h3, rfl, h2⟩
              (try simp only [Act.put, List.setIfInBounds_toArray, List.set_cons_zero, List.set_cons_succ])
              iterate 4 (refine wpG_val (by rfl) (by decide) (fun w' hT hD => ?_) ?_; (unfold YldG; go_simp; exact ⟨Ext.refl _, rfl⟩); (try simp only [Act.put, List.setIfInBounds_toArray, List.set_cons_zero, List.set_cons_succ]))
              refine wpG_val (by rfl) (by decide) (fun w' hT hD => ?_) ?_; (have e0 := (th_parts (rangeAt_ext HRG.out (hT.ext HS6E.out HLO6.out))).2.1; unfold YldG; go_simp; exact ⟨Ext.refl _, rfl⟩); (try simp only [Act.put, List.setIfInBounds_toArray, List.set_cons_zero, List.set_cons_succ])
              refine wpG_fact (by rfl) (by decide) (fun _ _ _ _ _ _ => trivial) (fun _ _ _ _ _ => trivial) (fun w' hT hD => ?_) (fun u3 => ?_)
              · have hu := (hD.1 rfl (by kernel_rfl)).1
                subst hu
                unfold YldG; go_simp; exact ⟨Ext.refl _, trivial⟩
              (try simp only [Act.put, List.setIfInBounds_toArray, List.set_cons_zero, List.set_cons_succ])
              refine wpG_fact (by rfl) (by decide) (fun _ _ _ _ _ _ => trivial) (fun _ _ _ _ _ => trivial) (fun w' hT hD => ?_) (fun u4' => ?_)
              · unfold YldG
                go_simp
                exact ⟨Ext.refl _, trivial⟩
              (try simp only [Act.put, List.setIfInBounds_toArray, List.set_cons_zero, List.set_cons_succ])
              refine wpG_nil fun w9 hT hA => ?_
              obtain ⟨hu, hRd9⟩ := hA.1 rfl
              subst hu
              have HR9 := Aside0.mk hRd9
              have HE9 := Aside0.mk (hT.ext HS6E.out HLO6.out)
              clear hA hT hRd9 HS6 HS6E
              simp only [List.drop_succ_cons, List.drop_zero]
              refine wpList_nil ?_
              go_wp2_with fail
              apply wp_region_facts 18 [RF.val (.pointer (some ⟨b1, 0, none⟩)), RF.val (.bool true), RF.val (.slice (some adE) n cE), RF.val (.int .i64 y), RF.val (.pointer (some (adE.add y.toNat))), RF.val (.int .i64 E), RF.val (.int .i64 r), RF.val (.bool true), RF.val (.bool false), RF.val (.bool false), RF.val (.pointer (some ⟨b1, 0, none⟩)), RF.val (.bool true), RF.val (.bool false), RF.val (.bool false), RF.val undef, RF.val undef, RF.val (.bool false), RF.val (.bool false)] (by kernel_rfl) (by kernel_rfl)
              simp only [List.take_succ_cons, List.take_zero, List.zip_cons_cons, List.zip_nil_left]
              iterate 1 ((first | apply wpF_val rfl | apply wpF_valg (by rfl)); (intro w' hE hD; unfold Yld; go_simp; exact ⟨Ext.refl _, rfl⟩); (try simp only [Act.put, List.setIfInBounds_toArray, List.set_cons_zero, List.set_cons_succ]))
              (first | apply wpF_val rfl | apply wpF_valg (by rfl)); (intro w' hE hD; unfold Yld; go_simp; exact (bad_calls w' lo hi b1 _ true (HR9.out.ext hE)).mono fun e w2 h => ⟨_, h.1, h.2, rfl⟩); (try simp only [Act.put, List.setIfInBounds_toArray, List.set_cons_zero, List.set_cons_succ])
              iterate 3 ((first | apply wpF_val rfl | apply wpF_valg (by rfl)); (intro w' hE hD; unfold Yld; go_simp; exact ⟨Ext.refl _, rfl⟩); (try simp only [Act.put, List.setIfInBounds_toArray, List.set_cons_zero, List.set_cons_succ]))
              (first | apply wpF_val rfl | apply wpF_valg (by rfl)); (intro w' hE hD; have e0 := Ext.cell (HE9.out.trans hE) HCELL.out; unfold Yld; go_simp; exact ⟨Ext.refl _, rfl⟩); (try simp only [Act.put, List.setIfInBounds_toArray, List.set_cons_zero, List.set_cons_succ])
              iterate 5 ((first | apply wpF_val rfl | apply wpF_valg (by rfl)); (intro w' hE hD; unfold Yld; go_simp; exact ⟨Ext.refl _, rfl⟩); (try simp only [Act.put, List.setIfInBounds_toArray, List.set_cons_zero, List.set_cons_succ]))
              (first | apply wpF_val rfl | apply wpF_valg (by rfl)); (intro w' hE hD; unfold Yld; go_simp; exact (bad_calls w' lo hi b1 _ true (HR9.out.ext hE)).mono fun e w2 h => ⟨_, h.1, h.2, rfl⟩); (try simp only [Act.put, List.setIfInBounds_toArray, List.set_cons_zero, List.set_cons_succ])
              iterate 2 ((first | apply wpF_val rfl | apply wpF_valg (by rfl)); (intro w' hE hD; unfold Yld; go_simp; exact ⟨Ext.refl _, rfl⟩); (try simp only [Act.put, List.setIfInBounds_toArray, List.set_cons_zero, List.set_cons_succ]))
              iterate 2 (apply wpF_skip (by rfl); (try simp only [Act.put, List.setIfInBounds_toArray, List.set_cons_zero, List.set_cons_succ]))
              iterate 2 ((first | apply wpF_val rfl | apply wpF_valg (by rfl)); (intro w' hE hD; unfold Yld; go_simp; exact ⟨Ext.refl _, rfl⟩); (try simp only [Act.put, List.setIfInBounds_toArray, List.set_cons_zero, List.set_cons_succ]))
              refine wpF_nil fun wb hE hA => ?_
              have HRb := Aside0.mk (HR9.out.ext hE)
              have HEb := Aside0.mk (HE9.out.trans hE)
              clear hA hE HR9 HE9
              simp only [List.drop_succ_cons, List.drop_zero]
              refine wpList_nil ?_
              go_wp2_with fail
              refine (bad_calls wb lo hi b1 _ true HRb.out).mono ?_
              rintro e wa ⟨rfl, hE⟩
              have HRa := Aside0.mk (HRb.out.ext hE)
              have HEa := Aside0.mk (HEb.out.trans hE)
              clear hE HRb HEb
              go_wp2_with fail
              refine (left_calls _ lo hi b1 _ true HRa.out).mono ?_
              rintro e x1 ⟨rfl, hE⟩
              have HR1 := Aside0.mk (HRa.out.ext hE)
              have HE1 := Aside0.mk (HEa.out.trans hE)
              clear hE HRa HEa
              rw [show leftI part true = 0 from rfl]
              go_wp2_with fail
              refine (end_calls _ lo hi b1 _ true HR1.out).mono ?_
              rintro e x2 ⟨rfl, hE⟩
              have HR2 := Aside0.mk (HR1.out.ext hE)
              have HE2 := Aside0.mk (HE1.out.trans hE)
              clear hE HR1 HE1
              rw [show endI part true = 4 from rfl]
              go_wp2_with fail
              refine (rdint_bad _ lo hi b1 _ true HR2.out (.inl rfl)).mono ?_
              rintro e x3 ⟨rfl, hR, hT⟩
              have HE3 := Aside0.mk (hT.ext HE2.out HLO6.out)
              clear hR hT HR2 HE2
              go_wp2_with fail
              refine (known_calls _).mono ?_
              rintro e x4 ⟨rfl, hE⟩
              have HE4 := Aside0.mk (HE6.out.trans (HE3.out.trans hE))
              clear hE HE3
              go_wp2
              go_ret
              exact ⟨rfl, HE4.out⟩
            · have hth : thB t = t.2.2.2 := by unfold thB; rw [if_neg (by rw [HT.out]; decide), if_pos HT.out]
              have HLN := Aside0.mk (show part.length < 32 by have := HPL.out; rw [hth, show (t.2.2.2).length = 32 from HTO.out.2.2.2.1] at this; exact this)
              clear hth
              go_wp2_with fail
              apply wp_region_G 10 1 (fun w w' => Tch w w' lo hi) (fun _ _ h => Tch.of_ext h lo hi) (fun _ _ _ h k => h.trans k) [GF.val (.pointer (some ⟨b1, 0, none⟩)), GF.fact true (fun u W => u = sumV zero32 ∧ Rd W lo hi b1 part true), GF.val (.slice (some ⟨b, off, none⟩) n c), GF.val (.int .i64 y), GF.val (.pointer (some ⟨b, off + y.toNat * 35, none⟩)), GF.val (.pointer (some ⟨b, off + y.toNat * 35 + 2, none⟩)), GF.val (.pointer (some ⟨b, off + y.toNat * 35 + 3, none⟩)), GF.val (sumV t.2.2.2), GF.fact true (fun _ _ => True), GF.fact true (fun _ _ => True)] (by kernel_rfl) (by kernel_rfl)
              simp only [List.take_succ_cons, List.take_zero, List.zip_cons_cons, List.zip_nil_left]
              iterate 1 (refine wpG_val (by rfl) (by decide) (fun w' hT hD => ?_) ?_; (unfold YldG; go_simp; exact ⟨Ext.refl _, rfl⟩); (try simp only [Act.put, List.setIfInBounds_toArray, List.set_cons_zero, List.set_cons_succ]))
              refine wpG_here (by rfl) rfl (fun u W W' h he => ⟨h.1, h.2.ext he⟩) (fun w' hE hD => ?_) (fun u => ?_)
              · unfold YldG
                go_simp
                exact (rdsum_bad w' lo hi b1 _ false (HS6.out.ext hE) (.inr HLN.out)).mono fun e w2 ⟨h1, h2, h3⟩ => ⟨_, h1, h3, rfl, h2⟩
              (try simp only [Act.put, List.setIfInBounds_toArray, List.set_cons_zero, List.set_cons_succ])
              iterate 5 (refine wpG_val (by rfl) (by decide) (fun w' hT hD => ?_) ?_; (unfold YldG; go_simp; exact ⟨Ext.refl _, rfl⟩); (try simp only [Act.put, List.setIfInBounds_toArray, List.set_cons_zero, List.set_cons_succ]))
              refine wpG_val (by rfl) (by decide) (fun w' hT hD => ?_) ?_; (exact YldG_load 24 _ rfl b (off + y.toNat * 35 + 3) rfl (nums .u8 t.2.2.2) _ (th_parts (rangeAt_ext HRG.out (hT.ext HS6E.out HLO6.out))).2.2.2 Try.underlying24 rfl HIS.out); (try simp only [Act.put, List.setIfInBounds_toArray, List.set_cons_zero, List.set_cons_succ])
              refine wpG_fact (by rfl) (by decide) (fun _ _ _ _ _ _ => trivial) (fun _ _ _ _ _ => trivial) (fun w' hT hD => ?_) (fun u3 => ?_)
              · have hu := (hD.1 rfl (by kernel_rfl)).1
                subst hu
                exact YldG_any (YldG_eql 24 24 (.tmp 101) (.tmp 107) rfl _ _ rfl rfl (by kernel_rfl) _ (equal_sum zero32 t.2.2.2 rfl HTO.out.2.2.2.1 zero32_isB HTO.out.2.2.2.2 w'))
              (try simp only [Act.put, List.setIfInBounds_toArray, List.set_cons_zero, List.set_cons_succ])
              refine wpG_fact (by rfl) (by decide) (fun _ _ _ _ _ _ => trivial) (fun _ _ _ _ _ => trivial) (fun w' hT hD => ?_) (fun u4' => ?_)
              · unfold YldG
                go_simp
                exact ⟨Ext.refl _, trivial⟩
              (try simp only [Act.put, List.setIfInBounds_toArray, List.set_cons_zero, List.set_cons_succ])
              refine wpG_nil fun w9 hT hA => ?_
              obtain ⟨hu, hRd9⟩ := hA.1 rfl
              subst hu
              have HR9 := Aside0.mk hRd9
              have HE9 := Aside0.mk (hT.ext HS6E.out HLO6.out)
              clear hA hT hRd9 HS6 HS6E
              simp only [List.drop_succ_cons, List.drop_zero]
              refine wpList_nil ?_
              go_wp2_with fail
              apply wp_region_facts 18 [RF.val (.pointer (some ⟨b1, 0, none⟩)), RF.val (.bool true), RF.val (.slice (some adE) n cE), RF.val (.int .i64 y), RF.val (.pointer (some (adE.add y.toNat))), RF.val (.int .i64 E), RF.val (.int .i64 r), RF.val (.bool true), RF.val (.bool false), RF.val (.bool false), RF.val (.pointer (some ⟨b1, 0, none⟩)), RF.val (.bool true), RF.val (.bool false), RF.val (.bool false), RF.val undef, RF.val undef, RF.val (.bool false), RF.val (.bool false)] (by kernel_rfl) (by kernel_rfl)
              simp only [List.take_succ_cons, List.take_zero, List.zip_cons_cons, List.zip_nil_left]
              iterate 1 ((first | apply wpF_val rfl | apply wpF_valg (by rfl)); (intro w' hE hD; unfold Yld; go_simp; exact ⟨Ext.refl _, rfl⟩); (try simp only [Act.put, List.setIfInBounds_toArray, List.set_cons_zero, List.set_cons_succ]))
              (first | apply wpF_val rfl | apply wpF_valg (by rfl)); (intro w' hE hD; unfold Yld; go_simp; exact (bad_calls w' lo hi b1 _ true (HR9.out.ext hE)).mono fun e w2 h => ⟨_, h.1, h.2, rfl⟩); (try simp only [Act.put, List.setIfInBounds_toArray, List.set_cons_zero, List.set_cons_succ])
              iterate 3 ((first | apply wpF_val rfl | apply wpF_valg (by rfl)); (intro w' hE hD; unfold Yld; go_simp; exact ⟨Ext.refl _, rfl⟩); (try simp only [Act.put, List.setIfInBounds_toArray, List.set_cons_zero, List.set_cons_succ]))
              (first | apply wpF_val rfl | apply wpF_valg (by rfl)); (intro w' hE hD; have e0 := Ext.cell (HE9.out.trans hE) HCELL.out; unfold Yld; go_simp; exact ⟨Ext.refl _, rfl⟩); (try simp only [Act.put, List.setIfInBounds_toArray, List.set_cons_zero, List.set_cons_succ])
              iterate 5 ((first | apply wpF_val rfl | apply wpF_valg (by rfl)); (intro w' hE hD; unfold Yld; go_simp; exact ⟨Ext.refl _, rfl⟩); (try simp only [Act.put, List.setIfInBounds_toArray, List.set_cons_zero, List.set_cons_succ]))
              (first | apply wpF_val rfl | apply wpF_valg (by rfl)); (intro w' hE hD; unfold Yld; go_simp; exact (bad_calls w' lo hi b1 _ true (HR9.out.ext hE)).mono fun e w2 h => ⟨_, h.1, h.2, rfl⟩); (try simp only [Act.put, List.setIfInBounds_toArray, List.set_cons_zero, List.set_cons_succ])
              iterate 2 ((first | apply wpF_val rfl | apply wpF_valg (by rfl)); (intro w' hE hD; unfold Yld; go_simp; exact ⟨Ext.refl _, rfl⟩); (try simp only [Act.put, List.setIfInBounds_toArray, List.set_cons_zero, List.set_cons_succ]))
              iterate 2 (apply wpF_skip (by rfl); (try simp only [Act.put, List.setIfInBounds_toArray, List.set_cons_zero, List.set_cons_succ]))
              iterate 2 ((first | apply wpF_val rfl | apply wpF_valg (by rfl)); (intro w' hE hD; unfold Yld; go_simp; exact ⟨Ext.refl _, rfl⟩); (try simp only [Act.put, List.setIfInBounds_toArray, List.set_cons_zero, List.set_cons_succ]))
              refine wpF_nil fun wb hE hA => ?_
              have HRb := Aside0.mk (HR9.out.ext hE)
              have HEb := Aside0.mk (HE9.out.trans hE)
              clear hA hE HR9 HE9
              simp only [List.drop_succ_cons, List.drop_zero]
              refine wpList_nil ?_
              go_wp2_with fail
              refine (bad_calls wb lo hi b1 _ true HRb.out).mono ?_
              rintro e wa ⟨rfl, hE⟩
              have HRa := Aside0.mk (HRb.out.ext hE)
              have HEa := Aside0.mk (HEb.out.trans hE)
              clear hE HRb HEb
              go_wp2_with fail
              refine (left_calls _ lo hi b1 _ true HRa.out).mono ?_
              rintro e x1 ⟨rfl, hE⟩
              have HR1 := Aside0.mk (HRa.out.ext hE)
              have HE1 := Aside0.mk (HEa.out.trans hE)
              clear hE HRa HEa
              rw [show leftI part true = 0 from rfl]
              go_wp2_with fail
              refine (end_calls _ lo hi b1 _ true HR1.out).mono ?_
              rintro e x2 ⟨rfl, hE⟩
              have HR2 := Aside0.mk (HR1.out.ext hE)
              have HE2 := Aside0.mk (HE1.out.trans hE)
              clear hE HR1 HE1
              rw [show endI part true = 4 from rfl]
              go_wp2_with fail
              refine (rdint_bad _ lo hi b1 _ true HR2.out (.inl rfl)).mono ?_
              rintro e x3 ⟨rfl, hR, hT⟩
              have HE3 := Aside0.mk (hT.ext HE2.out HLO6.out)
              clear hR hT HR2 HE2
              go_wp2_with fail
              refine (known_calls _).mono ?_
              rintro e x4 ⟨rfl, hE⟩
              have HE4 := Aside0.mk (HE6.out.trans (HE3.out.trans hE))
              clear hE HE3
              go_wp2
              go_ret
              exact ⟨rfl, HE4.out⟩
            · have hth : thB t = refB t.2.2.1 t.2.2.2 := by unfold thB; rw [if_neg (by rw [HT.out]; decide), if_neg (by rw [HT.out]; decide)]
              have HLN := Aside0.mk (show part.length < 40 by have := HPL.out; rw [hth, show (refB t.2.2.1 t.2.2.2).length = 40 from by unfold refB; rw [List.length_append, be8_length, HTO.out.2.2.2.1]] at this; exact this)
              clear hth
              go_wp2_with fail
              apply wp_region_G 9 1 (fun w w' => Tch w w' lo hi) (fun _ _ h => Tch.of_ext h lo hi) (fun _ _ _ h k => h.trans k) [GF.val (.pointer (some ⟨b1, 0, none⟩)), GF.fact true (fun u W => u = refV 0 zero32 ∧ Rd W lo hi b1 part true), GF.val (.slice (some ⟨b, off, none⟩) n c), GF.val (.int .i64 y), GF.val (.pointer (some ⟨b, off + y.toNat * 35, none⟩)), GF.val (.pointer (some ⟨b, off + y.toNat * 35 + 2, none⟩)), GF.val (refV t.2.2.1 t.2.2.2), GF.fact true (fun _ _ => True), GF.fact true (fun _ _ => True)] (by kernel_rfl) (by kernel_rfl)
              simp only [List.take_succ_cons, List.take_zero, List.zip_cons_cons, List.zip_nil_left]
              iterate 1 (refine wpG_val (by rfl) (by decide) (fun w' hT hD => ?_) ?_; (unfold YldG; go_simp; exact ⟨Ext.refl _, rfl⟩); (try simp only [Act.put, List.setIfInBounds_toArray, List.set_cons_zero, List.set_cons_succ]))
              refine wpG_here (by rfl) rfl (fun u W W' h he => ⟨h.1, h.2.ext he⟩) (fun w' hE hD => ?_) (fun u => ?_)
              · unfold YldG
                go_simp
                exact (rdref_bad w' lo hi b1 _ false (HS6.out.ext hE) (.inr HLN.out)).mono fun e w2 ⟨h1, h2, h3⟩ => ⟨_, h1, h3, rfl, h2⟩
              (try simp only [Act.put, List.setIfInBounds_toArray, List.set_cons_zero, List.set_cons_succ])
              iterate 4 (refine wpG_val (by rfl) (by decide) (fun w' hT hD => ?_) ?_; (unfold YldG; go_simp; exact ⟨Ext.refl _, rfl⟩); (try simp only [Act.put, List.setIfInBounds_toArray, List.set_cons_zero, List.set_cons_succ]))
              refine wpG_val (by rfl) (by decide) (fun w' hT hD => ?_) ?_; (exact YldG_load 26 _ rfl b (off + y.toNat * 35 + 2) rfl (refC t.2.2.1 t.2.2.2) _ (th_parts (rangeAt_ext HRG.out (hT.ext HS6E.out HLO6.out))).2.2.1 Try.underlying26 rfl HIR.out); (try simp only [Act.put, List.setIfInBounds_toArray, List.set_cons_zero, List.set_cons_succ])
              refine wpG_fact (by rfl) (by decide) (fun _ _ _ _ _ _ => trivial) (fun _ _ _ _ _ => trivial) (fun w' hT hD => ?_) (fun u3 => ?_)
              · have hu := (hD.1 rfl (by kernel_rfl)).1
                subst hu
                exact YldG_any (YldG_eql 26 26 (.tmp 81) (.tmp 86) rfl _ _ rfl rfl (by kernel_rfl) _ (equal_ref 0 t.2.2.1 zero32 t.2.2.2 rfl (wf_i64 HTO.out.2.2.1) rfl HTO.out.2.2.2.1 zero32_isB HTO.out.2.2.2.2 w'))
              (try simp only [Act.put, List.setIfInBounds_toArray, List.set_cons_zero, List.set_cons_succ])
              refine wpG_fact (by rfl) (by decide) (fun _ _ _ _ _ _ => trivial) (fun _ _ _ _ _ => trivial) (fun w' hT hD => ?_) (fun u4' => ?_)
              · unfold YldG
                go_simp
                exact ⟨Ext.refl _, trivial⟩
              (try simp only [Act.put, List.setIfInBounds_toArray, List.set_cons_zero, List.set_cons_succ])
              refine wpG_nil fun w9 hT hA => ?_
              obtain ⟨hu, hRd9⟩ := hA.1 rfl
              subst hu
              have HR9 := Aside0.mk hRd9
              have HE9 := Aside0.mk (hT.ext HS6E.out HLO6.out)
              clear hA hT hRd9 HS6 HS6E
              simp only [List.drop_succ_cons, List.drop_zero]
              refine wpList_nil ?_
              go_wp2_with fail
              apply wp_region_facts 18 [RF.val (.pointer (some ⟨b1, 0, none⟩)), RF.val (.bool true), RF.val (.slice (some adE) n cE), RF.val (.int .i64 y), RF.val (.pointer (some (adE.add y.toNat))), RF.val (.int .i64 E), RF.val (.int .i64 r), RF.val (.bool true), RF.val (.bool false), RF.val (.bool false), RF.val (.pointer (some ⟨b1, 0, none⟩)), RF.val (.bool true), RF.val (.bool false), RF.val (.bool false), RF.val undef, RF.val undef, RF.val (.bool false), RF.val (.bool false)] (by kernel_rfl) (by kernel_rfl)
              simp only [List.take_succ_cons, List.take_zero, List.zip_cons_cons, List.zip_nil_left]
              iterate 1 ((first | apply wpF_val rfl | apply wpF_valg (by rfl)); (intro w' hE hD; unfold Yld; go_simp; exact ⟨Ext.refl _, rfl⟩); (try simp only [Act.put, List.setIfInBounds_toArray, List.set_cons_zero, List.set_cons_succ]))
              (first | apply wpF_val rfl | apply wpF_valg (by rfl)); (intro w' hE hD; unfold Yld; go_simp; exact (bad_calls w' lo hi b1 _ true (HR9.out.ext hE)).mono fun e w2 h => ⟨_, h.1, h.2, rfl⟩); (try simp only [Act.put, List.setIfInBounds_toArray, List.set_cons_zero, List.set_cons_succ])
              iterate 3 ((first | apply wpF_val rfl | apply wpF_valg (by rfl)); (intro w' hE hD; unfold Yld; go_simp; exact ⟨Ext.refl _, rfl⟩); (try simp only [Act.put, List.setIfInBounds_toArray, List.set_cons_zero, List.set_cons_succ]))
              (first | apply wpF_val rfl | apply wpF_valg (by rfl)); (intro w' hE hD; have e0 := Ext.cell (HE9.out.trans hE) HCELL.out; unfold Yld; go_simp; exact ⟨Ext.refl _, rfl⟩); (try simp only [Act.put, List.setIfInBounds_toArray, List.set_cons_zero, List.set_cons_succ])
              iterate 5 ((first | apply wpF_val rfl | apply wpF_valg (by rfl)); (intro w' hE hD; unfold Yld; go_simp; exact ⟨Ext.refl _, rfl⟩); (try simp only [Act.put, List.setIfInBounds_toArray, List.set_cons_zero, List.set_cons_succ]))
              (first | apply wpF_val rfl | apply wpF_valg (by rfl)); (intro w' hE hD; unfold Yld; go_simp; exact (bad_calls w' lo hi b1 _ true (HR9.out.ext hE)).mono fun e w2 h => ⟨_, h.1, h.2, rfl⟩); (try simp only [Act.put, List.setIfInBounds_toArray, List.set_cons_zero, List.set_cons_succ])
              iterate 2 ((first | apply wpF_val rfl | apply wpF_valg (by rfl)); (intro w' hE hD; unfold Yld; go_simp; exact ⟨Ext.refl _, rfl⟩); (try simp only [Act.put, List.setIfInBounds_toArray, List.set_cons_zero, List.set_cons_succ]))
              iterate 2 (apply wpF_skip (by rfl); (try simp only [Act.put, List.setIfInBounds_toArray, List.set_cons_zero, List.set_cons_succ]))
              iterate 2 ((first | apply wpF_val rfl | apply wpF_valg (by rfl)); (intro w' hE hD; unfold Yld; go_simp; exact ⟨Ext.refl _, rfl⟩); (try simp only [Act.put, List.setIfInBounds_toArray, List.set_cons_zero, List.set_cons_succ]))
              refine wpF_nil fun wb hE hA => ?_
              have HRb := Aside0.mk (HR9.out.ext hE)
              have HEb := Aside0.mk (HE9.out.trans hE)
              clear hA hE HR9 HE9
              simp only [List.drop_succ_cons, List.drop_zero]
              refine wpList_nil ?_
              go_wp2_with fail
              refine (bad_calls wb lo hi b1 _ true HRb.out).mono ?_
              rintro e wa ⟨rfl, hE⟩
              have HRa := Aside0.mk (HRb.out.ext hE)
              have HEa := Aside0.mk (HEb.out.trans hE)
              clear hE HRb HEb
              go_wp2_with fail
              refine (left_calls _ lo hi b1 _ true HRa.out).mono ?_
              rintro e x1 ⟨rfl, hE⟩
              have HR1 := Aside0.mk (HRa.out.ext hE)
              have HE1 := Aside0.mk (HEa.out.trans hE)
              clear hE HRa HEa
              rw [show leftI part true = 0 from rfl]
              go_wp2_with fail
              refine (end_calls _ lo hi b1 _ true HR1.out).mono ?_
              rintro e x2 ⟨rfl, hE⟩
              have HR2 := Aside0.mk (HR1.out.ext hE)
              have HE2 := Aside0.mk (HE1.out.trans hE)
              clear hE HR1 HE1
              rw [show endI part true = 4 from rfl]
              go_wp2_with fail
              refine (rdint_bad _ lo hi b1 _ true HR2.out (.inl rfl)).mono ?_
              rintro e x3 ⟨rfl, hR, hT⟩
              have HE3 := Aside0.mk (hT.ext HE2.out HLO6.out)
              clear hR hT HR2 HE2
              go_wp2_with fail
              refine (known_calls _).mono ?_
              rintro e x4 ⟨rfl, hE⟩
              have HE4 := Aside0.mk (HE6.out.trans (HE3.out.trans hE))
              clear hE HE3
              go_wp2
              go_ret
              exact ⟨rfl, HE4.out⟩
        · have hy : y = n := by omega
          rw [show allB (L.drop y.toNat) = [] by rw [List.drop_eq_nil_of_le (by rw [HL.out]; omega)]; rfl, List.take_nil] at HRd
          go_wp2_with fail
          refine (end_calls _ lo hi b1 _ false HRd.out).mono ?_
          rintro e wb ⟨rfl, hE⟩
          have HEb := Aside0.mk (HEr.out.trans hE)
          rw [show endI [] false = 0 from rfl]
          clear hE HRd HEr
          go_wp2_with fail
          refine (known_calls _).mono ?_
          rintro e wc ⟨rfl, hE⟩
          have HEc := Aside0.mk (HE6.out.trans (HEb.out.trans hE))
          clear hE HEb
          go_wp2
          go_ret
          exact ⟨rfl, HEc.out⟩

set_option maxRecDepth 100000 in
set_option maxHeartbeats 8000000 in
theorem cut_big (w : World) (A : Option Addr) (c n : Nat) (cut : Int) (L : List Th) (hr : Kd.C kTh w A 40 L) (hmc : 40 ≤ n) (hc : n ≤ c) (h60 : 40 < n) (hm60 : 40 ≤ 40) (hok : ∀ t ∈ L, Th.ok t) (hcut0 : -9223372036854775808 ≤ cut) (hcut1 : cut ≤ 9223372036854775807) :
    Calls Try.prog 8 #[.slice A n c, .int .i64 cut] w fun e w' => e = .returned (.bool true) ∧ Ext w w' := by
  have HR := Aside0.mk hr
  have HOK := Aside0.mk hok
  have HL := Aside0.mk (show L.length = 40 from hr.1)
  have HCUT := Aside0.mk (And.intro hcut0 hcut1)
  clear hr hok hcut0 hcut1
  have hi53 : ∃ i, Try.prog.info? 53 = some i := ⟨_, rfl⟩
  obtain ⟨i3, hi3⟩ := hi53
  have hcut := cut_to (P := Try.prog) 51 53 .i64 Try.underlying51 hi3 A n c 40 (by omega) (by omega) hc
  rw [show (40 : Int).toNat = 40 from rfl] at hcut
  have hz60 : ((40 : Int) < (n : Int)) = True := eq_true (by omega)
  have hz60' : ((n : Int) ≤ 40) = False := eq_false (by omega)
  clear h60 hi3
  go_enter Try.func8, Try.ntmps8
  go_wp2_with fail
  go_loopw [5, 6, 7] (fun v ev i wr => ∃ x : Int, i = .int .i64 x ∧ Aside0 (0 ≤ x ∧ x ≤ 40) ∧ Aside0 (Kd.R ki 3 wr w.heap.size (fun _ => True) ev (endsL L x.toNat)) ∧ ∃ X k cx xs, v = .slice X k cx ∧ Aside0 (k = xs.length ∧ xs = allB (L.take x.toNat)) ∧ Aside0 (k ≤ cx ∧ Kd.C kb wr X k xs) ∧ Aside0 (Ext w wr)) (fun _ _ i _ => 40 - (intOf i).toNat)
  case atStart => exact ⟨0, rfl, ⟨by omega⟩, ⟨Kd.R_nil ki 3 w _ _⟩, none, 0, 0, [], rfl, ⟨rfl, rfl⟩, ⟨Nat.le_refl _, Kd.C_nil kb w⟩, ⟨Ext.refl w⟩⟩
  case round =>
    obtain ⟨x, rfl, HX, HEV, X, k, cx, xs, rfl, HXS, HCX, HE⟩ := hrel
    obtain ⟨g0, g1⟩ := HX.out
    by_cases hlt : x < 40
    · have HLT := Aside0.mk hlt
      have hxl : x.toNat < L.length := by rw [HL.out]; omega
      obtain ⟨b, off, rfl, hrg⟩ := th_at (Kd.C_below HR.out HE.out) x.toNat (by omega) _ (List.getElem?_eq_getElem hxl)
      have htk := allB_take L x.toNat _ (List.getElem?_eq_getElem hxl)
      have hto := HOK.out _ (List.getElem_mem hxl)
      generalize L[x.toNat] = t at hrg htk hto
      have HRG := Aside0.mk hrg
      have HTK := Aside0.mk htk
      have HTO := Aside0.mk hto
      obtain ⟨p0, p1, p2, p3⟩ := th_parts hrg
      have hkl : k + 40 ≤ 140737488355328 := by
        have h1 := HXS.out
        have h2 := allB_len (L.take x.toNat) (fun t ht => HOK.out t (List.mem_of_mem_take ht))
        rw [List.length_take] at h2
        rw [h1.1, h1.2]
        omega
      clear hrg htk hto p1 p2 p3 hxl
      obtain ⟨wx, hwx⟩ : ∃ wx : World, wx = wr := ⟨_, rfl⟩
      subst hwx
      go_wp2_with fail
      refine (pick_calls wx t.1 3 _ HTO.out.1.1 HTO.out.1.2 (by decide) rfl).mono ?_
      rintro e w6 ⟨rfl, hE6⟩
      have hpr := pickT_range t.1 3 (by decide)
      have HRG6 := Aside0.mk (rangeAt_ext HRG.out hE6)
      have HC6 := Aside0.mk (Kd.C_below HCX.out.2 hE6)
      have HEV6 := Aside0.mk (Kd.R_below HEV.out hE6)
      have HE6 := Aside0.mk (HE.out.trans hE6)
      obtain ⟨p0', p1', p2', p3'⟩ := th_parts HRG6.out
      have hcx := HCX.out.1
      have HP2' := Aside0.mk p2'
      have HP3' := Aside0.mk p3'
      have HIS := Aside0.mk (show (Try.prog.info? 24).map (·.size) = some (nums .u8 t.2.2.2).length by rw [nums_length, HTO.out.2.2.2.1]; kernel_rfl)
      have HIR := Aside0.mk (show (Try.prog.info? 26).map (·.size) = some (refC t.2.2.1 t.2.2.2).length by unfold refC; rw [List.length_cons, nums_length, HTO.out.2.2.2.1]; kernel_rfl)
      generalize hpk : pickT t.1 3 = q at hpr
      have HT := Aside0.mk hpk
      clear hE6 HRG HCX HE p0 p2' p3' hpk HEV
      have hcase : q = 0 ∨ q = 1 ∨ q = 2 := by omega
      rcases hcase with rfl | rfl | rfl
      · go_wp2_with fail
        refine (int_at w6 X cx k xs t.2.1 HXS.out.1 HC6.out hcx (by omega)).mono ?_
        rintro e w7 ⟨V, rfl, hV, hE7⟩
        obtain ⟨X', c', rfl, hc', hC'⟩ := hV.reads
        have HFX := Aside0.mk hV.far
        generalize hys : xs ++ be8 t.2.1 = ys at hC' hc' ⊢
        generalize hkk : ys.length = kk at hC' hc' ⊢
        have HNX := Aside0.mk (show kk = ys.length ∧ ys = allB (L.take (x + 1).toNat) by
          refine ⟨hkk.symm, ?_⟩
          rw [show (x + 1).toNat = x.toNat + 1 by omega, HTK.out, ← hys, HXS.out.2]
          congr 1
          unfold thB
          rw [if_pos HT.out])
        have HNE := Aside0.mk (HE6.out.trans hE7)
        have HEV7 := Aside0.mk (Kd.R_below HEV6.out hE7)
        have HTP := Aside0.mk (fun k hk => own_lt (Kd.own_of_R HEV6.out) k hk)
        have HC7 := Aside0.mk hC'
        clear hV hE7 hC' hys hkk HEV6
        go_wp2_with (at_builtin; refine Kd.R_append ki (w0 := w) w.heap.size rfl (.tmp 54) (.tmp 57) 41 3 _ 8 rfl Try.underlying41 info3 rfl (by decide) (by decide) u6 (endsL L x.toNat) (kk : Int) [.int .i64 kk] (fun _ => True) (fun _ => False) rfl rfl ?c1 (fun _ h => h.elim) (fun _ _ => trivial) HEV7.out HNE.out ?c3 ?c4 ?_)
        case c1 => exact rfl
        case c3 => exact HNE.out.size
        case c4 => rw [endsL_length]; omega
        intro v8 w8 hR8 hB8 hg8 hat8
        have HEV8 := Aside0.mk (show Kd.R ki 3 w8 w.heap.size (fun _ => True) v8 (endsL L (x + 1).toNat) by
          rw [show (x + 1).toNat = x.toNat + 1 by omega, endsL_succ]
          have e := HNX.out
          rw [show (x + 1).toNat = x.toNat + 1 by omega] at e
          rw [← e.2, ← e.1]
          exact hR8)
        have HNC := Aside0.mk (show kk ≤ c' ∧ Kd.C kb w8 X' kk ys from ⟨hc', kb_stays HC7.out (fun a ha => hg8.block _ (HFX.out a ha).2 (fun h => by have := HTP.out _ h.symm; have := (HFX.out a ha).1; omega))⟩)
        have HNE8 := Aside0.mk (show Ext w w8 from hB8)
        clear hR8 hB8 hg8 hat8 HEV7 HC7 HNE hc'
        go_wp2
        go_roundw
        case rel => exact ⟨x + 1, rfl, ⟨by omega, by have := HLT.out; omega⟩, HEV8, X', kk, c', ys, rfl, HNX, HNC, HNE8⟩
        case measure => have := HLT.out; simp only [intOf]; omega
      · go_wp2_with (first | ((with_reducible refine gate_load (ty := 24) rfl ?_); refine load_at rfl 24 _ rfl b (off + x.toNat * 35 + 3) rfl (nums .u8 t.2.2.2) _ HP3'.out Try.underlying24 rfl HIS.out ?_) | fail)
        refine (sum_n w6 X cx k xs t.2.2.2 HXS.out.1 HC6.out hcx _ rfl HTO.out.2.2.2.1 (by omega)).mono ?_
        rintro e w7 ⟨V, rfl, hV, hE7⟩
        obtain ⟨X', c', rfl, hc', hC'⟩ := hV.reads
        have HFX := Aside0.mk hV.far
        generalize hys : xs ++ t.2.2.2 = ys at hC' hc' ⊢
        generalize hkk : ys.length = kk at hC' hc' ⊢
        have HNX := Aside0.mk (show kk = ys.length ∧ ys = allB (L.take (x + 1).toNat) by
          refine ⟨hkk.symm, ?_⟩
          rw [show (x + 1).toNat = x.toNat + 1 by omega, HTK.out, ← hys, HXS.out.2]
          congr 1
          unfold thB
          rw [if_neg (by rw [HT.out]; decide), if_pos HT.out])
        have HNE := Aside0.mk (HE6.out.trans hE7)
        have HEV7 := Aside0.mk (Kd.R_below HEV6.out hE7)
        have HTP := Aside0.mk (fun k hk => own_lt (Kd.own_of_R HEV6.out) k hk)
        have HC7 := Aside0.mk hC'
        clear hV hE7 hC' hys hkk HEV6
        go_wp2_with (at_builtin; refine Kd.R_append ki (w0 := w) w.heap.size rfl (.tmp 54) (.tmp 57) 41 3 _ 8 rfl Try.underlying41 info3 rfl (by decide) (by decide) u6 (endsL L x.toNat) (kk : Int) [.int .i64 kk] (fun _ => True) (fun _ => False) rfl rfl ?c1 (fun _ h => h.elim) (fun _ _ => trivial) HEV7.out HNE.out ?c3 ?c4 ?_)
        case c1 => exact rfl
        case c3 => exact HNE.out.size
        case c4 => rw [endsL_length]; omega
        intro v8 w8 hR8 hB8 hg8 hat8
        have HEV8 := Aside0.mk (show Kd.R ki 3 w8 w.heap.size (fun _ => True) v8 (endsL L (x + 1).toNat) by
          rw [show (x + 1).toNat = x.toNat + 1 by omega, endsL_succ]
          have e := HNX.out
          rw [show (x + 1).toNat = x.toNat + 1 by omega] at e
          rw [← e.2, ← e.1]
          exact hR8)
        have HNC := Aside0.mk (show kk ≤ c' ∧ Kd.C kb w8 X' kk ys from ⟨hc', kb_stays HC7.out (fun a ha => hg8.block _ (HFX.out a ha).2 (fun h => by have := HTP.out _ h.symm; have := (HFX.out a ha).1; omega))⟩)
        have HNE8 := Aside0.mk (show Ext w w8 from hB8)
        clear hR8 hB8 hg8 hat8 HEV7 HC7 HNE hc'
        go_wp2
        go_roundw
        case rel => exact ⟨x + 1, rfl, ⟨by omega, by have := HLT.out; omega⟩, HEV8, X', kk, c', ys, rfl, HNX, HNC, HNE8⟩
        case measure => have := HLT.out; simp only [intOf]; omega
      · go_wp2_with (first | ((with_reducible refine gate_load (ty := 26) rfl ?_); refine load_at rfl 26 _ rfl b (off + x.toNat * 35 + 2) rfl (refC t.2.2.1 t.2.2.2) _ HP2'.out Try.underlying26 rfl HIR.out ?_) | fail)
        refine (ref_at w6 X cx k xs t.2.2.2 t.2.2.1 _ HXS.out.1 rfl HTO.out.2.2.2.1 HC6.out hcx (by omega)).mono ?_
        rintro e w7 ⟨V, rfl, hV, hE7⟩
        obtain ⟨X', c', rfl, hc', hC'⟩ := hV.reads
        have HFX := Aside0.mk hV.far
        generalize hys : xs ++ refB t.2.2.1 t.2.2.2 = ys at hC' hc' ⊢
        generalize hkk : ys.length = kk at hC' hc' ⊢
        have HNX := Aside0.mk (show kk = ys.length ∧ ys = allB (L.take (x + 1).toNat) by
          refine ⟨hkk.symm, ?_⟩
          rw [show (x + 1).toNat = x.toNat + 1 by omega, HTK.out, ← hys, HXS.out.2]
          congr 1
          unfold thB
          rw [if_neg (by rw [HT.out]; decide), if_neg (by rw [HT.out]; decide)])
        have HNE := Aside0.mk (HE6.out.trans hE7)
        have HEV7 := Aside0.mk (Kd.R_below HEV6.out hE7)
        have HTP := Aside0.mk (fun k hk => own_lt (Kd.own_of_R HEV6.out) k hk)
        have HC7 := Aside0.mk hC'
        clear hV hE7 hC' hys hkk HEV6
        go_wp2_with (at_builtin; refine Kd.R_append ki (w0 := w) w.heap.size rfl (.tmp 54) (.tmp 57) 41 3 _ 8 rfl Try.underlying41 info3 rfl (by decide) (by decide) u6 (endsL L x.toNat) (kk : Int) [.int .i64 kk] (fun _ => True) (fun _ => False) rfl rfl ?c1 (fun _ h => h.elim) (fun _ _ => trivial) HEV7.out HNE.out ?c3 ?c4 ?_)
        case c1 => exact rfl
        case c3 => exact HNE.out.size
        case c4 => rw [endsL_length]; omega
        intro v8 w8 hR8 hB8 hg8 hat8
        have HEV8 := Aside0.mk (show Kd.R ki 3 w8 w.heap.size (fun _ => True) v8 (endsL L (x + 1).toNat) by
          rw [show (x + 1).toNat = x.toNat + 1 by omega, endsL_succ]
          have e := HNX.out
          rw [show (x + 1).toNat = x.toNat + 1 by omega] at e
          rw [← e.2, ← e.1]
          exact hR8)
        have HNC := Aside0.mk (show kk ≤ c' ∧ Kd.C kb w8 X' kk ys from ⟨hc', kb_stays HC7.out (fun a ha => hg8.block _ (HFX.out a ha).2 (fun h => by have := HTP.out _ h.symm; have := (HFX.out a ha).1; omega))⟩)
        have HNE8 := Aside0.mk (show Ext w w8 from hB8)
        clear hR8 hB8 hg8 hat8 HEV7 HC7 HNE hc'
        go_wp2
        go_roundw
        case rel => exact ⟨x + 1, rfl, ⟨by omega, by have := HLT.out; omega⟩, HEV8, X', kk, c', ys, rfl, HNX, HNC, HNE8⟩
        case measure => have := HLT.out; simp only [intOf]; omega
    · have hx : x = 40 := by omega
      have HL2 := Aside0.mk (show k = xs.length ∧ xs = allB L by
        refine ⟨HXS.out.1, ?_⟩
        rw [HXS.out.2, List.take_of_length_le (by rw [HL.out]; omega)])
      have hkl : k ≤ 1600 := by
        have h2 := allB_len L HOK.out
        rw [HL2.out.1, HL2.out.2]
        have := HL.out
        omega
      have HEV' := Aside0.mk (show Kd.R ki 3 wr w.heap.size (fun _ => True) u6 (endsL L 40) by
        have := HEV.out
        rwa [show x.toNat = 40 by omega] at this)
      have hw1 : wrap64 ((k : Int) + 1) = k + 1 := wrap64_in (by omega) (by omega)
      have HC := Aside0.mk HCX.out
      clear HXS HCX HEV
      go_wp2_with fail
      refine (pick_calls wr cut ((k : Int) + 1) _ HCUT.out.1 HCUT.out.2 (by omega) rfl).mono ?_
      rintro e w6 ⟨rfl, hE6⟩
      have hpr := pickT_range cut ((k : Int) + 1) (by omega)
      generalize pickT cut ((k : Int) + 1) = r at hpr ⊢
      obtain ⟨i5, hi5, _, _, _⟩ := info_parts PPackPuts.info5
      have hcut2 := cut_to (P := Try.prog) 22 5 .i64 Try.underlying22 hi5 X k cx r hpr.1 (by omega) HC.out.1
      have HCT := Aside0.mk (show Kd.C kb w6 X r.toNat ((allB L).take r.toNat) by
        have h1 := Kd.C_below HC.out.2 hE6
        rw [HL2.out.1] at h1
        have h2 := Kd.C_take (m := r.toNat) h1 (by rw [← HL2.out.1]; omega)
        rw [show (xs.take r.toNat).length = r.toNat by rw [List.length_take, ← HL2.out.1]; omega] at h2
        rw [← HL2.out.2]
        exact h2)
      have HRL := Aside0.mk (show r.toNat = ((allB L).take r.toNat).length by rw [List.length_take, ← HL2.out.2, ← HL2.out.1]; omega)
      have HRK := Aside0.mk (show 0 ≤ r ∧ r ≤ (allB L).length by rw [← HL2.out.2, ← HL2.out.1]; omega)
      have hrc : r.toNat ≤ cx := by have := HC.out.1; omega
      have hrm : r.toNat ≤ 1600 := by omega
      have HE6 := Aside0.mk (HE.out.trans hE6)
      have HEV6 := Aside0.mk (Kd.R_below HEV'.out hE6)
      clear hE6 HC HE HEV' hw1 hi5
      go_wp2_with fail
      refine (read_calls w6 X cx r.toNat _ HRL.out HCT.out hrc (by omega)).mono ?_
      rintro e w7 ⟨b1, rfl, hRd, hE7⟩
      have HRd := Aside0.mk hRd
      have HE7 := Aside0.mk hE7
      obtain ⟨AE, cE, rfl, hlE, hCE⟩ := Kd.R_reads HEV6.out
      rw [endsL_length] at hlE hCE ⊢
      have HCE := Aside0.mk hCE
      have HLO := Aside0.mk (show w.heap.size ≤ w6.heap.size from HE6.out.size)
      obtain ⟨lo, hlo⟩ : ∃ lo, lo = w6.heap.size := ⟨_, rfl⟩
      obtain ⟨hi, hhi⟩ : ∃ hi, hi = w7.heap.size := ⟨_, rfl⟩
      rw [← hlo, ← hhi] at HRd
      have HLO6 := Aside0.mk (show w6.heap.size ≤ lo by omega)
      clear hRd hE7 HEV6 HCT HRL hcut2 hCE hlo hhi hrc hrm
      go_wp2_with fail
      go_loopw [9] (fun i wr => ∃ x : Int, i = .int .i64 x ∧ Aside0 (0 ≤ x ∧ x ≤ 40) ∧ Aside0 (((allB (L.take x.toNat)).length : Int) ≤ r) ∧ Aside0 (Rd wr lo hi b1 ((allB (L.drop x.toNat)).take (r.toNat - (allB (L.take x.toNat)).length)) false) ∧ Aside0 (Ext w6 wr)) (fun i _ => 40 - (intOf i).toNat)
      case atStart => exact ⟨0, rfl, ⟨by omega⟩, ⟨by simpa [allB] using HRK.out.1⟩, by simpa [allB] using HRd, HE7⟩
      case round =>
        clear HRd HE7
        obtain ⟨y, rfl, HY, HPR, HRd, HEr⟩ := hrel
        obtain ⟨f0, f1⟩ := HY.out
        by_cases hly : y < 40
        · have HLY := Aside0.mk hly
          have hyl : y.toNat < L.length := by rw [HL.out]; omega
          obtain ⟨b, off, rfl, hrg⟩ := th_at (Kd.C_below HR.out HE6.out) y.toNat (by omega) _ (List.getElem?_eq_getElem hyl)
          obtain ⟨adE, rfl, hcell⟩ := at_k HCE.out y f0 hly
          rw [endsL_rd L 40 y f0 hly] at hcell
          have hdr := allB_drop L y.toNat _ (List.getElem?_eq_getElem hyl)
          have htk := allB_take L y.toNat _ (List.getElem?_eq_getElem hyl)
          have hto := HOK.out _ (List.getElem_mem hyl)
          have hrb := allB_isB (L.drop (y.toNat + 1)) (fun t ht => HOK.out t (List.mem_of_mem_drop ht))
          generalize L[y.toNat] = t at hrg hdr htk hto
          have HRG := Aside0.mk hrg
          have HTO := Aside0.mk hto
          rw [hdr] at HRd
          have hE1 : ((allB (L.take (y.toNat + 1))).length : Int) = ((allB (L.take y.toNat)).length : Int) + ((thB t).length : Int) := by rw [htk, List.length_append]; omega
          obtain ⟨E, hEE⟩ : ∃ E : Int, E = ((allB (L.take (y.toNat + 1))).length : Int) := ⟨_, rfl⟩
          rw [← hEE] at hcell hE1
          have HCELL := Aside0.mk hcell
          have HE1 := Aside0.mk hE1
          have HEE := Aside0.mk hEE
          have HRB := Aside0.mk hrb
          have hyM : y < 40 := hly
          clear hrg hdr htk hto hyl hcell hE1 hEE hrb
          obtain ⟨wx, hwx⟩ : ∃ wx : World, wx = wr := ⟨_, rfl⟩
          subst hwx
          have p0 := (th_parts (rangeAt_ext HRG.out HEr.out)).1
          go_wp2_with fail
          refine (pick_calls wx t.1 3 _ HTO.out.1.1 HTO.out.1.2 (by decide) rfl).mono ?_
          rintro e w6' ⟨rfl, hE6'⟩
          have hpr' := pickT_range t.1 3 (by decide)
          have HS6 := Aside0.mk (HRd.out.ext hE6')
          have HS6E := Aside0.mk (HEr.out.trans hE6')
          have HIS := Aside0.mk (show (Try.prog.info? 24).map (·.size) = some (nums .u8 t.2.2.2).length by rw [nums_length, HTO.out.2.2.2.1]; kernel_rfl)
          have HIR := Aside0.mk (show (Try.prog.info? 26).map (·.size) = some (refC t.2.2.1 t.2.2.2).length by unfold refC; rw [List.length_cons, nums_length, HTO.out.2.2.2.1]; kernel_rfl)
          have HQS := Aside0.mk (fun W => by have := equal_sum t.2.2.2 t.2.2.2 HTO.out.2.2.2.1 HTO.out.2.2.2.1 HTO.out.2.2.2.2 HTO.out.2.2.2.2 W; rwa [show decide (t.2.2.2 = t.2.2.2) = true by simp] at this : ∀ W : World, (Op.equal 24 (sumV t.2.2.2) (sumV t.2.2.2)).run Try.prog W = .ok true W)
          have HQR := Aside0.mk (fun W => by have := equal_ref t.2.2.1 t.2.2.1 t.2.2.2 t.2.2.2 (wf_i64 HTO.out.2.2.1) (wf_i64 HTO.out.2.2.1) HTO.out.2.2.2.1 HTO.out.2.2.2.1 HTO.out.2.2.2.2 HTO.out.2.2.2.2 W; rwa [show decide (t.2.2.1 = t.2.2.1 ∧ t.2.2.2 = t.2.2.2) = true by simp] at this : ∀ W : World, (Op.equal 26 (refV t.2.2.1 t.2.2.2) (refV t.2.2.1 t.2.2.2)).run Try.prog W = .ok true W)
          generalize hpk : pickT t.1 3 = q at hpr'
          have HT := Aside0.mk hpk
          clear hE6' HRd HEr p0 hpk
          by_cases hfit : E ≤ r
          · have hgt : (r < E) = False := eq_false (by omega)
            have hgt' : (E > r) = False := eq_false (by omega)
            have HRest : Aside0 ((allB (L.drop (y.toNat + 1))).take (r.toNat - (allB (L.take (y.toNat + 1))).length) = (allB (L.drop (y + 1).toNat)).take (r.toNat - (allB (L.take (y + 1).toNat)).length)) := ⟨by rw [show (y + 1).toNat = y.toNat + 1 by omega]⟩
            have HNP : Aside0 (((allB (L.take (y + 1).toNat)).length : Int) ≤ r) := ⟨by rw [show (y + 1).toNat = y.toNat + 1 by omega, ← HEE.out]; exact hfit⟩
            have hsplit : (thB t ++ allB (L.drop (y.toNat + 1))).take (r.toNat - (allB (L.take y.toNat)).length) = thB t ++ (allB (L.drop (y.toNat + 1))).take (r.toNat - (allB (L.take (y.toNat + 1))).length) := by
              have h1 := HE1.out
              have h2 := HEE.out
              rw [List.take_append, List.take_of_length_le (by omega)]
              congr 2
              omega
            rw [hsplit] at HS6
            have HXB := Aside0.mk ((thB_isB HTO.out).app (HRB.out.take (r.toNat - (allB (L.take (y.toNat + 1))).length)))
            generalize (allB (L.drop (y.toNat + 1))).take (r.toNat - (allB (L.take (y.toNat + 1))).length) = rest at HS6 HXB HRest
            clear hsplit
            have hcase : q = 0 ∨ q = 1 ∨ q = 2 := by omega
            rcases hcase with rfl | rfl | rfl
            · have hth : thB t = be8 t.2.1 := by unfold thB; rw [if_pos HT.out]
              have HV1 := Aside0.mk (show numI ((thB t ++ rest).take 8) = t.2.1 by rw [hth, List.take_left' (be8_length _)]; exact numI_be8 _ HTO.out.2.1.1 HTO.out.2.1.2)
              have HV2 := Aside0.mk (show (thB t ++ rest).drop 8 = rest by rw [hth, List.drop_left' (be8_length _)])
              have HLN := Aside0.mk (show 8 ≤ (thB t ++ rest).length by rw [List.length_append, hth, be8_length _]; omega)
              clear hth
              go_wp2_with fail
              apply wp_region_G 9 1 (fun w w' => Tch w w' lo hi) (fun _ _ h => Tch.of_ext h lo hi) (fun _ _ _ h k => h.trans k) [GF.val (.pointer (some ⟨b1, 0, none⟩)), GF.fact true (fun u W => u = .int .i64 t.2.1 ∧ Rd W lo hi b1 rest false), GF.val (.slice (some ⟨b, off, none⟩) 40 c), GF.val (.int .i64 y), GF.val (.pointer (some ⟨b, off + y.toNat * 35, none⟩)), GF.val (.pointer (some ⟨b, off + y.toNat * 35 + 1, none⟩)), GF.val (.int .i64 t.2.1), GF.val (.bool true), GF.val (.bool true)] (by kernel_rfl) (by kernel_rfl)
              simp only [List.take_succ_cons, List.take_zero, List.zip_cons_cons, List.zip_nil_left]
              iterate 1 (refine wpG_val (by rfl) (by decide) (fun w' hT hD => ?_) ?_; (unfold YldG; go_simp; exact ⟨Ext.refl _, rfl⟩); (try simp only [Act.put, List.setIfInBounds_toArray, List.set_cons_zero, List.set_cons_succ]))
              refine wpG_here (by rfl) rfl (fun u W W' h he => ⟨h.1, h.2.ext he⟩) (fun w' hE hD => ?_) (fun u => ?_)
              · unfold YldG
                go_simp
                exact (rdint_ok w' lo hi b1 _ (HS6.out.ext hE) HXB.out HLN.out).mono fun e w2 ⟨h1, h2, h3⟩ => ⟨_, h1, h3, by rw [HV1.out], by rw [HV2.out] at h2; exact h2⟩
              (try simp only [Act.put, List.setIfInBounds_toArray, List.set_cons_zero, List.set_cons_succ])
              iterate 4 (refine wpG_val (by rfl) (by decide) (fun w' hT hD => ?_) ?_; (unfold YldG; go_simp; exact ⟨Ext.refl _, rfl⟩); (try simp only [Act.put, List.setIfInBounds_toArray, List.set_cons_zero, List.set_cons_succ]))
              refine wpG_val (by rfl) (by decide) (fun w' hT hD => ?_) ?_; (have e0 := (th_parts (rangeAt_ext HRG.out (hT.ext HS6E.out HLO6.out))).2.1; unfold YldG; go_simp; exact ⟨Ext.refl _, rfl⟩); (try simp only [Act.put, List.setIfInBounds_toArray, List.set_cons_zero, List.set_cons_succ])
              refine wpG_val (by rfl) (by decide) (fun w' hT hD => ?_) ?_; (have hu := (hD.1 rfl (by kernel_rfl)).1; subst hu; unfold YldG; go_simp; exact ⟨Ext.refl _, rfl⟩); (try simp only [Act.put, List.setIfInBounds_toArray, List.set_cons_zero, List.set_cons_succ])
              iterate 1 (refine wpG_val (by rfl) (by decide) (fun w' hT hD => ?_) ?_; (unfold YldG; go_simp; exact ⟨Ext.refl _, rfl⟩); (try simp only [Act.put, List.setIfInBounds_toArray, List.set_cons_zero, List.set_cons_succ]))
              refine wpG_nil fun w9 hT hA => ?_
              obtain ⟨hu, hRd9⟩ := hA.1 rfl
              subst hu
              have HR9 := Aside0.mk hRd9
              have HE9 := Aside0.mk (hT.ext HS6E.out HLO6.out)
              clear hA hT hRd9 HS6 HS6E
              simp only [List.drop_succ_cons, List.drop_zero]
              refine wpList_nil ?_
              go_wp2_with fail
              apply wp_region_facts 18 [RF.val (.pointer (some ⟨b1, 0, none⟩)), RF.val (.bool false), RF.val (.slice (some adE) 40 cE), RF.val (.int .i64 y), RF.val (.pointer (some (adE.add y.toNat))), RF.val (.int .i64 E), RF.val (.int .i64 r), RF.val (.bool false), RF.val (.bool false), RF.val (.bool false), RF.val (.pointer (some ⟨b1, 0, none⟩)), RF.val (.bool false), RF.val (.bool true), RF.val (.bool true), RF.val (.bool true), RF.val (.bool false), RF.val (.bool false), RF.val (.bool false)] (by kernel_rfl) (by kernel_rfl)
              simp only [List.take_succ_cons, List.take_zero, List.zip_cons_cons, List.zip_nil_left]
              iterate 1 ((first | apply wpF_val rfl | apply wpF_valg (by rfl)); (intro w' hE hD; unfold Yld; go_simp; exact ⟨Ext.refl _, rfl⟩); (try simp only [Act.put, List.setIfInBounds_toArray, List.set_cons_zero, List.set_cons_succ]))
              (first | apply wpF_val rfl | apply wpF_valg (by rfl)); (intro w' hE hD; unfold Yld; go_simp; exact (bad_calls w' lo hi b1 _ false (HR9.out.ext hE)).mono fun e w2 h => ⟨_, h.1, h.2, rfl⟩); (try simp only [Act.put, List.setIfInBounds_toArray, List.set_cons_zero, List.set_cons_succ])
              iterate 3 ((first | apply wpF_val rfl | apply wpF_valg (by rfl)); (intro w' hE hD; unfold Yld; go_simp; exact ⟨Ext.refl _, rfl⟩); (try simp only [Act.put, List.setIfInBounds_toArray, List.set_cons_zero, List.set_cons_succ]))
              (first | apply wpF_val rfl | apply wpF_valg (by rfl)); (intro w' hE hD; have e0 := Ext.cell (HE9.out.trans hE) HCELL.out; unfold Yld; go_simp; exact ⟨Ext.refl _, rfl⟩); (try simp only [Act.put, List.setIfInBounds_toArray, List.set_cons_zero, List.set_cons_succ])
              iterate 5 ((first | apply wpF_val rfl | apply wpF_valg (by rfl)); (intro w' hE hD; unfold Yld; go_simp; exact ⟨Ext.refl _, rfl⟩); (try simp only [Act.put, List.setIfInBounds_toArray, List.set_cons_zero, List.set_cons_succ]))
              (first | apply wpF_val rfl | apply wpF_valg (by rfl)); (intro w' hE hD; unfold Yld; go_simp; exact (bad_calls w' lo hi b1 _ false (HR9.out.ext hE)).mono fun e w2 h => ⟨_, h.1, h.2, rfl⟩); (try simp only [Act.put, List.setIfInBounds_toArray, List.set_cons_zero, List.set_cons_succ])
              iterate 6 ((first | apply wpF_val rfl | apply wpF_valg (by rfl)); (intro w' hE hD; unfold Yld; go_simp; exact ⟨Ext.refl _, rfl⟩); (try simp only [Act.put, List.setIfInBounds_toArray, List.set_cons_zero, List.set_cons_succ]))
              refine wpF_nil fun wb hE hA => ?_
              have HRb := Aside0.mk (HR9.out.ext hE)
              have HEb := Aside0.mk (HE9.out.trans hE)
              clear hA hE HR9 HE9
              simp only [List.drop_succ_cons, List.drop_zero]
              refine wpList_nil ?_
              go_wp2_with fail
              refine (bad_calls wb lo hi b1 _ false HRb.out).mono ?_
              rintro e wa ⟨rfl, hE⟩
              have HRa := Aside0.mk (HRb.out.ext hE)
              have HEa := Aside0.mk (HEb.out.trans hE)
              clear hE HRb HEb
              go_wp2
              go_roundw
              case rel => exact ⟨y + 1, rfl, ⟨by omega, by have := HLY.out; omega⟩, HNP, by rw [← HRest.out]; exact HRa, HEa⟩
              case measure => have := HLY.out; simp only [intOf]; omega
            · have hth : thB t = t.2.2.2 := by unfold thB; rw [if_neg (by rw [HT.out]; decide), if_pos HT.out]
              have HV1 := Aside0.mk (show (thB t ++ rest).take 32 = t.2.2.2 by rw [hth, List.take_left' HTO.out.2.2.2.1])
              have HV2 := Aside0.mk (show (thB t ++ rest).drop 32 = rest by rw [hth, List.drop_left' (HTO.out.2.2.2.1)])
              have HLN := Aside0.mk (show 32 ≤ (thB t ++ rest).length by rw [List.length_append, hth, show (t.2.2.2).length = 32 from HTO.out.2.2.2.1]; omega)
              clear hth
              go_wp2_with fail
              apply wp_region_G 10 1 (fun w w' => Tch w w' lo hi) (fun _ _ h => Tch.of_ext h lo hi) (fun _ _ _ h k => h.trans k) [GF.val (.pointer (some ⟨b1, 0, none⟩)), GF.fact true (fun u W => u = sumV t.2.2.2 ∧ Rd W lo hi b1 rest false), GF.val (.slice (some ⟨b, off, none⟩) 40 c), GF.val (.int .i64 y), GF.val (.pointer (some ⟨b, off + y.toNat * 35, none⟩)), GF.val (.pointer (some ⟨b, off + y.toNat * 35 + 2, none⟩)), GF.val (.pointer (some ⟨b, off + y.toNat * 35 + 3, none⟩)), GF.val (sumV t.2.2.2), GF.val (.bool true), GF.val (.bool true)] (by kernel_rfl) (by kernel_rfl)
              simp only [List.take_succ_cons, List.take_zero, List.zip_cons_cons, List.zip_nil_left]
              iterate 1 (refine wpG_val (by rfl) (by decide) (fun w' hT hD => ?_) ?_; (unfold YldG; go_simp; exact ⟨Ext.refl _, rfl⟩); (try simp only [Act.put, List.setIfInBounds_toArray, List.set_cons_zero, List.set_cons_succ]))
              refine wpG_here (by rfl) rfl (fun u W W' h he => ⟨h.1, h.2.ext he⟩) (fun w' hE hD => ?_) (fun u => ?_)
              · unfold YldG
                go_simp
                exact (rdsum_ok w' lo hi b1 _ (HS6.out.ext hE) HXB.out HLN.out).mono fun e w2 ⟨h1, h2, h3⟩ => ⟨_, h1, h3, by rw [HV1.out], by rw [HV2.out] at h2; exact h2⟩
              (try simp only [Act.put, List.setIfInBounds_toArray, List.set_cons_zero, List.set_cons_succ])
              iterate 5 (refine wpG_val (by rfl) (by decide) (fun w' hT hD => ?_) ?_; (unfold YldG; go_simp; exact ⟨Ext.refl _, rfl⟩); (try simp only [Act.put, List.setIfInBounds_toArray, List.set_cons_zero, List.set_cons_succ]))
              refine wpG_val (by rfl) (by decide) (fun w' hT hD => ?_) ?_; (exact YldG_load 24 _ rfl b (off + y.toNat * 35 + 3) rfl (nums .u8 t.2.2.2) _ (th_parts (rangeAt_ext HRG.out (hT.ext HS6E.out HLO6.out))).2.2.2 Try.underlying24 rfl HIS.out); (try simp only [Act.put, List.setIfInBounds_toArray, List.set_cons_zero, List.set_cons_succ])
              refine wpG_val (by rfl) (by decide) (fun w' hT hD => ?_) ?_; (have hu := (hD.1 rfl (by kernel_rfl)).1; subst hu; exact YldG_eql 24 24 (.tmp 101) (.tmp 107) rfl _ _ rfl rfl (by kernel_rfl) true (HQS.out w')); (try simp only [Act.put, List.setIfInBounds_toArray, List.set_cons_zero, List.set_cons_succ])
              iterate 1 (refine wpG_val (by rfl) (by decide) (fun w' hT hD => ?_) ?_; (unfold YldG; go_simp; exact ⟨Ext.refl _, rfl⟩); (try simp only [Act.put, List.setIfInBounds_toArray, List.set_cons_zero, List.set_cons_succ]))
              refine wpG_nil fun w9 hT hA => ?_
              obtain ⟨hu, hRd9⟩ := hA.1 rfl
              subst hu
              have HR9 := Aside0.mk hRd9
              have HE9 := Aside0.mk (hT.ext HS6E.out HLO6.out)
              clear hA hT hRd9 HS6 HS6E
              simp only [List.drop_succ_cons, List.drop_zero]
              refine wpList_nil ?_
              go_wp2_with fail
              apply wp_region_facts 18 [RF.val (.pointer (some ⟨b1, 0, none⟩)), RF.val (.bool false), RF.val (.slice (some adE) 40 cE), RF.val (.int .i64 y), RF.val (.pointer (some (adE.add y.toNat))), RF.val (.int .i64 E), RF.val (.int .i64 r), RF.val (.bool false), RF.val (.bool false), RF.val (.bool false), RF.val (.pointer (some ⟨b1, 0, none⟩)), RF.val (.bool false), RF.val (.bool true), RF.val (.bool true), RF.val (.bool true), RF.val (.bool false), RF.val (.bool false), RF.val (.bool false)] (by kernel_rfl) (by kernel_rfl)
              simp only [List.take_succ_cons, List.take_zero, List.zip_cons_cons, List.zip_nil_left]
              iterate 1 ((first | apply wpF_val rfl | apply wpF_valg (by rfl)); (intro w' hE hD; unfold Yld; go_simp; exact ⟨Ext.refl _, rfl⟩); (try simp only [Act.put, List.setIfInBounds_toArray, List.set_cons_zero, List.set_cons_succ]))
              (first | apply wpF_val rfl | apply wpF_valg (by rfl)); (intro w' hE hD; unfold Yld; go_simp; exact (bad_calls w' lo hi b1 _ false (HR9.out.ext hE)).mono fun e w2 h => ⟨_, h.1, h.2, rfl⟩); (try simp only [Act.put, List.setIfInBounds_toArray, List.set_cons_zero, List.set_cons_succ])
              iterate 3 ((first | apply wpF_val rfl | apply wpF_valg (by rfl)); (intro w' hE hD; unfold Yld; go_simp; exact ⟨Ext.refl _, rfl⟩); (try simp only [Act.put, List.setIfInBounds_toArray, List.set_cons_zero, List.set_cons_succ]))
              (first | apply wpF_val rfl | apply wpF_valg (by rfl)); (intro w' hE hD; have e0 := Ext.cell (HE9.out.trans hE) HCELL.out; unfold Yld; go_simp; exact ⟨Ext.refl _, rfl⟩); (try simp only [Act.put, List.setIfInBounds_toArray, List.set_cons_zero, List.set_cons_succ])
              iterate 5 ((first | apply wpF_val rfl | apply wpF_valg (by rfl)); (intro w' hE hD; unfold Yld; go_simp; exact ⟨Ext.refl _, rfl⟩); (try simp only [Act.put, List.setIfInBounds_toArray, List.set_cons_zero, List.set_cons_succ]))
              (first | apply wpF_val rfl | apply wpF_valg (by rfl)); (intro w' hE hD; unfold Yld; go_simp; exact (bad_calls w' lo hi b1 _ false (HR9.out.ext hE)).mono fun e w2 h => ⟨_, h.1, h.2, rfl⟩); (try simp only [Act.put, List.setIfInBounds_toArray, List.set_cons_zero, List.set_cons_succ])
              iterate 6 ((first | apply wpF_val rfl | apply wpF_valg (by rfl)); (intro w' hE hD; unfold Yld; go_simp; exact ⟨Ext.refl _, rfl⟩); (try simp only [Act.put, List.setIfInBounds_toArray, List.set_cons_zero, List.set_cons_succ]))
              refine wpF_nil fun wb hE hA => ?_
              have HRb := Aside0.mk (HR9.out.ext hE)
              have HEb := Aside0.mk (HE9.out.trans hE)
              clear hA hE HR9 HE9
              simp only [List.drop_succ_cons, List.drop_zero]
              refine wpList_nil ?_
              go_wp2_with fail
              refine (bad_calls wb lo hi b1 _ false HRb.out).mono ?_
              rintro e wa ⟨rfl, hE⟩
              have HRa := Aside0.mk (HRb.out.ext hE)
              have HEa := Aside0.mk (HEb.out.trans hE)
              clear hE HRb HEb
              go_wp2
              go_roundw
              case rel => exact ⟨y + 1, rfl, ⟨by omega, by have := HLY.out; omega⟩, HNP, by rw [← HRest.out]; exact HRa, HEa⟩
              case measure => have := HLY.out; simp only [intOf]; omega
            · have hth : thB t = refB t.2.2.1 t.2.2.2 := by unfold thB; rw [if_neg (by rw [HT.out]; decide), if_neg (by rw [HT.out]; decide)]
              have HV1 := Aside0.mk (show numI ((thB t ++ rest).take 8) = t.2.2.1 ∧ ((thB t ++ rest).take 40).drop 8 = t.2.2.2 by rw [hth]; unfold refB; constructor; (rw [List.append_assoc, List.take_left' (be8_length _)]; exact numI_be8 _ HTO.out.2.2.1.1 HTO.out.2.2.1.2); (rw [List.take_left' (by rw [List.length_append, be8_length, HTO.out.2.2.2.1]), List.drop_left' (be8_length _)]))
              have HV2 := Aside0.mk (show (thB t ++ rest).drop 40 = rest by rw [hth, List.drop_left' (by unfold refB; rw [List.length_append, be8_length, HTO.out.2.2.2.1])])
              have HLN := Aside0.mk (show 40 ≤ (thB t ++ rest).length by rw [List.length_append, hth, show (refB t.2.2.1 t.2.2.2).length = 40 from by unfold refB; rw [List.length_append, be8_length, HTO.out.2.2.2.1]]; omega)
              clear hth
              go_wp2_with fail
              apply wp_region_G 9 1 (fun w w' => Tch w w' lo hi) (fun _ _ h => Tch.of_ext h lo hi) (fun _ _ _ h k => h.trans k) [GF.val (.pointer (some ⟨b1, 0, none⟩)), GF.fact true (fun u W => u = refV t.2.2.1 t.2.2.2 ∧ Rd W lo hi b1 rest false), GF.val (.slice (some ⟨b, off, none⟩) 40 c), GF.val (.int .i64 y), GF.val (.pointer (some ⟨b, off + y.toNat * 35, none⟩)), GF.val (.pointer (some ⟨b, off + y.toNat * 35 + 2, none⟩)), GF.val (refV t.2.2.1 t.2.2.2), GF.val (.bool true), GF.val (.bool true)] (by kernel_rfl) (by kernel_rfl)
              simp only [List.take_succ_cons, List.take_zero, List.zip_cons_cons, List.zip_nil_left]
              iterate 1 (refine wpG_val (by rfl) (by decide) (fun w' hT hD => ?_) ?_; (unfold YldG; go_simp; exact ⟨Ext.refl _, rfl⟩); (try simp only [Act.put, List.setIfInBounds_toArray, List.set_cons_zero, List.set_cons_succ]))
              refine wpG_here (by rfl) rfl (fun u W W' h he => ⟨h.1, h.2.ext he⟩) (fun w' hE hD => ?_) (fun u => ?_)
              · unfold YldG
                go_simp
                exact (rdref_ok w' lo hi b1 _ (HS6.out.ext hE) HXB.out HLN.out).mono fun e w2 ⟨h1, h2, h3⟩ => ⟨_, h1, h3, by rw [HV1.out.1, HV1.out.2], by rw [HV2.out] at h2; exact h2⟩
              (try simp only [Act.put, List.setIfInBounds_toArray, List.set_cons_zero, List.set_cons_succ])
              iterate 4 (refine wpG_val (by rfl) (by decide) (fun w' hT hD => ?_) ?_; (unfold YldG; go_simp; exact ⟨Ext.refl _, rfl⟩); (try simp only [Act.put, List.setIfInBounds_toArray, List.set_cons_zero, List.set_cons_succ]))
              refine wpG_val (by rfl) (by decide) (fun w' hT hD => ?_) ?_; (exact YldG_load 26 _ rfl b (off + y.toNat * 35 + 2) rfl (refC t.2.2.1 t.2.2.2) _ (th_parts (rangeAt_ext HRG.out (hT.ext HS6E.out HLO6.out))).2.2.1 Try.underlying26 rfl HIR.out); (try simp only [Act.put, List.setIfInBounds_toArray, List.set_cons_zero, List.set_cons_succ])
              refine wpG_val (by rfl) (by decide) (fun w' hT hD => ?_) ?_; (have hu := (hD.1 rfl (by kernel_rfl)).1; subst hu; exact YldG_eql 26 26 (.tmp 81) (.tmp 86) rfl _ _ rfl rfl (by kernel_rfl) true (HQR.out w')); (try simp only [Act.put, List.setIfInBounds_toArray, List.set_cons_zero, List.set_cons_succ])
              iterate 1 (refine wpG_val (by rfl) (by decide) (fun w' hT hD => ?_) ?_; (unfold YldG; go_simp; exact ⟨Ext.refl _, rfl⟩); (try simp only [Act.put, List.setIfInBounds_toArray, List.set_cons_zero, List.set_cons_succ]))
              refine wpG_nil fun w9 hT hA => ?_
              obtain ⟨hu, hRd9⟩ := hA.1 rfl
              subst hu
              have HR9 := Aside0.mk hRd9
              have HE9 := Aside0.mk (hT.ext HS6E.out HLO6.out)
              clear hA hT hRd9 HS6 HS6E
              simp only [List.drop_succ_cons, List.drop_zero]
              refine wpList_nil ?_
              go_wp2_with fail
              apply wp_region_facts 18 [RF.val (.pointer (some ⟨b1, 0, none⟩)), RF.val (.bool false), RF.val (.slice (some adE) 40 cE), RF.val (.int .i64 y), RF.val (.pointer (some (adE.add y.toNat))), RF.val (.int .i64 E), RF.val (.int .i64 r), RF.val (.bool false), RF.val (.bool false), RF.val (.bool false), RF.val (.pointer (some ⟨b1, 0, none⟩)), RF.val (.bool false), RF.val (.bool true), RF.val (.bool true), RF.val (.bool true), RF.val (.bool false), RF.val (.bool false), RF.val (.bool false)] (by kernel_rfl) (by kernel_rfl)
              simp only [List.take_succ_cons, List.take_zero, List.zip_cons_cons, List.zip_nil_left]
              iterate 1 ((first | apply wpF_val rfl | apply wpF_valg (by rfl)); (intro w' hE hD; unfold Yld; go_simp; exact ⟨Ext.refl _, rfl⟩); (try simp only [Act.put, List.setIfInBounds_toArray, List.set_cons_zero, List.set_cons_succ]))
              (first | apply wpF_val rfl | apply wpF_valg (by rfl)); (intro w' hE hD; unfold Yld; go_simp; exact (bad_calls w' lo hi b1 _ false (HR9.out.ext hE)).mono fun e w2 h => ⟨_, h.1, h.2, rfl⟩); (try simp only [Act.put, List.setIfInBounds_toArray, List.set_cons_zero, List.set_cons_succ])
              iterate 3 ((first | apply wpF_val rfl | apply wpF_valg (by rfl)); (intro w' hE hD; unfold Yld; go_simp; exact ⟨Ext.refl _, rfl⟩); (try simp only [Act.put, List.setIfInBounds_toArray, List.set_cons_zero, List.set_cons_succ]))
              (first | apply wpF_val rfl | apply wpF_valg (by rfl)); (intro w' hE hD; have e0 := Ext.cell (HE9.out.trans hE) HCELL.out; unfold Yld; go_simp; exact ⟨Ext.refl _, rfl⟩); (try simp only [Act.put, List.setIfInBounds_toArray, List.set_cons_zero, List.set_cons_succ])
              iterate 5 ((first | apply wpF_val rfl | apply wpF_valg (by rfl)); (intro w' hE hD; unfold Yld; go_simp; exact ⟨Ext.refl _, rfl⟩); (try simp only [Act.put, List.setIfInBounds_toArray, List.set_cons_zero, List.set_cons_succ]))
              (first | apply wpF_val rfl | apply wpF_valg (by rfl)); (intro w' hE hD; unfold Yld; go_simp; exact (bad_calls w' lo hi b1 _ false (HR9.out.ext hE)).mono fun e w2 h => ⟨_, h.1, h.2, rfl⟩); (try simp only [Act.put, List.setIfInBounds_toArray, List.set_cons_zero, List.set_cons_succ])
              iterate 6 ((first | apply wpF_val rfl | apply wpF_valg (by rfl)); (intro w' hE hD; unfold Yld; go_simp; exact ⟨Ext.refl _, rfl⟩); (try simp only [Act.put, List.setIfInBounds_toArray, List.set_cons_zero, List.set_cons_succ]))
              refine wpF_nil fun wb hE hA => ?_
              have HRb := Aside0.mk (HR9.out.ext hE)
              have HEb := Aside0.mk (HE9.out.trans hE)
              clear hA hE HR9 HE9
              simp only [List.drop_succ_cons, List.drop_zero]
              refine wpList_nil ?_
              go_wp2_with fail
              refine (bad_calls wb lo hi b1 _ false HRb.out).mono ?_
              rintro e wa ⟨rfl, hE⟩
              have HRa := Aside0.mk (HRb.out.ext hE)
              have HEa := Aside0.mk (HEb.out.trans hE)
              clear hE HRb HEb
              go_wp2
              go_roundw
              case rel => exact ⟨y + 1, rfl, ⟨by omega, by have := HLY.out; omega⟩, HNP, by rw [← HRest.out]; exact HRa, HEa⟩
              case measure => have := HLY.out; simp only [intOf]; omega
          · have hgt : (r < E) = True := eq_true (by omega)
            have hgt' : (E > r) = True := eq_true (by omega)
            have HPL := Aside0.mk (show ((thB t ++ allB (L.drop (y.toNat + 1))).take (r.toNat - (allB (L.take y.toNat)).length)).length < (thB t).length by
              have h1 := HE1.out
              have h3 := HPR.out
              have h4 := thB_len HTO.out
              rw [List.length_take]
              omega)
            generalize (thB t ++ allB (L.drop (y.toNat + 1))).take (r.toNat - (allB (L.take y.toNat)).length) = part at HS6 HPL
            have hcase : q = 0 ∨ q = 1 ∨ q = 2 := by omega
            rcases hcase with rfl | rfl | rfl
            · have hth : thB t = be8 t.2.1 := by unfold thB; rw [if_pos HT.out]
              have HLN := Aside0.mk (show part.length < 8 by have := HPL.out; rw [hth, be8_length _] at this; exact this)
              clear hth
              go_wp2_with fail
              apply wp_region_G 9 1 (fun w w' => Tch w w' lo hi) (fun _ _ h => Tch.of_ext h lo hi) (fun _ _ _ h k => h.trans k) [GF.val (.pointer (some ⟨b1, 0, none⟩)), GF.fact true (fun u W => u = .int .i64 0 ∧ Rd W lo hi b1 part true), GF.val (.slice (some ⟨b, off, none⟩) 40 c), GF.val (.int .i64 y), GF.val (.pointer (some ⟨b, off + y.toNat * 35, none⟩)), GF.val (.pointer (some ⟨b, off + y.toNat * 35 + 1, none⟩)), GF.val (.int .i64 t.2.1), GF.fact true (fun _ _ => True), GF.fact true (fun _ _ => True)] (by kernel_rfl) (by kernel_rfl)
              simp only [List.take_succ_cons, List.take_zero, List.zip_cons_cons, List.zip_nil_left]
              iterate 1 (refine wpG_val (by rfl) (by decide) (fun w' hT hD => ?_) ?_; (unfold YldG; go_simp; exact ⟨Ext.refl _, rfl⟩); (try simp only [Act.put, List.setIfInBounds_toArray, List.set_cons_zero, List.set_cons_succ]))
              refine wpG_here (by rfl) rfl (fun u W W' h he => ⟨h.1, h.2.ext he⟩) (fun w' hE hD => ?_) (fun u => ?_)
              · unfold YldG
                go_simp
                exact (rdint_bad w' lo hi b1 _ false (HS6.out.ext hE) (.inr HLN.out)).mono fun e w2 ⟨h1, h2, h3⟩ => ⟨_, h1, h3, rfl, h2⟩
              (try simp only [Act.put, List.setIfInBounds_toArray, List.set_cons_zero, List.set_cons_succ])
              iterate 4 (refine wpG_val (by rfl) (by decide) (fun w' hT hD => ?_) ?_; (unfold YldG; go_simp; exact ⟨Ext.refl _, rfl⟩); (try simp only [Act.put, List.setIfInBounds_toArray, List.set_cons_zero, List.set_cons_succ]))
              refine wpG_val (by rfl) (by decide) (fun w' hT hD => ?_) ?_; (have e0 := (th_parts (rangeAt_ext HRG.out (hT.ext HS6E.out HLO6.out))).2.1; unfold YldG; go_simp; exact ⟨Ext.refl _, rfl⟩); (try simp only [Act.put, List.setIfInBounds_toArray, List.set_cons_zero, List.set_cons_succ])
              refine wpG_fact (by rfl) (by decide) (fun _ _ _ _ _ _ => trivial) (fun _ _ _ _ _ => trivial) (fun w' hT hD => ?_) (fun u3 => ?_)
              · have hu := (hD.1 rfl (by kernel_rfl)).1
                subst hu
                unfold YldG; go_simp; exact ⟨Ext.refl _, trivial⟩
              (try simp only [Act.put, List.setIfInBounds_toArray, List.set_cons_zero, List.set_cons_succ])
              refine wpG_fact (by rfl) (by decide) (fun _ _ _ _ _ _ => trivial) (fun _ _ _ _ _ => trivial) (fun w' hT hD => ?_) (fun u4' => ?_)
              · unfold YldG
                go_simp
                exact ⟨Ext.refl _, trivial⟩
              (try simp only [Act.put, List.setIfInBounds_toArray, List.set_cons_zero, List.set_cons_succ])
              refine wpG_nil fun w9 hT hA => ?_
              obtain ⟨hu, hRd9⟩ := hA.1 rfl
              subst hu
              have HR9 := Aside0.mk hRd9
              have HE9 := Aside0.mk (hT.ext HS6E.out HLO6.out)
              clear hA hT hRd9 HS6 HS6E
              simp only [List.drop_succ_cons, List.drop_zero]
              refine wpList_nil ?_
              go_wp2_with fail
              apply wp_region_facts 18 [RF.val (.pointer (some ⟨b1, 0, none⟩)), RF.val (.bool true), RF.val (.slice (some adE) 40 cE), RF.val (.int .i64 y), RF.val (.pointer (some (adE.add y.toNat))), RF.val (.int .i64 E), RF.val (.int .i64 r), RF.val (.bool true), RF.val (.bool false), RF.val (.bool false), RF.val (.pointer (some ⟨b1, 0, none⟩)), RF.val (.bool true), RF.val (.bool false), RF.val (.bool false), RF.val undef, RF.val undef, RF.val (.bool false), RF.val (.bool false)] (by kernel_rfl) (by kernel_rfl)
              simp only [List.take_succ_cons, List.take_zero, List.zip_cons_cons, List.zip_nil_left]
              iterate 1 ((first | apply wpF_val rfl | apply wpF_valg (by rfl)); (intro w' hE hD; unfold Yld; go_simp; exact ⟨Ext.refl _, rfl⟩); (try simp only [Act.put, List.setIfInBounds_toArray, List.set_cons_zero, List.set_cons_succ]))
              (first | apply wpF_val rfl | apply wpF_valg (by rfl)); (intro w' hE hD; unfold Yld; go_simp; exact (bad_calls w' lo hi b1 _ true (HR9.out.ext hE)).mono fun e w2 h => ⟨_, h.1, h.2, rfl⟩); (try simp only [Act.put, List.setIfInBounds_toArray, List.set_cons_zero, List.set_cons_succ])
              iterate 3 ((first | apply wpF_val rfl | apply wpF_valg (by rfl)); (intro w' hE hD; unfold Yld; go_simp; exact ⟨Ext.refl _, rfl⟩); (try simp only [Act.put, List.setIfInBounds_toArray, List.set_cons_zero, List.set_cons_succ]))
              (first | apply wpF_val rfl | apply wpF_valg (by rfl)); (intro w' hE hD; have e0 := Ext.cell (HE9.out.trans hE) HCELL.out; unfold Yld; go_simp; exact ⟨Ext.refl _, rfl⟩); (try simp only [Act.put, List.setIfInBounds_toArray, List.set_cons_zero, List.set_cons_succ])
              iterate 5 ((first | apply wpF_val rfl | apply wpF_valg (by rfl)); (intro w' hE hD; unfold Yld; go_simp; exact ⟨Ext.refl _, rfl⟩); (try simp only [Act.put, List.setIfInBounds_toArray, List.set_cons_zero, List.set_cons_succ]))
              (first | apply wpF_val rfl | apply wpF_valg (by rfl)); (intro w' hE hD; unfold Yld; go_simp; exact (bad_calls w' lo hi b1 _ true (HR9.out.ext hE)).mono fun e w2 h => ⟨_, h.1, h.2, rfl⟩); (try simp only [Act.put, List.setIfInBounds_toArray, List.set_cons_zero, List.set_cons_succ])
              iterate 2 ((first | apply wpF_val rfl | apply wpF_valg (by rfl)); (intro w' hE hD; unfold Yld; go_simp; exact ⟨Ext.refl _, rfl⟩); (try simp only [Act.put, List.setIfInBounds_toArray, List.set_cons_zero, List.set_cons_succ]))
              iterate 2 (apply wpF_skip (by rfl); (try simp only [Act.put, List.setIfInBounds_toArray, List.set_cons_zero, List.set_cons_succ]))
              iterate 2 ((first | apply wpF_val rfl | apply wpF_valg (by rfl)); (intro w' hE hD; unfold Yld; go_simp; exact ⟨Ext.refl _, rfl⟩); (try simp only [Act.put, List.setIfInBounds_toArray, List.set_cons_zero, List.set_cons_succ]))
              refine wpF_nil fun wb hE hA => ?_
              have HRb := Aside0.mk (HR9.out.ext hE)
              have HEb := Aside0.mk (HE9.out.trans hE)
              clear hA hE HR9 HE9
              simp only [List.drop_succ_cons, List.drop_zero]
              refine wpList_nil ?_
              go_wp2_with fail
              refine (bad_calls wb lo hi b1 _ true HRb.out).mono ?_
              rintro e wa ⟨rfl, hE⟩
              have HRa := Aside0.mk (HRb.out.ext hE)
              have HEa := Aside0.mk (HEb.out.trans hE)
              clear hE HRb HEb
              go_wp2_with fail
              refine (left_calls _ lo hi b1 _ true HRa.out).mono ?_
              rintro e x1 ⟨rfl, hE⟩
              have HR1 := Aside0.mk (HRa.out.ext hE)
              have HE1 := Aside0.mk (HEa.out.trans hE)
              clear hE HRa HEa
              rw [show leftI part true = 0 from rfl]
              go_wp2_with fail
              refine (end_calls _ lo hi b1 _ true HR1.out).mono ?_
              rintro e x2 ⟨rfl, hE⟩
              have HR2 := Aside0.mk (HR1.out.ext hE)
              have HE2 := Aside0.mk (HE1.out.trans hE)
              clear hE HR1 HE1
              rw [show endI part true = 4 from rfl]
              go_wp2_with fail
              refine (rdint_bad _ lo hi b1 _ true HR2.out (.inl rfl)).mono ?_
              rintro e x3 ⟨rfl, hR, hT⟩
              have HE3 := Aside0.mk (hT.ext HE2.out HLO6.out)
              clear hR hT HR2 HE2
              go_wp2_with fail
              refine (known_calls _).mono ?_
              rintro e x4 ⟨rfl, hE⟩
              have HE4 := Aside0.mk (HE6.out.trans (HE3.out.trans hE))
              clear hE HE3
              go_wp2
              go_ret
              exact ⟨rfl, HE4.out⟩
            · have hth : thB t = t.2.2.2 := by unfold thB; rw [if_neg (by rw [HT.out]; decide), if_pos HT.out]
              have HLN := Aside0.mk (show part.length < 32 by have := HPL.out; rw [hth, show (t.2.2.2).length = 32 from HTO.out.2.2.2.1] at this; exact this)
              clear hth
              go_wp2_with fail
              apply wp_region_G 10 1 (fun w w' => Tch w w' lo hi) (fun _ _ h => Tch.of_ext h lo hi) (fun _ _ _ h k => h.trans k) [GF.val (.pointer (some ⟨b1, 0, none⟩)), GF.fact true (fun u W => u = sumV zero32 ∧ Rd W lo hi b1 part true), GF.val (.slice (some ⟨b, off, none⟩) 40 c), GF.val (.int .i64 y), GF.val (.pointer (some ⟨b, off + y.toNat * 35, none⟩)), GF.val (.pointer (some ⟨b, off + y.toNat * 35 + 2, none⟩)), GF.val (.pointer (some ⟨b, off + y.toNat * 35 + 3, none⟩)), GF.val (sumV t.2.2.2), GF.fact true (fun _ _ => True), GF.fact true (fun _ _ => True)] (by kernel_rfl) (by kernel_rfl)
              simp only [List.take_succ_cons, List.take_zero, List.zip_cons_cons, List.zip_nil_left]
              iterate 1 (refine wpG_val (by rfl) (by decide) (fun w' hT hD => ?_) ?_; (unfold YldG; go_simp; exact ⟨Ext.refl _, rfl⟩); (try simp only [Act.put, List.setIfInBounds_toArray, List.set_cons_zero, List.set_cons_succ]))
              refine wpG_here (by rfl) rfl (fun u W W' h he => ⟨h.1, h.2.ext he⟩) (fun w' hE hD => ?_) (fun u => ?_)
              · unfold YldG
                go_simp
                exact (rdsum_bad w' lo hi b1 _ false (HS6.out.ext hE) (.inr HLN.out)).mono fun e w2 ⟨h1, h2, h3⟩ => ⟨_, h1, h3, rfl, h2⟩
              (try simp only [Act.put, List.setIfInBounds_toArray, List.set_cons_zero, List.set_cons_succ])
              iterate 5 (refine wpG_val (by rfl) (by decide) (fun w' hT hD => ?_) ?_; (unfold YldG; go_simp; exact ⟨Ext.refl _, rfl⟩); (try simp only [Act.put, List.setIfInBounds_toArray, List.set_cons_zero, List.set_cons_succ]))
              refine wpG_val (by rfl) (by decide) (fun w' hT hD => ?_) ?_; (exact YldG_load 24 _ rfl b (off + y.toNat * 35 + 3) rfl (nums .u8 t.2.2.2) _ (th_parts (rangeAt_ext HRG.out (hT.ext HS6E.out HLO6.out))).2.2.2 Try.underlying24 rfl HIS.out); (try simp only [Act.put, List.setIfInBounds_toArray, List.set_cons_zero, List.set_cons_succ])
              refine wpG_fact (by rfl) (by decide) (fun _ _ _ _ _ _ => trivial) (fun _ _ _ _ _ => trivial) (fun w' hT hD => ?_) (fun u3 => ?_)
              · have hu := (hD.1 rfl (by kernel_rfl)).1
                subst hu
                exact YldG_any (YldG_eql 24 24 (.tmp 101) (.tmp 107) rfl _ _ rfl rfl (by kernel_rfl) _ (equal_sum zero32 t.2.2.2 rfl HTO.out.2.2.2.1 zero32_isB HTO.out.2.2.2.2 w'))
              (try simp only [Act.put, List.setIfInBounds_toArray, List.set_cons_zero, List.set_cons_succ])
              refine wpG_fact (by rfl) (by decide) (fun _ _ _ _ _ _ => trivial) (fun _ _ _ _ _ => trivial) (fun w' hT hD => ?_) (fun u4' => ?_)
              · unfold YldG
                go_simp
                exact ⟨Ext.refl _, trivial⟩
              (try simp only [Act.put, List.setIfInBounds_toArray, List.set_cons_zero, List.set_cons_succ])
              refine wpG_nil fun w9 hT hA => ?_
              obtain ⟨hu, hRd9⟩ := hA.1 rfl
              subst hu
              have HR9 := Aside0.mk hRd9
              have HE9 := Aside0.mk (hT.ext HS6E.out HLO6.out)
              clear hA hT hRd9 HS6 HS6E
              simp only [List.drop_succ_cons, List.drop_zero]
              refine wpList_nil ?_
              go_wp2_with fail
              apply wp_region_facts 18 [RF.val (.pointer (some ⟨b1, 0, none⟩)), RF.val (.bool true), RF.val (.slice (some adE) 40 cE), RF.val (.int .i64 y), RF.val (.pointer (some (adE.add y.toNat))), RF.val (.int .i64 E), RF.val (.int .i64 r), RF.val (.bool true), RF.val (.bool false), RF.val (.bool false), RF.val (.pointer (some ⟨b1, 0, none⟩)), RF.val (.bool true), RF.val (.bool false), RF.val (.bool false), RF.val undef, RF.val undef, RF.val (.bool false), RF.val (.bool false)] (by kernel_rfl) (by kernel_rfl)
              simp only [List.take_succ_cons, List.take_zero, List.zip_cons_cons, List.zip_nil_left]
              iterate 1 ((first | apply wpF_val rfl | apply wpF_valg (by rfl)); (intro w' hE hD; unfold Yld; go_simp; exact ⟨Ext.refl _, rfl⟩); (try simp only [Act.put, List.setIfInBounds_toArray, List.set_cons_zero, List.set_cons_succ]))
              (first | apply wpF_val rfl | apply wpF_valg (by rfl)); (intro w' hE hD; unfold Yld; go_simp; exact (bad_calls w' lo hi b1 _ true (HR9.out.ext hE)).mono fun e w2 h => ⟨_, h.1, h.2, rfl⟩); (try simp only [Act.put, List.setIfInBounds_toArray, List.set_cons_zero, List.set_cons_succ])
              iterate 3 ((first | apply wpF_val rfl | apply wpF_valg (by rfl)); (intro w' hE hD; unfold Yld; go_simp; exact ⟨Ext.refl _, rfl⟩); (try simp only [Act.put, List.setIfInBounds_toArray, List.set_cons_zero, List.set_cons_succ]))
              (first | apply wpF_val rfl | apply wpF_valg (by rfl)); (intro w' hE hD; have e0 := Ext.cell (HE9.out.trans hE) HCELL.out; unfold Yld; go_simp; exact ⟨Ext.refl _, rfl⟩); (try simp only [Act.put, List.setIfInBounds_toArray, List.set_cons_zero, List.set_cons_succ])
              iterate 5 ((first | apply wpF_val rfl | apply wpF_valg (by rfl)); (intro w' hE hD; unfold Yld; go_simp; exact ⟨Ext.refl _, rfl⟩); (try simp only [Act.put, List.setIfInBounds_toArray, List.set_cons_zero, List.set_cons_succ]))
              (first | apply wpF_val rfl | apply wpF_valg (by rfl)); (intro w' hE hD; unfold Yld; go_simp; exact (bad_calls w' lo hi b1 _ true (HR9.out.ext hE)).mono fun e w2 h => ⟨_, h.1, h.2, rfl⟩); (try simp only [Act.put, List.setIfInBounds_toArray, List.set_cons_zero, List.set_cons_succ])
              iterate 2 ((first | apply wpF_val rfl | apply wpF_valg (by rfl)); (intro w' hE hD; unfold Yld; go_simp; exact ⟨Ext.refl _, rfl⟩); (try simp only [Act.put, List.setIfInBounds_toArray, List.set_cons_zero, List.set_cons_succ]))
              iterate 2 (apply wpF_skip (by rfl); (try simp only [Act.put, List.setIfInBounds_toArray, List.set_cons_zero, List.set_cons_succ]))
              iterate 2 ((first | apply wpF_val rfl | apply wpF_valg (by rfl)); (intro w' hE hD; unfold Yld; go_simp; exact ⟨Ext.refl _, rfl⟩); (try simp only [Act.put, List.setIfInBounds_toArray, List.set_cons_zero, List.set_cons_succ]))
              refine wpF_nil fun wb hE hA => ?_
              have HRb := Aside0.mk (HR9.out.ext hE)
              have HEb := Aside0.mk (HE9.out.trans hE)
              clear hA hE HR9 HE9
              simp only [List.drop_succ_cons, List.drop_zero]
              refine wpList_nil ?_
              go_wp2_with fail
              refine (bad_calls wb lo hi b1 _ true HRb.out).mono ?_
              rintro e wa ⟨rfl, hE⟩
              have HRa := Aside0.mk (HRb.out.ext hE)
              have HEa := Aside0.mk (HEb.out.trans hE)
              clear hE HRb HEb
              go_wp2_with fail
              refine (left_calls _ lo hi b1 _ true HRa.out).mono ?_
              rintro e x1 ⟨rfl, hE⟩
              have HR1 := Aside0.mk (HRa.out.ext hE)
              have HE1 := Aside0.mk (HEa.out.trans hE)
              clear hE HRa HEa
              rw [show leftI part true = 0 from rfl]
              go_wp2_with fail
              refine (end_calls _ lo hi b1 _ true HR1.out).mono ?_
              rintro e x2 ⟨rfl, hE⟩
              have HR2 := Aside0.mk (HR1.out.ext hE)
              have HE2 := Aside0.mk (HE1.out.trans hE)
              clear hE HR1 HE1
              rw [show endI part true = 4 from rfl]
              go_wp2_with fail
              refine (rdint_bad _ lo hi b1 _ true HR2.out (.inl rfl)).mono ?_
              rintro e x3 ⟨rfl, hR, hT⟩
              have HE3 := Aside0.mk (hT.ext HE2.out HLO6.out)
              clear hR hT HR2 HE2
              go_wp2_with fail
              refine (known_calls _).mono ?_
              rintro e x4 ⟨rfl, hE⟩
              have HE4 := Aside0.mk (HE6.out.trans (HE3.out.trans hE))
              clear hE HE3
              go_wp2
              go_ret
              exact ⟨rfl, HE4.out⟩
            · have hth : thB t = refB t.2.2.1 t.2.2.2 := by unfold thB; rw [if_neg (by rw [HT.out]; decide), if_neg (by rw [HT.out]; decide)]
              have HLN := Aside0.mk (show part.length < 40 by have := HPL.out; rw [hth, show (refB t.2.2.1 t.2.2.2).length = 40 from by unfold refB; rw [List.length_append, be8_length, HTO.out.2.2.2.1]] at this; exact this)
              clear hth
              go_wp2_with fail
              apply wp_region_G 9 1 (fun w w' => Tch w w' lo hi) (fun _ _ h => Tch.of_ext h lo hi) (fun _ _ _ h k => h.trans k) [GF.val (.pointer (some ⟨b1, 0, none⟩)), GF.fact true (fun u W => u = refV 0 zero32 ∧ Rd W lo hi b1 part true), GF.val (.slice (some ⟨b, off, none⟩) 40 c), GF.val (.int .i64 y), GF.val (.pointer (some ⟨b, off + y.toNat * 35, none⟩)), GF.val (.pointer (some ⟨b, off + y.toNat * 35 + 2, none⟩)), GF.val (refV t.2.2.1 t.2.2.2), GF.fact true (fun _ _ => True), GF.fact true (fun _ _ => True)] (by kernel_rfl) (by kernel_rfl)
              simp only [List.take_succ_cons, List.take_zero, List.zip_cons_cons, List.zip_nil_left]
              iterate 1 (refine wpG_val (by rfl) (by decide) (fun w' hT hD => ?_) ?_; (unfold YldG; go_simp; exact ⟨Ext.refl _, rfl⟩); (try simp only [Act.put, List.setIfInBounds_toArray, List.set_cons_zero, List.set_cons_succ]))
              refine wpG_here (by rfl) rfl (fun u W W' h he => ⟨h.1, h.2.ext he⟩) (fun w' hE hD => ?_) (fun u => ?_)
              · unfold YldG
                go_simp
                exact (rdref_bad w' lo hi b1 _ false (HS6.out.ext hE) (.inr HLN.out)).mono fun e w2 ⟨h1, h2, h3⟩ => ⟨_, h1, h3, rfl, h2⟩
              (try simp only [Act.put, List.setIfInBounds_toArray, List.set_cons_zero, List.set_cons_succ])
              iterate 4 (refine wpG_val (by rfl) (by decide) (fun w' hT hD => ?_) ?_; (unfold YldG; go_simp; exact ⟨Ext.refl _, rfl⟩); (try simp only [Act.put, List.setIfInBounds_toArray, List.set_cons_zero, List.set_cons_succ]))
              refine wpG_val (by rfl) (by decide) (fun w' hT hD => ?_) ?_; (exact YldG_load 26 _ rfl b (off + y.toNat * 35 + 2) rfl (refC t.2.2.1 t.2.2.2) _ (th_parts (rangeAt_ext HRG.out (hT.ext HS6E.out HLO6.out))).2.2.1 Try.underlying26 rfl HIR.out); (try simp only [Act.put, List.setIfInBounds_toArray, List.set_cons_zero, List.set_cons_succ])
              refine wpG_fact (by rfl) (by decide) (fun _ _ _ _ _ _ => trivial) (fun _ _ _ _ _ => trivial) (fun w' hT hD => ?_) (fun u3 => ?_)
              · have hu := (hD.1 rfl (by kernel_rfl)).1
                subst hu
                exact YldG_any (YldG_eql 26 26 (.tmp 81) (.tmp 86) rfl _ _ rfl rfl (by kernel_rfl) _ (equal_ref 0 t.2.2.1 zero32 t.2.2.2 rfl (wf_i64 HTO.out.2.2.1) rfl HTO.out.2.2.2.1 zero32_isB HTO.out.2.2.2.2 w'))
              (try simp only [Act.put, List.setIfInBounds_toArray, List.set_cons_zero, List.set_cons_succ])
              refine wpG_fact (by rfl) (by decide) (fun _ _ _ _ _ _ => trivial) (fun _ _ _ _ _ => trivial) (fun w' hT hD => ?_) (fun u4' => ?_)
              · unfold YldG
                go_simp
                exact ⟨Ext.refl _, trivial⟩
              (try simp only [Act.put, List.setIfInBounds_toArray, List.set_cons_zero, List.set_cons_succ])
              refine wpG_nil fun w9 hT hA => ?_
              obtain ⟨hu, hRd9⟩ := hA.1 rfl
              subst hu
              have HR9 := Aside0.mk hRd9
              have HE9 := Aside0.mk (hT.ext HS6E.out HLO6.out)
              clear hA hT hRd9 HS6 HS6E
              simp only [List.drop_succ_cons, List.drop_zero]
              refine wpList_nil ?_
              go_wp2_with fail
              apply wp_region_facts 18 [RF.val (.pointer (some ⟨b1, 0, none⟩)), RF.val (.bool true), RF.val (.slice (some adE) 40 cE), RF.val (.int .i64 y), RF.val (.pointer (some (adE.add y.toNat))), RF.val (.int .i64 E), RF.val (.int .i64 r), RF.val (.bool true), RF.val (.bool false), RF.val (.bool false), RF.val (.pointer (some ⟨b1, 0, none⟩)), RF.val (.bool true), RF.val (.bool false), RF.val (.bool false), RF.val undef, RF.val undef, RF.val (.bool false), RF.val (.bool false)] (by kernel_rfl) (by kernel_rfl)
              simp only [List.take_succ_cons, List.take_zero, List.zip_cons_cons, List.zip_nil_left]
              iterate 1 ((first | apply wpF_val rfl | apply wpF_valg (by rfl)); (intro w' hE hD; unfold Yld; go_simp; exact ⟨Ext.refl _, rfl⟩); (try simp only [Act.put, List.setIfInBounds_toArray, List.set_cons_zero, List.set_cons_succ]))
              (first | apply wpF_val rfl | apply wpF_valg (by rfl)); (intro w' hE hD; unfold Yld; go_simp; exact (bad_calls w' lo hi b1 _ true (HR9.out.ext hE)).mono fun e w2 h => ⟨_, h.1, h.2, rfl⟩); (try simp only [Act.put, List.setIfInBounds_toArray, List.set_cons_zero, List.set_cons_succ])
              iterate 3 ((first | apply wpF_val rfl | apply wpF_valg (by rfl)); (intro w' hE hD; unfold Yld; go_simp; exact ⟨Ext.refl _, rfl⟩); (try simp only [Act.put, List.setIfInBounds_toArray, List.set_cons_zero, List.set_cons_succ]))
              (first | apply wpF_val rfl | apply wpF_valg (by rfl)); (intro w' hE hD; have e0 := Ext.cell (HE9.out.trans hE) HCELL.out; unfold Yld; go_simp; exact ⟨Ext.refl _, rfl⟩); (try simp only [Act.put, List.setIfInBounds_toArray, List.set_cons_zero, List.set_cons_succ])
              iterate 5 ((first | apply wpF_val rfl | apply wpF_valg (by rfl)); (intro w' hE hD; unfold Yld; go_simp; exact ⟨Ext.refl _, rfl⟩); (try simp only [Act.put, List.setIfInBounds_toArray, List.set_cons_zero, List.set_cons_succ]))
              (first | apply wpF_val rfl | apply wpF_valg (by rfl)); (intro w' hE hD; unfold Yld; go_simp; exact (bad_calls w' lo hi b1 _ true (HR9.out.ext hE)).mono fun e w2 h => ⟨_, h.1, h.2, rfl⟩); (try simp only [Act.put, List.setIfInBounds_toArray, List.set_cons_zero, List.set_cons_succ])
              iterate 2 ((first | apply wpF_val rfl | apply wpF_valg (by rfl)); (intro w' hE hD; unfold Yld; go_simp; exact ⟨Ext.refl _, rfl⟩); (try simp only [Act.put, List.setIfInBounds_toArray, List.set_cons_zero, List.set_cons_succ]))
              iterate 2 (apply wpF_skip (by rfl); (try simp only [Act.put, List.setIfInBounds_toArray, List.set_cons_zero, List.set_cons_succ]))
              iterate 2 ((first | apply wpF_val rfl | apply wpF_valg (by rfl)); (intro w' hE hD; unfold Yld; go_simp; exact ⟨Ext.refl _, rfl⟩); (try simp only [Act.put, List.setIfInBounds_toArray, List.set_cons_zero, List.set_cons_succ]))
              refine wpF_nil fun wb hE hA => ?_
              have HRb := Aside0.mk (HR9.out.ext hE)
              have HEb := Aside0.mk (HE9.out.trans hE)
              clear hA hE HR9 HE9
              simp only [List.drop_succ_cons, List.drop_zero]
              refine wpList_nil ?_
              go_wp2_with fail
              refine (bad_calls wb lo hi b1 _ true HRb.out).mono ?_
              rintro e wa ⟨rfl, hE⟩
              have HRa := Aside0.mk (HRb.out.ext hE)
              have HEa := Aside0.mk (HEb.out.trans hE)
              clear hE HRb HEb
              go_wp2_with fail
              refine (left_calls _ lo hi b1 _ true HRa.out).mono ?_
              rintro e x1 ⟨rfl, hE⟩
              have HR1 := Aside0.mk (HRa.out.ext hE)
              have HE1 := Aside0.mk (HEa.out.trans hE)
              clear hE HRa HEa
              rw [show leftI part true = 0 from rfl]
              go_wp2_with fail
              refine (end_calls _ lo hi b1 _ true HR1.out).mono ?_
              rintro e x2 ⟨rfl, hE⟩
              have HR2 := Aside0.mk (HR1.out.ext hE)
              have HE2 := Aside0.mk (HE1.out.trans hE)
              clear hE HR1 HE1
              rw [show endI part true = 4 from rfl]
              go_wp2_with fail
              refine (rdint_bad _ lo hi b1 _ true HR2.out (.inl rfl)).mono ?_
              rintro e x3 ⟨rfl, hR, hT⟩
              have HE3 := Aside0.mk (hT.ext HE2.out HLO6.out)
              clear hR hT HR2 HE2
              go_wp2_with fail
              refine (known_calls _).mono ?_
              rintro e x4 ⟨rfl, hE⟩
              have HE4 := Aside0.mk (HE6.out.trans (HE3.out.trans hE))
              clear hE HE3
              go_wp2
              go_ret
              exact ⟨rfl, HE4.out⟩
        · have hy : y = 40 := by omega
          rw [show allB (L.drop y.toNat) = [] by rw [List.drop_eq_nil_of_le (by rw [HL.out]; omega)]; rfl, List.take_nil] at HRd
          go_wp2_with fail
          refine (end_calls _ lo hi b1 _ false HRd.out).mono ?_
          rintro e wb ⟨rfl, hE⟩
          have HEb := Aside0.mk (HEr.out.trans hE)
          rw [show endI [] false = 0 from rfl]
          clear hE HRd HEr
          go_wp2_with fail
          refine (known_calls _).mono ?_
          rintro e wc ⟨rfl, hE⟩
          have HEc := Aside0.mk (HE6.out.trans (HEb.out.trans hE))
          clear hE HEb
          go_wp2
          go_ret
          exact ⟨rfl, HEc.out⟩

theorem cut_calls (w : World) (A : Option Addr) (c n : Nat) (cut : Int) (L : List Th) (hn : n = L.length) (hr : Kd.C kTh w A n L) (hc : n ≤ c) (hok : ∀ t ∈ L, Th.ok t) (hcut : -9223372036854775808 ≤ cut ∧ cut ≤ 9223372036854775807) :
    Calls Try.prog 8 #[.slice A n c, .int .i64 cut] w fun e w' => e = .returned (.bool true) ∧ Ext w w' := by
  by_cases h60 : n ≤ 40
  · exact cut_small w A c n cut L hr (Nat.le_refl _) hc h60 h60 hok hcut.1 hcut.2
  · have ht : Kd.C kTh w A 40 (L.take 40) := by
      have := Kd.C_take (m := 40) (hn ▸ hr) (by omega)
      rwa [show (L.take 40).length = 40 by rw [List.length_take]; omega] at this
    exact cut_big w A c n cut (L.take 40) ht (by omega) hc (by omega) (Nat.le_refl _) (fun t ht => hok t (List.mem_of_mem_take ht)) hcut.1 hcut.2
end Go.Proofs.Ytkjjkahdmlfflaa.By
