/- PackBack. -/
import Derived.Test.YtkjjkahdmlfflaaThing
namespace Go.Proofs.Ytkjjkahdmlfflaa.By
open Go.RowKit Go.Proofs.Ytkjjkahdmlfflaa.Reg Go.Proofs.YtkjjkahdmlfflaaW.PrintWords Go.Proofs.YtkjjkahdmlfflaaW.PrintLast Go.Proofs.YtkjjkahdmlfflaaW.PrintMore
set_option linter.unusedVariables false

/-- A thing's cells, one by one. -/
theorem th_parts {w : World} {b off : Nat} {t : Th} (h : w.rangeAt b off (thC t)) : w.cell? ⟨b, off, none⟩ = some (.int .i64 t.1) ∧ w.cell? ⟨b, off + 1, none⟩ = some (.int .i64 t.2.1) ∧ w.rangeAt b (off + 2) (refC t.2.2.1 t.2.2.2) ∧ w.rangeAt b (off + 3) (nums .u8 t.2.2.2) :=
  ⟨h 0 _ rfl, h 1 _ rfl, fun j v hv => by rw [Nat.add_assoc]; exact h (2 + j) v (by rw [Nat.add_comm]; exact hv), fun j v hv => by rw [Nat.add_assoc]; exact h (3 + j) v (by rw [Nat.add_comm]; exact hv)⟩
theorem copy_n (w : World) (A : Option Addr) (c n : Nat) (xs : List Int) (hn : n = xs.length) (hr : Kd.C kb w A n xs) (hc : n ≤ c) (hl : n < 140737488355328) :
    Calls Try.prog 42 #[.slice A n c] w fun e w' => ∃ V, e = .returned V ∧ NB w' w.heap.size V xs ∧ Ext w w' := by
  subst hn
  exact copy_calls w A c xs hr hc hl
theorem wf_i64 {x : Int} (hx : -9223372036854775808 ≤ x ∧ x ≤ 9223372036854775807) : (Lit.int .i64 x).wf = true := by
  simp [Lit.wf, IntKind.min, IntKind.max, IntKind.signed, IntKind.bits]
  omega
theorem YldG_load {P : Program} {w : World} {o : Oper} {a : Act} (ty : TypeId) (x : Operand) (ho : o.op = .load ty x) (b off : Nat) (hx : a.eval x = .pointer (some ⟨b, off, none⟩)) (cs : List Value) (d : TypeDesc) (hc : w.rangeAt b off cs)
    (hu : P.underlying ty = some d) (hd : d.isRow = true) (hi : (P.info? ty).map (·.size) = some cs.length) : YldG Ext P o a w (.val (.agg cs.toArray)) := by
  have h := Yld_load (P := P) (w := w) (o := o) (a := a) ty x ho b off hx cs d hc hu hd hi
  unfold Yld at h
  unfold YldG
  generalize (execOp a.eval o).run P w = r at h
  cases r with
  | ok n w' => cases n <;> exact h
  | halt x w' => exact h

set_option maxRecDepth 100000 in
set_option maxHeartbeats 8000000 in
theorem back_small (w : World) (A A1 : Option Addr) (c n c1 n1 : Nat) (L : List Th) (more : List Int) (hr : Kd.C kTh w A n L) (hmc : n ≤ n) (hc : n ≤ c) (h60 : n ≤ 60) (hm60 : n ≤ 60) (hok : ∀ t ∈ L, Th.ok t) (hn1 : n1 = more.length) (hr1 : Kd.C kb w A1 n1 more) (hc1 : n1 ≤ c1) (hB : isB more) (hsm : n1 ≤ 4096) :
    Calls Try.prog 7 #[.slice A n c, .slice A1 n1 c1] w fun e w' => e = .returned (.bool true) ∧ Ext w w' := by
  have HR := Aside0.mk hr
  have HR1 := Aside0.mk hr1
  have HN1 := Aside0.mk hn1
  have HB := Aside0.mk hB
  have HOK := Aside0.mk hok
  have HL := Aside0.mk (show L.length = n from hr.1)
  clear hr hr1 hn1 hB hok
  have hz : ((4096 : Int) < (n1 : Int)) = False := eq_false (by omega)
  have hi53 : ∃ i, Try.prog.info? 53 = some i := ⟨_, rfl⟩
  obtain ⟨i3, hi3⟩ := hi53
  have hcut := cut_to (P := Try.prog) 51 53 .i64 Try.underlying51 hi3 A n c n (by omega) (by omega) hc
  rw [Int.toNat_natCast] at hcut
  have hz60 : ((60 : Int) < (n : Int)) = False := eq_false (by omega)
  have hz60' : ((n : Int) ≤ 60) = True := eq_true (by omega)
  clear h60 hi3
  go_enter Try.func7, Try.ntmps7
  go_wp2_with fail
  go_loopw [5, 6] (fun v i wr => ∃ x : Int, i = .int .i64 x ∧ Aside0 (0 ≤ x ∧ x ≤ n) ∧ ∃ X k cx xs, v = .slice X k cx ∧ Aside0 (k = xs.length ∧ xs = allB (L.take x.toNat)) ∧ Aside0 (k ≤ cx ∧ Kd.C kb wr X k xs) ∧ Aside0 (Ext w wr)) (fun _ i _ => n - (intOf i).toNat)
  case atStart => exact ⟨0, rfl, ⟨by omega⟩, none, 0, 0, [], rfl, ⟨rfl, rfl⟩, ⟨Nat.le_refl _, Kd.C_nil kb w⟩, ⟨Ext.refl w⟩⟩
  case round =>
    obtain ⟨x, rfl, HX, X, k, cx, xs, rfl, HXS, HCX, HE⟩ := hrel
    obtain ⟨g0, g1⟩ := HX.out
    by_cases hlt : x < n
    · have HLT := Aside0.mk hlt
      have hxl : x.toNat < L.length := by rw [HL.out]; omega
      obtain ⟨b, off, rfl, hrg⟩ := th_at (Kd.C_below HR.out HE.out) x.toNat (by omega) _ (List.getElem?_eq_getElem hxl)
      have htk := allB_take L x.toNat _ (List.getElem?_eq_getElem hxl)
      have hto := HOK.out _ (List.getElem_mem hxl)
      generalize L[x.toNat] = t at hrg htk hto
      have HRG := Aside0.mk hrg
      have HTK := Aside0.mk htk
      have HTO := Aside0.mk hto
      obtain ⟨p0, p1, p2, p3⟩ := th_parts hrg
      have HP1 := Aside0.mk p1
      have HP2 := Aside0.mk p2
      have HP3 := Aside0.mk p3
      have hkl : k + 40 ≤ 140737488355328 := by
        have h1 := HXS.out
        have h2 := allB_len (L.take x.toNat) (fun t ht => HOK.out t (List.mem_of_mem_take ht))
        rw [List.length_take] at h2
        rw [h1.1, h1.2]
        omega
      clear hrg htk hto p1 p2 p3 hxl
      obtain ⟨wx, hwx⟩ : ∃ wx : World, wx = wr := ⟨_, rfl⟩
      subst hwx
      go_wp2_with fail
      refine (pick_calls wx t.1 3 _ HTO.out.1.1 HTO.out.1.2 (by decide) rfl).mono ?_
      rintro e w6 ⟨rfl, hE6⟩
      have hpr := pickT_range t.1 3 (by decide)
      have HRG6 := Aside0.mk (rangeAt_ext HRG.out hE6)
      have HC6 := Aside0.mk (Kd.C_below HCX.out.2 hE6)
      have HE6 := Aside0.mk (HE.out.trans hE6)
      obtain ⟨p0', p1', p2', p3'⟩ := th_parts HRG6.out
      have hcx := HCX.out.1
      have HP2' := Aside0.mk p2'
      have HP3' := Aside0.mk p3'
      have HIS := Aside0.mk (show (Try.prog.info? 24).map (·.size) = some (nums .u8 t.2.2.2).length by rw [nums_length, HTO.out.2.2.2.1]; kernel_rfl)
      have HIR := Aside0.mk (show (Try.prog.info? 26).map (·.size) = some (refC t.2.2.1 t.2.2.2).length by unfold refC; rw [List.length_cons, nums_length, HTO.out.2.2.2.1]; kernel_rfl)
      generalize hpk : pickT t.1 3 = q at hpr
      have HT := Aside0.mk hpk
      clear hE6 HRG HCX HE p0 HP1 HP2 HP3 p2' p3' hpk
      have hcase : q = 0 ∨ q = 1 ∨ q = 2 := by omega
      rcases hcase with rfl | rfl | rfl
      · go_wp2_with fail
        refine (int_at w6 X cx k xs t.2.1 HXS.out.1 HC6.out hcx (by omega)).mono ?_
        rintro e w7 ⟨V, rfl, hV, hE7⟩
        obtain ⟨X', c', rfl, hc', hC'⟩ := hV.reads
        generalize hys : xs ++ be8 t.2.1 = ys at hC' hc' ⊢
        generalize hkk : ys.length = kk at hC' hc' ⊢
        have HNX := Aside0.mk (show kk = ys.length ∧ ys = allB (L.take (x + 1).toNat) by
          refine ⟨hkk.symm, ?_⟩
          rw [show (x + 1).toNat = x.toNat + 1 by omega, HTK.out, ← hys, HXS.out.2]
          congr 1
          unfold thB
          rw [if_pos HT.out])
        have HNC := Aside0.mk (show kk ≤ c' ∧ Kd.C kb w7 X' kk ys from ⟨hc', hC'⟩)
        have HNE := Aside0.mk (HE6.out.trans hE7)
        clear hV hE7 hc' hC' hys hkk
        go_wp2
        go_roundw
        case rel => exact ⟨x + 1, rfl, ⟨by omega, by have := HLT.out; omega⟩, X', kk, c', ys, rfl, HNX, HNC, HNE⟩
        case measure => have := HLT.out; simp only [intOf]; omega
      · go_wp2_with (first | ((with_reducible refine gate_load (ty := 24) rfl ?_); refine load_at rfl 24 _ rfl b (off + x.toNat * 35 + 3) rfl (nums .u8 t.2.2.2) _ HP3'.out Try.underlying24 rfl HIS.out ?_) | fail)
        refine (sum_n w6 X cx k xs t.2.2.2 HXS.out.1 HC6.out hcx _ rfl HTO.out.2.2.2.1 (by omega)).mono ?_
        rintro e w7 ⟨V, rfl, hV, hE7⟩
        obtain ⟨X', c', rfl, hc', hC'⟩ := hV.reads
        generalize hys : xs ++ t.2.2.2 = ys at hC' hc' ⊢
        generalize hkk : ys.length = kk at hC' hc' ⊢
        have HNX := Aside0.mk (show kk = ys.length ∧ ys = allB (L.take (x + 1).toNat) by
          refine ⟨hkk.symm, ?_⟩
          rw [show (x + 1).toNat = x.toNat + 1 by omega, HTK.out, ← hys, HXS.out.2]
          congr 1
          unfold thB
          rw [if_neg (by rw [HT.out]; decide), if_pos HT.out])
        have HNC := Aside0.mk (show kk ≤ c' ∧ Kd.C kb w7 X' kk ys from ⟨hc', hC'⟩)
        have HNE := Aside0.mk (HE6.out.trans hE7)
        clear hV hE7 hc' hC' hys hkk
        go_wp2
        go_roundw
        case rel => exact ⟨x + 1, rfl, ⟨by omega, by have := HLT.out; omega⟩, X', kk, c', ys, rfl, HNX, HNC, HNE⟩
        case measure => have := HLT.out; simp only [intOf]; omega
      · go_wp2_with (first | ((with_reducible refine gate_load (ty := 26) rfl ?_); refine load_at rfl 26 _ rfl b (off + x.toNat * 35 + 2) rfl (refC t.2.2.1 t.2.2.2) _ HP2'.out Try.underlying26 rfl HIR.out ?_) | fail)
        refine (ref_at w6 X cx k xs t.2.2.2 t.2.2.1 _ HXS.out.1 rfl HTO.out.2.2.2.1 HC6.out hcx (by omega)).mono ?_
        rintro e w7 ⟨V, rfl, hV, hE7⟩
        obtain ⟨X', c', rfl, hc', hC'⟩ := hV.reads
        generalize hys : xs ++ refB t.2.2.1 t.2.2.2 = ys at hC' hc' ⊢
        generalize hkk : ys.length = kk at hC' hc' ⊢
        have HNX := Aside0.mk (show kk = ys.length ∧ ys = allB (L.take (x + 1).toNat) by
          refine ⟨hkk.symm, ?_⟩
          rw [show (x + 1).toNat = x.toNat + 1 by omega, HTK.out, ← hys, HXS.out.2]
          congr 1
          unfold thB
          rw [if_neg (by rw [HT.out]; decide), if_neg (by rw [HT.out]; decide)])
        have HNC := Aside0.mk (show kk ≤ c' ∧ Kd.C kb w7 X' kk ys from ⟨hc', hC'⟩)
        have HNE := Aside0.mk (HE6.out.trans hE7)
        clear hV hE7 hc' hC' hys hkk
        go_wp2
        go_roundw
        case rel => exact ⟨x + 1, rfl, ⟨by omega, by have := HLT.out; omega⟩, X', kk, c', ys, rfl, HNX, HNC, HNE⟩
        case measure => have := HLT.out; simp only [intOf]; omega
    · have hx : x = n := by omega
      have HL2 := Aside0.mk (show k = xs.length ∧ xs = allB L by
        refine ⟨HXS.out.1, ?_⟩
        rw [HXS.out.2, List.take_of_length_le (by rw [HL.out]; omega)])
      have hkl : k + 4096 ≤ 140737488355328 := by
        have h2 := allB_len L HOK.out
        rw [HL2.out.1, HL2.out.2]
        have := HL.out
        omega
      have HC := Aside0.mk HCX.out.2
      have hkc := HCX.out.1
      clear HXS HCX
      go_wp2_with fail
      refine (copy_n wr X cx k xs HL2.out.1 HC.out hkc (by omega)).mono ?_
      rintro e w6 ⟨V, rfl, hV, hE6⟩
      have HV := Aside0.mk hV
      have HE6 := Aside0.mk (HE.out.trans hE6)
      have HR6 := Aside0.mk (Kd.C_below HR1.out HE6.out)
      have HB6 : Aside0 (Below wr.heap.size wr w6) := ⟨hE6⟩
      have HER := Aside0.mk HE.out.size
      clear hV hE6 HC
      go_wp2_with (at_builtin; refine Kd.R_append_rows kb (Rr := kb.K w6) (w0 := wr) wr.heap.size rfl (.tmp 58) (.tmp 59) 22 5 _ 1 rfl Try.underlying22 PPackPuts.info5 rfl (by decide) (by decide) V xs more A1 n1 c1 (fun _ => True) (fun _ => False) rfl rfl HV.out ?c1 kb_KM (fun _ h => h.elim) (fun _ _ => trivial) HB6.out ?c2 ?c3 ?_)
      case c1 => exact HR6.out
      case c2 => exact HB6.out.size
      case c3 => rw [← HL2.out.1]; omega
      intro V1 w7 hR7 hB7 hg7 hat7
      replace hR7 : NB w7 wr.heap.size V1 (xs ++ more) := hR7
      obtain ⟨A2, c2, rfl, hl2, hC2⟩ := hR7.reads
      generalize hys : xs ++ more = ys at hl2 hC2 ⊢
      generalize hkk : ys.length = k2 at hl2 hC2 ⊢
      have HYS := Aside0.mk (show k2 = ys.length ∧ ys = allB L ++ more from ⟨hkk.symm, by rw [← hys, HL2.out.2]⟩)
      have hk2 : k2 ≤ 140737488355328 := by
        rw [HYS.out.1, ← hys, List.length_append, ← HL2.out.1, ← HN1.out]; omega
      have HC7 := Aside0.mk hC2
      have HE7 := Aside0.mk (HE.out.trans hB7)
      clear hR7 hB7 hg7 hat7 hC2 hys hkk HV HR6 HB6 HL2
      go_wp2_with fail
      refine (read_calls w7 A2 c2 k2 ys HYS.out.1 HC7.out hl2 hk2).mono ?_
      rintro e w8 ⟨b1, rfl, hRd, hE8⟩
      have HRd := Aside0.mk hRd
      have HE8 := Aside0.mk (HE7.out.trans hE8)
      have HLO := Aside0.mk HE7.out.size
      clear hRd hE8
      rw [HYS.out.2] at HRd
      generalize w7.heap.size = lo at HRd HLO
      generalize w8.heap.size = hi at HRd
      clear HYS HC7 HE6 HE7
      go_wp2_with fail
      go_loopw [8] (fun i wr => ∃ x : Int, i = .int .i64 x ∧ Aside0 (0 ≤ x ∧ x ≤ n) ∧ Aside0 (Rd wr lo hi b1 (allB (L.drop x.toNat) ++ more) false) ∧ Aside0 (Ext w wr)) (fun i _ => n - (intOf i).toNat)
      case atStart => exact ⟨0, rfl, ⟨by omega⟩, HRd, HE8⟩
      case round =>
        clear HRd HE8
        obtain ⟨y, rfl, HY, HRd, HEr⟩ := hrel
        obtain ⟨f0, f1⟩ := HY.out
        by_cases hly : y < n
        · have HLY := Aside0.mk hly
          have hyl : y.toNat < L.length := by rw [HL.out]; omega
          obtain ⟨b, off, rfl, hrg⟩ := th_at HR.out y.toNat (by omega) _ (List.getElem?_eq_getElem hyl)
          have hdr := allB_drop L y.toNat _ (List.getElem?_eq_getElem hyl)
          have hto := HOK.out _ (List.getElem_mem hyl)
          have hrest := allB_isB (L.drop y.toNat) (fun t ht => HOK.out t (List.mem_of_mem_drop ht))
          rw [hdr] at hrest
          generalize L[y.toNat] = t at hrg hdr hto hrest
          have HRG := Aside0.mk hrg
          have HTO := Aside0.mk hto
          rw [hdr] at HRd
          have HXB := Aside0.mk (hrest.app HB.out)
          generalize hR : allB (L.drop (y.toNat + 1)) ++ more = rest at *
          have HRest := Aside0.mk (show rest = allB (L.drop (y + 1).toNat) ++ more by rw [show (y + 1).toNat = y.toNat + 1 by omega, hR])
          rw [List.append_assoc, hR] at HRd HXB
          clear hrg hdr hto hrest hyl hR
          obtain ⟨wx, hwx⟩ : ∃ wx : World, wx = wr := ⟨_, rfl⟩
          subst hwx
          have p0 := (th_parts (rangeAt_ext HRG.out HEr.out)).1
          go_wp2_with fail
          refine (pick_calls wx t.1 3 _ HTO.out.1.1 HTO.out.1.2 (by decide) rfl).mono ?_
          rintro e w6' ⟨rfl, hE6⟩
          have hpr := pickT_range t.1 3 (by decide)
          have HS6 := Aside0.mk (HRd.out.ext hE6)
          have HE6 := Aside0.mk (HEr.out.trans hE6)
          have HIS := Aside0.mk (show (Try.prog.info? 24).map (·.size) = some (nums .u8 t.2.2.2).length by rw [nums_length, HTO.out.2.2.2.1]; kernel_rfl)
          have HIR := Aside0.mk (show (Try.prog.info? 26).map (·.size) = some (refC t.2.2.1 t.2.2.2).length by unfold refC; rw [List.length_cons, nums_length, HTO.out.2.2.2.1]; kernel_rfl)
          have HQS := Aside0.mk (fun W => by have := equal_sum t.2.2.2 t.2.2.2 HTO.out.2.2.2.1 HTO.out.2.2.2.1 HTO.out.2.2.2.2 HTO.out.2.2.2.2 W; rwa [show decide (t.2.2.2 = t.2.2.2) = true by simp] at this : ∀ W : World, (Op.equal 24 (sumV t.2.2.2) (sumV t.2.2.2)).run Try.prog W = .ok true W)
          have HQR := Aside0.mk (fun W => by have := equal_ref t.2.2.1 t.2.2.1 t.2.2.2 t.2.2.2 (wf_i64 HTO.out.2.2.1) (wf_i64 HTO.out.2.2.1) HTO.out.2.2.2.1 HTO.out.2.2.2.1 HTO.out.2.2.2.2 HTO.out.2.2.2.2 W; rwa [show decide (t.2.2.1 = t.2.2.1 ∧ t.2.2.2 = t.2.2.2) = true by simp] at this : ∀ W : World, (Op.equal 26 (refV t.2.2.1 t.2.2.2) (refV t.2.2.1 t.2.2.2)).run Try.prog W = .ok true W)
          generalize hpk : pickT t.1 3 = q at hpr
          have HT := Aside0.mk hpk
          clear hE6 HRd HEr p0 hpk
          have hcase : q = 0 ∨ q = 1 ∨ q = 2 := by omega
          rcases hcase with rfl | rfl | rfl
          · have hth : thB t = be8 t.2.1 := by unfold thB; rw [if_pos HT.out]
            have HV1 := Aside0.mk (show numI ((thB t ++ rest).take 8) = t.2.1 by rw [hth, List.take_left' (be8_length _)]; exact numI_be8 _ HTO.out.2.1.1 HTO.out.2.1.2)
            have HV2 := Aside0.mk (show (thB t ++ rest).drop 8 = rest by rw [hth, List.drop_left' (be8_length _)])
            have HLN := Aside0.mk (show 8 ≤ (thB t ++ rest).length by rw [hth, List.length_append, be8_length]; omega)
            clear hth
            go_wp2_with fail
            apply wp_region_G 9 1 (fun w w' => Tch w w' lo hi) (fun _ _ h => Tch.of_ext h lo hi) (fun _ _ _ h k => h.trans k) [GF.val (.pointer (some ⟨b1, 0, none⟩)), GF.fact true (fun u W => u = .int .i64 t.2.1 ∧ Rd W lo hi b1 rest false), GF.val (.slice (some ⟨b, off, none⟩) n c), GF.val (.int .i64 y), GF.val (.pointer (some ⟨b, off + y.toNat * 35, none⟩)), GF.val (.pointer (some ⟨b, off + y.toNat * 35 + 1, none⟩)), GF.val (.int .i64 t.2.1), GF.val (.bool true), GF.val (.bool true)] (by kernel_rfl) (by kernel_rfl)
            simp only [List.take_succ_cons, List.take_zero, List.zip_cons_cons, List.zip_nil_left]
            iterate 1 (refine wpG_val (by rfl) (by decide) (fun w' hT hD => ?_) ?_; (unfold YldG; go_simp; exact ⟨Ext.refl _, rfl⟩); (try simp only [Act.put, List.setIfInBounds_toArray, List.set_cons_zero, List.set_cons_succ]))
            refine wpG_here (by rfl) rfl (fun u W W' h he => ⟨h.1, h.2.ext he⟩) (fun w' hE hD => ?_) (fun u => ?_)
            · unfold YldG
              go_simp
              exact (rdint_ok w' lo hi b1 _ (HS6.out.ext hE) HXB.out HLN.out).mono fun e w2 ⟨h1, h2, h3⟩ => ⟨_, h1, h3, by rw [HV1.out], by rw [HV2.out] at h2; exact h2⟩
            (try simp only [Act.put, List.setIfInBounds_toArray, List.set_cons_zero, List.set_cons_succ])
            iterate 4 (refine wpG_val (by rfl) (by decide) (fun w' hT hD => ?_) ?_; (unfold YldG; go_simp; exact ⟨Ext.refl _, rfl⟩); (try simp only [Act.put, List.setIfInBounds_toArray, List.set_cons_zero, List.set_cons_succ]))
            refine wpG_val (by rfl) (by decide) (fun w' hT hD => ?_) ?_; (have e0 := (th_parts (rangeAt_ext HRG.out (hT.ext HE6.out HLO.out))).2.1; unfold YldG; go_simp; exact ⟨Ext.refl _, rfl⟩); (try simp only [Act.put, List.setIfInBounds_toArray, List.set_cons_zero, List.set_cons_succ])
            refine wpG_val (by rfl) (by decide) (fun w' hT hD => ?_) ?_; (have hu := (hD.1 rfl (by kernel_rfl)).1; subst hu; unfold YldG; go_simp; exact ⟨Ext.refl _, rfl⟩); (try simp only [Act.put, List.setIfInBounds_toArray, List.set_cons_zero, List.set_cons_succ])
            iterate 1 (refine wpG_val (by rfl) (by decide) (fun w' hT hD => ?_) ?_; (unfold YldG; go_simp; exact ⟨Ext.refl _, rfl⟩); (try simp only [Act.put, List.setIfInBounds_toArray, List.set_cons_zero, List.set_cons_succ]))
            refine wpG_nil fun w9 hT hA => ?_
            obtain ⟨hu, hRd9⟩ := hA.1 rfl
            subst hu
            have HR9 := Aside0.mk hRd9
            have HE9 := Aside0.mk (hT.ext HE6.out HLO.out)
            clear hA hT hRd9 HS6 HE6
            simp only [List.drop_succ_cons, List.drop_zero]
            refine wpList_nil ?_
            go_wp2_with fail
            refine (bad_calls w9 lo hi b1 _ false HR9.out).mono ?_
            rintro e wa ⟨rfl, hE⟩
            have HRa := Aside0.mk (HR9.out.ext hE)
            have HEa := Aside0.mk (HE9.out.trans hE)
            clear hE HR9 HE9
            go_wp2
            go_roundw
            case rel => exact ⟨y + 1, rfl, ⟨by omega, by have := HLY.out; omega⟩, by rw [← HRest.out]; exact HRa, HEa⟩
            case measure => have := HLY.out; simp only [intOf]; omega
          · have hth : thB t = t.2.2.2 := by unfold thB; rw [if_neg (by rw [HT.out]; decide), if_pos HT.out]
            have HV1 := Aside0.mk (show (thB t ++ rest).take 32 = t.2.2.2 by rw [hth, List.take_left' HTO.out.2.2.2.1])
            have HV2 := Aside0.mk (show (thB t ++ rest).drop 32 = rest by rw [hth, List.drop_left' HTO.out.2.2.2.1])
            have HLN := Aside0.mk (show 32 ≤ (thB t ++ rest).length by rw [hth, List.length_append]; have := HTO.out.2.2.2.1; omega)
            clear hth
            go_wp2_with fail
            apply wp_region_G 10 1 (fun w w' => Tch w w' lo hi) (fun _ _ h => Tch.of_ext h lo hi) (fun _ _ _ h k => h.trans k) [GF.val (.pointer (some ⟨b1, 0, none⟩)), GF.fact true (fun u W => u = sumV t.2.2.2 ∧ Rd W lo hi b1 rest false), GF.val (.slice (some ⟨b, off, none⟩) n c), GF.val (.int .i64 y), GF.val (.pointer (some ⟨b, off + y.toNat * 35, none⟩)), GF.val (.pointer (some ⟨b, off + y.toNat * 35 + 2, none⟩)), GF.val (.pointer (some ⟨b, off + y.toNat * 35 + 3, none⟩)), GF.val (sumV t.2.2.2), GF.val (.bool true), GF.val (.bool true)] (by kernel_rfl) (by kernel_rfl)
            simp only [List.take_succ_cons, List.take_zero, List.zip_cons_cons, List.zip_nil_left]
            iterate 1 (refine wpG_val (by rfl) (by decide) (fun w' hT hD => ?_) ?_; (unfold YldG; go_simp; exact ⟨Ext.refl _, rfl⟩); (try simp only [Act.put, List.setIfInBounds_toArray, List.set_cons_zero, List.set_cons_succ]))
            refine wpG_here (by rfl) rfl (fun u W W' h he => ⟨h.1, h.2.ext he⟩) (fun w' hE hD => ?_) (fun u => ?_)
            · unfold YldG
              go_simp
              exact (rdsum_ok w' lo hi b1 _ (HS6.out.ext hE) HXB.out HLN.out).mono fun e w2 ⟨h1, h2, h3⟩ => ⟨_, h1, h3, by rw [HV1.out], by rw [HV2.out] at h2; exact h2⟩
            (try simp only [Act.put, List.setIfInBounds_toArray, List.set_cons_zero, List.set_cons_succ])
            iterate 5 (refine wpG_val (by rfl) (by decide) (fun w' hT hD => ?_) ?_; (unfold YldG; go_simp; exact ⟨Ext.refl _, rfl⟩); (try simp only [Act.put, List.setIfInBounds_toArray, List.set_cons_zero, List.set_cons_succ]))
            refine wpG_val (by rfl) (by decide) (fun w' hT hD => ?_) ?_; (exact YldG_load 24 _ rfl b (off + y.toNat * 35 + 3) rfl (nums .u8 t.2.2.2) _ (th_parts (rangeAt_ext HRG.out (hT.ext HE6.out HLO.out))).2.2.2 Try.underlying24 rfl HIS.out); (try simp only [Act.put, List.setIfInBounds_toArray, List.set_cons_zero, List.set_cons_succ])
            refine wpG_val (by rfl) (by decide) (fun w' hT hD => ?_) ?_; (have hu := (hD.1 rfl (by kernel_rfl)).1; subst hu; exact YldG_eql 24 24 (.tmp 95) (.tmp 101) rfl _ _ rfl rfl (by kernel_rfl) true (HQS.out w')); (try simp only [Act.put, List.setIfInBounds_toArray, List.set_cons_zero, List.set_cons_succ])
            iterate 1 (refine wpG_val (by rfl) (by decide) (fun w' hT hD => ?_) ?_; (unfold YldG; go_simp; exact ⟨Ext.refl _, rfl⟩); (try simp only [Act.put, List.setIfInBounds_toArray, List.set_cons_zero, List.set_cons_succ]))
            refine wpG_nil fun w9 hT hA => ?_
            obtain ⟨hu, hRd9⟩ := hA.1 rfl
            subst hu
            have HR9 := Aside0.mk hRd9
            have HE9 := Aside0.mk (hT.ext HE6.out HLO.out)
            clear hA hT hRd9 HS6 HE6
            simp only [List.drop_succ_cons, List.drop_zero]
            refine wpList_nil ?_
            go_wp2_with fail
            refine (bad_calls w9 lo hi b1 _ false HR9.out).mono ?_
            rintro e wa ⟨rfl, hE⟩
            have HRa := Aside0.mk (HR9.out.ext hE)
            have HEa := Aside0.mk (HE9.out.trans hE)
            clear hE HR9 HE9
            go_wp2
            go_roundw
            case rel => exact ⟨y + 1, rfl, ⟨by omega, by have := HLY.out; omega⟩, by rw [← HRest.out]; exact HRa, HEa⟩
            case measure => have := HLY.out; simp only [intOf]; omega
          · have hth : thB t = refB t.2.2.1 t.2.2.2 := by unfold thB; rw [if_neg (by rw [HT.out]; decide), if_neg (by rw [HT.out]; decide)]
            have HV1 := Aside0.mk (show numI ((thB t ++ rest).take 8) = t.2.2.1 ∧ ((thB t ++ rest).take 40).drop 8 = t.2.2.2 by rw [hth]; unfold refB; constructor; (rw [List.append_assoc, List.take_left' (be8_length _)]; exact numI_be8 _ HTO.out.2.2.1.1 HTO.out.2.2.1.2); (rw [List.take_left' (by rw [List.length_append, be8_length, HTO.out.2.2.2.1]), List.drop_left' (be8_length _)]))
            have HV2 := Aside0.mk (show (thB t ++ rest).drop 40 = rest by rw [hth, List.drop_left' (by unfold refB; rw [List.length_append, be8_length, HTO.out.2.2.2.1])])
            have HLN := Aside0.mk (show 40 ≤ (thB t ++ rest).length by rw [hth, List.length_append]; unfold refB; rw [List.length_append, be8_length]; have := HTO.out.2.2.2.1; omega)
            clear hth
            go_wp2_with fail
            apply wp_region_G 9 1 (fun w w' => Tch w w' lo hi) (fun _ _ h => Tch.of_ext h lo hi) (fun _ _ _ h k => h.trans k) [GF.val (.pointer (some ⟨b1, 0, none⟩)), GF.fact true (fun u W => u = refV t.2.2.1 t.2.2.2 ∧ Rd W lo hi b1 rest false), GF.val (.slice (some ⟨b, off, none⟩) n c), GF.val (.int .i64 y), GF.val (.pointer (some ⟨b, off + y.toNat * 35, none⟩)), GF.val (.pointer (some ⟨b, off + y.toNat * 35 + 2, none⟩)), GF.val (refV t.2.2.1 t.2.2.2), GF.val (.bool true), GF.val (.bool true)] (by kernel_rfl) (by kernel_rfl)
            simp only [List.take_succ_cons, List.take_zero, List.zip_cons_cons, List.zip_nil_left]
            iterate 1 (refine wpG_val (by rfl) (by decide) (fun w' hT hD => ?_) ?_; (unfold YldG; go_simp; exact ⟨Ext.refl _, rfl⟩); (try simp only [Act.put, List.setIfInBounds_toArray, List.set_cons_zero, List.set_cons_succ]))
            refine wpG_here (by rfl) rfl (fun u W W' h he => ⟨h.1, h.2.ext he⟩) (fun w' hE hD => ?_) (fun u => ?_)
            · unfold YldG
              go_simp
              exact (rdref_ok w' lo hi b1 _ (HS6.out.ext hE) HXB.out HLN.out).mono fun e w2 ⟨h1, h2, h3⟩ => ⟨_, h1, h3, by rw [HV1.out.1, HV1.out.2], by rw [HV2.out] at h2; exact h2⟩
            (try simp only [Act.put, List.setIfInBounds_toArray, List.set_cons_zero, List.set_cons_succ])
            iterate 4 (refine wpG_val (by rfl) (by decide) (fun w' hT hD => ?_) ?_; (unfold YldG; go_simp; exact ⟨Ext.refl _, rfl⟩); (try simp only [Act.put, List.setIfInBounds_toArray, List.set_cons_zero, List.set_cons_succ]))
            refine wpG_val (by rfl) (by decide) (fun w' hT hD => ?_) ?_; (exact YldG_load 26 _ rfl b (off + y.toNat * 35 + 2) rfl (refC t.2.2.1 t.2.2.2) _ (th_parts (rangeAt_ext HRG.out (hT.ext HE6.out HLO.out))).2.2.1 Try.underlying26 rfl HIR.out); (try simp only [Act.put, List.setIfInBounds_toArray, List.set_cons_zero, List.set_cons_succ])
            refine wpG_val (by rfl) (by decide) (fun w' hT hD => ?_) ?_; (have hu := (hD.1 rfl (by kernel_rfl)).1; subst hu; exact YldG_eql 26 26 (.tmp 75) (.tmp 80) rfl _ _ rfl rfl (by kernel_rfl) true (HQR.out w')); (try simp only [Act.put, List.setIfInBounds_toArray, List.set_cons_zero, List.set_cons_succ])
            iterate 1 (refine wpG_val (by rfl) (by decide) (fun w' hT hD => ?_) ?_; (unfold YldG; go_simp; exact ⟨Ext.refl _, rfl⟩); (try simp only [Act.put, List.setIfInBounds_toArray, List.set_cons_zero, List.set_cons_succ]))
            refine wpG_nil fun w9 hT hA => ?_
            obtain ⟨hu, hRd9⟩ := hA.1 rfl
            subst hu
            have HR9 := Aside0.mk hRd9
            have HE9 := Aside0.mk (hT.ext HE6.out HLO.out)
            clear hA hT hRd9 HS6 HE6
            simp only [List.drop_succ_cons, List.drop_zero]
            refine wpList_nil ?_
            go_wp2_with fail
            refine (bad_calls w9 lo hi b1 _ false HR9.out).mono ?_
            rintro e wa ⟨rfl, hE⟩
            have HRa := Aside0.mk (HR9.out.ext hE)
            have HEa := Aside0.mk (HE9.out.trans hE)
            clear hE HR9 HE9
            go_wp2
            go_roundw
            case rel => exact ⟨y + 1, rfl, ⟨by omega, by have := HLY.out; omega⟩, by rw [← HRest.out]; exact HRa, HEa⟩
            case measure => have := HLY.out; simp only [intOf]; omega
        · have hy : y = n := by omega
          rw [show allB (L.drop y.toNat) = [] by rw [List.drop_eq_nil_of_le (by rw [HL.out]; omega)]; rfl, List.nil_append] at HRd
          have HLI0 := Aside0.mk (show leftI more false = (n1 : Int) by unfold leftI; rw [if_neg (by decide), HN1.out])
          by_cases h0 : n1 = 0
          · have HEN := Aside0.mk (show endI more false = 0 by unfold endI; rw [if_neg (by decide), if_pos (by rw [← HN1.out]; exact h0)])
            have hz0 : ((n1 : Int) = 0) = True := eq_true (by omega)
            have hz0' : (n1 = 0) = True := eq_true h0
            have hz0b : ((n1 : Int) == 0) = true := by rw [h0]; rfl
            clear h0
            go_wp2_with fail
            refine (left_calls _ lo hi b1 _ false HRd.out).mono ?_
            rintro e wa ⟨rfl, hE⟩
            have HRa := Aside0.mk (HRd.out.ext hE)
            have HEa := Aside0.mk (HEr.out.trans hE)
            have HLI := HLI0.out
            rw [HLI]
            clear hE HRd HEr HLI HLI0
            go_wp2_with fail
            refine (end_calls _ lo hi b1 _ false HRa.out).mono ?_
            rintro e wb ⟨rfl, hE⟩
            have HEb := Aside0.mk (HEa.out.trans hE)
            rw [HEN.out]
            clear hE HEa HRa HEN
            go_wp2_with fail
            refine (known_calls _).mono ?_
            rintro e wc ⟨rfl, hE⟩
            have HEc := Aside0.mk (HEb.out.trans hE)
            clear hE HEb
            go_wp2
            go_ret
            exact ⟨rfl, HEc.out⟩
          · have HEN := Aside0.mk (show endI more false = 3 by unfold endI; rw [if_neg (by decide), if_neg (by rw [← HN1.out]; exact h0)])
            have hz0 : ((n1 : Int) = 0) = False := eq_false (by omega)
            have hz0' : (n1 = 0) = False := eq_false h0
            have hz0b : ((n1 : Int) == 0) = false := by simpa using h0
            clear h0
            go_wp2_with fail
            refine (left_calls _ lo hi b1 _ false HRd.out).mono ?_
            rintro e wa ⟨rfl, hE⟩
            have HRa := Aside0.mk (HRd.out.ext hE)
            have HEa := Aside0.mk (HEr.out.trans hE)
            have HLI := HLI0.out
            rw [HLI]
            clear hE HRd HEr HLI HLI0
            go_wp2_with fail
            refine (end_calls _ lo hi b1 _ false HRa.out).mono ?_
            rintro e wb ⟨rfl, hE⟩
            have HEb := Aside0.mk (HEa.out.trans hE)
            rw [HEN.out]
            clear hE HEa HRa HEN
            go_wp2_with fail
            refine (known_calls _).mono ?_
            rintro e wc ⟨rfl, hE⟩
            have HEc := Aside0.mk (HEb.out.trans hE)
            clear hE HEb
            go_wp2
            go_ret
            exact ⟨rfl, HEc.out⟩

set_option maxRecDepth 100000 in
set_option maxHeartbeats 8000000 in
theorem back_big (w : World) (A A1 : Option Addr) (c n c1 n1 : Nat) (L : List Th) (more : List Int) (hr : Kd.C kTh w A 60 L) (hmc : 60 ≤ n) (hc : n ≤ c) (h60 : 60 < n) (hm60 : 60 ≤ 60) (hok : ∀ t ∈ L, Th.ok t) (hn1 : n1 = more.length) (hr1 : Kd.C kb w A1 n1 more) (hc1 : n1 ≤ c1) (hB : isB more) (hsm : n1 ≤ 4096) :
    Calls Try.prog 7 #[.slice A n c, .slice A1 n1 c1] w fun e w' => e = .returned (.bool true) ∧ Ext w w' := by
  have HR := Aside0.mk hr
  have HR1 := Aside0.mk hr1
  have HN1 := Aside0.mk hn1
  have HB := Aside0.mk hB
  have HOK := Aside0.mk hok
  have HL := Aside0.mk (show L.length = 60 from hr.1)
  clear hr hr1 hn1 hB hok
  have hz : ((4096 : Int) < (n1 : Int)) = False := eq_false (by omega)
  have hi53 : ∃ i, Try.prog.info? 53 = some i := ⟨_, rfl⟩
  obtain ⟨i3, hi3⟩ := hi53
  have hcut := cut_to (P := Try.prog) 51 53 .i64 Try.underlying51 hi3 A n c 60 (by omega) (by omega) hc
  rw [show (60 : Int).toNat = 60 from rfl] at hcut
  have hz60 : ((60 : Int) < (n : Int)) = True := eq_true (by omega)
  have hz60' : ((n : Int) ≤ 60) = False := eq_false (by omega)
  clear h60 hi3
  go_enter Try.func7, Try.ntmps7
  go_wp2_with fail
  go_loopw [5, 6] (fun v i wr => ∃ x : Int, i = .int .i64 x ∧ Aside0 (0 ≤ x ∧ x ≤ 60) ∧ ∃ X k cx xs, v = .slice X k cx ∧ Aside0 (k = xs.length ∧ xs = allB (L.take x.toNat)) ∧ Aside0 (k ≤ cx ∧ Kd.C kb wr X k xs) ∧ Aside0 (Ext w wr)) (fun _ i _ => 60 - (intOf i).toNat)
  case atStart => exact ⟨0, rfl, ⟨by omega⟩, none, 0, 0, [], rfl, ⟨rfl, rfl⟩, ⟨Nat.le_refl _, Kd.C_nil kb w⟩, ⟨Ext.refl w⟩⟩
  case round =>
    obtain ⟨x, rfl, HX, X, k, cx, xs, rfl, HXS, HCX, HE⟩ := hrel
    obtain ⟨g0, g1⟩ := HX.out
    by_cases hlt : x < 60
    · have HLT := Aside0.mk hlt
      have hxl : x.toNat < L.length := by rw [HL.out]; omega
      obtain ⟨b, off, rfl, hrg⟩ := th_at (Kd.C_below HR.out HE.out) x.toNat (by omega) _ (List.getElem?_eq_getElem hxl)
      have htk := allB_take L x.toNat _ (List.getElem?_eq_getElem hxl)
      have hto := HOK.out _ (List.getElem_mem hxl)
      generalize L[x.toNat] = t at hrg htk hto
      have HRG := Aside0.mk hrg
      have HTK := Aside0.mk htk
      have HTO := Aside0.mk hto
      obtain ⟨p0, p1, p2, p3⟩ := th_parts hrg
      have HP1 := Aside0.mk p1
      have HP2 := Aside0.mk p2
      have HP3 := Aside0.mk p3
      have hkl : k + 40 ≤ 140737488355328 := by
        have h1 := HXS.out
        have h2 := allB_len (L.take x.toNat) (fun t ht => HOK.out t (List.mem_of_mem_take ht))
        rw [List.length_take] at h2
        rw [h1.1, h1.2]
        omega
      clear hrg htk hto p1 p2 p3 hxl
      obtain ⟨wx, hwx⟩ : ∃ wx : World, wx = wr := ⟨_, rfl⟩
      subst hwx
      go_wp2_with fail
      refine (pick_calls wx t.1 3 _ HTO.out.1.1 HTO.out.1.2 (by decide) rfl).mono ?_
      rintro e w6 ⟨rfl, hE6⟩
      have hpr := pickT_range t.1 3 (by decide)
      have HRG6 := Aside0.mk (rangeAt_ext HRG.out hE6)
      have HC6 := Aside0.mk (Kd.C_below HCX.out.2 hE6)
      have HE6 := Aside0.mk (HE.out.trans hE6)
      obtain ⟨p0', p1', p2', p3'⟩ := th_parts HRG6.out
      have hcx := HCX.out.1
      have HP2' := Aside0.mk p2'
      have HP3' := Aside0.mk p3'
      have HIS := Aside0.mk (show (Try.prog.info? 24).map (·.size) = some (nums .u8 t.2.2.2).length by rw [nums_length, HTO.out.2.2.2.1]; kernel_rfl)
      have HIR := Aside0.mk (show (Try.prog.info? 26).map (·.size) = some (refC t.2.2.1 t.2.2.2).length by unfold refC; rw [List.length_cons, nums_length, HTO.out.2.2.2.1]; kernel_rfl)
      generalize hpk : pickT t.1 3 = q at hpr
      have HT := Aside0.mk hpk
      clear hE6 HRG HCX HE p0 HP1 HP2 HP3 p2' p3' hpk
      have hcase : q = 0 ∨ q = 1 ∨ q = 2 := by omega
      rcases hcase with rfl | rfl | rfl
      · go_wp2_with fail
        refine (int_at w6 X cx k xs t.2.1 HXS.out.1 HC6.out hcx (by omega)).mono ?_
        rintro e w7 ⟨V, rfl, hV, hE7⟩
        obtain ⟨X', c', rfl, hc', hC'⟩ := hV.reads
        generalize hys : xs ++ be8 t.2.1 = ys at hC' hc' ⊢
        generalize hkk : ys.length = kk at hC' hc' ⊢
        have HNX := Aside0.mk (show kk = ys.length ∧ ys = allB (L.take (x + 1).toNat) by
          refine ⟨hkk.symm, ?_⟩
          rw [show (x + 1).toNat = x.toNat + 1 by omega, HTK.out, ← hys, HXS.out.2]
          congr 1
          unfold thB
          rw [if_pos HT.out])
        have HNC := Aside0.mk (show kk ≤ c' ∧ Kd.C kb w7 X' kk ys from ⟨hc', hC'⟩)
        have HNE := Aside0.mk (HE6.out.trans hE7)
        clear hV hE7 hc' hC' hys hkk
        go_wp2
        go_roundw
        case rel => exact ⟨x + 1, rfl, ⟨by omega, by have := HLT.out; omega⟩, X', kk, c', ys, rfl, HNX, HNC, HNE⟩
        case measure => have := HLT.out; simp only [intOf]; omega
      · go_wp2_with (first | ((with_reducible refine gate_load (ty := 24) rfl ?_); refine load_at rfl 24 _ rfl b (off + x.toNat * 35 + 3) rfl (nums .u8 t.2.2.2) _ HP3'.out Try.underlying24 rfl HIS.out ?_) | fail)
        refine (sum_n w6 X cx k xs t.2.2.2 HXS.out.1 HC6.out hcx _ rfl HTO.out.2.2.2.1 (by omega)).mono ?_
        rintro e w7 ⟨V, rfl, hV, hE7⟩
        obtain ⟨X', c', rfl, hc', hC'⟩ := hV.reads
        generalize hys : xs ++ t.2.2.2 = ys at hC' hc' ⊢
        generalize hkk : ys.length = kk at hC' hc' ⊢
        have HNX := Aside0.mk (show kk = ys.length ∧ ys = allB (L.take (x + 1).toNat) by
          refine ⟨hkk.symm, ?_⟩
          rw [show (x + 1).toNat = x.toNat + 1 by omega, HTK.out, ← hys, HXS.out.2]
          congr 1
          unfold thB
          rw [if_neg (by rw [HT.out]; decide), if_pos HT.out])
        have HNC := Aside0.mk (show kk ≤ c' ∧ Kd.C kb w7 X' kk ys from ⟨hc', hC'⟩)
        have HNE := Aside0.mk (HE6.out.trans hE7)
        clear hV hE7 hc' hC' hys hkk
        go_wp2
        go_roundw
        case rel => exact ⟨x + 1, rfl, ⟨by omega, by have := HLT.out; omega⟩, X', kk, c', ys, rfl, HNX, HNC, HNE⟩
        case measure => have := HLT.out; simp only [intOf]; omega
      · go_wp2_with (first | ((with_reducible refine gate_load (ty := 26) rfl ?_); refine load_at rfl 26 _ rfl b (off + x.toNat * 35 + 2) rfl (refC t.2.2.1 t.2.2.2) _ HP2'.out Try.underlying26 rfl HIR.out ?_) | fail)
        refine (ref_at w6 X cx k xs t.2.2.2 t.2.2.1 _ HXS.out.1 rfl HTO.out.2.2.2.1 HC6.out hcx (by omega)).mono ?_
        rintro e w7 ⟨V, rfl, hV, hE7⟩
        obtain ⟨X', c', rfl, hc', hC'⟩ := hV.reads
        generalize hys : xs ++ refB t.2.2.1 t.2.2.2 = ys at hC' hc' ⊢
        generalize hkk : ys.length = kk at hC' hc' ⊢
        have HNX := Aside0.mk (show kk = ys.length ∧ ys = allB (L.take (x + 1).toNat) by
          refine ⟨hkk.symm, ?_⟩
          rw [show (x + 1).toNat = x.toNat + 1 by omega, HTK.out, ← hys, HXS.out.2]
          congr 1
          unfold thB
          rw [if_neg (by rw [HT.out]; decide), if_neg (by rw [HT.out]; decide)])
        have HNC := Aside0.mk (show kk ≤ c' ∧ Kd.C kb w7 X' kk ys from ⟨hc', hC'⟩)
        have HNE := Aside0.mk (HE6.out.trans hE7)
        clear hV hE7 hc' hC' hys hkk
        go_wp2
        go_roundw
        case rel => exact ⟨x + 1, rfl, ⟨by omega, by have := HLT.out; omega⟩, X', kk, c', ys, rfl, HNX, HNC, HNE⟩
        case measure => have := HLT.out; simp only [intOf]; omega
    · have hx : x = 60 := by omega
      have HL2 := Aside0.mk (show k = xs.length ∧ xs = allB L by
        refine ⟨HXS.out.1, ?_⟩
        rw [HXS.out.2, List.take_of_length_le (by rw [HL.out]; omega)])
      have hkl : k + 4096 ≤ 140737488355328 := by
        have h2 := allB_len L HOK.out
        rw [HL2.out.1, HL2.out.2]
        have := HL.out
        omega
      have HC := Aside0.mk HCX.out.2
      have hkc := HCX.out.1
      clear HXS HCX
      go_wp2_with fail
      refine (copy_n wr X cx k xs HL2.out.1 HC.out hkc (by omega)).mono ?_
      rintro e w6 ⟨V, rfl, hV, hE6⟩
      have HV := Aside0.mk hV
      have HE6 := Aside0.mk (HE.out.trans hE6)
      have HR6 := Aside0.mk (Kd.C_below HR1.out HE6.out)
      have HB6 : Aside0 (Below wr.heap.size wr w6) := ⟨hE6⟩
      have HER := Aside0.mk HE.out.size
      clear hV hE6 HC
      go_wp2_with (at_builtin; refine Kd.R_append_rows kb (Rr := kb.K w6) (w0 := wr) wr.heap.size rfl (.tmp 58) (.tmp 59) 22 5 _ 1 rfl Try.underlying22 PPackPuts.info5 rfl (by decide) (by decide) V xs more A1 n1 c1 (fun _ => True) (fun _ => False) rfl rfl HV.out ?c1 kb_KM (fun _ h => h.elim) (fun _ _ => trivial) HB6.out ?c2 ?c3 ?_)
      case c1 => exact HR6.out
      case c2 => exact HB6.out.size
      case c3 => rw [← HL2.out.1]; omega
      intro V1 w7 hR7 hB7 hg7 hat7
      replace hR7 : NB w7 wr.heap.size V1 (xs ++ more) := hR7
      obtain ⟨A2, c2, rfl, hl2, hC2⟩ := hR7.reads
      generalize hys : xs ++ more = ys at hl2 hC2 ⊢
      generalize hkk : ys.length = k2 at hl2 hC2 ⊢
      have HYS := Aside0.mk (show k2 = ys.length ∧ ys = allB L ++ more from ⟨hkk.symm, by rw [← hys, HL2.out.2]⟩)
      have hk2 : k2 ≤ 140737488355328 := by
        rw [HYS.out.1, ← hys, List.length_append, ← HL2.out.1, ← HN1.out]; omega
      have HC7 := Aside0.mk hC2
      have HE7 := Aside0.mk (HE.out.trans hB7)
      clear hR7 hB7 hg7 hat7 hC2 hys hkk HV HR6 HB6 HL2
      go_wp2_with fail
      refine (read_calls w7 A2 c2 k2 ys HYS.out.1 HC7.out hl2 hk2).mono ?_
      rintro e w8 ⟨b1, rfl, hRd, hE8⟩
      have HRd := Aside0.mk hRd
      have HE8 := Aside0.mk (HE7.out.trans hE8)
      have HLO := Aside0.mk HE7.out.size
      clear hRd hE8
      rw [HYS.out.2] at HRd
      generalize w7.heap.size = lo at HRd HLO
      generalize w8.heap.size = hi at HRd
      clear HYS HC7 HE6 HE7
      go_wp2_with fail
      go_loopw [8] (fun i wr => ∃ x : Int, i = .int .i64 x ∧ Aside0 (0 ≤ x ∧ x ≤ 60) ∧ Aside0 (Rd wr lo hi b1 (allB (L.drop x.toNat) ++ more) false) ∧ Aside0 (Ext w wr)) (fun i _ => 60 - (intOf i).toNat)
      case atStart => exact ⟨0, rfl, ⟨by omega⟩, HRd, HE8⟩
      case round =>
        clear HRd HE8
        obtain ⟨y, rfl, HY, HRd, HEr⟩ := hrel
        obtain ⟨f0, f1⟩ := HY.out
        by_cases hly : y < 60
        · have HLY := Aside0.mk hly
          have hyl : y.toNat < L.length := by rw [HL.out]; omega
          obtain ⟨b, off, rfl, hrg⟩ := th_at HR.out y.toNat (by omega) _ (List.getElem?_eq_getElem hyl)
          have hdr := allB_drop L y.toNat _ (List.getElem?_eq_getElem hyl)
          have hto := HOK.out _ (List.getElem_mem hyl)
          have hrest := allB_isB (L.drop y.toNat) (fun t ht => HOK.out t (List.mem_of_mem_drop ht))
          rw [hdr] at hrest
          generalize L[y.toNat] = t at hrg hdr hto hrest
          have HRG := Aside0.mk hrg
          have HTO := Aside0.mk hto
          rw [hdr] at HRd
          have HXB := Aside0.mk (hrest.app HB.out)
          generalize hR : allB (L.drop (y.toNat + 1)) ++ more = rest at *
          have HRest := Aside0.mk (show rest = allB (L.drop (y + 1).toNat) ++ more by rw [show (y + 1).toNat = y.toNat + 1 by omega, hR])
          rw [List.append_assoc, hR] at HRd HXB
          clear hrg hdr hto hrest hyl hR
          obtain ⟨wx, hwx⟩ : ∃ wx : World, wx = wr := ⟨_, rfl⟩
          subst hwx
          have p0 := (th_parts (rangeAt_ext HRG.out HEr.out)).1
          go_wp2_with fail
          refine (pick_calls wx t.1 3 _ HTO.out.1.1 HTO.out.1.2 (by decide) rfl).mono ?_
          rintro e w6' ⟨rfl, hE6⟩
          have hpr := pickT_range t.1 3 (by decide)
          have HS6 := Aside0.mk (HRd.out.ext hE6)
          have HE6 := Aside0.mk (HEr.out.trans hE6)
          have HIS := Aside0.mk (show (Try.prog.info? 24).map (·.size) = some (nums .u8 t.2.2.2).length by rw [nums_length, HTO.out.2.2.2.1]; kernel_rfl)
          have HIR := Aside0.mk (show (Try.prog.info? 26).map (·.size) = some (refC t.2.2.1 t.2.2.2).length by unfold refC; rw [List.length_cons, nums_length, HTO.out.2.2.2.1]; kernel_rfl)
          have HQS := Aside0.mk (fun W => by have := equal_sum t.2.2.2 t.2.2.2 HTO.out.2.2.2.1 HTO.out.2.2.2.1 HTO.out.2.2.2.2 HTO.out.2.2.2.2 W; rwa [show decide (t.2.2.2 = t.2.2.2) = true by simp] at this : ∀ W : World, (Op.equal 24 (sumV t.2.2.2) (sumV t.2.2.2)).run Try.prog W = .ok true W)
          have HQR := Aside0.mk (fun W => by have := equal_ref t.2.2.1 t.2.2.1 t.2.2.2 t.2.2.2 (wf_i64 HTO.out.2.2.1) (wf_i64 HTO.out.2.2.1) HTO.out.2.2.2.1 HTO.out.2.2.2.1 HTO.out.2.2.2.2 HTO.out.2.2.2.2 W; rwa [show decide (t.2.2.1 = t.2.2.1 ∧ t.2.2.2 = t.2.2.2) = true by simp] at this : ∀ W : World, (Op.equal 26 (refV t.2.2.1 t.2.2.2) (refV t.2.2.1 t.2.2.2)).run Try.prog W = .ok true W)
          generalize hpk : pickT t.1 3 = q at hpr
          have HT := Aside0.mk hpk
          clear hE6 HRd HEr p0 hpk
          have hcase : q = 0 ∨ q = 1 ∨ q = 2 := by omega
          rcases hcase with rfl | rfl | rfl
          · have hth : thB t = be8 t.2.1 := by unfold thB; rw [if_pos HT.out]
            have HV1 := Aside0.mk (show numI ((thB t ++ rest).take 8) = t.2.1 by rw [hth, List.take_left' (be8_length _)]; exact numI_be8 _ HTO.out.2.1.1 HTO.out.2.1.2)
            have HV2 := Aside0.mk (show (thB t ++ rest).drop 8 = rest by rw [hth, List.drop_left' (be8_length _)])
            have HLN := Aside0.mk (show 8 ≤ (thB t ++ rest).length by rw [hth, List.length_append, be8_length]; omega)
            clear hth
            go_wp2_with fail
            apply wp_region_G 9 1 (fun w w' => Tch w w' lo hi) (fun _ _ h => Tch.of_ext h lo hi) (fun _ _ _ h k => h.trans k) [GF.val (.pointer (some ⟨b1, 0, none⟩)), GF.fact true (fun u W => u = .int .i64 t.2.1 ∧ Rd W lo hi b1 rest false), GF.val (.slice (some ⟨b, off, none⟩) 60 c), GF.val (.int .i64 y), GF.val (.pointer (some ⟨b, off + y.toNat * 35, none⟩)), GF.val (.pointer (some ⟨b, off + y.toNat * 35 + 1, none⟩)), GF.val (.int .i64 t.2.1), GF.val (.bool true), GF.val (.bool true)] (by kernel_rfl) (by kernel_rfl)
            simp only [List.take_succ_cons, List.take_zero, List.zip_cons_cons, List.zip_nil_left]
            iterate 1 (refine wpG_val (by rfl) (by decide) (fun w' hT hD => ?_) ?_; (unfold YldG; go_simp; exact ⟨Ext.refl _, rfl⟩); (try simp only [Act.put, List.setIfInBounds_toArray, List.set_cons_zero, List.set_cons_succ]))
            refine wpG_here (by rfl) rfl (fun u W W' h he => ⟨h.1, h.2.ext he⟩) (fun w' hE hD => ?_) (fun u => ?_)
            · unfold YldG
              go_simp
              exact (rdint_ok w' lo hi b1 _ (HS6.out.ext hE) HXB.out HLN.out).mono fun e w2 ⟨h1, h2, h3⟩ => ⟨_, h1, h3, by rw [HV1.out], by rw [HV2.out] at h2; exact h2⟩
            (try simp only [Act.put, List.setIfInBounds_toArray, List.set_cons_zero, List.set_cons_succ])
            iterate 4 (refine wpG_val (by rfl) (by decide) (fun w' hT hD => ?_) ?_; (unfold YldG; go_simp; exact ⟨Ext.refl _, rfl⟩); (try simp only [Act.put, List.setIfInBounds_toArray, List.set_cons_zero, List.set_cons_succ]))
            refine wpG_val (by rfl) (by decide) (fun w' hT hD => ?_) ?_; (have e0 := (th_parts (rangeAt_ext HRG.out (hT.ext HE6.out HLO.out))).2.1; unfold YldG; go_simp; exact ⟨Ext.refl _, rfl⟩); (try simp only [Act.put, List.setIfInBounds_toArray, List.set_cons_zero, List.set_cons_succ])
            refine wpG_val (by rfl) (by decide) (fun w' hT hD => ?_) ?_; (have hu := (hD.1 rfl (by kernel_rfl)).1; subst hu; unfold YldG; go_simp; exact ⟨Ext.refl _, rfl⟩); (try simp only [Act.put, List.setIfInBounds_toArray, List.set_cons_zero, List.set_cons_succ])
            iterate 1 (refine wpG_val (by rfl) (by decide) (fun w' hT hD => ?_) ?_; (unfold YldG; go_simp; exact ⟨Ext.refl _, rfl⟩); (try simp only [Act.put, List.setIfInBounds_toArray, List.set_cons_zero, List.set_cons_succ]))
            refine wpG_nil fun w9 hT hA => ?_
            obtain ⟨hu, hRd9⟩ := hA.1 rfl
            subst hu
            have HR9 := Aside0.mk hRd9
            have HE9 := Aside0.mk (hT.ext HE6.out HLO.out)
            clear hA hT hRd9 HS6 HE6
            simp only [List.drop_succ_cons, List.drop_zero]
            refine wpList_nil ?_
            go_wp2_with fail
            refine (bad_calls w9 lo hi b1 _ false HR9.out).mono ?_
            rintro e wa ⟨rfl, hE⟩
            have HRa := Aside0.mk (HR9.out.ext hE)
            have HEa := Aside0.mk (HE9.out.trans hE)
            clear hE HR9 HE9
            go_wp2
            go_roundw
            case rel => exact ⟨y + 1, rfl, ⟨by omega, by have := HLY.out; omega⟩, by rw [← HRest.out]; exact HRa, HEa⟩
            case measure => have := HLY.out; simp only [intOf]; omega
          · have hth : thB t = t.2.2.2 := by unfold thB; rw [if_neg (by rw [HT.out]; decide), if_pos HT.out]
            have HV1 := Aside0.mk (show (thB t ++ rest).take 32 = t.2.2.2 by rw [hth, List.take_left' HTO.out.2.2.2.1])
            have HV2 := Aside0.mk (show (thB t ++ rest).drop 32 = rest by rw [hth, List.drop_left' HTO.out.2.2.2.1])
            have HLN := Aside0.mk (show 32 ≤ (thB t ++ rest).length by rw [hth, List.length_append]; have := HTO.out.2.2.2.1; omega)
            clear hth
            go_wp2_with fail
            apply wp_region_G 10 1 (fun w w' => Tch w w' lo hi) (fun _ _ h => Tch.of_ext h lo hi) (fun _ _ _ h k => h.trans k) [GF.val (.pointer (some ⟨b1, 0, none⟩)), GF.fact true (fun u W => u = sumV t.2.2.2 ∧ Rd W lo hi b1 rest false), GF.val (.slice (some ⟨b, off, none⟩) 60 c), GF.val (.int .i64 y), GF.val (.pointer (some ⟨b, off + y.toNat * 35, none⟩)), GF.val (.pointer (some ⟨b, off + y.toNat * 35 + 2, none⟩)), GF.val (.pointer (some ⟨b, off + y.toNat * 35 + 3, none⟩)), GF.val (sumV t.2.2.2), GF.val (.bool true), GF.val (.bool true)] (by kernel_rfl) (by kernel_rfl)
            simp only [List.take_succ_cons, List.take_zero, List.zip_cons_cons, List.zip_nil_left]
            iterate 1 (refine wpG_val (by rfl) (by decide) (fun w' hT hD => ?_) ?_; (unfold YldG; go_simp; exact ⟨Ext.refl _, rfl⟩); (try simp only [Act.put, List.setIfInBounds_toArray, List.set_cons_zero, List.set_cons_succ]))
            refine wpG_here (by rfl) rfl (fun u W W' h he => ⟨h.1, h.2.ext he⟩) (fun w' hE hD => ?_) (fun u => ?_)
            · unfold YldG
              go_simp
              exact (rdsum_ok w' lo hi b1 _ (HS6.out.ext hE) HXB.out HLN.out).mono fun e w2 ⟨h1, h2, h3⟩ => ⟨_, h1, h3, by rw [HV1.out], by rw [HV2.out] at h2; exact h2⟩
            (try simp only [Act.put, List.setIfInBounds_toArray, List.set_cons_zero, List.set_cons_succ])
            iterate 5 (refine wpG_val (by rfl) (by decide) (fun w' hT hD => ?_) ?_; (unfold YldG; go_simp; exact ⟨Ext.refl _, rfl⟩); (try simp only [Act.put, List.setIfInBounds_toArray, List.set_cons_zero, List.set_cons_succ]))
            refine wpG_val (by rfl) (by decide) (fun w' hT hD => ?_) ?_; (exact YldG_load 24 _ rfl b (off + y.toNat * 35 + 3) rfl (nums .u8 t.2.2.2) _ (th_parts (rangeAt_ext HRG.out (hT.ext HE6.out HLO.out))).2.2.2 Try.underlying24 rfl HIS.out); (try simp only [Act.put, List.setIfInBounds_toArray, List.set_cons_zero, List.set_cons_succ])
            refine wpG_val (by rfl) (by decide) (fun w' hT hD => ?_) ?_; (have hu := (hD.1 rfl (by kernel_rfl)).1; subst hu; exact YldG_eql 24 24 (.tmp 95) (.tmp 101) rfl _ _ rfl rfl (by kernel_rfl) true (HQS.out w')); (try simp only [Act.put, List.setIfInBounds_toArray, List.set_cons_zero, List.set_cons_succ])
            iterate 1 (refine wpG_val (by rfl) (by decide) (fun w' hT hD => ?_) ?_; (unfold YldG; go_simp; exact ⟨Ext.refl _, rfl⟩); (try simp only [Act.put, List.setIfInBounds_toArray, List.set_cons_zero, List.set_cons_succ]))
            refine wpG_nil fun w9 hT hA => ?_
            obtain ⟨hu, hRd9⟩ := hA.1 rfl
            subst hu
            have HR9 := Aside0.mk hRd9
            have HE9 := Aside0.mk (hT.ext HE6.out HLO.out)
            clear hA hT hRd9 HS6 HE6
            simp only [List.drop_succ_cons, List.drop_zero]
            refine wpList_nil ?_
            go_wp2_with fail
            refine (bad_calls w9 lo hi b1 _ false HR9.out).mono ?_
            rintro e wa ⟨rfl, hE⟩
            have HRa := Aside0.mk (HR9.out.ext hE)
            have HEa := Aside0.mk (HE9.out.trans hE)
            clear hE HR9 HE9
            go_wp2
            go_roundw
            case rel => exact ⟨y + 1, rfl, ⟨by omega, by have := HLY.out; omega⟩, by rw [← HRest.out]; exact HRa, HEa⟩
            case measure => have := HLY.out; simp only [intOf]; omega
          · have hth : thB t = refB t.2.2.1 t.2.2.2 := by unfold thB; rw [if_neg (by rw [HT.out]; decide), if_neg (by rw [HT.out]; decide)]
            have HV1 := Aside0.mk (show numI ((thB t ++ rest).take 8) = t.2.2.1 ∧ ((thB t ++ rest).take 40).drop 8 = t.2.2.2 by rw [hth]; unfold refB; constructor; (rw [List.append_assoc, List.take_left' (be8_length _)]; exact numI_be8 _ HTO.out.2.2.1.1 HTO.out.2.2.1.2); (rw [List.take_left' (by rw [List.length_append, be8_length, HTO.out.2.2.2.1]), List.drop_left' (be8_length _)]))
            have HV2 := Aside0.mk (show (thB t ++ rest).drop 40 = rest by rw [hth, List.drop_left' (by unfold refB; rw [List.length_append, be8_length, HTO.out.2.2.2.1])])
            have HLN := Aside0.mk (show 40 ≤ (thB t ++ rest).length by rw [hth, List.length_append]; unfold refB; rw [List.length_append, be8_length]; have := HTO.out.2.2.2.1; omega)
            clear hth
            go_wp2_with fail
            apply wp_region_G 9 1 (fun w w' => Tch w w' lo hi) (fun _ _ h => Tch.of_ext h lo hi) (fun _ _ _ h k => h.trans k) [GF.val (.pointer (some ⟨b1, 0, none⟩)), GF.fact true (fun u W => u = refV t.2.2.1 t.2.2.2 ∧ Rd W lo hi b1 rest false), GF.val (.slice (some ⟨b, off, none⟩) 60 c), GF.val (.int .i64 y), GF.val (.pointer (some ⟨b, off + y.toNat * 35, none⟩)), GF.val (.pointer (some ⟨b, off + y.toNat * 35 + 2, none⟩)), GF.val (refV t.2.2.1 t.2.2.2), GF.val (.bool true), GF.val (.bool true)] (by kernel_rfl) (by kernel_rfl)
            simp only [List.take_succ_cons, List.take_zero, List.zip_cons_cons, List.zip_nil_left]
            iterate 1 (refine wpG_val (by rfl) (by decide) (fun w' hT hD => ?_) ?_; (unfold YldG; go_simp; exact ⟨Ext.refl _, rfl⟩); (try simp only [Act.put, List.setIfInBounds_toArray, List.set_cons_zero, List.set_cons_succ]))
            refine wpG_here (by rfl) rfl (fun u W W' h he => ⟨h.1, h.2.ext he⟩) (fun w' hE hD => ?_) (fun u => ?_)
            · unfold YldG
              go_simp
              exact (rdref_ok w' lo hi b1 _ (HS6.out.ext hE) HXB.out HLN.out).mono fun e w2 ⟨h1, h2, h3⟩ => ⟨_, h1, h3, by rw [HV1.out.1, HV1.out.2], by rw [HV2.out] at h2; exact h2⟩
            (try simp only [Act.put, List.setIfInBounds_toArray, List.set_cons_zero, List.set_cons_succ])
            iterate 4 (refine wpG_val (by rfl) (by decide) (fun w' hT hD => ?_) ?_; (unfold YldG; go_simp; exact ⟨Ext.refl _, rfl⟩); (try simp only [Act.put, List.setIfInBounds_toArray, List.set_cons_zero, List.set_cons_succ]))
            refine wpG_val (by rfl) (by decide) (fun w' hT hD => ?_) ?_; (exact YldG_load 26 _ rfl b (off + y.toNat * 35 + 2) rfl (refC t.2.2.1 t.2.2.2) _ (th_parts (rangeAt_ext HRG.out (hT.ext HE6.out HLO.out))).2.2.1 Try.underlying26 rfl HIR.out); (try simp only [Act.put, List.setIfInBounds_toArray, List.set_cons_zero, List.set_cons_succ])
            refine wpG_val (by rfl) (by decide) (fun w' hT hD => ?_) ?_; (have hu := (hD.1 rfl (by kernel_rfl)).1; subst hu; exact YldG_eql 26 26 (.tmp 75) (.tmp 80) rfl _ _ rfl rfl (by kernel_rfl) true (HQR.out w')); (try simp only [Act.put, List.setIfInBounds_toArray, List.set_cons_zero, List.set_cons_succ])
            iterate 1 (refine wpG_val (by rfl) (by decide) (fun w' hT hD => ?_) ?_; (unfold YldG; go_simp; exact ⟨Ext.refl _, rfl⟩); (try simp only [Act.put, List.setIfInBounds_toArray, List.set_cons_zero, List.set_cons_succ]))
            refine wpG_nil fun w9 hT hA => ?_
            obtain ⟨hu, hRd9⟩ := hA.1 rfl
            subst hu
            have HR9 := Aside0.mk hRd9
            have HE9 := Aside0.mk (hT.ext HE6.out HLO.out)
            clear hA hT hRd9 HS6 HE6
            simp only [List.drop_succ_cons, List.drop_zero]
            refine wpList_nil ?_
            go_wp2_with fail
            refine (bad_calls w9 lo hi b1 _ false HR9.out).mono ?_
            rintro e wa ⟨rfl, hE⟩
            have HRa := Aside0.mk (HR9.out.ext hE)
            have HEa := Aside0.mk (HE9.out.trans hE)
            clear hE HR9 HE9
            go_wp2
            go_roundw
            case rel => exact ⟨y + 1, rfl, ⟨by omega, by have := HLY.out; omega⟩, by rw [← HRest.out]; exact HRa, HEa⟩
            case measure => have := HLY.out; simp only [intOf]; omega
        · have hy : y = 60 := by omega
          rw [show allB (L.drop y.toNat) = [] by rw [List.drop_eq_nil_of_le (by rw [HL.out]; omega)]; rfl, List.nil_append] at HRd
          have HLI0 := Aside0.mk (show leftI more false = (n1 : Int) by unfold leftI; rw [if_neg (by decide), HN1.out])
          by_cases h0 : n1 = 0
          · have HEN := Aside0.mk (show endI more false = 0 by unfold endI; rw [if_neg (by decide), if_pos (by rw [← HN1.out]; exact h0)])
            have hz0 : ((n1 : Int) = 0) = True := eq_true (by omega)
            have hz0' : (n1 = 0) = True := eq_true h0
            have hz0b : ((n1 : Int) == 0) = true := by rw [h0]; rfl
            clear h0
            go_wp2_with fail
            refine (left_calls _ lo hi b1 _ false HRd.out).mono ?_
            rintro e wa ⟨rfl, hE⟩
            have HRa := Aside0.mk (HRd.out.ext hE)
            have HEa := Aside0.mk (HEr.out.trans hE)
            have HLI := HLI0.out
            rw [HLI]
            clear hE HRd HEr HLI HLI0
            go_wp2_with fail
            refine (end_calls _ lo hi b1 _ false HRa.out).mono ?_
            rintro e wb ⟨rfl, hE⟩
            have HEb := Aside0.mk (HEa.out.trans hE)
            rw [HEN.out]
            clear hE HEa HRa HEN
            go_wp2_with fail
            refine (known_calls _).mono ?_
            rintro e wc ⟨rfl, hE⟩
            have HEc := Aside0.mk (HEb.out.trans hE)
            clear hE HEb
            go_wp2
            go_ret
            exact ⟨rfl, HEc.out⟩
          · have HEN := Aside0.mk (show endI more false = 3 by unfold endI; rw [if_neg (by decide), if_neg (by rw [← HN1.out]; exact h0)])
            have hz0 : ((n1 : Int) = 0) = False := eq_false (by omega)
            have hz0' : (n1 = 0) = False := eq_false h0
            have hz0b : ((n1 : Int) == 0) = false := by simpa using h0
            clear h0
            go_wp2_with fail
            refine (left_calls _ lo hi b1 _ false HRd.out).mono ?_
            rintro e wa ⟨rfl, hE⟩
            have HRa := Aside0.mk (HRd.out.ext hE)
            have HEa := Aside0.mk (HEr.out.trans hE)
            have HLI := HLI0.out
            rw [HLI]
            clear hE HRd HEr HLI HLI0
            go_wp2_with fail
            refine (end_calls _ lo hi b1 _ false HRa.out).mono ?_
            rintro e wb ⟨rfl, hE⟩
            have HEb := Aside0.mk (HEa.out.trans hE)
            rw [HEN.out]
            clear hE HEa HRa HEN
            go_wp2_with fail
            refine (known_calls _).mono ?_
            rintro e wc ⟨rfl, hE⟩
            have HEc := Aside0.mk (HEb.out.trans hE)
            clear hE HEb
            go_wp2
            go_ret
            exact ⟨rfl, HEc.out⟩

set_option maxRecDepth 100000 in
theorem back_calls (w : World) (A A1 : Option Addr) (c n c1 n1 : Nat) (L : List Th) (more : List Int) (hn : n = L.length) (hr : Kd.C kTh w A n L) (hc : n ≤ c) (hok : ∀ t ∈ L, Th.ok t) (hn1 : n1 = more.length) (hr1 : Kd.C kb w A1 n1 more) (hc1 : n1 ≤ c1) (hB : isB more) :
    Calls Try.prog 7 #[.slice A n c, .slice A1 n1 c1] w fun e w' => e = .returned (.bool true) ∧ Ext w w' := by
  by_cases hbig : n1 > 4096
  · have hz : ((4096 : Int) < (n1 : Int)) = True := eq_true (by omega)
    clear hn hr hok hn1 hr1 hB hbig
    go_enter Try.func7, Try.ntmps7
    go_wp2_with fail
    refine (known_calls _).mono ?_
    rintro e w1 ⟨rfl, hE⟩
    have HE := Aside0.mk hE
    clear hE
    go_wp2
    go_ret
    exact ⟨rfl, HE.out⟩
  by_cases h60 : n ≤ 60
  · exact back_small w A A1 c n c1 n1 L more hr (Nat.le_refl _) hc h60 h60 hok hn1 hr1 hc1 hB (by omega)
  · have ht : Kd.C kTh w A 60 (L.take 60) := by
      have := Kd.C_take (m := 60) (hn ▸ hr) (by omega)
      rwa [show (L.take 60).length = 60 by rw [List.length_take]; omega] at this
    exact back_big w A A1 c n c1 n1 (L.take 60) more ht (by omega) hc (by omega) (Nat.le_refl _) (fun t ht => hok t (List.mem_of_mem_take ht)) hn1 hr1 hc1 hB (by omega)
end Go.Proofs.Ytkjjkahdmlfflaa.By
