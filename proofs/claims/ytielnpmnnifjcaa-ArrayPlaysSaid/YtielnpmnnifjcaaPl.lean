/- ArrayPlays: whatever is done, both arrays answer the same. -/
import Derived.Test.YtielnpmnnifjcaaMall
import Derived.Test.YtielnpmnnifjcaaAk
namespace Go.Proofs.Ytielnpmnnifjcaa.By
open Go.RowKit Go.Proofs.Ytielnpmnnifjcaa.Reg Go.Proofs.YtielnpmnnifjcaaW.PrintWords Go.Proofs.YtielnpmnnifjcaaW.PrintLast Go.Proofs.YtielnpmnnifjcaaW.PrintMore
set_option linter.unusedVariables false
set_option linter.unusedSimpArgs false


set_option maxRecDepth 100000 in
set_option maxHeartbeats 16000000 in
theorem array_plays (w : World) (z : Int) (A : Option Addr) (m c : Nat) (l : List Ac) (hm : m = l.length) (hr : Kd.C kAct w A m l) (hc : m ≤ c) (hrng : ∀ p ∈ l, (-9223372036854775808 ≤ p.1 ∧ p.1 ≤ 9223372036854775807)) :
    Calls Try.prog 4 #[.int .i64 z, .slice A m c] w fun e w' => e = .returned (.bool true) ∧ Below w.heap.size w w' := by
  have HR := Aside0.mk hr
  have HM := Aside0.mk hm
  have HRNG := Aside0.mk hrng
  clear hr hm hrng
  have HSI := Aside0.mk (fun (a b c : Value) => show (Try.prog.info? 34).map (·.size) = some [a, b, c].length from by kernel_rfl)
  obtain ⟨B, hB⟩ : ∃ B, B = w.heap.size := ⟨_, rfl⟩
  have HBW := Aside0.mk hB
  obtain ⟨n, hn⟩ : ∃ n, n = clampN z := ⟨_, rfl⟩
  have hA0 := ar_new w z B (Nat.le_of_eq hB)
  rw [← hn] at hA0
  have HA0 := Aside0.mk hA0
  have HM0 := Aside0.mk (fun (w1 : World) (he : Ext w w1) => m_new w1 z B (by rw [hB]; exact he.size))
  rw [← hn] at HM0
  clear hA0 hB hn
  go_enter Try.func4, Try.ntmps4
  go_wp2_with fail
  refine HA0.out.mono ?_
  rintro e w1 ⟨ba, rfl, hA, hE, hb⟩
  have HA1 := Aside0.mk hA
  have HE1 := Aside0.mk hE
  clear hA hE hb HA0
  go_wp2_with fail
  refine (HM0.out w1 HE1.out).mono ?_
  rintro e w2 ⟨bm, rfl, hA, hE, hb⟩
  have HM2 := Aside0.mk hA
  have HA2 := Aside0.mk (HA1.out.ext hE)
  have HE2 := Aside0.mk (HE1.out.trans hE)
  clear hA hE hb HA1 HE1 HM0
  go_wp2_with fail
  go_loopw [7] (fun j wr => ∃ (x : Nat) (V U : Value) (L : List Ch) (last : Nat), j = .int .i64 x ∧ Aside0 (x ≤ m ∧ x ≤ 60 ∧ L.length ≤ x) ∧ Aside0 (AR wr B ba n V L last) ∧ Aside0 (MR wr B bm n U L last) ∧ Aside0 (Ext w wr)) (fun j _ => 61 - (intOf j).toNat)
  case atStart => exact ⟨0, _, _, [], 0, rfl, ⟨⟨Nat.zero_le _, by decide, Nat.zero_le _⟩⟩, HA2, HM2, HE2⟩
  case round =>
    clear HA2 HM2 HE2
    obtain ⟨x, V, U, L, last, rfl, HX, HA, HU, HE⟩ := hrel
    have g1 := HX.out.1
    have g2 := HX.out.2.1
    obtain ⟨w0, hw0⟩ : ∃ w0 : World, w0 = wr := ⟨_, rfl⟩
    subst hw0
    by_cases hlt : x < m ∧ x < 60
    · obtain ⟨hxm, hx60⟩ := hlt
      have HXM := Aside0.mk (And.intro hxm hx60)
      have hxe : x < l.length := by have := HM.out; omega
      obtain ⟨b, off, AD, cd, AQ', cr, hA, hrg, hcd, hCD, hcr, hCR⟩ := act_at HR.out x hxm _ (List.getElem?_eq_getElem hxe)
      have HKD := Aside0.mk (HRNG.out _ (List.getElem_mem hxe))
      generalize l[x] = p at hrg HKD hcd hCD hcr hCR
      obtain ⟨kd, fn, ⟨tr, at', xs⟩, rows⟩ := p
      dsimp only at HKD hrg hcd hCD hcr hCR
      subst hA
      obtain ⟨mx, hmx⟩ : ∃ mx, mx = xs.length := ⟨_, rfl⟩
      obtain ⟨mr, hmr⟩ : ∃ mr, mr = rows.length := ⟨_, rfl⟩
      rw [← hmx] at hrg hcd hCD
      rw [← hmr] at hrg hcr hCR
      have HCD := Aside0.mk (show mx = xs.length ∧ mx ≤ cd ∧ Kd.C kb w AD mx xs from ⟨hmx, hcd, hCD⟩)
      have HCR := Aside0.mk (show mr = rows.length ∧ mr ≤ cr ∧ Kd.C kBB w AQ' mr rows from ⟨hmr, hcr, hCR⟩)
      have HG := Aside0.mk hrg
      clear hCD hCR hmx hmr hxe hcd hcr hrg
      have k0 : w0.cell? ⟨b, off + x * 6, none⟩ = some (.int .i64 kd) := Ext.cell HE.out (HG.out 0 _ rfl)
      have k4 : w0.cell? ⟨b, off + x * 6 + 4, none⟩ = some (.slice AD mx cd) := Ext.cell HE.out (HG.out 4 _ rfl)
      have k5 : w0.cell? ⟨b, off + x * 6 + 5, none⟩ = some (.slice AQ' mr cr) := Ext.cell HE.out (HG.out 5 _ rfl)
      by_cases h2000 : (2000 : Int) < mx
      · go_wp2_with fail
        refine (known_calls w0).mono ?_
        rintro e wz ⟨rfl, hE⟩
        have HEz := Aside0.mk (HE.out.trans hE)
        clear hE
        go_wp2
        go_ret
        exact ⟨rfl, HEz.out⟩
      have HBG := Aside0.mk (big_at w0 AQ' cr rows HCR.out.1 (Kd.C_below HCR.out.2.2 HE.out) HCR.out.2.1)
      have HMX := Aside0.mk (show mx ≤ 2000 by omega)
      go_wp2_with fail
      refine HBG.out.mono ?_
      rintro e w3 ⟨bg, rfl, hbg, hE⟩
      have HBB := Aside0.mk hbg
      have HA3 := Aside0.mk (HA.out.ext hE)
      have HU3 := Aside0.mk (HU.out.ext hE)
      have HE3 := Aside0.mk (HE.out.trans hE)
      clear hbg hE HA HU HE HBG k0 k4 k5 h2000
      cases bg with
      | true =>
        go_wp2_with fail
        refine (known_calls w3).mono ?_
        rintro e wz ⟨rfl, hE⟩
        have HEz := Aside0.mk (HE3.out.trans hE)
        clear hE
        go_wp2
        go_ret
        exact ⟨rfl, HEz.out⟩
      | false =>
        have HSM := Aside0.mk (HBB.out rfl)
        have HLX := Aside0.mk HX.out.2.2
        clear HBB HX
        have k0 : w3.cell? ⟨b, off + x * 6, none⟩ = some (.int .i64 kd) := Ext.cell HE3.out (HG.out 0 _ rfl)
        go_wp2_with fail
        rename_i Kj hj Kb hb Kp hp
        have TAIL : ∀ {q4 q9 q10 q11 q12 q13 q14 q15 q16 q17 q18 q19 q20 q21 q22 q23 q24 q25 q32 q33 q34 q35 q36 q37 q38 q39 q40 q41 q42 q43 q44 q45 q46 q47 q48 q49 q50 q51 q52 q53 q54 q55 q56 q57 q58 q59 q60 q61 q62 q63 q64 q65 q66 q67 q68 q69 q70 q71 q72 q73 q74 q75 q76 q77 q78 q79 q80 q81 q82 q83 q84 q85 q86 q87 q88 q89 q90 q91 q92 q93 q94 q95 q96 q97 q98 q99 q100 q101 q102 q103 q104 q105 q106 q107 q108 q109 q110 q111 q112 q113 q114 q115 q116 q117 q118 q119 q120 q121 q122 q123 q124 q125 q126 q127 q128 q129 q130 q131 q132 q133 q134 q135 q136 q137 q138 q139 q140 q141 q142 q143 q144 q145 q146 q147 q148 q149 q150 q151 q152 q153 q154 q155 q156 q157 q158 q159 q160 q161 q162 q163 q164 q165 q166 q167 q168 q169 q170 q171 q172 q173 q174 q175 q176 q177 q178 q179 q180 q181 q182 q183 q184 q185 q186 q187 q188 q189 q190 q191 q192 q193 q194 q195 q196 q197 q198 q199 q200 q201 q202 q203 q204 q205 q206 q207 q208 q209 q210 q211 q212 q213 q214 q215 q216 q217 q218 q219 q220 q221 q222 q223 q224 q225 q226 q227 q228 q229 q230 q231 q232 q233 q234 q235 q236 q237 q238 q239 q240 q241 q242 q243 q244 q245 q246 q247 q248 : Value} (wk : World) (V9 U9 : Value) (L9 : List Ch) (l9 : Nat), AR wk B ba n V9 L9 l9 → MR wk B bm n U9 L9 l9 → Ext w wk → L9.length ≤ x + 1 → Kj ⟨#[.int .i64 z, .slice (some ⟨b, off, none⟩) m c, undef, undef, q4, .pointer (some ⟨ba, 0, none⟩), .pointer (some ⟨bm, 0, none⟩), .int .i64 (x : Int), .bool true, q9, q10, q11, q12, q13, q14, q15, q16, q17, q18, q19, q20, q21, q22, q23, q24, q25, .int .i64 z, .pointer (some ⟨ba, 0, none⟩), .int .i64 z, .pointer (some ⟨bm, 0, none⟩), .pointer (some ⟨ba, 0, none⟩), .bool false, q32, q33, q34, q35, q36, q37, q38, q39, q40, q41, q42, q43, q44, q45, q46, q47, q48, q49, q50, q51, q52, q53, q54, q55, q56, q57, q58, q59, q60, q61, q62, q63, q64, q65, q66, q67, q68, q69, q70, q71, q72, q73, q74, q75, q76, q77, q78, q79, q80, q81, q82, q83, q84, q85, q86, q87, q88, q89, q90, q91, q92, q93, q94, q95, q96, q97, q98, q99, q100, q101, q102, q103, q104, q105, q106, q107, q108, q109, q110, q111, q112, q113, q114, q115, q116, q117, q118, q119, q120, q121, q122, q123, q124, q125, q126, q127, q128, q129, q130, q131, q132, q133, q134, q135, q136, q137, q138, q139, q140, q141, q142, q143, q144, q145, q146, q147, q148, q149, q150, q151, q152, q153, q154, q155, q156, q157, q158, q159, q160, q161, q162, q163, q164, q165, q166, q167, q168, q169, q170, q171, q172, q173, q174, q175, q176, q177, q178, q179, q180, q181, q182, q183, q184, q185, q186, q187, q188, q189, q190, q191, q192, q193, q194, q195, q196, q197, q198, q199, q200, q201, q202, q203, q204, q205, q206, q207, q208, q209, q210, q211, q212, q213, q214, q215, q216, q217, q218, q219, q220, q221, q222, q223, q224, q225, q226, q227, q228, q229, q230, q231, q232, q233, q234, q235, q236, q237, q238, q239, q240, q241, q242, q243, q244, q245, q246, q247, q248, undef], []⟩ wk := by
          intro q4 q9 q10 q11 q12 q13 q14 q15 q16 q17 q18 q19 q20 q21 q22 q23 q24 q25 q32 q33 q34 q35 q36 q37 q38 q39 q40 q41 q42 q43 q44 q45 q46 q47 q48 q49 q50 q51 q52 q53 q54 q55 q56 q57 q58 q59 q60 q61 q62 q63 q64 q65 q66 q67 q68 q69 q70 q71 q72 q73 q74 q75 q76 q77 q78 q79 q80 q81 q82 q83 q84 q85 q86 q87 q88 q89 q90 q91 q92 q93 q94 q95 q96 q97 q98 q99 q100 q101 q102 q103 q104 q105 q106 q107 q108 q109 q110 q111 q112 q113 q114 q115 q116 q117 q118 q119 q120 q121 q122 q123 q124 q125 q126 q127 q128 q129 q130 q131 q132 q133 q134 q135 q136 q137 q138 q139 q140 q141 q142 q143 q144 q145 q146 q147 q148 q149 q150 q151 q152 q153 q154 q155 q156 q157 q158 q159 q160 q161 q162 q163 q164 q165 q166 q167 q168 q169 q170 q171 q172 q173 q174 q175 q176 q177 q178 q179 q180 q181 q182 q183 q184 q185 q186 q187 q188 q189 q190 q191 q192 q193 q194 q195 q196 q197 q198 q199 q200 q201 q202 q203 q204 q205 q206 q207 q208 q209 q210 q211 q212 q213 q214 q215 q216 q217 q218 q219 q220 q221 q222 q223 q224 q225 q226 q227 q228 q229 q230 q231 q232 q233 q234 q235 q236 q237 q238 q239 q240 q241 q242 q243 q244 q245 q246 q247 q248 wk V9 U9 L9 l9 hAk hUk hEk hLk
          have HAk := Aside0.mk hAk
          have HUk := Aside0.mk hUk
          have HEk := Aside0.mk hEk
          have HLk := Aside0.mk hLk
          clear hAk hUk hEk hLk HA3 HU3 HE3 k0
          refine hj _ _ ?_
          clear hj hb hp
          go_wp2_with fail
          refine (ar_rows HAk.out).mono ?_
          rintro e y1 ⟨R1, rfl, hN, hE⟩
          obtain ⟨A1, C1, eV, hC1, hK1⟩ := hN.C (n := n) (rowsOf_len _ _).symm
          have HNR := Aside0.mk hN
          have HK1 := Aside0.mk (And.intro hC1 hK1)
          have HAy := Aside0.mk (HAk.out.ext hE)
          have HUy := Aside0.mk (HUk.out.ext hE)
          have HEy := Aside0.mk hE
          have HEV := Aside0.mk eV
          subst eV
          clear hN hE hC1 hK1
          go_wp2_with fail
          refine (ar_open HAy.out).mono ?_
          rintro e _ ⟨rfl, rfl⟩
          go_wp2_with fail
          refine (m_open HUy.out).mono ?_
          rintro e y2 ⟨rfl, hE⟩
          have HA2 := Aside0.mk (HAy.out.ext hE)
          have HU2 := Aside0.mk (HUy.out.ext hE)
          have HE2 := Aside0.mk (HEy.out.trans hE)
          have HN2 := Aside0.mk (HNR.out.ext hE)
          have HKy := Aside0.mk (Kd.C_below HK1.out.2 hE)
          clear hE HAy HUy HEy HNR
          go_wp2_with fail
          refine (ar_mapped HA2.out).mono ?_
          rintro e _ ⟨rfl, rfl⟩
          go_wp2_with fail
          refine (m_mapped64 HU2.out).mono ?_
          rintro e y3 ⟨rfl, hE⟩
          have HA3 := Aside0.mk (HA2.out.ext hE)
          have HU3 := Aside0.mk (HU2.out.ext hE)
          have HE3 := Aside0.mk (HE2.out.trans hE)
          have HN3 := Aside0.mk (HN2.out.ext hE)
          have HKz := Aside0.mk (Kd.C_below HKy.out hE)
          clear hE HA2 HU2 HE2 HN2 HKy
          go_wp2_with fail
          refine (m_rows HU3.out).mono ?_
          rintro e y4 ⟨R2, rfl, hN, hE⟩
          obtain ⟨A2, C2, eV, hC2, hK2⟩ := hN.C (n := n) (rowsOf_len _ _).symm
          subst eV
          have HL32 := Aside0.mk (rows32 (n := n) (aft_len L9 zR zR_len (fun p hp => (HU3.out.ok p hp).2.2)))
          have HSR := Aside0.mk (sameR_at y4 A1 A2 C1 C2 _ _ true 32 (by decide) (by rw [rowsOf_len]; have := HUk.out.n64; omega) HL32.out (rowsOf_len _ _).symm (rowsOf_len _ _).symm (by simp) (Kd.C_below HKz.out hE) HK1.out.1 hK2 hC2)
          have HE4 := Aside0.mk (HE3.out.trans hE)
          have HN4 := Aside0.mk (HN3.out.ext hE)
          clear hN hE hC2 hK2 HA3 HU3 HE3 HN3 HKz HK1
          go_wp2_with fail
          refine HSR.out.mono ?_
          rintro e y5 ⟨rfl, hE⟩
          have HE5 := Aside0.mk (HE4.out.trans hE)
          have HN5 := Aside0.mk (HN4.out.ext hE)
          clear hE HE4 HN4 HSR
          go_wp2_with fail
          refine (spoilR_calls wk y5 (.slice A1 n C1) _ HE5.out HN5.out (fun r hr => Nat.le_trans (HL32.out r hr) (by decide)) (by rw [rowsOf_len]; have := HUk.out.n64; omega)).mono ?_
          rintro e y6 ⟨rfl, hE⟩
          have HE6 := Aside0.mk hE
          have hn64 := HUk.out.n64
          clear hE HE5 HN5 HL32
          go_wp2_with fail
          go_loopw [21] (fun j wr => ∃ z : Int, j = .int .i64 z ∧ Aside0 (-1 ≤ z ∧ z ≤ (n : Int) + 1) ∧ Aside0 (Ext wk wr)) (fun j _ => ((n : Int) + 2 - intOf j).toNat)
          case atStart => exact ⟨-1, rfl, ⟨⟨by omega, by omega⟩⟩, HE6⟩
          case round =>
            clear HE6
            obtain ⟨z', rfl, HZ, HEr⟩ := hrel
            have z0 := HZ.out.1
            have z1 := HZ.out.2
            obtain ⟨v0, hv0⟩ : ∃ v0 : World, v0 = wr := ⟨_, rfl⟩
            subst hv0
            have HAr := Aside0.mk (HAk.out.ext HEr.out)
            have HUr := Aside0.mk (HUk.out.ext HEr.out)
            have c0 := HUr.out.bl.cell 0 (v := .int .i64 (n : Int)) rfl
            by_cases hzn : z' ≤ (n : Int)
            · have HZN := Aside0.mk hzn
              by_cases hin : 0 ≤ z' ∧ z' < (n : Int)
              · obtain ⟨k, rfl⟩ : ∃ k : Nat, z' = k := ⟨z'.toNat, by omega⟩
                have HKN := Aside0.mk (show k < n by omega)
                clear hin
                go_wp2_with fail
                refine (ar_read HAr.out k HKN.out).mono ?_
                rintro e v1 ⟨X1, rfl, hX, hE⟩
                have hl32 := aft_len L9 zR zR_len (fun p hp => (HUr.out.ok p hp).2.2) k
                obtain ⟨AX, CX, eX, hcX, hCX⟩ := hX.nat (n := 32) hl32.symm
                subst eX
                have HU1 := Aside0.mk (HUr.out.ext hE)
                have HX1 := Aside0.mk hX
                have HE1' := Aside0.mk (HEr.out.trans hE)
                have HCX := Aside0.mk (And.intro hcX hCX)
                have HL32 := Aside0.mk hl32
                clear hX hE hcX hCX hl32 c0
                go_wp2_with fail
                refine (m_read HU1.out k HKN.out).mono ?_
                rintro e v2 ⟨AY, CY, rfl, hcY, hCY, hE⟩
                have HSB := Aside0.mk (same_at v2 AX AY CX CY _ _ true HL32.out.symm HL32.out.symm (by simp) (Kd.C_below HCX.out.2 hE) HCX.out.1 hCY hcY (by rw [HL32.out]; decide))
                have HX2 := Aside0.mk (HX1.out.ext hE)
                have HE2' := Aside0.mk (HE1'.out.trans hE)
                clear hE hcY hCY HU1 HX1 HE1' HCX
                go_wp2_with fail
                refine HSB.out.mono ?_
                rintro e v3 ⟨rfl, hE⟩
                have HX3 := Aside0.mk (HX2.out.ext hE)
                have HE3' := Aside0.mk (HE2'.out.trans hE)
                clear hE HX2 HE2' HSB
                go_wp2_with fail
                refine (spoil_calls v3 _ wk (.slice AX 32 CX) HE3'.out (HX3.out.lower HEr.out.size) (by rw [HL32.out]; decide)).mono ?_
                rintro e v4 ⟨rfl, hE, _⟩
                have HE4' := Aside0.mk hE
                clear hE HX3 HE3'
                go_wp2_with fail
                go_roundw
                case rel => exact ⟨(k : Int) + 1, by go_num, ⟨⟨by omega, by omega⟩⟩, HE4'⟩
                case measure => simp only [intOf]; omega
              · have HOUT := Aside0.mk (show z' < 0 ∨ (n : Int) ≤ z' by omega)
                have HSB := Aside0.mk (same_at v0 none none 0 0 [] [] true rfl rfl rfl (Kd.C_nil kb v0) (Nat.le_refl _) (Kd.C_nil kb v0) (Nat.le_refl _) (by decide))
                clear hin
                go_wp2_with fail
                refine (ar_read_no HAr.out z' HOUT.out).mono ?_
                rintro e _ ⟨rfl, rfl⟩
                go_wp2_with fail
                refine (m_read_no HUr.out z' HOUT.out).mono ?_
                rintro e _ ⟨rfl, rfl⟩
                go_wp2_with fail
                refine HSB.out.mono ?_
                rintro e v3 ⟨rfl, hE⟩
                have HE3' := Aside0.mk (HEr.out.trans hE)
                clear hE HSB c0
                go_wp2_with fail
                refine (spoil_calls v3 [] wk (.slice none 0 0) HE3'.out (Kd.R_nil _ _ _ _ _) (by decide)).mono ?_
                rintro e v4 ⟨rfl, hE, _⟩
                have HE4' := Aside0.mk hE
                clear hE HE3'
                go_wp2_with fail
                go_roundw
                case rel => exact ⟨z' + 1, by go_num, ⟨⟨by omega, by omega⟩⟩, HE4'⟩
                case measure => simp only [intOf]; omega
            · go_wp2_with fail
              go_roundw
              case rel => exact ⟨x + 1, _, _, L9, _, by go_num, ⟨⟨HXM.out.1, by have := HXM.out.2; omega, HLk.out⟩⟩, HAr, HUr, ⟨HEk.out.trans HEr.out⟩⟩
              case measure => have := HXM.out.2; simp only [intOf]; omega
        have HTL := Aside0.mk (@TAIL)
        clear hj TAIL
        have hj2 : ∀ (a : Act) (w : World), Aside0 (Kj a w) → Kj a w := fun a w h => h.out
        refine (pick_calls w3 kd 6 _ HKD.out.1 HKD.out.2 (by decide) rfl).mono ?_
        rintro e w4 ⟨rfl, hE⟩
        have HA4 := Aside0.mk (HA3.out.ext hE)
        have HU4 := Aside0.mk (HU3.out.ext hE)
        have HE4 := Aside0.mk (HE3.out.trans hE)
        have hP := pickT_range kd 6 (by decide)
        obtain ⟨r, hrr⟩ : ∃ r, pickT kd 6 = r := ⟨_, rfl⟩
        rw [hrr] at hP ⊢
        clear hE hrr HA3 HU3 HE3 k0
        refine hp _ _ ?_
        have HR6 : r = 0 ∨ r = 1 ∨ r = 2 ∨ r = 3 ∨ r = 4 ∨ r = 5 := by omega
        clear hP
        rcases HR6 with rfl | rfl | rfl | rfl | rfl | rfl
        · have HG4 := Aside0.mk (rangeAt_ext HG.out HE4.out)
          have HGC := Aside0.mk (show w4.rangeAt b (off + x * 6 + 2) [.bool tr, .int .i64 at', .slice AD mx cd] from range_part HG4.out 2 3)
          obtain ⟨bx, hbx⟩ : ∃ bx, bx = w4.heap.size := ⟨_, rfl⟩
          have HBX := Aside0.mk hbx
          have HBn := Aside0.mk (Blk.new w4 #[.bool false, .int .i64 0, .slice none 0 0] 34)
          clear hbx
          (try dsimp only)
          go_wp2_with (first | ((with_reducible refine gate_load (ty := 34) rfl ?_); refine load_at rfl 34 _ rfl b (off + x * 6 + 2) rfl [.bool tr, .int .i64 at', .slice AD mx cd] _ HGC.out Try.underlying34 rfl (HSI.out _ _ _) ?_) | ((with_reducible refine gate_store (ty := 34) rfl ?_); refine store_at rfl 34 _ _ rfl w4.heap.size [.bool tr, .int .i64 at', .slice AD mx cd] rfl rfl _ 34 HBn.out rfl (HSI.out _ _ _) (dL_one (tr, at', (AD, mx, cd))) ?_) | fail)
          intro w5 hW5 hb5
          rw [← HBX.out] at hb5 hW5 ⊢
          have HB5 := Aside0.mk hb5
          have HX45 := Aside0.mk (show Ext w4 w5 from (Chg.of_wrote (S := fun j => j = bx) hW5 rfl).to_ext ((Ext.refl w4).alloc _) (fun j hj => by rw [hj, HBX.out]; exact Nat.le_refl _))
          clear hW5 hb5 HBn HGC
          have c2 := HB5.out.cell 2 (v := .slice AD mx cd) rfl
          (try dsimp only)
          go_wp2_with fail
          refine (lent_at w5 AD cd xs HCD.out.1 (Kd.C_below HCD.out.2.2 (HE4.out.trans HX45.out)) HCD.out.2.1 HMX.out).mono ?_
          rintro e w6 ⟨VV, rfl, hV, hE⟩
          obtain ⟨m5, hm5⟩ : ∃ z, z = (lent xs).length := ⟨_, rfl⟩
          have HM5 := Aside0.mk hm5
          have hm5' : m5 = mx + 5 := by rw [hm5, lent_length, HCD.out.1]
          have HM5' := Aside0.mk hm5'
          obtain ⟨AV, cV, eV, hcV, hCV⟩ := hV.nat hm5
          subst eV
          have hmx := HMX.out
          obtain ⟨i0, hi0, _, hsz, _⟩ := info_parts PArrayPlays.info5
          have hcut := cut_to (P := Try.prog) 31 5 .i64 Try.underlying31 hi0 AV m5 cV (mx : Int) (by omega) (by omega) hcV
          rw [Int.toNat_natCast] at hcut
          have HB6 := Aside0.mk (HB5.out.ext hE)
          have HV6 := Aside0.mk hV
          have HX46 := Aside0.mk (HX45.out.trans hE)
          have HCV5 := Aside0.mk hcV
          have HCV := Aside0.mk (show mx ≤ cV by omega)
          have hmm : (mx : Int) ≤ m5 := by omega
          have hm52 : (m5 : Int) ≤ 2005 := by omega
          clear hV hE hm5 hCV hi0 hsz hcV HB5 c2 hm5'
          have c2 := HB6.out.cell 2 (v := .slice AD mx cd) rfl
          have f2 := HB6.out.free 2
          (try dsimp only)
          go_wp2_with fail
          clear c2 f2 hcut hmm hm52 hmx
          obtain ⟨w7, hw7⟩ : ∃ z, z = w6.setCell ⟨bx, 2, none⟩ (.slice AV mx cV) := ⟨_, rfl⟩
          rw [← hw7]
          have HB7 := Aside0.mk (show Blk w7 bx #[.bool tr, .int .i64 at', .slice AV mx cV] 34 from by rw [hw7]; exact HB6.out.set 2 (.slice AV mx cV))
          have hC7 : Chg w6 w7 (fun j => j = bx) := by rw [hw7]; exact Chg.of_wrote (Wrote.setCell w6 bx 2 _) rfl
          have HX47 := Aside0.mk (show Ext w4 w7 from hC7.to_ext HX46.out (fun j hj => by rw [hj, HBX.out]; exact Nat.le_refl _))
          have HV7 := Aside0.mk (show NB w7 w5.heap.size (.slice AV m5 cV) (lent xs) from HV6.out.chg hC7 (fun j hj hs => by
            obtain ⟨cl, e9⟩ := HV6.out.typed j hj
            rw [hs, HB6.out.is] at e9
            injection e9 with e9
            injection e9 with _ e9
            cases e9))
          have HSB := Aside0.mk (show ∀ j, (Ast ba V j ∨ Ast bm U j) → w.heap.size ≤ j from fun j hj => by
            rw [← HBW.out]
            exact hj.elim (HA4.out.bb j) (HU4.out.bb j))
          have HA7 := Aside0.mk (HA4.out.ext HX47.out)
          have HX7 := Aside0.mk ((MX.start (X := fun j => (Value.slice AV m5 cV).ownBlock = some j) HU4.out (fun k hk => Nat.le_trans HX45.out.size (Kd.R_base HV7.out k hk))).ext HX47.out)
          have HEX := Aside0.mk (HE4.out.trans HX47.out)
          have HBS := Aside0.mk (show B ≤ w7.heap.size from by rw [HBW.out]; exact HEX.out.size)
          have HNB := Aside0.mk (show ¬ (Ast ba V bx ∨ Ast bm U bx) from fun h => by
            have h1 := h.elim (HA4.out.lt bx) (HU4.out.lt bx)
            have h2 := HBX.out
            omega)
          have HSV := Aside0.mk (show ∀ j, (Value.slice AV m5 cV).ownBlock = some j → ¬ (Ast ba V j ∨ Ast bm U j) from fun j hj h => by
            have h1 := h.elim (HA4.out.lt j) (HU4.out.lt j)
            have h2 := Kd.R_base HV7.out j hj
            have h3 := HX45.out.size
            omega)
          have HIN := Aside0.mk (show Kd.C kb w7 AV mx xs from by
            have h1 := Kd.R_take (m := mx) HV7.out (by rw [← HM5.out]; have := HM5'.out; omega)
            have h2 : (lent xs).take mx = xs := by rw [HCD.out.1]; exact lent_take xs
            rw [h2] at h1
            obtain ⟨A', c', e9, _, h9⟩ := NB.nat h1 HCD.out.1
            injection e9 with e1 e2 e3
            subst e1
            exact h9)
          have HL9 := Aside0.mk (show L.length ≤ 900 from by have := HLX.out; omega)
          have HL8 := Aside0.mk (show L.length ≤ 800 from by have := HLX.out; omega)
          have HKP := Aside0.mk (fun (w' : World) (hE : Chg w7 w' (fun j => Ast ba V j ∨ Ast bm U j)) => show Calls Try.prog 21 #[.slice AV m5 cV, .slice AD mx cd] w' (fun e w2 => e = .returned (.bool true) ∧ Ext w' w2) from by
            obtain ⟨A', c', e9, h1, h2⟩ := NB.nat (HV7.out.chg hE HSV.out) HM5.out
            injection e9 with e1 e2 e3
            subst e1 e3
            exact kept_at w' AV AD cV cd xs HM5.out HCD.out.1 h2 h1 (Kd.C_below HCD.out.2.2 (hE.to_ext HEX.out HSB.out)) HCD.out.2.1 HMX.out)
          have HWW := Aside0.mk (show w.heap.size ≤ w5.heap.size from (HE4.out.trans HX45.out).size)
          clear hC7 hw7 HB6 HV6 HX46 HA4 HU4 HX45 HX47 HE4 HG4
          apply wp_region_H 22 2 9 (fun a b => Chg a b (fun j => Ast ba V j ∨ Ast bm U j)) (PD1 (fun j => (Value.slice AV m5 cV).ownBlock = some j) B ba bm n U (doL n L tr at' xs) L last last) (PD2 (fun j => (Value.slice AV m5 cV).ownBlock = some j) B ba bm n (doL n L tr at' xs) last) [RF.val _, RF.val _, RF.val _, RF.val _, RF.val _, RF.val _, RF.val _, RF.val _, RF.val _, RF.val _, RF.val _, RF.val _, RF.val _, RF.val _, RF.val _, RF.val _, RF.val _, RF.val _, RF.val _, RF.val _, RF.val _, RF.val _]
          case hm => kernel_rfl
          case hB => kernel_rfl
          case hgE => exact fun a b h => Chg.of_ext h _
          case hgT => exact fun a b c h k => h.trans k
          case hP1 => exact fun a b h he => by obtain ⟨V', h1, h2⟩ := h; exact ⟨V', h1.ext he, h2.ext he⟩
          case hP2 => exact fun a b h he => by obtain ⟨V', U', h1, h2⟩ := h; exact ⟨V', U', h1.ext he, h2.ext he⟩
          simp only [List.take_succ_cons, List.take_zero, List.zip_cons_cons, List.zip_nil_left]
          refine wpH_val (by rfl) (by decide) (by decide) (fun w' hE hD => by unfold YldR; go_simp; exact ⟨Ext.refl _, rfl⟩) ?_
          (try simp only [Act.put, List.setIfInBounds_toArray, List.set_cons_zero, List.set_cons_succ])
          refine wpH_val (by rfl) (by decide) (by decide) (fun w' hE hD => by exact YldR_load 34 (.tmp 9) rfl bx 0 rfl [.bool tr, .int .i64 at', .slice AV mx cV] _ (blk_range (hE.blk HB7.out HNB.out)) Try.underlying34 rfl (HSI.out _ _ _)) ?_
          (try simp only [Act.put, List.setIfInBounds_toArray, List.set_cons_zero, List.set_cons_succ])
          refine wpH_one rfl (by rfl) (by decide) (fun w' hE hD => by unfold YldR; go_simp; exact (ar_do_any (HA7.out.ext hE) HL9.out (Nat.le_trans HBS.out hE.size) tr at' AV mx cV xs HCD.out.1 (Kd.C_below HIN.out hE) HCV.out).mono fun e w2 h => by obtain ⟨V', h1, h2, h3⟩ := h; exact ⟨_, h1, ⟨h3.mono (fun j hj => .inl hj), V', h2, (HX7.out.ext hE).chgT h3 ((HA7.out.ext hE).nt 55 (by decide) (by decide)) ((HA7.out.ext hE).nt 34 (by decide) (by decide)) ((HA7.out.ext hE).nt 5 (by decide) (by decide))⟩, rfl⟩) ?_
          (try simp only [Act.put, List.setIfInBounds_toArray, List.set_cons_zero, List.set_cons_succ])
          refine wpH_val (by rfl) (by decide) (by decide) (fun w' hE hD => by unfold YldR; go_simp; exact ⟨Ext.refl _, rfl⟩) ?_
          (try simp only [Act.put, List.setIfInBounds_toArray, List.set_cons_zero, List.set_cons_succ])
          refine wpH_val (by rfl) (by decide) (by decide) (fun w' hE hD => by unfold YldR; go_simp; exact ⟨Ext.refl _, rfl⟩) ?_
          (try simp only [Act.put, List.setIfInBounds_toArray, List.set_cons_zero, List.set_cons_succ])
          refine wpH_val (by rfl) (by decide) (by decide) (fun w' hE hD => by unfold YldR; go_simp; exact ⟨Ext.refl _, rfl⟩) ?_
          (try simp only [Act.put, List.setIfInBounds_toArray, List.set_cons_zero, List.set_cons_succ])
          refine wpH_val (by rfl) (by decide) (by decide) (fun w' hE hD => by unfold YldR; go_simp; exact ⟨Ext.refl _, rfl⟩) ?_
          (try simp only [Act.put, List.setIfInBounds_toArray, List.set_cons_zero, List.set_cons_succ])
          refine wpH_val (by rfl) (by decide) (by decide) (fun w' hE hD => by unfold YldR; go_simp; exact ⟨Ext.refl _, rfl⟩) ?_
          (try simp only [Act.put, List.setIfInBounds_toArray, List.set_cons_zero, List.set_cons_succ])
          refine wpH_val (by rfl) (by decide) (by decide) (fun w' hE hD => by have q0 := hE.to_ext HEX.out HSB.out; exact YldR_load 34 (.tmp 111) rfl b (off + x * 6 + 2) rfl [.bool tr, .int .i64 at', .slice AD mx cd] _ (range_part (rangeAt_ext HG.out q0) 2 3) Try.underlying34 rfl (HSI.out _ _ _)) ?_
          (try simp only [Act.put, List.setIfInBounds_toArray, List.set_cons_zero, List.set_cons_succ])
          refine wpH_two rfl (by rfl) (by decide) (by decide) (fun w' hE hP hD => by unfold YldR; go_simp; have q0 := hE.to_ext HEX.out HSB.out; obtain ⟨V', hA, hM⟩ := hP; exact (mx_do_any hM HL8.out q0 (Nat.le_of_eq HBW.out.symm) (by rw [HBW.out]; exact q0.size) (fun k hk => Nat.lt_of_lt_of_le (HV7.out.blt k hk) hE.size) tr at' AD mx cd xs HCD.out.1 HCD.out.2.2 HCD.out.2.1).mono fun e w2 h => by obtain ⟨U', h1, h2, h3⟩ := h; exact ⟨_, h1, ⟨h3.mono (fun j hj => .inr hj), V', U', hA.chgT h3 (hM.m.nt 66 (by decide) (by decide)) (hM.m.nt 71 (by decide) (by decide)), h2⟩, rfl⟩) ?_
          (try simp only [Act.put, List.setIfInBounds_toArray, List.set_cons_zero, List.set_cons_succ])
          refine wpH_val (by rfl) (by decide) (by decide) (fun w' hE hD => by unfold YldR; go_simp; exact ⟨Ext.refl _, rfl⟩) ?_
          (try simp only [Act.put, List.setIfInBounds_toArray, List.set_cons_zero, List.set_cons_succ])
          refine wpH_val (by rfl) (by decide) (by decide) (fun w' hE hD => by unfold YldR; go_simp; exact ⟨Ext.refl _, rfl⟩) ?_
          (try simp only [Act.put, List.setIfInBounds_toArray, List.set_cons_zero, List.set_cons_succ])
          refine wpH_val (by rfl) (by decide) (by decide) (fun w' hE hD => by unfold YldR; go_simp; exact ⟨Ext.refl _, rfl⟩) ?_
          (try simp only [Act.put, List.setIfInBounds_toArray, List.set_cons_zero, List.set_cons_succ])
          refine wpH_val (by rfl) (by decide) (by decide) (fun w' hE hD => by unfold YldR; go_simp; exact ⟨Ext.refl _, rfl⟩) ?_
          (try simp only [Act.put, List.setIfInBounds_toArray, List.set_cons_zero, List.set_cons_succ])
          refine wpH_val (by rfl) (by decide) (by decide) (fun w' hE hD => by unfold YldR; go_simp; exact ⟨Ext.refl _, rfl⟩) ?_
          (try simp only [Act.put, List.setIfInBounds_toArray, List.set_cons_zero, List.set_cons_succ])
          refine wpH_val (by rfl) (by decide) (by decide) (fun w' hE hD => by unfold YldR; go_simp; exact ⟨Ext.refl _, rfl⟩) ?_
          (try simp only [Act.put, List.setIfInBounds_toArray, List.set_cons_zero, List.set_cons_succ])
          refine wpH_val (by rfl) (by decide) (by decide) (fun w' hE hD => by unfold YldR; go_simp; exact ⟨Ext.refl _, rfl⟩) ?_
          (try simp only [Act.put, List.setIfInBounds_toArray, List.set_cons_zero, List.set_cons_succ])
          refine wpH_val (by rfl) (by decide) (by decide) (fun w' hE hD => by unfold YldR; go_simp; exact ⟨Ext.refl _, rfl⟩) ?_
          (try simp only [Act.put, List.setIfInBounds_toArray, List.set_cons_zero, List.set_cons_succ])
          refine wpH_val (by rfl) (by decide) (by decide) (fun w' hE hD => by have q0 := hE.to_ext HEX.out HSB.out; have k4 := Ext.cell q0 (HG.out 4 _ rfl); unfold YldR; go_simp; exact ⟨Ext.refl _, rfl⟩) ?_
          (try simp only [Act.put, List.setIfInBounds_toArray, List.set_cons_zero, List.set_cons_succ])
          refine wpH_val (by rfl) (by decide) (by decide) (fun w' hE hD => by unfold YldR; go_simp; exact (HKP.out w' hE).mono fun e w2 h => ⟨_, h.1, h.2, rfl⟩) ?_
          (try simp only [Act.put, List.setIfInBounds_toArray, List.set_cons_zero, List.set_cons_succ])
          refine wpH_val (by rfl) (by decide) (by decide) (fun w' hE hD => by unfold YldR; go_simp; exact ⟨Ext.refl _, rfl⟩) ?_
          (try simp only [Act.put, List.setIfInBounds_toArray, List.set_cons_zero, List.set_cons_succ])
          refine wpH_val (by rfl) (by decide) (by decide) (fun w' hE hD => by unfold YldR; go_simp; exact ⟨Ext.refl _, rfl⟩) ?_
          (try simp only [Act.put, List.setIfInBounds_toArray, List.set_cons_zero, List.set_cons_succ])
          refine wpH_nil fun w8 hC8 hP hA => ?_
          refine (show wpList _ _ _ [] _ _ from ?_)
          obtain ⟨V9, U9, hA8, hM8⟩ := hP
          have HA8 := Aside0.mk hA8
          have HM8 := Aside0.mk hM8
          have HE8 := Aside0.mk (hC8.to_ext HEX.out HSB.out)
          have HV8 := Aside0.mk (HV7.out.chg hC8 HSV.out)
          have HW5 := Aside0.mk (show w.heap.size ≤ w5.heap.size from HWW.out)
          clear hA8 hM8 hC8 hA HA7 HX7 HEX HB7 HV7 HIN HSB HSV HNB HBS HWW
          (try dsimp only)
          go_wp2_with fail
          refine (spoil_calls w8 (lent xs) w (.slice AV m5 cV) HE8.out (HV8.out.lower HW5.out) (by rw [lent_length, ← HCD.out.1]; have := HMX.out; omega)).mono ?_
          rintro e w9 ⟨rfl, hE, hK⟩
          have hC9 := Chg.of_kept HE8.out hE hK
          have HAk := Aside0.mk (HA8.out.chgT hC9 (nt_own5 HV8.out 66 (by decide)) (nt_own5 HV8.out 71 (by decide)))
          have HUk := Aside0.mk (HM8.out.spoil hC9 (nt_own5 HV8.out 55 (by decide)) (nt_own5 HV8.out 34 (by decide)) (fun j hj => hj))
          have HEk := Aside0.mk hE
          have HLk := Aside0.mk (Nat.le_trans (doL_len n L tr at' xs) (Nat.succ_le_succ HLX.out))
          obtain ⟨L9, hL9⟩ : ∃ z, z = doL n L tr at' xs := ⟨_, rfl⟩
          rw [← hL9] at HAk HUk HLk
          clear hE hK hC9 HA8 HM8 HE8 HV8 hL9 HM5 HCV HCV5 HBX
          (try dsimp only)
          go_wp2_with ((with_reducible refine Aside0.mk ?_); exact HTL.out _ _ _ _ _ HAk.out HUk.out HEk.out HLk.out)
        · have HG4 := Aside0.mk (rangeAt_ext HG.out HE4.out)
          have HGC := Aside0.mk (show w4.rangeAt b (off + x * 6 + 2) [.bool tr, .int .i64 at', .slice AD mx cd] from range_part HG4.out 2 3)
          obtain ⟨bx, hbx⟩ : ∃ bx, bx = w4.heap.size := ⟨_, rfl⟩
          have HBX := Aside0.mk hbx
          have HBn := Aside0.mk (Blk.new w4 #[.bool false, .int .i64 0, .slice none 0 0] 34)
          clear hbx
          (try dsimp only)
          go_wp2_with (first | ((with_reducible refine gate_load (ty := 34) rfl ?_); refine load_at rfl 34 _ rfl b (off + x * 6 + 2) rfl [.bool tr, .int .i64 at', .slice AD mx cd] _ HGC.out Try.underlying34 rfl (HSI.out _ _ _) ?_) | ((with_reducible refine gate_store (ty := 34) rfl ?_); refine store_at rfl 34 _ _ rfl w4.heap.size [.bool tr, .int .i64 at', .slice AD mx cd] rfl rfl _ 34 HBn.out rfl (HSI.out _ _ _) (dL_one (tr, at', (AD, mx, cd))) ?_) | fail)
          intro w5 hW5 hb5
          rw [← HBX.out] at hb5 hW5 ⊢
          have HB5 := Aside0.mk hb5
          have HX45 := Aside0.mk (show Ext w4 w5 from (Chg.of_wrote (S := fun j => j = bx) hW5 rfl).to_ext ((Ext.refl w4).alloc _) (fun j hj => by rw [hj, HBX.out]; exact Nat.le_refl _))
          clear hW5 hb5 HBn HGC
          have c2 := HB5.out.cell 2 (v := .slice AD mx cd) rfl
          (try dsimp only)
          go_wp2_with fail
          refine (lent_at w5 AD cd xs HCD.out.1 (Kd.C_below HCD.out.2.2 (HE4.out.trans HX45.out)) HCD.out.2.1 HMX.out).mono ?_
          rintro e w6 ⟨VV, rfl, hV, hE⟩
          obtain ⟨m5, hm5⟩ : ∃ z, z = (lent xs).length := ⟨_, rfl⟩
          have HM5 := Aside0.mk hm5
          have hm5' : m5 = mx + 5 := by rw [hm5, lent_length, HCD.out.1]
          have HM5' := Aside0.mk hm5'
          obtain ⟨AV, cV, eV, hcV, hCV⟩ := hV.nat hm5
          subst eV
          have hmx := HMX.out
          obtain ⟨i0, hi0, _, hsz, _⟩ := info_parts PArrayPlays.info5
          have hcut := cut_to (P := Try.prog) 31 5 .i64 Try.underlying31 hi0 AV m5 cV (mx : Int) (by omega) (by omega) hcV
          rw [Int.toNat_natCast] at hcut
          have HB6 := Aside0.mk (HB5.out.ext hE)
          have HV6 := Aside0.mk hV
          have HX46 := Aside0.mk (HX45.out.trans hE)
          have HCV5 := Aside0.mk hcV
          have HCV := Aside0.mk (show mx ≤ cV by omega)
          have hmm : (mx : Int) ≤ m5 := by omega
          have hm52 : (m5 : Int) ≤ 2005 := by omega
          clear hV hE hm5 hCV hi0 hsz hcV HB5 c2 hm5'
          have c2 := HB6.out.cell 2 (v := .slice AD mx cd) rfl
          have f2 := HB6.out.free 2
          (try dsimp only)
          go_wp2_with fail
          clear c2 f2 hcut hmm hm52 hmx
          obtain ⟨w7, hw7⟩ : ∃ z, z = w6.setCell ⟨bx, 2, none⟩ (.slice AV mx cV) := ⟨_, rfl⟩
          rw [← hw7]
          have HB7 := Aside0.mk (show Blk w7 bx #[.bool tr, .int .i64 at', .slice AV mx cV] 34 from by rw [hw7]; exact HB6.out.set 2 (.slice AV mx cV))
          have hC7 : Chg w6 w7 (fun j => j = bx) := by rw [hw7]; exact Chg.of_wrote (Wrote.setCell w6 bx 2 _) rfl
          have HX47 := Aside0.mk (show Ext w4 w7 from hC7.to_ext HX46.out (fun j hj => by rw [hj, HBX.out]; exact Nat.le_refl _))
          have HV7 := Aside0.mk (show NB w7 w5.heap.size (.slice AV m5 cV) (lent xs) from HV6.out.chg hC7 (fun j hj hs => by
            obtain ⟨cl, e9⟩ := HV6.out.typed j hj
            rw [hs, HB6.out.is] at e9
            injection e9 with e9
            injection e9 with _ e9
            cases e9))
          have HSB := Aside0.mk (show ∀ j, (Ast ba V j ∨ Ast bm U j) → w.heap.size ≤ j from fun j hj => by
            rw [← HBW.out]
            exact hj.elim (HA4.out.bb j) (HU4.out.bb j))
          have HA7 := Aside0.mk (HA4.out.ext HX47.out)
          have HX7 := Aside0.mk ((MX.start (X := fun j => (Value.slice AV m5 cV).ownBlock = some j) HU4.out (fun k hk => Nat.le_trans HX45.out.size (Kd.R_base HV7.out k hk))).ext HX47.out)
          have HEX := Aside0.mk (HE4.out.trans HX47.out)
          have HBS := Aside0.mk (show B ≤ w7.heap.size from by rw [HBW.out]; exact HEX.out.size)
          have HNB := Aside0.mk (show ¬ (Ast ba V bx ∨ Ast bm U bx) from fun h => by
            have h1 := h.elim (HA4.out.lt bx) (HU4.out.lt bx)
            have h2 := HBX.out
            omega)
          have HSV := Aside0.mk (show ∀ j, (Value.slice AV m5 cV).ownBlock = some j → ¬ (Ast ba V j ∨ Ast bm U j) from fun j hj h => by
            have h1 := h.elim (HA4.out.lt j) (HU4.out.lt j)
            have h2 := Kd.R_base HV7.out j hj
            have h3 := HX45.out.size
            omega)
          have HIN := Aside0.mk (show Kd.C kb w7 AV mx xs from by
            have h1 := Kd.R_take (m := mx) HV7.out (by rw [← HM5.out]; have := HM5'.out; omega)
            have h2 : (lent xs).take mx = xs := by rw [HCD.out.1]; exact lent_take xs
            rw [h2] at h1
            obtain ⟨A', c', e9, _, h9⟩ := NB.nat h1 HCD.out.1
            injection e9 with e1 e2 e3
            subst e1
            exact h9)
          have HL9 := Aside0.mk (show L.length ≤ 900 from by have := HLX.out; omega)
          have HL8 := Aside0.mk (show L.length ≤ 800 from by have := HLX.out; omega)
          have HKP := Aside0.mk (fun (w' : World) (hE : Chg w7 w' (fun j => Ast ba V j ∨ Ast bm U j)) => show Calls Try.prog 21 #[.slice AV m5 cV, .slice AD mx cd] w' (fun e w2 => e = .returned (.bool true) ∧ Ext w' w2) from by
            obtain ⟨A', c', e9, h1, h2⟩ := NB.nat (HV7.out.chg hE HSV.out) HM5.out
            injection e9 with e1 e2 e3
            subst e1 e3
            exact kept_at w' AV AD cV cd xs HM5.out HCD.out.1 h2 h1 (Kd.C_below HCD.out.2.2 (hE.to_ext HEX.out HSB.out)) HCD.out.2.1 HMX.out)
          have HWW := Aside0.mk (show w.heap.size ≤ w5.heap.size from (HE4.out.trans HX45.out).size)
          clear hC7 hw7 HB6 HV6 HX46 HA4 HU4 HX45 HX47 HE4 HG4
          apply wp_region_H 22 2 9 (fun a b => Chg a b (fun j => Ast ba V j ∨ Ast bm U j)) (PD1 (fun j => (Value.slice AV m5 cV).ownBlock = some j) B ba bm n U (doL n L tr at' xs) L last last) (PD2 (fun j => (Value.slice AV m5 cV).ownBlock = some j) B ba bm n (doL n L tr at' xs) last) [RF.val _, RF.val _, RF.val _, RF.val _, RF.val _, RF.val _, RF.val _, RF.val _, RF.val _, RF.val _, RF.val _, RF.val _, RF.val _, RF.val _, RF.val _, RF.val _, RF.val _, RF.val _, RF.val _, RF.val _, RF.val _, RF.val _]
          case hm => kernel_rfl
          case hB => kernel_rfl
          case hgE => exact fun a b h => Chg.of_ext h _
          case hgT => exact fun a b c h k => h.trans k
          case hP1 => exact fun a b h he => by obtain ⟨V', h1, h2⟩ := h; exact ⟨V', h1.ext he, h2.ext he⟩
          case hP2 => exact fun a b h he => by obtain ⟨V', U', h1, h2⟩ := h; exact ⟨V', U', h1.ext he, h2.ext he⟩
          simp only [List.take_succ_cons, List.take_zero, List.zip_cons_cons, List.zip_nil_left]
          refine wpH_val (by rfl) (by decide) (by decide) (fun w' hE hD => by unfold YldR; go_simp; exact ⟨Ext.refl _, rfl⟩) ?_
          (try simp only [Act.put, List.setIfInBounds_toArray, List.set_cons_zero, List.set_cons_succ])
          refine wpH_val (by rfl) (by decide) (by decide) (fun w' hE hD => by exact YldR_load 34 (.tmp 9) rfl bx 0 rfl [.bool tr, .int .i64 at', .slice AV mx cV] _ (blk_range (hE.blk HB7.out HNB.out)) Try.underlying34 rfl (HSI.out _ _ _)) ?_
          (try simp only [Act.put, List.setIfInBounds_toArray, List.set_cons_zero, List.set_cons_succ])
          refine wpH_one rfl (by rfl) (by decide) (fun w' hE hD => by unfold YldR; go_simp; exact (ar_do_any (HA7.out.ext hE) HL9.out (Nat.le_trans HBS.out hE.size) tr at' AV mx cV xs HCD.out.1 (Kd.C_below HIN.out hE) HCV.out).mono fun e w2 h => by obtain ⟨V', h1, h2, h3⟩ := h; exact ⟨_, h1, ⟨h3.mono (fun j hj => .inl hj), V', h2, (HX7.out.ext hE).chgT h3 ((HA7.out.ext hE).nt 55 (by decide) (by decide)) ((HA7.out.ext hE).nt 34 (by decide) (by decide)) ((HA7.out.ext hE).nt 5 (by decide) (by decide))⟩, rfl⟩) ?_
          (try simp only [Act.put, List.setIfInBounds_toArray, List.set_cons_zero, List.set_cons_succ])
          refine wpH_val (by rfl) (by decide) (by decide) (fun w' hE hD => by unfold YldR; go_simp; exact ⟨Ext.refl _, rfl⟩) ?_
          (try simp only [Act.put, List.setIfInBounds_toArray, List.set_cons_zero, List.set_cons_succ])
          refine wpH_val (by rfl) (by decide) (by decide) (fun w' hE hD => by unfold YldR; go_simp; exact ⟨Ext.refl _, rfl⟩) ?_
          (try simp only [Act.put, List.setIfInBounds_toArray, List.set_cons_zero, List.set_cons_succ])
          refine wpH_val (by rfl) (by decide) (by decide) (fun w' hE hD => by unfold YldR; go_simp; exact ⟨Ext.refl _, rfl⟩) ?_
          (try simp only [Act.put, List.setIfInBounds_toArray, List.set_cons_zero, List.set_cons_succ])
          refine wpH_val (by rfl) (by decide) (by decide) (fun w' hE hD => by unfold YldR; go_simp; exact ⟨Ext.refl _, rfl⟩) ?_
          (try simp only [Act.put, List.setIfInBounds_toArray, List.set_cons_zero, List.set_cons_succ])
          refine wpH_val (by rfl) (by decide) (by decide) (fun w' hE hD => by unfold YldR; go_simp; exact ⟨Ext.refl _, rfl⟩) ?_
          (try simp only [Act.put, List.setIfInBounds_toArray, List.set_cons_zero, List.set_cons_succ])
          refine wpH_val (by rfl) (by decide) (by decide) (fun w' hE hD => by have q0 := hE.to_ext HEX.out HSB.out; exact YldR_load 34 (.tmp 111) rfl b (off + x * 6 + 2) rfl [.bool tr, .int .i64 at', .slice AD mx cd] _ (range_part (rangeAt_ext HG.out q0) 2 3) Try.underlying34 rfl (HSI.out _ _ _)) ?_
          (try simp only [Act.put, List.setIfInBounds_toArray, List.set_cons_zero, List.set_cons_succ])
          refine wpH_two rfl (by rfl) (by decide) (by decide) (fun w' hE hP hD => by unfold YldR; go_simp; have q0 := hE.to_ext HEX.out HSB.out; obtain ⟨V', hA, hM⟩ := hP; exact (mx_do_any hM HL8.out q0 (Nat.le_of_eq HBW.out.symm) (by rw [HBW.out]; exact q0.size) (fun k hk => Nat.lt_of_lt_of_le (HV7.out.blt k hk) hE.size) tr at' AD mx cd xs HCD.out.1 HCD.out.2.2 HCD.out.2.1).mono fun e w2 h => by obtain ⟨U', h1, h2, h3⟩ := h; exact ⟨_, h1, ⟨h3.mono (fun j hj => .inr hj), V', U', hA.chgT h3 (hM.m.nt 66 (by decide) (by decide)) (hM.m.nt 71 (by decide) (by decide)), h2⟩, rfl⟩) ?_
          (try simp only [Act.put, List.setIfInBounds_toArray, List.set_cons_zero, List.set_cons_succ])
          refine wpH_val (by rfl) (by decide) (by decide) (fun w' hE hD => by unfold YldR; go_simp; exact ⟨Ext.refl _, rfl⟩) ?_
          (try simp only [Act.put, List.setIfInBounds_toArray, List.set_cons_zero, List.set_cons_succ])
          refine wpH_val (by rfl) (by decide) (by decide) (fun w' hE hD => by unfold YldR; go_simp; exact ⟨Ext.refl _, rfl⟩) ?_
          (try simp only [Act.put, List.setIfInBounds_toArray, List.set_cons_zero, List.set_cons_succ])
          refine wpH_val (by rfl) (by decide) (by decide) (fun w' hE hD => by unfold YldR; go_simp; exact ⟨Ext.refl _, rfl⟩) ?_
          (try simp only [Act.put, List.setIfInBounds_toArray, List.set_cons_zero, List.set_cons_succ])
          refine wpH_val (by rfl) (by decide) (by decide) (fun w' hE hD => by unfold YldR; go_simp; exact ⟨Ext.refl _, rfl⟩) ?_
          (try simp only [Act.put, List.setIfInBounds_toArray, List.set_cons_zero, List.set_cons_succ])
          refine wpH_val (by rfl) (by decide) (by decide) (fun w' hE hD => by unfold YldR; go_simp; exact ⟨Ext.refl _, rfl⟩) ?_
          (try simp only [Act.put, List.setIfInBounds_toArray, List.set_cons_zero, List.set_cons_succ])
          refine wpH_val (by rfl) (by decide) (by decide) (fun w' hE hD => by unfold YldR; go_simp; exact ⟨Ext.refl _, rfl⟩) ?_
          (try simp only [Act.put, List.setIfInBounds_toArray, List.set_cons_zero, List.set_cons_succ])
          refine wpH_val (by rfl) (by decide) (by decide) (fun w' hE hD => by unfold YldR; go_simp; exact ⟨Ext.refl _, rfl⟩) ?_
          (try simp only [Act.put, List.setIfInBounds_toArray, List.set_cons_zero, List.set_cons_succ])
          refine wpH_val (by rfl) (by decide) (by decide) (fun w' hE hD => by unfold YldR; go_simp; exact ⟨Ext.refl _, rfl⟩) ?_
          (try simp only [Act.put, List.setIfInBounds_toArray, List.set_cons_zero, List.set_cons_succ])
          refine wpH_val (by rfl) (by decide) (by decide) (fun w' hE hD => by have q0 := hE.to_ext HEX.out HSB.out; have k4 := Ext.cell q0 (HG.out 4 _ rfl); unfold YldR; go_simp; exact ⟨Ext.refl _, rfl⟩) ?_
          (try simp only [Act.put, List.setIfInBounds_toArray, List.set_cons_zero, List.set_cons_succ])
          refine wpH_val (by rfl) (by decide) (by decide) (fun w' hE hD => by unfold YldR; go_simp; exact (HKP.out w' hE).mono fun e w2 h => ⟨_, h.1, h.2, rfl⟩) ?_
          (try simp only [Act.put, List.setIfInBounds_toArray, List.set_cons_zero, List.set_cons_succ])
          refine wpH_val (by rfl) (by decide) (by decide) (fun w' hE hD => by unfold YldR; go_simp; exact ⟨Ext.refl _, rfl⟩) ?_
          (try simp only [Act.put, List.setIfInBounds_toArray, List.set_cons_zero, List.set_cons_succ])
          refine wpH_val (by rfl) (by decide) (by decide) (fun w' hE hD => by unfold YldR; go_simp; exact ⟨Ext.refl _, rfl⟩) ?_
          (try simp only [Act.put, List.setIfInBounds_toArray, List.set_cons_zero, List.set_cons_succ])
          refine wpH_nil fun w8 hC8 hP hA => ?_
          refine (show wpList _ _ _ [] _ _ from ?_)
          obtain ⟨V9, U9, hA8, hM8⟩ := hP
          have HA8 := Aside0.mk hA8
          have HM8 := Aside0.mk hM8
          have HE8 := Aside0.mk (hC8.to_ext HEX.out HSB.out)
          have HV8 := Aside0.mk (HV7.out.chg hC8 HSV.out)
          have HW5 := Aside0.mk (show w.heap.size ≤ w5.heap.size from HWW.out)
          clear hA8 hM8 hC8 hA HA7 HX7 HEX HB7 HV7 HIN HSB HSV HNB HBS HWW
          (try dsimp only)
          go_wp2_with fail
          refine (spoil_calls w8 (lent xs) w (.slice AV m5 cV) HE8.out (HV8.out.lower HW5.out) (by rw [lent_length, ← HCD.out.1]; have := HMX.out; omega)).mono ?_
          rintro e w9 ⟨rfl, hE, hK⟩
          have hC9 := Chg.of_kept HE8.out hE hK
          have HAk := Aside0.mk (HA8.out.chgT hC9 (nt_own5 HV8.out 66 (by decide)) (nt_own5 HV8.out 71 (by decide)))
          have HUk := Aside0.mk (HM8.out.spoil hC9 (nt_own5 HV8.out 55 (by decide)) (nt_own5 HV8.out 34 (by decide)) (fun j hj => hj))
          have HEk := Aside0.mk hE
          have HLk := Aside0.mk (Nat.le_trans (doL_len n L tr at' xs) (Nat.succ_le_succ HLX.out))
          obtain ⟨L9, hL9⟩ : ∃ z, z = doL n L tr at' xs := ⟨_, rfl⟩
          rw [← hL9] at HAk HUk HLk
          clear hE hK hC9 HA8 HM8 HE8 HV8 hL9 HM5 HCV HCV5 HBX
          (try dsimp only)
          go_wp2_with ((with_reducible refine Aside0.mk ?_); exact HTL.out _ _ _ _ _ HAk.out HUk.out HEk.out HLk.out)
        · (try dsimp only)
          go_wp2_with fail
          refine (ar_sync HA4.out).mono ?_
          rintro e w5 ⟨rfl, hA, hC⟩
          have HA5 := Aside0.mk hA
          have HU5 := Aside0.mk (HU4.out.chgT hC (HA4.out.nt 55 (by decide) (by decide)) (HA4.out.nt 34 (by decide) (by decide)) (HA4.out.nt 5 (by decide) (by decide)))
          have HE5 := Aside0.mk (hC.to_ext HE4.out (fun j hj => by rw [← HBW.out]; exact HA4.out.bb j hj))
          clear hA hC HA4 HU4 HE4
          (try dsimp only)
          go_wp2_with fail
          refine (m_sync HU5.out).mono ?_
          rintro e w6 ⟨rfl, hU, hC⟩
          have HAk := Aside0.mk (HA5.out.chgT hC (HU5.out.nt 66 (by decide) (by decide)) (HU5.out.nt 71 (by decide) (by decide)))
          have HUk := Aside0.mk hU
          have HEk := Aside0.mk (hC.to_ext HE5.out (fun j hj => by rw [← HBW.out]; exact HU5.out.bb j hj))
          have HLk := Aside0.mk (Nat.le_succ_of_le HLX.out)
          clear hU hC HA5 HU5 HE5
          (try dsimp only)
          go_wp2_with ((with_reducible refine Aside0.mk ?_); exact HTL.out _ _ _ _ _ HAk.out HUk.out HEk.out HLk.out)
        · have HSB := Aside0.mk (show ∀ j, (Ast ba V j ∨ Ast bm U j) → w.heap.size ≤ j from fun j hj => by
            rw [← HBW.out]
            exact hj.elim (HA4.out.bb j) (HU4.out.bb j))
          have HEX := HE4
          (try dsimp only)
          go_wp2_with fail
          apply wp_region_H 16 6 13 (fun a b => Chg a b (fun j => Ast ba V j ∨ Ast bm U j)) (PF1 B ba bm n U (faL L last fn) L (faN L last fn) last) (PF2 B ba bm n (faL L last fn) (faN L last fn)) [RF.val _, RF.val _, RF.val _, RF.val _, RF.val _, RF.val _, RF.val _, RF.val _, RF.val _, RF.val _, RF.val _, RF.val _, RF.val _, RF.val _, RF.val _, RF.val _]
          case hm => kernel_rfl
          case hB => kernel_rfl
          case hgE => exact fun a b h => Chg.of_ext h _
          case hgT => exact fun a b c h k => h.trans k
          case hP1 => exact fun a b h he => by obtain ⟨V', h1, h2⟩ := h; exact ⟨V', h1.ext he, h2.ext he⟩
          case hP2 => exact fun a b h he => by obtain ⟨V', U', h1, h2⟩ := h; exact ⟨V', U', h1.ext he, h2.ext he⟩
          simp only [List.take_succ_cons, List.take_zero, List.zip_cons_cons, List.zip_nil_left]
          refine wpH_val (by rfl) (by decide) (by decide) (fun w' hE hD => by unfold YldR; go_simp; exact ⟨Ext.refl _, rfl⟩) ?_
          (try simp only [Act.put, List.setIfInBounds_toArray, List.set_cons_zero, List.set_cons_succ])
          refine wpH_val (by rfl) (by decide) (by decide) (fun w' hE hD => by unfold YldR; go_simp; exact ⟨Ext.refl _, rfl⟩) ?_
          (try simp only [Act.put, List.setIfInBounds_toArray, List.set_cons_zero, List.set_cons_succ])
          refine wpH_val (by rfl) (by decide) (by decide) (fun w' hE hD => by unfold YldR; go_simp; exact ⟨Ext.refl _, rfl⟩) ?_
          (try simp only [Act.put, List.setIfInBounds_toArray, List.set_cons_zero, List.set_cons_succ])
          refine wpH_val (by rfl) (by decide) (by decide) (fun w' hE hD => by unfold YldR; go_simp; exact ⟨Ext.refl _, rfl⟩) ?_
          (try simp only [Act.put, List.setIfInBounds_toArray, List.set_cons_zero, List.set_cons_succ])
          refine wpH_val (by rfl) (by decide) (by decide) (fun w' hE hD => by unfold YldR; go_simp; exact ⟨Ext.refl _, rfl⟩) ?_
          (try simp only [Act.put, List.setIfInBounds_toArray, List.set_cons_zero, List.set_cons_succ])
          refine wpH_val (by rfl) (by decide) (by decide) (fun w' hE hD => by have q0 := hE.to_ext HEX.out HSB.out; have k1 := Ext.cell q0 (HG.out 1 _ rfl); unfold YldR; go_simp; exact ⟨Ext.refl _, rfl⟩) ?_
          (try simp only [Act.put, List.setIfInBounds_toArray, List.set_cons_zero, List.set_cons_succ])
          refine wpH_one rfl (by rfl) (by decide) (fun w' hE hD => by unfold YldR; go_simp; exact (ar_fall_any (HA4.out.ext hE) fn).mono fun e w2 h => by obtain ⟨V', h1, h2, h3⟩ := h; exact ⟨_, h1, ⟨h3.mono (fun j hj => .inl hj), V', h2, (HU4.out.ext hE).chgT h3 ((HA4.out.ext hE).nt 55 (by decide) (by decide)) ((HA4.out.ext hE).nt 34 (by decide) (by decide)) ((HA4.out.ext hE).nt 5 (by decide) (by decide))⟩, rfl⟩) ?_
          (try simp only [Act.put, List.setIfInBounds_toArray, List.set_cons_zero, List.set_cons_succ])
          refine wpH_val (by rfl) (by decide) (by decide) (fun w' hE hD => by unfold YldR; go_simp; exact ⟨Ext.refl _, rfl⟩) ?_
          (try simp only [Act.put, List.setIfInBounds_toArray, List.set_cons_zero, List.set_cons_succ])
          refine wpH_val (by rfl) (by decide) (by decide) (fun w' hE hD => by unfold YldR; go_simp; exact ⟨Ext.refl _, rfl⟩) ?_
          (try simp only [Act.put, List.setIfInBounds_toArray, List.set_cons_zero, List.set_cons_succ])
          refine wpH_val (by rfl) (by decide) (by decide) (fun w' hE hD => by unfold YldR; go_simp; exact ⟨Ext.refl _, rfl⟩) ?_
          (try simp only [Act.put, List.setIfInBounds_toArray, List.set_cons_zero, List.set_cons_succ])
          refine wpH_val (by rfl) (by decide) (by decide) (fun w' hE hD => by unfold YldR; go_simp; exact ⟨Ext.refl _, rfl⟩) ?_
          (try simp only [Act.put, List.setIfInBounds_toArray, List.set_cons_zero, List.set_cons_succ])
          refine wpH_val (by rfl) (by decide) (by decide) (fun w' hE hD => by unfold YldR; go_simp; exact ⟨Ext.refl _, rfl⟩) ?_
          (try simp only [Act.put, List.setIfInBounds_toArray, List.set_cons_zero, List.set_cons_succ])
          refine wpH_val (by rfl) (by decide) (by decide) (fun w' hE hD => by have q0 := hE.to_ext HEX.out HSB.out; have k1 := Ext.cell q0 (HG.out 1 _ rfl); unfold YldR; go_simp; exact ⟨Ext.refl _, rfl⟩) ?_
          (try simp only [Act.put, List.setIfInBounds_toArray, List.set_cons_zero, List.set_cons_succ])
          refine wpH_two rfl (by rfl) (by decide) (by decide) (fun w' hE hP hD => by unfold YldR; go_simp; obtain ⟨V', hA, hM⟩ := hP; exact (m_fall_any hM fn).mono fun e w2 h => by obtain ⟨U', h1, h2, h3⟩ := h; exact ⟨_, h1, ⟨h3.mono (fun j hj => .inr hj), V', U', hA.chgT h3 (hM.nt 66 (by decide) (by decide)) (hM.nt 71 (by decide) (by decide)), h2⟩, rfl⟩) ?_
          (try simp only [Act.put, List.setIfInBounds_toArray, List.set_cons_zero, List.set_cons_succ])
          refine wpH_val (by rfl) (by decide) (by decide) (fun w' hE hD => by unfold YldR; go_simp; exact ⟨Ext.refl _, rfl⟩) ?_
          (try simp only [Act.put, List.setIfInBounds_toArray, List.set_cons_zero, List.set_cons_succ])
          refine wpH_val (by rfl) (by decide) (by decide) (fun w' hE hD => by unfold YldR; go_simp; exact ⟨Ext.refl _, rfl⟩) ?_
          (try simp only [Act.put, List.setIfInBounds_toArray, List.set_cons_zero, List.set_cons_succ])
          refine wpH_nil fun w8 hC8 hP hA => ?_
          refine (show wpList _ _ _ [] _ _ from ?_)
          obtain ⟨V9, U9, hA8, hM8⟩ := hP
          have HAk := Aside0.mk hA8
          have HUk := Aside0.mk hM8
          have HEk := Aside0.mk (hC8.to_ext HEX.out HSB.out)
          have HLk := Aside0.mk (Nat.le_trans (faL_len L last fn) (Nat.le_succ_of_le HLX.out))
          obtain ⟨L9, hL9⟩ : ∃ z, z = faL L last fn := ⟨_, rfl⟩
          obtain ⟨N9, hN9⟩ : ∃ z, z = faN L last fn := ⟨_, rfl⟩
          rw [← hL9] at HAk HUk HLk
          rw [← hN9] at HAk HUk
          clear hA8 hM8 hC8 hA HEX HA4 HU4 HE4 HSB hL9 hN9
          (try dsimp only)
          go_wp2_with ((with_reducible refine Aside0.mk ?_); exact HTL.out _ _ _ _ _ HAk.out HUk.out HEk.out HLk.out)
        · have k5 : w4.cell? ⟨b, off + x * 6 + 5, none⟩ = some (.slice AQ' mr cr) := Ext.cell HE4.out (HG.out 5 _ rfl)
          (try dsimp only)
          go_wp2_with fail
          refine (copyR_at w4 AQ' cr rows 4000 (by decide) (by have := HSM.out.1; omega) HSM.out.2 HCR.out.1 (Kd.C_below HCR.out.2.2 HE4.out) HCR.out.2.1).mono ?_
          rintro e w5 ⟨AI, ci, rfl, hci, hCI, hE⟩
          have HI5 := Aside0.mk (And.intro hci hCI)
          have HA5 := Aside0.mk (HA4.out.ext hE)
          have HU5 := Aside0.mk (HU4.out.ext hE)
          have HE5 := Aside0.mk (HE4.out.trans hE)
          clear hci hCI hE HA4 HU4 HE4 k5
          (try dsimp only)
          go_wp2_with fail
          refine (ar_match HA5.out AI mr ci rows HCR.out.1 HI5.out.2 HI5.out.1).mono ?_
          rintro e w6 ⟨k, ok, rfl, hQ, hE⟩
          have HQ := Aside0.mk hQ
          have HI6 := Aside0.mk (And.intro HI5.out.1 (Kd.C_below HI5.out.2 hE))
          have HA6 := Aside0.mk (HA5.out.ext hE)
          have HU6 := Aside0.mk (HU5.out.ext hE)
          have HE6 := Aside0.mk (HE5.out.trans hE)
          clear hQ hE HI5 HA5 HU5 HE5
          have k5 : w6.cell? ⟨b, off + x * 6 + 5, none⟩ = some (.slice AQ' mr cr) := Ext.cell HE6.out (HG.out 5 _ rfl)
          (try dsimp only)
          go_wp2_with fail
          refine (m_match_at HU6.out AQ' mr cr rows HCR.out.1 (Kd.C_below HCR.out.2.2 HE6.out) HCR.out.2.1 k ok HQ.out).mono ?_
          rintro e w7 ⟨rfl, hE⟩
          have HI7 := Aside0.mk (And.intro HI6.out.1 (Kd.C_below HI6.out.2 hE))
          have HA7 := Aside0.mk (HA6.out.ext hE)
          have HU7 := Aside0.mk (HU6.out.ext hE)
          have HE7 := Aside0.mk (HE6.out.trans hE)
          clear hE HI6 HA6 HU6 HE6 k5 HQ
          have k5 : w7.cell? ⟨b, off + x * 6 + 5, none⟩ = some (.slice AQ' mr cr) := Ext.cell HE7.out (HG.out 5 _ rfl)
          (try dsimp only)
          go_wp2_with fail
          refine (sameR_at w7 AI AQ' ci cr rows rows true 4000 (by decide) (by have := HSM.out.1; omega) HSM.out.2 HCR.out.1 HCR.out.1 (by simp) HI7.out.2 HI7.out.1 (Kd.C_below HCR.out.2.2 HE7.out) HCR.out.2.1).mono ?_
          rintro e w8 ⟨rfl, hE⟩
          have HAk := Aside0.mk (HA7.out.ext hE)
          have HUk := Aside0.mk (HU7.out.ext hE)
          have HE8 := Aside0.mk (HE7.out.trans hE)
          have HEk := HE8
          have HLk := Aside0.mk (Nat.le_succ_of_le HLX.out)
          clear hE HI7 HA7 HU7 HE7 k5
          (try dsimp only)
          go_wp2_with ((with_reducible refine Aside0.mk ?_); exact HTL.out _ _ _ _ _ HAk.out HUk.out HEk.out HLk.out)
        · (try dsimp only)
          go_wp2_with fail
          refine (ar_rows HA4.out).mono ?_
          rintro e w5 ⟨R5, rfl, hN, hE⟩
          obtain ⟨A5, C5, eV, hC5, hK5⟩ := hN.C (n := n) (rowsOf_len _ _).symm
          subst eV
          have HK5 := Aside0.mk (And.intro hC5 hK5)
          have HA5 := Aside0.mk (HA4.out.ext hE)
          have HU5 := Aside0.mk (HU4.out.ext hE)
          have HE5 := Aside0.mk (HE4.out.trans hE)
          clear hN hE hC5 hK5 HA4 HU4 HE4
          (try dsimp only)
          go_wp2_with fail
          refine (ar_match HA5.out A5 n C5 _ (rowsOf_len _ _).symm HK5.out.2 HK5.out.1).mono ?_
          rintro e w6 ⟨k, ok, rfl, hQ, hE⟩
          have HQ := Aside0.mk hQ
          have HA6 := Aside0.mk (HA5.out.ext hE)
          have HU6 := Aside0.mk (HU5.out.ext hE)
          have HE6 := Aside0.mk (HE5.out.trans hE)
          clear hQ hE HK5 HA5 HU5 HE5
          (try dsimp only)
          go_wp2_with fail
          refine (m_rows HU6.out).mono ?_
          rintro e w7 ⟨R7, rfl, hN, hE⟩
          obtain ⟨A7, C7, eV, hC7, hK7⟩ := hN.C (n := n) (rowsOf_len _ _).symm
          subst eV
          have HK7 := Aside0.mk (And.intro hC7 hK7)
          have HA7 := Aside0.mk (HA6.out.ext hE)
          have HU7 := Aside0.mk (HU6.out.ext hE)
          have HE7 := Aside0.mk (HE6.out.trans hE)
          clear hN hE hC7 hK7 HA6 HU6 HE6
          (try dsimp only)
          go_wp2_with fail
          refine (m_match_at HU7.out A7 n C7 _ (rowsOf_len _ _).symm HK7.out.2 HK7.out.1 k ok HQ.out).mono ?_
          rintro e w8 ⟨rfl, hE⟩
          have HAk := Aside0.mk (HA7.out.ext hE)
          have HUk := Aside0.mk (HU7.out.ext hE)
          have HE8 := Aside0.mk (HE7.out.trans hE)
          have HEk := HE8
          have HLk := Aside0.mk (Nat.le_succ_of_le HLX.out)
          clear hE HK7 HA7 HU7 HE7 HQ
          (try dsimp only)
          go_wp2_with ((with_reducible refine Aside0.mk ?_); exact HTL.out _ _ _ _ _ HAk.out HUk.out HEk.out HLk.out)
    · by_cases hxm : x < m
      · have h60 : ¬ x < 60 := fun h => hlt ⟨hxm, h⟩
        have hd1 : decide ((x : Int) < (m : Int)) = true := decide_eq_true (by omega)
        have hd2 : decide ((x : Int) < 60) = false := decide_eq_false (by omega)
        go_wp2_with fail
        refine (known_calls w0).mono ?_
        rintro e wz ⟨rfl, hE⟩
        have HEz := Aside0.mk (HE.out.trans hE)
        clear hE
        go_wp2
        go_ret
        exact ⟨rfl, HEz.out⟩
      · obtain rfl : x = m := by omega
        go_wp2_with fail
        refine (known_calls w0).mono ?_
        rintro e wz ⟨rfl, hE⟩
        have HEz := Aside0.mk (HE.out.trans hE)
        clear hE
        go_wp2
        go_ret
        exact ⟨rfl, HEz.out⟩
end Go.Proofs.Ytielnpmnnifjcaa.By
