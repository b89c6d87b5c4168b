/- An array: Rows, are, Match. -/
import Derived.Test.YtielnpmnnifjcaaEk
namespace Go.Proofs.Ytielnpmnnifjcaa.By
open Go.RowKit Go.Proofs.Ytielnpmnnifjcaa.Reg Go.Proofs.YtielnpmnnifjcaaW.PrintWords Go.Proofs.YtielnpmnnifjcaaW.PrintLast Go.Proofs.YtielnpmnnifjcaaW.PrintMore
set_option linter.unusedVariables false
set_option linter.unusedSimpArgs false


abbrev SlT := Option Addr × Nat × Nat
def slV (t : SlT) : Value := .slice t.1 t.2.1 t.2.2
abbrev kSl : Kd SlT := Kd.scalar slV (fun _ => rfl)
abbrev RS (w : World) (B : Nat) (V : Value) (ss : List SlT) : Prop := Kd.R kSl 31 w B (fun _ => True) V ss
/-- Rows of bytes in memory of their own; no two rows in one block. -/
def NRs (w : World) (B : Nat) (V : Value) (rows : List (List Int)) : Prop := ∃ ss : List SlT, RS w B V ss ∧ ss.length = rows.length ∧ (∀ (i : Nat) s r, ss[i]? = some s → rows[i]? = some r → NB w B (slV s) r) ∧
  ∀ (i j : Nat) s t, i < j → ss[i]? = some s → ss[j]? = some t → ∀ k, (slV s).ownBlock = some k → (slV t).ownBlock = some k → False
theorem NRs.nil (w : World) (B : Nat) : NRs w B (.slice none 0 0) [] := ⟨[], Kd.R_nil _ _ _ _ _, rfl, fun i s r h => by simp at h, fun i j s t _ h => by simp at h⟩
theorem NRs.ext {w w' : World} {B : Nat} {V : Value} {rows : List (List Int)} (h : NRs w B V rows) (he : Ext w w') : NRs w' B V rows := by
  obtain ⟨ss, h1, h2, h3, h4⟩ := h
  exact ⟨ss, Kd.R_below h1 he, h2, fun i s r hs hr => (h3 i s r hs hr).ext he, h4⟩
theorem NB.slv {w : World} {B : Nat} {V : Value} {xs : List Int} (h : NB w B V xs) : ∃ s : SlT, V = slV s := by
  obtain ⟨A, c, e, _⟩ := h.reads
  exact ⟨(A, _, c), e⟩
/-- As rows that may be read. -/
theorem NRs.C {w : World} {B : Nat} {V : Value} {rows : List (List Int)} (h : NRs w B V rows) {n : Nat} (hn : n = rows.length) : ∃ A c, V = .slice A n c ∧ n ≤ c ∧ Kd.C kBB w A n rows := by
  obtain ⟨ss, h1, h2, h3, h4⟩ := h
  obtain ⟨A, c, e, hl, hc⟩ := Kd.R_reads h1
  have hsn : ss.length = n := by omega
  rw [hsn] at e hl hc
  refine ⟨A, c, e, hl, hn.symm, hc.2.1, fun hp => ?_⟩
  obtain ⟨ad, ha, f⟩ := hc.2.2 hp
  refine ⟨ad, ha, fun j r hr => ?_⟩
  have hj : j < ss.length := by have := (List.getElem?_eq_some_iff.1 hr).1; omega
  obtain ⟨cs, q1, q2, q3⟩ := f j ss[j] (List.getElem?_eq_getElem hj)
  have q2' : cs = [slV ss[j]] := q2
  subst q2'
  obtain ⟨A', c', e', hl', hC'⟩ := (h3 j ss[j] r (List.getElem?_eq_getElem hj) hr).reads
  refine ⟨[slV ss[j]], q1, ⟨A', c', by rw [e'], hl', hC'⟩, fun i u hu => ?_⟩
  exact q3 i u hu
def rowsOf (R : Nat → List Int) (n : Nat) : List (List Int) := (List.range n).map R
theorem rowsOf_len (R : Nat → List Int) (n : Nat) : (rowsOf R n).length = n := by simp [rowsOf]
theorem rowsOf_snoc (R : Nat → List Int) (n : Nat) : rowsOf R (n + 1) = rowsOf R n ++ [R n] := by simp [rowsOf, List.range_succ]
theorem rowsOf_at (R : Nat → List Int) (n i : Nat) (hi : i < n) : (rowsOf R n)[i]? = some (R i) := by
  unfold rowsOf
  rw [List.getElem?_map, List.getElem?_range hi]
  rfl
theorem rowsOf_ext {R S : Nat → List Int} {n : Nat} (h : ∀ i, i < n → R i = S i) : rowsOf R n = rowsOf S n := List.map_congr_left (fun i hi => h i (List.mem_range.1 hi))
theorem NRs.snoc {w : World} {B : Nat} {V V1 : Value} {rows : List (List Int)} {w1 w2 : World} {s : SlT} {r : List Int} (h : NRs w B V rows) {ss : List SlT} (h1 : RS w B V ss) (h2 : ss.length = rows.length) (h3 : ∀ (i : Nat) s r, ss[i]? = some s → rows[i]? = some r → NB w B (slV s) r)
    (h4 : ∀ (i j : Nat) s t, i < j → ss[i]? = some s → ss[j]? = some t → ∀ k, (slV s).ownBlock = some k → (slV t).ownBlock = some k → False) (hU : NB w1 w.heap.size (slV s) r) (hB : B ≤ w.heap.size) (he : Ext w w1) (he2 : Below B w1 w2) (hR : RS w2 B V1 (ss ++ [s])) (hN : ∀ {V : Value} {xs : List Int} {B' : Nat}, NB w1 B' V xs → NB w2 B' V xs) : NRs w2 B V1 (rows ++ [r]) := by
  refine ⟨ss ++ [s], hR, by simp [h2], fun i t q ht hq => ?_, fun i j t u hij ht hu k hk hk2 => ?_⟩
  · by_cases hi : i < ss.length
    · rw [List.getElem?_append_left hi] at ht
      rw [List.getElem?_append_left (by omega)] at hq
      exact hN ((h3 i t q ht hq).ext he)
    · have hi2 : i = ss.length := by have := (List.getElem?_eq_some_iff.1 ht).1; simp at this; omega
      subst hi2
      have ht' : t = s := by simpa using ht.symm
      have hq' : q = r := by rw [h2] at hq; simpa using hq.symm
      subst ht' hq'
      exact hN (Kd.R_lower hU hB)
  · have hjl : j < ss.length + 1 := by have := (List.getElem?_eq_some_iff.1 hu).1; simpa using this
    have hi : i < ss.length := by omega
    rw [List.getElem?_append_left hi] at ht
    by_cases hj : j < ss.length
    · rw [List.getElem?_append_left hj] at hu
      exact h4 i j t u hij ht hu k hk hk2
    · have hj2 : j = ss.length := by omega
      subst hj2
      have hu' : u = s := by simpa using hu.symm
      subst hu'
      have hlt := (h3 i t rows[i] ht (List.getElem?_eq_getElem (by omega))).blt k hk
      have hge := Kd.R_base hU k hk2
      omega
theorem Ext.trans' {w w1 w2 : World} (h : Ext w w1) (k : Below w.heap.size w1 w2) : Ext w w2 := Below.trans h k
section
variable {w w' : World} {ba n : Nat} {R R' : Nat → List Int} {M M' : Nat → Bool} {V : Value}
set_option maxRecDepth 100000 in
set_option maxHeartbeats 2000000 in
theorem arows_calls (h : AV w ba n R M R' M' V) (hn64 : n ≤ 64) : Calls Try.prog 8 #[.pointer (some ⟨ba, 0, none⟩)] w fun e w' => ∃ U, e = .returned U ∧ NRs w' w.heap.size U (rowsOf R' n) ∧ Ext w w' := by
  have HAV := Aside0.mk h
  have HIN := Aside0.mk (show (Try.prog.info? 31).map (fun i => (i.zero, i.size, i.bytes)) = some (some (.slice none 0 0), 1, 24) by kernel_rfl)
  have HRL := Aside0.mk (show ∀ i, i < 64 → (R' i).length = 32 from by
    obtain ⟨cs, h1, h2⟩ := h
    exact h2.no.1)
  obtain ⟨c0, c1⟩ := h.cells
  have HN := Aside0.mk hn64
  clear h c1 hn64
  go_enter Try.func8, Try.ntmps8
  go_wp2_with fail
  clear c0
  go_loopw [3, 4, 9] (fun v u4 j wr => ∃ x : Nat, j = .int .i64 x ∧ Aside0 (x ≤ n) ∧ Aside0 (NRs wr w.heap.size v (rowsOf R' x)) ∧ Aside0 (Ext w wr)) (fun _ _ j _ => n - (intOf j).toNat)
  case atStart => exact ⟨0, rfl, ⟨Nat.zero_le _⟩, ⟨NRs.nil _ _⟩, ⟨Ext.refl _⟩⟩
  case round =>
    obtain ⟨x, rfl, HX, HV, HE⟩ := hrel
    have g1 := HX.out
    have gn := HN.out
    obtain ⟨wx, hwx⟩ : ∃ wx : World, wx = wr := ⟨_, rfl⟩
    subst hwx
    obtain ⟨V1, hV1⟩ : ∃ V1, V1 = u3 := ⟨_, rfl⟩
    subst hV1
    obtain ⟨ss, hs1, hs2, hs3, hs4⟩ := HV.out
    have HS := Aside0.mk (show RS wx w.heap.size V1 ss ∧ ss.length = (rowsOf R' x).length ∧ (∀ (i : Nat) s r, ss[i]? = some s → (rowsOf R' x)[i]? = some r → NB wx w.heap.size (slV s) r) ∧ (∀ (i j : Nat) s t, i < j → ss[i]? = some s → ss[j]? = some t → ∀ k, (slV s).ownBlock = some k → (slV t).ownBlock = some k → False) from ⟨hs1, hs2, hs3, hs4⟩)
    clear hs1 hs2 hs3 hs4
    obtain ⟨A1, C1, hV1, _, _⟩ := Kd.R_reads HS.out.1
    obtain ⟨N1, hN1⟩ : ∃ N1, N1 = ss.length := ⟨_, rfl⟩
    rw [← hN1] at hV1
    clear hN1
    subst hV1
    by_cases hlt : x < n
    · have HLT := Aside0.mk hlt
      have hx64 : (x : Int) < 64 := by omega
      have hxn : (x : Int) < n := by omega
      have hrow := (HAV.out.ext HE.out).row x (by omega)
      have HRW := Aside0.mk hrow.1
      have HCL := Aside0.mk (clone_calls wx (some ⟨ba, 2113 + x * 32, none⟩) 32 32 (R' x) (HRL.out x (by omega)).symm hrow.1 (Nat.le_refl _) (by decide))
      have HSL := Aside0.mk (show ss.length ≤ 64 from by rw [HS.out.2.1, rowsOf_len]; omega)
      clear hrow
      go_wp2_with fail
      refine HCL.out.mono ?_
      rintro e w2 ⟨U, rfl, hU, hE⟩
      obtain ⟨s, rfl⟩ := hU.slv
      have HU := Aside0.mk hU
      have HE2 := Aside0.mk hE
      have HV2 := Aside0.mk (Kd.R_below HS.out.1 hE)
      have HBS := Aside0.mk (show w.heap.size ≤ w2.heap.size from Nat.le_trans HE.out.size hE.size)
      have HL1 := Aside0.mk (show (ss.length + 1) * 24 ≤ 140737488355328 from by have := HSL.out; omega)
      obtain ⟨A2, N2, C2⟩ := s
      rw [show slV (A2, N2, C2) = Value.slice A2 N2 C2 from rfl]
      clear hU hE HCL
      go_wp2_with (first | (at_builtin; refine Kd.R_append kSl (w0 := w2) w.heap.size rfl (.tmp 12) (.tmp 21) 27 31 (.slice none 0 0) 24 rfl Try.underlying27 HIN.out rfl (by decide) (by decide) (.slice A1 N1 C1) ss (A2, N2, C2) [Value.slice A2 N2 C2] (fun _ => True) (fun _ => False) rfl rfl rfl (fun _ hk => hk.elim) (fun _ _ => trivial) HV2.out (Below.refl _ _) HBS.out HL1.out ?_) | fail)
      intro V3 w3 hR hBl hg _
      have HV3 := Aside0.mk (show NRs w3 w.heap.size V3 (rowsOf R' (x + 1)) from by
        rw [rowsOf_snoc]
        refine HV.out.snoc HS.out.1 HS.out.2.1 HS.out.2.2.1 HS.out.2.2.2 HU.out HE.out.size HE2.out hBl hR (fun {V} {xs} {B'} hx => hx.chg (Chg.of_grown hg (S := fun j => (Value.slice A1 N1 C1).ownBlock = some j) (fun k hk => hk)) (fun j hj hs => ?_))
        obtain ⟨c1, e1⟩ := hx.typed j hj
        obtain ⟨c2, e2⟩ := Kd.R_typed HV2.out j hs
        rw [e1] at e2
        injection e2 with e2
        injection e2 with _ e3
        cases e3)
      have HE3 := Aside0.mk (show Ext w w3 from Below.trans (HE.out.trans HE2.out) hBl)
      clear hR hBl hg
      go_wp2_with fail
      go_roundw
      case rel => exact ⟨x + 1, by go_num, ⟨hlt⟩, HV3, HE3⟩
      case measure => have := HLT.out; simp only [intOf]; omega
    · obtain rfl : x = n := by omega
      go_wp2_with fail
      go_ret
      exact ⟨_, rfl, HV.out, HE.out⟩
/-- A row of rows, at x. -/
theorem bb_at {w : World} {A : Option Addr} {m : Nat} {xs : List (List Int)} (h : Kd.C kBB w A m xs) (x : Nat) (hx : x < m) : ∃ ad A' c', A = some ad ∧ w.cell? (ad.add x) = some (.slice A' (xs.getD x []).length c') ∧ (xs.getD x []).length ≤ c' ∧ Kd.C kb w A' (xs.getD x []).length (xs.getD x []) := by
  obtain ⟨ad, c, e, _, hK, hc⟩ := Kd.C_get h [] (x : Int) (by omega) (by omega)
  obtain ⟨A', c', h3, h4, h5⟩ := hK
  subst h3
  have a0 := hc 0 _ rfl
  rw [Int.toNat_natCast] at a0 h4 h5
  have e1 : x * kBB.sz + 0 = x := by show x * 1 + 0 = x; omega
  rw [e1] at a0
  exact ⟨ad, A', c', e, a0, h4, h5⟩
set_option maxRecDepth 100000 in
set_option maxHeartbeats 2000000 in
theorem are_calls (h : AV w ba n R M R' M' V) (hn64 : n ≤ 64) {bb off u : Nat} {cs : Array Value} {S : Nat → List Int} {T : Nat → Bool} (hB : Blk w bb cs u) (hS : BV cs off S T) (A : Option Addr) (m c : Nat) (rows : List (List Int)) (hm : m = rows.length) (hr : Kd.C kBB w A m rows) (hc : m ≤ c) :
    Calls Try.prog 35 #[.pointer (some ⟨ba, 0, none⟩), .pointer (some ⟨bb, off, none⟩), .slice A m c] w fun e w' => e = .returned (.bool (decide (rows = rowsOf S n))) ∧ Ext w w' := by
  obtain ⟨c0, c1⟩ := h.cells
  have HM := Aside0.mk hm
  have HR := Aside0.mk hr
  have HB := Aside0.mk hB
  have HS := Aside0.mk hS
  have HN := Aside0.mk hn64
  clear h c1 hm hr hB hS hn64
  by_cases hmn : m = n
  · subst hmn
    go_enter Try.func35, Try.ntmps35
    go_wp2_with fail
    clear c0
    go_loopw [7, 8, 18] (fun u7 u8 j wr => ∃ x : Nat, j = .int .i64 x ∧ Aside0 (x ≤ m) ∧ Aside0 (∀ i, i < x → rows.getD i [] = S i) ∧ Aside0 (Ext w wr)) (fun _ _ j _ => m - (intOf j).toNat)
    case atStart => exact ⟨0, rfl, ⟨Nat.zero_le _⟩, ⟨fun i hi => by omega⟩, ⟨Ext.refl _⟩⟩
    case round =>
      obtain ⟨x, rfl, HX, HV, HE⟩ := hrel
      have g1 := HX.out
      have gn := HN.out
      obtain ⟨wx, hwx⟩ : ∃ wx : World, wx = wr := ⟨_, rfl⟩
      subst hwx
      by_cases hlt : x < m
      · have HLT := Aside0.mk hlt
        have hx64 : (x : Int) < 64 := by omega
        have hxm : (x : Int) < m := by omega
        obtain ⟨ad, A', c', eA, hcell, hl', hC'⟩ := bb_at (Kd.C_below HR.out HE.out) x hlt
        have hrow := HS.out.rowC (HB.out.ext HE.out) x (by omega)
        have hS32 := HS.out.1 x (by omega)
        have HEQ := Aside0.mk (eq_at wx (some ⟨bb, off + x * 32, none⟩) A' 32 c' (S x) (rows.getD x []) _ hS32.symm rfl rfl hrow (Nat.le_refl _) hC' hl' (by rw [hS32]; decide))
        obtain ⟨r, hrr⟩ : ∃ r, r = rows.getD x [] := ⟨_, rfl⟩
        rw [← hrr] at hcell HEQ
        have HRR := Aside0.mk hrr
        obtain ⟨nr, hnr⟩ : ∃ nr, nr = r.length := ⟨_, rfl⟩
        rw [← hnr] at hcell HEQ
        subst eA
        clear hrow hS32 hl' hC' hrr hnr
        by_cases he : S x = r
        · have HHE := Aside0.mk he
          rw [decide_eq_true he] at HEQ
          clear he
          go_wp2_with fail
          refine HEQ.out.mono ?_
          rintro e w2 ⟨rfl, hE⟩
          have HE2 := Aside0.mk (HE.out.trans hE)
          have HV2 := Aside0.mk (show ∀ i, i < x + 1 → rows.getD i [] = S i from fun i hi => by
            by_cases h : i < x
            · exact HV.out i h
            · obtain rfl : i = x := by omega
              rw [← HRR.out, HHE.out])
          clear hE HEQ hcell
          go_wp2_with fail
          go_roundw
          case rel => exact ⟨x + 1, by go_num, ⟨hlt⟩, HV2, HE2⟩
          case measure => have := HLT.out; simp only [intOf]; omega
        · have HF := Aside0.mk (show decide (rows = rowsOf S m) = false from decide_eq_false (fun e => he (by
            rw [HRR.out, e, List.getD_eq_getElem?_getD, rowsOf_at S m x HLT.out]
            rfl)))
          rw [decide_eq_false he] at HEQ
          clear he
          go_wp2_with fail
          refine HEQ.out.mono ?_
          rintro e w2 ⟨rfl, hE⟩
          have HE2 := Aside0.mk (HE.out.trans hE)
          clear hE HEQ hcell
          go_wp2_with fail
          go_ret
          exact ⟨by rw [HF.out]; rfl, HE2.out⟩
      · obtain rfl : x = m := by omega
        have HF := Aside0.mk (show decide (rows = rowsOf S x) = true from decide_eq_true (by
          apply List.ext_getElem?
          intro i
          by_cases hi : i < x
          · rw [rowsOf_at S x i hi, ← HV.out i hi, List.getD_eq_getElem?_getD]
            have : i < rows.length := by have := HM.out; omega
            rw [List.getElem?_eq_getElem this]
            rfl
          · rw [List.getElem?_eq_none (by have := HM.out; omega), List.getElem?_eq_none (by rw [rowsOf_len]; omega)]))
        go_wp2_with fail
        go_ret
        exact ⟨by rw [HF.out]; rfl, HE.out⟩
  · have HF := Aside0.mk (show decide (rows = rowsOf S n) = false from decide_eq_false (fun e => hmn (by rw [HM.out, e, rowsOf_len])))
    have hmi : ¬ (m : Int) = n := by omega
    have hmb : ((m : Int) == n) = false := by simpa using hmi
    clear hmi
    go_enter Try.func35, Try.ntmps35
    go_wp2_with fail
    go_ret
    exact ⟨by rw [HF.out]; rfl, Ext.refl _⟩
end
end Go.Proofs.Ytielnpmnnifjcaa.By
