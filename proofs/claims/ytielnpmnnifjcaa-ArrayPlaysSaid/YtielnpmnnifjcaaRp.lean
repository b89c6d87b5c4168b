/- Replay: whatever is done again is as it was. -/
import Derived.Test.YtielnpmnnifjcaaDn
namespace Go.Proofs.Ytielnpmnnifjcaa.By
open Go.RowKit Go.Proofs.Ytielnpmnnifjcaa.Reg Go.Proofs.YtielnpmnnifjcaaW.PrintWords Go.Proofs.YtielnpmnnifjcaaW.PrintLast Go.Proofs.YtielnpmnnifjcaaW.PrintMore
set_option linter.unusedVariables false
set_option linter.unusedSimpArgs false


abbrev kIn : Kd Ch := Kd.pair Kd.bool (Kd.pair (Kd.int .i64) kBB)
theorem kIn_K {w : World} {p : Ch} {cs : List Value} (h : kIn.K w p cs) : ∃ A c, cs = [.bool p.1, .int .i64 p.2.1, .slice A p.2.2.length c] ∧ p.2.2.length ≤ c ∧ Kd.C kb w A p.2.2.length p.2.2 := by
  obtain ⟨c0, c1, e, h0, c2, c3, e1, h2, A, c, h3, h4, h5⟩ := h
  have h0' : c0 = [.bool p.1] := h0
  have h2' : c2 = [.int .i64 p.2.1] := h2
  refine ⟨A, c, ?_, h4, h5⟩
  rw [e, h0', e1, h2', h3]
  rfl
theorem blk_range {w : World} {b t : Nat} {cs : Array Value} (h : Blk w b cs t) : w.rangeAt b 0 cs.toList := fun j v hv => by
  have := h.cell j (v := v) (by simpa using hv)
  rw [Nat.zero_add]
  exact this
theorem in_at {w : World} {A : Option Addr} {m : Nat} {l : List Ch} (h : Kd.C kIn w A m l) (i : Nat) (hi : i < m) (p : Ch) (hp : l[i]? = some p) : ∃ b off A' c, A = some ⟨b, off, none⟩ ∧ w.rangeAt b (off + i * 3) [.bool p.1, .int .i64 p.2.1, .slice A' p.2.2.length c] ∧ p.2.2.length ≤ c ∧ Kd.C kb w A' p.2.2.length p.2.2 := by
  obtain ⟨b, off, cs, e, _, hK, hr⟩ := row_at h (by decide) i hi p hp
  obtain ⟨A', c, e2, h4, h5⟩ := kIn_K hK
  subst e2
  exact ⟨b, off, A', c, e, hr, h4, h5⟩
theorem ar_do_c {w : World} {B B' ba n : Nat} {V : Value} {L : List Ch} {last : Nat} (h : AR w B ba n V L last) (hl : L.length ≤ 900) (hB : B ≤ w.heap.size) (c : Ch) (hok : okC n c) (s : SlT) (hs : (c.1 = true ∧ c.2.2 = z32 ∧ s.2.1 = 0) ∨ (c.1 = false ∧ NB w B' (slV s) c.2.2)) :
    Calls Try.prog 9 #[.pointer (some ⟨ba, 0, none⟩), .agg #[.bool c.1, .int .i64 c.2.1, slV s]] w fun e w' => ∃ V', e = .returned (.int .i64 0) ∧ AR w' B ba n V' (L ++ [c]) last ∧ Chg w w' (Ast ba V) ∧ OwnQ V w.heap.size V' := by
  obtain ⟨tr, at', data⟩ := c
  obtain ⟨As, ns, cs⟩ := s
  obtain ⟨h0, h1, h2⟩ := hok
  dsimp only at h0 h1 h2 hs ⊢
  obtain ⟨k, rfl⟩ : ∃ k : Nat, at' = k := ⟨at'.toNat, by omega⟩
  rcases hs with ⟨a, b, d⟩ | ⟨a, b⟩
  · subst a b d
    exact ar_do_t h hl k (by omega) As cs hB
  · subst a
    obtain ⟨A, c, e, q1, q2⟩ := b.nat h2.symm
    injection e with e1 e2 e3
    subst e1 e2 e3
    exact ar_do_w h hl k (by omega) As cs data h2 q2 q1 hB
theorem AR.apart {w : World} {B B' ba bb n n' last last' : Nat} {V U : Value} {L L' : List Ch} (h1 : AR w B ba n V L last) (h2 : AR w B' bb n' U L' last') (hne : ba ≠ bb) (hVU : ∀ j, V.ownBlock = some j → U.ownBlock ≠ some j) : ∀ j, Ast bb U j → ¬ Ast ba V j := by
  obtain ⟨c1, hB1, _⟩ := h1.av
  obtain ⟨c2, hB2, _⟩ := h2.av
  rintro j (rfl | hj) (h | h)
  · exact hne h.symm
  · obtain ⟨c, e⟩ := h1.orr.typed j h
    rw [hB2.is] at e
    injection e with e
    injection e with _ e
    cases e
  · subst h
    obtain ⟨c, e⟩ := h2.orr.typed j hj
    rw [hB1.is] at e
    injection e with e
    injection e with _ e
    cases e
  · exact hVU j h hj
theorem AR.len32 {w : World} {B ba n last : Nat} {V : Value} {L : List Ch} (h : AR w B ba n V L last) : ∀ i, i < 64 → (aftR zR L i).length = 32 := by
  obtain ⟨cs, h1, h2⟩ := h.av
  exact h2.no.1
theorem take_get (L : List Ch) (y : Nat) (c : Ch) (h : L[y]? = some c) : L.take (y + 1) = L.take y ++ [c] := by
  rw [List.take_add_one, h]
  rfl
theorem aq_same {n p r : Nat} {L : List Ch} (hr : p + r ≤ L.length) {k : Nat} {ok : Bool} (h : AQ n L p (rowsOf (aftR zR (L.take (p + r))) n) k ok) : ok = true ∧ k ≤ r := by
  have e : rowsOf (aftR (aftR zR (L.take p)) ((L.drop p).take r)) n = rowsOf (aftR zR (L.take (p + r))) n := by rw [aft_two]
  rcases h with ⟨a, b, c, d⟩ | ⟨a, b, c⟩
  · refine ⟨a, Nat.le_of_not_lt fun hlt => ?_⟩
    exact d r hlt e
  · exact absurd e (c r (by rw [List.length_drop]; omega))
theorem rows_len {R : Nat → List Int} {n : Nat} (hn : n ≤ 64) (h : ∀ i, i < 64 → (R i).length = 32) : ∀ r ∈ rowsOf R n, r.length ≤ 32 := by
  intro r hr
  unfold rowsOf at hr
  obtain ⟨i, hi, rfl⟩ := List.mem_map.1 hr
  rw [List.mem_range] at hi
  exact Nat.le_of_eq (h i (by omega))
set_option maxRecDepth 100000 in
set_option maxHeartbeats 2000000 in
theorem array_replays (w : World) (A : Option Addr) (m c : Nat) (l : List Ch) (hm : m = l.length) (hr : Kd.C kIn w A m l) (hc : m ≤ c) (hrng : ∀ p ∈ l, -9223372036854775808 ≤ p.2.1 ∧ p.2.1 ≤ 9223372036854775807) (a : Int) (ha : -9223372036854775808 ≤ a ∧ a ≤ 9223372036854775807) (n : Int) (hn : -9223372036854775808 ≤ n ∧ n ≤ 9223372036854775807) :
    Calls Try.prog 5 #[.slice A m c, .int .i64 a, .int .i64 n] w fun e w' => e = .returned (.bool true) ∧ Below w.heap.size w w' := by
  have HR := Aside0.mk hr
  have HM := Aside0.mk hm
  have HRNG := Aside0.mk hrng
  have HPA := Aside0.mk ha
  have HPN := Aside0.mk hn
  clear hr hm hrng ha hn
  go_enter Try.func5, Try.ntmps5
  go_wp2_with fail
  refine (ar_new w 9 w.heap.size (Nat.le_refl _)).mono ?_
  rintro e w1 ⟨ba, rfl, hA, hE, hb⟩
  have HA1 := Aside0.mk (show AR w1 w.heap.size ba 9 (.slice none 0 0) [] 0 from hA)
  have HE1 := Aside0.mk hE
  clear hA hE hb
  go_wp2_with fail
  refine (ar_new w1 9 w.heap.size HE1.out.size).mono ?_
  rintro e w2 ⟨bb, rfl, hA, hE, hb⟩
  have HB2 := Aside0.mk (show AR w2 w.heap.size bb 9 (.slice none 0 0) [] 0 from hA)
  have HA2 := Aside0.mk (HA1.out.ext hE)
  have HE2 := Aside0.mk (HE1.out.trans hE)
  have HNE := Aside0.mk (show ba < bb from by have := HA1.out.lt ba (.inl rfl); omega)
  clear hA hE hb HA1 HE1
  go_wp2_with fail
  go_loopw [9, 10, 11] (fun v j u11 wr => ∃ (x : Nat) (L : List Ch), j = .int .i64 x ∧ Aside0 (x ≤ m ∧ x ≤ 100 ∧ L.length = x ∧ ∀ p ∈ L, okC 9 p) ∧ Aside0 (DN wr w2.heap.size v L) ∧ Aside0 (Ext w2 wr)) (fun _ j _ _ => 101 - (intOf j).toNat)
  case atStart => exact ⟨0, [], rfl, ⟨⟨Nat.zero_le _, by decide, rfl, fun p hp => (by cases hp)⟩⟩, ⟨DN.nil _ _⟩, ⟨Ext.refl _⟩⟩
  case round =>
    obtain ⟨x, L, rfl, HX, HV, HE⟩ := hrel
    have g1 := HX.out.1
    have g2 := HX.out.2.1
    have HLX := Aside0.mk HX.out.2.2
    clear HX
    obtain ⟨w0, hw0⟩ : ∃ w0 : World, w0 = wr := ⟨_, rfl⟩
    subst hw0
    obtain ⟨V1, hV1⟩ : ∃ V1, V1 = u9 := ⟨_, rfl⟩
    subst hV1
    by_cases hlt : x < m
    · have hxm : (x : Int) < m := by omega
      by_cases hlt2 : x < 100
      · have hx100 : (x : Int) < 100 := by omega
        have HLT := Aside0.mk hlt
        have HLT2 := Aside0.mk hlt2
        have hget : l[x]? = some (l[x]'(by have := HM.out; omega)) := List.getElem?_eq_getElem _
        have HPI := Aside0.mk (HRNG.out _ (List.getElem_mem (l := l) (n := x) (by have := HM.out; omega)))
        obtain ⟨b, off, Ad, cd, hA, hrg, hcd, hCd⟩ := in_at HR.out x hlt _ hget
        generalize l[x]'(by have := HM.out; omega) = p at hrg HPI hcd hCd hget
        clear hget hlt hlt2
        obtain ⟨trim, at', data⟩ := p
        subst hA
        have HRG := Aside0.mk (rangeAt_ext hrg (HE2.out.trans HE.out))
        have HCD := Aside0.mk (And.intro hcd (Kd.C_below hCd (HE2.out.trans HE.out)))
        clear hrg hcd hCd
        go_wp2_with fail
        obtain ⟨q, hq, hq9⟩ : ∃ q : Nat, pickT at' 9 = (q : Int) ∧ q < 9 := by
          have := pickT_range at' 9 (by decide)
          exact ⟨(pickT at' 9).toNat, by omega, by omega⟩
        have HQ := Aside0.mk hq
        have HQ9 := Aside0.mk hq9
        have HIN34 := Aside0.mk (show (Try.prog.info? 34).map (fun i => (i.zero, i.size, i.bytes)) = some (some (.agg #[.bool false, .int .i64 0, .slice none 0 0]), 3, 40) from by kernel_rfl)
        have HI34 := Aside0.mk (show (Try.prog.info? 34).map (·.size) = some 3 from by kernel_rfl)
        clear hq hq9
        apply wp_region_facts 13 [RF.val _, RF.val _, RF.val _, RF.val _, RF.val _, RF.val _, RF.val _, RF.val _, RF.val _, RF.val _, RF.val _, RF.val _, RF.fact (fun u wd => ∃ bc, u = .pointer (some ⟨bc, 0, none⟩) ∧ w0.heap.size ≤ bc ∧ Blk wd bc #[.bool false, .int .i64 0, .slice none 0 0] 34)]
        case hm => kernel_rfl
        case hB => kernel_rfl
        simp only [List.take_succ_cons, List.take_zero, List.zip_cons_cons, List.zip_nil_left]
        (first | refine wpF_val rfl (fun w' hE hD => by unfold Yld; go_simp; exact ⟨Ext.refl _, rfl⟩) ?_ | refine wpF_valg (by rfl) (fun w' hE hD => by unfold Yld; go_simp; exact ⟨Ext.refl _, rfl⟩) ?_)
        (try simp only [Act.put, List.setIfInBounds_toArray, List.set_cons_zero, List.set_cons_succ])
        (first | refine wpF_val rfl (fun w' hE hD => by unfold Yld; go_simp; exact ⟨Ext.refl _, rfl⟩) ?_ | refine wpF_valg (by rfl) (fun w' hE hD => by unfold Yld; go_simp; exact ⟨Ext.refl _, rfl⟩) ?_)
        (try simp only [Act.put, List.setIfInBounds_toArray, List.set_cons_zero, List.set_cons_succ])
        (first | refine wpF_val rfl (fun w' hE hD => by unfold Yld; go_simp; exact ⟨Ext.refl _, rfl⟩) ?_ | refine wpF_valg (by rfl) (fun w' hE hD => by unfold Yld; go_simp; exact ⟨Ext.refl _, rfl⟩) ?_)
        (try simp only [Act.put, List.setIfInBounds_toArray, List.set_cons_zero, List.set_cons_succ])
        (first | refine wpF_val rfl (fun w' hE hD => by unfold Yld; go_simp; exact ⟨Ext.refl _, rfl⟩) ?_ | refine wpF_valg (by rfl) (fun w' hE hD => by unfold Yld; go_simp; exact ⟨Ext.refl _, rfl⟩) ?_)
        (try simp only [Act.put, List.setIfInBounds_toArray, List.set_cons_zero, List.set_cons_succ])
        (first | refine wpF_val rfl (fun w' hE hD => by have k0 : w'.cell? ⟨b, off + x * 3, none⟩ = some (.bool trim) := Ext.cell hE (HRG.out 0 _ rfl); unfold Yld; go_simp; exact ⟨Ext.refl _, rfl⟩) ?_ | refine wpF_valg (by rfl) (fun w' hE hD => by have k0 : w'.cell? ⟨b, off + x * 3, none⟩ = some (.bool trim) := Ext.cell hE (HRG.out 0 _ rfl); unfold Yld; go_simp; exact ⟨Ext.refl _, rfl⟩) ?_)
        (try simp only [Act.put, List.setIfInBounds_toArray, List.set_cons_zero, List.set_cons_succ])
        (first | refine wpF_val rfl (fun w' hE hD => by unfold Yld; go_simp; exact ⟨Ext.refl _, rfl⟩) ?_ | refine wpF_valg (by rfl) (fun w' hE hD => by unfold Yld; go_simp; exact ⟨Ext.refl _, rfl⟩) ?_)
        (try simp only [Act.put, List.setIfInBounds_toArray, List.set_cons_zero, List.set_cons_succ])
        (first | refine wpF_val rfl (fun w' hE hD => by unfold Yld; go_simp; exact ⟨Ext.refl _, rfl⟩) ?_ | refine wpF_valg (by rfl) (fun w' hE hD => by unfold Yld; go_simp; exact ⟨Ext.refl _, rfl⟩) ?_)
        (try simp only [Act.put, List.setIfInBounds_toArray, List.set_cons_zero, List.set_cons_succ])
        (first | refine wpF_val rfl (fun w' hE hD => by unfold Yld; go_simp; exact ⟨Ext.refl _, rfl⟩) ?_ | refine wpF_valg (by rfl) (fun w' hE hD => by unfold Yld; go_simp; exact ⟨Ext.refl _, rfl⟩) ?_)
        (try simp only [Act.put, List.setIfInBounds_toArray, List.set_cons_zero, List.set_cons_succ])
        (first | refine wpF_val rfl (fun w' hE hD => by unfold Yld; go_simp; exact ⟨Ext.refl _, rfl⟩) ?_ | refine wpF_valg (by rfl) (fun w' hE hD => by unfold Yld; go_simp; exact ⟨Ext.refl _, rfl⟩) ?_)
        (try simp only [Act.put, List.setIfInBounds_toArray, List.set_cons_zero, List.set_cons_succ])
        (first | refine wpF_val rfl (fun w' hE hD => by have k1 : w'.cell? ⟨b, off + x * 3 + 1, none⟩ = some (.int .i64 at') := Ext.cell hE (HRG.out 1 _ rfl); unfold Yld; go_simp; exact ⟨Ext.refl _, rfl⟩) ?_ | refine wpF_valg (by rfl) (fun w' hE hD => by have k1 : w'.cell? ⟨b, off + x * 3 + 1, none⟩ = some (.int .i64 at') := Ext.cell hE (HRG.out 1 _ rfl); unfold Yld; go_simp; exact ⟨Ext.refl _, rfl⟩) ?_)
        (try simp only [Act.put, List.setIfInBounds_toArray, List.set_cons_zero, List.set_cons_succ])
        (first | refine wpF_val rfl (fun w' hE hD => by unfold Yld; go_simp; exact (pick_calls w' at' 9 q HPI.out.1 HPI.out.2 (by decide) HQ.out.symm).mono fun e w2 h => ⟨_, h.1, h.2, rfl⟩) ?_ | refine wpF_valg (by rfl) (fun w' hE hD => by unfold Yld; go_simp; exact (pick_calls w' at' 9 q HPI.out.1 HPI.out.2 (by decide) HQ.out.symm).mono fun e w2 h => ⟨_, h.1, h.2, rfl⟩) ?_)
        (try simp only [Act.put, List.setIfInBounds_toArray, List.set_cons_zero, List.set_cons_succ])
        (first | refine wpF_val rfl (fun w' hE hD => by unfold Yld; go_simp; exact ⟨Ext.refl _, rfl⟩) ?_ | refine wpF_valg (by rfl) (fun w' hE hD => by unfold Yld; go_simp; exact ⟨Ext.refl _, rfl⟩) ?_)
        (try simp only [Act.put, List.setIfInBounds_toArray, List.set_cons_zero, List.set_cons_succ])
        refine wpF_fact rfl (fun u Wa Wb h he => by obtain ⟨bc, h1, h2, h3⟩ := h; exact ⟨bc, h1, h2, h3.ext he⟩) (fun w' hE hD => ?_) (fun u11x => ?_)
        · unfold Yld
          go_simp
          exact ⟨(Ext.refl _).alloc _, _, rfl, hE.size, Blk.new _ _ _⟩
        (try simp only [Act.put, List.setIfInBounds_toArray, List.set_cons_zero, List.set_cons_succ])
        refine wpF_nil fun w3 hE3 hA => ?_
        simp only [List.drop_succ_cons, List.drop_zero]
        obtain ⟨bc, e5, hbc, hB⟩ := hA.1
        subst e5
        have HB3 := Aside0.mk hB
        have HBC := Aside0.mk hbc
        have HE3 := Aside0.mk hE3
        clear hA hE3 hB hbc
        go_wp2_with (first | ((with_reducible refine gate_store (ty := 34) rfl ?_); refine store_at rfl 34 _ _ rfl bc [.bool trim, .int .i64 (q : Int), .slice none 0 0] rfl rfl _ 34 HB3.out rfl HI34.out (dL_one (trim, (q : Int), (none, 0, 0))) ?_) | fail)
        intro w4 hW4 hb4
        have HB4 := Aside0.mk hb4
        have HE4 := Aside0.mk (show Ext w0 w4 from (Chg.of_wrote (S := fun j => j = bc) hW4 rfl).to_ext HE3.out (fun j hj => by rw [hj]; exact HBC.out))
        have HV4 := Aside0.mk (HV.out.ext HE4.out)
        clear hW4 hb4 HB3 HE3
        have c0 := HB4.out.cell 0 (v := .bool trim) rfl
        cases trim with
        | true =>
          have HRC := Aside0.mk (blk_range HB4.out)
          obtain ⟨A1, C1, eV, hC1⟩ := HV4.out.nat HLX.out.1.symm
          subst eV
          obtain ⟨ds, hd1, hd2, hd3⟩ := HV4.out
          have HDS := Aside0.mk (And.intro hd1 (And.intro hd2 hd3))
          have HL1 := Aside0.mk (show (ds.length + 1) * 40 ≤ 140737488355328 from by have := HLX.out.1; have := HLT2.out; omega)
          have HBS := Aside0.mk (show w2.heap.size ≤ w4.heap.size from Nat.le_trans HE.out.size HE4.out.size)
          clear hd1 hd2 hd3 hC1 HV HV4
          go_wp2_with (first | ((with_reducible refine gate_load (ty := 34) rfl ?_); refine load_at rfl 34 _ rfl bc 0 rfl [.bool true, .int .i64 (q : Int), .slice none 0 0] _ HRC.out Try.underlying34 rfl HI34.out ?_) | (at_builtin; refine Kd.R_append kD (w0 := w4) w2.heap.size rfl (.tmp 58) (.tmp 60) 53 34 (.agg #[.bool false, .int .i64 0, .slice none 0 0]) 40 rfl Try.underlying53 HIN34.out rfl (by decide) (by decide) (.slice A1 x C1) ds (true, (q : Int), (none, 0, 0)) [.bool true, .int .i64 (q : Int), .slice none 0 0] (fun _ => True) (fun _ => False) rfl rfl (dL_M _ _ _ (true, (q : Int), (none, 0, 0))) (fun _ hk => hk.elim) (fun _ _ => trivial) HDS.out.1 (Below.refl _ _) HBS.out HL1.out ?_) | fail)
          intro V3 w9 hR hBl hg _
          have hcg := Chg.of_grown hg (S := fun j => (Value.slice A1 x C1).ownBlock = some j) (fun k hk => hk)
          have HV9 := Aside0.mk (show DN w9 w2.heap.size V3 (L ++ [(true, (q : Int), z32)]) from DN.grow HDS.out.2.1 HDS.out.2.2 hcg HDS.out.1.nt hR (⟨rfl, rfl, .inl ⟨rfl, rfl, rfl⟩⟩))
          have HE9 := Aside0.mk (show Ext w2 w9 from Below.trans (HE.out.trans HE4.out) hBl)
          have HLN := Aside0.mk (show (L ++ [(true, (q : Int), z32)]).length = x + 1 ∧ ∀ p ∈ L ++ [(true, (q : Int), z32)], okC 9 p from ⟨by rw [List.length_append, HLX.out.1]; rfl, fun p hp => by
            rcases List.mem_append.1 hp with hp | hp
            · exact HLX.out.2 p hp
            · rw [List.mem_singleton.1 hp]
              exact ⟨by dsimp only; omega, by have := HQ9.out; dsimp only; omega, z32_len⟩⟩)
          clear hR hBl hg hcg HDS
          go_wp2_with fail
          go_roundw
          case rel => exact ⟨x + 1, _, by go_num, ⟨⟨HLT.out, HLT2.out, HLN.out⟩⟩, HV9, HE9⟩
          case measure => have := HLT2.out; simp only [intOf]; omega
        | false =>
          go_wp2_with (first | ((with_reducible refine gate_dst (N := 48) rfl ?_); refine mk_at rfl _ _ rfl rfl rfl ?_) | fail)
          intro w5 hE5 hbd5
          obtain ⟨bd, hbd⟩ : ∃ z, z = w4.heap.size := ⟨_, rfl⟩
          rw [← hbd] at hbd5 ⊢
          have HBD5 := Aside0.mk hbd5
          have HB5 := Aside0.mk (HB4.out.ext hE5)
          have HE5 := Aside0.mk (HE4.out.trans hE5)
          have HV5 := Aside0.mk (HV4.out.ext hE5)
          have HBD := Aside0.mk (show w0.heap.size ≤ bd ∧ bd ≠ bc from ⟨by have := HE4.out.size; omega, by have := HB4.out.lt; omega⟩)
          clear hE5 hbd5 hbd HB4 HE4 HV4 c0
          have c2 := HB5.out.cell 2 (v := .slice none 0 0) rfl
          have f2 := HB5.out.free 2
          go_wp2_with fail
          clear c2 f2
          obtain ⟨w6, hw6⟩ : ∃ z, z = w5.setCell ⟨bc, 2, none⟩ (.slice (some ⟨bd, 0, none⟩) 32 32) := ⟨_, rfl⟩
          rw [← hw6]
          have HB6 := Aside0.mk (show Blk w6 bc #[.bool false, .int .i64 (q : Int), .slice (some ⟨bd, 0, none⟩) 32 32] 34 from by rw [hw6]; exact HB5.out.set 2 (.slice (some ⟨bd, 0, none⟩) 32 32))
          have hC6 : Chg w5 w6 (fun j => j = bc) := by rw [hw6]; exact Chg.of_wrote (Wrote.setCell w5 bc 2 _) rfl
          have HE6 := Aside0.mk (hC6.to_ext HE5.out (fun j hj => by rw [hj]; exact HBC.out))
          have HBD6 := Aside0.mk (hC6.blk HBD5.out HBD.out.2)
          clear hC6 hw6 HB5 HBD5 HE5 HV5
          apply wp_region_facts 7 [RF.val _, RF.val _, RF.val _, RF.val _, RF.val _, RF.val _, RF.val _]
          case hm => kernel_rfl
          case hB => kernel_rfl
          simp only [List.take_succ_cons, List.take_zero, List.zip_cons_cons, List.zip_nil_left]
          (first | refine wpF_val rfl (fun w' hE hD => by unfold Yld; go_simp; exact ⟨Ext.refl _, rfl⟩) ?_ | refine wpF_valg (by rfl) (fun w' hE hD => by unfold Yld; go_simp; exact ⟨Ext.refl _, rfl⟩) ?_)
          (try simp only [Act.put, List.setIfInBounds_toArray, List.set_cons_zero, List.set_cons_succ])
          (first | refine wpF_val rfl (fun w' hE hD => by have kc : w'.cell? ⟨bc, 2, none⟩ = some (.slice (some ⟨bd, 0, none⟩) 32 32) := Ext.cell hE (HB6.out.cell 2 rfl); unfold Yld; go_simp; exact ⟨Ext.refl _, rfl⟩) ?_ | refine wpF_valg (by rfl) (fun w' hE hD => by have kc : w'.cell? ⟨bc, 2, none⟩ = some (.slice (some ⟨bd, 0, none⟩) 32 32) := Ext.cell hE (HB6.out.cell 2 rfl); unfold Yld; go_simp; exact ⟨Ext.refl _, rfl⟩) ?_)
          (try simp only [Act.put, List.setIfInBounds_toArray, List.set_cons_zero, List.set_cons_succ])
          (first | refine wpF_val rfl (fun w' hE hD => by unfold Yld; go_simp; exact ⟨Ext.refl _, rfl⟩) ?_ | refine wpF_valg (by rfl) (fun w' hE hD => by unfold Yld; go_simp; exact ⟨Ext.refl _, rfl⟩) ?_)
          (try simp only [Act.put, List.setIfInBounds_toArray, List.set_cons_zero, List.set_cons_succ])
          (first | refine wpF_val rfl (fun w' hE hD => by unfold Yld; go_simp; exact ⟨Ext.refl _, rfl⟩) ?_ | refine wpF_valg (by rfl) (fun w' hE hD => by unfold Yld; go_simp; exact ⟨Ext.refl _, rfl⟩) ?_)
          (try simp only [Act.put, List.setIfInBounds_toArray, List.set_cons_zero, List.set_cons_succ])
          (first | refine wpF_val rfl (fun w' hE hD => by unfold Yld; go_simp; exact ⟨Ext.refl _, rfl⟩) ?_ | refine wpF_valg (by rfl) (fun w' hE hD => by unfold Yld; go_simp; exact ⟨Ext.refl _, rfl⟩) ?_)
          (try simp only [Act.put, List.setIfInBounds_toArray, List.set_cons_zero, List.set_cons_succ])
          (first | refine wpF_val rfl (fun w' hE hD => by unfold Yld; go_simp; exact ⟨Ext.refl _, rfl⟩) ?_ | refine wpF_valg (by rfl) (fun w' hE hD => by unfold Yld; go_simp; exact ⟨Ext.refl _, rfl⟩) ?_)
          (try simp only [Act.put, List.setIfInBounds_toArray, List.set_cons_zero, List.set_cons_succ])
          (first | refine wpF_val rfl (fun w' hE hD => by have k2 : w'.cell? ⟨b, off + x * 3 + 2, none⟩ = some (.slice Ad data.length cd) := Ext.cell (HE6.out.trans hE) (HRG.out 2 _ rfl); unfold Yld; go_simp; exact ⟨Ext.refl _, rfl⟩) ?_ | refine wpF_valg (by rfl) (fun w' hE hD => by have k2 : w'.cell? ⟨b, off + x * 3 + 2, none⟩ = some (.slice Ad data.length cd) := Ext.cell (HE6.out.trans hE) (HRG.out 2 _ rfl); unfold Yld; go_simp; exact ⟨Ext.refl _, rfl⟩) ?_)
          (try simp only [Act.put, List.setIfInBounds_toArray, List.set_cons_zero, List.set_cons_succ])
          refine wpF_nil fun w7 hE7 hA => ?_
          simp only [List.drop_succ_cons, List.drop_zero]
          have HB7 := Aside0.mk (HB6.out.ext hE7)
          have HBD7 := Aside0.mk (HBD6.out.ext hE7)
          have HE7 := Aside0.mk (HE6.out.trans hE7)
          have HCD7 := Aside0.mk (Kd.C_below HCD.out.2 HE7.out)
          clear hA hE7 HB6 HBD6 HE6
          refine copy_at rfl (.tmp 51) (.tmp 56) rfl bd data.length cd 32 z32 data Ad rfl rfl z32_len.symm HBD7.out HCD7.out ?_
          intro v8 w8 ys hyl hW hb
          have hys : ys.length = 32 := by rw [hyl, z32_len]
          have HB8 := Aside0.mk ((Chg.of_wrote (S := fun j => j = bd) hW rfl).blk HB7.out (fun e => HBD.out.2 e.symm))
          have HE8 := Aside0.mk ((Chg.of_wrote (S := fun j => j = bd) hW rfl).to_ext HE7.out (fun j hj => by rw [hj]; exact HBD.out.1))
          have HV8 := Aside0.mk (HV.out.ext HE8.out)
          have HNB8 := Aside0.mk (NB.made (B := w2.heap.size) ys 32 hys.symm (by decide) hb (by have := HE.out.size; have := HBD.out.1; omega))
          have HYS := Aside0.mk hys
          clear hyl hW hb hys HB7 HBD7 HE7 HCD7
          have HRC := Aside0.mk (blk_range HB8.out)
          obtain ⟨A1, C1, eV, hC1⟩ := HV8.out.nat HLX.out.1.symm
          subst eV
          obtain ⟨ds, hd1, hd2, hd3⟩ := HV8.out
          have HDS := Aside0.mk (And.intro hd1 (And.intro hd2 hd3))
          have HL1 := Aside0.mk (show (ds.length + 1) * 40 ≤ 140737488355328 from by have := HLX.out.1; have := HLT2.out; omega)
          have HBS := Aside0.mk (show w2.heap.size ≤ w8.heap.size from Nat.le_trans HE.out.size HE8.out.size)
          clear hd1 hd2 hd3 hC1 HV HV8
          go_wp2_with (first | ((with_reducible refine gate_load (ty := 34) rfl ?_); refine load_at rfl 34 _ rfl bc 0 rfl [.bool false, .int .i64 (q : Int), .slice (some ⟨bd, 0, none⟩) 32 32] _ HRC.out Try.underlying34 rfl HI34.out ?_) | (at_builtin; refine Kd.R_append kD (w0 := w8) w2.heap.size rfl (.tmp 58) (.tmp 60) 53 34 (.agg #[.bool false, .int .i64 0, .slice none 0 0]) 40 rfl Try.underlying53 HIN34.out rfl (by decide) (by decide) (.slice A1 x C1) ds (false, (q : Int), (some ⟨bd, 0, none⟩, 32, 32)) [.bool false, .int .i64 (q : Int), .slice (some ⟨bd, 0, none⟩) 32 32] (fun _ => True) (fun _ => False) rfl rfl (dL_M _ _ _ (false, (q : Int), (some ⟨bd, 0, none⟩, 32, 32))) (fun _ hk => hk.elim) (fun _ _ => trivial) HDS.out.1 (Below.refl _ _) HBS.out HL1.out ?_) | fail)
          intro V3 w9 hR hBl hg _
          have hcg := Chg.of_grown hg (S := fun j => (Value.slice A1 x C1).ownBlock = some j) (fun k hk => hk)
          have HV9 := Aside0.mk (show DN w9 w2.heap.size V3 (L ++ [(false, (q : Int), ys)]) from DN.grow HDS.out.2.1 HDS.out.2.2 hcg HDS.out.1.nt hR (⟨rfl, rfl, .inr ⟨rfl, HNB8.out.nt hcg HDS.out.1.nt⟩⟩))
          have HE9 := Aside0.mk (show Ext w2 w9 from Below.trans (HE.out.trans HE8.out) hBl)
          have HLN := Aside0.mk (show (L ++ [(false, (q : Int), ys)]).length = x + 1 ∧ ∀ p ∈ L ++ [(false, (q : Int), ys)], okC 9 p from ⟨by rw [List.length_append, HLX.out.1]; rfl, fun p hp => by
            rcases List.mem_append.1 hp with hp | hp
            · exact HLX.out.2 p hp
            · rw [List.mem_singleton.1 hp]
              exact ⟨by dsimp only; omega, by have := HQ9.out; dsimp only; omega, HYS.out⟩⟩)
          clear hR hBl hg hcg HDS
          go_wp2_with fail
          go_roundw
          case rel => exact ⟨x + 1, _, by go_num, ⟨⟨HLT.out, HLT2.out, HLN.out⟩⟩, HV9, HE9⟩
          case measure => have := HLT2.out; simp only [intOf]; omega
      · have h100 : x = 100 := by omega
        have hd2 : decide ((x : Int) < 100) = false := decide_eq_false (by omega)
        clear hlt hlt2 h100
        obtain ⟨A1, C1, eV, hC1⟩ := HV.out.nat HLX.out.1.symm
        subst eV
        obtain ⟨p, hp, hpx⟩ : ∃ p : Nat, pickT a ((x : Int) + 1) = (p : Int) ∧ p ≤ x := by
          have := pickT_range a ((x : Int) + 1) (by omega)
          exact ⟨(pickT a ((x : Int) + 1)).toNat, by omega, by omega⟩
        have HPX := Aside0.mk hpx
        go_wp2_with fail
        refine (pick_calls w0 a ((x : Int) + 1) p HPA.out.1 HPA.out.2 (by omega) hp.symm).mono ?_
        rintro e w3 ⟨rfl, hE⟩
        have HA3 := Aside0.mk (HA2.out.ext (HE.out.trans hE))
        have HB3 := Aside0.mk (HB2.out.ext (HE.out.trans hE))
        have HD3 := Aside0.mk (HV.out.ext hE)
        have HE3 := Aside0.mk (HE2.out.trans (HE.out.trans hE))
        clear hE hp hpx hC1 HV
        go_wp2_with fail
        go_loopw [12] (fun j wr => ∃ (y : Nat) (Va : Value), j = .int .i64 y ∧ Aside0 (y ≤ x) ∧ Aside0 (AR wr w.heap.size ba 9 Va (L.take y) (if y ≤ p then 0 else p)) ∧ Aside0 (AR wr w.heap.size bb 9 (.slice none 0 0) [] 0) ∧ Aside0 (DN wr w2.heap.size (.slice A1 x C1) L) ∧ Aside0 (Ext w wr)) (fun j _ => x - (intOf j).toNat)
        case atStart => exact ⟨0, _, rfl, ⟨Nat.zero_le _⟩, ⟨by rw [if_pos (Nat.zero_le _)]; exact HA3.out⟩, HB3, HD3, HE3⟩
        case round =>
          clear HA3 HB3 HD3 HE3 HE HA2 HB2
          obtain ⟨y, Va, rfl, HY, HA, HB, HD, HE⟩ := hrel
          have g3 := HY.out
          obtain ⟨w4, hw4⟩ : ∃ w4 : World, w4 = wr := ⟨_, rfl⟩
          subst hw4
          by_cases hyx : y < x
          · have hyxi : (y : Int) < x := by omega
            have HYX := Aside0.mk hyx
            by_cases hyp : y = p
            · subst hyp
              have HS := Aside0.mk (ar_sync HA.out)
              go_wp2_with fail
              refine HS.out.mono ?_
              rintro e w5 ⟨rfl, hA, hC⟩
              have HAP := Aside0.mk (AR.apart HA.out HB.out (Nat.ne_of_lt HNE.out) (fun j _ => nilV j))
              have HA5 := Aside0.mk (show AR w5 w.heap.size ba 9 (.slice none 0 0) (L.take y) y from by
                have hlt : (L.take y).length = y := by rw [List.length_take, HLX.out.1]; omega
                rw [hlt] at hA
                exact hA)
              have HB5 := Aside0.mk (HB.out.chg hC HAP.out)
              have HD5 := Aside0.mk (HD.out.nt hC (HA.out.nt 34 (by decide) (by decide)) (HA.out.nt 5 (by decide) (by decide)))
              have HE5 := Aside0.mk (hC.to_ext HE.out HA.out.bb)
              clear hA hC HAP HS HA HB HD HE
              have HD := HD5
              have HE := HE5
              have HL := Aside0.mk (show y = if y + 1 ≤ y then 0 else y from by rw [if_neg (by omega)])
              have hget : L[y]? = some (L[y]'(by have := HLX.out.1; omega)) := List.getElem?_eq_getElem _
              have HOK := Aside0.mk (HLX.out.2 _ (List.getElem_mem (l := L) (n := y) (by have := HLX.out.1; omega)))
              have HTK := Aside0.mk (take_get L y _ hget)
              obtain ⟨b1, o1, s1, eA, hrg, hcs⟩ := HD.out.at y _ hget
              generalize L[y]'(by have := HLX.out.1; omega) = c1 at HOK HTK hrg hcs hget
              clear hget
              subst eA
              have HRG := Aside0.mk hrg
              have HDO := Aside0.mk (ar_do_c HA5.out (by have := HLX.out.1; rw [List.length_take]; omega) HE.out.size c1 HOK.out s1 hcs)
              have HSI := Aside0.mk (show (Try.prog.info? 34).map (·.size) = some [Value.bool c1.1, .int .i64 c1.2.1, slV s1].length from by kernel_rfl)
              clear hrg hcs
              go_wp2_with (first | ((with_reducible refine gate_load (ty := 34) rfl ?_); refine load_at rfl 34 _ rfl b1 (o1 + y * 3) rfl [.bool c1.1, .int .i64 c1.2.1, slV s1] _ HRG.out Try.underlying34 rfl HSI.out ?_) | fail)
              refine HDO.out.mono ?_
              rintro e w6 ⟨V6, rfl, hA, hC, hO⟩
              have HAP := Aside0.mk (AR.apart HA5.out HB5.out (Nat.ne_of_lt HNE.out) (fun j _ => nilV j))
              have HA6 := Aside0.mk (show AR w6 w.heap.size ba 9 V6 (L.take (y + 1)) (if y + 1 ≤ y then 0 else y) from by rw [HTK.out, ← HL.out]; exact hA)
              have HB6 := Aside0.mk (HB5.out.chg hC HAP.out)
              have HD6 := Aside0.mk (HD.out.nt hC (HA5.out.nt 34 (by decide) (by decide)) (HA5.out.nt 5 (by decide) (by decide)))
              have HE6 := Aside0.mk (hC.to_ext HE.out HA5.out.bb)
              clear hA hC hO HAP HA5 HB5 HD HE HDO
              go_wp2_with fail
              go_roundw
              case rel => exact ⟨y + 1, V6, by go_num, ⟨HYX.out⟩, HA6, HB6, HD6, HE6⟩
              case measure => have := HYX.out; simp only [intOf]; omega
            · have HL := Aside0.mk (show (if y ≤ p then 0 else p) = if y + 1 ≤ p then 0 else p from by
                by_cases h : y ≤ p
                · rw [if_pos h, if_pos (by omega)]
                · rw [if_neg h, if_neg (by omega)])
              have hypi : ((y : Int) == (p : Int)) = false := by simp; omega
              have HA5 := HA
              have HB5 := HB
              have hget : L[y]? = some (L[y]'(by have := HLX.out.1; omega)) := List.getElem?_eq_getElem _
              have HOK := Aside0.mk (HLX.out.2 _ (List.getElem_mem (l := L) (n := y) (by have := HLX.out.1; omega)))
              have HTK := Aside0.mk (take_get L y _ hget)
              obtain ⟨b1, o1, s1, eA, hrg, hcs⟩ := HD.out.at y _ hget
              generalize L[y]'(by have := HLX.out.1; omega) = c1 at HOK HTK hrg hcs hget
              clear hget
              subst eA
              have HRG := Aside0.mk hrg
              have HDO := Aside0.mk (ar_do_c HA5.out (by have := HLX.out.1; rw [List.length_take]; omega) HE.out.size c1 HOK.out s1 hcs)
              have HSI := Aside0.mk (show (Try.prog.info? 34).map (·.size) = some [Value.bool c1.1, .int .i64 c1.2.1, slV s1].length from by kernel_rfl)
              clear hrg hcs
              go_wp2_with (first | ((with_reducible refine gate_load (ty := 34) rfl ?_); refine load_at rfl 34 _ rfl b1 (o1 + y * 3) rfl [.bool c1.1, .int .i64 c1.2.1, slV s1] _ HRG.out Try.underlying34 rfl HSI.out ?_) | fail)
              refine HDO.out.mono ?_
              rintro e w6 ⟨V6, rfl, hA, hC, hO⟩
              have HAP := Aside0.mk (AR.apart HA5.out HB5.out (Nat.ne_of_lt HNE.out) (fun j _ => nilV j))
              have HA6 := Aside0.mk (show AR w6 w.heap.size ba 9 V6 (L.take (y + 1)) (if y + 1 ≤ p then 0 else p) from by rw [HTK.out, ← HL.out]; exact hA)
              have HB6 := Aside0.mk (HB5.out.chg hC HAP.out)
              have HD6 := Aside0.mk (HD.out.nt hC (HA5.out.nt 34 (by decide) (by decide)) (HA5.out.nt 5 (by decide) (by decide)))
              have HE6 := Aside0.mk (hC.to_ext HE.out HA5.out.bb)
              clear hA hC hO HAP HA5 HB5 HD HE HDO
              go_wp2_with fail
              go_roundw
              case rel => exact ⟨y + 1, V6, by go_num, ⟨HYX.out⟩, HA6, HB6, HD6, HE6⟩
              case measure => have := HYX.out; simp only [intOf]; omega
          · obtain rfl : y = x := by omega
            have HLL := Aside0.mk (show L.take y = L from List.take_of_length_le (Nat.le_of_eq HLX.out.1))
            by_cases hyp : y = p
            · have hypi : ((p : Int) == (y : Int)) = true := by simp; omega
              have HS := Aside0.mk (ar_sync HA.out)
              have HYP := Aside0.mk hyp
              clear hyp
              go_wp2_with fail
              refine HS.out.mono ?_
              rintro e w5 ⟨rfl, hA, hC⟩
              have HAP := Aside0.mk (AR.apart HA.out HB.out (Nat.ne_of_lt HNE.out) (fun j _ => nilV j))
              have HA5 := Aside0.mk (show AR w5 w.heap.size ba 9 (.slice none 0 0) L p from by
                have hlt : L.length = p := by rw [HLX.out.1]; exact HYP.out
                rw [HLL.out, hlt] at hA
                exact hA)
              have HB5 := Aside0.mk (HB.out.chg hC HAP.out)
              have HD5 := Aside0.mk (HD.out.nt hC (HA.out.nt 34 (by decide) (by decide)) (HA.out.nt 5 (by decide) (by decide)))
              have HE5 := Aside0.mk (hC.to_ext HE.out HA.out.bb)
              clear hA hC HAP HS HA HB HD HE
              obtain ⟨Vo, hVo⟩ : ∃ z : Value, z = .slice none 0 0 := ⟨_, rfl⟩
              rw [← hVo] at HA5
              clear hVo
              obtain ⟨r, hrr, hrx⟩ : ∃ r : Nat, pickT n ((y : Int) - (p : Int) + 1) = (r : Int) ∧ p + r ≤ y := by
                have h1 := HPX.out
                have := pickT_range n ((y : Int) - (p : Int) + 1) (by omega)
                exact ⟨(pickT n ((y : Int) - (p : Int) + 1)).toNat, by omega, by omega⟩
              have HRX := Aside0.mk hrx
              have hp1 := HPX.out
              clear hrx
              go_wp2_with fail
              refine (pick_calls w5 n ((y : Int) - (p : Int) + 1) r HPN.out.1 HPN.out.2 (by omega) hrr.symm).mono ?_
              rintro e w7 ⟨rfl, hE⟩
              have HA7 := Aside0.mk (HA5.out.ext hE)
              have HB7 := Aside0.mk (HB5.out.ext hE)
              have HD7 := Aside0.mk (HD5.out.ext hE)
              have HE7 := Aside0.mk (HE5.out.trans hE)
              have HVL := Aside0.mk (show ∀ j, Vo.ownBlock = some j → j < w7.heap.size from fun j hj => HA7.out.lt j (.inr hj))
              clear hE hrr HA5 HB5 HD5 HE5
              have hr1 := HRX.out
              go_wp2_with fail
              go_loopw [13] (fun j wr => ∃ (z : Nat) (U : Value), j = .int .i64 z ∧ Aside0 (z ≤ p + r) ∧ Aside0 (AR wr w.heap.size ba 9 Vo L p) ∧ Aside0 (AR wr w.heap.size bb 9 U (L.take z) 0) ∧ Aside0 (∀ j, U.ownBlock = some j → w7.heap.size ≤ j) ∧ Aside0 (DN wr w2.heap.size (.slice A1 y C1) L) ∧ Aside0 (Ext w wr) ∧ Aside0 (w7.heap.size ≤ wr.heap.size)) (fun j _ => p + r - (intOf j).toNat)
              case atStart => exact ⟨0, _, rfl, ⟨Nat.zero_le _⟩, HA7, HB7, ⟨fun j hj => absurd hj (nilV j)⟩, HD7, HE7, ⟨Nat.le_refl _⟩⟩
              case round =>
                clear HA7 HB7 HD7 HE7
                obtain ⟨z, U, rfl, HZ, HA, HB, HU, HD, HE, HW⟩ := hrel
                have g4 := HZ.out
                obtain ⟨w8, hw8⟩ : ∃ w8 : World, w8 = wr := ⟨_, rfl⟩
                subst hw8
                have HAP := Aside0.mk (AR.apart HB.out HA.out (Nat.ne_of_gt HNE.out) (fun j hj hj2 => by
                  have h1 := HU.out j hj
                  have h2 := HVL.out j hj2
                  omega))
                by_cases hzr : z < p + r
                · have hzri : (z : Int) < (p : Int) + (r : Int) := by omega
                  have HZR := Aside0.mk hzr
                  have hget : L[z]? = some (L[z]'(by have := HLX.out.1; have := HRX.out; omega)) := List.getElem?_eq_getElem _
                  have HOK := Aside0.mk (HLX.out.2 _ (List.getElem_mem (l := L) (n := z) (by have := HLX.out.1; have := HRX.out; omega)))
                  have HTK := Aside0.mk (take_get L z _ hget)
                  obtain ⟨b1, o1, s1, eA, hrg, hcs⟩ := HD.out.at z _ hget
                  generalize L[z]'(by have := HLX.out.1; have := HRX.out; omega) = c1 at HOK HTK hrg hcs hget
                  clear hget
                  subst eA
                  have HRG := Aside0.mk hrg
                  have HDO := Aside0.mk (ar_do_c HB.out (by have := HLX.out.1; rw [List.length_take]; have := HRX.out; omega) HE.out.size c1 HOK.out s1 hcs)
                  have HSI := Aside0.mk (show (Try.prog.info? 34).map (·.size) = some [Value.bool c1.1, .int .i64 c1.2.1, slV s1].length from by kernel_rfl)
                  clear hrg hcs
                  go_wp2_with (first | ((with_reducible refine gate_load (ty := 34) rfl ?_); refine load_at rfl 34 _ rfl b1 (o1 + z * 3) rfl [.bool c1.1, .int .i64 c1.2.1, slV s1] _ HRG.out Try.underlying34 rfl HSI.out ?_) | fail)
                  refine HDO.out.mono ?_
                  rintro e w9 ⟨U9, rfl, hA, hC, hO⟩
                  have HB9 := Aside0.mk (show AR w9 w.heap.size bb 9 U9 (L.take (z + 1)) 0 from by rw [HTK.out]; exact hA)
                  have HA9 := Aside0.mk (HA.out.chg hC HAP.out)
                  have HD9 := Aside0.mk (HD.out.nt hC (HB.out.nt 34 (by decide) (by decide)) (HB.out.nt 5 (by decide) (by decide)))
                  have HE9 := Aside0.mk (hC.to_ext HE.out HB.out.bb)
                  have HU9 := Aside0.mk (show ∀ j, U9.ownBlock = some j → w7.heap.size ≤ j from fun j hj => by
                    rcases hO with h | ⟨b, hb, hn⟩
                    · exact HU.out j (h ▸ hj)
                    · rw [hb] at hj
                      injection hj with hj
                      have := HW.out
                      omega)
                  have HW9 := Aside0.mk (Nat.le_trans HW.out hC.size)
                  clear hA hC hO HAP HA HB HD HE HU HW HDO
                  go_wp2_with fail
                  go_roundw
                  case rel => exact ⟨z + 1, U9, by go_num, ⟨HZR.out⟩, HA9, HB9, HU9, HD9, HE9, HW9⟩
                  case measure => have := HZR.out; simp only [intOf]; omega
                · obtain rfl : z = p + r := by omega
                  have HLP := Aside0.mk (show p + r ≤ L.length from by rw [HLX.out.1]; exact HRX.out)
                  have HAP2 := Aside0.mk (AR.apart HA.out HB.out (Nat.ne_of_lt HNE.out) (fun j hj hj2 => by
                    have h1 := HU.out j hj2
                    have h2 := HVL.out j hj
                    omega))
                  clear HD HU HW hzr
                  go_wp2_with fail
                  have HE8 := HE
                  refine (ar_rows HB.out).mono ?_
                  rintro e w9 ⟨W9, rfl, hN, hE⟩
                  obtain ⟨AW, CW, eW, hCW, hCC⟩ := hN.C (n := 9) (rowsOf_len _ _).symm
                  subst eW
                  have HA9 := Aside0.mk (HA.out.ext hE)
                  have HB9 := Aside0.mk (HB.out.ext hE)
                  have HE9 := Aside0.mk (HE8.out.trans hE)
                  have HMT := Aside0.mk (ar_match HA9.out AW 9 CW _ (rowsOf_len _ _).symm hCC hCW)
                  clear hN hE hCW hCC HA HB HE HE8
                  go_wp2_with fail
                  refine HMT.out.mono ?_
                  rintro e w10 ⟨k, ok, rfl, hQ, hE⟩
                  obtain ⟨rfl, hkr⟩ := aq_same HLP.out hQ
                  have HA10 := Aside0.mk (HA9.out.ext hE)
                  have HB10 := Aside0.mk (HB9.out.ext hE)
                  have HE10 := Aside0.mk (HE9.out.trans hE)
                  have HOP := Aside0.mk (show Calls Try.prog 13 #[.pointer (some ⟨ba, 0, none⟩)] w10 fun e w' => e = .returned (.int .i64 ((y : Int) - (p : Int))) ∧ w10 = w' from by
                    have h := ar_open HA10.out
                    have e1 : ((L.length - p : Nat) : Int) = (y : Int) - (p : Int) := by
                      rw [HLX.out.1]
                      have := HPX.out
                      omega
                    rw [e1] at h
                    exact h)
                  have hkd : decide ((r : Int) < (k : Int)) = false := decide_eq_false (by omega)
                  have hkl : (k : Int) ≤ (r : Int) := by omega
                  clear hE hQ hkr HMT HA9 HB9 HE9
                  go_wp2_with fail
                  refine HOP.out.mono ?_
                  rintro e _ ⟨rfl, rfl⟩
                  go_wp2_with fail
                  refine (ar_fall HA10.out r (by have := HLP.out; omega)).mono ?_
                  rintro e w11 ⟨rfl, hA, hC⟩
                  have HA11 := Aside0.mk hA
                  have HB11 := Aside0.mk (HB10.out.chg hC HAP2.out)
                  have HE11 := Aside0.mk (hC.to_ext HE10.out HA10.out.bb)
                  clear hA hC hkd hkl HOP HA10 HB10 HE10
                  go_wp2_with fail
                  refine (ar_rows HA11.out).mono ?_
                  rintro e w12 ⟨W12, rfl, hN, hE⟩
                  obtain ⟨AX, CX, eX, hCX, hCC⟩ := hN.C (n := 9) (rowsOf_len _ _).symm
                  subst eX
                  have HX12 := Aside0.mk (And.intro hCX hCC)
                  have HA12 := Aside0.mk (HA11.out.ext hE)
                  have HB12 := Aside0.mk (HB11.out.ext hE)
                  have HE12 := Aside0.mk (HE11.out.trans hE)
                  clear hN hE hCX hCC HA11 HB11 HE11
                  go_wp2_with fail
                  refine (ar_rows HB12.out).mono ?_
                  rintro e w13 ⟨W13, rfl, hN, hE⟩
                  obtain ⟨AY, CY, eY, hCY, hCC⟩ := hN.C (n := 9) (rowsOf_len _ _).symm
                  subst eY
                  have HA13 := Aside0.mk (HA12.out.ext hE)
                  have HB13 := Aside0.mk (HB12.out.ext hE)
                  have HE13 := Aside0.mk (HE12.out.trans hE)
                  have HSR := Aside0.mk (sameR_at w13 AX AY CX CY _ _ true 32 (by decide) (by rw [rowsOf_len]; decide) (rows_len (by decide) HA13.out.len32) (rowsOf_len _ _).symm (rowsOf_len _ _).symm (by simp) (Kd.C_below HX12.out.2 hE) HX12.out.1 hCC hCY)
                  clear hN hE hCY hCC HA12 HB12 HE12 HX12
                  go_wp2_with fail
                  refine HSR.out.mono ?_
                  rintro e w14 ⟨rfl, hE⟩
                  obtain ⟨cm, hcm⟩ : ∃ z, z = cntM (aftM zM (L.take (p + r))) 64 := ⟨_, rfl⟩
                  have HMA := Aside0.mk (ar_mapped (HA13.out.ext hE))
                  have HMB := Aside0.mk (ar_mapped (HB13.out.ext hE))
                  rw [← hcm] at HMA HMB
                  have HO0 := Aside0.mk (show Calls Try.prog 13 #[.pointer (some ⟨ba, 0, none⟩)] w14 fun e w' => e = .returned (.int .i64 0) ∧ w14 = w' from by
                    have h := ar_open (HA13.out.ext hE)
                    have e1 : (((L.take (p + r)).length - (p + r) : Nat) : Int) = 0 := by
                      rw [List.length_take]
                      omega
                    rw [e1] at h
                    exact h)
                  have HA14 := Aside0.mk (HA13.out.ext hE)
                  have HB14 := Aside0.mk (HB13.out.ext hE)
                  have HE14 := Aside0.mk (HE13.out.trans hE)
                  clear hE hcm HSR HA13 HB13 HE13
                  go_wp2_with fail
                  refine HMA.out.mono ?_
                  rintro e _ ⟨rfl, rfl⟩
                  go_wp2_with fail
                  refine HMB.out.mono ?_
                  rintro e _ ⟨rfl, rfl⟩
                  go_wp2_with fail
                  refine HO0.out.mono ?_
                  rintro e _ ⟨rfl, rfl⟩
                  clear HMA HMB HO0
                  go_wp2_with fail
                  go_loopw [16] (fun j wr => ∃ v : Nat, j = .int .i64 v ∧ Aside0 (v ≤ 9) ∧ Aside0 (AR wr w.heap.size ba 9 (.slice none 0 0) (L.take (p + r)) (p + r)) ∧ Aside0 (AR wr w.heap.size bb 9 U (L.take (p + r)) 0) ∧ Aside0 (Ext w wr)) (fun j _ => 9 - (intOf j).toNat)
                  case atStart => exact ⟨0, rfl, ⟨by decide⟩, HA14, HB14, HE14⟩
                  case round =>
                    clear HA14 HB14 HE14
                    obtain ⟨v, rfl, HV9, HA, HB, HE⟩ := hrel
                    have g5 := HV9.out
                    obtain ⟨w15, hw15⟩ : ∃ w15 : World, w15 = wr := ⟨_, rfl⟩
                    subst hw15
                    by_cases hv9 : v < 9
                    · have hv9i : (v : Int) < 9 := by omega
                      have HVN := Aside0.mk hv9
                      obtain ⟨mz, hmz⟩ : ∃ z, z = aftM zM (L.take (p + r)) v := ⟨_, rfl⟩
                      obtain ⟨rz, hrz⟩ : ∃ z, z = aftR zR (L.take (p + r)) v := ⟨_, rfl⟩
                      have hrl : rz.length = 32 := by rw [hrz]; exact HA.out.len32 v (by omega)
                      have HR1 := Aside0.mk (ar_read HA.out v hv9)
                      have HR2 := Aside0.mk (fun (W : World) (h : Ext w15 W) => ar_read (HB.out.ext h) v hv9)
                      rw [← hmz, ← hrz] at HR1 HR2
                      have HRL := Aside0.mk hrl
                      clear hmz hrz hrl hv9
                      go_wp2_with fail
                      refine HR1.out.mono ?_
                      rintro e w16 ⟨U1, rfl, hN, hE⟩
                      obtain ⟨AX1, CX1, eX, hCX, hCC⟩ := NB.nat (n := 32) hN HRL.out.symm
                      subst eX
                      have HX1 := Aside0.mk (And.intro hCX hCC)
                      have HE16 := Aside0.mk hE
                      clear hN hE hCX hCC HR1
                      go_wp2_with fail
                      refine (HR2.out w16 HE16.out).mono ?_
                      rintro e w17 ⟨U2, rfl, hN, hE⟩
                      obtain ⟨AX2, CX2, eX, hCX, hCC⟩ := NB.nat (n := 32) hN HRL.out.symm
                      subst eX
                      have HSB := Aside0.mk (same_at w17 AX1 AX2 CX1 CX2 rz rz true HRL.out.symm HRL.out.symm (by simp) (Kd.C_below HX1.out.2 hE) HX1.out.1 hCC hCX (by rw [HRL.out]; decide))
                      have HE17 := Aside0.mk (HE16.out.trans hE)
                      clear hN hE hCX hCC HX1 HE16 HR2
                      go_wp2_with fail
                      refine HSB.out.mono ?_
                      rintro e w18 ⟨rfl, hE⟩
                      have HA18 := Aside0.mk (HA.out.ext (HE17.out.trans hE))
                      have HB18 := Aside0.mk (HB.out.ext (HE17.out.trans hE))
                      have HE18 := Aside0.mk (HE.out.trans (HE17.out.trans hE))
                      clear hE HSB HE17 HA HB HE
                      go_wp2_with fail
                      go_roundw
                      case rel => exact ⟨v + 1, by go_num, ⟨HVN.out⟩, HA18, HB18, HE18⟩
                      case measure => have := HVN.out; simp only [intOf]; omega
                    · obtain rfl : v = 9 := by omega
                      clear HA HB hv9
                      go_wp2_with fail
                      refine (known_calls w15).mono ?_
                      rintro e w16 ⟨rfl, hE⟩
                      have HE16 := Aside0.mk (HE.out.trans hE)
                      clear hE HE
                      go_wp2_with fail
                      go_ret
                      exact ⟨rfl, HE16.out⟩
            · have hypi : ((p : Int) == (y : Int)) = false := by simp; omega
              have HA5 := Aside0.mk (show AR w4 w.heap.size ba 9 Va L p from by
                have h := HA.out
                rw [HLL.out, if_neg (by have := HPX.out; omega)] at h
                exact h)
              have HB5 := HB
              have HD5 := HD
              have HE5 := HE
              clear HA HB HD HE
              obtain ⟨Vo, hVo⟩ : ∃ z : Value, z = Va := ⟨_, rfl⟩
              rw [← hVo] at HA5
              clear hVo
              obtain ⟨r, hrr, hrx⟩ : ∃ r : Nat, pickT n ((y : Int) - (p : Int) + 1) = (r : Int) ∧ p + r ≤ y := by
                have h1 := HPX.out
                have := pickT_range n ((y : Int) - (p : Int) + 1) (by omega)
                exact ⟨(pickT n ((y : Int) - (p : Int) + 1)).toNat, by omega, by omega⟩
              have HRX := Aside0.mk hrx
              have hp1 := HPX.out
              clear hrx
              go_wp2_with fail
              refine (pick_calls w4 n ((y : Int) - (p : Int) + 1) r HPN.out.1 HPN.out.2 (by omega) hrr.symm).mono ?_
              rintro e w7 ⟨rfl, hE⟩
              have HA7 := Aside0.mk (HA5.out.ext hE)
              have HB7 := Aside0.mk (HB5.out.ext hE)
              have HD7 := Aside0.mk (HD5.out.ext hE)
              have HE7 := Aside0.mk (HE5.out.trans hE)
              have HVL := Aside0.mk (show ∀ j, Vo.ownBlock = some j → j < w7.heap.size from fun j hj => HA7.out.lt j (.inr hj))
              clear hE hrr HA5 HB5 HD5 HE5
              have hr1 := HRX.out
              go_wp2_with fail
              go_loopw [13] (fun j wr => ∃ (z : Nat) (U : Value), j = .int .i64 z ∧ Aside0 (z ≤ p + r) ∧ Aside0 (AR wr w.heap.size ba 9 Vo L p) ∧ Aside0 (AR wr w.heap.size bb 9 U (L.take z) 0) ∧ Aside0 (∀ j, U.ownBlock = some j → w7.heap.size ≤ j) ∧ Aside0 (DN wr w2.heap.size (.slice A1 y C1) L) ∧ Aside0 (Ext w wr) ∧ Aside0 (w7.heap.size ≤ wr.heap.size)) (fun j _ => p + r - (intOf j).toNat)
              case atStart => exact ⟨0, _, rfl, ⟨Nat.zero_le _⟩, HA7, HB7, ⟨fun j hj => absurd hj (nilV j)⟩, HD7, HE7, ⟨Nat.le_refl _⟩⟩
              case round =>
                clear HA7 HB7 HD7 HE7
                obtain ⟨z, U, rfl, HZ, HA, HB, HU, HD, HE, HW⟩ := hrel
                have g4 := HZ.out
                obtain ⟨w8, hw8⟩ : ∃ w8 : World, w8 = wr := ⟨_, rfl⟩
                subst hw8
                have HAP := Aside0.mk (AR.apart HB.out HA.out (Nat.ne_of_gt HNE.out) (fun j hj hj2 => by
                  have h1 := HU.out j hj
                  have h2 := HVL.out j hj2
                  omega))
                by_cases hzr : z < p + r
                · have hzri : (z : Int) < (p : Int) + (r : Int) := by omega
                  have HZR := Aside0.mk hzr
                  have hget : L[z]? = some (L[z]'(by have := HLX.out.1; have := HRX.out; omega)) := List.getElem?_eq_getElem _
                  have HOK := Aside0.mk (HLX.out.2 _ (List.getElem_mem (l := L) (n := z) (by have := HLX.out.1; have := HRX.out; omega)))
                  have HTK := Aside0.mk (take_get L z _ hget)
                  obtain ⟨b1, o1, s1, eA, hrg, hcs⟩ := HD.out.at z _ hget
                  generalize L[z]'(by have := HLX.out.1; have := HRX.out; omega) = c1 at HOK HTK hrg hcs hget
                  clear hget
                  subst eA
                  have HRG := Aside0.mk hrg
                  have HDO := Aside0.mk (ar_do_c HB.out (by have := HLX.out.1; rw [List.length_take]; have := HRX.out; omega) HE.out.size c1 HOK.out s1 hcs)
                  have HSI := Aside0.mk (show (Try.prog.info? 34).map (·.size) = some [Value.bool c1.1, .int .i64 c1.2.1, slV s1].length from by kernel_rfl)
                  clear hrg hcs
                  go_wp2_with (first | ((with_reducible refine gate_load (ty := 34) rfl ?_); refine load_at rfl 34 _ rfl b1 (o1 + z * 3) rfl [.bool c1.1, .int .i64 c1.2.1, slV s1] _ HRG.out Try.underlying34 rfl HSI.out ?_) | fail)
                  refine HDO.out.mono ?_
                  rintro e w9 ⟨U9, rfl, hA, hC, hO⟩
                  have HB9 := Aside0.mk (show AR w9 w.heap.size bb 9 U9 (L.take (z + 1)) 0 from by rw [HTK.out]; exact hA)
                  have HA9 := Aside0.mk (HA.out.chg hC HAP.out)
                  have HD9 := Aside0.mk (HD.out.nt hC (HB.out.nt 34 (by decide) (by decide)) (HB.out.nt 5 (by decide) (by decide)))
                  have HE9 := Aside0.mk (hC.to_ext HE.out HB.out.bb)
                  have HU9 := Aside0.mk (show ∀ j, U9.ownBlock = some j → w7.heap.size ≤ j from fun j hj => by
                    rcases hO with h | ⟨b, hb, hn⟩
                    · exact HU.out j (h ▸ hj)
                    · rw [hb] at hj
                      injection hj with hj
                      have := HW.out
                      omega)
                  have HW9 := Aside0.mk (Nat.le_trans HW.out hC.size)
                  clear hA hC hO HAP HA HB HD HE HU HW HDO
                  go_wp2_with fail
                  go_roundw
                  case rel => exact ⟨z + 1, U9, by go_num, ⟨HZR.out⟩, HA9, HB9, HU9, HD9, HE9, HW9⟩
                  case measure => have := HZR.out; simp only [intOf]; omega
                · obtain rfl : z = p + r := by omega
                  have HLP := Aside0.mk (show p + r ≤ L.length from by rw [HLX.out.1]; exact HRX.out)
                  have HAP2 := Aside0.mk (AR.apart HA.out HB.out (Nat.ne_of_lt HNE.out) (fun j hj hj2 => by
                    have h1 := HU.out j hj2
                    have h2 := HVL.out j hj
                    omega))
                  clear HD HU HW hzr
                  go_wp2_with fail
                  have HE8 := HE
                  refine (ar_rows HB.out).mono ?_
                  rintro e w9 ⟨W9, rfl, hN, hE⟩
                  obtain ⟨AW, CW, eW, hCW, hCC⟩ := hN.C (n := 9) (rowsOf_len _ _).symm
                  subst eW
                  have HA9 := Aside0.mk (HA.out.ext hE)
                  have HB9 := Aside0.mk (HB.out.ext hE)
                  have HE9 := Aside0.mk (HE8.out.trans hE)
                  have HMT := Aside0.mk (ar_match HA9.out AW 9 CW _ (rowsOf_len _ _).symm hCC hCW)
                  clear hN hE hCW hCC HA HB HE HE8
                  go_wp2_with fail
                  refine HMT.out.mono ?_
                  rintro e w10 ⟨k, ok, rfl, hQ, hE⟩
                  obtain ⟨rfl, hkr⟩ := aq_same HLP.out hQ
                  have HA10 := Aside0.mk (HA9.out.ext hE)
                  have HB10 := Aside0.mk (HB9.out.ext hE)
                  have HE10 := Aside0.mk (HE9.out.trans hE)
                  have HOP := Aside0.mk (show Calls Try.prog 13 #[.pointer (some ⟨ba, 0, none⟩)] w10 fun e w' => e = .returned (.int .i64 ((y : Int) - (p : Int))) ∧ w10 = w' from by
                    have h := ar_open HA10.out
                    have e1 : ((L.length - p : Nat) : Int) = (y : Int) - (p : Int) := by
                      rw [HLX.out.1]
                      have := HPX.out
                      omega
                    rw [e1] at h
                    exact h)
                  have hkd : decide ((r : Int) < (k : Int)) = false := decide_eq_false (by omega)
                  have hkl : (k : Int) ≤ (r : Int) := by omega
                  clear hE hQ hkr HMT HA9 HB9 HE9
                  go_wp2_with fail
                  refine HOP.out.mono ?_
                  rintro e _ ⟨rfl, rfl⟩
                  go_wp2_with fail
                  refine (ar_fall HA10.out r (by have := HLP.out; omega)).mono ?_
                  rintro e w11 ⟨rfl, hA, hC⟩
                  have HA11 := Aside0.mk hA
                  have HB11 := Aside0.mk (HB10.out.chg hC HAP2.out)
                  have HE11 := Aside0.mk (hC.to_ext HE10.out HA10.out.bb)
                  clear hA hC hkd hkl HOP HA10 HB10 HE10
                  go_wp2_with fail
                  refine (ar_rows HA11.out).mono ?_
                  rintro e w12 ⟨W12, rfl, hN, hE⟩
                  obtain ⟨AX, CX, eX, hCX, hCC⟩ := hN.C (n := 9) (rowsOf_len _ _).symm
                  subst eX
                  have HX12 := Aside0.mk (And.intro hCX hCC)
                  have HA12 := Aside0.mk (HA11.out.ext hE)
                  have HB12 := Aside0.mk (HB11.out.ext hE)
                  have HE12 := Aside0.mk (HE11.out.trans hE)
                  clear hN hE hCX hCC HA11 HB11 HE11
                  go_wp2_with fail
                  refine (ar_rows HB12.out).mono ?_
                  rintro e w13 ⟨W13, rfl, hN, hE⟩
                  obtain ⟨AY, CY, eY, hCY, hCC⟩ := hN.C (n := 9) (rowsOf_len _ _).symm
                  subst eY
                  have HA13 := Aside0.mk (HA12.out.ext hE)
                  have HB13 := Aside0.mk (HB12.out.ext hE)
                  have HE13 := Aside0.mk (HE12.out.trans hE)
                  have HSR := Aside0.mk (sameR_at w13 AX AY CX CY _ _ true 32 (by decide) (by rw [rowsOf_len]; decide) (rows_len (by decide) HA13.out.len32) (rowsOf_len _ _).symm (rowsOf_len _ _).symm (by simp) (Kd.C_below HX12.out.2 hE) HX12.out.1 hCC hCY)
                  clear hN hE hCY hCC HA12 HB12 HE12 HX12
                  go_wp2_with fail
                  refine HSR.out.mono ?_
                  rintro e w14 ⟨rfl, hE⟩
                  obtain ⟨cm, hcm⟩ : ∃ z, z = cntM (aftM zM (L.take (p + r))) 64 := ⟨_, rfl⟩
                  have HMA := Aside0.mk (ar_mapped (HA13.out.ext hE))
                  have HMB := Aside0.mk (ar_mapped (HB13.out.ext hE))
                  rw [← hcm] at HMA HMB
                  have HO0 := Aside0.mk (show Calls Try.prog 13 #[.pointer (some ⟨ba, 0, none⟩)] w14 fun e w' => e = .returned (.int .i64 0) ∧ w14 = w' from by
                    have h := ar_open (HA13.out.ext hE)
                    have e1 : (((L.take (p + r)).length - (p + r) : Nat) : Int) = 0 := by
                      rw [List.length_take]
                      omega
                    rw [e1] at h
                    exact h)
                  have HA14 := Aside0.mk (HA13.out.ext hE)
                  have HB14 := Aside0.mk (HB13.out.ext hE)
                  have HE14 := Aside0.mk (HE13.out.trans hE)
                  clear hE hcm HSR HA13 HB13 HE13
                  go_wp2_with fail
                  refine HMA.out.mono ?_
                  rintro e _ ⟨rfl, rfl⟩
                  go_wp2_with fail
                  refine HMB.out.mono ?_
                  rintro e _ ⟨rfl, rfl⟩
                  go_wp2_with fail
                  refine HO0.out.mono ?_
                  rintro e _ ⟨rfl, rfl⟩
                  clear HMA HMB HO0
                  go_wp2_with fail
                  go_loopw [16] (fun j wr => ∃ v : Nat, j = .int .i64 v ∧ Aside0 (v ≤ 9) ∧ Aside0 (AR wr w.heap.size ba 9 (.slice none 0 0) (L.take (p + r)) (p + r)) ∧ Aside0 (AR wr w.heap.size bb 9 U (L.take (p + r)) 0) ∧ Aside0 (Ext w wr)) (fun j _ => 9 - (intOf j).toNat)
                  case atStart => exact ⟨0, rfl, ⟨by decide⟩, HA14, HB14, HE14⟩
                  case round =>
                    clear HA14 HB14 HE14
                    obtain ⟨v, rfl, HV9, HA, HB, HE⟩ := hrel
                    have g5 := HV9.out
                    obtain ⟨w15, hw15⟩ : ∃ w15 : World, w15 = wr := ⟨_, rfl⟩
                    subst hw15
                    by_cases hv9 : v < 9
                    · have hv9i : (v : Int) < 9 := by omega
                      have HVN := Aside0.mk hv9
                      obtain ⟨mz, hmz⟩ : ∃ z, z = aftM zM (L.take (p + r)) v := ⟨_, rfl⟩
                      obtain ⟨rz, hrz⟩ : ∃ z, z = aftR zR (L.take (p + r)) v := ⟨_, rfl⟩
                      have hrl : rz.length = 32 := by rw [hrz]; exact HA.out.len32 v (by omega)
                      have HR1 := Aside0.mk (ar_read HA.out v hv9)
                      have HR2 := Aside0.mk (fun (W : World) (h : Ext w15 W) => ar_read (HB.out.ext h) v hv9)
                      rw [← hmz, ← hrz] at HR1 HR2
                      have HRL := Aside0.mk hrl
                      clear hmz hrz hrl hv9
                      go_wp2_with fail
                      refine HR1.out.mono ?_
                      rintro e w16 ⟨U1, rfl, hN, hE⟩
                      obtain ⟨AX1, CX1, eX, hCX, hCC⟩ := NB.nat (n := 32) hN HRL.out.symm
                      subst eX
                      have HX1 := Aside0.mk (And.intro hCX hCC)
                      have HE16 := Aside0.mk hE
                      clear hN hE hCX hCC HR1
                      go_wp2_with fail
                      refine (HR2.out w16 HE16.out).mono ?_
                      rintro e w17 ⟨U2, rfl, hN, hE⟩
                      obtain ⟨AX2, CX2, eX, hCX, hCC⟩ := NB.nat (n := 32) hN HRL.out.symm
                      subst eX
                      have HSB := Aside0.mk (same_at w17 AX1 AX2 CX1 CX2 rz rz true HRL.out.symm HRL.out.symm (by simp) (Kd.C_below HX1.out.2 hE) HX1.out.1 hCC hCX (by rw [HRL.out]; decide))
                      have HE17 := Aside0.mk (HE16.out.trans hE)
                      clear hN hE hCX hCC HX1 HE16 HR2
                      go_wp2_with fail
                      refine HSB.out.mono ?_
                      rintro e w18 ⟨rfl, hE⟩
                      have HA18 := Aside0.mk (HA.out.ext (HE17.out.trans hE))
                      have HB18 := Aside0.mk (HB.out.ext (HE17.out.trans hE))
                      have HE18 := Aside0.mk (HE.out.trans (HE17.out.trans hE))
                      clear hE HSB HE17 HA HB HE
                      go_wp2_with fail
                      go_roundw
                      case rel => exact ⟨v + 1, by go_num, ⟨HVN.out⟩, HA18, HB18, HE18⟩
                      case measure => have := HVN.out; simp only [intOf]; omega
                    · obtain rfl : v = 9 := by omega
                      clear HA HB hv9
                      go_wp2_with fail
                      refine (known_calls w15).mono ?_
                      rintro e w16 ⟨rfl, hE⟩
                      have HE16 := Aside0.mk (HE.out.trans hE)
                      clear hE HE
                      go_wp2_with fail
                      go_ret
                      exact ⟨rfl, HE16.out⟩
    · obtain rfl : x = m := by omega
      clear hlt
      obtain ⟨A1, C1, eV, hC1⟩ := HV.out.nat HLX.out.1.symm
      subst eV
      obtain ⟨p, hp, hpx⟩ : ∃ p : Nat, pickT a ((x : Int) + 1) = (p : Int) ∧ p ≤ x := by
        have := pickT_range a ((x : Int) + 1) (by omega)
        exact ⟨(pickT a ((x : Int) + 1)).toNat, by omega, by omega⟩
      have HPX := Aside0.mk hpx
      go_wp2_with fail
      refine (pick_calls w0 a ((x : Int) + 1) p HPA.out.1 HPA.out.2 (by omega) hp.symm).mono ?_
      rintro e w3 ⟨rfl, hE⟩
      have HA3 := Aside0.mk (HA2.out.ext (HE.out.trans hE))
      have HB3 := Aside0.mk (HB2.out.ext (HE.out.trans hE))
      have HD3 := Aside0.mk (HV.out.ext hE)
      have HE3 := Aside0.mk (HE2.out.trans (HE.out.trans hE))
      clear hE hp hpx hC1 HV
      go_wp2_with fail
      go_loopw [12] (fun j wr => ∃ (y : Nat) (Va : Value), j = .int .i64 y ∧ Aside0 (y ≤ x) ∧ Aside0 (AR wr w.heap.size ba 9 Va (L.take y) (if y ≤ p then 0 else p)) ∧ Aside0 (AR wr w.heap.size bb 9 (.slice none 0 0) [] 0) ∧ Aside0 (DN wr w2.heap.size (.slice A1 x C1) L) ∧ Aside0 (Ext w wr)) (fun j _ => x - (intOf j).toNat)
      case atStart => exact ⟨0, _, rfl, ⟨Nat.zero_le _⟩, ⟨by rw [if_pos (Nat.zero_le _)]; exact HA3.out⟩, HB3, HD3, HE3⟩
      case round =>
        clear HA3 HB3 HD3 HE3 HE HA2 HB2
        obtain ⟨y, Va, rfl, HY, HA, HB, HD, HE⟩ := hrel
        have g3 := HY.out
        obtain ⟨w4, hw4⟩ : ∃ w4 : World, w4 = wr := ⟨_, rfl⟩
        subst hw4
        by_cases hyx : y < x
        · have hyxi : (y : Int) < x := by omega
          have HYX := Aside0.mk hyx
          by_cases hyp : y = p
          · subst hyp
            have HS := Aside0.mk (ar_sync HA.out)
            go_wp2_with fail
            refine HS.out.mono ?_
            rintro e w5 ⟨rfl, hA, hC⟩
            have HAP := Aside0.mk (AR.apart HA.out HB.out (Nat.ne_of_lt HNE.out) (fun j _ => nilV j))
            have HA5 := Aside0.mk (show AR w5 w.heap.size ba 9 (.slice none 0 0) (L.take y) y from by
              have hlt : (L.take y).length = y := by rw [List.length_take, HLX.out.1]; omega
              rw [hlt] at hA
              exact hA)
            have HB5 := Aside0.mk (HB.out.chg hC HAP.out)
            have HD5 := Aside0.mk (HD.out.nt hC (HA.out.nt 34 (by decide) (by decide)) (HA.out.nt 5 (by decide) (by decide)))
            have HE5 := Aside0.mk (hC.to_ext HE.out HA.out.bb)
            clear hA hC HAP HS HA HB HD HE
            have HD := HD5
            have HE := HE5
            have HL := Aside0.mk (show y = if y + 1 ≤ y then 0 else y from by rw [if_neg (by omega)])
            have hget : L[y]? = some (L[y]'(by have := HLX.out.1; omega)) := List.getElem?_eq_getElem _
            have HOK := Aside0.mk (HLX.out.2 _ (List.getElem_mem (l := L) (n := y) (by have := HLX.out.1; omega)))
            have HTK := Aside0.mk (take_get L y _ hget)
            obtain ⟨b1, o1, s1, eA, hrg, hcs⟩ := HD.out.at y _ hget
            generalize L[y]'(by have := HLX.out.1; omega) = c1 at HOK HTK hrg hcs hget
            clear hget
            subst eA
            have HRG := Aside0.mk hrg
            have HDO := Aside0.mk (ar_do_c HA5.out (by have := HLX.out.1; rw [List.length_take]; omega) HE.out.size c1 HOK.out s1 hcs)
            have HSI := Aside0.mk (show (Try.prog.info? 34).map (·.size) = some [Value.bool c1.1, .int .i64 c1.2.1, slV s1].length from by kernel_rfl)
            clear hrg hcs
            go_wp2_with (first | ((with_reducible refine gate_load (ty := 34) rfl ?_); refine load_at rfl 34 _ rfl b1 (o1 + y * 3) rfl [.bool c1.1, .int .i64 c1.2.1, slV s1] _ HRG.out Try.underlying34 rfl HSI.out ?_) | fail)
            refine HDO.out.mono ?_
            rintro e w6 ⟨V6, rfl, hA, hC, hO⟩
            have HAP := Aside0.mk (AR.apart HA5.out HB5.out (Nat.ne_of_lt HNE.out) (fun j _ => nilV j))
            have HA6 := Aside0.mk (show AR w6 w.heap.size ba 9 V6 (L.take (y + 1)) (if y + 1 ≤ y then 0 else y) from by rw [HTK.out, ← HL.out]; exact hA)
            have HB6 := Aside0.mk (HB5.out.chg hC HAP.out)
            have HD6 := Aside0.mk (HD.out.nt hC (HA5.out.nt 34 (by decide) (by decide)) (HA5.out.nt 5 (by decide) (by decide)))
            have HE6 := Aside0.mk (hC.to_ext HE.out HA5.out.bb)
            clear hA hC hO HAP HA5 HB5 HD HE HDO
            go_wp2_with fail
            go_roundw
            case rel => exact ⟨y + 1, V6, by go_num, ⟨HYX.out⟩, HA6, HB6, HD6, HE6⟩
            case measure => have := HYX.out; simp only [intOf]; omega
          · have HL := Aside0.mk (show (if y ≤ p then 0 else p) = if y + 1 ≤ p then 0 else p from by
              by_cases h : y ≤ p
              · rw [if_pos h, if_pos (by omega)]
              · rw [if_neg h, if_neg (by omega)])
            have hypi : ((y : Int) == (p : Int)) = false := by simp; omega
            have HA5 := HA
            have HB5 := HB
            have hget : L[y]? = some (L[y]'(by have := HLX.out.1; omega)) := List.getElem?_eq_getElem _
            have HOK := Aside0.mk (HLX.out.2 _ (List.getElem_mem (l := L) (n := y) (by have := HLX.out.1; omega)))
            have HTK := Aside0.mk (take_get L y _ hget)
            obtain ⟨b1, o1, s1, eA, hrg, hcs⟩ := HD.out.at y _ hget
            generalize L[y]'(by have := HLX.out.1; omega) = c1 at HOK HTK hrg hcs hget
            clear hget
            subst eA
            have HRG := Aside0.mk hrg
            have HDO := Aside0.mk (ar_do_c HA5.out (by have := HLX.out.1; rw [List.length_take]; omega) HE.out.size c1 HOK.out s1 hcs)
            have HSI := Aside0.mk (show (Try.prog.info? 34).map (·.size) = some [Value.bool c1.1, .int .i64 c1.2.1, slV s1].length from by kernel_rfl)
            clear hrg hcs
            go_wp2_with (first | ((with_reducible refine gate_load (ty := 34) rfl ?_); refine load_at rfl 34 _ rfl b1 (o1 + y * 3) rfl [.bool c1.1, .int .i64 c1.2.1, slV s1] _ HRG.out Try.underlying34 rfl HSI.out ?_) | fail)
            refine HDO.out.mono ?_
            rintro e w6 ⟨V6, rfl, hA, hC, hO⟩
            have HAP := Aside0.mk (AR.apart HA5.out HB5.out (Nat.ne_of_lt HNE.out) (fun j _ => nilV j))
            have HA6 := Aside0.mk (show AR w6 w.heap.size ba 9 V6 (L.take (y + 1)) (if y + 1 ≤ p then 0 else p) from by rw [HTK.out, ← HL.out]; exact hA)
            have HB6 := Aside0.mk (HB5.out.chg hC HAP.out)
            have HD6 := Aside0.mk (HD.out.nt hC (HA5.out.nt 34 (by decide) (by decide)) (HA5.out.nt 5 (by decide) (by decide)))
            have HE6 := Aside0.mk (hC.to_ext HE.out HA5.out.bb)
            clear hA hC hO HAP HA5 HB5 HD HE HDO
            go_wp2_with fail
            go_roundw
            case rel => exact ⟨y + 1, V6, by go_num, ⟨HYX.out⟩, HA6, HB6, HD6, HE6⟩
            case measure => have := HYX.out; simp only [intOf]; omega
        · obtain rfl : y = x := by omega
          have HLL := Aside0.mk (show L.take y = L from List.take_of_length_le (Nat.le_of_eq HLX.out.1))
          by_cases hyp : y = p
          · have hypi : ((p : Int) == (y : Int)) = true := by simp; omega
            have HS := Aside0.mk (ar_sync HA.out)
            have HYP := Aside0.mk hyp
            clear hyp
            go_wp2_with fail
            refine HS.out.mono ?_
            rintro e w5 ⟨rfl, hA, hC⟩
            have HAP := Aside0.mk (AR.apart HA.out HB.out (Nat.ne_of_lt HNE.out) (fun j _ => nilV j))
            have HA5 := Aside0.mk (show AR w5 w.heap.size ba 9 (.slice none 0 0) L p from by
              have hlt : L.length = p := by rw [HLX.out.1]; exact HYP.out
              rw [HLL.out, hlt] at hA
              exact hA)
            have HB5 := Aside0.mk (HB.out.chg hC HAP.out)
            have HD5 := Aside0.mk (HD.out.nt hC (HA.out.nt 34 (by decide) (by decide)) (HA.out.nt 5 (by decide) (by decide)))
            have HE5 := Aside0.mk (hC.to_ext HE.out HA.out.bb)
            clear hA hC HAP HS HA HB HD HE
            obtain ⟨Vo, hVo⟩ : ∃ z : Value, z = .slice none 0 0 := ⟨_, rfl⟩
            rw [← hVo] at HA5
            clear hVo
            obtain ⟨r, hrr, hrx⟩ : ∃ r : Nat, pickT n ((y : Int) - (p : Int) + 1) = (r : Int) ∧ p + r ≤ y := by
              have h1 := HPX.out
              have := pickT_range n ((y : Int) - (p : Int) + 1) (by omega)
              exact ⟨(pickT n ((y : Int) - (p : Int) + 1)).toNat, by omega, by omega⟩
            have HRX := Aside0.mk hrx
            have hp1 := HPX.out
            clear hrx
            go_wp2_with fail
            refine (pick_calls w5 n ((y : Int) - (p : Int) + 1) r HPN.out.1 HPN.out.2 (by omega) hrr.symm).mono ?_
            rintro e w7 ⟨rfl, hE⟩
            have HA7 := Aside0.mk (HA5.out.ext hE)
            have HB7 := Aside0.mk (HB5.out.ext hE)
            have HD7 := Aside0.mk (HD5.out.ext hE)
            have HE7 := Aside0.mk (HE5.out.trans hE)
            have HVL := Aside0.mk (show ∀ j, Vo.ownBlock = some j → j < w7.heap.size from fun j hj => HA7.out.lt j (.inr hj))
            clear hE hrr HA5 HB5 HD5 HE5
            have hr1 := HRX.out
            go_wp2_with fail
            go_loopw [13] (fun j wr => ∃ (z : Nat) (U : Value), j = .int .i64 z ∧ Aside0 (z ≤ p + r) ∧ Aside0 (AR wr w.heap.size ba 9 Vo L p) ∧ Aside0 (AR wr w.heap.size bb 9 U (L.take z) 0) ∧ Aside0 (∀ j, U.ownBlock = some j → w7.heap.size ≤ j) ∧ Aside0 (DN wr w2.heap.size (.slice A1 y C1) L) ∧ Aside0 (Ext w wr) ∧ Aside0 (w7.heap.size ≤ wr.heap.size)) (fun j _ => p + r - (intOf j).toNat)
            case atStart => exact ⟨0, _, rfl, ⟨Nat.zero_le _⟩, HA7, HB7, ⟨fun j hj => absurd hj (nilV j)⟩, HD7, HE7, ⟨Nat.le_refl _⟩⟩
            case round =>
              clear HA7 HB7 HD7 HE7
              obtain ⟨z, U, rfl, HZ, HA, HB, HU, HD, HE, HW⟩ := hrel
              have g4 := HZ.out
              obtain ⟨w8, hw8⟩ : ∃ w8 : World, w8 = wr := ⟨_, rfl⟩
              subst hw8
              have HAP := Aside0.mk (AR.apart HB.out HA.out (Nat.ne_of_gt HNE.out) (fun j hj hj2 => by
                have h1 := HU.out j hj
                have h2 := HVL.out j hj2
                omega))
              by_cases hzr : z < p + r
              · have hzri : (z : Int) < (p : Int) + (r : Int) := by omega
                have HZR := Aside0.mk hzr
                have hget : L[z]? = some (L[z]'(by have := HLX.out.1; have := HRX.out; omega)) := List.getElem?_eq_getElem _
                have HOK := Aside0.mk (HLX.out.2 _ (List.getElem_mem (l := L) (n := z) (by have := HLX.out.1; have := HRX.out; omega)))
                have HTK := Aside0.mk (take_get L z _ hget)
                obtain ⟨b1, o1, s1, eA, hrg, hcs⟩ := HD.out.at z _ hget
                generalize L[z]'(by have := HLX.out.1; have := HRX.out; omega) = c1 at HOK HTK hrg hcs hget
                clear hget
                subst eA
                have HRG := Aside0.mk hrg
                have HDO := Aside0.mk (ar_do_c HB.out (by have := HLX.out.1; rw [List.length_take]; have := HRX.out; omega) HE.out.size c1 HOK.out s1 hcs)
                have HSI := Aside0.mk (show (Try.prog.info? 34).map (·.size) = some [Value.bool c1.1, .int .i64 c1.2.1, slV s1].length from by kernel_rfl)
                clear hrg hcs
                go_wp2_with (first | ((with_reducible refine gate_load (ty := 34) rfl ?_); refine load_at rfl 34 _ rfl b1 (o1 + z * 3) rfl [.bool c1.1, .int .i64 c1.2.1, slV s1] _ HRG.out Try.underlying34 rfl HSI.out ?_) | fail)
                refine HDO.out.mono ?_
                rintro e w9 ⟨U9, rfl, hA, hC, hO⟩
                have HB9 := Aside0.mk (show AR w9 w.heap.size bb 9 U9 (L.take (z + 1)) 0 from by rw [HTK.out]; exact hA)
                have HA9 := Aside0.mk (HA.out.chg hC HAP.out)
                have HD9 := Aside0.mk (HD.out.nt hC (HB.out.nt 34 (by decide) (by decide)) (HB.out.nt 5 (by decide) (by decide)))
                have HE9 := Aside0.mk (hC.to_ext HE.out HB.out.bb)
                have HU9 := Aside0.mk (show ∀ j, U9.ownBlock = some j → w7.heap.size ≤ j from fun j hj => by
                  rcases hO with h | ⟨b, hb, hn⟩
                  · exact HU.out j (h ▸ hj)
                  · rw [hb] at hj
                    injection hj with hj
                    have := HW.out
                    omega)
                have HW9 := Aside0.mk (Nat.le_trans HW.out hC.size)
                clear hA hC hO HAP HA HB HD HE HU HW HDO
                go_wp2_with fail
                go_roundw
                case rel => exact ⟨z + 1, U9, by go_num, ⟨HZR.out⟩, HA9, HB9, HU9, HD9, HE9, HW9⟩
                case measure => have := HZR.out; simp only [intOf]; omega
              · obtain rfl : z = p + r := by omega
                have HLP := Aside0.mk (show p + r ≤ L.length from by rw [HLX.out.1]; exact HRX.out)
                have HAP2 := Aside0.mk (AR.apart HA.out HB.out (Nat.ne_of_lt HNE.out) (fun j hj hj2 => by
                  have h1 := HU.out j hj2
                  have h2 := HVL.out j hj
                  omega))
                clear HD HU HW hzr
                go_wp2_with fail
                have HE8 := HE
                refine (ar_rows HB.out).mono ?_
                rintro e w9 ⟨W9, rfl, hN, hE⟩
                obtain ⟨AW, CW, eW, hCW, hCC⟩ := hN.C (n := 9) (rowsOf_len _ _).symm
                subst eW
                have HA9 := Aside0.mk (HA.out.ext hE)
                have HB9 := Aside0.mk (HB.out.ext hE)
                have HE9 := Aside0.mk (HE8.out.trans hE)
                have HMT := Aside0.mk (ar_match HA9.out AW 9 CW _ (rowsOf_len _ _).symm hCC hCW)
                clear hN hE hCW hCC HA HB HE HE8
                go_wp2_with fail
                refine HMT.out.mono ?_
                rintro e w10 ⟨k, ok, rfl, hQ, hE⟩
                obtain ⟨rfl, hkr⟩ := aq_same HLP.out hQ
                have HA10 := Aside0.mk (HA9.out.ext hE)
                have HB10 := Aside0.mk (HB9.out.ext hE)
                have HE10 := Aside0.mk (HE9.out.trans hE)
                have HOP := Aside0.mk (show Calls Try.prog 13 #[.pointer (some ⟨ba, 0, none⟩)] w10 fun e w' => e = .returned (.int .i64 ((y : Int) - (p : Int))) ∧ w10 = w' from by
                  have h := ar_open HA10.out
                  have e1 : ((L.length - p : Nat) : Int) = (y : Int) - (p : Int) := by
                    rw [HLX.out.1]
                    have := HPX.out
                    omega
                  rw [e1] at h
                  exact h)
                have hkd : decide ((r : Int) < (k : Int)) = false := decide_eq_false (by omega)
                have hkl : (k : Int) ≤ (r : Int) := by omega
                clear hE hQ hkr HMT HA9 HB9 HE9
                go_wp2_with fail
                refine HOP.out.mono ?_
                rintro e _ ⟨rfl, rfl⟩
                go_wp2_with fail
                refine (ar_fall HA10.out r (by have := HLP.out; omega)).mono ?_
                rintro e w11 ⟨rfl, hA, hC⟩
                have HA11 := Aside0.mk hA
                have HB11 := Aside0.mk (HB10.out.chg hC HAP2.out)
                have HE11 := Aside0.mk (hC.to_ext HE10.out HA10.out.bb)
                clear hA hC hkd hkl HOP HA10 HB10 HE10
                go_wp2_with fail
                refine (ar_rows HA11.out).mono ?_
                rintro e w12 ⟨W12, rfl, hN, hE⟩
                obtain ⟨AX, CX, eX, hCX, hCC⟩ := hN.C (n := 9) (rowsOf_len _ _).symm
                subst eX
                have HX12 := Aside0.mk (And.intro hCX hCC)
                have HA12 := Aside0.mk (HA11.out.ext hE)
                have HB12 := Aside0.mk (HB11.out.ext hE)
                have HE12 := Aside0.mk (HE11.out.trans hE)
                clear hN hE hCX hCC HA11 HB11 HE11
                go_wp2_with fail
                refine (ar_rows HB12.out).mono ?_
                rintro e w13 ⟨W13, rfl, hN, hE⟩
                obtain ⟨AY, CY, eY, hCY, hCC⟩ := hN.C (n := 9) (rowsOf_len _ _).symm
                subst eY
                have HA13 := Aside0.mk (HA12.out.ext hE)
                have HB13 := Aside0.mk (HB12.out.ext hE)
                have HE13 := Aside0.mk (HE12.out.trans hE)
                have HSR := Aside0.mk (sameR_at w13 AX AY CX CY _ _ true 32 (by decide) (by rw [rowsOf_len]; decide) (rows_len (by decide) HA13.out.len32) (rowsOf_len _ _).symm (rowsOf_len _ _).symm (by simp) (Kd.C_below HX12.out.2 hE) HX12.out.1 hCC hCY)
                clear hN hE hCY hCC HA12 HB12 HE12 HX12
                go_wp2_with fail
                refine HSR.out.mono ?_
                rintro e w14 ⟨rfl, hE⟩
                obtain ⟨cm, hcm⟩ : ∃ z, z = cntM (aftM zM (L.take (p + r))) 64 := ⟨_, rfl⟩
                have HMA := Aside0.mk (ar_mapped (HA13.out.ext hE))
                have HMB := Aside0.mk (ar_mapped (HB13.out.ext hE))
                rw [← hcm] at HMA HMB
                have HO0 := Aside0.mk (show Calls Try.prog 13 #[.pointer (some ⟨ba, 0, none⟩)] w14 fun e w' => e = .returned (.int .i64 0) ∧ w14 = w' from by
                  have h := ar_open (HA13.out.ext hE)
                  have e1 : (((L.take (p + r)).length - (p + r) : Nat) : Int) = 0 := by
                    rw [List.length_take]
                    omega
                  rw [e1] at h
                  exact h)
                have HA14 := Aside0.mk (HA13.out.ext hE)
                have HB14 := Aside0.mk (HB13.out.ext hE)
                have HE14 := Aside0.mk (HE13.out.trans hE)
                clear hE hcm HSR HA13 HB13 HE13
                go_wp2_with fail
                refine HMA.out.mono ?_
                rintro e _ ⟨rfl, rfl⟩
                go_wp2_with fail
                refine HMB.out.mono ?_
                rintro e _ ⟨rfl, rfl⟩
                go_wp2_with fail
                refine HO0.out.mono ?_
                rintro e _ ⟨rfl, rfl⟩
                clear HMA HMB HO0
                go_wp2_with fail
                go_loopw [16] (fun j wr => ∃ v : Nat, j = .int .i64 v ∧ Aside0 (v ≤ 9) ∧ Aside0 (AR wr w.heap.size ba 9 (.slice none 0 0) (L.take (p + r)) (p + r)) ∧ Aside0 (AR wr w.heap.size bb 9 U (L.take (p + r)) 0) ∧ Aside0 (Ext w wr)) (fun j _ => 9 - (intOf j).toNat)
                case atStart => exact ⟨0, rfl, ⟨by decide⟩, HA14, HB14, HE14⟩
                case round =>
                  clear HA14 HB14 HE14
                  obtain ⟨v, rfl, HV9, HA, HB, HE⟩ := hrel
                  have g5 := HV9.out
                  obtain ⟨w15, hw15⟩ : ∃ w15 : World, w15 = wr := ⟨_, rfl⟩
                  subst hw15
                  by_cases hv9 : v < 9
                  · have hv9i : (v : Int) < 9 := by omega
                    have HVN := Aside0.mk hv9
                    obtain ⟨mz, hmz⟩ : ∃ z, z = aftM zM (L.take (p + r)) v := ⟨_, rfl⟩
                    obtain ⟨rz, hrz⟩ : ∃ z, z = aftR zR (L.take (p + r)) v := ⟨_, rfl⟩
                    have hrl : rz.length = 32 := by rw [hrz]; exact HA.out.len32 v (by omega)
                    have HR1 := Aside0.mk (ar_read HA.out v hv9)
                    have HR2 := Aside0.mk (fun (W : World) (h : Ext w15 W) => ar_read (HB.out.ext h) v hv9)
                    rw [← hmz, ← hrz] at HR1 HR2
                    have HRL := Aside0.mk hrl
                    clear hmz hrz hrl hv9
                    go_wp2_with fail
                    refine HR1.out.mono ?_
                    rintro e w16 ⟨U1, rfl, hN, hE⟩
                    obtain ⟨AX1, CX1, eX, hCX, hCC⟩ := NB.nat (n := 32) hN HRL.out.symm
                    subst eX
                    have HX1 := Aside0.mk (And.intro hCX hCC)
                    have HE16 := Aside0.mk hE
                    clear hN hE hCX hCC HR1
                    go_wp2_with fail
                    refine (HR2.out w16 HE16.out).mono ?_
                    rintro e w17 ⟨U2, rfl, hN, hE⟩
                    obtain ⟨AX2, CX2, eX, hCX, hCC⟩ := NB.nat (n := 32) hN HRL.out.symm
                    subst eX
                    have HSB := Aside0.mk (same_at w17 AX1 AX2 CX1 CX2 rz rz true HRL.out.symm HRL.out.symm (by simp) (Kd.C_below HX1.out.2 hE) HX1.out.1 hCC hCX (by rw [HRL.out]; decide))
                    have HE17 := Aside0.mk (HE16.out.trans hE)
                    clear hN hE hCX hCC HX1 HE16 HR2
                    go_wp2_with fail
                    refine HSB.out.mono ?_
                    rintro e w18 ⟨rfl, hE⟩
                    have HA18 := Aside0.mk (HA.out.ext (HE17.out.trans hE))
                    have HB18 := Aside0.mk (HB.out.ext (HE17.out.trans hE))
                    have HE18 := Aside0.mk (HE.out.trans (HE17.out.trans hE))
                    clear hE HSB HE17 HA HB HE
                    go_wp2_with fail
                    go_roundw
                    case rel => exact ⟨v + 1, by go_num, ⟨HVN.out⟩, HA18, HB18, HE18⟩
                    case measure => have := HVN.out; simp only [intOf]; omega
                  · obtain rfl : v = 9 := by omega
                    clear HA HB hv9
                    go_wp2_with fail
                    refine (known_calls w15).mono ?_
                    rintro e w16 ⟨rfl, hE⟩
                    have HE16 := Aside0.mk (HE.out.trans hE)
                    clear hE HE
                    go_wp2_with fail
                    go_ret
                    exact ⟨rfl, HE16.out⟩
          · have hypi : ((p : Int) == (y : Int)) = false := by simp; omega
            have HA5 := Aside0.mk (show AR w4 w.heap.size ba 9 Va L p from by
              have h := HA.out
              rw [HLL.out, if_neg (by have := HPX.out; omega)] at h
              exact h)
            have HB5 := HB
            have HD5 := HD
            have HE5 := HE
            clear HA HB HD HE
            obtain ⟨Vo, hVo⟩ : ∃ z : Value, z = Va := ⟨_, rfl⟩
            rw [← hVo] at HA5
            clear hVo
            obtain ⟨r, hrr, hrx⟩ : ∃ r : Nat, pickT n ((y : Int) - (p : Int) + 1) = (r : Int) ∧ p + r ≤ y := by
              have h1 := HPX.out
              have := pickT_range n ((y : Int) - (p : Int) + 1) (by omega)
              exact ⟨(pickT n ((y : Int) - (p : Int) + 1)).toNat, by omega, by omega⟩
            have HRX := Aside0.mk hrx
            have hp1 := HPX.out
            clear hrx
            go_wp2_with fail
            refine (pick_calls w4 n ((y : Int) - (p : Int) + 1) r HPN.out.1 HPN.out.2 (by omega) hrr.symm).mono ?_
            rintro e w7 ⟨rfl, hE⟩
            have HA7 := Aside0.mk (HA5.out.ext hE)
            have HB7 := Aside0.mk (HB5.out.ext hE)
            have HD7 := Aside0.mk (HD5.out.ext hE)
            have HE7 := Aside0.mk (HE5.out.trans hE)
            have HVL := Aside0.mk (show ∀ j, Vo.ownBlock = some j → j < w7.heap.size from fun j hj => HA7.out.lt j (.inr hj))
            clear hE hrr HA5 HB5 HD5 HE5
            have hr1 := HRX.out
            go_wp2_with fail
            go_loopw [13] (fun j wr => ∃ (z : Nat) (U : Value), j = .int .i64 z ∧ Aside0 (z ≤ p + r) ∧ Aside0 (AR wr w.heap.size ba 9 Vo L p) ∧ Aside0 (AR wr w.heap.size bb 9 U (L.take z) 0) ∧ Aside0 (∀ j, U.ownBlock = some j → w7.heap.size ≤ j) ∧ Aside0 (DN wr w2.heap.size (.slice A1 y C1) L) ∧ Aside0 (Ext w wr) ∧ Aside0 (w7.heap.size ≤ wr.heap.size)) (fun j _ => p + r - (intOf j).toNat)
            case atStart => exact ⟨0, _, rfl, ⟨Nat.zero_le _⟩, HA7, HB7, ⟨fun j hj => absurd hj (nilV j)⟩, HD7, HE7, ⟨Nat.le_refl _⟩⟩
            case round =>
              clear HA7 HB7 HD7 HE7
              obtain ⟨z, U, rfl, HZ, HA, HB, HU, HD, HE, HW⟩ := hrel
              have g4 := HZ.out
              obtain ⟨w8, hw8⟩ : ∃ w8 : World, w8 = wr := ⟨_, rfl⟩
              subst hw8
              have HAP := Aside0.mk (AR.apart HB.out HA.out (Nat.ne_of_gt HNE.out) (fun j hj hj2 => by
                have h1 := HU.out j hj
                have h2 := HVL.out j hj2
                omega))
              by_cases hzr : z < p + r
              · have hzri : (z : Int) < (p : Int) + (r : Int) := by omega
                have HZR := Aside0.mk hzr
                have hget : L[z]? = some (L[z]'(by have := HLX.out.1; have := HRX.out; omega)) := List.getElem?_eq_getElem _
                have HOK := Aside0.mk (HLX.out.2 _ (List.getElem_mem (l := L) (n := z) (by have := HLX.out.1; have := HRX.out; omega)))
                have HTK := Aside0.mk (take_get L z _ hget)
                obtain ⟨b1, o1, s1, eA, hrg, hcs⟩ := HD.out.at z _ hget
                generalize L[z]'(by have := HLX.out.1; have := HRX.out; omega) = c1 at HOK HTK hrg hcs hget
                clear hget
                subst eA
                have HRG := Aside0.mk hrg
                have HDO := Aside0.mk (ar_do_c HB.out (by have := HLX.out.1; rw [List.length_take]; have := HRX.out; omega) HE.out.size c1 HOK.out s1 hcs)
                have HSI := Aside0.mk (show (Try.prog.info? 34).map (·.size) = some [Value.bool c1.1, .int .i64 c1.2.1, slV s1].length from by kernel_rfl)
                clear hrg hcs
                go_wp2_with (first | ((with_reducible refine gate_load (ty := 34) rfl ?_); refine load_at rfl 34 _ rfl b1 (o1 + z * 3) rfl [.bool c1.1, .int .i64 c1.2.1, slV s1] _ HRG.out Try.underlying34 rfl HSI.out ?_) | fail)
                refine HDO.out.mono ?_
                rintro e w9 ⟨U9, rfl, hA, hC, hO⟩
                have HB9 := Aside0.mk (show AR w9 w.heap.size bb 9 U9 (L.take (z + 1)) 0 from by rw [HTK.out]; exact hA)
                have HA9 := Aside0.mk (HA.out.chg hC HAP.out)
                have HD9 := Aside0.mk (HD.out.nt hC (HB.out.nt 34 (by decide) (by decide)) (HB.out.nt 5 (by decide) (by decide)))
                have HE9 := Aside0.mk (hC.to_ext HE.out HB.out.bb)
                have HU9 := Aside0.mk (show ∀ j, U9.ownBlock = some j → w7.heap.size ≤ j from fun j hj => by
                  rcases hO with h | ⟨b, hb, hn⟩
                  · exact HU.out j (h ▸ hj)
                  · rw [hb] at hj
                    injection hj with hj
                    have := HW.out
                    omega)
                have HW9 := Aside0.mk (Nat.le_trans HW.out hC.size)
                clear hA hC hO HAP HA HB HD HE HU HW HDO
                go_wp2_with fail
                go_roundw
                case rel => exact ⟨z + 1, U9, by go_num, ⟨HZR.out⟩, HA9, HB9, HU9, HD9, HE9, HW9⟩
                case measure => have := HZR.out; simp only [intOf]; omega
              · obtain rfl : z = p + r := by omega
                have HLP := Aside0.mk (show p + r ≤ L.length from by rw [HLX.out.1]; exact HRX.out)
                have HAP2 := Aside0.mk (AR.apart HA.out HB.out (Nat.ne_of_lt HNE.out) (fun j hj hj2 => by
                  have h1 := HU.out j hj2
                  have h2 := HVL.out j hj
                  omega))
                clear HD HU HW hzr
                go_wp2_with fail
                have HE8 := HE
                refine (ar_rows HB.out).mono ?_
                rintro e w9 ⟨W9, rfl, hN, hE⟩
                obtain ⟨AW, CW, eW, hCW, hCC⟩ := hN.C (n := 9) (rowsOf_len _ _).symm
                subst eW
                have HA9 := Aside0.mk (HA.out.ext hE)
                have HB9 := Aside0.mk (HB.out.ext hE)
                have HE9 := Aside0.mk (HE8.out.trans hE)
                have HMT := Aside0.mk (ar_match HA9.out AW 9 CW _ (rowsOf_len _ _).symm hCC hCW)
                clear hN hE hCW hCC HA HB HE HE8
                go_wp2_with fail
                refine HMT.out.mono ?_
                rintro e w10 ⟨k, ok, rfl, hQ, hE⟩
                obtain ⟨rfl, hkr⟩ := aq_same HLP.out hQ
                have HA10 := Aside0.mk (HA9.out.ext hE)
                have HB10 := Aside0.mk (HB9.out.ext hE)
                have HE10 := Aside0.mk (HE9.out.trans hE)
                have HOP := Aside0.mk (show Calls Try.prog 13 #[.pointer (some ⟨ba, 0, none⟩)] w10 fun e w' => e = .returned (.int .i64 ((y : Int) - (p : Int))) ∧ w10 = w' from by
                  have h := ar_open HA10.out
                  have e1 : ((L.length - p : Nat) : Int) = (y : Int) - (p : Int) := by
                    rw [HLX.out.1]
                    have := HPX.out
                    omega
                  rw [e1] at h
                  exact h)
                have hkd : decide ((r : Int) < (k : Int)) = false := decide_eq_false (by omega)
                have hkl : (k : Int) ≤ (r : Int) := by omega
                clear hE hQ hkr HMT HA9 HB9 HE9
                go_wp2_with fail
                refine HOP.out.mono ?_
                rintro e _ ⟨rfl, rfl⟩
                go_wp2_with fail
                refine (ar_fall HA10.out r (by have := HLP.out; omega)).mono ?_
                rintro e w11 ⟨rfl, hA, hC⟩
                have HA11 := Aside0.mk hA
                have HB11 := Aside0.mk (HB10.out.chg hC HAP2.out)
                have HE11 := Aside0.mk (hC.to_ext HE10.out HA10.out.bb)
                clear hA hC hkd hkl HOP HA10 HB10 HE10
                go_wp2_with fail
                refine (ar_rows HA11.out).mono ?_
                rintro e w12 ⟨W12, rfl, hN, hE⟩
                obtain ⟨AX, CX, eX, hCX, hCC⟩ := hN.C (n := 9) (rowsOf_len _ _).symm
                subst eX
                have HX12 := Aside0.mk (And.intro hCX hCC)
                have HA12 := Aside0.mk (HA11.out.ext hE)
                have HB12 := Aside0.mk (HB11.out.ext hE)
                have HE12 := Aside0.mk (HE11.out.trans hE)
                clear hN hE hCX hCC HA11 HB11 HE11
                go_wp2_with fail
                refine (ar_rows HB12.out).mono ?_
                rintro e w13 ⟨W13, rfl, hN, hE⟩
                obtain ⟨AY, CY, eY, hCY, hCC⟩ := hN.C (n := 9) (rowsOf_len _ _).symm
                subst eY
                have HA13 := Aside0.mk (HA12.out.ext hE)
                have HB13 := Aside0.mk (HB12.out.ext hE)
                have HE13 := Aside0.mk (HE12.out.trans hE)
                have HSR := Aside0.mk (sameR_at w13 AX AY CX CY _ _ true 32 (by decide) (by rw [rowsOf_len]; decide) (rows_len (by decide) HA13.out.len32) (rowsOf_len _ _).symm (rowsOf_len _ _).symm (by simp) (Kd.C_below HX12.out.2 hE) HX12.out.1 hCC hCY)
                clear hN hE hCY hCC HA12 HB12 HE12 HX12
                go_wp2_with fail
                refine HSR.out.mono ?_
                rintro e w14 ⟨rfl, hE⟩
                obtain ⟨cm, hcm⟩ : ∃ z, z = cntM (aftM zM (L.take (p + r))) 64 := ⟨_, rfl⟩
                have HMA := Aside0.mk (ar_mapped (HA13.out.ext hE))
                have HMB := Aside0.mk (ar_mapped (HB13.out.ext hE))
                rw [← hcm] at HMA HMB
                have HO0 := Aside0.mk (show Calls Try.prog 13 #[.pointer (some ⟨ba, 0, none⟩)] w14 fun e w' => e = .returned (.int .i64 0) ∧ w14 = w' from by
                  have h := ar_open (HA13.out.ext hE)
                  have e1 : (((L.take (p + r)).length - (p + r) : Nat) : Int) = 0 := by
                    rw [List.length_take]
                    omega
                  rw [e1] at h
                  exact h)
                have HA14 := Aside0.mk (HA13.out.ext hE)
                have HB14 := Aside0.mk (HB13.out.ext hE)
                have HE14 := Aside0.mk (HE13.out.trans hE)
                clear hE hcm HSR HA13 HB13 HE13
                go_wp2_with fail
                refine HMA.out.mono ?_
                rintro e _ ⟨rfl, rfl⟩
                go_wp2_with fail
                refine HMB.out.mono ?_
                rintro e _ ⟨rfl, rfl⟩
                go_wp2_with fail
                refine HO0.out.mono ?_
                rintro e _ ⟨rfl, rfl⟩
                clear HMA HMB HO0
                go_wp2_with fail
                go_loopw [16] (fun j wr => ∃ v : Nat, j = .int .i64 v ∧ Aside0 (v ≤ 9) ∧ Aside0 (AR wr w.heap.size ba 9 (.slice none 0 0) (L.take (p + r)) (p + r)) ∧ Aside0 (AR wr w.heap.size bb 9 U (L.take (p + r)) 0) ∧ Aside0 (Ext w wr)) (fun j _ => 9 - (intOf j).toNat)
                case atStart => exact ⟨0, rfl, ⟨by decide⟩, HA14, HB14, HE14⟩
                case round =>
                  clear HA14 HB14 HE14
                  obtain ⟨v, rfl, HV9, HA, HB, HE⟩ := hrel
                  have g5 := HV9.out
                  obtain ⟨w15, hw15⟩ : ∃ w15 : World, w15 = wr := ⟨_, rfl⟩
                  subst hw15
                  by_cases hv9 : v < 9
                  · have hv9i : (v : Int) < 9 := by omega
                    have HVN := Aside0.mk hv9
                    obtain ⟨mz, hmz⟩ : ∃ z, z = aftM zM (L.take (p + r)) v := ⟨_, rfl⟩
                    obtain ⟨rz, hrz⟩ : ∃ z, z = aftR zR (L.take (p + r)) v := ⟨_, rfl⟩
                    have hrl : rz.length = 32 := by rw [hrz]; exact HA.out.len32 v (by omega)
                    have HR1 := Aside0.mk (ar_read HA.out v hv9)
                    have HR2 := Aside0.mk (fun (W : World) (h : Ext w15 W) => ar_read (HB.out.ext h) v hv9)
                    rw [← hmz, ← hrz] at HR1 HR2
                    have HRL := Aside0.mk hrl
                    clear hmz hrz hrl hv9
                    go_wp2_with fail
                    refine HR1.out.mono ?_
                    rintro e w16 ⟨U1, rfl, hN, hE⟩
                    obtain ⟨AX1, CX1, eX, hCX, hCC⟩ := NB.nat (n := 32) hN HRL.out.symm
                    subst eX
                    have HX1 := Aside0.mk (And.intro hCX hCC)
                    have HE16 := Aside0.mk hE
                    clear hN hE hCX hCC HR1
                    go_wp2_with fail
                    refine (HR2.out w16 HE16.out).mono ?_
                    rintro e w17 ⟨U2, rfl, hN, hE⟩
                    obtain ⟨AX2, CX2, eX, hCX, hCC⟩ := NB.nat (n := 32) hN HRL.out.symm
                    subst eX
                    have HSB := Aside0.mk (same_at w17 AX1 AX2 CX1 CX2 rz rz true HRL.out.symm HRL.out.symm (by simp) (Kd.C_below HX1.out.2 hE) HX1.out.1 hCC hCX (by rw [HRL.out]; decide))
                    have HE17 := Aside0.mk (HE16.out.trans hE)
                    clear hN hE hCX hCC HX1 HE16 HR2
                    go_wp2_with fail
                    refine HSB.out.mono ?_
                    rintro e w18 ⟨rfl, hE⟩
                    have HA18 := Aside0.mk (HA.out.ext (HE17.out.trans hE))
                    have HB18 := Aside0.mk (HB.out.ext (HE17.out.trans hE))
                    have HE18 := Aside0.mk (HE.out.trans (HE17.out.trans hE))
                    clear hE HSB HE17 HA HB HE
                    go_wp2_with fail
                    go_roundw
                    case rel => exact ⟨v + 1, by go_num, ⟨HVN.out⟩, HA18, HB18, HE18⟩
                    case measure => have := HVN.out; simp only [intOf]; omega
                  · obtain rfl : v = 9 := by omega
                    clear HA HB hv9
                    go_wp2_with fail
                    refine (known_calls w15).mono ?_
                    rintro e w16 ⟨rfl, hE⟩
                    have HE16 := Aside0.mk (HE.out.trans hE)
                    clear hE HE
                    go_wp2_with fail
                    go_ret
                    exact ⟨rfl, HE16.out⟩
end Go.Proofs.Ytielnpmnnifjcaa.By
