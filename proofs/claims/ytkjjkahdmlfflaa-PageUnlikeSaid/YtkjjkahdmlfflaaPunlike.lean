/- PageUnlike. -/
import Derived.Test.YtkjjkahdmlfflaaPlaw
namespace Go.Proofs.Ytkjjkahdmlfflaa.By
open Go.RowKit Go.Proofs.Ytkjjkahdmlfflaa.Reg Go.Proofs.YtkjjkahdmlfflaaW.PrintWords Go.Proofs.YtkjjkahdmlfflaaW.PrintLast Go.Proofs.YtkjjkahdmlfflaaW.PrintMore
set_option linter.unusedVariables false

set_option maxRecDepth 100000 in
set_option maxHeartbeats 8000000 in
theorem punlike_calls (w : World) (i k : Int) (p q : List Rf) (hp : Pok p) (hq : Pok q) (S T : Value) (hS : S = pageV p) (hT : T = pageV q) :
    Calls Try.prog 12 #[.int .i64 i, .int .i64 k, S, T] w fun e w' => e = .returned (.bool true) ∧ Ext w w' := by
  subst hS
  subst hT
  have HP := Aside0.mk hp
  have HQ := Aside0.mk hq
  have HK0 := Aside0.mk ((Blk.new w (pageC p).toArray 58).ext ((Ext.refl _).alloc (.cells (pageC q).toArray 58)))
  have hsz : (w.alloc (.cells (pageC p).toArray 58)).heap.size = w.heap.size + 1 := by simp
  have hl0 := Blk.new (w.alloc (.cells (pageC p).toArray 58)) (pageC q).toArray 58
  rw [hsz] at hl0
  have HL0 := Aside0.mk hl0
  clear hl0 hsz
  have HE0 := Aside0.mk (((Ext.refl w).alloc (.cells (pageC p).toArray 58)).alloc (.cells (pageC q).toArray 58))
  have HIP := Aside0.mk (wf_page hp).1
  have HIQ := Aside0.mk (wf_page hq).1
  have HEQ := Aside0.mk (fun W => equal_page p q hp hq W)
  unfold pageV
  clear hp hq
  go_enter Try.func12, Try.ntmps12
  go_wp2_with (first | ((with_reducible refine gate_load (ty := 58) rfl ?_); refine load_at rfl 58 _ rfl w.heap.size 0 rfl (pageC p) _ (HK0.out.range 0 (pageC p) [] (by simp)) Try.underlying58 rfl HIP.out ?_) | fail)
  refine (put_calls _ i p HP.out _ rfl).mono ?_
  rintro e w1 ⟨V, c1, rfl, hc1, ⟨X, n1, d1, rfl, hn1, hd1, hC1⟩, hE1⟩
  have HE1 := Aside0.mk (HE0.out.trans hE1)
  have HK1 := Aside0.mk (HK0.out.ext hE1)
  have HL1 := Aside0.mk (HL0.out.ext hE1)
  have HC1 := Aside0.mk hC1
  have HN1 := Aside0.mk hn1
  have HX1 := Aside0.mk hc1
  clear hE1 hC1 hn1 hc1 HE0 HK0 HL0
  go_wp2_with (first | ((with_reducible refine gate_load (ty := 58) rfl ?_); refine load_at rfl 58 _ rfl (w.heap.size + 1) 0 rfl (pageC q) _ (HL1.out.range 0 (pageC q) [] (by simp)) Try.underlying58 rfl HIQ.out ?_) | fail)
  refine (put_calls _ k q HQ.out _ rfl).mono ?_
  rintro e w2 ⟨V2, c2, rfl, hc2, ⟨Y, n2, d2, rfl, hn2, hd2, hC2⟩, hE2⟩
  have HE2 := Aside0.mk (HE1.out.trans hE2)
  have HK2 := Aside0.mk (HK1.out.ext hE2)
  have HL2 := Aside0.mk (HL1.out.ext hE2)
  have HC2 := Aside0.mk hC2
  have HC1' := Aside0.mk (Kd.C_below HC1.out hE2)
  have HN2 := Aside0.mk hn2
  have HX2 := Aside0.mk hc2
  clear hE2 hC2 hn2 hc2 HE1 HK1 HL1 HC1
  by_cases h1 : c1 = 0
  · by_cases h2 : c2 = 0
    · have hm1 : mayB i p = true := by
        rcases Bool.eq_false_or_eq_true (mayB i p) with h | h
        · exact h
        · have := HX1.out; rw [(put_no h).1, h1] at this; exact absurd this (by decide)
      have hm2 : mayB k q = true := by
        rcases Bool.eq_false_or_eq_true (mayB k q) with h | h
        · exact h
        · have := HX2.out; rw [(put_no h).1, h2] at this; exact absurd this (by decide)
      subst h1
      subst h2
      rw [(put_yes hm1).2] at HN1 HC1'
      rw [(put_yes hm2).2] at HN2 HC2
      have HINJ := Aside0.mk (fun h => node_inj HP.out HQ.out hm1 hm2 h)
      clear hm1 hm2
      by_cases hik : i = k
      · subst hik
        have hz : decide (i = i) = true := by simp
        by_cases hpq : p = q
        · subst hpq
          have HSB := Aside0.mk (show true = decide (nodeB i p = nodeB i p) by simp)
          have HEQ' := Aside0.mk (fun W => by have := HEQ.out W; rwa [show decide (p = p) = true by simp] at this : ∀ W : World, (Op.equal 58 (pageV p) (pageV p)).run Try.prog W = .ok true W)
          go_wp2_with fail
          refine (same_at w2 X Y d1 d2 (nodeB i p) (nodeB i p) true HN1.out HN2.out (by simp) HC1'.out hd1 HC2.out hd2 (by rw [node_len i p HP.out]; decide)).mono ?_
          rintro e w3 ⟨rfl, hE3⟩
          have HE3 := Aside0.mk (HE2.out.trans hE3)
          have HK3 := Aside0.mk (HK2.out.ext hE3)
          have HL3 := Aside0.mk (HL2.out.ext hE3)
          clear hE3 HE2 HK2 HL2
          go_wp2_with (first | ((with_reducible refine gate_load (ty := 58) rfl ?_); first | refine load_at rfl 58 _ rfl w.heap.size 0 rfl (pageC p) _ (HK3.out.range 0 _ [] (by simp)) Try.underlying58 rfl HIP.out ?_ | refine load_at rfl 58 _ rfl (w.heap.size + 1) 0 rfl (pageC p) _ (HL3.out.range 0 _ [] (by simp)) Try.underlying58 rfl HIP.out ?_) | ((with_reducible refine gate_eql (ty := 58) rfl ?_); (refine eql_at rfl 58 58 _ _ rfl (pageC p).toArray (pageC p).toArray rfl rfl (by kernel_rfl) true (HEQ'.out _) ?_)) | fail)
          refine (known13_calls _).mono ?_
          rintro e w4 ⟨rfl, hE⟩
          have HE4 := Aside0.mk (HE3.out.trans hE)
          clear hE HE3
          go_wp2
          go_ret
          exact ⟨rfl, HE4.out⟩
        · have HSB := Aside0.mk (show false = decide (nodeB i p = nodeB i q) by rw [decide_eq_false (fun h => hpq (HINJ.out h).2)])
          have HEQ' := Aside0.mk (fun W => by have := HEQ.out W; rwa [decide_eq_false hpq] at this : ∀ W : World, (Op.equal 58 (pageV p) (pageV q)).run Try.prog W = .ok false W)
          go_wp2_with fail
          refine (same_at w2 X Y d1 d2 (nodeB i p) (nodeB i q) false HN1.out HN2.out HSB.out HC1'.out hd1 HC2.out hd2 (by rw [node_len i p HP.out]; decide)).mono ?_
          rintro e w3 ⟨rfl, hE3⟩
          have HE3 := Aside0.mk (HE2.out.trans hE3)
          have HK3 := Aside0.mk (HK2.out.ext hE3)
          have HL3 := Aside0.mk (HL2.out.ext hE3)
          clear hE3 HE2 HK2 HL2
          go_wp2_with (first | ((with_reducible refine gate_load (ty := 58) rfl ?_); first | refine load_at rfl 58 _ rfl w.heap.size 0 rfl (pageC p) _ (HK3.out.range 0 _ [] (by simp)) Try.underlying58 rfl HIP.out ?_ | refine load_at rfl 58 _ rfl (w.heap.size + 1) 0 rfl (pageC q) _ (HL3.out.range 0 _ [] (by simp)) Try.underlying58 rfl HIQ.out ?_) | ((with_reducible refine gate_eql (ty := 58) rfl ?_); (refine eql_at rfl 58 58 _ _ rfl (pageC p).toArray (pageC q).toArray rfl rfl (by kernel_rfl) false (HEQ'.out _) ?_)) | fail)
          refine (known13_calls _).mono ?_
          rintro e w4 ⟨rfl, hE⟩
          have HE4 := Aside0.mk (HE3.out.trans hE)
          clear hE HE3
          go_wp2
          go_ret
          exact ⟨rfl, HE4.out⟩
      · have HSB := Aside0.mk (show false = decide (nodeB i p = nodeB k q) by rw [decide_eq_false (fun h => hik (HINJ.out h).1)])
        have hz : decide (i = k) = false := decide_eq_false hik
        go_wp2_with fail
        refine (same_at w2 X Y d1 d2 (nodeB i p) (nodeB k q) false HN1.out HN2.out HSB.out HC1'.out hd1 HC2.out hd2 (by rw [node_len i p HP.out]; decide)).mono ?_
        rintro e w3 ⟨rfl, hE3⟩
        have HE3 := Aside0.mk (HE2.out.trans hE3)
        have HK3 := Aside0.mk (HK2.out.ext hE3)
        have HL3 := Aside0.mk (HL2.out.ext hE3)
        clear hE3 HE2 HK2 HL2
        go_wp2_with fail
        refine (known13_calls _).mono ?_
        rintro e w4 ⟨rfl, hE⟩
        have HE4 := Aside0.mk (HE3.out.trans hE)
        clear hE HE3
        go_wp2
        go_ret
        exact ⟨rfl, HE4.out⟩
    · have hz1 : decide (c1 = 0) = true := decide_eq_true h1
      have hz2 : decide (c2 = 0) = false := decide_eq_false h2
      go_wp2_with fail
      refine (known13_calls _).mono ?_
      rintro e w3 ⟨rfl, hE⟩
      have HE3 := Aside0.mk (HE2.out.trans hE)
      clear hE HE2
      go_wp2
      go_ret
      exact ⟨rfl, HE3.out⟩
  · have hz1 : decide (c1 = 0) = false := decide_eq_false h1
    go_wp2_with fail
    refine (known13_calls _).mono ?_
    rintro e w3 ⟨rfl, hE⟩
    have HE3 := Aside0.mk (HE2.out.trans hE)
    clear hE HE2
    go_wp2
    go_ret
    exact ⟨rfl, HE3.out⟩
end Go.Proofs.Ytkjjkahdmlfflaa.By
