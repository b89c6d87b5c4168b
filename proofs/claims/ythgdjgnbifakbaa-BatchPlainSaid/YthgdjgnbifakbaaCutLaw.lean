/- Plain law: a cut of what Put lays down is refused with 4. -/
import Derived.Test.YthgdjgnbifakbaaLc
namespace Go.Proofs.Ythgdjgnbifakbaa.By
open Go.RowKit Go.Proofs.Ythgdjgnbifakbaa.Reg Go.Proofs.YthgdjgnbifakbaaW.PrintWords Go.Proofs.YthgdjgnbifakbaaW.PrintLast Go.Proofs.YthgdjgnbifakbaaW.PrintMore
set_option linter.unusedVariables false
set_option linter.unusedSimpArgs false


theorem g_head (st nx m : Int) (pr rest : List Int) (hst : -9223372036854775808 ≤ st ∧ st ≤ 9223372036854775807) (hnx : -9223372036854775808 ≤ nx ∧ nx ≤ 9223372036854775807) (hm : -9223372036854775808 ≤ m ∧ m ≤ 9223372036854775807) (hp : pr.length = 32) :
    g4 (headB st pr nx m ++ rest) = (m, rest, false) := by
  have h1 : g1 (headB st pr nx m ++ rest) = (st, pr ++ be8 nx ++ be8 m ++ rest, false) := by
    unfold g1
    rw [show headB st pr nx m ++ rest = be8 st ++ (pr ++ be8 nx ++ be8 m ++ rest) by simp [headB], tk_be8 st _ hst]
  have h2 : g2 (headB st pr nx m ++ rest) = (pr, be8 nx ++ be8 m ++ rest, false) := by
    unfold g2
    rw [h1, show pr ++ be8 nx ++ be8 m ++ rest = pr ++ (be8 nx ++ be8 m ++ rest) by simp, tk_sum pr _ hp]
  have h3 : g3 (headB st pr nx m ++ rest) = (nx, be8 m ++ rest, false) := by
    unfold g3
    rw [h2, show be8 nx ++ be8 m ++ rest = be8 nx ++ (be8 m ++ rest) by simp, tk_be8 nx _ hnx]
  unfold g4
  rw [h3, tk_be8 m _ hm]
/-- What Get read with no bad reader. -/
theorem g_whole {bs : List Int} (hB : isB bs) (hb : (gR bs).2.2 = false) : bs.length = 56 + 56 * (g4 bs).1.toNat + (gR bs).2.1.length := by
  obtain ⟨i1, i2, i3, i4⟩ := g_isB hB
  obtain ⟨k5, e5⟩ := tkEs_back i4 _ (show (tkEs (g4 bs).1.toNat (g4 bs).2).2.2 = false from hb)
  obtain ⟨k4, e4⟩ := tkInt_back i3 (show (tkInt (g3 bs).2).2.2 = false from k5)
  obtain ⟨k3, e3⟩ := tkInt_back i2 (show (tkInt (g2 bs).2).2.2 = false from k4)
  obtain ⟨k2, e2⟩ := tkSum_back (show (tkSum (g1 bs).2).2.2 = false from k3)
  obtain ⟨k1, e1⟩ := tkInt_back (s := (bs, false)) hB (show (tkInt (bs, false)).2.2 = false from k2)
  have f5 : (g4 bs).2.1 = allE (gR bs).1 ++ (gR bs).2.1 := e5
  have f4 : (g3 bs).2.1 = be8 (g4 bs).1 ++ (g4 bs).2.1 := e4
  have f3 : (g2 bs).2.1 = be8 (g3 bs).1 ++ (g3 bs).2.1 := e3
  have f2 : (g1 bs).2.1 = (g2 bs).1 ++ (g2 bs).2.1 := e2
  have f1 : bs = be8 (g1 bs).1 ++ (g1 bs).2.1 := e1
  have hg := g_ok hB
  have l5 := congrArg List.length f5
  have l4 := congrArg List.length f4
  have l3 := congrArg List.length f3
  have l2 := congrArg List.length f2
  have l1 := congrArg List.length f1
  rw [List.length_append, allE_len _ hg.2.2.1, hg.2.2.2] at l5
  rw [List.length_append, be8_length] at l4 l3 l1
  rw [List.length_append, hg.1] at l2
  omega
theorem get_less (st nx : Int) (pr : List Int) (es : List Th) (hst : -9223372036854775808 ≤ st ∧ st ≤ 9223372036854775807) (hnx : -9223372036854775808 ≤ nx ∧ nx ≤ 9223372036854775807) (hp : pr.length = 32) (hpB : isB pr) (hes : ∀ e ∈ es, Th.ok e) (hl : es.length ≤ 100000)
    (k : Nat) (hk : k < 56 + 56 * es.length) : gE ((smyB st pr nx es).take k) = 4 := by
  have hB : isB ((smyB st pr nx es).take k) := (smyB_isB (st := st) (nx := nx) hpB hes).take k
  have hlen : ((smyB st pr nx es).take k).length = k := by rw [List.length_take, smyB_len hp hes]; omega
  by_cases hf : gForm ((smyB st pr nx es).take k) = true
  · unfold gE; rw [if_pos hf]
  have hb : (gR ((smyB st pr nx es).take k)).2.2 = true := by
    cases hb : (gR ((smyB st pr nx es).take k)).2.2 with
    | true => rfl
    | false =>
      exfalso
      have hw := g_whole hB hb
      rw [hlen] at hw
      have h56 : 56 ≤ k := by omega
      have hh := headB_len st nx es.length hp
      have e : (smyB st pr nx es).take k = headB st pr nx es.length ++ (allE es).take (k - 56) := by
        unfold smyB
        rw [List.take_append, List.take_of_length_le (by omega), hh]
      have h4 := g_head st nx es.length pr ((allE es).take (k - 56)) hst hnx (by omega) hp
      rw [← e] at h4
      rw [h4] at hw
      simp only [Int.toNat_natCast] at hw
      omega
  have he : gEnd ((smyB st pr nx es).take k) = 4 := by unfold gEnd endI; rw [hb, if_pos rfl]
  unfold gE
  rw [if_neg hf, he, if_neg (by decide)]
end Go.Proofs.Ythgdjgnbifakbaa.By
