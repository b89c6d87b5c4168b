/- The contracts of the statements' own functions on lists of ints. -/
import Derived.Test.YtkgjcmolmogpdaaDb
namespace Go.Proofs.Ytkgjcmolmogpdaa.By
open Go.RowKit Go.Proofs.Ytkgjcmolmogpdaa.Reg Go.Proofs.YtkgjcmolmogpdaaW.PrintWords Go.Proofs.YtkgjcmolmogpdaaW.PrintLast Go.Proofs.YtkgjcmolmogpdaaW.PrintMore
set_option linter.unusedVariables false
set_option linter.unusedSimpArgs false

abbrev NI (w : World) (B : Nat) (V : Value) (xs : List Int) : Prop := Kd.R kI 3 w B (fun _ => True) V xs
def lentI (l : List Int) : List Int := l ++ List.replicate 5 (-77)
theorem lent_lengthI (l : List Int) : (lentI l).length = l.length + 5 := by simp [lentI]
theorem lent_takeI (l : List Int) : (lentI l).take l.length = l := by simp [lentI]
theorem lent_markI (l : List Int) (i : Int) (h0 : l.length ≤ i) (h1 : i < l.length + 5) : rd (lentI l) i = (-77) := by
  unfold rd lentI
  rw [List.getD_eq_getElem?_getD, List.getElem?_append_right (by omega), List.getElem?_replicate, if_pos (by omega)]
  rfl
theorem set_atI (T : List Int) (i : Nat) (hi : i < T.length) (n : Nat) (v : Int) : (T.take i ++ List.replicate (n + 1) 0).set i v = T.take i ++ v :: List.replicate n 0 := by
  rw [List.set_append_right i v (by rw [List.length_take]; omega)]
  have : i - (T.take i).length = 0 := by rw [List.length_take]; omega
  rw [this, List.replicate_succ, List.set_cons_zero]
theorem lent_loI (l : List Int) (i : Nat) (h : i < (lentI l).length) (hi : i < l.length) : (lentI l)[i] = l[i] := List.getElem_append_left hi
theorem lent_hiI (l : List Int) (i : Nat) (h : i < (lentI l).length) (hi : l.length ≤ i) : (lentI l)[i] = (-77) := by
  have e : (l ++ List.replicate 5 (-77))[i]? = some ((-77) : Int) := by
    rw [List.getElem?_append_right hi, List.getElem?_replicate, if_pos (by rw [lent_lengthI] at h; omega)]
  exact Option.some.inj ((List.getElem?_eq_getElem h).symm.trans e)
theorem lent_loopI (l : List Int) (hm : l.length ≤ 9223372036854775801) (d : Nat) : ∀ (k : Nat) (i : Int), 0 ≤ i → i ≤ l.length + 5 → (l.length : Int) + 5 - i = d → d < k →
    PDiskPlays.rillkit_LentInts.l0 k l ((lentI l).take i.toNat ++ List.replicate d 0) i = some (lentI l) := by
  induction d with
  | zero =>
    intro k i h0 h1 hd hk
    obtain ⟨k, rfl⟩ : ∃ m, k = m + 1 := ⟨k - 1, by omega⟩
    simp only [PDiskPlays.rillkit_LentInts.l0, List.replicate_zero, List.append_nil]
    rw [List.take_of_length_le (by rw [lent_lengthI]; omega), lent_lengthI, if_neg (by omega)]
  | succ d ih =>
    intro k i h0 h1 hd hk
    obtain ⟨k, rfl⟩ : ∃ m, k = m + 1 := ⟨k - 1, by omega⟩
    have hil : i.toNat < (lentI l).length := by rw [lent_lengthI]; omega
    simp only [PDiskPlays.rillkit_LentInts.l0]
    rw [List.length_append, List.length_take, lent_lengthI, List.length_replicate, if_pos (by omega), if_pos h0, set_atI _ _ hil]
    simp only [Option.bind_some]
    have hn : (i + 1).toNat = i.toNat + 1 := by omega
    have key := ih k (i + 1) (by omega) (by omega) (by omega) (by omega)
    rw [hn, List.take_succ_eq_append_getElem hil, List.append_assoc] at key
    by_cases hlt : i < (l.length : Int)
    · rw [if_pos hlt, wrap64_in (by omega) (by omega)]
      have e : (lentI l)[i.toNat] = rd l i := by
        rw [lent_loI l i.toNat hil (by omega)]
        unfold rd
        rw [List.getD_eq_getElem?_getD, List.getElem?_eq_getElem (by omega)]
        rfl
      rw [e] at key
      rw [List.set_append_right _ _ (by rw [List.length_take]; omega)]
      have : i.toNat - ((lentI l).take i.toNat).length = 0 := by rw [List.length_take]; omega
      rw [this, List.set_cons_zero]
      exact key
    · rw [if_neg hlt, wrap64_in (by omega) (by omega)]
      have e : (lentI l)[i.toNat] = (-77) := lent_hiI l i.toNat hil (by omega)
      rw [e] at key
      exact key
theorem lent_eqI (k : Nat) (l : List Int) (hm : l.length ≤ 35184372088827) (hk : l.length + 5 < k) : PDiskPlays.rillkit_LentInts.f k l = some (lentI l) := by
  unfold PDiskPlays.rillkit_LentInts.f
  rw [wrap64_in (x := (l.length : Int) + 5) (by omega) (by omega), if_pos (by omega), if_pos (by omega)]
  have := lent_loopI l (by omega) (l.length + 5) k 0 (by omega) (by omega) (by omega) hk
  rw [show ((l.length : Int) + 5).toNat = l.length + 5 by omega]
  simpa using this
theorem spoil_loopI (d : Nat) : ∀ (k : Nat) (l : List Int) (i : Int), l.length ≤ 9223372036854775806 → 0 ≤ i → i ≤ l.length → (l.length : Int) - i = d → d < k → ∃ r, PDiskPlays.rillkit_SpoilInts.l0 k l i = some r := by
  induction d with
  | zero =>
    intro k l i hm h0 h1 hd hk
    obtain ⟨k, rfl⟩ : ∃ m, k = m + 1 := ⟨k - 1, by omega⟩
    exact ⟨l, by simp only [PDiskPlays.rillkit_SpoilInts.l0]; rw [if_neg (by omega)]⟩
  | succ d ih =>
    intro k l i hm h0 h1 hd hk
    obtain ⟨k, rfl⟩ : ∃ m, k = m + 1 := ⟨k - 1, by omega⟩
    obtain ⟨r, hr⟩ := ih k (l.set (i : Int).toNat (Go.bits .xor .i64 (rd l i) 77)) (i + 1) (by simpa using hm) (by omega) (by simp; omega) (by simp; omega) (by omega)
    exact ⟨r, by simp only [PDiskPlays.rillkit_SpoilInts.l0]; rw [if_pos (by omega), if_pos h0, wrap64_in (by omega) (by omega)]; exact hr⟩
section
variable (w : World) (A B : Option Addr) (c d : Nat) (xs ys : List Int)
theorem lentI_calls (hr : Kd.C kI w A xs.length xs) (hc : xs.length ≤ c) (hl : xs.length ≤ 35184372088827) :
    Calls Try.prog 59 #[.slice A xs.length c] w fun e w' => ∃ V, e = .returned V ∧ NI w' w.heap.size V (lentI xs) ∧ Ext w w' :=
  PDiskPlays.rillkit_LentInts.calls (xs.length + 6) A c xs (lentI xs) w hr hc (lent_eqI _ xs hl (by omega))
theorem spoilI_calls (w0 : World) (V : Value) (he : Ext w0 w) (h : NI w w0.heap.size V xs) (hl : xs.length ≤ 9223372036854775806) :
    Calls Try.prog 66 #[V] w fun e w' => e = .returned (.tuple #[]) ∧ Ext w0 w' ∧ Kept w w' (fun k => V.ownBlock = some k) := by
  obtain ⟨r, hr⟩ := spoil_loopI xs.length (xs.length + 1) xs 0 hl (by omega) (by omega) (by omega) (by omega)
  exact (PDiskPlays.rillkit_SpoilInts.calls (xs.length + 1) (fun k => V.ownBlock = some k) V xs r w0 w he (Kd.R_of_own (Kd.own_of_R h) (fun k hk => hk)) hr).mono fun e w' h => ⟨h.1, h.2.2.1, h.2.2.2⟩
set_option maxHeartbeats 1000000 in
theorem keptI_calls (ts : List Int) (ht : ts = lentI xs) (hr : Kd.C kI w A ts.length ts) (hc : ts.length ≤ c) (hr' : Kd.C kI w B xs.length xs) (hc' : xs.length ≤ d) (hl : xs.length ≤ 35184372088827) :
    Calls Try.prog 61 #[.slice A ts.length c, .slice B xs.length d] w fun e w' => e = .returned (.bool true) ∧ Ext w w' := by
  have htl : ts.length = xs.length + 5 := by rw [ht, lent_lengthI]
  have hb : ((ts.length : Int) == (xs.length : Int) + 5) = true := by simp [htl]
  have hb' : ((ts.length : Int) != (xs.length : Int) + 5) = false := by simp [htl]
  have hx : (xs.length : Int) ≤ 35184372088827 := by omega
  have hx0 : (0 : Int) ≤ (xs.length : Int) := by omega
  obtain ⟨i0, hi0, _, hsz, _⟩ := info_parts PDiskPlays.info3
  have hcut := cut_to (P := Try.prog) 23 3 .i64 Try.underlying23 hi0 A ts.length c (xs.length : Int) hx0 (by omega) hc
  rw [Int.toNat_natCast] at hcut
  have hC : Kd.C kI w A xs.length xs := by
    have := Kd.C_take (m := xs.length) hr (by omega)
    rw [ht, lent_takeI] at this
    exact this
  have hmark := lent_markI xs
  rw [← ht] at hmark
  have HM := Aside0.mk hmark
  have HR := Aside0.mk hr
  have HR' := Aside0.mk hr'
  have HC := Aside0.mk hC
  have HT := Aside0.mk htl
  have hlt : (ts.length : Int) ≤ 281474976710656 := by omega
  clear hmark hr hr' hC hi0 hsz ht htl
  go_enter Try.func61, Try.ntmps61
  go_wp2_with fail
  refine (sameI_at w A B c d xs xs true rfl rfl (by simp) HC.out (by have := HT.out; omega) HR'.out hc' (by omega)).mono ?_
  rintro e w1 ⟨rfl, hE⟩
  have HE := Aside0.mk hE
  clear hE hcut hb hb'
  go_wp2
  go_loop [5] (fun v => ∃ x : Int, v = .int .i64 x ∧ Aside0 ((xs.length : Int) ≤ x ∧ x ≤ ts.length)) (fun v => ts.length - (intOf v).toNat)
  case atStart => exact ⟨_, rfl, ⟨by omega, by have := HT.out; omega⟩⟩
  case round =>
    obtain ⟨x, rfl, HX⟩ := hrel
    obtain ⟨g0, g1⟩ := HX.out
    have hx0 : 0 ≤ x := by omega
    by_cases hlt : x < ts.length
    · obtain ⟨ad, e, hcell⟩ := at_k (Kd.C_below HR.out HE.out) x hx0 hlt
      rw [HM.out x g0 (by have := HT.out; omega)] at hcell
      subst e
      go_wp2
      go_round
      case rel => exact ⟨x + 1, by go_num, ⟨by omega, by omega⟩⟩
      case measure => simp [intOf]; omega
    · go_wp2
      go_ret
      exact ⟨rfl, HE.out⟩
end
end Go.Proofs.Ytkgjcmolmogpdaa.By
