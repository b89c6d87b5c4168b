/- A digest under way: Sum. -/
import Derived.Test.YtbnbncnmhhioeaaDoorHash
namespace Go.Proofs.YtbnbncnmhhioeaaDoor.By
open Go.RowKit Go.Proofs.YtbnbncnmhhioeaaDoor.Reg Go.Proofs.YtbnbncnmhhioeaaDoorW.PrintWords Go.Proofs.YtbnbncnmhhioeaaDoorW.PrintLast Go.Proofs.YtbnbncnmhhioeaaDoorW.PrintMore
set_option linter.unusedVariables false

theorem outA_length (s : S8) : ∀ n, (outA s n).length = n
  | 0 => rfl
  | n + 1 => by simp [outA, outA_length s n]
theorem sl_at (s : S8) (j : Int) (h0 : 0 ≤ j) (h1 : j < 8) : (nums .u32 s.l).toArray[j.toNat]? = some (.int .u32 (rd s.l j)) := by
  obtain h | h | h | h | h | h | h | h : j = 0 ∨ j = 1 ∨ j = 2 ∨ j = 3 ∨ j = 4 ∨ j = 5 ∨ j = 6 ∨ j = 7 := by omega
  all_goals (subst h; rfl)
theorem outB_eq (s : S8) (x : Int) (h : 0 ≤ x) : outB s x = rd s.l (x / 4) / 2 ^ (24 - 8 * (x % 4)).toNat % 256 := by
  unfold outB shr
  rw [show min (24 - 8 * (x % 4)).toNat IntKind.u32.bits = (24 - 8 * (x % 4)).toNat by show min _ 32 = _; omega]
def zs : List Int := List.replicate 32 0
set_option maxRecDepth 100000 in
set_option maxHeartbeats 16000000 in
theorem hsum_calls (w : World) (lo b : Nat) (bs : List Int) (V : Value) (hH : Hs w lo b bs V) (hT : Tab 1 w) (hl : bs.length ≤ 2199023255552) :
    Calls Tryd.prog 22 #[.pointer (some ⟨b, 0, none⟩)] w fun e w' => e = .returned (sumV (shaF bs)) ∧ Ext w w' := by
  obtain ⟨hlb, hbk, hnb⟩ := hH
  obtain ⟨k0, hk0⟩ : ∃ k0, k0 = bs.length / 64 := ⟨_, rfl⟩
  rw [← hk0] at hbk hnb
  obtain ⟨S0, hS0⟩ : ∃ S0, S0 = foldB k0 s0 bs := ⟨_, rfl⟩
  rw [← hS0] at hbk
  obtain ⟨r0, hr0⟩ : ∃ r0, r0 = bs.drop (64 * k0) := ⟨_, rfl⟩
  rw [← hr0] at hnb
  obtain ⟨N0, hN0⟩ : ∃ N0 : Nat, N0 = bs.length := ⟨_, rfl⟩
  rw [← hN0] at hbk hl hk0
  have hrl : r0.length = N0 - 64 * k0 := by rw [hr0, List.length_drop, hN0]
  obtain ⟨A1, c1, rfl, hc1, hC1⟩ := hnb.reads
  obtain ⟨q0, hq0⟩ : ∃ q0, q0 = r0.length := ⟨_, rfl⟩
  rw [← hq0] at hnb hbk hc1 hC1
  have hs1 : (w.alloc (.cells #[Value.int .u8 0, Value.int .u8 0, Value.int .u8 0, Value.int .u8 0, Value.int .u8 0, Value.int .u8 0, Value.int .u8 0, Value.int .u8 0, Value.int .u8 0, Value.int .u8 0, Value.int .u8 0, Value.int .u8 0, Value.int .u8 0, Value.int .u8 0, Value.int .u8 0, Value.int .u8 0, Value.int .u8 0, Value.int .u8 0, Value.int .u8 0, Value.int .u8 0, Value.int .u8 0, Value.int .u8 0, Value.int .u8 0, Value.int .u8 0, Value.int .u8 0, Value.int .u8 0, Value.int .u8 0, Value.int .u8 0, Value.int .u8 0, Value.int .u8 0, Value.int .u8 0, Value.int .u8 0] 26)).heap.size = w.heap.size + 1 := size_alloc _ _
  have hE1 := ((Ext.refl w).alloc (.cells #[Value.int .u8 0, Value.int .u8 0, Value.int .u8 0, Value.int .u8 0, Value.int .u8 0, Value.int .u8 0, Value.int .u8 0, Value.int .u8 0, Value.int .u8 0, Value.int .u8 0, Value.int .u8 0, Value.int .u8 0, Value.int .u8 0, Value.int .u8 0, Value.int .u8 0, Value.int .u8 0, Value.int .u8 0, Value.int .u8 0, Value.int .u8 0, Value.int .u8 0, Value.int .u8 0, Value.int .u8 0, Value.int .u8 0, Value.int .u8 0, Value.int .u8 0, Value.int .u8 0, Value.int .u8 0, Value.int .u8 0, Value.int .u8 0, Value.int .u8 0, Value.int .u8 0, Value.int .u8 0] 26))
  have HK2 := Aside0.mk (show Blk (w.alloc (.cells #[Value.int .u8 0, Value.int .u8 0, Value.int .u8 0, Value.int .u8 0, Value.int .u8 0, Value.int .u8 0, Value.int .u8 0, Value.int .u8 0, Value.int .u8 0, Value.int .u8 0, Value.int .u8 0, Value.int .u8 0, Value.int .u8 0, Value.int .u8 0, Value.int .u8 0, Value.int .u8 0, Value.int .u8 0, Value.int .u8 0, Value.int .u8 0, Value.int .u8 0, Value.int .u8 0, Value.int .u8 0, Value.int .u8 0, Value.int .u8 0, Value.int .u8 0, Value.int .u8 0, Value.int .u8 0, Value.int .u8 0, Value.int .u8 0, Value.int .u8 0, Value.int .u8 0, Value.int .u8 0] 26)) w.heap.size (nums .u8 zs).toArray 26 from Blk.new w _ 26)
  have HB1 := Aside0.mk (hbk.ext hE1)
  have HC1 := Aside0.mk (Kd.C_below hC1 hE1)
  have HT1 := Aside0.mk (hT.ext hE1)
  have HE1 := Aside0.mk hE1
  have HP := Aside0.mk (And.intro hS0 (And.intro hr0 (And.intro hN0 (And.intro hk0 (And.intro hrl hq0)))))
  have HS1 := Aside0.mk hs1
  obtain ⟨w1, hw1⟩ : ∃ w1, w1 = (w.alloc (.cells #[Value.int .u8 0, Value.int .u8 0, Value.int .u8 0, Value.int .u8 0, Value.int .u8 0, Value.int .u8 0, Value.int .u8 0, Value.int .u8 0, Value.int .u8 0, Value.int .u8 0, Value.int .u8 0, Value.int .u8 0, Value.int .u8 0, Value.int .u8 0, Value.int .u8 0, Value.int .u8 0, Value.int .u8 0, Value.int .u8 0, Value.int .u8 0, Value.int .u8 0, Value.int .u8 0, Value.int .u8 0, Value.int .u8 0, Value.int .u8 0, Value.int .u8 0, Value.int .u8 0, Value.int .u8 0, Value.int .u8 0, Value.int .u8 0, Value.int .u8 0, Value.int .u8 0, Value.int .u8 0] 26)) := ⟨_, rfl⟩
  have HE2 := Aside0.mk ((Ext.refl (w.alloc (.cells #[Value.int .u8 0, Value.int .u8 0, Value.int .u8 0, Value.int .u8 0, Value.int .u8 0, Value.int .u8 0, Value.int .u8 0, Value.int .u8 0, Value.int .u8 0, Value.int .u8 0, Value.int .u8 0, Value.int .u8 0, Value.int .u8 0, Value.int .u8 0, Value.int .u8 0, Value.int .u8 0, Value.int .u8 0, Value.int .u8 0, Value.int .u8 0, Value.int .u8 0, Value.int .u8 0, Value.int .u8 0, Value.int .u8 0, Value.int .u8 0, Value.int .u8 0, Value.int .u8 0, Value.int .u8 0, Value.int .u8 0, Value.int .u8 0, Value.int .u8 0, Value.int .u8 0, Value.int .u8 0] 26))).alloc (.cells #[] 5))
  have hn0 := NB_empty (w.alloc (.cells #[Value.int .u8 0, Value.int .u8 0, Value.int .u8 0, Value.int .u8 0, Value.int .u8 0, Value.int .u8 0, Value.int .u8 0, Value.int .u8 0, Value.int .u8 0, Value.int .u8 0, Value.int .u8 0, Value.int .u8 0, Value.int .u8 0, Value.int .u8 0, Value.int .u8 0, Value.int .u8 0, Value.int .u8 0, Value.int .u8 0, Value.int .u8 0, Value.int .u8 0, Value.int .u8 0, Value.int .u8 0, Value.int .u8 0, Value.int .u8 0, Value.int .u8 0, Value.int .u8 0, Value.int .u8 0, Value.int .u8 0, Value.int .u8 0, Value.int .u8 0, Value.int .u8 0, Value.int .u8 0] 26)) (w.heap.size + 1) (by rw [hs1]; exact Nat.le_refl _)
  rw [hs1] at hn0
  have HN0 := Aside0.mk hn0
  have hbel : Below (w.heap.size + 1) (w.alloc (.cells #[Value.int .u8 0, Value.int .u8 0, Value.int .u8 0, Value.int .u8 0, Value.int .u8 0, Value.int .u8 0, Value.int .u8 0, Value.int .u8 0, Value.int .u8 0, Value.int .u8 0, Value.int .u8 0, Value.int .u8 0, Value.int .u8 0, Value.int .u8 0, Value.int .u8 0, Value.int .u8 0, Value.int .u8 0, Value.int .u8 0, Value.int .u8 0, Value.int .u8 0, Value.int .u8 0, Value.int .u8 0, Value.int .u8 0, Value.int .u8 0, Value.int .u8 0, Value.int .u8 0, Value.int .u8 0, Value.int .u8 0, Value.int .u8 0, Value.int .u8 0, Value.int .u8 0, Value.int .u8 0] 26)) ((w.alloc (.cells #[Value.int .u8 0, Value.int .u8 0, Value.int .u8 0, Value.int .u8 0, Value.int .u8 0, Value.int .u8 0, Value.int .u8 0, Value.int .u8 0, Value.int .u8 0, Value.int .u8 0, Value.int .u8 0, Value.int .u8 0, Value.int .u8 0, Value.int .u8 0, Value.int .u8 0, Value.int .u8 0, Value.int .u8 0, Value.int .u8 0, Value.int .u8 0, Value.int .u8 0, Value.int .u8 0, Value.int .u8 0, Value.int .u8 0, Value.int .u8 0, Value.int .u8 0, Value.int .u8 0, Value.int .u8 0, Value.int .u8 0, Value.int .u8 0, Value.int .u8 0, Value.int .u8 0, Value.int .u8 0] 26)).alloc (.cells #[] 5)) := by have := HE2.out; unfold Ext at this; rwa [hs1] at this
  have HBE := Aside0.mk hbel
  have c8 := ((hbk.ext hE1).alloc (.cells #[] 5)).cell 8 (v := .slice A1 q0 c1) rfl
  clear hbk hnb hS0 hr0 hN0 hk0 hrl hq0 hs1 hE1 hT hC1 hn0 hbel hlb hw1
  go_enter Tryd.func22, Tryd.ntmps22
  go_wp2_with (at_builtin; go_loud (refine Kd.R_append_rows kb (Rr := kb.K (w.alloc (.cells #[Value.int .u8 0, Value.int .u8 0, Value.int .u8 0, Value.int .u8 0, Value.int .u8 0, Value.int .u8 0, Value.int .u8 0, Value.int .u8 0, Value.int .u8 0, Value.int .u8 0, Value.int .u8 0, Value.int .u8 0, Value.int .u8 0, Value.int .u8 0, Value.int .u8 0, Value.int .u8 0, Value.int .u8 0, Value.int .u8 0, Value.int .u8 0, Value.int .u8 0, Value.int .u8 0, Value.int .u8 0, Value.int .u8 0, Value.int .u8 0, Value.int .u8 0, Value.int .u8 0, Value.int .u8 0, Value.int .u8 0, Value.int .u8 0, Value.int .u8 0, Value.int .u8 0, Value.int .u8 0] 26))) (w0 := (w.alloc (.cells #[Value.int .u8 0, Value.int .u8 0, Value.int .u8 0, Value.int .u8 0, Value.int .u8 0, Value.int .u8 0, Value.int .u8 0, Value.int .u8 0, Value.int .u8 0, Value.int .u8 0, Value.int .u8 0, Value.int .u8 0, Value.int .u8 0, Value.int .u8 0, Value.int .u8 0, Value.int .u8 0, Value.int .u8 0, Value.int .u8 0, Value.int .u8 0, Value.int .u8 0, Value.int .u8 0, Value.int .u8 0, Value.int .u8 0, Value.int .u8 0, Value.int .u8 0, Value.int .u8 0, Value.int .u8 0, Value.int .u8 0, Value.int .u8 0, Value.int .u8 0, Value.int .u8 0, Value.int .u8 0] 26))) (w.heap.size + 1) rfl (.tmp 9) (.tmp 13) 22 5 _ 1 rfl Tryd.underlying22 PShaAdds.info5 rfl (by decide) (by decide) _ [] r0 A1 q0 c1 (fun _ => True) (fun _ => False) rfl rfl HN0.out ?c1 kb_KM (fun _ h => h.elim) (fun _ _ => trivial) HBE.out ?c2 ?c3 ?_))
  case c1 => exact Kd.C_below HC1.out HE2.out
  case c2 => rw [size_alloc, HS1.out]; exact Nat.le_succ _
  case c3 => have := HP.out; simp; omega
  intro v2 w2 hR2 hB2 hg2 hat2
  replace hR2 : NB w2 (w.heap.size + 1) v2 r0 := hR2
  have HX2 := Aside0.mk (show Ext (w.alloc (.cells #[Value.int .u8 0, Value.int .u8 0, Value.int .u8 0, Value.int .u8 0, Value.int .u8 0, Value.int .u8 0, Value.int .u8 0, Value.int .u8 0, Value.int .u8 0, Value.int .u8 0, Value.int .u8 0, Value.int .u8 0, Value.int .u8 0, Value.int .u8 0, Value.int .u8 0, Value.int .u8 0, Value.int .u8 0, Value.int .u8 0, Value.int .u8 0, Value.int .u8 0, Value.int .u8 0, Value.int .u8 0, Value.int .u8 0, Value.int .u8 0, Value.int .u8 0, Value.int .u8 0, Value.int .u8 0, Value.int .u8 0, Value.int .u8 0, Value.int .u8 0, Value.int .u8 0, Value.int .u8 0] 26)) w2 by unfold Ext; rw [HS1.out]; exact hB2)
  have HR2 := Aside0.mk hR2
  clear hR2 hB2 hg2 hat2 c8 HN0 HE2 HBE
  go_wp2_with (at_builtin; go_loud (refine Kd.R_append kb (w0 := w2) (w.heap.size + 1) rfl (.tmp 14) (.tmp 15) 22 5 _ 1 rfl Tryd.underlying22 PShaAdds.info5 rfl (by decide) (by decide) v2 r0 128 [.int .u8 128] (fun _ => True) (fun _ => False) rfl rfl ?c1 (fun _ h => h.elim) (fun _ _ => trivial) HR2.out ?c2 ?c3 ?c4 ?_))
  case c1 => exact rfl
  case c2 => exact Below.refl _ _
  case c3 => rw [← HS1.out]; exact HX2.out.size
  case c4 => have := HP.out; omega
  intro v3 w3 hR3 hB3 hg3 hat3
  have HX3 := Aside0.mk (show Ext (w.alloc (.cells #[Value.int .u8 0, Value.int .u8 0, Value.int .u8 0, Value.int .u8 0, Value.int .u8 0, Value.int .u8 0, Value.int .u8 0, Value.int .u8 0, Value.int .u8 0, Value.int .u8 0, Value.int .u8 0, Value.int .u8 0, Value.int .u8 0, Value.int .u8 0, Value.int .u8 0, Value.int .u8 0, Value.int .u8 0, Value.int .u8 0, Value.int .u8 0, Value.int .u8 0, Value.int .u8 0, Value.int .u8 0, Value.int .u8 0, Value.int .u8 0, Value.int .u8 0, Value.int .u8 0, Value.int .u8 0, Value.int .u8 0, Value.int .u8 0, Value.int .u8 0, Value.int .u8 0, Value.int .u8 0] 26)) w3 by have h := HX2.out; unfold Ext at h ⊢; rw [HS1.out] at h ⊢; exact h.trans hB3)
  have HR3 := Aside0.mk (show NB w3 (w.heap.size + 1) v3 (r0 ++ 128 :: List.replicate 0 0) from hR3)
  clear hR3 hB3 hg3 hat3 HR2 HX2
  have hs1 := HS1.out
  obtain ⟨wb, hwb⟩ : ∃ wb, wb = (w.alloc (.cells #[Value.int .u8 0, Value.int .u8 0, Value.int .u8 0, Value.int .u8 0, Value.int .u8 0, Value.int .u8 0, Value.int .u8 0, Value.int .u8 0, Value.int .u8 0, Value.int .u8 0, Value.int .u8 0, Value.int .u8 0, Value.int .u8 0, Value.int .u8 0, Value.int .u8 0, Value.int .u8 0, Value.int .u8 0, Value.int .u8 0, Value.int .u8 0, Value.int .u8 0, Value.int .u8 0, Value.int .u8 0, Value.int .u8 0, Value.int .u8 0, Value.int .u8 0, Value.int .u8 0, Value.int .u8 0, Value.int .u8 0, Value.int .u8 0, Value.int .u8 0, Value.int .u8 0, Value.int .u8 0] 26)) := ⟨_, rfl⟩
  rw [← hwb] at hs1 HK2 HB1 HT1 HE1 HX3
  clear HC1 HS1 hwb
  have HS1 := Aside0.mk hs1
  have HZ := Aside0.mk (show (119 - N0 % 64) % 64 = (119 - q0 % 64) % 64 by have := HP.out; rw [this.2.2.2.2.2, this.2.2.2.2.1, this.2.2.2.1]; omega)
  have HQ := Aside0.mk (show q0 < 64 by have := HP.out; omega)
  clear hs1
  go_wp2_with fail
  go_loopw [3] (fun v wr => ∃ j : Nat, Aside0 (j ≤ (119 - q0 % 64) % 64) ∧ Aside0 (NB wr (w.heap.size + 1) v (r0 ++ 128 :: List.replicate j 0)) ∧ Aside0 (Ext wb wr)) (fun v _ => 200 - (match v with | .slice _ n _ => n | _ => 0))
  case atStart => exact ⟨0, ⟨Nat.zero_le _⟩, HR3, HX3⟩
  case round =>
    clear HR3 HX3
    obtain ⟨j, HJ, HN, HX⟩ := hrel
    obtain ⟨A3, c3, hu3, hc3, hC3⟩ := HN.out.reads
    obtain ⟨L3, hL3⟩ : ∃ L3, L3 = (r0 ++ 128 :: List.replicate j 0).length := ⟨_, rfl⟩
    rw [← hL3] at hu3 hc3 hC3
    subst hu3
    have hLj : L3 = q0 + 1 + j := by rw [hL3]; simp; have := HP.out; omega
    have HL3 := Aside0.mk hL3
    have HLJ := Aside0.mk hLj
    have HC3 := Aside0.mk hC3
    have hjz := HJ.out
    obtain ⟨wx, hwx⟩ : ∃ wx : World, wx = wr := ⟨_, rfl⟩
    subst hwx
    by_cases hj : j < (119 - q0 % 64) % 64
    · have hz : ((L3 : Int) % 64 != 56) = true := by have := HQ.out; simp; omega
      have hz2 : ((L3 : Int) % 64 == 56) = false := by have := HQ.out; simp; omega
      clear hL3 hLj hC3
      go_wp2_with (at_builtin; go_loud (refine Kd.R_append kb (w0 := wx) (w.heap.size + 1) rfl (.tmp 21) (.tmp 22) 22 5 _ 1 rfl Tryd.underlying22 PShaAdds.info5 rfl (by decide) (by decide) (.slice A3 L3 c3) (r0 ++ 128 :: List.replicate j 0) 0 [.int .u8 0] (fun _ => True) (fun _ => False) rfl rfl ?c1 (fun _ h => h.elim) (fun _ _ => trivial) HN.out ?c2 ?c3 ?c4 ?_))
      case c1 => exact rfl
      case c2 => exact Below.refl _ _
      case c3 => rw [← HS1.out]; exact HX.out.size
      case c4 => rw [← HL3.out]; have := HLJ.out; have := HQ.out; omega
      intro v4 w4 hR4 hB4 hg4 hat4
      have HX4 := Aside0.mk (show Ext wb w4 by have h := HX.out; unfold Ext at h ⊢; rw [HS1.out] at h ⊢; exact h.trans hB4)
      replace hR4 : NB w4 (w.heap.size + 1) v4 (r0 ++ 128 :: (List.replicate j 0 ++ [0])) := hR4
      rw [← List.replicate_succ'] at hR4
      obtain ⟨A4, c4, rfl, _, _⟩ := hR4.reads
      have HN4 := Aside0.mk hR4
      have HLM := Aside0.mk (show (r0 ++ 128 :: List.replicate (j + 1) 0).length = L3 + 1 by rw [HL3.out]; simp; omega)
      have HJ' := Aside0.mk (show j + 1 ≤ (119 - q0 % 64) % 64 from hj)
      clear hR4 hB4 hg4 hat4 HN HX HC3 hj hjz
      go_wp2_with fail
      go_roundw
      case rel => exact ⟨j + 1, HJ', HN4, HX4⟩
      case measure => have h1 := HLM.out; have h2 := HLJ.out; have h3 := HQ.out; have h4 := HJ'.out; simp only []; omega
    · have hz : ((L3 : Int) % 64 != 56) = false := by have := HQ.out; simp; omega
      have hz2 : ((L3 : Int) % 64 == 56) = true := by have := HQ.out; simp; omega
      have hjj : j = (119 - q0 % 64) % 64 := by omega
      obtain ⟨X, hX⟩ : ∃ X, X = r0 ++ 128 :: List.replicate j 0 := ⟨_, rfl⟩
      rw [← hX] at hL3 hC3
      have HNX := Aside0.mk (show NB wx (w.heap.size + 1) (.slice A3 L3 c3) (X ++ endA (N0 : Int) 0) by rw [show endA (N0 : Int) 0 = [] from rfl, List.append_nil, hX]; exact HN.out)
      have HXX := Aside0.mk (And.intro hX (And.intro hjj (And.intro hL3 hLj)))
      have c9 := (HB1.out.ext HX.out).cell 9 (v := .int .i64 N0) rfl
      have hq := HQ.out
      clear HN HC3 HL3 HLJ HJ hX hjj hL3 hLj hC3 hj hjz
      have hN0 : (N0 : Int) ≤ 2199023255552 := by omega
      have HQ2 := Aside0.mk hq
      have HWR := Aside0.mk (show IntKind.u64.wrap (IntKind.u64.wrap (N0 : Int) * 8) = (N0 : Int) * 8 by
        have e1 : IntKind.u64.wrap (N0 : Int) = (N0 : Int) := by simp [IntKind.wrap, IntKind.signed, IntKind.bits]; omega
        rw [e1]; simp [IntKind.wrap, IntKind.signed, IntKind.bits]; omega)
      go_wp2_with fail
      clear c9 hz hz2
      go_loopw [3, 5] (fun v i wr => ∃ k : Nat, i = .int .i64 (56 - 8 * k) ∧ Aside0 (k ≤ 8) ∧ Aside0 (NB wr (w.heap.size + 1) v (X ++ endA (N0 : Int) k)) ∧ Aside0 (Ext wb wr)) (fun _ i _ => (intOf i + 8).toNat)
      case atStart => exact ⟨0, rfl, ⟨Nat.zero_le _⟩, HNX, HX⟩
      case round =>
        clear HNX HX
        obtain ⟨k, rfl, HK, HN, HX⟩ := hrel
        have hk := HK.out
        obtain ⟨wy, hwy⟩ : ∃ wy : World, wy = wr := ⟨_, rfl⟩
        subst hwy
        obtain ⟨V5, hV5⟩ : ∃ V5, V5 = u3 := ⟨_, rfl⟩
        by_cases hk8 : k < 8
        · have hz : 8 * (k : Int) ≤ 56 := by omega
          have HEA := Aside0.mk (show endA (N0 : Int) (k + 1) = endA (N0 : Int) k ++ [(N0 : Int) * 8 / 2 ^ (56 - 8 * k) % 256] by
            have e : min (8 * (7 - (k : Int))).toNat IntKind.u64.bits = 56 - 8 * k := by show min _ 64 = _; omega
            rw [endA, HWR.out]
            unfold shr
            rw [e])
          have HK8 := Aside0.mk hk8
          go_wp2_with (at_builtin; go_loud (refine Kd.R_append kb (w0 := wy) (w.heap.size + 1) rfl (.tmp 34) (.tmp 39) 22 5 _ 1 rfl Tryd.underlying22 PShaAdds.info5 rfl (by decide) (by decide) u3 (X ++ endA (N0 : Int) k) ((N0 : Int) * 8 / 2 ^ (56 - 8 * k) % 256) [.int .u8 ((N0 : Int) * 8 / 2 ^ (56 - 8 * k) % 256)] (fun _ => True) (fun _ => False) rfl rfl ?c1 (fun _ h => h.elim) (fun _ _ => trivial) HN.out ?c2 ?c3 ?c4 ?_))
          case c1 => exact rfl
          case c2 => exact Below.refl _ _
          case c3 => rw [← HS1.out]; exact HX.out.size
          case c4 => rw [List.length_append, endA_length, ← HXX.out.2.2.1, HXX.out.2.2.2]; have := HXX.out.2.1; omega
          intro v6 w6 hR6 hB6 hg6 hat6
          have HX6 := Aside0.mk (show Ext wb w6 by have h := HX.out; unfold Ext at h ⊢; rw [HS1.out] at h ⊢; exact h.trans hB6)
          have HN6 := Aside0.mk (show NB w6 (w.heap.size + 1) v6 (X ++ endA (N0 : Int) (k + 1)) by
            rw [HEA.out, ← List.append_assoc]
            have h : NB w6 (w.heap.size + 1) v6 (X ++ (endA (N0 : Int) k ++ [(N0 : Int) * 8 / 2 ^ (56 - 8 * k) % 256])) := hR6
            rwa [← List.append_assoc] at h)
          clear hR6 hB6 hg6 hat6 HN HX
          go_wp2_with fail
          go_roundw
          case rel => exact ⟨k + 1, by congr 1; omega, ⟨by have := HK8.out; omega⟩, HN6, HX6⟩
          case measure => have := HK8.out; simp only [intOf]; omega
        · have hk9 : k = 8 := by omega
          subst hk9
          clear hk8 hk HK hV5
          have HI := Aside0.mk (show ∀ s : S8, (Tryd.prog.info? 54).map (·.size) = some (nums .u32 s.l).length from fun s => by kernel_rfl)
          obtain ⟨Y, hY⟩ : ∃ Y, Y = X ++ endA (N0 : Int) 8 := ⟨_, rfl⟩
          rw [← hY] at HN
          obtain ⟨LY, hLY⟩ : ∃ LY, LY = Y.length := ⟨_, rfl⟩
          have hLY2 : LY = q0 + 9 + (119 - q0 % 64) % 64 := by
            have := HXX.out
            rw [hLY, hY, List.length_append, endA_length, ← this.2.2.1, this.2.2.2, this.2.1]; omega
          obtain ⟨T, hTT⟩ : ∃ T, T = LY / 64 := ⟨_, rfl⟩
          have hTL : LY = 64 * T := by rw [hTT, hLY2]; omega
          obtain ⟨A6, c6, hu6, hc6, hC6⟩ := HN.out.reads
          rw [← hLY] at hu6 hc6 hC6
          subst hu6
          have HYY := Aside0.mk (And.intro hY (And.intro hLY (And.intro hTT (And.intro hTL hLY2))))
          have HC6 := Aside0.mk hC6
          have HRG := Aside0.mk ((HB1.out.ext HX.out).range 0 (nums .u32 S0.l) [.slice A1 q0 c1, .int .i64 N0] (by simp [hC]))
          have HT6 := Aside0.mk (HT1.out.ext HX.out)
          have hLY9 : (LY : Int) ≤ 200 := by have := HQ.out; omega
          clear hY hLY hTT hTL hC6 HN hLY2
          go_wp2_with (first | ((with_reducible refine gate_load (ty := 54) rfl ?_); refine load_at rfl 54 _ rfl b 0 rfl (nums .u32 S0.l) _ HRG.out Tryd.underlying54 rfl (HI.out _) ?_) | ((with_reducible refine gate_store (ty := 54) rfl ?_); (refine store_at rfl 54 _ _ rfl wy.heap.size (nums .u32 S0.l) rfl rfl _ 54 (Blk.new wy #[Value.int .u32 0, Value.int .u32 0, Value.int .u32 0, Value.int .u32 0, Value.int .u32 0, Value.int .u32 0, Value.int .u32 0, Value.int .u32 0] 54) (by rfl) (HI.out _) (one_cells _ _) ?_)) | fail)
          intro w7 hW7 hB7
          have HB7 : Aside0 (Blk w7 wy.heap.size (nums .u32 (foldB 0 S0 Y).l).toArray 54) := ⟨hB7⟩
          have HX7 := Aside0.mk (hW7.ext ((Ext.refl wy).alloc _) (Nat.le_refl _))
          have HTZ := Aside0.mk (show foldB T S0 Y = foldB T S0 (Y ++ []) by rw [List.append_nil])
          have HC60 : Aside0 (Kd.C kb wy A6 (LY - 64 * 0) (Y.drop (64 * 0))) := ⟨by simpa using HC6.out⟩
          have hc60 : LY - 64 * 0 ≤ c6 := by omega
          clear hW7 hB7 HC6
          go_wp2_with fail
          go_loopw [3] (fun v wr => ∃ m : Nat, ∃ Am cm q, v = .slice Am q cm ∧ q ≤ cm ∧ Aside0 (q = LY - 64 * m ∧ m ≤ T) ∧ Aside0 (Kd.C kb wy Am q (Y.drop (64 * m))) ∧ Aside0 (Blk wr wy.heap.size (nums .u32 (foldB m S0 Y).l).toArray 54) ∧ Aside0 (Ext wy wr)) (fun v _ => match v with | .slice _ n _ => n | _ => 0)
          case atStart => exact ⟨0, A6, c6, LY, rfl, hc6, ⟨by omega, Nat.zero_le _⟩, ⟨by simpa using HC60.out⟩, HB7, HX7⟩
          case round =>
            clear HC60 HB7 HX7 hc60
            obtain ⟨m, Am, cm, q, rfl, hqc, HM, HCM, HB, HE⟩ := hrel
            obtain ⟨hq1, hq2⟩ := HM.out
            obtain ⟨wz, hwz⟩ : ∃ wz : World, wz = wr := ⟨_, rfl⟩
            subst hwz
            by_cases hm : m < T
            · have h64 : 64 ≤ q := by have := HYY.out.2.2.2.1; omega
              have hz : (0 < (q : Int)) = True := eq_true (by omega)
              have hz0 : 0 < q := by omega
              obtain ⟨i0, hi0, _, hsz, _⟩ := info_parts PShaAdds.info5
              have hcut1 := cut_to (P := Tryd.prog) 22 5 .i64 Tryd.underlying22 hi0 Am q cm 64 (by decide) (by omega) hqc
              rw [show (64 : Int).toNat = 64 from rfl] at hcut1
              have hlenY : (Y.drop (64 * m)).length = q := by rw [List.length_drop, ← HYY.out.2.1]; omega
              obtain ⟨AF, cF, hcut2, hcF, hCF⟩ := cutF Am q cm (Y.drop (64 * m)) 64 hlenY.symm hqc h64 64 rfl
              have HCB := Aside0.mk (show Kd.C kb wy Am 64 ((Y.drop (64 * m)).take 64) by
                have h := Kd.C_take (m := 64) (hlenY ▸ HCM.out) (by rw [hlenY]; exact h64)
                rwa [show ((Y.drop (64 * m)).take 64).length = 64 by rw [List.length_take, hlenY]; omega] at h)
              have HCN := Aside0.mk (show Kd.C kb wy AF (q - 64) (Y.drop (64 * (m + 1))) by
                have h := hCF wy HCM.out
                rwa [List.drop_drop, show 64 * m + 64 = 64 * (m + 1) by omega] at h)
              have HBL := Aside0.mk (show ((Y.drop (64 * m)).take 64).length = 64 by rw [List.length_take, hlenY]; omega)
              have HSU := Aside0.mk (foldB_succ m S0 Y)
              have HMM := Aside0.mk (And.intro hm (And.intro hq1 h64))
              generalize foldB m S0 Y = Sm at HB HSU
              generalize (Y.drop (64 * m)).take 64 = blk at HCB HBL HSU
              have hcm64 : 64 ≤ cm := by omega
              clear hCF hlenY hi0 hsz HCM hq1 hq2 hm HM
              go_wp2_with fail
              apply wp_region_facts 4 [RF.val (.agg (nums .u32 Sm.l).toArray), RF.val (.slice Am q cm), RF.val (.slice Am 64 cm), RF.val (.agg (nums .u32 (takeF Sm blk).l).toArray)] (by kernel_rfl) (by kernel_rfl)
              simp only [List.take_succ_cons, List.take_zero, List.zip_cons_cons, List.zip_nil_left]
              (first | apply wpF_val rfl | apply wpF_valg (by rfl)); (intro w' hE hD; exact Yld_load 54 (.tmp 6) rfl wy.heap.size 0 rfl (nums .u32 Sm.l) _ ((HB.out.ext hE).range 0 (nums .u32 Sm.l) [] (by simp)) Tryd.underlying54 rfl (HI.out _)); (try simp only [Act.put, List.setIfInBounds_toArray, List.set_cons_zero, List.set_cons_succ])
              (first | apply wpF_val rfl | apply wpF_valg (by rfl)); (intro w' hE hD; unfold Yld; go_simp; exact ⟨Ext.refl _, rfl⟩); (try simp only [Act.put, List.setIfInBounds_toArray, List.set_cons_zero, List.set_cons_succ])
              (first | apply wpF_val rfl | apply wpF_valg (by rfl)); (intro w' hE hD; unfold Yld; go_simp; exact ⟨Ext.refl _, rfl⟩); (try simp only [Act.put, List.setIfInBounds_toArray, List.set_cons_zero, List.set_cons_succ])
              (first | apply wpF_val rfl | apply wpF_valg (by rfl)); (intro w' hE hD; unfold Yld; go_simp; exact (take_calls w' Sm Am cm blk HBL.out (Kd.C_below HCB.out (HE.out.trans hE)) hcm64 (HT6.out.ext (HE.out.trans hE)) _ rfl).mono fun e w2 h => ⟨_, h.1, h.2, rfl⟩); (try simp only [Act.put, List.setIfInBounds_toArray, List.set_cons_zero, List.set_cons_succ])
              refine wpF_nil fun w8 hE hA => ?_
              have HB8 := Aside0.mk (HB.out.ext hE)
              have HE8 := Aside0.mk (HE.out.trans hE)
              simp only [List.drop_succ_cons, List.drop_zero]
              clear hA hE HB HE HCB
              go_wp2_with (first | ((with_reducible refine gate_store (ty := 54) rfl ?_); (refine store_at rfl 54 _ _ rfl wy.heap.size (nums .u32 (takeF Sm blk).l) rfl rfl _ 54 HB8.out (by rfl) (HI.out _) (one_cells _ _) ?_)) | fail)
              intro w9 hW9 hB9
              have HB9 := Aside0.mk hB9
              have HE9 := Aside0.mk (hW9.ext HE8.out (Nat.le_refl _))
              clear hW9 hB9 HB8 HE8
              go_wp2_with fail
              go_roundw
              case rel => exact ⟨m + 1, AF, cF, q - 64, rfl, hcF, ⟨by have := HMM.out; omega, HMM.out.1⟩, HCN, ⟨by rw [HSU.out]; exact HB9.out⟩, HE9⟩
              case measure => have := HMM.out; simp only []; omega
            · have hmT : m = T := by omega
              subst hmT
              have hq0 : q = 0 := by have := HYY.out.2.2.2.1; omega
              subst hq0
              generalize hSF : foldB m S0 Y = SF at HB
              have HSF := Aside0.mk hSF
              have HB6 := Aside0.mk (HB.out.alloc (.cells #[Value.int .u8 0, Value.int .u8 0, Value.int .u8 0, Value.int .u8 0, Value.int .u8 0, Value.int .u8 0, Value.int .u8 0, Value.int .u8 0, Value.int .u8 0, Value.int .u8 0, Value.int .u8 0, Value.int .u8 0, Value.int .u8 0, Value.int .u8 0, Value.int .u8 0, Value.int .u8 0, Value.int .u8 0, Value.int .u8 0, Value.int .u8 0, Value.int .u8 0, Value.int .u8 0, Value.int .u8 0, Value.int .u8 0, Value.int .u8 0, Value.int .u8 0, Value.int .u8 0, Value.int .u8 0, Value.int .u8 0, Value.int .u8 0, Value.int .u8 0, Value.int .u8 0, Value.int .u8 0] 26))
              have HB7 := Aside0.mk (show Blk (wz.alloc (.cells #[Value.int .u8 0, Value.int .u8 0, Value.int .u8 0, Value.int .u8 0, Value.int .u8 0, Value.int .u8 0, Value.int .u8 0, Value.int .u8 0, Value.int .u8 0, Value.int .u8 0, Value.int .u8 0, Value.int .u8 0, Value.int .u8 0, Value.int .u8 0, Value.int .u8 0, Value.int .u8 0, Value.int .u8 0, Value.int .u8 0, Value.int .u8 0, Value.int .u8 0, Value.int .u8 0, Value.int .u8 0, Value.int .u8 0, Value.int .u8 0, Value.int .u8 0, Value.int .u8 0, Value.int .u8 0, Value.int .u8 0, Value.int .u8 0, Value.int .u8 0, Value.int .u8 0, Value.int .u8 0] 26)) wz.heap.size (nums .u8 (upto 32 (outA SF 0))).toArray 26 from Blk.new wz _ 26)
              have HEZ := Aside0.mk ((Ext.refl wz).alloc (.cells #[Value.int .u8 0, Value.int .u8 0, Value.int .u8 0, Value.int .u8 0, Value.int .u8 0, Value.int .u8 0, Value.int .u8 0, Value.int .u8 0, Value.int .u8 0, Value.int .u8 0, Value.int .u8 0, Value.int .u8 0, Value.int .u8 0, Value.int .u8 0, Value.int .u8 0, Value.int .u8 0, Value.int .u8 0, Value.int .u8 0, Value.int .u8 0, Value.int .u8 0, Value.int .u8 0, Value.int .u8 0, Value.int .u8 0, Value.int .u8 0, Value.int .u8 0, Value.int .u8 0, Value.int .u8 0, Value.int .u8 0, Value.int .u8 0, Value.int .u8 0, Value.int .u8 0, Value.int .u8 0] 26))
              have hb67 := HB.out.lt
              have HLT6 := Aside0.mk hb67
              clear hSF HM HCM hm hq1 hq2 hb67
              go_wp2_with fail
              go_loopw [54] (fun i wr => ∃ x : Int, i = .int .i64 x ∧ Aside0 (0 ≤ x ∧ x ≤ 32) ∧ Aside0 (Blk wr wy.heap.size (nums .u32 SF.l).toArray 54) ∧ Aside0 (Blk wr wz.heap.size (nums .u8 (upto 32 (outA SF x.toNat))).toArray 26) ∧ Aside0 (Ext wz wr)) (fun i _ => 32 - (intOf i).toNat)
              case atStart => exact ⟨0, rfl, ⟨by decide⟩, HB6, HB7, HEZ⟩
              case round =>
                clear HB6 HB7 HEZ
                obtain ⟨x, rfl, HXX2, HB6, HB7, HEZ⟩ := hrel
                obtain ⟨g0, g1⟩ := HXX2.out
                obtain ⟨wv, hwv⟩ : ∃ wv : World, wv = wr := ⟨_, rfl⟩
                subst hwv
                by_cases hlt : x < 32
                · have HLT := Aside0.mk hlt
                  have hd0 : 0 ≤ x / 4 := by omega
                  have hd1 : x / 4 < 8 := by omega
                  have hcell := HB6.out.cell (x / 4).toNat (v := .int .u32 (rd SF.l (x / 4))) (sl_at SF (x / 4) hd0 hd1)
                  have hr0 : 0 ≤ x % 4 := by omega
                  have hr1 : x % 4 < 4 := by omega
                  obtain ⟨v0, hv0⟩ := upto_there 32 (outA SF x.toNat) x.toNat .u8 (by omega) (by rw [outA_length]; omega)
                  have hcl := HB7.out.cell x.toNat hv0
                  have hfr := HB7.out.free x.toNat
                  have hst := HB7.out.set x.toNat (.int .u8 (outB SF x))
                  have hset := upto_set 32 (outA SF x.toNat) (outB SF x) .u8 (by rw [outA_length]; omega)
                  rw [outA_length, show outA SF x.toNat ++ [outB SF x] = outA SF (x + 1).toNat by rw [show (x + 1).toNat = x.toNat + 1 by omega, outA, Int.toNat_of_nonneg g0]] at hset
                  rw [hset, outB_eq SF x g0] at hst
                  have HST := Aside0.mk hst
                  have hw := Wrote.setCell wv wz.heap.size x.toNat (.int .u8 (rd SF.l (x / 4) / 2 ^ (24 - 8 * (x % 4)).toNat % 256))
                  have HB6' := Aside0.mk (HB6.out.wrote hw (Nat.ne_of_lt HLT6.out))
                  have HEZ' := Aside0.mk (hw.ext HEZ.out (Nat.le_refl _))
                  clear hv0 hst hset hw HB6 HB7 HEZ
                  go_wp2_with fail
                  go_roundw
                  case rel => exact ⟨x + 1, rfl, ⟨by omega, by omega⟩, HB6', HST, HEZ'⟩
                  case measure => have := HLT.out; simp only [intOf]; omega
                · have hx : x = 32 := by omega
                  subst hx
                  have HB7' : Aside0 (Blk wv wz.heap.size (nums .u8 (digest SF)).toArray 26) := ⟨by have h := HB7.out; unfold upto at h; rw [outA_length] at h; simpa [digest] using h⟩
                  have HI26 := Aside0.mk (show (Tryd.prog.info? 26).map (·.size) = some (nums .u8 (digest SF)).length by rw [nums_length]; unfold digest; rw [outA_length]; kernel_rfl)
                  have HEW := Aside0.mk (HE1.out.trans (HX.out.trans (HE.out.trans HEZ.out)))
                  have HR2 := Aside0.mk (HK2.out.ext (HX.out.trans (HE.out.trans HEZ.out)))
                  have HSZ := Aside0.mk (show (nums .u8 zs).toArray.size = (nums .u8 (digest SF)).length by rw [nums_length]; unfold digest; rw [outA_length]; rfl)
                  have HFIN := Aside0.mk (show shaF bs = digest SF by
                    have hp := HP.out
                    have hx := HXX.out
                    have hy := HYY.out
                    have e1 : padF bs.length = 128 :: (List.replicate j 0 ++ endA (N0 : Int) 8) := by unfold padF; rw [← hp.2.2.1, HZ.out, ← hx.2.1]
                    have e2 : Y = r0 ++ padF bs.length := by rw [hy.1, hx.1, e1]; simp
                    have e3 : m = ((bs.drop (64 * k0)).length + (padF bs.length).length) / 64 := by
                      rw [hy.2.2.1, hy.2.1, e2, List.length_append, hp.2.1]
                    rw [sha_split bs k0 (by rw [hp.2.2.2.1, hp.2.2.1]), ← e3, ← hp.1, ← hp.2.1, ← e2, HSF.out])
                  clear HB6 HB7 HEZ HE HX HK2 HB1 HT6 HRG HB
                  go_wp2_with (first | ((with_reducible refine gate_load (ty := 26) rfl ?_); refine load_at rfl 26 _ rfl wz.heap.size 0 rfl (nums .u8 (digest SF)) _ (HB7'.out.range 0 _ [] (by simp)) Tryd.underlying26 rfl HI26.out ?_) | ((with_reducible refine gate_store (ty := 26) rfl ?_); (refine store_at rfl 26 _ _ rfl w.heap.size (nums .u8 (digest SF)) rfl rfl _ 26 HR2.out HSZ.out HI26.out (one_cells _ _) ?_)) | fail)
                  intro wf hWf hBf
                  have HEF := Aside0.mk (hWf.ext HEW.out (Nat.le_refl _))
                  have HBF := Aside0.mk hBf
                  clear hWf hBf HEW HR2
                  go_wp2_with fail
                  (try simp only [Exit.inBlock, Exit.then])
                  refine bodyPost_ret (results_cell_row rfl _ _ w.heap.size 26 (nums .u8 (digest SF)).toArray (0, 0) _ rfl HBF.out.is Tryd.underlying26 rfl (by simpa using HI26.out)) rfl ?_
                  rw [HFIN.out]
                  exact ⟨rfl, HEF.out⟩
end Go.Proofs.YtbnbncnmhhioeaaDoor.By
