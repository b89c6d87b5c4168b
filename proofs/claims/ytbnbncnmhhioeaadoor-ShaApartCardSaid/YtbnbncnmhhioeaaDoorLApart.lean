/- ShaApart. -/
import Derived.Test.YtbnbncnmhhioeaaDoorLAdds
namespace Go.Proofs.YtbnbncnmhhioeaaDoor.By
open Go.RowKit Go.Proofs.YtbnbncnmhhioeaaDoor.Reg Go.Proofs.YtbnbncnmhhioeaaDoorW.PrintWords Go.Proofs.YtbnbncnmhhioeaaDoorW.PrintLast Go.Proofs.YtbnbncnmhhioeaaDoorW.PrintMore
set_option linter.unusedVariables false

/-- Two values own no block together. -/
def Dis (V U : Value) : Prop := ∀ k, V.ownBlock = some k → U.ownBlock ≠ some k
theorem Dis.symm {V U : Value} (h : Dis V U) : Dis U V := fun k hk e => h k e hk
/-- Two digests under way, and the bytes that went by each, in memory of their own. -/
structure Two (w : World) (lo b1 b2 : Nat) (x1 x2 : List Int) (V1 V2 U1 U2 : Value) : Prop where
  h1 : Hs w lo b1 x1 V1
  h2 : Hs w lo b2 x2 V2
  n1 : NB w lo U1 x1
  n2 : NB w lo U2 x2
  ne : b1 ≠ b2
  v12 : Dis V1 V2
  u12 : Dis U1 U2
  a11 : Dis V1 U1
  a12 : Dis V1 U2
  a21 : Dis V2 U1
  a22 : Dis V2 U2
theorem Two.swap {w : World} {lo b1 b2 : Nat} {x1 x2 : List Int} {V1 V2 U1 U2 : Value} (h : Two w lo b1 b2 x1 x2 V1 V2 U1 U2) : Two w lo b2 b1 x2 x1 V2 V1 U2 U1 :=
  ⟨h.h2, h.h1, h.n2, h.n1, h.ne.symm, h.v12.symm, h.u12.symm, h.a22, h.a21, h.a12, h.a11⟩
theorem Two.ext {w w' : World} {lo b1 b2 : Nat} {x1 x2 : List Int} {V1 V2 U1 U2 : Value} (h : Two w lo b1 b2 x1 x2 V1 V2 U1 U2) (he : Ext w w') : Two w' lo b1 b2 x1 x2 V1 V2 U1 U2 :=
  ⟨h.h1.ext he, h.h2.ext he, h.n1.ext he, h.n2.ext he, h.ne, h.v12, h.u12, h.a11, h.a12, h.a21, h.a22⟩
/-- What holds between Add and append. -/
structure TwoH (w : World) (lo b1 b2 : Nat) (x1 x2 y1 : List Int) (V1 V2 U1 U2 : Value) : Prop where
  h1 : Hs w lo b1 y1 V1
  h2 : Hs w lo b2 x2 V2
  n1 : NB w lo U1 x1
  n2 : NB w lo U2 x2
  ne : b1 ≠ b2
  v12 : Dis V1 V2
  u12 : Dis U1 U2
  a11 : Dis V1 U1
  a12 : Dis V1 U2
  a21 : Dis V2 U1
  a22 : Dis V2 U2
theorem Two.add {w w' : World} {lo b1 b2 : Nat} {x1 x2 y1 : List Int} {V1 V2 U1 U2 V' : Value} (h : Two w lo b1 b2 x1 x2 V1 V2 U1 U2) (hH : Hs w' lo b1 y1 V') (hF : Fr w w' (fun k => k = b1 ∨ V1.ownBlock = some k)) (hO : ∀ k, V'.ownBlock = some k → w.heap.size ≤ k) :
    TwoH w' lo b1 b2 x1 x2 y1 V' V2 U1 U2 := by
  have new : ∀ {U : Value}, (∀ k, U.ownBlock = some k → k < w.heap.size) → Dis V' U := fun hU k hk e => by have := hO k hk; have := hU k e; omega
  refine ⟨hH, h.h2.fr hF (fun e => ?_) (fun k hk e => ?_), h.n1.fr hF (fun k hk e => ?_), h.n2.fr hF (fun k hk e => ?_), h.ne, new (fun k hk => (h.h2.own k hk).2), h.u12, new (fun k hk => (h.n1.own k hk).2), new (fun k hk => (h.n2.own k hk).2), h.a21, h.a22⟩
  · rcases e with e | e
    · exact h.ne e.symm
    · have h3 := own_ne (Kd.own_of_R h.h1.2.2) h.h2.2.1.is (by decide : (5 : TypeId) ≠ 56)
      exact h3 e.symm
  · rcases e with e | e
    · have h3 := own_ne (Kd.own_of_R h.h2.2.2) h.h1.2.1.is (by decide : (5 : TypeId) ≠ 56)
      exact h3 (e ▸ hk).symm
    · exact h.v12 k e hk
  · rcases e with e | e
    · exact h.h1.nb h.n1 (e ▸ hk)
    · exact h.a11 k e hk
  · rcases e with e | e
    · exact h.h1.nb h.n2 (e ▸ hk)
    · exact h.a12 k e hk
theorem TwoH.app {w w' : World} {lo b1 b2 : Nat} {x1 x2 y1 : List Int} {V1 V2 U1 U2 U' : Value} (h : TwoH w lo b1 b2 x1 x2 y1 V1 V2 U1 U2) (hN : NB w' lo U' y1) (hg : w.grownBy w' U1.ownBlock) (hat : U'.ownBlock = U1.ownBlock ∨ ∃ b, U'.ownBlock = some b ∧ w.heap.size ≤ b) :
    Two w' lo b1 b2 y1 x2 V1 V2 U' U2 := by
  have hF := Fr.of_grown hg
  have new : ∀ {V : Value}, Dis V U1 → (∀ k, V.ownBlock = some k → k < w.heap.size) → Dis V U' := fun hd hV k hk e => by
    rcases hat with h6 | ⟨q, h6, hq⟩
    · exact hd k hk (h6 ▸ e)
    · rw [h6] at e
      have := Option.some.inj e
      have := hV k hk
      omega
  exact ⟨h.h1.fr hF (h.h1.nb h.n1) (fun k hk e => h.a11 k hk e), h.h2.fr hF (h.h2.nb h.n1) (fun k hk e => h.a21 k hk e), hN, h.n2.fr hF (fun k hk e => h.u12 k e hk), h.ne, h.v12, (new h.u12.symm (fun k hk => (h.n2.own k hk).2)).symm, new h.a11 (fun k hk => (h.h1.own k hk).2), h.a12, new h.a21 (fun k hk => (h.h2.own k hk).2), h.a22⟩

set_option maxRecDepth 100000 in
set_option maxHeartbeats 16000000 in
theorem lapart_calls (w : World) (A : Option Addr) (c n : Nat) (ls : List (List Int)) (hT1 : Tab 1 w) (h2 : 2 ≤ w.heap.size) (hr : Kd.C kbs w A n ls) (hc : n ≤ c) :
    Calls Tryd.prog 7 #[.slice A n c] w fun e w' => e = .returned (.bool true) ∧ Ext w w' := by
  have HR := Aside0.mk hr
  have HT1 := Aside0.mk hT1
  have H2 := Aside0.mk h2
  have hnm := hr.2.1
  clear hr hT1 h2
  go_enter Tryd.func7, Tryd.ntmps7
  go_wp2_with fail
  refine (new_calls w).mono ?_
  rintro e w1 ⟨rfl, hH, hE1⟩
  obtain ⟨b, hb⟩ : ∃ b, b = w.heap.size := ⟨_, rfl⟩
  have HBE := Aside0.mk hb
  rw [← hb]
  have HH1 := Aside0.mk (show Hs w1 w.heap.size b [] (.slice none 0 0) by rw [hb]; exact hH)
  have HE1 := Aside0.mk hE1
  clear hH hE1 hb
  go_wp2_with fail
  refine (new_calls w1).mono ?_
  rintro e w2 ⟨rfl, hH, hE2⟩
  obtain ⟨b2, hb2⟩ : ∃ b2, b2 = w1.heap.size := ⟨_, rfl⟩
  rw [← hb2]
  rw [← hb2] at hH
  have hd : ∀ V, Dis (.slice none 0 0) V := fun V k hk => by simp [Value.ownBlock] at hk
  have HTW := Aside0.mk (show Two w2 w.heap.size b b2 [] [] (.slice none 0 0) (.slice none 0 0) (.slice none 0 0) (.slice none 0 0) from
    ⟨HH1.out.ext hE2, ⟨by rw [hb2]; exact HE1.out.size, hH.2.1, Kd.R_nil kb 5 _ _ _⟩, Kd.R_nil kb 5 _ _ _, Kd.R_nil kb 5 _ _ _, by have := HH1.out.2.1.lt; omega, hd _, hd _, hd _, hd _, hd _, hd _⟩)
  have HE2 := Aside0.mk (HE1.out.trans hE2)
  clear hH hE2 HE1 HH1 hb2 hd
  go_wp2_with fail
  go_loopw [5, 6, 7] (fun u1 u2 i wr => ∃ x : Int, ∃ V1 V2 x1 x2, i = .int .i64 x ∧ Aside0 (0 ≤ x ∧ x ≤ n ∧ x ≤ 40) ∧ Aside0 (Two wr w.heap.size b b2 x1 x2 V1 V2 u1 u2) ∧ Aside0 (Ext w wr) ∧ Aside0 ((x1.length : Int) ≤ 1024 * x ∧ (x2.length : Int) ≤ 1024 * x)) (fun _ _ i _ => 40 - (intOf i).toNat)
  case atStart => exact ⟨0, _, _, [], [], rfl, ⟨by omega⟩, HTW, HE2, ⟨by simp⟩⟩
  case round =>
    clear HTW HE2
    obtain ⟨x, V1, V2, x1, x2, rfl, HX, HTW, HE, HAL⟩ := hrel
    obtain ⟨g0, g1, g2⟩ := HX.out
    obtain ⟨wx, hwx⟩ : ∃ wx : World, wx = wr := ⟨_, rfl⟩
    subst hwx
    by_cases hlt : x < n ∧ x < 40
    · obtain ⟨hx1, hx2⟩ := hlt
      have HLT := Aside0.mk (And.intro hx1 hx2)
      obtain ⟨ad, A', c', xs, eA, hcell, hcx, hCx⟩ := el_at HR.out x g0 hx1
      subst eA
      have HCX := Aside0.mk hCx
      obtain ⟨m, hm⟩ : ∃ m, m = xs.length := ⟨_, rfl⟩
      rw [← hm] at hcell hcx HCX
      have HMX := Aside0.mk hm
      have hmm := hCx.2.1
      rw [← hm] at hmm
      have HCL := Aside0.mk (show ∀ W, Ext w W → W.cell? (ad.add x.toNat) = some (.slice A' m c') from fun W hE => Ext.cell hE hcell)
      have hcl := HCL.out _ HE.out
      clear hCx hm hcell
      by_cases hbig : 1024 < m
      · have hz : ((1024 : Int) < (m : Int)) = True := eq_true (by omega)
        go_wp2_with fail
        refine (known_calls wx (HT1.out.ext HE.out) (Nat.le_trans H2.out HE.out.size)).mono ?_
        rintro e w2 ⟨rfl, hE2⟩
        have HE2 := Aside0.mk (HE.out.trans hE2)
        clear hE2
        go_wp2_with fail
        go_ret
        exact ⟨rfl, HE2.out⟩
      · have hz : ((1024 : Int) < (m : Int)) = False := eq_false (by omega)
        have hms : m ≤ 1024 := by omega
        have HMS := Aside0.mk hms
        clear hbig hmm
        by_cases h20 : x % 2 = 0
        · have hz3 : (x % 2 == 0) = true := by simp [h20]
          have HTX := HTW
          clear HTW
          go_wp2_with fail
          refine (add_old w wx w.heap.size b x1 xs V1 A' c' m H2.out (Nat.le_refl _) HMX.out HTX.out.h1 HE.out HT1.out HCX.out hcx (by have := HAL.out; omega)).mono ?_
          rintro e w3 ⟨rfl, Vn, hH3, hE3, hF3, hO3⟩
          have HT3 := Aside0.mk (HTX.out.add hH3 hF3 hO3)
          have HE3 := Aside0.mk hE3
          have hcl3 := HCL.out _ HE3.out
          clear hH3 hE3 hF3 hO3 hcl HTX HE
          go_wp2_with (at_builtin; go_loud (refine Kd.R_append_rows kb (Rr := kb.K w3) (w0 := w3) w.heap.size rfl (.tmp 36) (.tmp 40) 22 5 _ 1 rfl Tryd.underlying22 PShaAdds.info5 rfl (by decide) (by decide) u5 x1 xs A' m c' (fun _ => True) (fun _ => False) rfl rfl HT3.out.n1 ?c1 kb_KM (fun _ h => h.elim) (fun _ _ => trivial) (Below.refl _ _) ?c2 ?c3 ?_))
          case c1 => exact Kd.C_below HCX.out HE3.out
          case c2 => exact HE3.out.size
          case c3 => have := HAL.out; omega
          intro v6 w6 hR6 hB6 hg6 hat6
          replace hR6 : NB w6 w.heap.size v6 (x1 ++ xs) := hR6
          have HT6 := Aside0.mk (HT3.out.app hR6 hg6 hat6)
          have HE6 := Aside0.mk (show Ext w w6 from ⟨hB6.os.trans HE3.out.os, hB6.tape.trans HE3.out.tape, hB6.output.trans HE3.out.output, Nat.le_trans HE3.out.size hB6.size, fun k hk => (hB6.block k hk).trans (HE3.out.block k hk)⟩)
          have HAL6 := Aside0.mk (show ((x1 ++ xs).length : Int) ≤ 1024 * (x + 1) by have := HAL.out; have := HMX.out; have := HMS.out; rw [List.length_append]; omega)
          clear hR6 hB6 hg6 hat6 hcl3 HT3 HE3
          go_wp2_with fail
          go_roundw
          case rel => exact ⟨x + 1, Vn, V2, x1 ++ xs, x2, rfl, ⟨by have := HLT.out; omega⟩, HT6, HE6, ⟨HAL6.out, by have := HAL.out; omega⟩⟩
          case measure => have := HLT.out; simp only [intOf]; omega
        · have hz3 : (x % 2 == 0) = false := by simp [h20]
          have HTX := Aside0.mk HTW.out.swap
          clear HTW
          go_wp2_with fail
          refine (add_old w wx w.heap.size b2 x2 xs V2 A' c' m H2.out (Nat.le_refl _) HMX.out HTX.out.h1 HE.out HT1.out HCX.out hcx (by have := HAL.out; omega)).mono ?_
          rintro e w3 ⟨rfl, Vn, hH3, hE3, hF3, hO3⟩
          have HT3 := Aside0.mk (HTX.out.add hH3 hF3 hO3)
          have HE3 := Aside0.mk hE3
          have hcl3 := HCL.out _ HE3.out
          clear hH3 hE3 hF3 hO3 hcl HTX HE
          go_wp2_with (at_builtin; go_loud (refine Kd.R_append_rows kb (Rr := kb.K w3) (w0 := w3) w.heap.size rfl (.tmp 48) (.tmp 52) 22 5 _ 1 rfl Tryd.underlying22 PShaAdds.info5 rfl (by decide) (by decide) u6 x2 xs A' m c' (fun _ => True) (fun _ => False) rfl rfl HT3.out.n1 ?c1 kb_KM (fun _ h => h.elim) (fun _ _ => trivial) (Below.refl _ _) ?c2 ?c3 ?_))
          case c1 => exact Kd.C_below HCX.out HE3.out
          case c2 => exact HE3.out.size
          case c3 => have := HAL.out; omega
          intro v6 w6 hR6 hB6 hg6 hat6
          replace hR6 : NB w6 w.heap.size v6 (x2 ++ xs) := hR6
          have HT6 := Aside0.mk (HT3.out.app hR6 hg6 hat6)
          have HE6 := Aside0.mk (show Ext w w6 from ⟨hB6.os.trans HE3.out.os, hB6.tape.trans HE3.out.tape, hB6.output.trans HE3.out.output, Nat.le_trans HE3.out.size hB6.size, fun k hk => (hB6.block k hk).trans (HE3.out.block k hk)⟩)
          have HAL6 := Aside0.mk (show ((x2 ++ xs).length : Int) ≤ 1024 * (x + 1) by have := HAL.out; have := HMX.out; have := HMS.out; rw [List.length_append]; omega)
          clear hR6 hB6 hg6 hat6 hcl3 HT3 HE3
          go_wp2_with fail
          go_roundw
          case rel => exact ⟨x + 1, V1, Vn, x1, x2 ++ xs, rfl, ⟨by have := HLT.out; omega⟩, ⟨HT6.out.swap⟩, HE6, ⟨by have := HAL.out; omega, HAL6.out⟩⟩
          case measure => have := HLT.out; simp only [intOf]; omega
    · by_cases hx1 : x < n
      · have hz2 : (x < 40) = False := eq_false (fun h => hlt ⟨hx1, h⟩)
        clear hlt
        obtain ⟨D, hD, hQ⟩ := shaD x1
        obtain ⟨F, hF, hQF⟩ := shaD x2
        have HDD := Aside0.mk hD
        have HQQ := Aside0.mk hQ
        have HFF := Aside0.mk hF
        have HQF := Aside0.mk hQF
        obtain ⟨A6, c6, e6, hc6, hC6⟩ := HTW.out.n1.reads
        obtain ⟨q6, hq6⟩ : ∃ q6, q6 = x1.length := ⟨_, rfl⟩
        rw [← hq6] at e6 hc6 hC6
        subst e6
        obtain ⟨A7, c7, e7, hc7, hC7⟩ := HTW.out.n2.reads
        obtain ⟨q7, hq7⟩ : ∃ q7, q7 = x2.length := ⟨_, rfl⟩
        rw [← hq7] at e7 hc7 hC7
        subst e7
        have HC6 := Aside0.mk hC6
        have HQ6 := Aside0.mk hq6
        have HC7 := Aside0.mk hC7
        have HQ7 := Aside0.mk hq7
        have hl6 : q6 ≤ 1099511627776 := by have := HAL.out; omega
        have hl7 : q7 ≤ 1099511627776 := by have := HAL.out; omega
        have HL6 := Aside0.mk (show x1.length ≤ 2199023255552 by omega)
        have HL7 := Aside0.mk (show x2.length ≤ 2199023255552 by omega)
        clear hD hQ hF hQF hC6 hq6 hC7 hq7
        go_wp2_with fail
        refine (hsum_calls wx w.heap.size b x1 V1 HTW.out.h1 (HT1.out.ext HE.out) HL6.out).mono ?_
        rintro e w7 ⟨rfl, hE7⟩
        rw [← HDD.out]
        have HH7 := Aside0.mk (HTW.out.h2.ext hE7)
        have HE7 := Aside0.mk (HE.out.trans hE7)
        have HX7 := Aside0.mk hE7
        clear hE7 HTW HE
        go_wp2_with fail
        refine (of_calls w7 A6 c6 q6 x1 HQ6.out (HT1.out.ext HE7.out) (Kd.C_below HC6.out HX7.out) hc6 hl6 (Nat.le_trans H2.out HE7.out.size)).mono ?_
        rintro e w8 ⟨rfl, hE8⟩
        rw [← HDD.out]
        have HH8 := Aside0.mk (HH7.out.ext hE8)
        have HE8 := Aside0.mk (HE7.out.trans hE8)
        have HX8 := Aside0.mk (HX7.out.trans hE8)
        clear hE8 HH7 HE7 HX7
        go_wp2_with (first | ((with_reducible refine gate_eql (ty := 26) rfl ?_); (refine eql_at rfl 26 26 _ _ rfl (nums .u8 D).toArray (nums .u8 D).toArray rfl rfl (by kernel_rfl) true (HQQ.out _) ?_)) | fail)
        refine (hsum_calls w8 w.heap.size b2 x2 V2 HH8.out (HT1.out.ext HE8.out) HL7.out).mono ?_
        rintro e w9 ⟨rfl, hE9⟩
        rw [← HFF.out]
        have HE9 := Aside0.mk (HE8.out.trans hE9)
        have HX9 := Aside0.mk (HX8.out.trans hE9)
        clear hE9 HH8 HE8 HX8
        go_wp2_with fail
        refine (of_calls w9 A7 c7 q7 x2 HQ7.out (HT1.out.ext HE9.out) (Kd.C_below HC7.out HX9.out) hc7 hl7 (Nat.le_trans H2.out HE9.out.size)).mono ?_
        rintro e wa ⟨rfl, hEa⟩
        rw [← HFF.out]
        have HEa := Aside0.mk (HE9.out.trans hEa)
        clear hEa HE9 HX9
        go_wp2_with (first | ((with_reducible refine gate_eql (ty := 26) rfl ?_); (refine eql_at rfl 26 26 _ _ rfl (nums .u8 F).toArray (nums .u8 F).toArray rfl rfl (by kernel_rfl) true (HQF.out _) ?_)) | fail)
        refine (known_calls wa (HT1.out.ext HEa.out) (Nat.le_trans H2.out HEa.out.size)).mono ?_
        rintro e wb ⟨rfl, hEb⟩
        have HEb := Aside0.mk (HEa.out.trans hEb)
        clear hEb HEa
        go_wp2
        go_ret
        exact ⟨rfl, HEb.out⟩
      · have hz1 : (x < (n : Int)) = False := eq_false hx1
        clear hlt hx1
        obtain ⟨D, hD, hQ⟩ := shaD x1
        obtain ⟨F, hF, hQF⟩ := shaD x2
        have HDD := Aside0.mk hD
        have HQQ := Aside0.mk hQ
        have HFF := Aside0.mk hF
        have HQF := Aside0.mk hQF
        obtain ⟨A6, c6, e6, hc6, hC6⟩ := HTW.out.n1.reads
        obtain ⟨q6, hq6⟩ : ∃ q6, q6 = x1.length := ⟨_, rfl⟩
        rw [← hq6] at e6 hc6 hC6
        subst e6
        obtain ⟨A7, c7, e7, hc7, hC7⟩ := HTW.out.n2.reads
        obtain ⟨q7, hq7⟩ : ∃ q7, q7 = x2.length := ⟨_, rfl⟩
        rw [← hq7] at e7 hc7 hC7
        subst e7
        have HC6 := Aside0.mk hC6
        have HQ6 := Aside0.mk hq6
        have HC7 := Aside0.mk hC7
        have HQ7 := Aside0.mk hq7
        have hl6 : q6 ≤ 1099511627776 := by have := HAL.out; omega
        have hl7 : q7 ≤ 1099511627776 := by have := HAL.out; omega
        have HL6 := Aside0.mk (show x1.length ≤ 2199023255552 by omega)
        have HL7 := Aside0.mk (show x2.length ≤ 2199023255552 by omega)
        clear hD hQ hF hQF hC6 hq6 hC7 hq7
        go_wp2_with fail
        refine (hsum_calls wx w.heap.size b x1 V1 HTW.out.h1 (HT1.out.ext HE.out) HL6.out).mono ?_
        rintro e w7 ⟨rfl, hE7⟩
        rw [← HDD.out]
        have HH7 := Aside0.mk (HTW.out.h2.ext hE7)
        have HE7 := Aside0.mk (HE.out.trans hE7)
        have HX7 := Aside0.mk hE7
        clear hE7 HTW HE
        go_wp2_with fail
        refine (of_calls w7 A6 c6 q6 x1 HQ6.out (HT1.out.ext HE7.out) (Kd.C_below HC6.out HX7.out) hc6 hl6 (Nat.le_trans H2.out HE7.out.size)).mono ?_
        rintro e w8 ⟨rfl, hE8⟩
        rw [← HDD.out]
        have HH8 := Aside0.mk (HH7.out.ext hE8)
        have HE8 := Aside0.mk (HE7.out.trans hE8)
        have HX8 := Aside0.mk (HX7.out.trans hE8)
        clear hE8 HH7 HE7 HX7
        go_wp2_with (first | ((with_reducible refine gate_eql (ty := 26) rfl ?_); (refine eql_at rfl 26 26 _ _ rfl (nums .u8 D).toArray (nums .u8 D).toArray rfl rfl (by kernel_rfl) true (HQQ.out _) ?_)) | fail)
        refine (hsum_calls w8 w.heap.size b2 x2 V2 HH8.out (HT1.out.ext HE8.out) HL7.out).mono ?_
        rintro e w9 ⟨rfl, hE9⟩
        rw [← HFF.out]
        have HE9 := Aside0.mk (HE8.out.trans hE9)
        have HX9 := Aside0.mk (HX8.out.trans hE9)
        clear hE9 HH8 HE8 HX8
        go_wp2_with fail
        refine (of_calls w9 A7 c7 q7 x2 HQ7.out (HT1.out.ext HE9.out) (Kd.C_below HC7.out HX9.out) hc7 hl7 (Nat.le_trans H2.out HE9.out.size)).mono ?_
        rintro e wa ⟨rfl, hEa⟩
        rw [← HFF.out]
        have HEa := Aside0.mk (HE9.out.trans hEa)
        clear hEa HE9 HX9
        go_wp2_with (first | ((with_reducible refine gate_eql (ty := 26) rfl ?_); (refine eql_at rfl 26 26 _ _ rfl (nums .u8 F).toArray (nums .u8 F).toArray rfl rfl (by kernel_rfl) true (HQF.out _) ?_)) | fail)
        refine (known_calls wa (HT1.out.ext HEa.out) (Nat.le_trans H2.out HEa.out.size)).mono ?_
        rintro e wb ⟨rfl, hEb⟩
        have HEb := Aside0.mk (HEa.out.trans hEb)
        clear hEb HEa
        go_wp2
        go_ret
        exact ⟨rfl, HEb.out⟩
end Go.Proofs.YtbnbncnmhhioeaaDoor.By
