/- ShaAdds. -/
import Derived.Test.YtbnbncnmhhioeaaDoorLPieces
namespace Go.Proofs.YtbnbncnmhhioeaaDoor.By
open Go.RowKit Go.Proofs.YtbnbncnmhhioeaaDoor.Reg Go.Proofs.YtbnbncnmhhioeaaDoorW.PrintWords Go.Proofs.YtbnbncnmhhioeaaDoorW.PrintLast Go.Proofs.YtbnbncnmhhioeaaDoorW.PrintMore
set_option linter.unusedVariables false

section
variable {P : Program} {w : World} {ops : Array Oper} {rest : List Oper} {o : Oper} {a : Act} {Q : Exit → Act → World → Prop}
theorem gate_neq {ty : TypeId} {x y : Operand} {yt : TypeId} (_ho : o.op = .binOp .neq ty x y yt) (h : wpList P ops Q (o :: rest) a w) : wpList P ops Q (o :: rest) a w := h
theorem run_neq (t yt : TypeId) (x y : Operand) (ho : o.op = .binOp .neq t x y yt) (xs ys : Array Value) (hx : a.eval x = .agg xs) (hy : a.eval y = .agg ys) (hg : P.eqGuardType P.depth t = false) (r : Bool) (he : (Op.equal t (.agg xs) (.agg ys)).run P w = .ok r w) :
    (execOp a.eval o).run P w = .ok (.value (.bool (!r))) w := by
  unfold execOp
  simp only [ho, hx, hy, Sem.run_bind, run_eqGuard_agg w BinOp.neq t x y xs ys hg, Result.andThen_ok, binOp, he, Sem.run_pure]
theorem neq_at (hw : Region.wanted o (yielded ops a.tmps) = true) (t yt : TypeId) (x y : Operand) (ho : o.op = .binOp .neq t x y yt) (xs ys : Array Value) (hx : a.eval x = .agg xs) (hy : a.eval y = .agg ys) (hg : P.eqGuardType P.depth t = false) (r : Bool) (he : (Op.equal t (.agg xs) (.agg ys)).run P w = .ok r w)
    (h : wpList P ops Q rest (a.put o.dst (.bool (!r))) w) : wpList P ops Q (o :: rest) a w :=
  BigFrame.wpList_want hw fun K hK => by
    unfold Oper.wp
    rw [run_neq t yt x y ho xs ys hx hy hg r he]
    exact hK _ _ h
end
abbrev kbs : Kd (List Int) := Kd.slice 5 kb
/-- A piece out of a list of pieces. -/
theorem el_at {w : World} {A : Option Addr} {n : Nat} {ls : List (List Int)} (h : Kd.C kbs w A n ls) (i : Int) (h0 : 0 ≤ i) (h1 : i < n) :
    ∃ ad A' c' x, A = some ad ∧ w.cell? (ad.add i.toNat) = some (.slice A' (List.length x) c') ∧ x.length ≤ c' ∧ Kd.C kb w A' x.length x := by
  obtain ⟨ad, c, e, _, h3, h4⟩ := ReadsRow.get_ h [] i h0 h1
  obtain ⟨A', c', rfl, hle, hC⟩ := h3
  refine ⟨ad, A', c', _, e, ?_, hle, hC⟩
  have := h4 0 _ rfl
  rwa [show i.toNat * kbs.sz + 0 = i.toNat by show i.toNat * 1 + 0 = _; omega] at this
theorem Fr.of_kept {w0 w w' : World} {S : Nat → Prop} (hE : Ext w0 w) (hE' : Ext w0 w') (h : Kept w w' S) : Fr w w' S :=
  ⟨hE'.os.trans hE.os.symm, hE'.tape.trans hE.tape.symm, hE'.output.trans hE.output.symm, h.1, h.2⟩
theorem Hs.own {w : World} {lo b : Nat} {bs : List Int} {V : Value} (h : Hs w lo b bs V) : ∀ k, V.ownBlock = some k → lo ≤ k ∧ k < w.heap.size := fun k hk => ⟨own_base (Kd.own_of_R h.2.2) k hk, own_lt (Kd.own_of_R h.2.2) k hk⟩
theorem NB.own {w : World} {B : Nat} {V : Value} {xs : List Int} (h : NB w B V xs) : ∀ k, V.ownBlock = some k → B ≤ k ∧ k < w.heap.size := fun k hk => ⟨own_base (Kd.own_of_R h) k hk, own_lt (Kd.own_of_R h) k hk⟩
theorem Hs.nb {w : World} {lo b B : Nat} {bs xs : List Int} {V U : Value} (h : Hs w lo b bs V) (hn : NB w B U xs) : U.ownBlock ≠ some b := fun e =>
  own_ne (Kd.own_of_R hn) h.2.1.is (by decide : (5 : TypeId) ≠ 56) e.symm

set_option maxRecDepth 100000 in
set_option maxHeartbeats 16000000 in
theorem ladds_calls (w : World) (A : Option Addr) (c n : Nat) (ls : List (List Int)) (hT0 : Tab 0 w) (hT1 : Tab 1 w) (h2 : 2 ≤ w.heap.size) (hr : Kd.C kbs w A n ls) (hc : n ≤ c) :
    Calls Tryd.prog 4 #[.slice A n c] w fun e w' => e = .returned (.bool true) ∧ Ext w w' := by
  have HR := Aside0.mk hr
  have HT0 := Aside0.mk hT0
  have HT1 := Aside0.mk hT1
  have H2 := Aside0.mk h2
  have hnm := hr.2.1
  clear hr hT0 hT1 h2
  go_enter Tryd.func4, Tryd.ntmps4
  go_wp2_with fail
  refine (new_calls w).mono ?_
  rintro e w1 ⟨rfl, hH, hE1⟩
  obtain ⟨b, hb⟩ : ∃ b, b = w.heap.size := ⟨_, rfl⟩
  have HBE := Aside0.mk hb
  rw [← hb]
  have HH1 := Aside0.mk (show Hs w1 w.heap.size b [] (.slice none 0 0) by rw [hb]; exact hH)
  have HE1 := Aside0.mk hE1
  clear hH hE1 hb
  go_wp2_with fail
  go_loopw [4, 5] (fun v i wr => ∃ x : Int, ∃ Vh al, i = .int .i64 x ∧ Aside0 (0 ≤ x ∧ x ≤ n ∧ x ≤ 60) ∧ Aside0 (Hs wr w.heap.size b al Vh) ∧ Aside0 (NB wr w.heap.size v al) ∧ Aside0 (∀ k, Vh.ownBlock = some k → v.ownBlock ≠ some k) ∧ Aside0 (Ext w wr) ∧ Aside0 ((al.length : Int) ≤ 1024 * x)) (fun _ i _ => 60 - (intOf i).toNat)
  case atStart => exact ⟨0, _, [], rfl, ⟨by omega⟩, HH1, ⟨Kd.R_nil kb 5 _ _ _⟩, ⟨fun k hk => by simp [Value.ownBlock] at hk⟩, HE1, ⟨by simp⟩⟩
  case round =>
    clear HH1 HE1
    obtain ⟨x, Vh, al, rfl, HX, HH, HV, HD, HE, HAL⟩ := hrel
    obtain ⟨g0, g1, g2⟩ := HX.out
    obtain ⟨wx, hwx⟩ : ∃ wx : World, wx = wr := ⟨_, rfl⟩
    subst hwx
    obtain ⟨v4, hv4⟩ : ∃ v4, v4 = u4 := ⟨_, rfl⟩
    by_cases hlt : x < n ∧ x < 60
    · obtain ⟨hx1, hx2⟩ := hlt
      have HLT := Aside0.mk (And.intro hx1 hx2)
      obtain ⟨ad, A', c', xs, eA, hcell, hcx, hCx⟩ := el_at HR.out x g0 hx1
      subst eA
      have HCX := Aside0.mk hCx
      obtain ⟨m, hm⟩ : ∃ m, m = xs.length := ⟨_, rfl⟩
      rw [← hm] at hcell hcx HCX
      have HMX := Aside0.mk hm
      have hmm := hCx.2.1
      rw [← hm] at hmm
      have HCL := Aside0.mk (show ∀ W, Ext w W → W.cell? (ad.add x.toNat) = some (.slice A' m c') from fun W hE => Ext.cell hE hcell)
      have hcl := HCL.out _ HE.out
      clear hCx hm hcell hv4
      by_cases hbig : 1024 < m
      · have hz : ((1024 : Int) < (m : Int)) = True := eq_true (by omega)
        go_wp2_with fail
        refine (known_calls wx (HT1.out.ext HE.out) (Nat.le_trans H2.out HE.out.size)).mono ?_
        rintro e w2 ⟨rfl, hE2⟩
        have HE2 := Aside0.mk (HE.out.trans hE2)
        clear hE2
        go_wp2_with fail
        go_ret
        exact ⟨rfl, HE2.out⟩
      · have hz : ((1024 : Int) < (m : Int)) = False := eq_false (by omega)
        have hms : m ≤ 1024 := by omega
        have HMS := Aside0.mk hms
        clear hbig hmm
        go_wp2_with fail
        refine (lent_at wx A' c' m xs HMX.out (Kd.C_below HCX.out HE.out) hcx (by omega)).mono ?_
        rintro e w2 ⟨B, d, rfl, hNB, hd, hCB, hCI, hE2⟩
        obtain ⟨i0, hi0, _, hsz, _⟩ := info_parts PShaAdds.info5
        have hcut := cut_to (P := Tryd.prog) 22 5 .i64 Tryd.underlying22 hi0 B (m + 5) d (m : Int) (by omega) (by omega) hd
        rw [Int.toNat_natCast] at hcut
        have hmd : m ≤ d := by omega
        have HNB2 := Aside0.mk hNB
        have HCI := Aside0.mk hCI
        have HH2 := Aside0.mk (HH.out.ext hE2)
        have HV2 := Aside0.mk (HV.out.ext hE2)
        have HE2 := Aside0.mk (HE.out.trans hE2)
        have HSZ := Aside0.mk (And.intro HH.out.2.1.lt (And.intro hE2.size (And.intro HH.out.own HV.out.own)))
        have hcl2 := HCL.out _ HE2.out
        clear hNB hCB hCI hE2 hi0 hsz hcl HH HV HE
        go_wp2_with fail
        refine (add_calls w2 w.heap.size b al xs Vh B d m H2.out HMX.out HH2.out (HT1.out.ext HE2.out) HCI.out hmd (by have := HAL.out; omega) (fun a ha _ => by
          have h := (HNB2.out.own a.block (by rw [ha]; simp [Value.ownBlock])).1
          have := HSZ.out.1
          omega)).mono ?_
        rintro e w3 ⟨rfl, Vn, hH3, hF3, hO3⟩
        have hE3 := hF3.ext HE2.out (fun k hk => by rcases hk with rfl | hk; exact HH2.out.1; exact (HH2.out.own k hk).1)
        have HH3 := Aside0.mk hH3
        have HE3 := Aside0.mk hE3
        have HO3 := Aside0.mk hO3
        have HNB3 := Aside0.mk (HNB2.out.fr hF3 (fun k hk h => by
          have h1 := (HNB2.out.own k hk).1
          have h2 := HSZ.out
          rcases h with rfl | h
          · omega
          · have := (h2.2.2.1 k h).2; omega))
        have HV3 := Aside0.mk (HV2.out.fr hF3 (fun k hk h => by
          rcases h with rfl | h
          · exact HH2.out.nb HV2.out hk
          · exact HD.out k h hk))
        obtain ⟨B3, d3, e3, hd3, hC3⟩ := HNB3.out.reads
        have e3' : B3 = B ∧ d3 = d := by injection e3 with h1 h2 h3; exact ⟨h1.symm, h3.symm⟩
        obtain ⟨rfl, rfl⟩ := e3'
        have HC3 := Aside0.mk (show Kd.C kb w3 B3 (m + 5) (lent xs) by have h := hC3; rwa [lent_length, ← HMX.out] at h)
        have HLO := Aside0.mk (show ∀ k, (Value.slice B3 (m + 5) d3).ownBlock = some k → wx.heap.size ≤ k ∧ k < w2.heap.size from HNB2.out.own)
        have hcl3 := HCL.out _ HE3.out
        clear hH3 hF3 hO3 hE3 hcut hcl2 HNB2 HCI HH2 HV2 HE2 e3 hd3 hC3
        go_wp2_with fail
        refine (kept_n w3 B3 A' d3 c' m xs HMX.out HC3.out hd (Kd.C_below HCX.out HE3.out) hcx (by omega)).mono ?_
        rintro e w4 ⟨rfl, hE4⟩
        have HH4 := Aside0.mk (HH3.out.ext hE4)
        have HV4 := Aside0.mk (HV3.out.ext hE4)
        have HNB4 := Aside0.mk (Kd.R_lower (HNB3.out.ext hE4) (by have := HE3.out.size; have := HSZ.out; have h := HBE.out; omega : w.heap.size ≤ wx.heap.size))
        have HE4 := Aside0.mk (HE3.out.trans hE4)
        clear hE4 hcl3 HH3 HV3 HNB3 HE3 HC3
        go_wp2_with fail
        refine (spoil_calls w4 (lent xs) w (.slice B3 (m + 5) d3) HE4.out HNB4.out (by rw [lent_length, ← HMX.out]; omega)).mono ?_
        rintro e w5 ⟨rfl, hE5, hK5⟩
        have hF5 := Fr.of_kept HE4.out hE5 hK5
        have HH5 := Aside0.mk (HH4.out.fr hF5 (fun h => by have := (HLO.out _ h).1; have := HSZ.out; omega) (fun k hk h => by have := HO3.out k hk; have := (HLO.out k h).2; omega))
        have HV5 := Aside0.mk (HV4.out.fr hF5 (fun k hk h => by have := (HSZ.out.2.2.2 k hk).2; have := (HLO.out k h).1; omega))
        have HE5 := Aside0.mk hE5
        have hcl5 := HCL.out _ HE5.out
        clear hE5 hK5 hF5 HH4 HV4 HNB4 HE4
        go_wp2_with (at_builtin; go_loud (refine Kd.R_append_rows kb (Rr := kb.K w5) (w0 := w5) w.heap.size rfl (.tmp 50) (.tmp 54) 22 5 _ 1 rfl Tryd.underlying22 PShaAdds.info5 rfl (by decide) (by decide) u4 al xs A' m c' (fun _ => True) (fun _ => False) rfl rfl HV5.out ?c1 kb_KM (fun _ h => h.elim) (fun _ _ => trivial) (Below.refl _ _) ?c2 ?c3 ?_))
        case c1 => exact Kd.C_below HCX.out HE5.out
        case c2 => exact HE5.out.size
        case c3 => have := HAL.out; omega
        intro v6 w6 hR6 hB6 hg6 hat6
        replace hR6 : NB w6 w.heap.size v6 (al ++ xs) := hR6
        have hF6 := Fr.of_grown hg6
        have hsep : ∀ k, Vn.ownBlock = some k → u4.ownBlock ≠ some k := fun k hk h => by
          have h1 := HO3.out k hk
          have h2 := (HSZ.out.2.2.2 k h).2
          have h3 := HSZ.out.2.1
          omega
        have HH6 := Aside0.mk (HH5.out.fr hF6 (HH5.out.nb HV5.out) hsep)
        have HV6 := Aside0.mk hR6
        have HD6 := Aside0.mk (show ∀ k, Vn.ownBlock = some k → v6.ownBlock ≠ some k from fun k hk h => by
          rcases hat6 with h6 | ⟨q, h6, hq⟩
          · exact hsep k hk (h6 ▸ h)
          · rw [h6] at h
            have := Option.some.inj h
            have := (HH5.out.own k hk).2
            omega)
        have HE6 := Aside0.mk (show Ext w w6 from ⟨hB6.os.trans HE5.out.os, hB6.tape.trans HE5.out.tape, hB6.output.trans HE5.out.output, Nat.le_trans HE5.out.size hB6.size, fun k hk => (hB6.block k hk).trans (HE5.out.block k hk)⟩)
        have HAL6 := Aside0.mk (show ((al ++ xs).length : Int) ≤ 1024 * (x + 1) by have := HAL.out; have := HMX.out; have := HMS.out; rw [List.length_append]; omega)
        clear hR6 hB6 hg6 hat6 hF6 hsep hcl5 HH5 HV5 HE5 HD HAL HSZ HLO HO3
        by_cases h31 : x % 3 = 1
        · have hz3 : (x % 3 == 1) = true := by simp [h31]
          obtain ⟨D, hD, hQ⟩ := shaD (al ++ xs)
          have HDD := Aside0.mk hD
          have HQQ := Aside0.mk hQ
          clear hD hQ
          obtain ⟨A6, c6, e6, hc6, hC6⟩ := HV6.out.reads
          obtain ⟨q6, hq6⟩ : ∃ q6, q6 = (al ++ xs).length := ⟨_, rfl⟩
          rw [← hq6] at e6 hc6 hC6
          subst e6
          have HC6 := Aside0.mk hC6
          have HQ6 := Aside0.mk hq6
          have hl6 : q6 ≤ 1099511627776 := by have := HAL6.out; omega
          have hl7 : (al ++ xs).length ≤ 2199023255552 := by omega
          have HL7 := Aside0.mk hl7
          clear hC6 hq6 hl7
          go_wp2_with fail
          refine (hsum_calls w6 w.heap.size b (al ++ xs) Vn HH6.out (HT1.out.ext HE6.out) HL7.out).mono ?_
          rintro e w7 ⟨rfl, hE7⟩
          rw [← HDD.out]
          have HH7 := Aside0.mk (HH6.out.ext hE7)
          have HV7 := Aside0.mk (HV6.out.ext hE7)
          have HE7 := Aside0.mk (HE6.out.trans hE7)
          have HC7 := Aside0.mk (Kd.C_below HC6.out hE7)
          clear hE7 HH6 HV6 HE6 HC6
          go_wp2_with fail
          refine (rof_calls w7 A6 c6 q6 (al ++ xs) HQ6.out (HT0.out.ext HE7.out) HC7.out hc6 hl6).mono ?_
          rintro e w8 ⟨rfl, hE8⟩
          rw [← HDD.out]
          have HH8 := Aside0.mk (HH7.out.ext hE8)
          have HV8 := Aside0.mk (HV7.out.ext hE8)
          have HE8 := Aside0.mk (HE7.out.trans hE8)
          clear hE8 HH7 HV7 HE7 HC7
          go_wp2_with (first | ((with_reducible refine gate_neq (ty := 26) rfl ?_); (refine neq_at rfl 26 26 _ _ rfl (nums .u8 D).toArray (nums .u8 D).toArray rfl rfl (by kernel_rfl) true (HQQ.out _) ?_)) | fail)
          go_roundw
          case rel => exact ⟨x + 1, Vn, al ++ xs, rfl, ⟨by have := HLT.out; omega⟩, HH8, HV8, HD6, HE8, HAL6⟩
          case measure => have := HLT.out; simp only [intOf]; omega
        · have hz3 : (x % 3 == 1) = false := by simp [h31]
          go_wp2_with fail
          go_roundw
          case rel => exact ⟨x + 1, Vn, al ++ xs, rfl, ⟨by have := HLT.out; omega⟩, HH6, HV6, HD6, HE6, HAL6⟩
          case measure => have := HLT.out; simp only [intOf]; omega
    · clear hv4
      by_cases hx1 : x < n
      · have hz2 : (x < 60) = False := eq_false (fun h => hlt ⟨hx1, h⟩)
        clear hlt
        obtain ⟨D, hD, hQ⟩ := shaD al
        have HDD := Aside0.mk hD
        have HQQ := Aside0.mk hQ
        clear hD hQ
        obtain ⟨A6, c6, e6, hc6, hC6⟩ := HV.out.reads
        obtain ⟨q6, hq6⟩ : ∃ q6, q6 = al.length := ⟨_, rfl⟩
        rw [← hq6] at e6 hc6 hC6
        subst e6
        have HC6 := Aside0.mk hC6
        have HQ6 := Aside0.mk hq6
        have hl6 : q6 ≤ 1099511627776 := by have := HAL.out; omega
        have HL7 := Aside0.mk (show al.length ≤ 2199023255552 by omega)
        clear hC6 hq6
        go_wp2_with fail
        refine (hsum_calls wx w.heap.size b al Vh HH.out (HT1.out.ext HE.out) HL7.out).mono ?_
        rintro e w7 ⟨rfl, hE7⟩
        rw [← HDD.out]
        have HH7 := Aside0.mk (HH.out.ext hE7)
        have HE7 := Aside0.mk (HE.out.trans hE7)
        have HC7 := Aside0.mk (Kd.C_below HC6.out hE7)
        clear hE7 HH HV HE HC6
        go_wp2_with fail
        refine (rof_calls w7 A6 c6 q6 al HQ6.out (HT0.out.ext HE7.out) HC7.out hc6 hl6).mono ?_
        rintro e w8 ⟨rfl, hE8⟩
        rw [← HDD.out]
        have HH8 := Aside0.mk (HH7.out.ext hE8)
        have HE8 := Aside0.mk (HE7.out.trans hE8)
        have HC8 := Aside0.mk (Kd.C_below HC7.out hE8)
        clear hE8 HH7 HE7 HC7
        go_wp2_with (first | ((with_reducible refine gate_eql (ty := 26) rfl ?_); (refine eql_at rfl 26 26 _ _ rfl (nums .u8 D).toArray (nums .u8 D).toArray rfl rfl (by kernel_rfl) true (HQQ.out _) ?_)) | fail)
        refine (hsum_calls w8 w.heap.size b al Vh HH8.out (HT1.out.ext HE8.out) HL7.out).mono ?_
        rintro e w9 ⟨rfl, hE9⟩
        rw [← HDD.out]
        have HE9 := Aside0.mk (HE8.out.trans hE9)
        have HC9 := Aside0.mk (Kd.C_below HC8.out hE9)
        clear hE9 HH8 HE8 HC8
        go_wp2_with fail
        refine (of_calls w9 A6 c6 q6 al HQ6.out (HT1.out.ext HE9.out) HC9.out hc6 hl6 (Nat.le_trans H2.out HE9.out.size)).mono ?_
        rintro e wa ⟨rfl, hEa⟩
        rw [← HDD.out]
        have HEa := Aside0.mk (HE9.out.trans hEa)
        clear hEa HE9 HC9
        go_wp2_with (first | ((with_reducible refine gate_eql (ty := 26) rfl ?_); (refine eql_at rfl 26 26 _ _ rfl (nums .u8 D).toArray (nums .u8 D).toArray rfl rfl (by kernel_rfl) true (HQQ.out _) ?_)) | fail)
        refine (known_calls wa (HT1.out.ext HEa.out) (Nat.le_trans H2.out HEa.out.size)).mono ?_
        rintro e wb ⟨rfl, hEb⟩
        have HEb := Aside0.mk (HEa.out.trans hEb)
        clear hEb HEa
        go_wp2
        go_ret
        exact ⟨rfl, HEb.out⟩
      · have hz1 : (x < (n : Int)) = False := eq_false hx1
        clear hlt hx1
        obtain ⟨D, hD, hQ⟩ := shaD al
        have HDD := Aside0.mk hD
        have HQQ := Aside0.mk hQ
        clear hD hQ
        obtain ⟨A6, c6, e6, hc6, hC6⟩ := HV.out.reads
        obtain ⟨q6, hq6⟩ : ∃ q6, q6 = al.length := ⟨_, rfl⟩
        rw [← hq6] at e6 hc6 hC6
        subst e6
        have HC6 := Aside0.mk hC6
        have HQ6 := Aside0.mk hq6
        have hl6 : q6 ≤ 1099511627776 := by have := HAL.out; omega
        have HL7 := Aside0.mk (show al.length ≤ 2199023255552 by omega)
        clear hC6 hq6
        go_wp2_with fail
        refine (hsum_calls wx w.heap.size b al Vh HH.out (HT1.out.ext HE.out) HL7.out).mono ?_
        rintro e w7 ⟨rfl, hE7⟩
        rw [← HDD.out]
        have HH7 := Aside0.mk (HH.out.ext hE7)
        have HE7 := Aside0.mk (HE.out.trans hE7)
        have HC7 := Aside0.mk (Kd.C_below HC6.out hE7)
        clear hE7 HH HV HE HC6
        go_wp2_with fail
        refine (rof_calls w7 A6 c6 q6 al HQ6.out (HT0.out.ext HE7.out) HC7.out hc6 hl6).mono ?_
        rintro e w8 ⟨rfl, hE8⟩
        rw [← HDD.out]
        have HH8 := Aside0.mk (HH7.out.ext hE8)
        have HE8 := Aside0.mk (HE7.out.trans hE8)
        have HC8 := Aside0.mk (Kd.C_below HC7.out hE8)
        clear hE8 HH7 HE7 HC7
        go_wp2_with (first | ((with_reducible refine gate_eql (ty := 26) rfl ?_); (refine eql_at rfl 26 26 _ _ rfl (nums .u8 D).toArray (nums .u8 D).toArray rfl rfl (by kernel_rfl) true (HQQ.out _) ?_)) | fail)
        refine (hsum_calls w8 w.heap.size b al Vh HH8.out (HT1.out.ext HE8.out) HL7.out).mono ?_
        rintro e w9 ⟨rfl, hE9⟩
        rw [← HDD.out]
        have HE9 := Aside0.mk (HE8.out.trans hE9)
        have HC9 := Aside0.mk (Kd.C_below HC8.out hE9)
        clear hE9 HH8 HE8 HC8
        go_wp2_with fail
        refine (of_calls w9 A6 c6 q6 al HQ6.out (HT1.out.ext HE9.out) HC9.out hc6 hl6 (Nat.le_trans H2.out HE9.out.size)).mono ?_
        rintro e wa ⟨rfl, hEa⟩
        rw [← HDD.out]
        have HEa := Aside0.mk (HE9.out.trans hEa)
        clear hEa HE9 HC9
        go_wp2_with (first | ((with_reducible refine gate_eql (ty := 26) rfl ?_); (refine eql_at rfl 26 26 _ _ rfl (nums .u8 D).toArray (nums .u8 D).toArray rfl rfl (by kernel_rfl) true (HQQ.out _) ?_)) | fail)
        refine (known_calls wa (HT1.out.ext HEa.out) (Nat.le_trans H2.out HEa.out.size)).mono ?_
        rintro e wb ⟨rfl, hEb⟩
        have HEb := Aside0.mk (HEa.out.trans hEb)
        clear hEb HEa
        go_wp2
        go_ret
        exact ⟨rfl, HEb.out⟩
end Go.Proofs.YtbnbncnmhhioeaaDoor.By
