/- Entries lent: LentEntries. -/
import Derived.Test.YthgdjgnbifakbaaLd
namespace Go.Proofs.Ythgdjgnbifakbaa.By
open Go.RowKit Go.Proofs.Ythgdjgnbifakbaa.Reg Go.Proofs.YthgdjgnbifakbaaW.PrintWords Go.Proofs.YthgdjgnbifakbaaW.PrintLast Go.Proofs.YthgdjgnbifakbaaW.PrintMore
set_option linter.unusedVariables false
set_option linter.unusedSimpArgs false


abbrev mk77 : Th := (-77, 0, 0, zero32)
def lentE (es : List Th) : List Th := es ++ List.replicate 5 mk77
theorem lentE_len (es : List Th) : (lentE es).length = es.length + 5 := by simp [lentE]
theorem gate_make {P : Program} {ops : Array Oper} {rest : List Oper} {o : Oper} {a : Act} {Q : Exit → Act → World → Prop} {w : World} {ty : TypeId} {x y : Operand} (_ho : o.op = .makeSlice ty x y) (h : wpList P ops Q (o :: rest) a w) : wpList P ops Q (o :: rest) a w := h
theorem th_M0 (w : World) (B : Nat) : kTh.M w B (fun _ => False) (0, 0, 0, zero32) (Value.agg #[Value.int .i64 0, Value.int .i64 0, Value.int .i64 0, Value.int .u8 0, Value.int .u8 0, Value.int .u8 0, Value.int .u8 0, Value.int .u8 0, Value.int .u8 0, Value.int .u8 0, Value.int .u8 0, Value.int .u8 0, Value.int .u8 0, Value.int .u8 0, Value.int .u8 0, Value.int .u8 0, Value.int .u8 0, Value.int .u8 0, Value.int .u8 0, Value.int .u8 0, Value.int .u8 0, Value.int .u8 0, Value.int .u8 0, Value.int .u8 0, Value.int .u8 0, Value.int .u8 0, Value.int .u8 0, Value.int .u8 0, Value.int .u8 0, Value.int .u8 0, Value.int .u8 0, Value.int .u8 0, Value.int .u8 0, Value.int .u8 0, Value.int .u8 0]).cells.toList := th_cells_of (0, 0, 0, zero32) zero32_length w w B _
theorem th_store (w : World) (B : Nat) (c : List Value) (e : Th) (he : e.2.2.2.length = 32) (hc : c.length = 35) : kTh.M w B (fun _ => False) e (c.take 0 ++ thC e ++ c.drop (0 + (thC e).length)) := by
  have hd : c.drop 35 = [] := List.drop_eq_nil_of_le (by rw [hc]; exact Nat.le_refl _)
  have hM := th_cells_of e he w w B (fun _ => False)
  simpa [thC_len he, hd] using hM
/-- An element of a row of one's own, in memory. -/
theorem EB.elem {w : World} {B : Nat} {A : Option Addr} {n c : Nat} {L : List Th} (h : EB w B (.slice A n c) L) (x : Nat) (hx : x < n) : ∃ g t, A = some ⟨g, 0, none⟩ ∧ B ≤ g ∧ L[x]? = some t ∧ w.rangeAt g (x * 35) (thC t) ∧ (thC t).length = 35 := by
  have hn := (Kd.R_reads' h).1
  have hxl : x < L.length := by omega
  obtain ⟨gb, cap, hv, hb0, hb1, _⟩ := Kd.R_form h (by omega)
  injection hv with hA hn' hc'
  subst hA
  have hRC := (Kd.R_reads' h).2.2
  obtain ⟨b, off, hA, hrg⟩ := th_at hRC x hxl _ (List.getElem?_eq_getElem hxl)
  injection hA with hA
  injection hA with hb hoff _
  subst hb
  subst hoff
  refine ⟨gb, L[x], rfl, hb0, List.getElem?_eq_getElem hxl, by rw [Nat.zero_add] at hrg; exact hrg, ?_⟩
  obtain ⟨ad, e, hcell⟩ := hRC.2.2 (by omega)
  obtain ⟨cs, h1, h2, h3⟩ := hcell x _ (List.getElem?_eq_getElem hxl)
  obtain ⟨rfl, hl'⟩ := th_cells h2
  exact thC_len hl'

set_option maxRecDepth 100000 in
set_option maxHeartbeats 8000000 in
theorem lentE_calls (w : World) (A : Option Addr) (n c : Nat) (es : List Th) (hn : n = es.length) (hr : Kd.C kTh w A n es) (hc : n ≤ c) (hok : ∀ e ∈ es, Th.ok e) (hl : n ≤ 1000000) :
    Calls Try.prog 45 #[.slice A n c] w fun e w' => ∃ B d, e = .returned (.slice B (n + 5 : Nat) d) ∧ EB w' w.heap.size (.slice B (n + 5) d) (lentE es) ∧ Ext w w' := by
  have HN := Aside0.mk hn
  have HR := Aside0.mk hr
  have HOK := Aside0.mk hok
  have HIN : Aside0 ((Try.prog.info? 73).map (fun i => (i.zero, i.size, i.bytes)) = some (some (.agg #[Value.int .i64 0, Value.int .i64 0, Value.int .i64 0, Value.int .u8 0, Value.int .u8 0, Value.int .u8 0, Value.int .u8 0, Value.int .u8 0, Value.int .u8 0, Value.int .u8 0, Value.int .u8 0, Value.int .u8 0, Value.int .u8 0, Value.int .u8 0, Value.int .u8 0, Value.int .u8 0, Value.int .u8 0, Value.int .u8 0, Value.int .u8 0, Value.int .u8 0, Value.int .u8 0, Value.int .u8 0, Value.int .u8 0, Value.int .u8 0, Value.int .u8 0, Value.int .u8 0, Value.int .u8 0, Value.int .u8 0, Value.int .u8 0, Value.int .u8 0, Value.int .u8 0, Value.int .u8 0, Value.int .u8 0, Value.int .u8 0, Value.int .u8 0]), 35, 56)) := ⟨by kernel_rfl⟩
  have HM := Aside0.mk (th_M0 w w.heap.size)
  have HI := Aside0.mk (show (Try.prog.info? 73).map (·.size) = some (thC mk77).length by rw [thC_len zero32_length]; kernel_rfl)
  have HBU := Aside0.mk (built_x (-77))
  clear hn hr hok
  go_enter Try.func45, Try.ntmps45
  go_wp2_with (first | ((with_reducible refine gate_make (ty := 56) rfl ?_); refine Kd.R_make kTh (w0 := w) w.heap.size 73 rfl rfl 56 _ _ rfl ((n : Int) + 5) rfl rfl Try.underlying56 (.agg #[Value.int .i64 0, Value.int .i64 0, Value.int .i64 0, Value.int .u8 0, Value.int .u8 0, Value.int .u8 0, Value.int .u8 0, Value.int .u8 0, Value.int .u8 0, Value.int .u8 0, Value.int .u8 0, Value.int .u8 0, Value.int .u8 0, Value.int .u8 0, Value.int .u8 0, Value.int .u8 0, Value.int .u8 0, Value.int .u8 0, Value.int .u8 0, Value.int .u8 0, Value.int .u8 0, Value.int .u8 0, Value.int .u8 0, Value.int .u8 0, Value.int .u8 0, Value.int .u8 0, Value.int .u8 0, Value.int .u8 0, Value.int .u8 0, Value.int .u8 0, Value.int .u8 0, Value.int .u8 0, Value.int .u8 0, Value.int .u8 0, Value.int .u8 0]) 56 HIN.out rfl (by decide) (by decide) (0, 0, 0, zero32) (ok := fun _ => True) (okp := fun _ => False) HM.out (fun _ h => h.elim) trivial (by omega) (by omega) (Below.refl _ _) (Nat.le_refl _) ?_) | fail)
  intro V w1 hR hBl _ _ _ _
  obtain ⟨B, d, hV, hd, _⟩ := EB.reads hR
  rw [List.length_replicate, show ((n : Int) + 5).toNat = n + 5 by omega] at hV hd
  subst hV
  rw [show ((n : Int) + 5).toNat = n + 5 by omega] at hR
  have HR1 := Aside0.mk hR
  have HE1 := Aside0.mk (show Ext w w1 from hBl)
  obtain ⟨m, hm⟩ : ∃ m, m = n + 5 := ⟨_, rfl⟩
  rw [← hm] at HR1 hd ⊢
  have HMM := Aside0.mk hm
  have hml : (m : Int) ≤ 1000005 := by have := HMM.out; omega
  clear hR hBl hm
  go_wp2_with fail
  go_loopw [4] (fun i wr => ∃ x : Int, i = .int .i64 x ∧ Aside0 (0 ≤ x ∧ x ≤ m) ∧ (∃ L : List Th, Aside0 (EB wr w.heap.size (.slice B m d) L ∧ ∀ j : Nat, (j : Int) < x → L[j]? = (lentE es)[j]?)) ∧ Aside0 (Ext w wr)) (fun i _ => m - (intOf i).toNat)
  case atStart => exact ⟨0, rfl, ⟨by omega, by omega⟩, ⟨_, ⟨HR1.out, fun j hj => by omega⟩⟩, HE1⟩
  case round =>
    clear HR1 HE1
    obtain ⟨x, rfl, HX, ⟨L, HL⟩, HE⟩ := hrel
    obtain ⟨g0, g1⟩ := HX.out
    obtain ⟨wx, hwx⟩ : ∃ wx : World, wx = wr := ⟨_, rfl⟩
    subst hwx
    by_cases hlt : x < m
    · have HLT := Aside0.mk hlt
      obtain ⟨g, t, hA, hg, hx, hrg, hM⟩ := EB.elem HL.out.1 x.toNat (by omega)
      subst hA
      have HG := Aside0.mk hrg
      have HTL := Aside0.mk hM
      have HLL := Aside0.mk (Kd.R_reads' HL.out.1).1
      clear hg hx hrg hM
      go_wp2_with (first | ((with_reducible refine gate_build (ty := 73) rfl ?_); refine build_at rfl 73 #[(0, .const (.int .i64 (-77)))] rfl _ [(0, .int .i64 (-77))] rfl HBU.out ?_) | ((with_reducible refine gate_store73 rfl ?_); refine Kd.R_store kTh (w0 := wx) w.heap.size rfl rfl 73 (.tmp 18) (.tmp 17) rfl 73 x 0 L mk77 (.agg (thC mk77).toArray) (thC mk77) (thC t) (fun _ => True) (fun _ => False) rfl ?f1 rfl rfl HI.out (thC_one _) HL.out.1 g0 hlt HTL.out ?f2 ?f3 ?f4 (fun _ h => h.elim) (Below.refl _ _) ?_) | fail)
      case f1 => rfl
      case f2 => exact fun j u hu => HG.out j u hu
      case f3 => rw [thC_len zero32_length]; exact Nat.le_refl 35
      case f4 => exact th_store _ _ _ _ zero32_length HTL.out
      intro w2 hR hBl _
      have HR2 := Aside0.mk hR
      have HE2 := Aside0.mk (show Ext w w2 from Below.trans HE.out hBl)
      clear hR hBl
      by_cases hxn : x < n
      · have hxe : x.toNat < es.length := by have := HN.out; omega
        obtain ⟨b, off, hA, hrg⟩ := th_at (Kd.C_below HR.out HE2.out) x.toNat (by omega) _ (List.getElem?_eq_getElem hxe)
        have ho := HOK.out _ (List.getElem_mem hxe)
        have hq : (lentE es)[x.toNat]? = some es[x.toNat] := by unfold lentE; rw [List.getElem?_append_left hxe, List.getElem?_eq_getElem hxe]
        generalize es[x.toNat] = q at hrg ho hq
        subst hA
        obtain ⟨g', t', hA', _, _, hrg', hM'⟩ := EB.elem HR2.out x.toNat (by omega)
        injection hA' with hA'
        injection hA' with hA' _ _
        subst hA'
        have HQ := Aside0.mk hq
        have HO := Aside0.mk ho
        have HG1 := Aside0.mk hrg
        have HG2 := Aside0.mk hrg'
        have HT2 := Aside0.mk hM'
        have HI1 := Aside0.mk (show (Try.prog.info? 73).map (·.size) = some (thC q).length by rw [thC_len ho.2.2.2.1]; kernel_rfl)
        clear hq ho hrg hrg' hM'
        go_wp2_with (first | ((with_reducible refine gate_load (ty := 73) rfl ?_); refine load_at rfl 73 _ rfl b (off + x.toNat * 35) rfl (thC q) _ HG1.out Try.underlying73 rfl HI1.out ?_) | ((with_reducible refine gate_store73 rfl ?_); refine Kd.R_store kTh (w0 := w2) w.heap.size rfl rfl 73 (.tmp 29) (.tmp 28) rfl 73 x 0 (L.set x.toNat mk77) q (.agg (thC q).toArray) (thC q) (thC t') (fun _ => True) (fun _ => False) rfl ?f1 rfl rfl HI1.out (thC_one _) HR2.out g0 hlt HT2.out ?f2 ?f3 ?f4 (fun _ h => h.elim) (Below.refl _ _) ?_) | fail)
        case f1 => rfl
        case f2 => exact fun j u hu => HG2.out j u hu
        case f3 => rw [thC_len HO.out.2.2.2.1]; exact Nat.le_refl 35
        case f4 => simpa using th_store w2 w.heap.size _ _ HO.out.2.2.2.1 HT2.out
        intro w3 hR hBl _
        have HR3 := Aside0.mk hR
        have HE3 := Aside0.mk (show Ext w w3 from Below.trans HE2.out hBl)
        clear hR hBl
        go_wp2_with fail
        go_roundw
        case rel =>
          refine ⟨x + 1, rfl, ⟨by omega, by omega⟩, ⟨_, ⟨HR3.out, fun j hj => ?_⟩⟩, HE3⟩
          by_cases hjx : j = x.toNat
          · subst hjx
            rw [List.getElem?_set_self (by have := HLL.out; omega), HQ.out]
          · rw [List.getElem?_set_ne (Ne.symm hjx)]
            exact HL.out.2 j (by omega)
        case measure => have := HLT.out; simp only [intOf]; omega
      · have hq : (lentE es)[x.toNat]? = some mk77 := by
          unfold lentE
          have := HN.out
          have := HMM.out
          rw [List.getElem?_append_right (by omega), List.getElem?_replicate, if_pos (by omega)]
        have HQ := Aside0.mk hq
        clear hq
        go_wp2_with fail
        go_roundw
        case rel =>
          refine ⟨x + 1, rfl, ⟨by omega, by omega⟩, ⟨_, ⟨HR2.out, fun j hj => ?_⟩⟩, HE2⟩
          by_cases hjx : j = x.toNat
          · subst hjx
            rw [List.getElem?_set_self (by have := HLL.out; omega), HQ.out]
          · rw [List.getElem?_set_ne (Ne.symm hjx)]
            exact HL.out.2 j (by omega)
        case measure => have := HLT.out; simp only [intOf]; omega
    · have HFV := Aside0.mk (show EB wx w.heap.size (.slice B (n + 5) d) (lentE es) by
        have h := HL.out.1
        have hl := (Kd.R_reads' h).1
        have : L = lentE es := by
          refine List.ext_getElem? fun j => ?_
          by_cases hj : (j : Int) < x
          · exact HL.out.2 j hj
          · rw [List.getElem?_eq_none (by omega), List.getElem?_eq_none (by rw [lentE_len]; have := HN.out; have := HMM.out; omega)]
        rw [this, HMM.out] at h
        exact h)
      go_wp2_with fail
      go_ret
      exact ⟨B, d, by rw [HMM.out]; rfl, HFV.out, HE.out⟩
end Go.Proofs.Ythgdjgnbifakbaa.By

/- Entries kept: KeptEntries. -/
namespace Go.Proofs.Ythgdjgnbifakbaa.By
open Go.RowKit Go.Proofs.Ythgdjgnbifakbaa.Reg Go.Proofs.YthgdjgnbifakbaaW.PrintWords Go.Proofs.YthgdjgnbifakbaaW.PrintLast Go.Proofs.YthgdjgnbifakbaaW.PrintMore
set_option linter.unusedVariables false
set_option linter.unusedSimpArgs false


theorem lent_prefix {w : World} {A : Option Addr} {n : Nat} {es : List Th} (hn : n = es.length) (h : Kd.C kTh w A (n + 5) (lentE es)) : Kd.C kTh w A n es := by
  refine ⟨hn.symm, Nat.le_trans (Nat.le_add_right n 5) h.2.1, fun hp => ?_⟩
  obtain ⟨ad, e, f⟩ := h.2.2 (by omega)
  refine ⟨ad, e, fun j p hj => f j p ?_⟩
  have hlt : j < es.length := (List.getElem?_eq_some_iff.1 hj).1
  unfold lentE
  rw [List.getElem?_append_left hlt]
  exact hj
theorem mk77_ok : Th.ok mk77 := ⟨by decide, by decide, by decide, zero32_length, zero32_isB⟩
set_option maxRecDepth 100000 in
set_option maxHeartbeats 8000000 in
theorem keptE_calls (w : World) (A B : Option Addr) (c d n : Nat) (es : List Th) (hn : n = es.length) (hr : Kd.C kTh w A (n + 5) (lentE es)) (hc : n + 5 ≤ c) (hr' : Kd.C kTh w B n es) (hok : ∀ e ∈ es, Th.ok e) (hl : n ≤ 1000000) :
    Calls Try.prog 50 #[.slice A (n + 5) c, .slice B n d] w fun e w' => e = .returned (.bool true) ∧ Ext w w' := by
  have HN := Aside0.mk hn
  have HR := Aside0.mk hr
  obtain ⟨m, hm⟩ : ∃ m, m = n + 5 := ⟨_, rfl⟩
  rw [← hm] at HR hc ⊢
  have HMM := Aside0.mk hm
  have hb : ((m : Int) != (n : Int) + 5) = false := by simp [hm]
  have hml : (m : Int) ≤ 1000005 := by omega
  have HS := Aside0.mk (sameE_calls w A B c d es es n n hn hn (lent_prefix hn hr) hr' hok hok hl true (by simp))
  obtain ⟨ie, hie, hx⟩ := Option.map_eq_some_iff.1 (show (Try.prog.info? 73).map (fun i => (i.zero, i.size, i.bytes)) = some (some (.agg #[Value.int .i64 0, Value.int .i64 0, Value.int .i64 0, Value.int .u8 0, Value.int .u8 0, Value.int .u8 0, Value.int .u8 0, Value.int .u8 0, Value.int .u8 0, Value.int .u8 0, Value.int .u8 0, Value.int .u8 0, Value.int .u8 0, Value.int .u8 0, Value.int .u8 0, Value.int .u8 0, Value.int .u8 0, Value.int .u8 0, Value.int .u8 0, Value.int .u8 0, Value.int .u8 0, Value.int .u8 0, Value.int .u8 0, Value.int .u8 0, Value.int .u8 0, Value.int .u8 0, Value.int .u8 0, Value.int .u8 0, Value.int .u8 0, Value.int .u8 0, Value.int .u8 0, Value.int .u8 0, Value.int .u8 0, Value.int .u8 0, Value.int .u8 0]), 35, 56) by kernel_rfl)
  have hcut := cut_to (P := Try.prog) 56 73 .i64 Try.underlying56 hie A m c (n : Int) (by omega) (by omega) hc
  rw [Int.toNat_natCast] at hcut
  have HI := Aside0.mk (show (Try.prog.info? 73).map (·.size) = some (thC mk77).length by rw [thC_len zero32_length]; kernel_rfl)
  have HBU := Aside0.mk (built_x (-77))
  have HQ := Aside0.mk (fun W => by have := equal_th mk77 mk77 mk77_ok mk77_ok W; rwa [show decide (mk77 = mk77) = true by simp] at this : ∀ W : World, (Op.equal 73 (.agg (thC mk77).toArray) (.agg (thC mk77).toArray)).run Try.prog W = .ok true W)
  clear hn hr hr' hok hm hie hx
  go_enter Try.func50, Try.ntmps50
  go_wp2_with fail
  refine HS.out.mono ?_
  rintro e w1 ⟨rfl, hE⟩
  have HE1 := Aside0.mk hE
  clear hE hcut hb
  go_wp2_with fail
  go_loopw [5] (fun i wr => ∃ x : Int, i = .int .i64 x ∧ Aside0 ((n : Int) ≤ x ∧ x ≤ m) ∧ Aside0 (Ext w wr)) (fun i _ => m - (intOf i).toNat)
  case atStart => exact ⟨n, rfl, ⟨by omega, by have := HMM.out; omega⟩, HE1⟩
  case round =>
    clear HE1
    obtain ⟨x, rfl, HX, HE⟩ := hrel
    obtain ⟨g0, g1⟩ := HX.out
    have hx0 : 0 ≤ x := by omega
    obtain ⟨wx, hwx⟩ : ∃ wx : World, wx = wr := ⟨_, rfl⟩
    subst hwx
    by_cases hlt : x < m
    · have HLT := Aside0.mk hlt
      have hq : (lentE es)[x.toNat]? = some mk77 := by
        unfold lentE
        have := HN.out
        have := HMM.out
        rw [List.getElem?_append_right (by omega), List.getElem?_replicate, if_pos (by omega)]
      obtain ⟨b, off, hA, hrg⟩ := th_at (Kd.C_below HR.out HE.out) x.toNat (by omega) _ hq
      subst hA
      have HG := Aside0.mk hrg
      clear hrg hq
      go_wp2_with (first | ((with_reducible refine gate_load (ty := 73) rfl ?_); refine load_at rfl 73 _ rfl b (off + x.toNat * 35) rfl (thC mk77) _ HG.out Try.underlying73 rfl HI.out ?_) | ((with_reducible refine gate_build (ty := 73) rfl ?_); refine build_at rfl 73 #[(0, .const (.int .i64 (-77)))] rfl _ [(0, .int .i64 (-77))] rfl HBU.out ?_) | ((with_reducible refine gate_neq (ty := 73) rfl ?_); (refine neq_at rfl 73 73 _ _ rfl (thC mk77).toArray (thC mk77).toArray rfl rfl (by kernel_rfl) true (HQ.out _) ?_)) | fail)
      go_roundw
      case rel => exact ⟨x + 1, rfl, ⟨by omega, by omega⟩, HE⟩
      case measure => have := HLT.out; simp only [intOf]; omega
    · go_wp2_with fail
      go_ret
      exact ⟨rfl, HE.out⟩
end Go.Proofs.Ythgdjgnbifakbaa.By

/- BatchPuts: both codecs put alike, refuse alike, and leave what was lent. -/
namespace Go.Proofs.Ythgdjgnbifakbaa.By
open Go.RowKit Go.Proofs.Ythgdjgnbifakbaa.Reg Go.Proofs.YthgdjgnbifakbaaW.PrintWords Go.Proofs.YthgdjgnbifakbaaW.PrintLast Go.Proofs.YthgdjgnbifakbaaW.PrintMore
set_option linter.unusedVariables false
set_option linter.unusedSimpArgs false


theorem nb_reads {w : World} {B : Nat} {A : Option Addr} {k c : Nat} {X : List Int} (h : NB w B (.slice A k c) X) (hk : k = X.length) : Kd.C kb w A k X := by
  obtain ⟨A', c', e, h1, h2⟩ := h.reads
  injection e with e1 e2 e3
  subst e1
  rw [hk]
  exact h2
theorem outP_len {st nx : Int} {pr : List Int} {es : List Th} (hp : pr.length = 32) (hes : ∀ e ∈ es, Th.ok e) : (outP st pr nx es).length ≤ 1000 := by
  unfold outP
  split
  · rename_i h
    rw [smyB_len hp hes]
    have := checkF_le h
    omega
  · exact Nat.zero_le _
set_option maxRecDepth 100000 in
set_option maxHeartbeats 16000000 in
theorem bputs_calls (w : World) (A : Option Addr) (c n : Nat) (q : Smy) (hn : n = q.2.2.2.length) (hr : Kd.C kTh w A n q.2.2.2) (hc : n ≤ c) (hq : Smy.ok q) :
    Calls Try.prog 9 #[smyV q.1 q.2.1 q.2.2.1 (.slice A n c)] w fun e w' => e = .returned (.bool true) ∧ Ext w w' := by
  obtain ⟨st, pr, nx, es⟩ := q
  obtain ⟨hst, ⟨hp, hpB⟩, hnx, hes⟩ := hq
  dsimp only at *
  have HX := Aside0.mk hes
  have HN := Aside0.mk hn
  have HPL := Aside0.mk hp
  have HK := Aside0.mk (Blk.new w (smyC st pr nx (.slice A n c)).toArray 58)
  have HE := Aside0.mk ((Ext.refl w).alloc (.cells (smyC st pr nx (.slice A n c)).toArray 58))
  have HC := Aside0.mk (Kd.C_below hr HE.out)
  have HC0 := Aside0.mk hr
  have c34 := (smyBlk HK.out HPL.out).2.2.2
  have HIS := Aside0.mk (fun V => show (Try.prog.info? 58).map (·.size) = some (smyC st pr nx V).length by rw [smyC_len HPL.out]; kernel_rfl)
  have HSS := Aside0.mk (fun V => show #[Value.int .i64 0, Value.int .u8 0, Value.int .u8 0, Value.int .u8 0, Value.int .u8 0, Value.int .u8 0, Value.int .u8 0, Value.int .u8 0, Value.int .u8 0, Value.int .u8 0, Value.int .u8 0, Value.int .u8 0, Value.int .u8 0, Value.int .u8 0, Value.int .u8 0, Value.int .u8 0, Value.int .u8 0, Value.int .u8 0, Value.int .u8 0, Value.int .u8 0, Value.int .u8 0, Value.int .u8 0, Value.int .u8 0, Value.int .u8 0, Value.int .u8 0, Value.int .u8 0, Value.int .u8 0, Value.int .u8 0, Value.int .u8 0, Value.int .u8 0, Value.int .u8 0, Value.int .u8 0, Value.int .u8 0, Value.int .i64 0, Value.slice none 0 0].size = (smyC st pr nx V).length by rw [smyC_len HPL.out]; rfl)
  obtain ⟨F, hF⟩ : ∃ F, F = checkF st nx es := ⟨_, rfl⟩
  have HF := Aside0.mk hF
  have HXL := Aside0.mk (outP_len (st := st) (nx := nx) hp hes)
  obtain ⟨X, hX⟩ : ∃ b, b = outP st pr nx es := ⟨_, rfl⟩
  rw [← hX] at HXL
  obtain ⟨k, hk⟩ : ∃ k, k = X.length := ⟨_, rfl⟩
  have HKK := Aside0.mk hk
  rw [← hk] at HXL
  have HPC := Aside0.mk (fun (W : World) (A : Option Addr) (c : Nat) (h : Kd.C kTh W A n es) (hc : n ≤ c) => put_calls W st nx pr A c n es F hF h hc hp hes)
  have HRP := Aside0.mk (fun (W : World) (A : Option Addr) (c : Nat) (h : Kd.C kTh W A n es) (hc : n ≤ c) => rput_calls W st nx pr A c n es F hF h hc hp hes)
  have HCK := Aside0.mk (fun (W : World) (A : Option Addr) (c : Nat) (h : Kd.C kTh W A n es) (hc : n ≤ c) => check_calls W st nx pr A c n es h hc hp hes)
  have HRK := Aside0.mk (fun (W : World) (A : Option Addr) (c : Nat) (h : Kd.C kTh W A n es) (hc : n ≤ c) => rcheck_calls W st nx pr A c n es F hF h hc hp hes)
  rw [← hX] at HPC HRP
  rw [← hF] at HCK
  clear hst hp hpB hnx hes hn hr hF hX hk
  unfold smyV
  by_cases hbig : (300 : Int) < n
  · go_enter Try.func9, Try.ntmps9
    go_wp2_with fail
    refine (works_calls _).mono ?_
    rintro e w1 ⟨rfl, hE⟩
    go_wp2_with fail
    go_ret
    exact ⟨rfl, HE.out.trans hE⟩
  obtain ⟨ie, hie, hx⟩ := Option.map_eq_some_iff.1 (show (Try.prog.info? 73).map (fun i => (i.zero, i.size, i.bytes)) = some (some (.agg #[Value.int .i64 0, Value.int .i64 0, Value.int .i64 0, Value.int .u8 0, Value.int .u8 0, Value.int .u8 0, Value.int .u8 0, Value.int .u8 0, Value.int .u8 0, Value.int .u8 0, Value.int .u8 0, Value.int .u8 0, Value.int .u8 0, Value.int .u8 0, Value.int .u8 0, Value.int .u8 0, Value.int .u8 0, Value.int .u8 0, Value.int .u8 0, Value.int .u8 0, Value.int .u8 0, Value.int .u8 0, Value.int .u8 0, Value.int .u8 0, Value.int .u8 0, Value.int .u8 0, Value.int .u8 0, Value.int .u8 0, Value.int .u8 0, Value.int .u8 0, Value.int .u8 0, Value.int .u8 0, Value.int .u8 0, Value.int .u8 0, Value.int .u8 0]), 35, 56) by kernel_rfl)
  clear hx
  go_enter Try.func9, Try.ntmps9
  go_wp2_with fail
  refine (lentE_calls _ A n c es HN.out HC.out hc HX.out (by omega)).mono ?_
  rintro e w1 ⟨B, d, rfl, hL, hE⟩
  have hd : n + 5 ≤ d := (Kd.R_reads' hL).2.1
  have HLT := Aside0.mk (Kd.R_lt hL)
  have HLE := Aside0.mk (show EB w1 (w.heap.size + 1) (.slice B (n + 5) d) (lentE es) by rw [← size_alloc w (.cells (smyC st pr nx (.slice A n c)).toArray 58)]; exact hL)
  have HLO := Aside0.mk (show w.heap.size < w1.heap.size from Nat.lt_of_lt_of_le (by rw [size_alloc]; exact Nat.lt_succ_self _) hE.size)
  replace HK := Aside0.mk (HK.out.ext hE)
  replace c34 := Ext.cell hE c34
  replace HE := Aside0.mk (HE.out.trans hE)
  have HRW1 := Aside0.mk HK.out.whole
  have hcut := cut_to (P := Try.prog) 56 73 .i64 Try.underlying56 hie B (n + 5) d (n : Int) (by omega) (by omega) hd
  rw [Int.toNat_natCast] at hcut
  have HWS := Aside0.mk (show w.heap.size ≤ w.heap.size from Nat.le_refl _)
  clear hL hE hie
  obtain ⟨b1, hb1⟩ : ∃ b1, b1 = w.heap.size := ⟨_, rfl⟩
  have HB1 := Aside0.mk hb1
  rw [← hb1] at HLE HK HLO HRW1 c34 ⊢
  clear hb1 HWS
  go_wp2_with (first | ((with_reducible refine gate_load (ty := 58) rfl ?_); refine load_at rfl 58 _ rfl b1 0 rfl (smyC st pr nx (.slice A n c)) _ HRW1.out Try.underlying58 rfl (HIS.out _) ?_) | ((with_reducible refine gate_store (ty := 58) rfl ?_); (refine store_at rfl 58 _ _ rfl w1.heap.size (smyC st pr nx (.slice A n c)) rfl rfl #[Value.int .i64 0, Value.int .u8 0, Value.int .u8 0, Value.int .u8 0, Value.int .u8 0, Value.int .u8 0, Value.int .u8 0, Value.int .u8 0, Value.int .u8 0, Value.int .u8 0, Value.int .u8 0, Value.int .u8 0, Value.int .u8 0, Value.int .u8 0, Value.int .u8 0, Value.int .u8 0, Value.int .u8 0, Value.int .u8 0, Value.int .u8 0, Value.int .u8 0, Value.int .u8 0, Value.int .u8 0, Value.int .u8 0, Value.int .u8 0, Value.int .u8 0, Value.int .u8 0, Value.int .u8 0, Value.int .u8 0, Value.int .u8 0, Value.int .u8 0, Value.int .u8 0, Value.int .u8 0, Value.int .u8 0, Value.int .i64 0, Value.slice none 0 0] 58 (Blk.new w1 _ 58) (HSS.out _) (HIS.out _) (smyC_one _ _ _ _ _ _) ?_)) | fail)
  intro w2 hW hB4
  have hx2 := hW.ext ((Ext.refl w1).alloc _) (Nat.le_refl _)
  replace HK := Aside0.mk (HK.out.ext hx2)
  replace HLE := Aside0.mk (HLE.out.ext hx2)
  replace HE := Aside0.mk (HE.out.trans hx2)
  replace c34 := Ext.cell hx2 c34
  clear hW hx2 HRW1
  generalize w1.heap.size = b4 at hB4 HLO HLT ⊢
  have c4 := (smyBlk hB4 HPL.out).2.2.2
  have f4 := hB4.free 34
  have HW := Aside0.mk (Wrote.setCell w2 b4 34 (.slice B n d))
  have HB4 := Aside0.mk (smy_set hB4 HPL.out (.slice B n d))
  have HRW4 := Aside0.mk HB4.out.whole
  replace HK := Aside0.mk (HK.out.wrote HW.out (by have := HLO.out; omega))
  replace HLE := Aside0.mk (HLE.out.wrote HW.out (fun h => by have := HLT.out _ h; omega))
  replace HE := Aside0.mk (HW.out.ext HE.out (by rw [← HB1.out]; have := HLO.out; omega))
  clear hB4
  go_wp2_with (first | ((with_reducible refine gate_load (ty := 58) rfl ?_); refine load_at rfl 58 _ rfl b4 0 rfl (smyC st pr nx (.slice B n d)) _ HRW4.out Try.underlying58 rfl (HIS.out _) ?_) | fail)
  clear c4 f4 HW c34
  generalize w2.setCell ⟨b4, 34, none⟩ (.slice B n d) = w3 at HB4 HRW4 HK HLE HE ⊢
  have HLC := Aside0.mk (EB.reads' HLE.out (by rw [lentE_len, HN.out]))
  have hnd : n ≤ d := by omega
  clear hcut
  refine (HPC.out w3 B d (lent_prefix HN.out HLC.out) hnd).mono ?_
  rintro e w4 ⟨V, rfl, hN5, hE4⟩
  obtain ⟨A5, c5, hV, h5c, _⟩ := hN5.reads
  rw [← HKK.out] at hV h5c
  subst hV
  have HN5 := Aside0.mk hN5
  have HE4 := Aside0.mk hE4
  have HL5 := Aside0.mk (Kd.R_lt hN5)
  clear hN5 hE4 HRW4
  have HRW4 := Aside0.mk ((HB4.out.ext HE4.out).whole)
  go_wp2_with (first | ((with_reducible refine gate_load (ty := 58) rfl ?_); refine load_at rfl 58 _ rfl b4 0 rfl (smyC st pr nx (.slice B n d)) _ HRW4.out Try.underlying58 rfl (HIS.out _) ?_) | fail)
  refine (HPC.out w4 B d (lent_prefix HN.out (Kd.C_below HLC.out HE4.out)) hnd).mono ?_
  rintro e w5 ⟨V, rfl, hN7, hE5⟩
  obtain ⟨A7, c7, hV, h7c, _⟩ := hN7.reads
  rw [← HKK.out] at hV h7c
  subst hV
  have HN7 := Aside0.mk hN7
  have HE45 := Aside0.mk hE5
  have HE5 := Aside0.mk (HE4.out.trans hE5)
  clear hN7 hE5 HRW4
  have HRW1 := Aside0.mk ((HK.out.ext HE5.out).whole)
  go_wp2_with (first | ((with_reducible refine gate_load (ty := 58) rfl ?_); refine load_at rfl 58 _ rfl b1 0 rfl (smyC st pr nx (.slice A n c)) _ HRW1.out Try.underlying58 rfl (HIS.out _) ?_) | fail)
  refine (HRP.out w5 A c (Kd.C_below HC0.out (HE.out.trans HE5.out)) hc).mono ?_
  rintro e w6 ⟨V, rfl, hN9, hE6⟩
  obtain ⟨A9, c9, hV, h9c, _⟩ := hN9.reads
  rw [← HKK.out] at hV h9c
  subst hV
  have HN9 := Aside0.mk hN9
  have HE6 := Aside0.mk (HE5.out.trans hE6)
  replace HN5 := Aside0.mk (NB.ext (NB.ext HN5.out HE45.out) hE6)
  replace HN7 := Aside0.mk (NB.ext HN7.out hE6)
  have HS5 := Aside0.mk (show w4.heap.size ≤ w5.heap.size from HE45.out.size)
  clear hN9 hE6 HRW1 HE5 HE45
  have H5C := Aside0.mk (nb_reads HN5.out HKK.out)
  have H9C := Aside0.mk (nb_reads HN9.out HKK.out)
  have HRW1 := Aside0.mk ((HK.out.ext HE6.out).whole)
  have HRW4 := Aside0.mk ((HB4.out.ext HE6.out).whole)
  have HLC6 := Aside0.mk (Kd.C_below HLC.out HE6.out)
  have HC6 := Aside0.mk (Kd.C_below HC0.out (HE.out.trans HE6.out))
  have hFF : (F != F) = false := by simp
  have hk9 : k ≤ 9223372036854775806 := by have := HXL.out; omega
  go_wp2_with fail
  apply wp_region_facts 21 [RF.val _, RF.val _, RF.val _, RF.val _, RF.val _, RF.val _, RF.val _, RF.val _, RF.val _, RF.val _, RF.val _, RF.val _, RF.val _, RF.val _, RF.val _, RF.val _, RF.val _, RF.val _, RF.val _, RF.val _, RF.val _]
  case hm => kernel_rfl
  case hB => kernel_rfl
  simp only [List.take_succ_cons, List.take_zero, List.zip_cons_cons, List.zip_nil_left]
  (first | refine wpF_val rfl (fun w' hE hD => by unfold Yld; go_simp; exact ⟨Ext.refl _, rfl⟩) ?_ | refine wpF_valg (by rfl) (fun w' hE hD => by unfold Yld; go_simp; exact ⟨Ext.refl _, rfl⟩) ?_)
  (try simp only [Act.put, List.setIfInBounds_toArray, List.set_cons_zero, List.set_cons_succ])
  (first | refine wpF_val rfl (fun w' hE hD => by unfold Yld; go_simp; exact ⟨Ext.refl _, rfl⟩) ?_ | refine wpF_valg (by rfl) (fun w' hE hD => by unfold Yld; go_simp; exact ⟨Ext.refl _, rfl⟩) ?_)
  (try simp only [Act.put, List.setIfInBounds_toArray, List.set_cons_zero, List.set_cons_succ])
  (first | refine wpF_val rfl (fun w' hE hD => by unfold Yld; go_simp; exact ⟨Ext.refl _, rfl⟩) ?_ | refine wpF_valg (by rfl) (fun w' hE hD => by unfold Yld; go_simp; exact ⟨Ext.refl _, rfl⟩) ?_)
  (try simp only [Act.put, List.setIfInBounds_toArray, List.set_cons_zero, List.set_cons_succ])
  (first | refine wpF_val rfl (fun w' hE hD => by unfold Yld; go_simp; exact ⟨Ext.refl _, rfl⟩) ?_ | refine wpF_valg (by rfl) (fun w' hE hD => by unfold Yld; go_simp; exact ⟨Ext.refl _, rfl⟩) ?_)
  (try simp only [Act.put, List.setIfInBounds_toArray, List.set_cons_zero, List.set_cons_succ])
  (first | refine wpF_val rfl (fun w' hE hD => by unfold Yld; go_simp; exact ⟨Ext.refl _, rfl⟩) ?_ | refine wpF_valg (by rfl) (fun w' hE hD => by unfold Yld; go_simp; exact ⟨Ext.refl _, rfl⟩) ?_)
  (try simp only [Act.put, List.setIfInBounds_toArray, List.set_cons_zero, List.set_cons_succ])
  (first | refine wpF_val rfl (fun w' hE hD => by unfold Yld; go_simp; exact ⟨Ext.refl _, rfl⟩) ?_ | refine wpF_valg (by rfl) (fun w' hE hD => by unfold Yld; go_simp; exact ⟨Ext.refl _, rfl⟩) ?_)
  (try simp only [Act.put, List.setIfInBounds_toArray, List.set_cons_zero, List.set_cons_succ])
  (first | refine wpF_val rfl (fun w' hE hD => by unfold Yld; go_simp; exact ⟨Ext.refl _, rfl⟩) ?_ | refine wpF_valg (by rfl) (fun w' hE hD => by unfold Yld; go_simp; exact ⟨Ext.refl _, rfl⟩) ?_)
  (try simp only [Act.put, List.setIfInBounds_toArray, List.set_cons_zero, List.set_cons_succ])
  (first | refine wpF_val rfl (fun w' hE hD => by unfold Yld; go_simp; exact ⟨Ext.refl _, rfl⟩) ?_ | refine wpF_valg (by rfl) (fun w' hE hD => by unfold Yld; go_simp; exact ⟨Ext.refl _, rfl⟩) ?_)
  (try simp only [Act.put, List.setIfInBounds_toArray, List.set_cons_zero, List.set_cons_succ])
  (first | refine wpF_val rfl (fun w' hE hD => by unfold Yld; go_simp; exact ⟨Ext.refl _, rfl⟩) ?_ | refine wpF_valg (by rfl) (fun w' hE hD => by unfold Yld; go_simp; exact ⟨Ext.refl _, rfl⟩) ?_)
  (try simp only [Act.put, List.setIfInBounds_toArray, List.set_cons_zero, List.set_cons_succ])
  (first | refine wpF_val rfl (fun w' hE hD => Yld_load 58 (.tmp 4) rfl b4 0 rfl (smyC st pr nx (.slice B n d)) _ (rangeAt_ext HRW4.out hE) Try.underlying58 rfl (HIS.out _)) ?_ | refine wpF_valg (by rfl) (fun w' hE hD => Yld_load 58 (.tmp 4) rfl b4 0 rfl (smyC st pr nx (.slice B n d)) _ (rangeAt_ext HRW4.out hE) Try.underlying58 rfl (HIS.out _)) ?_)
  (try simp only [Act.put, List.setIfInBounds_toArray, List.set_cons_zero, List.set_cons_succ])
  (first | refine wpF_val rfl (fun w' hE hD => by unfold Yld; go_simp; exact (HCK.out w' B d (lent_prefix HN.out (Kd.C_below HLC6.out hE)) hnd).mono fun e w2 h => ⟨_, h.1, h.2, rfl⟩) ?_ | refine wpF_valg (by rfl) (fun w' hE hD => by unfold Yld; go_simp; exact (HCK.out w' B d (lent_prefix HN.out (Kd.C_below HLC6.out hE)) hnd).mono fun e w2 h => ⟨_, h.1, h.2, rfl⟩) ?_)
  (try simp only [Act.put, List.setIfInBounds_toArray, List.set_cons_zero, List.set_cons_succ])
  (first | refine wpF_val rfl (fun w' hE hD => Yld_load 58 (.tmp 1) rfl b1 0 rfl (smyC st pr nx (.slice A n c)) _ (rangeAt_ext HRW1.out hE) Try.underlying58 rfl (HIS.out _)) ?_ | refine wpF_valg (by rfl) (fun w' hE hD => Yld_load 58 (.tmp 1) rfl b1 0 rfl (smyC st pr nx (.slice A n c)) _ (rangeAt_ext HRW1.out hE) Try.underlying58 rfl (HIS.out _)) ?_)
  (try simp only [Act.put, List.setIfInBounds_toArray, List.set_cons_zero, List.set_cons_succ])
  (first | refine wpF_val rfl (fun w' hE hD => by unfold Yld; go_simp; exact (HRK.out w' A c (Kd.C_below HC6.out hE) hc).mono fun e w2 h => ⟨_, h.1, h.2, rfl⟩) ?_ | refine wpF_valg (by rfl) (fun w' hE hD => by unfold Yld; go_simp; exact (HRK.out w' A c (Kd.C_below HC6.out hE) hc).mono fun e w2 h => ⟨_, h.1, h.2, rfl⟩) ?_)
  (try simp only [Act.put, List.setIfInBounds_toArray, List.set_cons_zero, List.set_cons_succ])
  (first | refine wpF_val rfl (fun w' hE hD => by unfold Yld; go_simp; exact ⟨Ext.refl _, rfl⟩) ?_ | refine wpF_valg (by rfl) (fun w' hE hD => by unfold Yld; go_simp; exact ⟨Ext.refl _, rfl⟩) ?_)
  (try simp only [Act.put, List.setIfInBounds_toArray, List.set_cons_zero, List.set_cons_succ])
  (first | refine wpF_val rfl (fun w' hE hD => by unfold Yld; go_simp; exact ⟨Ext.refl _, rfl⟩) ?_ | refine wpF_valg (by rfl) (fun w' hE hD => by unfold Yld; go_simp; exact ⟨Ext.refl _, rfl⟩) ?_)
  (try simp only [Act.put, List.setIfInBounds_toArray, List.set_cons_zero, List.set_cons_succ])
  (first | refine wpF_val rfl (fun w' hE hD => by unfold Yld; go_simp; exact ⟨Ext.refl _, rfl⟩) ?_ | refine wpF_valg (by rfl) (fun w' hE hD => by unfold Yld; go_simp; exact ⟨Ext.refl _, rfl⟩) ?_)
  (try simp only [Act.put, List.setIfInBounds_toArray, List.set_cons_zero, List.set_cons_succ])
  (first | refine wpF_val rfl (fun w' hE hD => by unfold Yld; go_simp; exact ⟨Ext.refl _, rfl⟩) ?_ | refine wpF_valg (by rfl) (fun w' hE hD => by unfold Yld; go_simp; exact ⟨Ext.refl _, rfl⟩) ?_)
  (try simp only [Act.put, List.setIfInBounds_toArray, List.set_cons_zero, List.set_cons_succ])
  (first | refine wpF_val rfl (fun w' hE hD => by unfold Yld; go_simp; exact ⟨Ext.refl _, rfl⟩) ?_ | refine wpF_valg (by rfl) (fun w' hE hD => by unfold Yld; go_simp; exact ⟨Ext.refl _, rfl⟩) ?_)
  (try simp only [Act.put, List.setIfInBounds_toArray, List.set_cons_zero, List.set_cons_succ])
  (first | refine wpF_val rfl (fun w' hE hD => by unfold Yld; go_simp; exact (same_at w' A5 A9 c5 c9 X X true HKK.out HKK.out (by simp) (Kd.C_below H5C.out hE) h5c (Kd.C_below H9C.out hE) h9c (by rw [← HKK.out]; exact hk9)).mono fun e w2 h => ⟨_, h.1, h.2, rfl⟩) ?_ | refine wpF_valg (by rfl) (fun w' hE hD => by unfold Yld; go_simp; exact (same_at w' A5 A9 c5 c9 X X true HKK.out HKK.out (by simp) (Kd.C_below H5C.out hE) h5c (Kd.C_below H9C.out hE) h9c (by rw [← HKK.out]; exact hk9)).mono fun e w2 h => ⟨_, h.1, h.2, rfl⟩) ?_)
  (try simp only [Act.put, List.setIfInBounds_toArray, List.set_cons_zero, List.set_cons_succ])
  (first | refine wpF_val rfl (fun w' hE hD => by unfold Yld; go_simp; exact ⟨Ext.refl _, rfl⟩) ?_ | refine wpF_valg (by rfl) (fun w' hE hD => by unfold Yld; go_simp; exact ⟨Ext.refl _, rfl⟩) ?_)
  (try simp only [Act.put, List.setIfInBounds_toArray, List.set_cons_zero, List.set_cons_succ])
  (first | refine wpF_val rfl (fun w' hE hD => by unfold Yld; go_simp; exact ⟨Ext.refl _, rfl⟩) ?_ | refine wpF_valg (by rfl) (fun w' hE hD => by unfold Yld; go_simp; exact ⟨Ext.refl _, rfl⟩) ?_)
  (try simp only [Act.put, List.setIfInBounds_toArray, List.set_cons_zero, List.set_cons_succ])
  refine wpF_nil fun w7 hE7 hA => ?_
  simp only [List.drop_succ_cons, List.drop_zero]
  have HE7 := Aside0.mk (HE6.out.trans hE7)
  replace HN5 := Aside0.mk (NB.ext HN5.out hE7)
  replace HN7 := Aside0.mk (NB.ext HN7.out hE7)
  replace HN9 := Aside0.mk (NB.ext HN9.out hE7)
  clear hA hE7 HRW1 HRW4 H5C H9C HLC6 HC6 HE6
  go_wp2_with fail
  refine (spoil_calls w7 _ w3 (.slice A5 k c5) HE7.out HN5.out (by rw [← HKK.out]; exact hk9)).mono ?_
  rintro e w8 ⟨rfl, hE8, hKp⟩
  have HE8 := Aside0.mk hE8
  replace HN7 := Aside0.mk (NB.kept HN7.out hKp (fun j hj => HL5.out j hj))
  replace HN9 := Aside0.mk (NB.kept HN9.out hKp (fun j hj => Nat.lt_of_lt_of_le (HL5.out j hj) HS5.out))
  clear hE8 hKp HN5 HE7
  have H7C := Aside0.mk (nb_reads HN7.out HKK.out)
  have H9C := Aside0.mk (nb_reads HN9.out HKK.out)
  go_wp2_with fail
  refine (same_at w8 A7 A9 c7 c9 X X true HKK.out HKK.out (by simp) H7C.out h7c H9C.out h9c (by rw [← HKK.out]; exact hk9)).mono ?_
  rintro e w9 ⟨rfl, hE⟩
  have HE9 := Aside0.mk (HE8.out.trans hE)
  have c34 := (smyBlk (HK.out.ext HE9.out) HPL.out).2.2.2
  clear hE
  go_wp2_with fail
  refine (keptE_calls w9 B A d c n es HN.out (Kd.C_below HLC.out HE9.out) hd (Kd.C_below HC0.out (HE.out.trans HE9.out)) HX.out (by omega)).mono ?_
  rintro e wa ⟨rfl, hE⟩
  have HEa := Aside0.mk ((HE.out.trans HE9.out).trans hE)
  clear hE c34
  go_wp2_with fail
  refine (works_calls wa).mono ?_
  rintro e wb ⟨rfl, hE⟩
  go_wp2_with fail
  go_ret
  exact ⟨rfl, HEa.out.trans hE⟩
end Go.Proofs.Ythgdjgnbifakbaa.By
