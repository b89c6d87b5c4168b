/- The summary that bytes are, by the other codec: rillref12.Get. -/
import Derived.Test.YthgdjgnbifakbaaLb
import Derived.Test.YthgdjgnbifakbaaLc
namespace Go.Proofs.Ythgdjgnbifakbaa.By
open Go.RowKit Go.Proofs.Ythgdjgnbifakbaa.Reg Go.Proofs.YthgdjgnbifakbaaW.PrintWords Go.Proofs.YthgdjgnbifakbaaW.PrintLast Go.Proofs.YthgdjgnbifakbaaW.PrintMore
set_option linter.unusedVariables false
set_option linter.unusedSimpArgs false

theorem smy_set0 {w : World} {b : Nat} {st nx : Int} {pr : List Int} {V : Value} (h : Blk w b (smyC st pr nx V).toArray 58) (x : Int) : Blk (w.setCell ⟨b, 0, none⟩ (.int .i64 x)) b (smyC x pr nx V).toArray 58 := by
  have h1 := h.set 0 (.int .i64 x)
  rw [show (smyC st pr nx V).toArray.setIfInBounds 0 (.int .i64 x) = (smyC x pr nx V).toArray from rfl] at h1
  exact h1
theorem smy_set33 {w : World} {b : Nat} {st nx : Int} {pr : List Int} {V : Value} (h : Blk w b (smyC st pr nx V).toArray 58) (hp : pr.length = 32) (x : Int) : Blk (w.setCell ⟨b, 33, none⟩ (.int .i64 x)) b (smyC st pr x V).toArray 58 := by
  have h1 := h.set 33 (.int .i64 x)
  have : (smyC st pr nx V).toArray.setIfInBounds 33 (.int .i64 x) = (smyC st pr x V).toArray := by
    have hn : (nums .u8 pr).length = 32 := by rw [nums_length, hp]
    unfold smyC
    rw [List.setIfInBounds_toArray, List.set_cons_succ, List.set_append_right _ _ (by rw [hn]; decide), hn]
    rfl
  rw [this] at h1
  exact h1
theorem smy_spl {st nx : Int} {pr p2 : List Int} {V : Value} (hp : pr.length = 32) (h2 : p2.length = 32) : splice (smyC st pr nx V).toArray 1 (nums .u8 p2) = (smyC st p2 nx V).toArray := by
  have := splice_mid [.int .i64 st] (nums .u8 pr) [.int .i64 nx, V] (nums .u8 p2) (by rw [nums_length, nums_length, hp, h2])
  exact this
theorem th_spl {a b c : Int} {pr p2 : List Int} (hp : pr.length = 32) (h2 : p2.length = 32) : splice (thC (a, b, c, pr)).toArray 3 (nums .u8 p2) = (thC (a, b, c, p2)).toArray := by
  have := splice_mid [.int .i64 a, .int .i64 b, .int .i64 c] (nums .u8 pr) [] (nums .u8 p2) (by rw [nums_length, nums_length, hp, h2])
  rw [List.append_nil, List.append_nil] at this
  exact this
theorem th_set0 {w : World} {bk : Nat} {a b c : Int} {s : List Int} (h : Blk w bk (thC (a, b, c, s)).toArray 73) (x : Int) : Blk (w.setCell ⟨bk, 0, none⟩ (.int .i64 x)) bk (thC (x, b, c, s)).toArray 73 := h.set 0 (.int .i64 x)
theorem th_set1 {w : World} {bk : Nat} {a b c : Int} {s : List Int} (h : Blk w bk (thC (a, b, c, s)).toArray 73) (x : Int) : Blk (w.setCell ⟨bk, 1, none⟩ (.int .i64 x)) bk (thC (a, x, c, s)).toArray 73 := h.set 1 (.int .i64 x)
theorem th_set2 {w : World} {bk : Nat} {a b c : Int} {s : List Int} (h : Blk w bk (thC (a, b, c, s)).toArray 73) (x : Int) : Blk (w.setCell ⟨bk, 2, none⟩ (.int .i64 x)) bk (thC (a, b, x, s)).toArray 73 := h.set 2 (.int .i64 x)
theorem Rq.ext {w w' : World} {lo hi b : Nat} {bs : List Int} {s : RS} (h : Rq w lo hi b bs s) (he : Ext w w') : Rq w' lo hi b bs s := by
  obtain ⟨p, h0, h1, h2, h3⟩ := h; exact ⟨p, h0, h1, h2, h3.ext he⟩
theorem Rq.wrote {w w' : World} {lo hi b k : Nat} {bs : List Int} {s : RS} (h : Rq w lo hi b bs s) (hw : Wrote w w' k) (hk : hi ≤ k) : Rq w' lo hi b bs s := by
  obtain ⟨p, h0, h1, h2, h3⟩ := h; exact ⟨p, h0, h1, h2, h3.tch (Tch.of_wrote hw (Nat.le_refl k) (Nat.lt_succ_self k)) (.inl hk)⟩
theorem Rq.blw {w w' : World} {lo hi b : Nat} {bs : List Int} {s : RS} (h : Rq w lo hi b bs s) (k : Below hi w w') : Rq w' lo hi b bs s := by
  obtain ⟨p, h0, h1, h2, h3⟩ := h; exact ⟨p, h0, h1, h2, h3.blw k⟩
theorem Rq.bad {w : World} {lo hi b : Nat} {bs : List Int} {s : RS} (h : Rq w lo hi b bs s) : w.cell? ⟨b, 2, none⟩ = some (.bool s.2) := by
  obtain ⟨p, h0, h1, h2, A, c, h3⟩ := h; exact h3.blk.cell 2 rfl
theorem Rq.left {w : World} {lo hi b : Nat} {bs : List Int} {s : RS} (h : Rq w lo hi b bs s) : Calls Try.prog 41 #[.pointer (some ⟨b, 0, none⟩)] w fun e w' => e = .returned (.int .i64 (leftI s.1 s.2)) ∧ Ext w w' := by
  obtain ⟨p, h0, h1, h2, h3⟩ := h
  refine rleft_all w lo hi b bs p s.2 h3 h0 h1 _ ?_
  unfold leftI
  rw [h2, List.length_drop]
  split <;> omega
theorem Rq.end_ {w : World} {lo hi b : Nat} {bs : List Int} {s : RS} (h : Rq w lo hi b bs s) : Calls Try.prog 42 #[.pointer (some ⟨b, 0, none⟩)] w fun e w' => e = .returned (.int .i64 (endI s.1 s.2)) ∧ Ext w w' := by
  obtain ⟨p, h0, h1, h2, h3⟩ := h
  have := rend_calls w lo hi b bs p s.2 h3 h0 h1
  rw [← h2] at this
  exact this
theorem g_bad {bs : List Int} (h : (g4 bs).2.2 = true) : gE bs = 4 := by
  have h0 : (g4 bs).1 = 0 := by
    unfold g4 at h ⊢
    unfold tkInt at h ⊢
    split at h
    · rename_i hs; rw [if_pos hs]
    · cases h
  have hf : gForm bs = false := by unfold gForm leftI; rw [h, h0, if_pos rfl]; decide
  have hr : gR bs = ([], (g4 bs).2) := by unfold gR; rw [h0]; rfl
  have he : gEnd bs = 4 := by unfold gEnd endI; rw [hr]; show (if (g4 bs).2.2 = true then 4 else _) = (4 : Int); rw [h, if_pos rfl]
  unfold gE
  rw [hf, he, if_neg (by decide), if_neg (by decide)]
section
variable {P : Program} {w : World} {ops : Array Oper} {rest : List Oper} {o : Oper} {a : Act} {Q : Exit → Act → World → Prop}
theorem wpList_slice1 (hg : o.guard = none) (t e : TypeId) (x : Operand) (ho : o.op = .buildSlice t 1 #[(0, x)])
    (cells : Array Value) (hx : a.eval x = .agg cells) (ie : TypeInfo) (z : Value)
    (hu : P.underlying t = some (.slice e)) (hie : P.info? e = some ie) (hz : ie.zero = some z) (hsmall : ¬ 1 * ie.size > 2 ^ 24) (hpos : ¬ 1 * ie.size = 0)
    (hf : Instr.fill (fun i => some (i * ie.size, ie.size)) ((Array.range (1 * ie.size)).map (z.cells[· % z.cells.size]!)) [(0, .agg cells)] = some cells)
    (h : wpList P ops Q rest (a.put o.dst (.slice (some ⟨w.heap.size, 0, none⟩) 1 1)) (w.alloc (.cells cells e))) : wpList P ops Q (o :: rest) a w :=
  wpList_plain hg fun _ hK => wp_slice1 t e x ho cells hx ie z hu hie hz hsmall hpos hf (hK _ _ h)
end

end Go.Proofs.Ythgdjgnbifakbaa.By

/- The summary that bytes are, by the other codec: rillref12.Get. -/
namespace Go.Proofs.Ythgdjgnbifakbaa.By
open Go.RowKit Go.Proofs.Ythgdjgnbifakbaa.Reg Go.Proofs.YthgdjgnbifakbaaW.PrintWords Go.Proofs.YthgdjgnbifakbaaW.PrintLast Go.Proofs.YthgdjgnbifakbaaW.PrintMore
set_option linter.unusedVariables false
set_option linter.unusedSimpArgs false

theorem nums_one (xs : List Int) : ∀ v ∈ (nums .u8 xs).toArray.toList, v.oneCell' = true := by
  intro v hv
  simp only [nums, List.mem_map, List.toList_toArray] at hv
  obtain ⟨x, _, rfl⟩ := hv
  rfl

set_option maxRecDepth 100000 in
set_option maxHeartbeats 32000000 in
theorem rget_calls (w : World) (A : Option Addr) (c n : Nat) (bs : List Int) (hn : n = bs.length) (hr : Kd.C kb w A n bs) (hc : n ≤ c) (hB : isB bs) (hl : n ≤ 100000) :
    Calls Try.prog 52 #[.slice A n c] w fun e w' => ∃ V, e = .returned (.tuple #[smyV (oSt bs) (oPr bs) (oNx bs) V, .int .i64 (gE bs)]) ∧ EB w' w.heap.size V (oEs bs) ∧ Ext w w' := by
  have HK0 := Aside0.mk (Blk.new w #[Value.int .i64 0, Value.int .u8 0, Value.int .u8 0, Value.int .u8 0, Value.int .u8 0, Value.int .u8 0, Value.int .u8 0, Value.int .u8 0, Value.int .u8 0, Value.int .u8 0, Value.int .u8 0, Value.int .u8 0, Value.int .u8 0, Value.int .u8 0, Value.int .u8 0, Value.int .u8 0, Value.int .u8 0, Value.int .u8 0, Value.int .u8 0, Value.int .u8 0, Value.int .u8 0, Value.int .u8 0, Value.int .u8 0, Value.int .u8 0, Value.int .u8 0, Value.int .u8 0, Value.int .u8 0, Value.int .u8 0, Value.int .u8 0, Value.int .u8 0, Value.int .u8 0, Value.int .u8 0, Value.int .u8 0, Value.int .i64 0, Value.slice none 0 0] 58)
  have HE0 := Aside0.mk ((Ext.refl w).alloc (.cells #[Value.int .i64 0, Value.int .u8 0, Value.int .u8 0, Value.int .u8 0, Value.int .u8 0, Value.int .u8 0, Value.int .u8 0, Value.int .u8 0, Value.int .u8 0, Value.int .u8 0, Value.int .u8 0, Value.int .u8 0, Value.int .u8 0, Value.int .u8 0, Value.int .u8 0, Value.int .u8 0, Value.int .u8 0, Value.int .u8 0, Value.int .u8 0, Value.int .u8 0, Value.int .u8 0, Value.int .u8 0, Value.int .u8 0, Value.int .u8 0, Value.int .u8 0, Value.int .u8 0, Value.int .u8 0, Value.int .u8 0, Value.int .u8 0, Value.int .u8 0, Value.int .u8 0, Value.int .u8 0, Value.int .u8 0, Value.int .i64 0, Value.slice none 0 0] 58))
  have HR := Aside0.mk (Kd.C_below hr HE0.out)
  have HN := Aside0.mk hn
  have HLO := Aside0.mk (show w.heap.size < (w.alloc (.cells #[Value.int .i64 0, Value.int .u8 0, Value.int .u8 0, Value.int .u8 0, Value.int .u8 0, Value.int .u8 0, Value.int .u8 0, Value.int .u8 0, Value.int .u8 0, Value.int .u8 0, Value.int .u8 0, Value.int .u8 0, Value.int .u8 0, Value.int .u8 0, Value.int .u8 0, Value.int .u8 0, Value.int .u8 0, Value.int .u8 0, Value.int .u8 0, Value.int .u8 0, Value.int .u8 0, Value.int .u8 0, Value.int .u8 0, Value.int .u8 0, Value.int .u8 0, Value.int .u8 0, Value.int .u8 0, Value.int .u8 0, Value.int .u8 0, Value.int .u8 0, Value.int .u8 0, Value.int .u8 0, Value.int .u8 0, Value.int .i64 0, Value.slice none 0 0] 58)).heap.size by rw [size_alloc]; exact Nat.lt_succ_self _)
  have HGB := Aside0.mk (g_isB hB)
  have HBB := Aside0.mk hB
  have HGO := Aside0.mk (g_ok hB)
  have HSB := Aside0.mk (fun i => tkEs_ok i (g4 bs).2 (g_isB hB).2.2.2)
  have HZ0 := Aside0.mk (show #[Value.int .i64 0, Value.int .u8 0, Value.int .u8 0, Value.int .u8 0, Value.int .u8 0, Value.int .u8 0, Value.int .u8 0, Value.int .u8 0, Value.int .u8 0, Value.int .u8 0, Value.int .u8 0, Value.int .u8 0, Value.int .u8 0, Value.int .u8 0, Value.int .u8 0, Value.int .u8 0, Value.int .u8 0, Value.int .u8 0, Value.int .u8 0, Value.int .u8 0, Value.int .u8 0, Value.int .u8 0, Value.int .u8 0, Value.int .u8 0, Value.int .u8 0, Value.int .u8 0, Value.int .u8 0, Value.int .u8 0, Value.int .u8 0, Value.int .u8 0, Value.int .u8 0, Value.int .u8 0, Value.int .u8 0, Value.int .i64 0, Value.slice none 0 0].size = (smyC 0 zero32 0 (.slice none 0 0)).length by rfl)
  have HI0 := Aside0.mk (show (Try.prog.info? 58).map (·.size) = some (smyC 0 zero32 0 (.slice none 0 0)).length by kernel_rfl)
  clear hr hn hB
  go_enter Try.func52, Try.ntmps52
  go_wp2_with fail
  refine (rread_calls _ A c n bs HN.out HR.out hc (by omega)).mono ?_
  rintro e w1 ⟨b, rfl, hRd, hE1⟩
  have HX1 := Aside0.mk (HE0.out.trans hE1)
  have HK1 := Aside0.mk (HK0.out.ext hE1)
  have HLH := Aside0.mk (show (w.alloc (.cells #[Value.int .i64 0, Value.int .u8 0, Value.int .u8 0, Value.int .u8 0, Value.int .u8 0, Value.int .u8 0, Value.int .u8 0, Value.int .u8 0, Value.int .u8 0, Value.int .u8 0, Value.int .u8 0, Value.int .u8 0, Value.int .u8 0, Value.int .u8 0, Value.int .u8 0, Value.int .u8 0, Value.int .u8 0, Value.int .u8 0, Value.int .u8 0, Value.int .u8 0, Value.int .u8 0, Value.int .u8 0, Value.int .u8 0, Value.int .u8 0, Value.int .u8 0, Value.int .u8 0, Value.int .u8 0, Value.int .u8 0, Value.int .u8 0, Value.int .u8 0, Value.int .u8 0, Value.int .u8 0, Value.int .u8 0, Value.int .i64 0, Value.slice none 0 0] 58)).heap.size ≤ w1.heap.size from hE1.size)
  generalize (w.alloc (.cells #[Value.int .i64 0, Value.int .u8 0, Value.int .u8 0, Value.int .u8 0, Value.int .u8 0, Value.int .u8 0, Value.int .u8 0, Value.int .u8 0, Value.int .u8 0, Value.int .u8 0, Value.int .u8 0, Value.int .u8 0, Value.int .u8 0, Value.int .u8 0, Value.int .u8 0, Value.int .u8 0, Value.int .u8 0, Value.int .u8 0, Value.int .u8 0, Value.int .u8 0, Value.int .u8 0, Value.int .u8 0, Value.int .u8 0, Value.int .u8 0, Value.int .u8 0, Value.int .u8 0, Value.int .u8 0, Value.int .u8 0, Value.int .u8 0, Value.int .u8 0, Value.int .u8 0, Value.int .u8 0, Value.int .u8 0, Value.int .i64 0, Value.slice none 0 0] 58)).heap.size = lo at hRd HLO HLH
  obtain ⟨hi, hhi⟩ : ∃ hi, hi = w1.heap.size := ⟨_, rfl⟩
  rw [← hhi] at hRd HLH
  have HRD1 := Aside0.mk (show Rq w1 lo hi b bs (bs, false) from ⟨0, Int.le_refl 0, Int.natCast_nonneg _, rfl, hRd⟩)
  clear hRd hE1 HK0 HE0 HR
  go_wp2_with (first | ((with_reducible refine gate_build (ty := 58) rfl ?_); refine build_at rfl 58 #[] rfl _ [] rfl built_smy0 ?_) | ((with_reducible refine gate_store (ty := 58) rfl ?_); (refine store_at rfl 58 _ _ rfl w1.heap.size (smyC 0 zero32 0 (.slice none 0 0)) rfl rfl #[Value.int .i64 0, Value.int .u8 0, Value.int .u8 0, Value.int .u8 0, Value.int .u8 0, Value.int .u8 0, Value.int .u8 0, Value.int .u8 0, Value.int .u8 0, Value.int .u8 0, Value.int .u8 0, Value.int .u8 0, Value.int .u8 0, Value.int .u8 0, Value.int .u8 0, Value.int .u8 0, Value.int .u8 0, Value.int .u8 0, Value.int .u8 0, Value.int .u8 0, Value.int .u8 0, Value.int .u8 0, Value.int .u8 0, Value.int .u8 0, Value.int .u8 0, Value.int .u8 0, Value.int .u8 0, Value.int .u8 0, Value.int .u8 0, Value.int .u8 0, Value.int .u8 0, Value.int .u8 0, Value.int .u8 0, Value.int .i64 0, Value.slice none 0 0] 58 (Blk.new w1 _ 58) HZ0.out HI0.out (smyC_one _ _ _ _ _ _) ?_)) | fail)
  intro w2 hW2 hB2
  have hx2 := hW2.ext ((Ext.refl w1).alloc _) (Nat.le_refl _)
  have HB := Aside0.mk hB2
  have HK := Aside0.mk (HK1.out.ext hx2)
  have HX := Aside0.mk (HX1.out.trans hx2)
  have HRD := Aside0.mk (HRD1.out.ext hx2)
  have HH4 := Aside0.mk (Nat.le_of_eq hhi)
  have HBX := Aside0.mk (show w.heap.size < w1.heap.size from Nat.lt_of_lt_of_le HLO.out (by rw [← hhi]; exact HLH.out))
  clear hW2 hB2 hx2 HK1 HX1 HRD1 hhi
  generalize w1.heap.size = b5 at HB HH4 HBX ⊢
  have HNB := Aside0.mk (show ¬ (lo ≤ b5 ∧ b5 < hi) by have := HH4.out; omega)
  have HNK := Aside0.mk (show ¬ (lo ≤ w.heap.size ∧ w.heap.size < hi) by have := HLO.out; omega)
  go_wp2_with fail
  refine (rtkint_calls _ lo hi b _ bs HRD.out HBB.out).mono ?_
  rintro e w3 ⟨rfl, hR, hT⟩
  obtain ⟨a1, ha1⟩ : ∃ x, x = (g1 bs).1 := ⟨_, rfl⟩
  rw [show (tkInt (bs, false)).1 = a1 from ha1.symm]
  have HA1 := Aside0.mk ha1
  clear ha1
  replace HRD := Aside0.mk (show Rq w3 lo hi b bs (g1 bs).2 from hR)
  replace HB := Aside0.mk (hT.blk HB.out HNB.out)
  replace HK := Aside0.mk (hT.blk HK.out HNK.out)
  replace HX := Aside0.mk (hT.ext HX.out (Nat.le_of_lt HLO.out))
  clear hR hT
  have c0 := (smyBlk HB.out zero32_length).1
  have f0 := HB.out.free 0
  go_wp2_with fail
  have HW := Aside0.mk (Wrote.setCell w3 b5 0 (.int .i64 a1))
  replace HB := Aside0.mk (smy_set0 HB.out a1)
  replace HK := Aside0.mk (HK.out.wrote HW.out (by have := HBX.out; omega))
  replace HRD := Aside0.mk (HRD.out.wrote HW.out HH4.out)
  replace HX := Aside0.mk (HW.out.ext HX.out (by have := HBX.out; omega))
  clear HW
  clear c0 f0
  generalize w3.setCell ⟨b5, 0, none⟩ (.int .i64 a1) = w4 at HB HK HRD HX ⊢
  go_wp2_with fail
  refine (rtksum_calls _ lo hi b _ bs HRD.out HBB.out).mono ?_
  rintro e w5 ⟨rfl, hR, hT⟩
  obtain ⟨pr, hpr⟩ : ∃ x, x = (g2 bs).1 := ⟨_, rfl⟩
  rw [show (tkSum (g1 bs).2).1 = pr from hpr.symm]
  have HPR := Aside0.mk hpr
  clear hpr
  replace HRD := Aside0.mk (show Rq w5 lo hi b bs (g2 bs).2 from hR)
  replace HB := Aside0.mk (hT.blk HB.out HNB.out)
  replace HK := Aside0.mk (hT.blk HK.out HNK.out)
  replace HX := Aside0.mk (hT.ext HX.out (Nat.le_of_lt HLO.out))
  clear hR hT
  have HPL := Aside0.mk (show pr.length = 32 by rw [HPR.out]; exact HGO.out.1)
  have HI24 := Aside0.mk (show (Try.prog.info? 24).map (·.size) = some (nums .u8 pr).toArray.size by rw [List.size_toArray, nums_length, HPL.out]; kernel_rfl)
  have HSZ := Aside0.mk (show 1 + (nums .u8 pr).toArray.size ≤ (smyC a1 zero32 0 (.slice none 0 0)).toArray.size by rw [List.size_toArray, List.size_toArray, nums_length, HPL.out, smyC_len zero32_length]; omega)
  go_wp2_with (first | ((with_reducible refine gate_store (ty := 24) rfl ?_); refine wpList_store_blk rfl 24 _ _ rfl b5 1 (nums .u8 pr).toArray rfl rfl _ 58 HB.out HSZ.out HI24.out (nums_one _) ?_) | fail)
  intro w6 hW hB6
  have HW := Aside0.mk hW
  replace HB := Aside0.mk (show Blk w6 b5 (smyC a1 pr 0 (.slice none 0 0)).toArray 58 by rw [smy_spl zero32_length HPL.out] at hB6; exact hB6)
  clear hB6 hW
  replace HK := Aside0.mk (HK.out.wrote HW.out (by have := HBX.out; omega))
  replace HRD := Aside0.mk (HRD.out.wrote HW.out HH4.out)
  replace HX := Aside0.mk (HW.out.ext HX.out (by have := HBX.out; omega))
  clear HW
  clear HI24 HSZ
  go_wp2_with fail
  refine (rtkint_calls _ lo hi b _ bs HRD.out HBB.out).mono ?_
  rintro e w7 ⟨rfl, hR, hT⟩
  obtain ⟨a3, ha3⟩ : ∃ x, x = (g3 bs).1 := ⟨_, rfl⟩
  rw [show (tkInt (g2 bs).2).1 = a3 from ha3.symm]
  have HA3 := Aside0.mk ha3
  clear ha3
  replace HRD := Aside0.mk (show Rq w7 lo hi b bs (g3 bs).2 from hR)
  replace HB := Aside0.mk (hT.blk HB.out HNB.out)
  replace HK := Aside0.mk (hT.blk HK.out HNK.out)
  replace HX := Aside0.mk (hT.ext HX.out (Nat.le_of_lt HLO.out))
  clear hR hT
  have c0 := (smyBlk HB.out HPL.out).2.2.1
  have f0 := HB.out.free 33
  go_wp2_with fail
  have HW := Aside0.mk (Wrote.setCell w7 b5 33 (.int .i64 a3))
  replace HB := Aside0.mk (smy_set33 HB.out HPL.out a3)
  replace HK := Aside0.mk (HK.out.wrote HW.out (by have := HBX.out; omega))
  replace HRD := Aside0.mk (HRD.out.wrote HW.out HH4.out)
  replace HX := Aside0.mk (HW.out.ext HX.out (by have := HBX.out; omega))
  clear HW
  clear c0 f0
  generalize w7.setCell ⟨b5, 33, none⟩ (.int .i64 a3) = w8 at HB HK HRD HX ⊢
  have HIS := Aside0.mk (fun V => show (Try.prog.info? 58).map (·.size) = some (smyC a1 pr a3 V).length by rw [smyC_len HPL.out]; kernel_rfl)
  have HSS := Aside0.mk (fun V => show #[Value.int .i64 0, Value.int .u8 0, Value.int .u8 0, Value.int .u8 0, Value.int .u8 0, Value.int .u8 0, Value.int .u8 0, Value.int .u8 0, Value.int .u8 0, Value.int .u8 0, Value.int .u8 0, Value.int .u8 0, Value.int .u8 0, Value.int .u8 0, Value.int .u8 0, Value.int .u8 0, Value.int .u8 0, Value.int .u8 0, Value.int .u8 0, Value.int .u8 0, Value.int .u8 0, Value.int .u8 0, Value.int .u8 0, Value.int .u8 0, Value.int .u8 0, Value.int .u8 0, Value.int .u8 0, Value.int .u8 0, Value.int .u8 0, Value.int .u8 0, Value.int .u8 0, Value.int .u8 0, Value.int .u8 0, Value.int .i64 0, Value.slice none 0 0].size = (smyC a1 pr a3 V).length by rw [smyC_len HPL.out]; rfl)
  go_wp2_with fail
  refine (rtkint_calls _ lo hi b _ bs HRD.out HBB.out).mono ?_
  rintro e w9 ⟨rfl, hR, hT⟩
  obtain ⟨a4, ha4⟩ : ∃ x, x = (g4 bs).1 := ⟨_, rfl⟩
  rw [show (tkInt (g3 bs).2).1 = a4 from ha4.symm]
  have HA4 := Aside0.mk ha4
  clear ha4
  replace HRD := Aside0.mk (show Rq w9 lo hi b bs (g4 bs).2 from hR)
  replace HB := Aside0.mk (hT.blk HB.out HNB.out)
  replace HK := Aside0.mk (hT.blk HK.out HNK.out)
  replace HX := Aside0.mk (hT.ext HX.out (Nat.le_of_lt HLO.out))
  clear hR hT
  have hr4 : -9223372036854775808 ≤ a4 ∧ a4 ≤ 9223372036854775807 := by rw [HA4.out]; exact tkInt_r _
  obtain ⟨r40, r41⟩ := hr4
  obtain ⟨lf, hlf⟩ : ∃ lf, lf = leftI (g4 bs).2.1 (g4 bs).2.2 := ⟨_, rfl⟩
  have HLF := Aside0.mk hlf
  have hlf0 : 0 ≤ lf := by rw [hlf]; unfold leftI; split <;> omega
  have hlf1 : lf ≤ 100000 := by
    have h := g4_len bs
    rw [hlf]; unfold leftI; have := HN.out; split <;> omega
  have HGF := Aside0.mk (show gForm bs = (decide (a4 < 0) || decide (lf / 8 < a4)) by unfold gForm; rw [← HA4.out, ← hlf])
  obtain ⟨bad, hbad⟩ : ∃ bad, bad = (g4 bs).2.2 := ⟨_, rfl⟩
  have c2 := HRD.out.bad
  have hLeft := HRD.out.left
  rw [← hlf] at hLeft
  have HLE := Aside0.mk hLeft
  rw [← hbad] at c2
  have HBAD := Aside0.mk hbad
  clear hlf hbad hLeft
  cases bad
  case true =>
    have HIZ := Aside0.mk (show (Try.prog.info? 58).map (·.size) = some (smyC 0 zero32 0 (.slice none 0 0)).length by kernel_rfl)
    have HZS := Aside0.mk (show #[Value.int .i64 0, Value.int .u8 0, Value.int .u8 0, Value.int .u8 0, Value.int .u8 0, Value.int .u8 0, Value.int .u8 0, Value.int .u8 0, Value.int .u8 0, Value.int .u8 0, Value.int .u8 0, Value.int .u8 0, Value.int .u8 0, Value.int .u8 0, Value.int .u8 0, Value.int .u8 0, Value.int .u8 0, Value.int .u8 0, Value.int .u8 0, Value.int .u8 0, Value.int .u8 0, Value.int .u8 0, Value.int .u8 0, Value.int .u8 0, Value.int .u8 0, Value.int .u8 0, Value.int .u8 0, Value.int .u8 0, Value.int .u8 0, Value.int .u8 0, Value.int .u8 0, Value.int .u8 0, Value.int .u8 0, Value.int .i64 0, Value.slice none 0 0].size = (smyC 0 zero32 0 (.slice none 0 0)).length by rfl)
    have HG := Aside0.mk (show gE bs = 4 by exact g_bad HBAD.out.symm)
    have HO := Aside0.mk (show oSt bs = 0 ∧ oPr bs = zero32 ∧ oNx bs = 0 ∧ oEs bs = [] by
      have h : ¬ gE bs = 0 := by rw [HG.out]; decide
      unfold oSt oPr oNx oEs; rw [if_neg h, if_neg h, if_neg h, if_neg h]; exact ⟨rfl, rfl, rfl, rfl⟩)
    go_wp2_with (first | ((with_reducible refine gate_build (ty := 58) rfl ?_); refine build_at rfl 58 #[] rfl _ [] rfl built_smy0 ?_) | ((with_reducible refine gate_store (ty := 58) rfl ?_); (refine store_at rfl 58 _ _ rfl w.heap.size (smyC 0 zero32 0 (.slice none 0 0)) rfl rfl #[Value.int .i64 0, Value.int .u8 0, Value.int .u8 0, Value.int .u8 0, Value.int .u8 0, Value.int .u8 0, Value.int .u8 0, Value.int .u8 0, Value.int .u8 0, Value.int .u8 0, Value.int .u8 0, Value.int .u8 0, Value.int .u8 0, Value.int .u8 0, Value.int .u8 0, Value.int .u8 0, Value.int .u8 0, Value.int .u8 0, Value.int .u8 0, Value.int .u8 0, Value.int .u8 0, Value.int .u8 0, Value.int .u8 0, Value.int .u8 0, Value.int .u8 0, Value.int .u8 0, Value.int .u8 0, Value.int .u8 0, Value.int .u8 0, Value.int .u8 0, Value.int .u8 0, Value.int .u8 0, Value.int .u8 0, Value.int .i64 0, Value.slice none 0 0] 58 HK.out HZS.out HIZ.out (smyC_one _ _ _ _ _ _) ?_)) | fail)
    intro wf hWf hBf
    have HEF := Aside0.mk (hWf.ext HX.out (Nat.le_refl _))
    have HBf := Aside0.mk hBf
    clear hWf hBf
    go_wp2_with fail
    (try simp only [Exit.inBlock, Exit.then])
    refine bodyPost_ret (results_ct rfl _ _ w.heap.size 58 (smyC 0 zero32 0 (.slice none 0 0)).toArray (0, 0) _ rfl HBf.out.is Try.underlying58 rfl (by kernel_rfl)) rfl ?_
    exact ⟨.slice none 0 0, by rw [HO.out.1, HO.out.2.1, HO.out.2.2.1, HG.out]; rfl, by rw [HO.out.2.2.2]; exact EB.nil _ _, HEF.out⟩
  by_cases hneg : a4 < 0
  · skip
    have HNEG := Aside0.mk hneg
    have HIZ := Aside0.mk (show (Try.prog.info? 58).map (·.size) = some (smyC 0 zero32 0 (.slice none 0 0)).length by kernel_rfl)
    have HZS := Aside0.mk (show #[Value.int .i64 0, Value.int .u8 0, Value.int .u8 0, Value.int .u8 0, Value.int .u8 0, Value.int .u8 0, Value.int .u8 0, Value.int .u8 0, Value.int .u8 0, Value.int .u8 0, Value.int .u8 0, Value.int .u8 0, Value.int .u8 0, Value.int .u8 0, Value.int .u8 0, Value.int .u8 0, Value.int .u8 0, Value.int .u8 0, Value.int .u8 0, Value.int .u8 0, Value.int .u8 0, Value.int .u8 0, Value.int .u8 0, Value.int .u8 0, Value.int .u8 0, Value.int .u8 0, Value.int .u8 0, Value.int .u8 0, Value.int .u8 0, Value.int .u8 0, Value.int .u8 0, Value.int .u8 0, Value.int .u8 0, Value.int .i64 0, Value.slice none 0 0].size = (smyC 0 zero32 0 (.slice none 0 0)).length by rfl)
    have HG := Aside0.mk (show gE bs = 4 by unfold gE; rw [if_pos (by rw [HGF.out, decide_eq_true HNEG.out]; rfl)])
    have HO := Aside0.mk (show oSt bs = 0 ∧ oPr bs = zero32 ∧ oNx bs = 0 ∧ oEs bs = [] by
      have h : ¬ gE bs = 0 := by rw [HG.out]; decide
      unfold oSt oPr oNx oEs; rw [if_neg h, if_neg h, if_neg h, if_neg h]; exact ⟨rfl, rfl, rfl, rfl⟩)
    go_wp2_with (first | ((with_reducible refine gate_build (ty := 58) rfl ?_); refine build_at rfl 58 #[] rfl _ [] rfl built_smy0 ?_) | ((with_reducible refine gate_store (ty := 58) rfl ?_); (refine store_at rfl 58 _ _ rfl w.heap.size (smyC 0 zero32 0 (.slice none 0 0)) rfl rfl #[Value.int .i64 0, Value.int .u8 0, Value.int .u8 0, Value.int .u8 0, Value.int .u8 0, Value.int .u8 0, Value.int .u8 0, Value.int .u8 0, Value.int .u8 0, Value.int .u8 0, Value.int .u8 0, Value.int .u8 0, Value.int .u8 0, Value.int .u8 0, Value.int .u8 0, Value.int .u8 0, Value.int .u8 0, Value.int .u8 0, Value.int .u8 0, Value.int .u8 0, Value.int .u8 0, Value.int .u8 0, Value.int .u8 0, Value.int .u8 0, Value.int .u8 0, Value.int .u8 0, Value.int .u8 0, Value.int .u8 0, Value.int .u8 0, Value.int .u8 0, Value.int .u8 0, Value.int .u8 0, Value.int .u8 0, Value.int .i64 0, Value.slice none 0 0] 58 HK.out HZS.out HIZ.out (smyC_one _ _ _ _ _ _) ?_)) | fail)
    intro wf hWf hBf
    have HEF := Aside0.mk (hWf.ext HX.out (Nat.le_refl _))
    have HBf := Aside0.mk hBf
    clear hWf hBf
    go_wp2_with fail
    (try simp only [Exit.inBlock, Exit.then])
    refine bodyPost_ret (results_ct rfl _ _ w.heap.size 58 (smyC 0 zero32 0 (.slice none 0 0)).toArray (0, 0) _ rfl HBf.out.is Try.underlying58 rfl (by kernel_rfl)) rfl ?_
    exact ⟨.slice none 0 0, by rw [HO.out.1, HO.out.2.1, HO.out.2.2.1, HG.out]; rfl, by rw [HO.out.2.2.2]; exact EB.nil _ _, HEF.out⟩
  have HNG := Aside0.mk hneg
  have hneg' : 0 ≤ a4 := by omega
  by_cases hbig : lf / 8 < a4
  · skip
    have HBIG := Aside0.mk hbig
    have hbig' : (lf / 8 < a4) = True := eq_true hbig
    clear hbig hneg
    go_wp2_with fail
    refine HLE.out.mono ?_
    rintro e w10 ⟨rfl, hE7⟩
    have HX7 := Aside0.mk (HX.out.trans hE7)
    have HK7 := Aside0.mk (HK.out.ext hE7)
    clear hE7
    have HIZ := Aside0.mk (show (Try.prog.info? 58).map (·.size) = some (smyC 0 zero32 0 (.slice none 0 0)).length by kernel_rfl)
    have HZS := Aside0.mk (show #[Value.int .i64 0, Value.int .u8 0, Value.int .u8 0, Value.int .u8 0, Value.int .u8 0, Value.int .u8 0, Value.int .u8 0, Value.int .u8 0, Value.int .u8 0, Value.int .u8 0, Value.int .u8 0, Value.int .u8 0, Value.int .u8 0, Value.int .u8 0, Value.int .u8 0, Value.int .u8 0, Value.int .u8 0, Value.int .u8 0, Value.int .u8 0, Value.int .u8 0, Value.int .u8 0, Value.int .u8 0, Value.int .u8 0, Value.int .u8 0, Value.int .u8 0, Value.int .u8 0, Value.int .u8 0, Value.int .u8 0, Value.int .u8 0, Value.int .u8 0, Value.int .u8 0, Value.int .u8 0, Value.int .u8 0, Value.int .i64 0, Value.slice none 0 0].size = (smyC 0 zero32 0 (.slice none 0 0)).length by rfl)
    have HG := Aside0.mk (show gE bs = 4 by unfold gE; rw [if_pos (by rw [HGF.out, decide_eq_true HBIG.out, Bool.or_true])])
    have HO := Aside0.mk (show oSt bs = 0 ∧ oPr bs = zero32 ∧ oNx bs = 0 ∧ oEs bs = [] by
      have h : ¬ gE bs = 0 := by rw [HG.out]; decide
      unfold oSt oPr oNx oEs; rw [if_neg h, if_neg h, if_neg h, if_neg h]; exact ⟨rfl, rfl, rfl, rfl⟩)
    go_wp2_with (first | ((with_reducible refine gate_build (ty := 58) rfl ?_); refine build_at rfl 58 #[] rfl _ [] rfl built_smy0 ?_) | ((with_reducible refine gate_store (ty := 58) rfl ?_); (refine store_at rfl 58 _ _ rfl w.heap.size (smyC 0 zero32 0 (.slice none 0 0)) rfl rfl #[Value.int .i64 0, Value.int .u8 0, Value.int .u8 0, Value.int .u8 0, Value.int .u8 0, Value.int .u8 0, Value.int .u8 0, Value.int .u8 0, Value.int .u8 0, Value.int .u8 0, Value.int .u8 0, Value.int .u8 0, Value.int .u8 0, Value.int .u8 0, Value.int .u8 0, Value.int .u8 0, Value.int .u8 0, Value.int .u8 0, Value.int .u8 0, Value.int .u8 0, Value.int .u8 0, Value.int .u8 0, Value.int .u8 0, Value.int .u8 0, Value.int .u8 0, Value.int .u8 0, Value.int .u8 0, Value.int .u8 0, Value.int .u8 0, Value.int .u8 0, Value.int .u8 0, Value.int .u8 0, Value.int .u8 0, Value.int .i64 0, Value.slice none 0 0] 58 HK7.out HZS.out HIZ.out (smyC_one _ _ _ _ _ _) ?_)) | fail)
    intro wf hWf hBf
    have HEF := Aside0.mk (hWf.ext HX7.out (Nat.le_refl _))
    have HBf := Aside0.mk hBf
    clear hWf hBf
    go_wp2_with fail
    (try simp only [Exit.inBlock, Exit.then])
    refine bodyPost_ret (results_ct rfl _ _ w.heap.size 58 (smyC 0 zero32 0 (.slice none 0 0)).toArray (0, 0) _ rfl HBf.out.is Try.underlying58 rfl (by kernel_rfl)) rfl ?_
    exact ⟨.slice none 0 0, by rw [HO.out.1, HO.out.2.1, HO.out.2.2.1, HG.out]; rfl, by rw [HO.out.2.2.2]; exact EB.nil _ _, HEF.out⟩
  have HGF0 := Aside0.mk (show gForm bs = false by rw [HGF.out, decide_eq_false hneg, decide_eq_false hbig]; rfl)
  have hbig' : a4 ≤ lf / 8 := by omega
  have hbig'' : (lf / 8 < a4) = False := eq_false hbig
  clear hneg hbig
  go_wp2_with fail
  refine HLE.out.mono ?_
  rintro e w10 ⟨rfl, hE⟩
  have HRD7 := Aside0.mk (show Rq w10 lo hi b bs (tkEs 0 (g4 bs).2).2 from HRD.out.ext hE)
  have HX7 := Aside0.mk (HX.out.trans hE)
  have HK7 := Aside0.mk (HK.out.ext hE)
  have HB7 := Aside0.mk (HB.out.ext hE)
  have HV7 := Aside0.mk (show EB w10 (b5 + 1) (.slice none 0 0) (tkEs 0 (g4 bs).2).1 from EB.nil w10 (b5 + 1))
  clear hE HRD HX HK HB c2 HLE
  go_wp2_with fail
  go_loopw [7] (fun v wr => ∃ i : Nat, v = .int .i64 i ∧ Aside0 ((i : Int) ≤ a4) ∧ Aside0 (Rq wr lo hi b bs (tkEs i (g4 bs).2).2) ∧ (∃ V, Aside0 (Blk wr b5 (smyC a1 pr a3 V).toArray 58) ∧ Aside0 (EB wr (b5 + 1) V (tkEs i (g4 bs).2).1)) ∧ Aside0 (Blk wr w.heap.size #[Value.int .i64 0, Value.int .u8 0, Value.int .u8 0, Value.int .u8 0, Value.int .u8 0, Value.int .u8 0, Value.int .u8 0, Value.int .u8 0, Value.int .u8 0, Value.int .u8 0, Value.int .u8 0, Value.int .u8 0, Value.int .u8 0, Value.int .u8 0, Value.int .u8 0, Value.int .u8 0, Value.int .u8 0, Value.int .u8 0, Value.int .u8 0, Value.int .u8 0, Value.int .u8 0, Value.int .u8 0, Value.int .u8 0, Value.int .u8 0, Value.int .u8 0, Value.int .u8 0, Value.int .u8 0, Value.int .u8 0, Value.int .u8 0, Value.int .u8 0, Value.int .u8 0, Value.int .u8 0, Value.int .u8 0, Value.int .i64 0, Value.slice none 0 0] 58) ∧ Aside0 (Ext w wr)) (fun v _ => a4.toNat - (intOf v).toNat)
  case atStart => exact ⟨0, rfl, ⟨hneg'⟩, HRD7, ⟨_, HB7, HV7⟩, HK7, HX7⟩
  case round =>
    clear HRD7 HB7 HV7 HK7 HX7
    obtain ⟨i, rfl, HI, HRD, ⟨V, HB, HV⟩, HK, HX⟩ := hrel
    have hia := HI.out
    obtain ⟨wx, hwx⟩ : ∃ wx : World, wx = wr := ⟨_, rfl⟩
    subst hwx
    by_cases hlt : (i : Int) < a4
    · skip
      have HLT := Aside0.mk hlt
      obtain ⟨s, hs⟩ : ∃ s, s = (tkEs i (g4 bs).2).2 := ⟨_, rfl⟩
      rw [← hs] at HRD
      have HS := Aside0.mk hs
      have HIB := Aside0.mk (show isB s.1 by rw [hs]; exact (HSB.out i).2.2)
      have HTK := Aside0.mk (tkE_ok HIB.out)
      have HTO := Aside0.mk (show (tkE s).1.2.2.2.length = 32 from HTK.out.1.2.2.2.1)
      have HIN : Aside0 ((Try.prog.info? 73).map (fun i => (i.zero, i.size, i.bytes)) = some (some (.agg #[Value.int .i64 0, Value.int .i64 0, Value.int .i64 0, Value.int .u8 0, Value.int .u8 0, Value.int .u8 0, Value.int .u8 0, Value.int .u8 0, Value.int .u8 0, Value.int .u8 0, Value.int .u8 0, Value.int .u8 0, Value.int .u8 0, Value.int .u8 0, Value.int .u8 0, Value.int .u8 0, Value.int .u8 0, Value.int .u8 0, Value.int .u8 0, Value.int .u8 0, Value.int .u8 0, Value.int .u8 0, Value.int .u8 0, Value.int .u8 0, Value.int .u8 0, Value.int .u8 0, Value.int .u8 0, Value.int .u8 0, Value.int .u8 0, Value.int .u8 0, Value.int .u8 0, Value.int .u8 0, Value.int .u8 0, Value.int .u8 0, Value.int .u8 0]), 35, 56)) := ⟨by kernel_rfl⟩
      have HIT := Aside0.mk (show (Try.prog.info? 73).map (·.size) = some (thC (0, 0, 0, zero32)).length by kernel_rfl)
      have HZT := Aside0.mk (show #[Value.int .i64 0, Value.int .i64 0, Value.int .i64 0, Value.int .u8 0, Value.int .u8 0, Value.int .u8 0, Value.int .u8 0, Value.int .u8 0, Value.int .u8 0, Value.int .u8 0, Value.int .u8 0, Value.int .u8 0, Value.int .u8 0, Value.int .u8 0, Value.int .u8 0, Value.int .u8 0, Value.int .u8 0, Value.int .u8 0, Value.int .u8 0, Value.int .u8 0, Value.int .u8 0, Value.int .u8 0, Value.int .u8 0, Value.int .u8 0, Value.int .u8 0, Value.int .u8 0, Value.int .u8 0, Value.int .u8 0, Value.int .u8 0, Value.int .u8 0, Value.int .u8 0, Value.int .u8 0, Value.int .u8 0, Value.int .u8 0, Value.int .u8 0].size = (thC (0, 0, 0, zero32)).length by rfl)
      have HL1 := Aside0.mk (show ((tkEs i (g4 bs).2).1.length + 1) * 56 ≤ 140737488355328 by rw [(HSB.out i).1]; omega)
      clear hs
      go_wp2_with (first | ((with_reducible refine gate_build (ty := 73) rfl ?_); refine build_at rfl 73 #[] rfl _ [] rfl built_th0 ?_) | ((with_reducible refine gate_store (ty := 73) rfl ?_); (refine store_at rfl 73 _ _ rfl wx.heap.size (thC (0, 0, 0, zero32)) rfl rfl #[Value.int .i64 0, Value.int .i64 0, Value.int .i64 0, Value.int .u8 0, Value.int .u8 0, Value.int .u8 0, Value.int .u8 0, Value.int .u8 0, Value.int .u8 0, Value.int .u8 0, Value.int .u8 0, Value.int .u8 0, Value.int .u8 0, Value.int .u8 0, Value.int .u8 0, Value.int .u8 0, Value.int .u8 0, Value.int .u8 0, Value.int .u8 0, Value.int .u8 0, Value.int .u8 0, Value.int .u8 0, Value.int .u8 0, Value.int .u8 0, Value.int .u8 0, Value.int .u8 0, Value.int .u8 0, Value.int .u8 0, Value.int .u8 0, Value.int .u8 0, Value.int .u8 0, Value.int .u8 0, Value.int .u8 0, Value.int .u8 0, Value.int .u8 0] 73 (Blk.new wx _ 73) HZT.out HIT.out (thC_one _) ?_)) | fail)
      intro wa hWa hBa
      have hxa := hWa.ext ((Ext.refl wx).alloc _) (Nat.le_refl _)
      have HT8 := Aside0.mk hBa
      have HB8 := Aside0.mk HB.out.lt
      have HVL := Aside0.mk (Kd.R_lt HV.out)
      replace HB := Aside0.mk (HB.out.ext hxa)
      replace HV := Aside0.mk (HV.out.ext hxa)
      replace HK := Aside0.mk (HK.out.ext hxa)
      replace HRD := Aside0.mk (HRD.out.ext hxa)
      replace HX := Aside0.mk (HX.out.trans hxa)
      clear hWa hBa hxa HIT HZT
      generalize wx.heap.size = bx at HT8 HB8 HVL ⊢
      have HN8 := Aside0.mk (show ¬ (lo ≤ bx ∧ bx < hi) by have := HH4.out; have := HB8.out; omega)
      go_wp2_with fail
      refine (rtkint_calls _ lo hi b _ bs HRD.out HBB.out).mono ?_
      rintro e wb ⟨rfl, hR, hT⟩
      replace HRD := Aside0.mk (show Rq wb lo hi b bs (tkInt s).2 from hR)
      replace HB := Aside0.mk (hT.blk HB.out HNB.out)
      replace HK := Aside0.mk (hT.blk HK.out HNK.out)
      replace HX := Aside0.mk (hT.ext HX.out (Nat.le_of_lt HLO.out))
      replace HT8 := Aside0.mk (hT.blk HT8.out HN8.out)
      replace HV := Aside0.mk (HV.out.tch hT (by have := HH4.out; omega))
      clear hR hT
      have c0 := HT8.out.cell 0 rfl
      have f0 := HT8.out.free 0
      go_wp2_with fail
      have HW := Aside0.mk (Wrote.setCell wb bx 0 (.int .i64 (tkInt s).1))
      replace HT8 := Aside0.mk (th_set0 HT8.out (tkInt s).1)
      replace HB := Aside0.mk (HB.out.wrote HW.out (by have := HB8.out; omega))
      replace HV := Aside0.mk (HV.out.wrote HW.out (fun h => by have := HVL.out _ h; omega))
      replace HK := Aside0.mk (HK.out.wrote HW.out (by have := HBX.out; have := HB8.out; omega))
      replace HRD := Aside0.mk (HRD.out.wrote HW.out (by have := HH4.out; have := HB8.out; omega))
      replace HX := Aside0.mk (HW.out.ext HX.out (by have := HBX.out; have := HB8.out; omega))
      clear HW
      clear c0 f0
      generalize wb.setCell ⟨bx, 0, none⟩ (.int .i64 (tkInt s).1) = wc at HT8 HB HV HK HRD HX ⊢
      go_wp2_with fail
      refine (rtkint_calls _ lo hi b _ bs HRD.out HBB.out).mono ?_
      rintro e wd ⟨rfl, hR, hT⟩
      replace HRD := Aside0.mk (show Rq wd lo hi b bs (tkInt (tkInt s).2).2 from hR)
      replace HB := Aside0.mk (hT.blk HB.out HNB.out)
      replace HK := Aside0.mk (hT.blk HK.out HNK.out)
      replace HX := Aside0.mk (hT.ext HX.out (Nat.le_of_lt HLO.out))
      replace HT8 := Aside0.mk (hT.blk HT8.out HN8.out)
      replace HV := Aside0.mk (HV.out.tch hT (by have := HH4.out; omega))
      clear hR hT
      have c0 := HT8.out.cell 1 rfl
      have f0 := HT8.out.free 1
      go_wp2_with fail
      have HW := Aside0.mk (Wrote.setCell wd bx 1 (.int .i64 (tkInt (tkInt s).2).1))
      replace HT8 := Aside0.mk (th_set1 HT8.out (tkInt (tkInt s).2).1)
      replace HB := Aside0.mk (HB.out.wrote HW.out (by have := HB8.out; omega))
      replace HV := Aside0.mk (HV.out.wrote HW.out (fun h => by have := HVL.out _ h; omega))
      replace HK := Aside0.mk (HK.out.wrote HW.out (by have := HBX.out; have := HB8.out; omega))
      replace HRD := Aside0.mk (HRD.out.wrote HW.out (by have := HH4.out; have := HB8.out; omega))
      replace HX := Aside0.mk (HW.out.ext HX.out (by have := HBX.out; have := HB8.out; omega))
      clear HW
      clear c0 f0
      generalize wd.setCell ⟨bx, 1, none⟩ (.int .i64 (tkInt (tkInt s).2).1) = we at HT8 HB HV HK HRD HX ⊢
      go_wp2_with fail
      refine (rtkint_calls _ lo hi b _ bs HRD.out HBB.out).mono ?_
      rintro e wf ⟨rfl, hR, hT⟩
      replace HRD := Aside0.mk (show Rq wf lo hi b bs (tkInt (tkInt (tkInt s).2).2).2 from hR)
      replace HB := Aside0.mk (hT.blk HB.out HNB.out)
      replace HK := Aside0.mk (hT.blk HK.out HNK.out)
      replace HX := Aside0.mk (hT.ext HX.out (Nat.le_of_lt HLO.out))
      replace HT8 := Aside0.mk (hT.blk HT8.out HN8.out)
      replace HV := Aside0.mk (HV.out.tch hT (by have := HH4.out; omega))
      clear hR hT
      have c0 := HT8.out.cell 2 rfl
      have f0 := HT8.out.free 2
      go_wp2_with fail
      have HW := Aside0.mk (Wrote.setCell wf bx 2 (.int .i64 (tkInt (tkInt (tkInt s).2).2).1))
      replace HT8 := Aside0.mk (th_set2 HT8.out (tkInt (tkInt (tkInt s).2).2).1)
      replace HB := Aside0.mk (HB.out.wrote HW.out (by have := HB8.out; omega))
      replace HV := Aside0.mk (HV.out.wrote HW.out (fun h => by have := HVL.out _ h; omega))
      replace HK := Aside0.mk (HK.out.wrote HW.out (by have := HBX.out; have := HB8.out; omega))
      replace HRD := Aside0.mk (HRD.out.wrote HW.out (by have := HH4.out; have := HB8.out; omega))
      replace HX := Aside0.mk (HW.out.ext HX.out (by have := HBX.out; have := HB8.out; omega))
      clear HW
      clear c0 f0
      generalize wf.setCell ⟨bx, 2, none⟩ (.int .i64 (tkInt (tkInt (tkInt s).2).2).1) = wg at HT8 HB HV HK HRD HX ⊢
      go_wp2_with fail
      refine (rtksum_calls _ lo hi b _ bs HRD.out HBB.out).mono ?_
      rintro e wh ⟨rfl, hR, hT⟩
      replace HRD := Aside0.mk (show Rq wh lo hi b bs (tkSum (tkInt (tkInt (tkInt s).2).2).2).2 from hR)
      replace HB := Aside0.mk (hT.blk HB.out HNB.out)
      replace HK := Aside0.mk (hT.blk HK.out HNK.out)
      replace HX := Aside0.mk (hT.ext HX.out (Nat.le_of_lt HLO.out))
      replace HT8 := Aside0.mk (hT.blk HT8.out HN8.out)
      replace HV := Aside0.mk (HV.out.tch hT (by have := HH4.out; omega))
      clear hR hT
      have HS4 := Aside0.mk (show (tkSum (tkInt (tkInt (tkInt s).2).2).2).1.length = 32 from HTO.out)
      have HI24 := Aside0.mk (show (Try.prog.info? 24).map (·.size) = some (nums .u8 (tkSum (tkInt (tkInt (tkInt s).2).2).2).1).toArray.size by rw [List.size_toArray, nums_length, HS4.out]; kernel_rfl)
      have HSZ := Aside0.mk (show 3 + (nums .u8 (tkSum (tkInt (tkInt (tkInt s).2).2).2).1).toArray.size ≤ (thC ((tkInt s).1, (tkInt (tkInt s).2).1, (tkInt (tkInt (tkInt s).2).2).1, zero32)).toArray.size by rw [List.size_toArray, List.size_toArray, nums_length, HS4.out, thC_len zero32_length]; omega)
      go_wp2_with (first | ((with_reducible refine gate_store (ty := 24) rfl ?_); refine wpList_store_blk rfl 24 _ _ rfl bx 3 (nums .u8 (tkSum (tkInt (tkInt (tkInt s).2).2).2).1).toArray rfl rfl _ 73 HT8.out HSZ.out HI24.out (nums_one _) ?_) | fail)
      intro wi hW hB6
      have HW := Aside0.mk hW
      replace HT8 := Aside0.mk (show Blk wi bx (thC (tkE s).1).toArray 73 by rw [th_spl zero32_length HS4.out] at hB6; exact hB6)
      clear hB6 hW
      replace HB := Aside0.mk (HB.out.wrote HW.out (by have := HB8.out; omega))
      replace HV := Aside0.mk (HV.out.wrote HW.out (fun h => by have := HVL.out _ h; omega))
      replace HK := Aside0.mk (HK.out.wrote HW.out (by have := HBX.out; have := HB8.out; omega))
      replace HRD := Aside0.mk (HRD.out.wrote HW.out (by have := HH4.out; have := HB8.out; omega))
      replace HX := Aside0.mk (HW.out.ext HX.out (by have := HBX.out; have := HB8.out; omega))
      clear HW
      clear HI24 HSZ HS4
      have HRG := Aside0.mk HT8.out.whole
      have HIE := Aside0.mk (show (Try.prog.info? 73).map (·.size) = some (thC (tkE s).1).length by rw [thC_len HTO.out]; kernel_rfl)
      obtain ⟨ie, hie, hx⟩ := Option.map_eq_some_iff.1 HIN.out
      have HZ := Aside0.mk (show ie.zero = some (.agg #[Value.int .i64 0, Value.int .i64 0, Value.int .i64 0, Value.int .u8 0, Value.int .u8 0, Value.int .u8 0, Value.int .u8 0, Value.int .u8 0, Value.int .u8 0, Value.int .u8 0, Value.int .u8 0, Value.int .u8 0, Value.int .u8 0, Value.int .u8 0, Value.int .u8 0, Value.int .u8 0, Value.int .u8 0, Value.int .u8 0, Value.int .u8 0, Value.int .u8 0, Value.int .u8 0, Value.int .u8 0, Value.int .u8 0, Value.int .u8 0, Value.int .u8 0, Value.int .u8 0, Value.int .u8 0, Value.int .u8 0, Value.int .u8 0, Value.int .u8 0, Value.int .u8 0, Value.int .u8 0, Value.int .u8 0, Value.int .u8 0, Value.int .u8 0]) from congrArg (·.1) hx)
      have HSI := Aside0.mk (show ie.size = 35 from congrArg (·.2.1) hx)
      have HIQ := Aside0.mk hie
      clear hie hx
      have c34 := (smyBlk HB.out HPL.out).2.2.2
      go_wp2_with (first | ((with_reducible refine gate_load (ty := 73) rfl ?_); refine load_at rfl 73 _ rfl bx 0 rfl (thC (tkE s).1) _ HRG.out Try.underlying73 rfl HIE.out ?_) | ((with_reducible refine gate_slice (ty := 56) rfl ?_); refine wpList_slice1 rfl 56 73 (.tmp 60) rfl (thC (tkE s).1).toArray rfl ie (.agg #[Value.int .i64 0, Value.int .i64 0, Value.int .i64 0, Value.int .u8 0, Value.int .u8 0, Value.int .u8 0, Value.int .u8 0, Value.int .u8 0, Value.int .u8 0, Value.int .u8 0, Value.int .u8 0, Value.int .u8 0, Value.int .u8 0, Value.int .u8 0, Value.int .u8 0, Value.int .u8 0, Value.int .u8 0, Value.int .u8 0, Value.int .u8 0, Value.int .u8 0, Value.int .u8 0, Value.int .u8 0, Value.int .u8 0, Value.int .u8 0, Value.int .u8 0, Value.int .u8 0, Value.int .u8 0, Value.int .u8 0, Value.int .u8 0, Value.int .u8 0, Value.int .u8 0, Value.int .u8 0, Value.int .u8 0, Value.int .u8 0, Value.int .u8 0]) Try.underlying56 HIQ.out HZ.out (by rw [HSI.out]; decide) (by rw [HSI.out]; decide) (by rw [HSI.out]; exact fill_th (tkE s).1 HTO.out) ?_) | (at_builtin; go_loud (refine Kd.R_append kTh (w0 := wi) (b5 + 1) rfl (.tmp 59) (.tmp 61) 56 73 (.agg #[Value.int .i64 0, Value.int .i64 0, Value.int .i64 0, Value.int .u8 0, Value.int .u8 0, Value.int .u8 0, Value.int .u8 0, Value.int .u8 0, Value.int .u8 0, Value.int .u8 0, Value.int .u8 0, Value.int .u8 0, Value.int .u8 0, Value.int .u8 0, Value.int .u8 0, Value.int .u8 0, Value.int .u8 0, Value.int .u8 0, Value.int .u8 0, Value.int .u8 0, Value.int .u8 0, Value.int .u8 0, Value.int .u8 0, Value.int .u8 0, Value.int .u8 0, Value.int .u8 0, Value.int .u8 0, Value.int .u8 0, Value.int .u8 0, Value.int .u8 0, Value.int .u8 0, Value.int .u8 0, Value.int .u8 0, Value.int .u8 0, Value.int .u8 0]) 56 rfl Try.underlying56 HIN.out rfl (by decide) (by decide) V (tkEs i (g4 bs).2).1 (tkE s).1 (thC (tkE s).1) (fun _ => True) (fun _ => False) rfl rfl (th_cells_of (tkE s).1 HTO.out wi wi (b5 + 1) (fun _ => False)) (fun _ h => h.elim) (fun _ _ => trivial) HV.out (Below.refl _ _) HB.out.lt HL1.out ?_)) | fail)
      intro V1 wz hR hBl _ _
      obtain ⟨A1, C1, hV1, _, _⟩ := EB.reads hR
      obtain ⟨N1, hN1⟩ : ∃ N1, N1 = ((tkEs i (g4 bs).2).1 ++ [(tkE s).1]).length := ⟨_, rfl⟩
      rw [← hN1] at hV1
      subst hV1
      clear hN1
      have HVa := Aside0.mk (show EB wz (b5 + 1) (.slice A1 N1 C1) (tkEs (i + 1) (g4 bs).2).1 by unfold tkEs; rw [← HS.out]; exact hR)
      replace HB := Aside0.mk (HB.out.below (Nat.lt_succ_self _) hBl)
      replace HK := Aside0.mk (HK.out.below (Nat.lt_succ_of_lt HBX.out) hBl)
      replace HRD := Aside0.mk (show Rq wz lo hi b bs (tkEs (i + 1) (g4 bs).2).2 by unfold tkEs; rw [← HS.out]; exact HRD.out.blw (hBl.mono (by have := HH4.out; omega)))
      replace HX := Aside0.mk (ext_below HX.out hBl (by have := HBX.out; omega))
      clear hR hBl HV HT8 HRG c34
      have c34 := (smyBlk HB.out HPL.out).2.2.2
      have f34 := HB.out.free 34
      have HW := Aside0.mk (Wrote.setCell wz b5 34 (.slice A1 N1 C1))
      have HBs := Aside0.mk (smy_set HB.out HPL.out (.slice A1 N1 C1))
      have HVs := Aside0.mk (HVa.out.wrote HW.out (fun h => by have := Kd.R_base HVa.out _ h; omega))
      have HKs := Aside0.mk (HK.out.wrote HW.out (by have := HBX.out; omega))
      have HRs := Aside0.mk (HRD.out.wrote HW.out HH4.out)
      have HXs := Aside0.mk (HW.out.ext HX.out (by have := HBX.out; omega))
      go_wp2_with fail
      go_roundw
      case rel => exact ⟨i + 1, by simp, ⟨by omega⟩, HRs, ⟨_, HBs, HVs⟩, HKs, HXs⟩
      case measure => have := HLT.out; simp only [intOf]; omega
    · skip
      have HIA := Aside0.mk (show a4.toNat = i by have := HI.out; omega)
      have HGI := Aside0.mk (show gR bs = tkEs i (g4 bs).2 by unfold gR; rw [← HA4.out, HIA.out])
      have HEN : Aside0 (endI (tkEs i (g4 bs).2).2.1 (tkEs i (g4 bs).2).2.2 = gEnd bs) := ⟨by unfold gEnd; rw [HGI.out]⟩
      have HES : Aside0 (gEnd bs = 0 → (tkEs i (g4 bs).2).1 = (gR bs).1) := ⟨by intro _; rw [HGI.out]⟩
      have HCE := Aside0.mk (HRD.out.end_)
      rw [HEN.out] at HCE
      obtain ⟨en, hen⟩ : ∃ en, en = gEnd bs := ⟨_, rfl⟩
      rw [← hen] at HCE HES
      have HE2 := Aside0.mk hen
      obtain ⟨es, hes⟩ : ∃ es, es = (tkEs i (g4 bs).2).1 := ⟨_, rfl⟩
      have HOK := Aside0.mk (show ∀ e ∈ es, Th.ok e by rw [hes]; exact (HSB.out i).2.1)
      have HV0 := HV.out
      rw [← hes] at HV0 HES
      have HVx := Aside0.mk HV0
      clear hen hes HV0 HEN HV
      go_wp2_with fail
      refine HCE.out.mono ?_
      rintro e wa ⟨rfl, hEa⟩
      have HVa := Aside0.mk (HVx.out.ext hEa)
      have HBa := Aside0.mk (HB.out.ext hEa)
      have HKa := Aside0.mk (HK.out.ext hEa)
      have HXa := Aside0.mk (HX.out.trans hEa)
      clear hEa HCE HVx HB HK HX
      by_cases hz : en = 0
      · subst hz
        have HGR := Aside0.mk (HES.out rfl)
        obtain ⟨A1, C1, hV, hc1, hr1⟩ := EB.reads HVa.out
        subst hV
        have HHC := Aside0.mk hc1
        have HRR := Aside0.mk hr1
        clear hc1 hr1
        have HRW := Aside0.mk (HBa.out.whole)
        have HCK := Aside0.mk (rcheck_calls wa a1 a3 pr A1 C1 es.length es _ rfl HRR.out HHC.out HPL.out HOK.out)
        obtain ⟨F, hF⟩ : ∃ F, F = checkF a1 a3 es := ⟨_, rfl⟩
        rw [← hF] at HCK
        have HF := Aside0.mk hF
        clear hF
        have HGE := Aside0.mk (show gE bs = F by
          unfold gE
          rw [if_neg (by rw [HGF0.out]; decide), if_pos HE2.out.symm, HF.out, HGR.out, HA1.out, HA3.out])
        go_wp2_with (first | ((with_reducible refine gate_load (ty := 58) rfl ?_); refine load_at rfl 58 _ rfl b5 0 rfl (smyC a1 pr a3 (.slice A1 es.length C1)) _ HRW.out Try.underlying58 rfl (HIS.out _) ?_) | fail)
        refine HCK.out.mono ?_
        rintro e wc ⟨rfl, hEc⟩
        have HVc := Aside0.mk (HVa.out.ext hEc)
        have HBc := Aside0.mk (HBa.out.ext hEc)
        have HKc := Aside0.mk (HKa.out.ext hEc)
        have HXc := Aside0.mk (HXa.out.trans hEc)
        clear hEc HCK HVa HBa HKa HXa HRW HRR
        by_cases hF0 : F = 0
        · subst hF0
          have HRW := Aside0.mk (HBc.out.whole)
          go_wp2_with (first | ((with_reducible refine gate_load (ty := 58) rfl ?_); refine load_at rfl 58 _ rfl b5 0 rfl (smyC a1 pr a3 (.slice A1 es.length C1)) _ HRW.out Try.underlying58 rfl (HIS.out _) ?_) | ((with_reducible refine gate_store (ty := 58) rfl ?_); (refine store_at rfl 58 _ _ rfl w.heap.size (smyC a1 pr a3 (.slice A1 es.length C1)) rfl rfl #[Value.int .i64 0, Value.int .u8 0, Value.int .u8 0, Value.int .u8 0, Value.int .u8 0, Value.int .u8 0, Value.int .u8 0, Value.int .u8 0, Value.int .u8 0, Value.int .u8 0, Value.int .u8 0, Value.int .u8 0, Value.int .u8 0, Value.int .u8 0, Value.int .u8 0, Value.int .u8 0, Value.int .u8 0, Value.int .u8 0, Value.int .u8 0, Value.int .u8 0, Value.int .u8 0, Value.int .u8 0, Value.int .u8 0, Value.int .u8 0, Value.int .u8 0, Value.int .u8 0, Value.int .u8 0, Value.int .u8 0, Value.int .u8 0, Value.int .u8 0, Value.int .u8 0, Value.int .u8 0, Value.int .u8 0, Value.int .i64 0, Value.slice none 0 0] 58 HKc.out (HSS.out _) (HIS.out _) (smyC_one _ _ _ _ _ _) ?_)) | fail)
          intro wf hWf hBf
          have HEF := Aside0.mk (hWf.ext HXc.out (Nat.le_refl _))
          have HBf := Aside0.mk hBf
          have HVf := Aside0.mk (HVc.out.wrote hWf (fun h => by have := Kd.R_base HVc.out _ h; have := HBX.out; omega))
          clear hWf hBf
          go_wp2_with fail
          (try simp only [Exit.inBlock, Exit.then])
          refine bodyPost_ret (results_ct rfl _ _ w.heap.size 58 (smyC a1 pr a3 (.slice A1 es.length C1)).toArray (0, 0) _ rfl HBf.out.is Try.underlying58 rfl (by have := HIS.out (.slice A1 es.length C1); simpa using this)) rfl ?_
          have HO := Aside0.mk (show oSt bs = a1 ∧ oPr bs = pr ∧ oNx bs = a3 ∧ oEs bs = es by
            unfold oSt oPr oNx oEs; rw [if_pos HGE.out, if_pos HGE.out, if_pos HGE.out, if_pos HGE.out]; exact ⟨HA1.out.symm, HPR.out.symm, HA3.out.symm, HGR.out.symm⟩)
          exact ⟨.slice A1 es.length C1, by rw [HO.out.1, HO.out.2.1, HO.out.2.2.1, HGE.out]; rfl, by rw [HO.out.2.2.2]; exact HVf.out.lower (by have := HBX.out; omega), HEF.out⟩
        · have HNZ := Aside0.mk hF0
          have HGG := HGE
          have HIZ := Aside0.mk (show (Try.prog.info? 58).map (·.size) = some (smyC 0 zero32 0 (.slice none 0 0)).length by kernel_rfl)
          have HZS := Aside0.mk (show #[Value.int .i64 0, Value.int .u8 0, Value.int .u8 0, Value.int .u8 0, Value.int .u8 0, Value.int .u8 0, Value.int .u8 0, Value.int .u8 0, Value.int .u8 0, Value.int .u8 0, Value.int .u8 0, Value.int .u8 0, Value.int .u8 0, Value.int .u8 0, Value.int .u8 0, Value.int .u8 0, Value.int .u8 0, Value.int .u8 0, Value.int .u8 0, Value.int .u8 0, Value.int .u8 0, Value.int .u8 0, Value.int .u8 0, Value.int .u8 0, Value.int .u8 0, Value.int .u8 0, Value.int .u8 0, Value.int .u8 0, Value.int .u8 0, Value.int .u8 0, Value.int .u8 0, Value.int .u8 0, Value.int .u8 0, Value.int .i64 0, Value.slice none 0 0].size = (smyC 0 zero32 0 (.slice none 0 0)).length by rfl)
          have HG := Aside0.mk (show gE bs = F by exact HGG.out)
          have HO := Aside0.mk (show oSt bs = 0 ∧ oPr bs = zero32 ∧ oNx bs = 0 ∧ oEs bs = [] by
            have h : ¬ gE bs = 0 := by rw [HG.out]; exact HNZ.out
            unfold oSt oPr oNx oEs; rw [if_neg h, if_neg h, if_neg h, if_neg h]; exact ⟨rfl, rfl, rfl, rfl⟩)
          go_wp2_with (first | ((with_reducible refine gate_build (ty := 58) rfl ?_); refine build_at rfl 58 #[] rfl _ [] rfl built_smy0 ?_) | ((with_reducible refine gate_store (ty := 58) rfl ?_); (refine store_at rfl 58 _ _ rfl w.heap.size (smyC 0 zero32 0 (.slice none 0 0)) rfl rfl #[Value.int .i64 0, Value.int .u8 0, Value.int .u8 0, Value.int .u8 0, Value.int .u8 0, Value.int .u8 0, Value.int .u8 0, Value.int .u8 0, Value.int .u8 0, Value.int .u8 0, Value.int .u8 0, Value.int .u8 0, Value.int .u8 0, Value.int .u8 0, Value.int .u8 0, Value.int .u8 0, Value.int .u8 0, Value.int .u8 0, Value.int .u8 0, Value.int .u8 0, Value.int .u8 0, Value.int .u8 0, Value.int .u8 0, Value.int .u8 0, Value.int .u8 0, Value.int .u8 0, Value.int .u8 0, Value.int .u8 0, Value.int .u8 0, Value.int .u8 0, Value.int .u8 0, Value.int .u8 0, Value.int .u8 0, Value.int .i64 0, Value.slice none 0 0] 58 HKc.out HZS.out HIZ.out (smyC_one _ _ _ _ _ _) ?_)) | fail)
          intro wf hWf hBf
          have HEF := Aside0.mk (hWf.ext HXc.out (Nat.le_refl _))
          have HBf := Aside0.mk hBf
          clear hWf hBf
          go_wp2_with fail
          (try simp only [Exit.inBlock, Exit.then])
          refine bodyPost_ret (results_ct rfl _ _ w.heap.size 58 (smyC 0 zero32 0 (.slice none 0 0)).toArray (0, 0) _ rfl HBf.out.is Try.underlying58 rfl (by kernel_rfl)) rfl ?_
          exact ⟨.slice none 0 0, by rw [HO.out.1, HO.out.2.1, HO.out.2.2.1, HG.out]; rfl, by rw [HO.out.2.2.2]; exact EB.nil _ _, HEF.out⟩
      · have HNZ := Aside0.mk hz
        have HIZ := Aside0.mk (show (Try.prog.info? 58).map (·.size) = some (smyC 0 zero32 0 (.slice none 0 0)).length by kernel_rfl)
        have HZS := Aside0.mk (show #[Value.int .i64 0, Value.int .u8 0, Value.int .u8 0, Value.int .u8 0, Value.int .u8 0, Value.int .u8 0, Value.int .u8 0, Value.int .u8 0, Value.int .u8 0, Value.int .u8 0, Value.int .u8 0, Value.int .u8 0, Value.int .u8 0, Value.int .u8 0, Value.int .u8 0, Value.int .u8 0, Value.int .u8 0, Value.int .u8 0, Value.int .u8 0, Value.int .u8 0, Value.int .u8 0, Value.int .u8 0, Value.int .u8 0, Value.int .u8 0, Value.int .u8 0, Value.int .u8 0, Value.int .u8 0, Value.int .u8 0, Value.int .u8 0, Value.int .u8 0, Value.int .u8 0, Value.int .u8 0, Value.int .u8 0, Value.int .i64 0, Value.slice none 0 0].size = (smyC 0 zero32 0 (.slice none 0 0)).length by rfl)
        have HG := Aside0.mk (show gE bs = en by unfold gE; rw [if_neg (by rw [HGF0.out]; decide), if_neg (by rw [← HE2.out]; exact HNZ.out), ← HE2.out])
        have HO := Aside0.mk (show oSt bs = 0 ∧ oPr bs = zero32 ∧ oNx bs = 0 ∧ oEs bs = [] by
          have h : ¬ gE bs = 0 := by rw [HG.out]; exact HNZ.out
          unfold oSt oPr oNx oEs; rw [if_neg h, if_neg h, if_neg h, if_neg h]; exact ⟨rfl, rfl, rfl, rfl⟩)
        go_wp2_with (first | ((with_reducible refine gate_build (ty := 58) rfl ?_); refine build_at rfl 58 #[] rfl _ [] rfl built_smy0 ?_) | ((with_reducible refine gate_store (ty := 58) rfl ?_); (refine store_at rfl 58 _ _ rfl w.heap.size (smyC 0 zero32 0 (.slice none 0 0)) rfl rfl #[Value.int .i64 0, Value.int .u8 0, Value.int .u8 0, Value.int .u8 0, Value.int .u8 0, Value.int .u8 0, Value.int .u8 0, Value.int .u8 0, Value.int .u8 0, Value.int .u8 0, Value.int .u8 0, Value.int .u8 0, Value.int .u8 0, Value.int .u8 0, Value.int .u8 0, Value.int .u8 0, Value.int .u8 0, Value.int .u8 0, Value.int .u8 0, Value.int .u8 0, Value.int .u8 0, Value.int .u8 0, Value.int .u8 0, Value.int .u8 0, Value.int .u8 0, Value.int .u8 0, Value.int .u8 0, Value.int .u8 0, Value.int .u8 0, Value.int .u8 0, Value.int .u8 0, Value.int .u8 0, Value.int .u8 0, Value.int .i64 0, Value.slice none 0 0] 58 HKa.out HZS.out HIZ.out (smyC_one _ _ _ _ _ _) ?_)) | fail)
        intro wf hWf hBf
        have HEF := Aside0.mk (hWf.ext HXa.out (Nat.le_refl _))
        have HBf := Aside0.mk hBf
        clear hWf hBf
        go_wp2_with fail
        (try simp only [Exit.inBlock, Exit.then])
        refine bodyPost_ret (results_ct rfl _ _ w.heap.size 58 (smyC 0 zero32 0 (.slice none 0 0)).toArray (0, 0) _ rfl HBf.out.is Try.underlying58 rfl (by kernel_rfl)) rfl ?_
        exact ⟨.slice none 0 0, by rw [HO.out.1, HO.out.2.1, HO.out.2.2.1, HG.out]; rfl, by rw [HO.out.2.2.2]; exact EB.nil _ _, HEF.out⟩
end Go.Proofs.Ythgdjgnbifakbaa.By

/- Entries spoilt: SpoilEntries. -/
namespace Go.Proofs.Ythgdjgnbifakbaa.By
open Go.RowKit Go.Proofs.Ythgdjgnbifakbaa.Reg Go.Proofs.YthgdjgnbifakbaaW.PrintWords Go.Proofs.YthgdjgnbifakbaaW.PrintLast Go.Proofs.YthgdjgnbifakbaaW.PrintMore
set_option linter.unusedVariables false
set_option linter.unusedSimpArgs false


theorem built_x (v : Int) : Program.built Try.prog 73 [(0, .int .i64 v)] = some (thC (v, 0, 0, zero32)).toArray := by kernel_rfl
theorem gate_store73 {P : Program} {ops : Array Oper} {rest : List Oper} {o : Oper} {a : Act} {Q : Exit → Act → World → Prop} {w : World} {x y : Operand} (_ho : o.op = .store 73 x y) (h : wpList P ops Q (o :: rest) a w) : wpList P ops Q (o :: rest) a w := h
set_option maxRecDepth 100000 in
set_option maxHeartbeats 8000000 in
theorem spoilE_calls (w0 w : World) (A : Option Addr) (n c : Nat) (es : List Th) (hn : n = es.length) (he : Ext w0 w) (h : EB w w0.heap.size (.slice A n c) es) (hl : n ≤ 1000000) :
    Calls Try.prog 54 #[.slice A n c] w fun e w' => e = .returned (.tuple #[]) ∧ Ext w0 w' ∧ Kept w w' (fun k => (Value.slice A n c).ownBlock = some k) := by
  have H0 := Aside0.mk h
  have HE0 := Aside0.mk he
  have HN := Aside0.mk hn
  have HI := Aside0.mk (fun v : Int => show (Try.prog.info? 73).map (·.size) = some (thC (v, 0, 0, zero32)).length by rw [thC_len zero32_length]; kernel_rfl)
  clear h he hn
  go_enter Try.func54, Try.ntmps54
  go_wp2_with fail
  go_loopw [2] (fun i wr => ∃ x : Int, i = .int .i64 x ∧ Aside0 (0 ≤ x ∧ x ≤ n) ∧ (∃ L : List Th, Aside0 (n = L.length ∧ EB wr w0.heap.size (.slice A n c) L)) ∧ Aside0 (Ext w0 wr ∧ Kept w wr (fun k => (Value.slice A n c).ownBlock = some k))) (fun i _ => n - (intOf i).toNat)
  case atStart => exact ⟨0, rfl, ⟨by omega, by omega⟩, ⟨es, ⟨HN.out, H0.out⟩⟩, ⟨HE0.out, Kept.refl _ _⟩⟩
  case round =>
    obtain ⟨x, rfl, HX, ⟨L, HL⟩, HK⟩ := hrel
    obtain ⟨g0, g1⟩ := HX.out
    obtain ⟨wx, hwx⟩ : ∃ wx : World, wx = wr := ⟨_, rfl⟩
    subst hwx
    by_cases hlt : x < n
    · have HLT := Aside0.mk hlt
      have hxl : x.toNat < L.length := by have := HL.out.1; omega
      obtain ⟨gb, cap, hv, hb0, hb1, _⟩ := Kd.R_form HL.out.2 (by omega)
      injection hv with hA hn' hc'
      subst hA
      subst hc'
      clear hn'
      have hRC := (Kd.R_reads' HL.out.2).2.2
      obtain ⟨b, off, hA, hrg⟩ := th_at hRC x.toNat hxl _ (List.getElem?_eq_getElem hxl)
      injection hA with hA
      injection hA with hb hoff _
      subst hb
      subst hoff
      have hM : (thC L[x.toNat]).length = 35 := by
        obtain ⟨ad, e, hcell⟩ := hRC.2.2 (by omega)
        obtain ⟨cs, h1, h2, h3⟩ := hcell x.toNat _ (List.getElem?_eq_getElem hxl)
        obtain ⟨rfl, hl'⟩ := th_cells h2
        exact thC_len hl'
      generalize L[x.toNat] = t at hrg hM
      rw [Nat.zero_add] at hrg
      have HG := Aside0.mk hrg
      have HM := Aside0.mk hM
      have HGB := Aside0.mk hb0
      have c0 : wx.cell? ⟨gb, x.toNat * 35, none⟩ = some (.int .i64 t.1) := hrg 0 _ rfl
      have c0' : wx.cell? ⟨gb, 0 + x.toNat * 35, none⟩ = some (.int .i64 t.1) := by rw [Nat.zero_add]; exact c0
      clear hrg hRC hb0 hb1 hM
      go_wp2_with (first | ((with_reducible refine gate_build (ty := 73) rfl ?_); refine build_at rfl 73 #[(0, .tmp 16)] rfl _ [(0, .int .i64 (Go.bits .xor .i64 t.1 77))] rfl (built_x _) ?_) | ((with_reducible refine gate_store73 rfl ?_); refine Kd.R_store kTh (w0 := wx) w0.heap.size rfl rfl 73 (.tmp 18) (.tmp 17) rfl 73 x 0 L (Go.bits .xor .i64 t.1 77, 0, 0, zero32) (.agg (thC (Go.bits .xor .i64 t.1 77, 0, 0, zero32)).toArray) (thC (Go.bits .xor .i64 t.1 77, 0, 0, zero32)) (thC t) (fun _ => True) (fun _ => False) rfl ?f1 rfl rfl (HI.out _) (thC_one _) HL.out.2 g0 hlt HM.out ?f2 ?f3 ?f4 (fun _ h => h.elim) (Below.refl _ _) ?_) | fail)
      case f1 => rfl
      case f2 => exact fun j u hu => HG.out j u hu
      case f3 => rw [thC_len zero32_length]; exact Nat.le_refl 35
      case f4 =>
        have hd : (thC t).drop 35 = [] := List.drop_eq_nil_of_le (by rw [HM.out]; exact Nat.le_refl _)
        have hz : (thC (Go.bits .xor .i64 t.1 77, 0, 0, zero32)).length = 35 := thC_len zero32_length
        have hM := th_cells_of (Go.bits .xor .i64 t.1 77, 0, 0, zero32) zero32_length wx wx w0.heap.size (fun _ => False)
        simpa [hz, hd] using hM
      intro w1 hR hBl hg
      have HR1 := Aside0.mk hR
      have HK1 := Aside0.mk (show Ext w0 w1 ∧ Kept w w1 (fun k => (Value.slice (some ⟨gb, 0, none⟩) n c).ownBlock = some k) from
        ⟨Below.trans HK.out.1 hBl, Nat.le_trans HK.out.2.1 hg.size, fun i hi hne => (hg.block i (Nat.lt_of_lt_of_le hi HK.out.2.1) (fun e => hne (show (Value.slice (some ⟨gb, 0, none⟩) n c).ownBlock = some i by rw [e]; rfl))).trans (HK.out.2.2 i hi hne)⟩)
      clear hR hBl hg
      go_wp2_with fail
      go_roundw
      case rel => exact ⟨x + 1, rfl, ⟨by omega, by omega⟩, ⟨_, ⟨by rw [List.length_set]; exact HL.out.1, HR1.out⟩⟩, HK1⟩
      case measure => have := HLT.out; simp only [intOf]; omega
    · go_wp2_with fail
      go_end0
      exact ⟨rfl, HK.out.1, HK.out.2⟩
end Go.Proofs.Ythgdjgnbifakbaa.By

/- BatchGets: both codecs take alike, and what is given out is the caller's own. -/
namespace Go.Proofs.Ythgdjgnbifakbaa.By
open Go.RowKit Go.Proofs.Ythgdjgnbifakbaa.Reg Go.Proofs.YthgdjgnbifakbaaW.PrintWords Go.Proofs.YthgdjgnbifakbaaW.PrintLast Go.Proofs.YthgdjgnbifakbaaW.PrintMore
set_option linter.unusedVariables false
set_option linter.unusedSimpArgs false


theorem EB.reads' {w : World} {B : Nat} {A : Option Addr} {n c : Nat} {es : List Th} (h : EB w B (.slice A n c) es) (hn : n = es.length) : Kd.C kTh w A n es := by
  obtain ⟨A', c', e, h1, h2⟩ := EB.reads h
  injection e with e1 e2 e3
  subst e1
  rw [hn]
  exact h2
theorem blk_kept {w w' : World} {S : Nat → Prop} {b : Nat} {cs : Array Value} {t : TypeId} (h : Blk w b cs t) (k : Kept w w' S) (hn : ¬ S b) : Blk w' b cs t := ⟨(k.2 b h.lt hn).trans h.is⟩
theorem EB.keptE {w w' : World} {S : Nat → Prop} {B : Nat} {V : Value} {es : List Th} (h : EB w B V es) (k : Kept w w' S) (hn : ∀ j, V.ownBlock = some j → ¬ S j) : EB w' B V es :=
  h.at_ (fun j hj => k.2 j (Kd.R_lt h j hj) (hn j hj))
set_option maxRecDepth 100000 in
set_option maxHeartbeats 8000000 in
theorem gets_calls (w : World) (A : Option Addr) (c n : Nat) (bs : List Int) (hn : n = bs.length) (hr : Kd.C kb w A n bs) (hc : n ≤ c) (hB : isB bs) :
    Calls Try.prog 10 #[.slice A n c] w fun e w' => e = .returned (.bool true) ∧ Ext w w' := by
  have HN := Aside0.mk hn
  have HR := Aside0.mk hr
  have HB := Aside0.mk hB
  clear hr hn hB
  by_cases hbig : (8192 : Int) < n
  · go_enter Try.func10, Try.ntmps10
    go_wp2_with fail
    refine (works_calls w).mono ?_
    rintro e w1 ⟨rfl, hE⟩
    go_wp2_with fail
    go_ret
    exact ⟨rfl, hE⟩
  have hsm : n ≤ 8192 := by omega
  obtain ⟨i0, hi0, _, hsz, _⟩ := info_parts PPackPuts.info5
  have HOK := Aside0.mk (o_ok HB.out)
  have HGC := Aside0.mk (fun (W : World) (A : Option Addr) (c : Nat) (hr : Kd.C kb W A n bs) (hc : n ≤ c) => get_calls W A c n bs HN.out hr hc HB.out (by omega))
  have HRC := Aside0.mk (fun (W : World) (A : Option Addr) (c : Nat) (hr : Kd.C kb W A n bs) (hc : n ≤ c) => rget_calls W A c n bs HN.out hr hc HB.out (by omega))
  obtain ⟨st, hst⟩ : ∃ x, x = oSt bs := ⟨_, rfl⟩
  obtain ⟨pr, hpr⟩ : ∃ x, x = oPr bs := ⟨_, rfl⟩
  obtain ⟨nx, hnx⟩ : ∃ x, x = oNx bs := ⟨_, rfl⟩
  have hel : (oEs bs).length ≤ 1000000 := by
    have := HN.out
    unfold oEs
    split
    · rename_i h0
      have h1 := (g_ok HB.out).2.2.2
      have hf : gForm bs = false := by
        cases hf : gForm bs with
        | false => rfl
        | true => unfold gE at h0; rw [hf, if_pos rfl] at h0; cases h0
      have := gN_le hf
      rw [h1]; omega
    · exact Nat.zero_le _
  obtain ⟨es, hes⟩ : ∃ x, x = oEs bs := ⟨_, rfl⟩
  obtain ⟨F, hF⟩ : ∃ x, x = gE bs := ⟨_, rfl⟩
  rw [← hes] at hel
  rw [← hst, ← hpr, ← hnx, ← hes, ← hF] at HGC HRC
  rw [← hst, ← hpr, ← hnx, ← hes] at HOK
  obtain ⟨n1, hn1⟩ : ∃ x, x = es.length := ⟨_, rfl⟩
  rw [← hn1] at hel
  have HN1 := Aside0.mk hn1
  have HEL := Aside0.mk hel
  have HIS := Aside0.mk (fun V => show (Try.prog.info? 58).map (·.size) = some (smyC st pr nx V).length by rw [smyC_len HOK.out.2.1]; kernel_rfl)
  have HSS := Aside0.mk (fun V => show #[Value.int .i64 0, Value.int .u8 0, Value.int .u8 0, Value.int .u8 0, Value.int .u8 0, Value.int .u8 0, Value.int .u8 0, Value.int .u8 0, Value.int .u8 0, Value.int .u8 0, Value.int .u8 0, Value.int .u8 0, Value.int .u8 0, Value.int .u8 0, Value.int .u8 0, Value.int .u8 0, Value.int .u8 0, Value.int .u8 0, Value.int .u8 0, Value.int .u8 0, Value.int .u8 0, Value.int .u8 0, Value.int .u8 0, Value.int .u8 0, Value.int .u8 0, Value.int .u8 0, Value.int .u8 0, Value.int .u8 0, Value.int .u8 0, Value.int .u8 0, Value.int .u8 0, Value.int .u8 0, Value.int .u8 0, Value.int .i64 0, Value.slice none 0 0].size = (smyC st pr nx V).length by rw [smyC_len HOK.out.2.1]; rfl)
  have HSM := Aside0.mk (fun (W : World) (A B : Option Addr) (c d : Nat) (h1 : Kd.C kTh W A n1 es) (h2 : Kd.C kTh W B n1 es) => sameS_calls W A B c d n1 n1 st st nx nx pr pr es es HN1.out HN1.out h1 h2 HOK.out.2.2.2.2 HOK.out.2.2.2.2 HEL.out HOK.out.2.1 HOK.out.2.1 HOK.out.2.2.1 HOK.out.2.2.1 true (by simp))
  have hFF : (F != F) = false := by simp
  clear hst hpr hnx hes hF hn1 hel hbig
  go_enter Try.func10, Try.ntmps10
  go_wp2_with fail
  refine (lent_at w A c n bs HN.out HR.out hc (by omega)).mono ?_
  rintro e w1 ⟨B, d, rfl, hNB, hd, hCB, hCI, hE1⟩
  have HNB := Aside0.mk hNB
  have HCB := Aside0.mk hCB
  have HCI := Aside0.mk hCI
  have HE1 := Aside0.mk hE1
  have hcut := cut_to (P := Try.prog) 22 5 .i64 Try.underlying22 hi0 B (n + 5) d (n : Int) (by omega) (by omega) hd
  rw [Int.toNat_natCast] at hcut
  have hnd : n ≤ d := by omega
  clear hNB hCB hCI hi0 hsz hE1
  have HY := Aside0.mk (Ext.refl w1)
  go_wp2_with fail
  refine (HGC.out w1 B d HCI.out hnd).mono ?_
  rintro e w2 ⟨V, rfl, hR, hE⟩
  obtain ⟨A1, c1, hV, _, _⟩ := EB.reads hR
  rw [← HN1.out] at hV
  subst hV
  have HL1 := Aside0.mk (fun k (hk : (Value.slice A1 n1 c1).ownBlock = some k) => And.intro (Kd.R_base hR k hk) (Kd.R_lt hR k hk))
  have HO3 := Aside0.mk (show w1.heap.size ≤ w2.heap.size from hE.size)
  replace HY := Aside0.mk (HY.out.trans hE)
  have HV1 := Aside0.mk hR
  clear hR hE
  go_wp2_with (first | ((with_reducible refine gate_store (ty := 58) rfl ?_); (refine store_at rfl 58 _ _ rfl w2.heap.size (smyC st pr nx (.slice A1 n1 c1)) rfl rfl #[Value.int .i64 0, Value.int .u8 0, Value.int .u8 0, Value.int .u8 0, Value.int .u8 0, Value.int .u8 0, Value.int .u8 0, Value.int .u8 0, Value.int .u8 0, Value.int .u8 0, Value.int .u8 0, Value.int .u8 0, Value.int .u8 0, Value.int .u8 0, Value.int .u8 0, Value.int .u8 0, Value.int .u8 0, Value.int .u8 0, Value.int .u8 0, Value.int .u8 0, Value.int .u8 0, Value.int .u8 0, Value.int .u8 0, Value.int .u8 0, Value.int .u8 0, Value.int .u8 0, Value.int .u8 0, Value.int .u8 0, Value.int .u8 0, Value.int .u8 0, Value.int .u8 0, Value.int .u8 0, Value.int .u8 0, Value.int .i64 0, Value.slice none 0 0] 58 (Blk.new w2 _ 58) (HSS.out _) (HIS.out _) (smyC_one _ _ _ _ _ _) ?_)) | fail)
  intro w3 hW hBk
  have hE := hW.ext ((Ext.refl w2).alloc _) (Nat.le_refl _)
  replace HY := Aside0.mk (HY.out.trans hE)
  replace HV1 := Aside0.mk (HV1.out.ext hE)
  have HB3 := Aside0.mk hBk
  clear hW hBk hE
  go_wp2_with fail
  refine (HGC.out w3 B d (Kd.C_below HCI.out HY.out) hnd).mono ?_
  rintro e w4 ⟨V, rfl, hR, hE⟩
  obtain ⟨A2, c2, hV, _, _⟩ := EB.reads hR
  rw [← HN1.out] at hV
  subst hV
  have HO5 := Aside0.mk (show w2.heap.size < w3.heap.size ∧ w3.heap.size ≤ w4.heap.size from ⟨HB3.out.lt, hE.size⟩)
  replace HY := Aside0.mk (HY.out.trans hE)
  replace HV1 := Aside0.mk (HV1.out.ext hE)
  replace HB3 := Aside0.mk (HB3.out.ext hE)
  have HV2 := Aside0.mk hR
  clear hR hE
  go_wp2_with (first | ((with_reducible refine gate_store (ty := 58) rfl ?_); (refine store_at rfl 58 _ _ rfl w4.heap.size (smyC st pr nx (.slice A2 n1 c2)) rfl rfl #[Value.int .i64 0, Value.int .u8 0, Value.int .u8 0, Value.int .u8 0, Value.int .u8 0, Value.int .u8 0, Value.int .u8 0, Value.int .u8 0, Value.int .u8 0, Value.int .u8 0, Value.int .u8 0, Value.int .u8 0, Value.int .u8 0, Value.int .u8 0, Value.int .u8 0, Value.int .u8 0, Value.int .u8 0, Value.int .u8 0, Value.int .u8 0, Value.int .u8 0, Value.int .u8 0, Value.int .u8 0, Value.int .u8 0, Value.int .u8 0, Value.int .u8 0, Value.int .u8 0, Value.int .u8 0, Value.int .u8 0, Value.int .u8 0, Value.int .u8 0, Value.int .u8 0, Value.int .u8 0, Value.int .u8 0, Value.int .i64 0, Value.slice none 0 0] 58 (Blk.new w4 _ 58) (HSS.out _) (HIS.out _) (smyC_one _ _ _ _ _ _) ?_)) | fail)
  intro w5 hW hBk
  have hE := hW.ext ((Ext.refl w4).alloc _) (Nat.le_refl _)
  replace HY := Aside0.mk (HY.out.trans hE)
  replace HV1 := Aside0.mk (HV1.out.ext hE)
  replace HB3 := Aside0.mk (HB3.out.ext hE)
  replace HV2 := Aside0.mk (HV2.out.ext hE)
  have HB5 := Aside0.mk hBk
  clear hW hBk hE
  go_wp2_with fail
  refine (HRC.out w5 A c (Kd.C_below HR.out (HE1.out.trans HY.out)) hc).mono ?_
  rintro e w6 ⟨V, rfl, hR, hE⟩
  obtain ⟨A3, c3, hV, _, _⟩ := EB.reads hR
  rw [← HN1.out] at hV
  subst hV
  have HO7 := Aside0.mk (show w4.heap.size < w5.heap.size ∧ w5.heap.size ≤ w6.heap.size from ⟨HB5.out.lt, hE.size⟩)
  replace HY := Aside0.mk (HY.out.trans hE)
  replace HV1 := Aside0.mk (HV1.out.ext hE)
  replace HB3 := Aside0.mk (HB3.out.ext hE)
  replace HV2 := Aside0.mk (HV2.out.ext hE)
  replace HB5 := Aside0.mk (HB5.out.ext hE)
  have HV3 := Aside0.mk hR
  clear hR hE
  go_wp2_with (first | ((with_reducible refine gate_store (ty := 58) rfl ?_); (refine store_at rfl 58 _ _ rfl w6.heap.size (smyC st pr nx (.slice A3 n1 c3)) rfl rfl #[Value.int .i64 0, Value.int .u8 0, Value.int .u8 0, Value.int .u8 0, Value.int .u8 0, Value.int .u8 0, Value.int .u8 0, Value.int .u8 0, Value.int .u8 0, Value.int .u8 0, Value.int .u8 0, Value.int .u8 0, Value.int .u8 0, Value.int .u8 0, Value.int .u8 0, Value.int .u8 0, Value.int .u8 0, Value.int .u8 0, Value.int .u8 0, Value.int .u8 0, Value.int .u8 0, Value.int .u8 0, Value.int .u8 0, Value.int .u8 0, Value.int .u8 0, Value.int .u8 0, Value.int .u8 0, Value.int .u8 0, Value.int .u8 0, Value.int .u8 0, Value.int .u8 0, Value.int .u8 0, Value.int .u8 0, Value.int .i64 0, Value.slice none 0 0] 58 (Blk.new w6 _ 58) (HSS.out _) (HIS.out _) (smyC_one _ _ _ _ _ _) ?_)) | fail)
  intro w7 hW hBk
  have hE := hW.ext ((Ext.refl w6).alloc _) (Nat.le_refl _)
  replace HY := Aside0.mk (HY.out.trans hE)
  replace HV1 := Aside0.mk (HV1.out.ext hE)
  replace HB3 := Aside0.mk (HB3.out.ext hE)
  replace HV2 := Aside0.mk (HV2.out.ext hE)
  replace HB5 := Aside0.mk (HB5.out.ext hE)
  replace HV3 := Aside0.mk (HV3.out.ext hE)
  have HB7 := Aside0.mk hBk
  clear hW hBk hE
  have HRW3 := Aside0.mk HB3.out.whole
  have HRW7 := Aside0.mk HB7.out.whole
  go_wp2_with (first | ((with_reducible refine gate_load (ty := 58) rfl ?_); refine load_at rfl 58 _ rfl w2.heap.size 0 rfl (smyC st pr nx (.slice A1 n1 c1)) _ HRW3.out Try.underlying58 rfl (HIS.out _) ?_) | ((with_reducible refine gate_load (ty := 58) rfl ?_); refine load_at rfl 58 _ rfl w6.heap.size 0 rfl (smyC st pr nx (.slice A3 n1 c3)) _ HRW7.out Try.underlying58 rfl (HIS.out _) ?_) | fail)
  refine (HSM.out w7 A1 A3 c1 c3 (EB.reads' HV1.out HN1.out) (EB.reads' HV3.out HN1.out)).mono ?_
  rintro e w8 ⟨rfl, hE⟩
  replace HY := Aside0.mk (HY.out.trans hE)
  replace HV1 := Aside0.mk (HV1.out.ext hE)
  replace HB3 := Aside0.mk (HB3.out.ext hE)
  replace HV2 := Aside0.mk (HV2.out.ext hE)
  replace HB5 := Aside0.mk (HB5.out.ext hE)
  replace HV3 := Aside0.mk (HV3.out.ext hE)
  replace HB7 := Aside0.mk (HB7.out.ext hE)
  clear hE
  go_wp2_with fail
  refine (kept_n w8 B A d c n bs HN.out (Kd.C_below HCB.out HY.out) hd (Kd.C_below HR.out (HE1.out.trans HY.out)) hc (by omega)).mono ?_
  rintro e w9 ⟨rfl, hE⟩
  replace HY := Aside0.mk (HY.out.trans hE)
  replace HV1 := Aside0.mk (HV1.out.ext hE)
  replace HB3 := Aside0.mk (HB3.out.ext hE)
  replace HV2 := Aside0.mk (HV2.out.ext hE)
  replace HB5 := Aside0.mk (HB5.out.ext hE)
  replace HV3 := Aside0.mk (HV3.out.ext hE)
  replace HB7 := Aside0.mk (HB7.out.ext hE)
  clear hE
  have c34 := (smyBlk HB3.out HOK.out.2.1).2.2.2
  go_wp2_with fail
  refine (spoilE_calls w1 w9 A1 n1 c1 es HN1.out HY.out HV1.out HEL.out).mono ?_
  rintro e wa ⟨rfl, hE, hK⟩
  replace HY := Aside0.mk hE
  replace HB5 := Aside0.mk (blk_kept HB5.out hK (fun h => by have := HL1.out _ h; have := HO5.out; omega))
  replace HB7 := Aside0.mk (blk_kept HB7.out hK (fun h => by have := HL1.out _ h; have := HO5.out; have := HO7.out; omega))
  replace HV2 := Aside0.mk (HV2.out.keptE hK (fun j hj h => by have := HL1.out _ h; have := Kd.R_base HV2.out _ hj; have := HO3.out; have := HO5.out; omega))
  replace HV3 := Aside0.mk (HV3.out.keptE hK (fun j hj h => by have := HL1.out _ h; have := Kd.R_base HV3.out _ hj; have := HO3.out; have := HO5.out; have := HO7.out; omega))
  have HNC := Aside0.mk (HNB.out.ext hE)
  clear hE hK c34 HB3 HV1 HRW3 HRW7
  have HL0 := Aside0.mk (Kd.R_lt HNB.out)
  go_wp2_with fail
  refine (spoil_calls wa _ w (.slice B (n + 5) d) (HE1.out.trans HY.out) HNC.out (by rw [lent_length, ← HN.out]; omega)).mono ?_
  rintro e wb ⟨rfl, hE, hK⟩
  have HZ := Aside0.mk hE
  replace HB5 := Aside0.mk (blk_kept HB5.out hK (fun h => by have := HL0.out _ h; have := HO3.out; have := HO5.out; omega))
  replace HB7 := Aside0.mk (blk_kept HB7.out hK (fun h => by have := HL0.out _ h; have := HO3.out; have := HO5.out; have := HO7.out; omega))
  replace HV2 := Aside0.mk (HV2.out.keptE hK (fun j hj h => by have := HL0.out _ h; have := Kd.R_base HV2.out _ hj; have := HO3.out; have := HO5.out; omega))
  replace HV3 := Aside0.mk (HV3.out.keptE hK (fun j hj h => by have := HL0.out _ h; have := Kd.R_base HV3.out _ hj; have := HO3.out; have := HO5.out; have := HO7.out; omega))
  clear hE hK
  have HRW5 := Aside0.mk HB5.out.whole
  have HRW7 := Aside0.mk HB7.out.whole
  go_wp2_with (first | ((with_reducible refine gate_load (ty := 58) rfl ?_); refine load_at rfl 58 _ rfl w4.heap.size 0 rfl (smyC st pr nx (.slice A2 n1 c2)) _ HRW5.out Try.underlying58 rfl (HIS.out _) ?_) | ((with_reducible refine gate_load (ty := 58) rfl ?_); refine load_at rfl 58 _ rfl w6.heap.size 0 rfl (smyC st pr nx (.slice A3 n1 c3)) _ HRW7.out Try.underlying58 rfl (HIS.out _) ?_) | fail)
  refine (HSM.out wb A2 A3 c2 c3 (EB.reads' HV2.out HN1.out) (EB.reads' HV3.out HN1.out)).mono ?_
  rintro e wc ⟨rfl, hE⟩
  have HZ2 := Aside0.mk (HZ.out.trans hE)
  clear hE
  go_wp2_with fail
  refine (works_calls wc).mono ?_
  rintro e wd ⟨rfl, hE⟩
  go_wp2_with fail
  go_ret
  exact ⟨rfl, HZ2.out.trans hE⟩
end Go.Proofs.Ythgdjgnbifakbaa.By
