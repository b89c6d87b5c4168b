/- The blocks of an array in memory; a change done to them. -/
import Derived.Test.YtielnpmnnifjcaaCg
namespace Go.Proofs.Ytielnpmnnifjcaa.By
open Go.RowKit Go.Proofs.Ytielnpmnnifjcaa.Reg Go.Proofs.YtielnpmnnifjcaaW.PrintWords Go.Proofs.YtielnpmnnifjcaaW.PrintLast Go.Proofs.YtielnpmnnifjcaaW.PrintMore
set_option linter.unusedVariables false
set_option linter.unusedSimpArgs false


def u8s (xs : List Int) : List Value := xs.map (Value.int .u8)
theorem u8s_len (xs : List Int) : (u8s xs).length = xs.length := by simp [u8s]
theorem u8s_at (xs : List Int) (k : Nat) (hk : k < xs.length) : (u8s xs)[k]? = some (.int .u8 (xs.getD k 0)) := by
  unfold u8s
  rw [List.getElem?_map, List.getElem?_eq_getElem hk, List.getD_eq_getElem?_getD, List.getElem?_eq_getElem hk]
  rfl
/-- 64 rows of 32 bytes and their marks, in cells from off on. -/
def BV (cs : Array Value) (off : Nat) (R : Nat → List Int) (M : Nat → Bool) : Prop :=
  (∀ i, i < 64 → (R i).length = 32) ∧ (∀ i k, i < 64 → k < 32 → cs[off + i * 32 + k]? = some (.int .u8 ((R i).getD k 0))) ∧ ∀ i, i < 64 → cs[off + 2048 + i]? = some (.bool (M i))
def chC (trim : Bool) (at' : Nat) (data : List Int) : List Value := [.bool trim, .int .i64 at'] ++ u8s data
theorem chC_len (trim : Bool) (k : Nat) (data : List Int) (h : data.length = 32) : (chC trim k data).length = 34 := by simp [chC, u8s_len, h]
def doC (cs : Array Value) (off : Nat) (trim : Bool) (k : Nat) (data : List Int) : Array Value := (splice cs (off + k * 32) (u8s data)).setIfInBounds (off + 2048 + k) (.bool (!trim))
theorem doC_size {cs : Array Value} {off : Nat} {trim : Bool} {k : Nat} {data : List Int} (hk : k < 64) (hd : data.length = 32) (hs : off + 2112 ≤ cs.size) : (doC cs off trim k data).size = cs.size := by
  unfold doC
  rw [Array.size_setIfInBounds, splice_size _ _ _ (by rw [u8s_len]; omega)]
theorem doC_at {cs : Array Value} {off : Nat} {trim : Bool} {k : Nat} {data : List Int} (hk : k < 64) (hd : data.length = 32) (hs : off + 2112 ≤ cs.size) (j : Nat) :
    (doC cs off trim k data)[j]? = if j = off + 2048 + k then some (.bool (!trim)) else if off + k * 32 ≤ j ∧ j < off + k * 32 + 32 then (u8s data)[j - (off + k * 32)]? else cs[j]? := by
  unfold doC
  have hz := splice_size cs (off + k * 32) (u8s data) (by rw [u8s_len]; omega)
  rw [Array.getElem?_setIfInBounds]
  by_cases h : off + 2048 + k = j
  · rw [if_pos h, if_pos (by omega), if_pos h.symm]
  · rw [if_neg h, if_neg (fun e => h e.symm), splice_at _ _ _ (by rw [u8s_len]; omega), u8s_len, hd]
theorem BV.do {cs : Array Value} {off : Nat} {R : Nat → List Int} {M : Nat → Bool} (h : BV cs off R M) (trim : Bool) (k : Nat) (data : List Int) (hk : k < 64) (hd : data.length = 32) (hs : off + 2112 ≤ cs.size) : BV (doC cs off trim k data) off (upd R k data) (upd M k (!trim)) := by
  obtain ⟨h1, h2, h3⟩ := h
  refine ⟨fun i hi => ?_, fun i x hi hx => ?_, fun i hi => ?_⟩
  · unfold upd
    split
    · exact hd
    · exact h1 i hi
  · rw [doC_at hk hd hs, if_neg (by omega)]
    unfold upd
    by_cases e : i = k
    · subst e
      rw [if_pos ⟨by omega, by omega⟩, if_pos rfl, show off + i * 32 + x - (off + i * 32) = x by omega, u8s_at _ _ (by omega)]
    · rw [if_neg e, if_neg (by omega), h2 i x hi hx]
  · rw [doC_at hk hd hs]
    unfold upd
    by_cases e : i = k
    · subst e
      rw [if_pos rfl, if_pos rfl]
    · rw [if_neg (by omega), if_neg (by omega), if_neg e, h3 i hi]
theorem BV.far {cs : Array Value} {off off' : Nat} {R : Nat → List Int} {M : Nat → Bool} (h : BV cs off R M) (trim : Bool) (k : Nat) (data : List Int) (hk : k < 64) (hd : data.length = 32) (hs : off' + 2112 ≤ cs.size) (hf : off + 2112 ≤ off' ∨ off' + 2112 ≤ off) : BV (doC cs off' trim k data) off R M := by
  obtain ⟨h1, h2, h3⟩ := h
  refine ⟨h1, fun i x hi hx => ?_, fun i hi => ?_⟩
  · rw [doC_at hk hd hs, if_neg (by omega), if_neg (by omega), h2 i x hi hx]
  · rw [doC_at hk hd hs, if_neg (by omega), if_neg (by omega), h3 i hi]
theorem one_u8 (xs : List Int) : ∀ v ∈ (u8s xs).toArray.toList, v.oneCell' = true := by
  intro v hv
  simp only [u8s, List.toList_toArray, List.mem_map] at hv
  obtain ⟨x, _, rfl⟩ := hv
  rfl
set_option maxRecDepth 100000 in
set_option maxHeartbeats 2000000 in
theorem bdo_calls (w : World) (b off ty : Nat) (cs : Array Value) (R : Nat → List Int) (M : Nat → Bool) (hB : Blk w b cs ty) (hV : BV cs off R M) (hs : off + 2112 ≤ cs.size) (trim : Bool) (k : Nat) (data : List Int) (hk : k < 64) (hd : data.length = 32) :
    Calls Try.prog 36 #[.pointer (some ⟨b, off, none⟩), .agg (chC trim k data).toArray] w fun e w' => e = .returned (.tuple #[]) ∧ Blk w' b (doC cs off trim k data) ty ∧ Chg w w' (fun j => j = b) := by
  have hE0 := (Ext.refl w).alloc (.cells (chC trim k data).toArray 71)
  have HB := Aside0.mk (hB.ext hE0)
  have HX := Aside0.mk (Blk.new w (chC trim k data).toArray 71)
  have HC0 := Aside0.mk (Chg.of_ext hE0 (fun j => j = b))
  have HBX := Aside0.mk (show b < w.heap.size from hB.lt)
  have HV := Aside0.mk hV
  have HS := Aside0.mk hs
  have HD := Aside0.mk hd
  have HK := Aside0.mk hk
  obtain ⟨bx, hbx⟩ : ∃ bx, bx = w.heap.size := ⟨_, rfl⟩
  obtain ⟨w1, hw1⟩ : ∃ w1, w1 = w.alloc (.cells (chC trim k data).toArray 71) := ⟨_, rfl⟩
  rw [← hbx] at HX HBX
  rw [← hw1] at HB HX HC0
  have HNE := Aside0.mk (show ¬ bx = b from by have := HBX.out; omega)
  have HW1 := Aside0.mk hw1
  have HBXE := Aside0.mk hbx
  have hk64 : (k : Int) < 64 := by omega
  have HI59 := Aside0.mk (show (Try.prog.info? 59).map (·.size) = some (u8s data).length by rw [u8s_len, hd]; kernel_rfl)
  have HRG := Aside0.mk (fun (W : World) (h : Blk W bx (chC trim k data).toArray 71) => show W.rangeAt bx 2 (u8s data) from fun j v hv => h.cell (2 + j) (by
    rw [List.getElem?_toArray]
    unfold chC
    rw [List.getElem?_append_right (by simp)]
    simpa using hv))
  clear hE0 hB hV hs hd hk hbx hw1
  go_enter Try.func36, Try.ntmps36
  go_wp2_with fail
  rw [← HW1.out, ← HBXE.out]
  apply wp_region_G 17 14 (fun a b' => Chg a b' (fun j => j = b)) (fun a b h => Chg.of_ext h _) (fun a b c h k => h.trans k) [GF.val _, GF.val _, GF.val _, GF.val _, GF.val _, GF.val _, GF.val _, GF.val _, GF.val _, GF.val _, GF.val _, GF.val _, GF.val _, GF.val _, GF.fact true (fun u w' => u = undef ∧ Blk w' b (splice cs (off + k * 32) (u8s data).toArray.toList) ty), GF.val _, GF.val _]
  case hm => kernel_rfl
  case hB => kernel_rfl
  simp only [List.take_succ_cons, List.take_zero, List.zip_cons_cons, List.zip_nil_left]
  refine wpG_val (by rfl) (by decide) (fun w' hE hD => by unfold YldG; go_simp; exact ⟨Ext.refl _, rfl⟩) ?_
  (try simp only [Act.put, List.setIfInBounds_toArray, List.set_cons_zero, List.set_cons_succ])
  refine wpG_val (by rfl) (by decide) (fun w' hE hD => by unfold YldG; go_simp; exact ⟨Ext.refl _, rfl⟩) ?_
  (try simp only [Act.put, List.setIfInBounds_toArray, List.set_cons_zero, List.set_cons_succ])
  refine wpG_val (by rfl) (by decide) (fun w' hE hD => by have hx := hE.blk HX.out HNE.out; have hc1 := hx.cell 1 (v := .int .i64 k) rfl; unfold YldG; go_simp; exact ⟨Ext.refl _, rfl⟩) ?_
  (try simp only [Act.put, List.setIfInBounds_toArray, List.set_cons_zero, List.set_cons_succ])
  refine wpG_val (by rfl) (by decide) (fun w' hE hD => by unfold YldG; go_simp; exact ⟨Ext.refl _, rfl⟩) ?_
  (try simp only [Act.put, List.setIfInBounds_toArray, List.set_cons_zero, List.set_cons_succ])
  refine wpG_val (by rfl) (by decide) (fun w' hE hD => by unfold YldG; go_simp; exact ⟨Ext.refl _, rfl⟩) ?_
  (try simp only [Act.put, List.setIfInBounds_toArray, List.set_cons_zero, List.set_cons_succ])
  refine wpG_val (by rfl) (by decide) (fun w' hE hD => by have hx := hE.blk HX.out HNE.out; have hc1 := hx.cell 1 (v := .int .i64 k) rfl; unfold YldG; go_simp; exact ⟨Ext.refl _, rfl⟩) ?_
  (try simp only [Act.put, List.setIfInBounds_toArray, List.set_cons_zero, List.set_cons_succ])
  refine wpG_val (by rfl) (by decide) (fun w' hE hD => by unfold YldG; go_simp; exact ⟨Ext.refl _, rfl⟩) ?_
  (try simp only [Act.put, List.setIfInBounds_toArray, List.set_cons_zero, List.set_cons_succ])
  refine wpG_val (by rfl) (by decide) (fun w' hE hD => YldG_load 59 _ rfl bx 2 rfl (u8s data) _ (HRG.out w' (hE.blk HX.out HNE.out)) Try.underlying59 rfl HI59.out) ?_
  (try simp only [Act.put, List.setIfInBounds_toArray, List.set_cons_zero, List.set_cons_succ])
  refine wpG_val (by rfl) (by decide) (fun w' hE hD => by unfold YldG; go_simp; exact ⟨Ext.refl _, rfl⟩) ?_
  (try simp only [Act.put, List.setIfInBounds_toArray, List.set_cons_zero, List.set_cons_succ])
  refine wpG_val (by rfl) (by decide) (fun w' hE hD => by have hx := hE.blk HX.out HNE.out; have hc0 := hx.cell 0 (v := .bool trim) rfl; unfold YldG; go_simp; exact ⟨Ext.refl _, rfl⟩) ?_
  (try simp only [Act.put, List.setIfInBounds_toArray, List.set_cons_zero, List.set_cons_succ])
  refine wpG_val (by rfl) (by decide) (fun w' hE hD => by unfold YldG; go_simp; exact ⟨Ext.refl _, rfl⟩) ?_
  (try simp only [Act.put, List.setIfInBounds_toArray, List.set_cons_zero, List.set_cons_succ])
  refine wpG_val (by rfl) (by decide) (fun w' hE hD => by unfold YldG; go_simp; exact ⟨Ext.refl _, rfl⟩) ?_
  (try simp only [Act.put, List.setIfInBounds_toArray, List.set_cons_zero, List.set_cons_succ])
  refine wpG_val (by rfl) (by decide) (fun w' hE hD => by unfold YldG; go_simp; exact ⟨Ext.refl _, rfl⟩) ?_
  (try simp only [Act.put, List.setIfInBounds_toArray, List.set_cons_zero, List.set_cons_succ])
  refine wpG_val (by rfl) (by decide) (fun w' hE hD => by unfold YldG; go_simp; exact ⟨Ext.refl _, rfl⟩) ?_
  (try simp only [Act.put, List.setIfInBounds_toArray, List.set_cons_zero, List.set_cons_succ])
  refine wpG_here (by rfl) (by decide) (fun u Wa Wb h he => ⟨h.1, h.2.ext he⟩) (fun w' hE hD => YldG_store 59 _ _ rfl (off + k * 32) rfl (u8s data).toArray rfl (HB.out.ext hE) (by rw [List.size_toArray, u8s_len]; have := HS.out; have := HK.out; have := HD.out; omega) (by rw [List.size_toArray]; exact HI59.out) (one_u8 data) (fun w2 hw => Chg.of_wrote hw rfl)) (fun u14 => ?_)
  (try simp only [Act.put, List.setIfInBounds_toArray, List.set_cons_zero, List.set_cons_succ])
  refine wpG_val (by rfl) (by decide) (fun w' hE hD => by unfold YldG; go_simp; exact ⟨Ext.refl _, rfl⟩) ?_
  (try simp only [Act.put, List.setIfInBounds_toArray, List.set_cons_zero, List.set_cons_succ])
  refine wpG_val (by rfl) (by decide) (fun w' hE hD => by unfold YldG; go_simp; exact ⟨Ext.refl _, rfl⟩) ?_
  (try simp only [Act.put, List.setIfInBounds_toArray, List.set_cons_zero, List.set_cons_succ])
  refine wpG_nil fun w3 hC3 hA => ?_
  simp only [List.drop_succ_cons, List.drop_zero]
  have hb3 := (hA.1 rfl).2
  have hcm := hb3.cell (off + 2048 + k) (v := .bool (M k)) (by rw [splice_at _ _ _ (by rw [u8s_len]; have := HS.out; have := HK.out; have := HD.out; omega), u8s_len, HD.out, if_neg (by omega)]; exact HV.out.2.2 k HK.out)
  have hfr := hb3.free (off + 2048 + k)
  have HFIN := Aside0.mk (show Blk (w3.setCell ⟨b, off + 2048 + k, none⟩ (.bool (!trim))) b (doC cs off trim k data) ty from hb3.set (off + 2048 + k) (.bool (!trim)))
  have HC3 := Aside0.mk ((HC0.out.trans hC3).trans (Chg.of_wrote (S := fun j => j = b) (Wrote.setCell w3 b (off + 2048 + k) (.bool (!trim))) rfl))
  clear hb3 hC3 hA HB HX HC0 HBX HV HNE HRG
  go_wp2
  go_end0
  exact ⟨rfl, HFIN.out, HC3.out⟩
end Go.Proofs.Ytielnpmnnifjcaa.By
