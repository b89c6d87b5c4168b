/- Digests and refs that are read. -/
import Derived.Test.YthgdjgnbifakbaaPuts
import Derived.Test.YthgdjgnbifakbaaRegC
import Derived.Laws.Cover3
namespace Go.Proofs.Ythgdjgnbifakbaa.By
open Go.RowKit Go.Proofs.Ythgdjgnbifakbaa.Reg Go.Proofs.YthgdjgnbifakbaaW.PrintWords Go.Proofs.YthgdjgnbifakbaaW.PrintLast Go.Proofs.YthgdjgnbifakbaaW.PrintMore
set_option linter.unusedVariables false

theorem kb_range {w : World} {A : Option Addr} {n : Nat} {xs : List Int} (h : Kd.C kb w A n xs) (hp : 0 < n) : ∃ b off, A = some ⟨b, off, none⟩ ∧ w.rangeAt b off (nums .u8 xs) := by
  obtain ⟨ad, rfl, hc⟩ := h.2.2 hp
  have key : ∀ j (p : Int), xs[j]? = some p → w.cell? (ad.add j) = some (.int .u8 p) := by
    intro j p hj
    obtain ⟨cs, h1, h2, h3⟩ := hc j p hj
    have h2' : cs = [.int .u8 p] := h2
    subst h2'
    have := h3 0 _ rfl
    rwa [show j * kb.sz + 0 = j by show j * 1 + 0 = j; omega] at this
  have hs : ad.spot = none := by
    have hl : 0 < xs.length := by rw [h.1]; exact hp
    have := key 0 _ (List.getElem?_eq_getElem hl)
    cases hsp : ad.spot with
    | none => rfl
    | some s =>
      exfalso
      simp only [Addr.add, World.cell?] at this
      simp [hsp] at this
      split at this <;> cases this
  obtain ⟨b, off, sp⟩ := ad
  subst hs
  refine ⟨b, off, rfl, fun j v hv => ?_⟩
  simp only [nums, List.getElem?_map] at hv
  obtain ⟨p, hp', rfl⟩ := Option.map_eq_some_iff.1 hv
  have := key j p hp'
  unfold Addr.add at this
  split at this
  · rename_i h0
    simpa [h0] using this
  · exact this

set_option maxHeartbeats 1000000 in
theorem digest_calls (w : World) (A : Option Addr) (c n : Nat) (xs : List Int) (hn : n = 32) (hr : Kd.C kb w A n xs) :
    Calls Try.prog 63 #[.slice A n c] w fun e w' => e = .returned (sumV xs) ∧ Ext w w' := by
  subst hn
  have hl : xs.length = 32 := hr.1
  obtain ⟨b, off, rfl, hrange⟩ := kb_range hr (by decide)
  have HR := Aside0.mk hrange
  have HL := Aside0.mk hl
  clear hr hrange hl
  have harr : ∀ W : World, (Instr.arrayAt 24 (.slice (some ⟨b, off, none⟩) 32 c)).run Try.prog W = .ok (.pointer (some ⟨b, off, none⟩)) W := fun W => run_arrayAt W 24 5 32 _ 32 c Try.underlying24 (Nat.le_refl _)
  have HI4 := Aside0.mk (show (Try.prog.info? 24).map (·.size) = some (nums .u8 xs).length by rw [nums_length, HL.out]; kernel_rfl)
  have hone : ∀ v ∈ nums .u8 xs, v.oneCell' = true := by
    intro v hv
    obtain ⟨p, _, rfl⟩ := List.mem_map.1 hv
    rfl
  have HO := Aside0.mk hone
  clear hone
  unfold sumV
  go_enter Try.func63, Try.ntmps63
  go_wp2_with (first | ((with_reducible refine gate_load (ty := 24) rfl ?_); go_loud (refine load_at rfl 24 _ rfl b off rfl (nums .u8 xs) _ ?c1 Try.underlying24 rfl HI4.out ?_)) | ((with_reducible refine gate_store (ty := 24) rfl ?_); go_loud (refine store_at rfl 24 _ _ rfl w.heap.size (nums .u8 xs) rfl rfl _ 24 (Blk.new w _ 24) ?c2 HI4.out HO.out ?_)) | fail)
  case c1 => exact rangeAt_ext HR.out ((Ext.refl w).alloc _)
  case c2 => rw [nums_length, HL.out]; rfl
  intro w2 hW hB
  have hE := hW.ext ((Ext.refl w).alloc _) (Nat.le_refl _)
  clear hW harr
  go_wp2
  (try simp only [Exit.inBlock, Exit.then])
  refine bodyPost_ret (results_cell_row rfl _ _ w.heap.size 24 (nums .u8 xs).toArray (0, 0) _ rfl hB.is Try.underlying24 rfl (by simpa using HI4.out)) rfl ?_
  exact ⟨rfl, hE⟩
theorem digest_at (w : World) (A : Option Addr) (c n : Nat) (xs ys : List Int) (hn : n = 32) (hr : Kd.C kb w A n xs) (hx : xs = ys) :
    Calls Try.prog 63 #[.slice A n c] w fun e w' => e = .returned (sumV ys) ∧ Ext w w' := by
  subst hx
  exact digest_calls w A c n xs hn hr

theorem one_cells (k : IntKind) (s : List Int) : ∀ v ∈ nums k s, v.oneCell' = true := by
  intro v hv
  obtain ⟨p, _, rfl⟩ := List.mem_map.1 hv
  rfl
theorem one_ref (a : Int) (s : List Int) : ∀ v ∈ refC a s, v.oneCell' = true := by
  intro v hv
  unfold refC at hv
  rcases List.mem_cons.1 hv with h | h
  · subst h; rfl
  · exact one_cells _ _ v h

section
variable {P : Program} {w : World} {ops : Array Oper} {rest : List Oper} {o : Oper} {a : Act} {Q : Exit → Act → World → Prop}
theorem Yld_build (t : TypeId) (parts : Array (Nat × Operand)) (ho : o.op = .build t parts) (cells : Array Value) (vals : List (Nat × Value)) (he : parts.toList.map (fun p => (p.1, a.eval p.2)) = vals) (h : P.built t vals = some cells) : Yld P o a w (.val (.agg cells)) := by
  have h' : P.built t (parts.map fun (i, x) => (i, a.eval x)).toList = some cells := by rw [Array.toList_map, ← h, ← he]
  unfold Yld execOp
  simp only [ho, Sem.run_bind, run_build w t _ _ h', Result.andThen_ok, Sem.run_pure]
  exact ⟨Ext.refl _, rfl⟩
theorem gate_build {ty : TypeId} {x : Array (Nat × Operand)} (_ho : o.op = .build ty x) (h : wpList P ops Q (o :: rest) a w) : wpList P ops Q (o :: rest) a w := h
theorem build_at (hw : Region.wanted o (yielded ops a.tmps) = true) (t : TypeId) (parts : Array (Nat × Operand)) (ho : o.op = .build t parts) (cells : Array Value) (vals : List (Nat × Value)) (he : parts.toList.map (fun p => (p.1, a.eval p.2)) = vals) (hb : P.built t vals = some cells)
    (h : wpList P ops Q rest (a.put o.dst (.agg cells)) w) : wpList P ops Q (o :: rest) a w :=
  have h' : P.built t (parts.map fun (i, x) => (i, a.eval x)).toList = some cells := by rw [Array.toList_map, ← hb, ← he]
  BigFrame.wpList_want hw fun K hK => wp_build t parts ho (by rw [h']; rfl) (by rw [h']; exact hK _ _ h)
end
theorem built_ref (a : Int) : ∀ (s : List Int), s.length = 32 → Program.built Try.prog 26 [(0, .int .i64 a), (1, sumV s)] = some (refC a s).toArray
  | [x0, x1, x2, x3, x4, x5, x6, x7, x8, x9, x10, x11, x12, x13, x14, x15, x16, x17, x18, x19, x20, x21, x22, x23, x24, x25, x26, x27, x28, x29, x30, x31], _ => by kernel_rfl
theorem build_ref (a : Int) (s : List Int) (hs : s.length = 32) : ∀ W : World, (Instr.build 26 #[(0, .int .i64 a), (1, sumV s)]).run Try.prog W = .ok (refV a s) W := fun W => run_build W 26 _ _ (built_ref a s hs)

set_option maxHeartbeats 2000000 in
theorem getref_calls (w : World) (A : Option Addr) (c n : Nat) (xs : List Int) (hn : n = 40) (hc : n ≤ c) (hb : isB xs) (hr : Kd.C kb w A n xs) :
    Calls Try.prog 65 #[.slice A n c] w fun e w' => e = .returned (refV (numI (xs.take 8)) (xs.drop 8)) ∧ Ext w w' := by
  subst hn
  have hl : xs.length = 40 := hr.1
  obtain ⟨i0, hi0, _, hsz, _⟩ := info_parts PPackPuts.info5
  have hcut := cut_to (P := Try.prog) 22 5 .i64 Try.underlying22 hi0 A 40 c 8 (by decide) (by decide) hc
  have hcut2 := cut_from (P := Try.prog) 22 5 .i64 Try.underlying22 hi0 1 hsz A 40 c 8 (by decide) (by decide)
  rw [show (8 : Int).toNat = 8 from rfl] at hcut hcut2
  have hq : Kd.C kb w A 8 (xs.take 8) := by
    have := Kd.C_take (m := 8) (hl ▸ hr) (by omega)
    rwa [show (xs.take 8).length = 8 by rw [List.length_take]; omega] at this
  have hd : Kd.C kb w (if c = 8 then A else A.map (·.add (8 * 1))) 32 (xs.drop 8) := by
    have := Kd.C_drop (m := 8) (c := c) (hl ▸ hr) (by omega) (by omega)
    rwa [show (xs.drop 8).length = 32 by rw [List.length_drop]; omega] at this
  generalize (if c = 8 then A else A.map (·.add (8 * 1))) = A' at hd hcut2
  have h8 : 8 ≤ c := by omega
  generalize c - 8 = c' at hcut2
  rw [show 40 - 8 = 32 from rfl] at hcut2
  have HQ := Aside0.mk hq
  have HD := Aside0.mk hd
  have HB := Aside0.mk hb
  have HI := Aside0.mk (show (Try.prog.info? 26).map (·.size) = some (refC (numI (xs.take 8)) (xs.drop 8)).length by unfold refC; rw [List.length_cons, nums_length, List.length_drop, hl]; kernel_rfl)
  have HL := Aside0.mk hl
  clear hq hd hb hr hl
  go_enter Try.func65, Try.ntmps65
  go_wp2_with fail
  have hB0 := Blk.new w #[Value.int .i64 0, .int .u8 0, .int .u8 0, .int .u8 0, .int .u8 0, .int .u8 0, .int .u8 0, .int .u8 0, .int .u8 0, .int .u8 0, .int .u8 0, .int .u8 0, .int .u8 0, .int .u8 0, .int .u8 0, .int .u8 0, .int .u8 0, .int .u8 0, .int .u8 0, .int .u8 0, .int .u8 0, .int .u8 0, .int .u8 0, .int .u8 0, .int .u8 0, .int .u8 0, .int .u8 0, .int .u8 0, .int .u8 0, .int .u8 0, .int .u8 0, .int .u8 0, .int .u8 0] 26
  have hE0 := (Ext.refl w).alloc (.cells #[Value.int .i64 0, .int .u8 0, .int .u8 0, .int .u8 0, .int .u8 0, .int .u8 0, .int .u8 0, .int .u8 0, .int .u8 0, .int .u8 0, .int .u8 0, .int .u8 0, .int .u8 0, .int .u8 0, .int .u8 0, .int .u8 0, .int .u8 0, .int .u8 0, .int .u8 0, .int .u8 0, .int .u8 0, .int .u8 0, .int .u8 0, .int .u8 0, .int .u8 0, .int .u8 0, .int .u8 0, .int .u8 0, .int .u8 0, .int .u8 0, .int .u8 0, .int .u8 0, .int .u8 0] 26)
  generalize hcs : (#[Value.int .i64 0, .int .u8 0, .int .u8 0, .int .u8 0, .int .u8 0, .int .u8 0, .int .u8 0, .int .u8 0, .int .u8 0, .int .u8 0, .int .u8 0, .int .u8 0, .int .u8 0, .int .u8 0, .int .u8 0, .int .u8 0, .int .u8 0, .int .u8 0, .int .u8 0, .int .u8 0, .int .u8 0, .int .u8 0, .int .u8 0, .int .u8 0, .int .u8 0, .int .u8 0, .int .u8 0, .int .u8 0, .int .u8 0, .int .u8 0, .int .u8 0, .int .u8 0, .int .u8 0] : Array Value) = cs0 at *
  have hsz0 : cs0.size = 33 := by rw [← hcs]; rfl
  clear hcs
  generalize w.alloc (.cells cs0 26) = w1 at *
  apply wp_region_facts 7 [RF.val (.slice A 40 c), RF.val (.slice A 8 c), RF.val (.int .i64 (numI (xs.take 8))), RF.val (.slice A 40 c), RF.val (.slice A' 32 c'), RF.val (sumV (xs.drop 8)), RF.val (refV (numI (xs.take 8)) (xs.drop 8))] (by kernel_rfl) (by kernel_rfl)
  simp only [List.take_succ_cons, List.take_zero, List.zip_cons_cons, List.zip_nil_left]
  apply wpF_val rfl; (intro w' hE hD; unfold Yld; go_simp; exact ⟨Ext.refl _, rfl⟩); (try simp only [Act.put, List.setIfInBounds_toArray, List.set_cons_zero, List.set_cons_succ])
  apply wpF_val rfl; (intro w' hE hD; unfold Yld; go_simp; exact ⟨Ext.refl _, rfl⟩); (try simp only [Act.put, List.setIfInBounds_toArray, List.set_cons_zero, List.set_cons_succ])
  apply wpF_val rfl; (intro w' hE hD; unfold Yld; go_simp; exact (number_calls w' A c 8 (xs.take 8) (by rw [List.length_take]; have := HL.out; omega) (HB.out.take 8) (Kd.C_below HQ.out (hE0.trans hE)) h8 (by rw [List.length_take]; omega)).mono fun e w2 h => ⟨_, h.1, h.2, rfl⟩); (try simp only [Act.put, List.setIfInBounds_toArray, List.set_cons_zero, List.set_cons_succ])
  apply wpF_val rfl; (intro w' hE hD; unfold Yld; go_simp; exact ⟨Ext.refl _, rfl⟩); (try simp only [Act.put, List.setIfInBounds_toArray, List.set_cons_zero, List.set_cons_succ])
  apply wpF_val rfl; (intro w' hE hD; unfold Yld; go_simp; exact ⟨Ext.refl _, rfl⟩); (try simp only [Act.put, List.setIfInBounds_toArray, List.set_cons_zero, List.set_cons_succ])
  apply wpF_val rfl; (intro w' hE hD; unfold Yld; go_simp; exact (digest_calls w' A' c' 32 (xs.drop 8) rfl (Kd.C_below HD.out (hE0.trans hE))).mono fun e w2 h => ⟨_, h.1, h.2, rfl⟩); (try simp only [Act.put, List.setIfInBounds_toArray, List.set_cons_zero, List.set_cons_succ])
  apply wpF_val rfl
  · intro w' hE hD
    exact Yld_build 26 #[(0, .tmp 5), (1, .tmp 8)] rfl _ _ rfl (built_ref (numI (xs.take 8)) (xs.drop 8) (by rw [List.length_drop, HL.out]))
  (try simp only [Act.put, List.setIfInBounds_toArray, List.set_cons_zero, List.set_cons_succ])
  refine wpF_nil fun w' hE hA => ?_
  have hB1 := hB0.ext hE
  simp only [List.drop_succ_cons, List.drop_zero]
  refine store_at rfl 26 _ _ rfl w.heap.size (refC (numI (xs.take 8)) (xs.drop 8)) rfl rfl _ 26 hB1 ?_ HI.out (one_ref _ _) fun w2 hW hB2 => ?_
  · rw [hsz0]; unfold refC; rw [List.length_cons, nums_length, List.length_drop, HL.out]
  simp only [Act.put]
  have hE2 := hW.ext (hE0.trans hE) (Nat.le_refl _)
  clear hW hA hE hB1 hE0 hB0
  refine wpList_nil ?_
  go_wp2
  (try simp only [Exit.inBlock, Exit.then])
  refine bodyPost_ret (results_cell_row rfl _ _ w.heap.size 26 (refC (numI (xs.take 8)) (xs.drop 8)).toArray (0, 0) _ rfl hB2.is Try.underlying26 rfl (by simpa using HI.out)) rfl ?_
  exact ⟨rfl, hE2⟩
end Go.Proofs.Ythgdjgnbifakbaa.By
