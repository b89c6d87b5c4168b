/- An array: rules for append and copy in a drawn region; Sync, Do. -/
import Derived.Test.YtielnpmnnifjcaaAn
namespace Go.Proofs.Ytielnpmnnifjcaa.By
open Go.RowKit Go.Proofs.Ytielnpmnnifjcaa.Reg Go.Proofs.YtielnpmnnifjcaaW.PrintWords Go.Proofs.YtielnpmnnifjcaaW.PrintLast Go.Proofs.YtielnpmnnifjcaaW.PrintMore
set_option linter.unusedVariables false
set_option linter.unusedSimpArgs false


/-- append of one element of any kind to a row of one's own. -/
theorem run_appK {α : Type} (d : Kd α) (W : World) (B : Nat) (t e ty : TypeId) (z : Value) (bytes : Nat) (ht : Try.prog.underlying t = some (.slice e)) (hinfo : (Try.prog.info? e).map (fun i => (i.zero, i.size, i.bytes)) = some (some z, d.sz, bytes)) (hz : z.cells.size = d.sz) (hs0 : 0 < d.sz) (hb0 : 0 < bytes)
    (V : Value) (xs : List α) (p : α) (cs : List Value) (AD : Addr) (okp : Nat → Prop) (hO : d.R e W B (fun _ => True) V xs) (hp : d.M W B okp p cs) (hokp : ∀ k, okp k → some k ≠ V.ownBlock) (hc : ∀ j u, cs[j]? = some u → W.cell? (AD.add j) = some u) (hB : B ≤ W.heap.size) (hl : (xs.length + 1) * bytes ≤ 140737488355328) :
    ∃ V1 w1, (Builtin.append_ #[t, t] ty #[V, .slice (some AD) 1 1]).run Try.prog W = .ok V1 w1 ∧ d.R e w1 B (fun _ => True) V1 (xs ++ [p]) ∧ W.grownBy w1 V.ownBlock ∧ (V1.ownBlock = V.ownBlock ∨ V1.ownBlock = some W.heap.size) := by
  obtain ⟨h0, inner, hown, hr⟩ := hO
  obtain ⟨i0, hi0, hz0, hsz, hby⟩ := info_parts hinfo
  have hcl : cs.length = d.sz := d.K_len (d.K_of_M hp)
  have h1b : xs.length + 1 ≤ (xs.length + 1) * bytes := Nat.le_mul_of_pos_right _ hb0
  obtain ⟨V1, w1, h1, h2, h3, _, h5⟩ := run_append_own_at (P := Try.prog) W B t ty e i0 z d.sz bytes ht hi0 hz0 hsz hby hz (by omega) V xs.length inner hown AD 1 1 cs (by rw [hcl, Nat.one_mul]) hc (d.K_one (d.K_of_M hp)) (by simp only [maxLen]; omega) (by omega) hB
  refine ⟨V1, w1, h1, Kd.R_appended (okp := okp) h0 hr hp (fun k hk => ⟨trivial, hokp k hk⟩) (fun _ _ => trivial) h2 h3 ?_, h3, h5⟩
  rcases h5 with h | h
  · exact .inl h
  · exact .inr ⟨_, h, Nat.le_refl _⟩
/-- A row that has been appended to lies where it lay, or in new memory. -/
def OwnQ (V : Value) (N : Nat) (u : Value) : Prop := u.ownBlock = V.ownBlock ∨ ∃ b, u.ownBlock = some b ∧ N ≤ b
theorem YldG_appK {α : Type} (d : Kd α) {g : World → World → Prop} {W : World} {o : Oper} {a : Act} (ss x : Operand) (t e : TypeId) (z : Value) (bytes : Nat) (ho : o.op = .call { callee := .builtin .append, args := #[ss, x], argTypes := #[t, t] })
    (ht : Try.prog.underlying t = some (.slice e)) (hinfo : (Try.prog.info? e).map (fun i => (i.zero, i.size, i.bytes)) = some (some z, d.sz, bytes)) (hz : z.cells.size = d.sz) (hs0 : 0 < d.sz) (hb0 : 0 < bytes)
    (V : Value) (AD : Addr) (hs : a.eval ss = V) (hx : a.eval x = .slice (some AD) 1 1) (B : Nat) (xs : List α) (p : α) (cs : List Value) (okp : Nat → Prop) (hO : d.R e W B (fun _ => True) V xs) (hp : d.M W B okp p cs) (hokp : ∀ k, okp k → some k ≠ V.ownBlock) (hc : ∀ j u, cs[j]? = some u → W.cell? (AD.add j) = some u) (hB : B ≤ W.heap.size) (hl : (xs.length + 1) * bytes ≤ 140737488355328)
    (hg : ∀ w1, W.grownBy w1 V.ownBlock → g W w1) (N : Nat) (hN : N ≤ W.heap.size) : YldG g Try.prog o a W (.fact true fun u w1 => d.R e w1 B (fun _ => True) u (xs ++ [p]) ∧ OwnQ V N u) := by
  obtain ⟨V1, w1, h1, h2, h3, h4⟩ := run_appK d W B t e o.type z bytes ht hinfo hz hs0 hb0 V xs p cs AD okp hO hp hokp hc hB hl
  unfold YldG execOp
  simp only [ho, resolve, invoke, builtin, Sem.run_bind, Sem.run_pure, Result.andThen_ok, List.map_toArray, List.map_cons, List.map_nil, hs, hx, h1]
  exact ⟨hg w1 h3, h2, h4.elim .inl (fun e => .inr ⟨_, e, hN⟩)⟩
theorem YldG_copy {g : World → World → Prop} {w w' : World} {o : Oper} {a : Act} (dd ss : Operand) (dT sT : TypeId) (ho : o.op = .call { callee := .builtin .copy, args := #[dd, ss], argTypes := #[dT, sT] }) (v : Value) (p : Value → World → Prop)
    (hr : (Builtin.copy_ #[dT, sT] o.type #[a.eval dd, a.eval ss]).run Try.prog w = .ok v w') (hg : g w w') (hp : p v w') : YldG g Try.prog o a w (.fact true p) := by
  unfold YldG execOp
  simp only [ho, resolve, invoke, builtin, Sem.run_bind, Sem.run_pure, Result.andThen_ok, List.map_toArray, List.map_cons, List.map_nil, hr]
  exact ⟨hg, hp⟩
/-- A change: a trim, or 32 bytes, and where. -/
abbrev Ch := Bool × Int × List Int
abbrev kH : Kd Ch := Kd.pair Kd.bool (Kd.pair (Kd.int .i64) (Kd.arr 32 kb (by decide)))
def chL (p : Ch) : List Value := [.bool p.1, .int .i64 p.2.1] ++ u8s p.2.2
theorem ch_M (w : World) (base : Nat) (ok : Nat → Prop) (p : Ch) (h : p.2.2.length = 32) : kH.M w base ok p (chL p) :=
  ⟨[.bool p.1], [.int .i64 p.2.1] ++ u8s p.2.2, rfl, rfl, ⟨[.int .i64 p.2.1], u8s p.2.2, rfl, rfl, h, Kd.reps_scalar p.2.2⟩⟩
theorem reps_u8 {w : World} {xs : List Int} {cs : List Value} (h : Reps (kb.K w) 1 xs cs) : cs = u8s xs := by
  apply List.ext_getElem?
  intro j
  have hl : cs.length = xs.length := by have := h.1; omega
  by_cases hj : j < xs.length
  · have h1 := h.2 j xs[j] (List.getElem?_eq_getElem hj)
    rw [Nat.mul_one] at h1
    have h2 : (cs.drop j).take 1 = [.int .u8 xs[j]] := h1
    rw [List.drop_eq_getElem_cons (by omega)] at h2
    simp only [List.take_succ_cons, List.take_zero, List.cons.injEq, and_true] at h2
    unfold u8s
    rw [List.getElem?_eq_getElem (by omega), h2, List.getElem?_map, List.getElem?_eq_getElem hj]
    rfl
  · rw [List.getElem?_eq_none (by omega), List.getElem?_eq_none (by rw [u8s_len]; omega)]
theorem ch_K {w : World} {p : Ch} {cs : List Value} (h : kH.K w p cs) : cs = chL p ∧ p.2.2.length = 32 := by
  obtain ⟨c0, c1, e, h0, h1⟩ := h
  obtain ⟨c2, c3, e1, h2, h3, h4⟩ := h1
  have h0' : c0 = [.bool p.1] := h0
  have h2' : c2 = [.int .i64 p.2.1] := h2
  have h3' : p.2.2.length = 32 := h3
  refine ⟨?_, h3'⟩
  rw [e, h0', e1, h2', reps_u8 h4]
  rfl
section
variable {w w' : World} {ba n : Nat} {R R' : Nat → List Int} {M M' : Nat → Bool} {V : Value}
set_option maxRecDepth 100000 in
set_option maxHeartbeats 2000000 in
theorem async_calls (h : AV w ba n R M R' M' V) : Calls Try.prog 23 #[.pointer (some ⟨ba, 0, none⟩)] w fun e w' => e = .returned (.tuple #[]) ∧ AV w' ba n R' M' R' M' (.slice none 0 0) ∧ Chg w w' (fun j => j = ba) := by
  obtain ⟨cs, hB, hA⟩ := h
  have HB := Aside0.mk hB
  have HA := Aside0.mk hA
  have HSL := Aside0.mk (show (segB cs 2113).length = 2112 from segB_len _ _ (by have := hA.sz; omega))
  have HRG := Aside0.mk (segB_range hB (show 2113 + 2112 ≤ cs.size by have := hA.sz; omega))
  have HON := Aside0.mk (segB_one hA.no (show 2113 + 2112 ≤ cs.size by have := hA.sz; omega))
  have HI := Aside0.mk (show (Try.prog.info? 63).map (·.size) = some (segB cs 2113).length from by rw [HSL.out]; kernel_rfl)
  clear hB hA
  go_enter Try.func23, Try.ntmps23
  go_wp2_with (first | ((with_reducible refine gate_load (ty := 63) rfl ?_); refine load_at rfl 63 _ rfl ba 2113 rfl (segB cs 2113) _ HRG.out Try.underlying63 rfl HI.out ?_) | ((with_reducible refine gate_store (ty := 63) rfl ?_); refine storem_at rfl 63 _ _ rfl ba 1 (segB cs 2113) rfl rfl cs 66 HB.out (by rw [HSL.out, HA.out.sz]; decide) HI.out HON.out ?_) | fail)
  intro w1 hW hB1
  have hz : (splice cs 1 (segB cs 2113)).size = 4226 := by rw [splice_size _ _ _ (by rw [HSL.out, HA.out.sz]; decide), HA.out.sz]
  have hc := hB1.cell 4225 (v := V) (by rw [splice_at _ _ _ (by rw [HSL.out, HA.out.sz]; decide), HSL.out, if_neg (by decide)]; exact HA.out.op)
  have hf := hB1.free 4225
  have HFIN := Aside0.mk (show AV (w1.setCell ⟨ba, 4225, none⟩ (.slice none 0 0)) ba n R' M' R' M' (.slice none 0 0) from ⟨_, hB1.set 4225 (.slice none 0 0), HA.out.sync (.slice none 0 0)⟩)
  have HC := Aside0.mk (Chg.of_wrote (S := fun j => j = ba) (hW.trans (Wrote.setCell w1 ba 4225 (.slice none 0 0))) rfl)
  clear hW hB1 HB HA HSL HRG HON HI hz
  go_wp2
  go_end0
  exact ⟨rfl, HFIN.out, HC.out⟩
end
end Go.Proofs.Ytielnpmnnifjcaa.By
