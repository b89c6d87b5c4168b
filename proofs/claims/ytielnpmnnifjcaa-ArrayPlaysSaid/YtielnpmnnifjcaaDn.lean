/- Rows of changes: each a bool, a number and bytes of its own. -/
import Derived.Test.YtielnpmnnifjcaaAl
namespace Go.Proofs.Ytielnpmnnifjcaa.By
open Go.RowKit Go.Proofs.Ytielnpmnnifjcaa.Reg Go.Proofs.YtielnpmnnifjcaaW.PrintWords Go.Proofs.YtielnpmnnifjcaaW.PrintLast Go.Proofs.YtielnpmnnifjcaaW.PrintMore
set_option linter.unusedVariables false
set_option linter.unusedSimpArgs false


abbrev Ce := Bool × Int × SlT
abbrev kD : Kd Ce := Kd.pair Kd.bool (Kd.pair (Kd.int .i64) kSl)
abbrev RD (w : World) (B : Nat) (V : Value) (ds : List Ce) : Prop := Kd.R kD 34 w B (fun _ => True) V ds
def dL (d : Ce) : List Value := [.bool d.1, .int .i64 d.2.1, slV d.2.2]
theorem dL_M (w : World) (B : Nat) (ok : Nat → Prop) (d : Ce) : kD.M w B ok d (dL d) := ⟨[.bool d.1], [.int .i64 d.2.1, slV d.2.2], rfl, rfl, [.int .i64 d.2.1], [slV d.2.2], rfl, rfl, rfl⟩
theorem dL_K {w : World} {d : Ce} {cs : List Value} (h : kD.K w d cs) : cs = dL d := by
  obtain ⟨c0, c1, e, h0, c2, c3, e1, h2, h3⟩ := h
  have h0' : c0 = [.bool d.1] := h0
  have h2' : c2 = [.int .i64 d.2.1] := h2
  have h3' : c3 = [slV d.2.2] := h3
  rw [e, h0', e1, h2', h3']
  rfl
theorem dL_one (d : Ce) : ∀ v ∈ dL d, v.oneCell' = true := by
  intro v hv
  simp only [dL, List.mem_cons, List.not_mem_nil, or_false] at hv
  rcases hv with rfl | rfl | rfl <;> rfl
def DE (w : World) (B : Nat) (d : Ce) (c : Ch) : Prop := d.1 = c.1 ∧ d.2.1 = c.2.1 ∧ ((c.1 = true ∧ c.2.2 = z32 ∧ d.2.2.2.1 = 0) ∨ (c.1 = false ∧ NB w B (slV d.2.2) c.2.2))
/-- A row of changes of one's own. -/
def DN (w : World) (B : Nat) (V : Value) (L : List Ch) : Prop := ∃ ds : List Ce, RD w B V ds ∧ ds.length = L.length ∧ ∀ (i : Nat) d c, ds[i]? = some d → L[i]? = some c → DE w B d c
/-- None of these blocks is of this type. -/
def NT (w : World) (S : Nat → Prop) (t : Nat) : Prop := ∀ j, S j → ∀ cells q, w.heap[j]? ≠ some (.cells cells t q)
section
variable {w w' : World} {B : Nat} {V V1 : Value} {L : List Ch} {S : Nat → Prop}
theorem NB.nt {xs : List Int} (h : NB w B V xs) (k : Chg w w' S) (hn : NT w S 5) : NB w' B V xs := h.chg k (fun j hj hs => by
  obtain ⟨c, e⟩ := h.typed j hj
  exact hn j hs _ _ e)
theorem DE.ext {d : Ce} {c : Ch} (h : DE w B d c) (he : Ext w w') : DE w' B d c := ⟨h.1, h.2.1, h.2.2.imp id (fun h => ⟨h.1, h.2.ext he⟩)⟩
theorem DE.nt {d : Ce} {c : Ch} (h : DE w B d c) (k : Chg w w' S) (hn : NT w S 5) : DE w' B d c := ⟨h.1, h.2.1, h.2.2.imp id (fun h => ⟨h.1, h.2.nt k hn⟩)⟩
theorem DN.nil (w : World) (B : Nat) : DN w B (.slice none 0 0) [] := ⟨[], Kd.R_nil _ _ _ _ _, rfl, fun i d c h => by simp at h⟩
theorem DN.ext (h : DN w B V L) (he : Ext w w') : DN w' B V L := by
  obtain ⟨ds, h1, h2, h3⟩ := h
  exact ⟨ds, Kd.R_below h1 he, h2, fun i d c hd hc => (h3 i d c hd hc).ext he⟩
theorem RD.typed {ds : List Ce} (h : RD w B V ds) : ∀ k, V.ownBlock = some k → ∃ cells, w.heap[k]? = some (.cells cells 34 (0, 0)) := Kd.R_typed h
theorem RD.chg {ds : List Ce} (h : RD w B V ds) (k : Chg w w' S) (hn : ∀ j, V.ownBlock = some j → ¬ S j) : RD w' B V ds := by
  have h1 := Kd.R_tight (d := kD) rfl h
  exact Kd.R_mono (Kd.R_step h1 (fun j hj hlt => k.block j hlt (hn j hj.symm))) (fun _ _ => trivial)
theorem RD.nt {ds : List Ce} (h : RD w B V ds) : NT w (fun j => V.ownBlock = some j) 5 := by
  intro j hj cells q e
  obtain ⟨c, e2⟩ := h.typed j hj
  rw [e2] at e
  injection e with e
  injection e with _ e
  cases e
theorem DN.typed (h : DN w B V L) : ∀ k, V.ownBlock = some k → ∃ cells, w.heap[k]? = some (.cells cells 34 (0, 0)) := by
  obtain ⟨ds, h1, h2, h3⟩ := h
  exact h1.typed
theorem DN.chg (h : DN w B V L) (k : Chg w w' S) (hn : ∀ j, V.ownBlock = some j → ¬ S j) (h5 : NT w S 5) : DN w' B V L := by
  obtain ⟨ds, h1, h2, h3⟩ := h
  exact ⟨ds, h1.chg k hn, h2, fun i d c hd hc => (h3 i d c hd hc).nt k h5⟩
theorem DN.nt (h : DN w B V L) (k : Chg w w' S) (h34 : NT w S 34) (h5 : NT w S 5) : DN w' B V L := h.chg k (fun j hj hs => by
  obtain ⟨c, e⟩ := h.typed j hj
  exact h34 j hs _ _ e) h5
theorem DN.nat (h : DN w B V L) {n : Nat} (hn : n = L.length) : ∃ A c, V = .slice A n c ∧ n ≤ c := by
  obtain ⟨ds, h1, h2, h3⟩ := h
  obtain ⟨A, c, e, hl, hc⟩ := Kd.R_reads h1
  exact ⟨A, c, by rw [e, h2, hn], by omega⟩
theorem DN.at {A : Option Addr} {n cp : Nat} (h : DN w B (.slice A n cp) L) (i : Nat) (c : Ch) (hc : L[i]? = some c) : ∃ b off s, A = some ⟨b, off, none⟩ ∧ w.rangeAt b (off + i * 3) [.bool c.1, .int .i64 c.2.1, slV s] ∧ ((c.1 = true ∧ c.2.2 = z32 ∧ s.2.1 = 0) ∨ (c.1 = false ∧ NB w B (slV s) c.2.2)) := by
  obtain ⟨ds, h1, h2, h3⟩ := h
  obtain ⟨A', c', e, hl, hC⟩ := Kd.R_reads h1
  injection e with e1 e2 e3
  subst e1
  have hi : i < ds.length := by have := (List.getElem?_eq_some_iff.1 hc).1; omega
  obtain ⟨b, off, cs, e, _, hK, hr⟩ := row_at hC (by decide) i hi ds[i] (List.getElem?_eq_getElem hi)
  obtain ⟨q1, q2, q3⟩ := h3 i ds[i] c (List.getElem?_eq_getElem hi) hc
  have := dL_K hK
  subst this
  refine ⟨b, off, ds[i].2.2, e, ?_, q3⟩
  rw [← q1, ← q2]
  exact hr
theorem DN.grow {ds : List Ce} {d : Ce} {c : Ch} (h2 : ds.length = L.length) (h3 : ∀ (i : Nat) d c, ds[i]? = some d → L[i]? = some c → DE w B d c) (k : Chg w w' S) (h5 : NT w S 5) (hR : RD w' B V1 (ds ++ [d])) (hd : DE w' B d c) : DN w' B V1 (L ++ [c]) := by
  refine ⟨ds ++ [d], hR, by simp [h2], fun i e q he hq => ?_⟩
  by_cases hi : i < ds.length
  · rw [List.getElem?_append_left hi] at he
    rw [List.getElem?_append_left (by omega)] at hq
    exact (h3 i e q he hq).nt k h5
  · have hi2 : i = ds.length := by have := (List.getElem?_eq_some_iff.1 he).1; simp at this; omega
    subst hi2
    have he' : e = d := by simpa using he.symm
    have hq' : q = c := by rw [h2] at hq; simpa using hq.symm
    subst he' hq'
    exact hd
theorem DN.lower {B' : Nat} (h : DN w B V L) (hb : B' ≤ B) : DN w B' V L := by
  obtain ⟨ds, h1, h2, h3⟩ := h
  exact ⟨ds, Kd.R_lower h1 hb, h2, fun i d c hd hc => by
    obtain ⟨q1, q2, q3⟩ := h3 i d c hd hc
    exact ⟨q1, q2, q3.imp id (fun h => ⟨h.1, h.2.lower hb⟩)⟩⟩
theorem AR.nt {ba n last : Nat} (h : AR w B ba n V L last) (t : Nat) (h1 : t ≠ 66) (h2 : t ≠ 71) : NT w (Ast ba V) t := by
  intro j hj cells q e
  rcases hj with rfl | hj
  · obtain ⟨cs, hB, _⟩ := h.av
    rw [hB.is] at e
    injection e with e
    injection e with _ e
    exact h1 e.symm
  · obtain ⟨c, e2⟩ := h.orr.typed j hj
    rw [e2] at e
    injection e with e
    injection e with _ e
    exact h2 e.symm
end
/-! Bytes made, and copied into. -/
theorem NB.made {w : World} {B b : Nat} (xs : List Int) (n : Nat) (hn : n = xs.length) (hl : n ≤ 1000000) (hb : Blk w b (u8s xs).toArray 5) (hB : B ≤ b) : NB w B (.slice (some ⟨b, 0, none⟩) n n) xs := by
  refine Kd.R_of_own (?_ : World.ownsRow w B 5 1 (.slice (some ⟨b, 0, none⟩) n n) xs.length (u8s xs)) (fun _ _ => trivial)
  refine ⟨by rw [u8s_len, Nat.mul_one], .inr ⟨b, n, _, by rw [hn], hB, hb.is, by omega, by simp only [maxLen]; omega, by rw [List.size_toArray, u8s_len, hn, Nat.mul_one], ?_⟩⟩
  exact List.take_of_length_le (by rw [u8s_len, Nat.mul_one]; exact Nat.le_refl _)
theorem made32 : madeCells #[.int .u8 0] 32 = (u8s z32).toArray := by kernel_rfl
theorem Wrote.refl (w : World) (b : Nat) : Wrote w w b := ⟨rfl, rfl, rfl, rfl, fun _ _ => rfl⟩
section
variable {w : World} {ops : Array Oper} {rest : List Oper} {o : Oper} {a : Act} {Q : Exit → Act → World → Prop}
theorem mk_at (hw : Region.wanted o (yielded ops a.tmps) = true) (x y : Operand) (ho : o.op = .makeSlice 31 x y) (hx : a.eval x = .int .i64 32) (hy : a.eval y = .int .i64 32)
    (h : ∀ w', Ext w w' → Blk w' w.heap.size (u8s z32).toArray 5 → wpList Try.prog ops Q rest (a.put o.dst (.slice (some ⟨w.heap.size, 0, none⟩) 32 32)) w') : wpList Try.prog ops Q (o :: rest) a w :=
  BigFrame.wpList_want hw fun K hK => by
    have hr := run_mk 32 (by decide) w
    rw [made32] at hr
    unfold Oper.wp execOp
    simp only [ho, hx, hy, Sem.run_bind]
    have hr' : (Instr.makeSlice 31 (.int .i64 32) (.int .i64 32)).run Try.prog w = _ := hr
    simp only [hr', Result.andThen_ok, Sem.run_pure]
    exact hK _ _ (h _ ((Ext.refl w).alloc _) (Blk.new _ _ _))
/-- copy into bytes made. -/
theorem copy_at (hw : Region.wanted o (yielded ops a.tmps) = true) (dd ss : Operand) (ho : o.op = .call { callee := .builtin .copy, args := #[dd, ss], argTypes := #[31, 31] }) (b n c k : Nat) (zs xs : List Int) (A : Option Addr)
    (hd : a.eval dd = .slice (some ⟨b, 0, none⟩) k k) (hs : a.eval ss = .slice A n c) (hk : k = zs.length) (hb : Blk w b (u8s zs).toArray 5) (hr : Kd.C kb w A n xs)
    (h : ∀ v w' ys, ys.length = zs.length → Wrote w w' b → Blk w' b (u8s ys).toArray 5 → wpList Try.prog ops Q rest (a.put o.dst v) w') : wpList Try.prog ops Q (o :: rest) a w :=
  BigFrame.wpList_want hw fun K hK => by
    have key : ∃ v w' ys, (Builtin.copy_ #[31, 31] o.type #[.slice (some ⟨b, 0, none⟩) k k, .slice A n c]).run Try.prog w = .ok v w' ∧ ys.length = zs.length ∧ Wrote w w' b ∧ Blk w' b (u8s ys).toArray 5 := by
      have hn : n = xs.length := hr.1.symm
      obtain ⟨ys, hys⟩ : ∃ ys, ys = xs.take (Nat.min n k) := ⟨_, rfl⟩
      have hyl : ys.length = Nat.min n k := by
        rw [hys, List.length_take, hn]
        exact Nat.min_eq_left (Nat.min_le_left _ _)
      have hfit : 0 + (u8s ys).length ≤ (u8s zs).toArray.size := by
        rw [u8s_len, List.size_toArray, u8s_len, hyl, ← hk, Nat.zero_add]
        exact Nat.min_le_right _ _
      obtain ⟨w2, e2, hw2, hb2⟩ := setRow_splice hb 0 (u8s ys)
      have hsp : splice (u8s zs).toArray 0 (u8s ys) = (u8s (ys ++ zs.drop ys.length)).toArray := by
        unfold splice
        simp [u8s, List.map_drop]
      rw [hsp] at hb2
      have hlen : (ys ++ zs.drop ys.length).length = zs.length := by
        rw [List.length_append, List.length_drop]
        have : ys.length ≤ zs.length := by rw [hyl, ← hk]; exact Nat.min_le_right _ _
        omega
      rcases Nat.eq_zero_or_pos n with h0 | h0
      · exact ⟨_, w, zs, run_copy_none w 31 31 _ 5 _ _ k k n c Try.underlying31 (by kernel_rfl) (by rw [h0]; exact Nat.zero_min _), rfl, Wrote.refl w b, hb⟩
      · obtain ⟨ad, hA, hcell⟩ := u8_cells hr h0
        subst hA
        refine ⟨_, _, _, run_copy_row Try.prog w 31 31 _ 5 b 0 k k ad n c _ 5 (u8s ys) Try.underlying31 (by kernel_rfl) hb.is (by rw [u8s_len, hyl]) (fun j v hv => hcell j v ?_) hfit (fun v hv => one_u8 ys v (by simpa using hv)), hlen, ?_, ?_⟩
        · rw [hys] at hv
          unfold u8s at hv ⊢
          rw [List.map_take] at hv
          rw [List.getElem?_take] at hv
          split at hv
          · exact hv
          · cases hv
        · rw [← e2]; exact hw2
        · rw [← e2]; exact hb2
    obtain ⟨v, w', ys, hrun, h1, h2, h3⟩ := key
    unfold Oper.wp execOp
    simp only [ho, resolve, invoke, builtin, Sem.run_bind, Sem.run_pure, Result.andThen_ok, List.map_toArray, List.map_cons, List.map_nil, hd, hs, hrun]
    exact hK _ _ (h v w' ys h1 h2 h3)
end
end Go.Proofs.Ytielnpmnnifjcaa.By
