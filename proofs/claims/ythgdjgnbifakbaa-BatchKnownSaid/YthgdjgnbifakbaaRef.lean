/- The contracts of the document's putting functions of layer 9. -/
import Derived.Test.YthgdjgnbifakbaaPack
namespace Go.Proofs.Ythgdjgnbifakbaa.By
open Go.RowKit Go.Proofs.Ythgdjgnbifakbaa.Reg Go.Proofs.YthgdjgnbifakbaaW.PrintWords Go.Proofs.YthgdjgnbifakbaaW.PrintLast Go.Proofs.YthgdjgnbifakbaaW.PrintMore
set_option linter.unusedVariables false

theorem rint_step (k : Nat) (L : List Int) (u j : Int) (h0 : 0 ≤ j) (h1 : j ≤ 7) (hL : L.length < 140737488355328) : PPackPuts.rillref09_Int.l0 (k + 1) L u j = PPackPuts.rillref09_Int.l0 k (L ++ [u / 2 ^ (8 * j).toNat % 256]) u (j - 1) := by
  have e1 : wrap64 (8 * j) = 8 * j := wrap64_in (by omega) (by omega)
  have e2 : IntKind.u64.wrap (8 * j) = 8 * j := by rw [IntKind.wrap_u64]; omega
  simp only [PPackPuts.rillref09_Int.l0]
  rw [if_pos (by omega), e1, e2, if_pos (by omega), if_pos hL, wrap64_in (x := j - 1) (by omega) (by omega)]
  unfold shr
  rw [Nat.min_eq_left (by show _ ≤ 64; omega)]
theorem rint_eq (k : Nat) (l : List Int) (v : Int) (hl : l.length + 8 < 140737488355328) : PPackPuts.rillref09_Int.f (k + 9) l v = some (l ++ be8 v) := by
  unfold PPackPuts.rillref09_Int.f
  simp only [Option.bind_some, List.nil_append, List.length_nil]
  rw [if_pos (by omega)]
  rw [rint_step (k + 8) _ _ 7 (by omega) (by omega) (by omega), rint_step (k + 7) _ _ (7 - 1) (by omega) (by omega) (by simp; omega), rint_step (k + 6) _ _ (7 - 1 - 1) (by omega) (by omega) (by simp; omega), rint_step (k + 5) _ _ (7 - 1 - 1 - 1) (by omega) (by omega) (by simp; omega),
    rint_step (k + 4) _ _ (7 - 1 - 1 - 1 - 1) (by omega) (by omega) (by simp; omega), rint_step (k + 3) _ _ (7 - 1 - 1 - 1 - 1 - 1) (by omega) (by omega) (by simp; omega), rint_step (k + 2) _ _ (7 - 1 - 1 - 1 - 1 - 1 - 1) (by omega) (by omega) (by simp; omega), rint_step (k + 1) _ _ (7 - 1 - 1 - 1 - 1 - 1 - 1 - 1) (by omega) (by omega) (by simp; omega)]
  simp only [PPackPuts.rillref09_Int.l0]
  rw [if_neg (by omega)]
  simp only [List.append_assoc, List.cons_append, List.nil_append]
  congr 2
  unfold be8
  simp
theorem rint_calls (w : World) (A : Option Addr) (c : Nat) (xs : List Int) (v : Int) (hr : Kd.C kb w A xs.length xs) (hc : xs.length ≤ c) (hl : xs.length + 8 < 140737488355328) :
    Calls Try.prog 22 #[.slice A xs.length c, .int .i64 v] w fun e w' => ∃ V, e = .returned V ∧ NB w' w.heap.size V (xs ++ be8 v) ∧ Ext w w' :=
  PPackPuts.rillref09_Int.calls (0 + 9) A c xs v _ w hr hc (rint_eq 0 xs v hl)

theorem NB_empty (w : World) (base : Nat) (hb : base ≤ w.heap.size) : NB (w.alloc (.cells #[] 5)) base (.slice (some ⟨w.heap.size, 0, none⟩) 0 0) [] :=
  ⟨fun _ _ => trivial, [], ⟨by simp, .inr ⟨w.heap.size, 0, #[], rfl, hb, (Blk.new w #[] 5).is, Nat.le_refl _, by simp [maxLen], by simp, by simp⟩⟩, by simp [Reps]⟩
theorem NB.own {w : World} {B : Nat} {V : Value} {xs : List Int} (h : NB w B V xs) (k : Nat) (hk : V.ownBlock = some k) : B ≤ k := own_base (Kd.own_of_R h) k hk
theorem nums_cell (s : List Int) (i : Nat) (h : i < s.length) : (nums .u8 s).toArray[i]? = some (.int .u8 (rd s i)) := by
  simp only [nums, List.getElem?_toArray, List.getElem?_map, rd, Int.toNat_natCast, List.getD_eq_getElem?_getD, List.getElem?_eq_getElem h]
  rfl
theorem take_rd (s : List Int) (i : Int) (h0 : 0 ≤ i) (h1 : i < s.length) : s.take (i + 1).toNat = s.take i.toNat ++ [rd s i] := by
  have h : i.toNat < s.length := by omega
  rw [show (i + 1).toNat = i.toNat + 1 by omega, List.take_succ_eq_append_getElem h]
  unfold rd
  rw [List.getD_eq_getElem?_getD, List.getElem?_eq_getElem h]
  rfl

set_option maxHeartbeats 2000000 in
theorem rsum_calls (w : World) (A : Option Addr) (c : Nat) (xs s : List Int) (hs : s.length = 32) (hr : Kd.C kb w A xs.length xs) (hc : xs.length ≤ c) (hl : xs.length + 32 ≤ 140737488355328) :
    Calls Try.prog 23 #[.slice A xs.length c, sumV s] w fun e w' => ∃ V, e = .returned V ∧ NB w' w.heap.size V (xs ++ s) ∧ Ext w w' := by
  have HR := Aside0.mk hr
  have HS := Aside0.mk hs
  clear hr hs
  unfold sumV
  have hb := (Blk.new w (nums .u8 s).toArray 24).alloc (.cells #[] 5)
  have hE0 := ((Ext.refl w).alloc (.cells (nums .u8 s).toArray 24)).alloc (.cells #[] 5)
  have hs1 := size_alloc w (.cells (nums .u8 s).toArray 24)
  have hN0 := NB_empty (w.alloc (.cells (nums .u8 s).toArray 24)) (w.heap.size + 1) (by omega)
  rw [hs1] at hN0
  have hB0 : Below (w.heap.size + 1) (w.alloc (.cells (nums .u8 s).toArray 24)) ((w.alloc (.cells (nums .u8 s).toArray 24)).alloc (.cells #[] 5)) := by
    have := (Ext.refl (w.alloc (.cells (nums .u8 s).toArray 24))).alloc (.cells #[] 5)
    unfold Ext at this
    rwa [hs1] at this
  have HN0 := Aside0.mk hN0
  have HB0 := Aside0.mk hB0
  have HE0 := Aside0.mk hE0
  clear hN0 hB0 hs1 hE0
  go_enter Try.func23, Try.ntmps23
  go_wp2_with (at_builtin; refine Kd.R_append_rows kb (Rr := kb.K w) (w0 := (w.alloc (.cells (nums .u8 s).toArray 24))) (w.heap.size + 1) rfl (.tmp 7) (.tmp 8) 22 5 _ 1 rfl Try.underlying22 PPackPuts.info5 rfl (by decide) (by decide) _ [] xs A xs.length c (fun _ => True) (fun _ => False) rfl rfl HN0.out ?c1 kb_KM (fun _ h => h.elim) (fun _ _ => trivial) HB0.out ?c2 ?c3 ?_)
  case c1 => exact Kd.C_below HR.out HE0.out
  case c2 => simp
  case c3 => simp; omega
  intro v1 w1 hR1 hB1 hg1 hat1
  replace hR1 : NB w1 (w.heap.size + 1) v1 xs := hR1
  have hb1 : Blk w1 w.heap.size (nums .u8 s).toArray 24 := ⟨(hg1.block _ hb.lt (by show some w.heap.size ≠ some (w.heap.size + 1); simp)).trans hb.is⟩
  have hE1 : Ext w w1 := ⟨hB1.os, hB1.tape, hB1.output, Nat.le_trans (by simp) hB1.size, fun k hk => (hB1.block k (by omega)).trans (by show (w.heap.push _)[k]? = _; rw [Array.getElem?_push, if_neg (by omega)])⟩
  have HR1 := Aside0.mk hR1
  clear hR1 hg1 hat1 HN0 HB0 HE0 hb hB1
  go_wp2
  go_loopw [5, 6] (fun v i wr => ∃ x : Int, i = .int .i64 x ∧ Aside0 (0 ≤ x ∧ x ≤ 32) ∧ Aside0 (NB wr (w.heap.size + 1) v (xs ++ s.take x.toNat)) ∧ Blk wr w.heap.size (nums .u8 s).toArray 24 ∧ Ext w wr) (fun _ i _ => 32 - (intOf i).toNat)
  case atStart => exact ⟨0, rfl, ⟨by omega, by omega⟩, ⟨by simpa using HR1.out⟩, hb1, hE1⟩
  case round =>
    clear HR1 hb1 hE1
    obtain ⟨x, rfl, HX, HN, hb, hE⟩ := hrel
    obtain ⟨hx0, hx1⟩ := HX.out
    by_cases hlt : x < 32
    · have hcell := hb.cell x.toNat (nums_cell s x.toNat (by have := HS.out; omega))
      rw [Int.toNat_of_nonneg hx0] at hcell
      have HL := Aside0.mk hlt
      have hsz1 : w.heap.size + 1 ≤ wr.heap.size := by
        have := hE.size
        have := hb.lt
        exact Nat.lt_of_lt_of_le (Nat.lt_succ_self _) hb.lt
      obtain ⟨wx, hwx⟩ : ∃ wx : World, wx = wr := ⟨_, rfl⟩
      subst hwx
      have hE2 : Ext w (wx.alloc (.cells #[.int .u8 (rd s x)] 5)) := hE.alloc _
      have hb2 := hb.alloc (.cells #[.int .u8 (rd s x)] 5)
      go_wp2_with (at_builtin; go_loud (refine Kd.R_append kb (w0 := wx) (w.heap.size + 1) rfl (.tmp 14) (.tmp 18) 22 5 _ 1 rfl Try.underlying22 PPackPuts.info5 rfl (by decide) (by decide) u5 (xs ++ s.take x.toNat) (rd s x) [.int .u8 (rd s x)] (fun _ => True) (fun _ => False) rfl rfl ?c1 (fun _ h => h.elim) (fun _ _ => trivial) HN.out ?c2 ?c3 ?c4 ?_))
      case c1 => exact rfl
      case c2 => exact ⟨rfl, rfl, rfl, Nat.le_refl _, fun _ _ => rfl⟩
      case c3 => exact hsz1
      case c4 => simp only [List.length_append, List.length_take]; have := HS.out; omega
      intro v1' w1' hR' hB' hg' hat'
      clear hg' hat'
      replace hR' : NB w1' (w.heap.size + 1) v1' (xs ++ (s.take x.toNat ++ [rd s x])) := hR'
      rw [← take_rd s x hx0 (by have := HS.out; omega)] at hR'
      have hb3 := hb.below (Nat.lt_succ_self _) hB'
      have hE3 : Ext w w1' := ⟨hB'.os.trans hE.os, hB'.tape.trans hE.tape, hB'.output.trans hE.output, Nat.le_trans hE.size hB'.size, fun k hk => (hB'.block k (Nat.lt_succ_of_lt hk)).trans (hE.block k hk)⟩
      have HN' := Aside0.mk hR'
      clear hR' hB' hb2 hE2 HN
      go_wp2
      go_roundw
      case rel => exact ⟨x + 1, rfl, ⟨by omega, by omega⟩, HN', hb3, hE3⟩
      case measure => simp only [intOf]; omega
    · have hx : x = 32 := by omega
      subst hx
      have HN' : Aside0 (NB wr (w.heap.size + 1) u5 (xs ++ s)) := ⟨by have := HN.out; rwa [List.take_of_length_le (by rw [HS.out]; decide)] at this⟩
      clear HN
      go_wp2
      go_ret
      exact ⟨u5, rfl, NB.lower HN'.out (Nat.le_succ _), hE⟩
theorem rsum_at (w : World) (A : Option Addr) (c n : Nat) (xs s : List Int) (S : Value) (hn : n = xs.length) (hS : S = sumV s) (hs : s.length = 32) (hr : Kd.C kb w A xs.length xs) (hc : xs.length ≤ c) (hl : xs.length + 32 ≤ 140737488355328) :
    Calls Try.prog 23 #[.slice A n c, S] w fun e w' => ∃ V, e = .returned V ∧ NB w' w.heap.size V (xs ++ s) ∧ Ext w w' := by
  subst hn; subst hS
  exact rsum_calls w A c xs s hs hr hc hl

set_option maxHeartbeats 2000000 in
theorem rref_calls (w : World) (A : Option Addr) (c : Nat) (xs s : List Int) (a : Int) (hs : s.length = 32) (hr : Kd.C kb w A xs.length xs) (hc : xs.length ≤ c) (hl : xs.length + 40 ≤ 140737488355328) :
    Calls Try.prog 24 #[.slice A xs.length c, refV a s] w fun e w' => ∃ V, e = .returned V ∧ NB w' w.heap.size V (xs ++ refB a s) ∧ Ext w w' := by
  have HR := Aside0.mk hr
  have HS := Aside0.mk hs
  clear hr hs
  unfold refV
  go_enter Try.func24, Try.ntmps24
  go_wp2_with fail
  have hb := refBlk (Blk.new w (refC a s).toArray 26)
  have hE0 := (Ext.refl w).alloc (.cells (refC a s).toArray 26)
  generalize w.alloc (.cells (refC a s).toArray 26) = w1 at *
  obtain ⟨hb0, hb1⟩ := hb
  have HB1 := Aside0.mk hb1
  have HR1 := Aside0.mk (Kd.C_below HR.out hE0)
  clear hb1
  apply wp_region_facts 8 [RF.val _, RF.val _, RF.val _, RF.fact (fun u W => NB W w1.heap.size u (xs ++ be8 a)), RF.val _, RF.val (sumV s), RF.fact (fun u W => NB W w1.heap.size u (xs ++ refB a s)), RF.fact (fun u W => NB W w1.heap.size u (xs ++ refB a s))] (by kernel_rfl) (by kernel_rfl)
  simp only [List.take_succ_cons, List.take_zero, List.zip_cons_cons, List.zip_nil_left]
  iterate 3 (apply wpF_val rfl; (intro w' hE hD; have e0 := Ext.cell (w := w1) hE hb0; unfold Yld; go_simp; exact ⟨Ext.refl _, rfl⟩); (try simp only [Act.put, List.setIfInBounds_toArray, List.set_cons_zero, List.set_cons_succ]))
  refine wpF_fact rfl (fun u W W' h he => NB.ext h he) ?_ ?_
  · intro w' hE hD
    unfold Yld
    go_simp
    exact (rint_calls w' A c xs a (Kd.C_below HR1.out hE) hc (by omega)).mono fun e w2 ⟨V, h1, h2, h3⟩ => ⟨V, h1, h3, NB.lower h2 hE.size⟩
  intro u
  (try simp only [Act.put, List.setIfInBounds_toArray, List.set_cons_zero, List.set_cons_succ])
  apply wpF_val rfl; (intro w' hE hD; unfold Yld; go_simp; exact ⟨Ext.refl _, rfl⟩); (try simp only [Act.put, List.setIfInBounds_toArray, List.set_cons_zero, List.set_cons_succ])
  refine wpF_val rfl (fun w' hE hD => Yld_load 24 (.tmp 9) rfl w.heap.size 1 rfl (nums .u8 s) _ (rangeAt_ext HB1.out hE) Try.underlying24 rfl (by rw [nums_length, HS.out]; kernel_rfl)) ?_
  (try simp only [Act.put, List.setIfInBounds_toArray, List.set_cons_zero, List.set_cons_succ])
  refine wpF_fact rfl (fun u W W' h he => NB.ext h he) ?_ ?_
  · intro w' hE hD
    have hN := hD.1 (by kernel_rfl)
    obtain ⟨A1, c1, rfl, hl1, hC1⟩ := NB.reads hN
    unfold Yld
    go_simp
    exact (rsum_at w' A1 c1 _ (xs ++ be8 a) s _ (by simp) rfl HS.out hC1 hl1 (by simp [be8_length]; omega)).mono fun e w2 ⟨V, h1, h2, h3⟩ => ⟨V, h1, h3, by rw [List.append_assoc] at h2; exact NB.lower h2 hE.size⟩
  intro u2
  (try simp only [Act.put, List.setIfInBounds_toArray, List.set_cons_zero, List.set_cons_succ])
  refine wpF_fact rfl (fun u W W' h he => NB.ext h he) ?_ ?_
  · intro w' hE hD
    have hN := hD.2.1 (by kernel_rfl)
    unfold Yld
    go_simp
    exact ⟨Ext.refl _, hN⟩
  intro u3
  (try simp only [Act.put, List.setIfInBounds_toArray, List.set_cons_zero, List.set_cons_succ])
  refine wpF_nil fun w' hE hA => ?_
  have hN := hA.2.2.1
  have hE1 := hE0.trans hE
  refine wpList_nil ?_
  have HN := Aside0.mk (NB.lower hN hE0.size)
  clear hA hN hE hE0
  go_wp2
  go_ret
  exact ⟨u3, rfl, HN.out, hE1⟩
end Go.Proofs.Ythgdjgnbifakbaa.By
