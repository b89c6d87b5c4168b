/- The document's step over a row: rillref01.take. -/
import Derived.Test.YtbnbncnmhhioeaaDoorSPure
import Derived.Test.YtbnbncnmhhioeaaDoorRegC
namespace Go.Proofs.YtbnbncnmhhioeaaDoor.By
open Go.RowKit Go.Proofs.YtbnbncnmhhioeaaDoor.Reg Go.Proofs.YtbnbncnmhhioeaaDoorW.PrintWords Go.Proofs.YtbnbncnmhhioeaaDoorW.PrintLast Go.Proofs.YtbnbncnmhhioeaaDoorW.PrintMore
set_option linter.unusedVariables false

abbrev ku : Kd Int := Kd.int .u32
/-- Numbers that the call has made itself, from block B on. -/
abbrev NU (w : World) (B : Nat) (V : Value) (xs : List Int) : Prop := Kd.R ku 39 w B (fun _ => True) V xs
theorem ku_KM {w W : World} {base : Nat} {ok : Nat → Prop} (x : Int) (cs : List Value) (h : ku.K w x cs) : ku.M W base ok x cs := h
theorem NU_empty (W : World) (B : Nat) (hB : B ≤ W.heap.size) : NU (W.alloc (.cells #[] 39)) B (.slice (some ⟨W.heap.size, 0, none⟩) 0 0) [] :=
  ⟨fun _ _ => trivial, [], ⟨by simp, .inr ⟨W.heap.size, 0, #[], rfl, hB, (Blk.new W _ 39).is, Nat.le_refl _, by simp only [maxLen]; omega, by simp, by simp⟩⟩, by simp [Reps]⟩
theorem words_at (w : World) (A : Option Addr) (c : Nat) (b : List Int) (hl : b.length = 64) (hr : Kd.C kb w A 64 b) (hc : 64 ≤ c) :
    Calls Tryd.prog 41 #[.slice A 64 c] w fun e w' => ∃ ad2 c2, e = .returned (.slice (some ad2) 64 c2) ∧ 64 ≤ c2 ∧ Kd.C ku w' (some ad2) 64 (wordsF b) ∧ Ext w w' := by
  have hWL : (wordsF b).length = 64 := by unfold wordsF; rw [wordsA_length, first16_length]
  have hh := words_eq b hl
  generalize wordsF b = W at *
  obtain ⟨n, hn⟩ : ∃ n, n = b.length := ⟨_, rfl⟩
  rw [show 64 = n by rw [hn, hl]] at hr hc ⊢
  subst hn
  refine (PShaAdds.rillref01_words.calls 100 A c b W w hr hc hh).mono fun e w1 h => ?_
  obtain ⟨V5, rfl, hV5, hB1⟩ := h
  obtain ⟨A2, c2, rfl, hc2, hC2⟩ := Kd.R_reads hV5
  have e64 : W.length = b.length := by rw [hWL, hl]
  rw [e64] at hc2 hC2 ⊢
  obtain ⟨ad2, eA2, _⟩ := at_k hC2 0 (by decide) (by rw [hl]; decide)
  subst eA2
  exact ⟨ad2, c2, rfl, hc2, hC2, hB1⟩
theorem ku_range {w : World} {A : Option Addr} {n : Nat} {xs : List Int} (h : Kd.C ku w A n xs) (hp : 0 < n) : ∃ b off, A = some ⟨b, off, none⟩ ∧ w.rangeAt b off (nums .u32 xs) := by
  obtain ⟨ad, rfl, hc⟩ := h.2.2 hp
  have key : ∀ j (p : Int), xs[j]? = some p → w.cell? (ad.add j) = some (.int .u32 p) := by
    intro j p hj
    obtain ⟨cs, h1, h2, h3⟩ := hc j p hj
    have h2' : cs = [.int .u32 p] := h2
    subst h2'
    have := h3 0 _ rfl
    rwa [show j * ku.sz + 0 = j by show j * 1 + 0 = j; omega] at this
  have hs : ad.spot = none := by
    have hl : 0 < xs.length := by rw [h.1]; exact hp
    have := key 0 _ (List.getElem?_eq_getElem hl)
    cases hsp : ad.spot with
    | none => rfl
    | some s =>
      exfalso
      simp only [Addr.add, World.cell?] at this
      simp [hsp] at this
      split at this <;> cases this
  obtain ⟨b, off, sp⟩ := ad
  subst hs
  refine ⟨b, off, rfl, fun j v hv => ?_⟩
  simp only [nums, List.getElem?_map] at hv
  obtain ⟨p, hp', rfl⟩ := Option.map_eq_some_iff.1 hv
  have := key j p hp'
  unfold Addr.add at this
  split at this
  · rename_i h0
    simpa [h0] using this
  · exact this
theorem ad_assoc (a b c : Int) : ad (ad a b) c = ad a (ad b c) := by unfold ad; omega
/-- append of one number. -/
theorem run_app (W : World) (B : Nat) (V : Value) (xs : List Int) (v : Int) (AD : Addr) (ty : TypeId) (hO : NU W B V xs) (hc : W.cell? AD = some (.int .u32 v)) (hB : B ≤ W.heap.size) (hl : xs.length ≤ 1000) :
    ∃ V1 w1, (Builtin.append_ #[49, 49] ty #[V, .slice (some AD) 1 1]).run Tryd.prog W = .ok V1 w1 ∧ NU w1 B V1 (xs ++ [v]) ∧ W.grownBy w1 V.ownBlock := by
  obtain ⟨h0, inner, hown, hr⟩ := hO
  obtain ⟨i0, hi0, hz0, hsz, hby⟩ := info_parts PShaAdds.info39
  obtain ⟨V1, w1, h1, h2, h3, _, h5⟩ := run_append_own_at (P := Tryd.prog) W B 49 ty 39 i0 (.int .u32 0) 1 4 Tryd.underlying49 hi0 hz0 hsz hby rfl (by decide) V xs.length inner hown AD 1 1 [.int .u32 v] rfl (fun j u hj => by
    match j, hj with
    | 0, hj => rw [show u = .int .u32 v from (Option.some.inj hj).symm]; rw [show AD.add 0 = AD by simp [Addr.add]]; exact hc) (fun u hu => by rw [List.mem_singleton.1 hu]; rfl) (by simp only [maxLen]; omega) (by omega) hB
  refine ⟨V1, w1, h1, Kd.R_appended (d := ku) (okp := fun _ => False) h0 hr (show ku.M W B _ v [.int .u32 v] from rfl) (fun _ h => h.elim) (fun _ _ => trivial) h2 h3 ?_, h3⟩
  rcases h5 with h | h
  · exact .inl h
  · exact .inr ⟨_, h, Nat.le_refl _⟩
theorem YldG_append {g : World → World → Prop} {W : World} {o : Oper} {a : Act} (ss x : Operand) (ho : o.op = .call { callee := .builtin .append, args := #[ss, x], argTypes := #[49, 49] }) (V : Value) (AD : Addr) (hs : a.eval ss = V) (hx : a.eval x = .slice (some AD) 1 1)
    (B : Nat) (xs : List Int) (v : Int) (hO : NU W B V xs) (hc : W.cell? AD = some (.int .u32 v)) (hB : B ≤ W.heap.size) (hl : xs.length ≤ 1000) (hg : ∀ w1, W.grownBy w1 V.ownBlock → g W w1) :
    YldG g Tryd.prog o a W (.fact true fun u w1 => NU w1 B u (xs ++ [v])) := by
  obtain ⟨V1, w1, h1, h2, h3⟩ := run_app W B V xs v AD o.type hO hc hB hl
  unfold YldG execOp
  simp only [ho, resolve, invoke, builtin, Sem.run_bind, Sem.run_pure, Result.andThen_ok, List.map_toArray, List.map_cons, List.map_nil, hs, hx, h1]
  exact ⟨hg w1 h3, h2⟩
set_option maxRecDepth 100000 in
set_option maxHeartbeats 16000000 in
theorem rtake_calls (w : World) (s : S8) (A0 : Option Addr) (c0 : Nat) (A : Option Addr) (c : Nat) (b : List Int) (hl : b.length = 64) (hr0 : Kd.C ku w A0 8 s.l) (hc0 : 8 ≤ c0) (hr : Kd.C kb w A 64 b) (hc : 64 ≤ c) (hT : Tab 0 w) :
    Calls Tryd.prog 36 #[.slice A0 8 c0, .slice A 64 c] w fun e w' => ∃ V, e = .returned V ∧ NU w' w.heap.size V (takeF s b).l ∧ Ext w w' := by
  have HR0 := Aside0.mk hr0
  have HR := Aside0.mk hr
  have HT := Aside0.mk hT
  have HL := Aside0.mk hl
  clear hr0 hr hT hl
  go_enter Tryd.func36, Tryd.ntmps36
  go_wp2_with fail
  refine (words_at w A c b HL.out HR.out hc).mono ?_
  rintro e w1 ⟨ad2, c2, rfl, hc2, hC2, hE1⟩
  have hWL : (wordsF b).length = 64 := by unfold wordsF; rw [wordsA_length, first16_length]
  obtain ⟨W, hW⟩ : ∃ W, W = wordsF b := ⟨_, rfl⟩
  rw [← hW] at hC2 hWL
  have HW := Aside0.mk hW
  have HWL := Aside0.mk hWL
  have HE1 := Aside0.mk hE1
  have HC2 := Aside0.mk hC2
  have HR01 := Aside0.mk (Kd.C_below HR0.out hE1)
  have HE0 := Aside0.mk ((Ext.refl w1).alloc (.cells #[] 39))
  have HN0 := Aside0.mk (NU_empty w1 w1.heap.size (Nat.le_refl _))
  have HB0 : Aside0 (Below w1.heap.size w1 (w1.alloc (.cells #[] 39))) := ⟨HE0.out⟩
  clear hW hWL hE1 hC2
  go_wp2_with (at_builtin; refine Kd.R_append_rows ku (Rr := ku.K w1) (w0 := w1) w1.heap.size rfl (.tmp 17) (.tmp 18) 49 39 _ 4 rfl Tryd.underlying49 PShaAdds.info39 rfl (by decide) (by decide) _ [] s.l A0 8 c0 (fun _ => True) (fun _ => False) rfl rfl HN0.out ?c1 ku_KM (fun _ h => h.elim) (fun _ _ => trivial) HB0.out ?c2 ?c3 ?_)
  case c1 => exact Kd.C_below HR01.out HE0.out
  case c2 => simp
  case c3 => simp
  intro v1 w2 hR1 hB1 hg1 hat1
  replace hR1 : NU w2 w1.heap.size v1 s.l := hR1
  obtain ⟨A1, c1, rfl, hc1, hC1⟩ := Kd.R_reads hR1
  have HC1 := Aside0.mk (show Kd.C ku w2 A1 8 s.l from hC1)
  have hE2 : Ext w1 w2 := hB1
  have HE2 := Aside0.mk hE2
  have hc1' : 8 ≤ c1 := hc1
  clear hR1 hB1 hg1 hat1 HN0 HB0 HE0 hC1 hE2 hc1
  go_wp2_with fail
  go_loopw [6, 7] (fun V i wr => ∃ x : Int, i = .int .i64 x ∧ Aside0 (0 ≤ x ∧ x ≤ 64) ∧ (∃ bx ox c1, V = .slice (some ⟨bx, ox, none⟩) 8 c1 ∧ 8 ≤ c1 ∧ Aside0 (wr.rangeAt bx ox (nums .u32 (rounds W x.toNat s).l))) ∧ Aside0 (Ext w1 wr)) (fun _ i _ => 64 - (intOf i).toNat)
  case atStart =>
    obtain ⟨bx, ox, eA1, hrg⟩ := ku_range HC1.out (by decide)
    subst eA1
    exact ⟨0, rfl, ⟨by decide⟩, ⟨bx, ox, c1, rfl, hc1', ⟨hrg⟩⟩, HE2⟩
  case round =>
    clear HC1 HE2 hc1'
    obtain ⟨x, rfl, HX, ⟨bx, ox, c1, rfl, hc1, HC1⟩, HE⟩ := hrel
    obtain ⟨g0, g1⟩ := HX.out
    obtain ⟨wx, hwx⟩ : ∃ wx : World, wx = wr := ⟨_, rfl⟩
    subst hwx
    by_cases hlt : x < 64
    · have hstep : rounds W (x + 1).toNat s = step (rd kL x) (rd W x) (rounds W x.toNat s) := by
        rw [show (x + 1).toNat = x.toNat + 1 by omega]
        show step (rd kL (x.toNat : Int)) (rd W (x.toNat : Int)) (rounds W x.toNat s) = _
        rw [Int.toNat_of_nonneg g0]
      generalize rounds W x.toNat s = R at hstep HC1
      have HRN := Aside0.mk hstep
      have HLT := Aside0.mk hlt
      have HX0 := Aside0.mk (show wx.cell? ⟨bx, ox, none⟩ = some (.int .u32 R.a) from HC1.out 0 _ rfl)
      have HX1 := Aside0.mk (show wx.cell? ⟨bx, ox + 1, none⟩ = some (.int .u32 R.b) from HC1.out 1 _ rfl)
      have HX2 := Aside0.mk (show wx.cell? ⟨bx, ox + 2, none⟩ = some (.int .u32 R.c) from HC1.out 2 _ rfl)
      have HX3 := Aside0.mk (show wx.cell? ⟨bx, ox + 3, none⟩ = some (.int .u32 R.d) from HC1.out 3 _ rfl)
      have HX4 := Aside0.mk (show wx.cell? ⟨bx, ox + 4, none⟩ = some (.int .u32 R.e) from HC1.out 4 _ rfl)
      have HX5 := Aside0.mk (show wx.cell? ⟨bx, ox + 5, none⟩ = some (.int .u32 R.f) from HC1.out 5 _ rfl)
      have HX6 := Aside0.mk (show wx.cell? ⟨bx, ox + 6, none⟩ = some (.int .u32 R.g) from HC1.out 6 _ rfl)
      have HX7 := Aside0.mk (show wx.cell? ⟨bx, ox + 7, none⟩ = some (.int .u32 R.h) from HC1.out 7 _ rfl)
      have HCK := Aside0.mk (show wx.cell? ⟨0, x.toNat, none⟩ = some (.int .u32 (rd kL x)) by have h := (HT.out.ext (HE1.out.trans HE.out)) x.toNat (by omega); rwa [Int.toNat_of_nonneg g0] at h)
      have HCW := Aside0.mk (show wx.cell? (ad2.add x.toNat) = some (.int .u32 (rd W x)) by
        obtain ⟨ad3, e3, h3⟩ := at_k (Kd.C_below HC2.out HE.out) x g0 (by omega)
        rw [Option.some.inj e3]; exact h3)
      clear hstep HC1
      go_wp2_with fail
      apply wp_region_facts 14 [RF.val (.slice (some ⟨bx, ox, none⟩) 8 c1), RF.val (.pointer (some (⟨bx, ox + 4, none⟩))), RF.val (.int .u32 R.e), RF.val (.int .u32 (rotF 6 R.e)), RF.val (.slice (some ⟨bx, ox, none⟩) 8 c1), RF.val (.pointer (some (⟨bx, ox + 4, none⟩))), RF.val (.int .u32 R.e), RF.val (.int .u32 (rotF 11 R.e)), RF.val (.int .u32 (xr (rotF 6 R.e) (rotF 11 R.e))), RF.val (.slice (some ⟨bx, ox, none⟩) 8 c1), RF.val (.pointer (some (⟨bx, ox + 4, none⟩))), RF.val (.int .u32 R.e), RF.val (.int .u32 (rotF 25 R.e)), RF.val (.int .u32 (xr (xr (rotF 6 R.e) (rotF 11 R.e)) (rotF 25 R.e)))] (by kernel_rfl) (by kernel_rfl)
      simp only [List.take_succ_cons, List.take_zero, List.zip_cons_cons, List.zip_nil_left]
      (first | apply wpF_val rfl | apply wpF_valg (by rfl)); (intro w' hE hD; unfold Yld; go_simp; exact ⟨Ext.refl _, rfl⟩); (try simp only [Act.put, List.setIfInBounds_toArray, List.set_cons_zero, List.set_cons_succ])
      (first | apply wpF_val rfl | apply wpF_valg (by rfl)); (intro w' hE hD; unfold Yld; go_simp; exact ⟨Ext.refl _, rfl⟩); (try simp only [Act.put, List.setIfInBounds_toArray, List.set_cons_zero, List.set_cons_succ])
      (first | apply wpF_val rfl | apply wpF_valg (by rfl)); (intro w' hE hD; have hcx := Ext.cell hE HX4.out; unfold Yld; go_simp; exact ⟨Ext.refl _, rfl⟩); (try simp only [Act.put, List.setIfInBounds_toArray, List.set_cons_zero, List.set_cons_succ])
      (first | apply wpF_val rfl | apply wpF_valg (by rfl)); (intro w' hE hD; unfold Yld; go_simp; exact (rotr_n 6 R.e (by decide) (by decide) w').mono fun e w2 h => ⟨_, h.1, h.2, rfl⟩); (try simp only [Act.put, List.setIfInBounds_toArray, List.set_cons_zero, List.set_cons_succ])
      (first | apply wpF_val rfl | apply wpF_valg (by rfl)); (intro w' hE hD; unfold Yld; go_simp; exact ⟨Ext.refl _, rfl⟩); (try simp only [Act.put, List.setIfInBounds_toArray, List.set_cons_zero, List.set_cons_succ])
      (first | apply wpF_val rfl | apply wpF_valg (by rfl)); (intro w' hE hD; unfold Yld; go_simp; exact ⟨Ext.refl _, rfl⟩); (try simp only [Act.put, List.setIfInBounds_toArray, List.set_cons_zero, List.set_cons_succ])
      (first | apply wpF_val rfl | apply wpF_valg (by rfl)); (intro w' hE hD; have hcx := Ext.cell hE HX4.out; unfold Yld; go_simp; exact ⟨Ext.refl _, rfl⟩); (try simp only [Act.put, List.setIfInBounds_toArray, List.set_cons_zero, List.set_cons_succ])
      (first | apply wpF_val rfl | apply wpF_valg (by rfl)); (intro w' hE hD; unfold Yld; go_simp; exact (rotr_n 11 R.e (by decide) (by decide) w').mono fun e w2 h => ⟨_, h.1, h.2, rfl⟩); (try simp only [Act.put, List.setIfInBounds_toArray, List.set_cons_zero, List.set_cons_succ])
      (first | apply wpF_val rfl | apply wpF_valg (by rfl)); (intro w' hE hD; unfold Yld; go_simp; exact ⟨Ext.refl _, rfl⟩); (try simp only [Act.put, List.setIfInBounds_toArray, List.set_cons_zero, List.set_cons_succ])
      (first | apply wpF_val rfl | apply wpF_valg (by rfl)); (intro w' hE hD; unfold Yld; go_simp; exact ⟨Ext.refl _, rfl⟩); (try simp only [Act.put, List.setIfInBounds_toArray, List.set_cons_zero, List.set_cons_succ])
      (first | apply wpF_val rfl | apply wpF_valg (by rfl)); (intro w' hE hD; unfold Yld; go_simp; exact ⟨Ext.refl _, rfl⟩); (try simp only [Act.put, List.setIfInBounds_toArray, List.set_cons_zero, List.set_cons_succ])
      (first | apply wpF_val rfl | apply wpF_valg (by rfl)); (intro w' hE hD; have hcx := Ext.cell hE HX4.out; unfold Yld; go_simp; exact ⟨Ext.refl _, rfl⟩); (try simp only [Act.put, List.setIfInBounds_toArray, List.set_cons_zero, List.set_cons_succ])
      (first | apply wpF_val rfl | apply wpF_valg (by rfl)); (intro w' hE hD; unfold Yld; go_simp; exact (rotr_n 25 R.e (by decide) (by decide) w').mono fun e w2 h => ⟨_, h.1, h.2, rfl⟩); (try simp only [Act.put, List.setIfInBounds_toArray, List.set_cons_zero, List.set_cons_succ])
      (first | apply wpF_val rfl | apply wpF_valg (by rfl)); (intro w' hE hD; unfold Yld; go_simp; exact ⟨Ext.refl _, rfl⟩); (try simp only [Act.put, List.setIfInBounds_toArray, List.set_cons_zero, List.set_cons_succ])
      refine wpF_nil fun w4 hE4 hA => ?_
      have HX0 := Aside0.mk (Ext.cell hE4 HX0.out)
      have HX1 := Aside0.mk (Ext.cell hE4 HX1.out)
      have HX2 := Aside0.mk (Ext.cell hE4 HX2.out)
      have HX3 := Aside0.mk (Ext.cell hE4 HX3.out)
      have HX4 := Aside0.mk (Ext.cell hE4 HX4.out)
      have HX5 := Aside0.mk (Ext.cell hE4 HX5.out)
      have HX6 := Aside0.mk (Ext.cell hE4 HX6.out)
      have HX7 := Aside0.mk (Ext.cell hE4 HX7.out)
      have HCW := Aside0.mk (Ext.cell hE4 HCW.out)
      have HCK := Aside0.mk (Ext.cell hE4 HCK.out)
      have HE := Aside0.mk (HE.out.trans hE4)
      simp only [List.drop_succ_cons, List.drop_zero]
      clear hA hE4
      go_wp2_with fail
      apply wp_region_facts 16 [RF.val (.slice (some ⟨bx, ox, none⟩) 8 c1), RF.val (.pointer (some (⟨bx, ox + 4, none⟩))), RF.val (.int .u32 R.e), RF.val (.slice (some ⟨bx, ox, none⟩) 8 c1), RF.val (.pointer (some (⟨bx, ox + 5, none⟩))), RF.val (.int .u32 R.f), RF.val (.int .u32 (an R.e R.f)), RF.val (.slice (some ⟨bx, ox, none⟩) 8 c1), RF.val (.pointer (some (⟨bx, ox + 4, none⟩))), RF.val (.int .u32 R.e), RF.val (.int .u32 (nt R.e)), RF.val (.slice (some ⟨bx, ox, none⟩) 8 c1), RF.val (.pointer (some (⟨bx, ox + 6, none⟩))), RF.val (.int .u32 R.g), RF.val (.int .u32 (an (nt R.e) R.g)), RF.val (.int .u32 (xr (an R.e R.f) (an (nt R.e) R.g)))] (by kernel_rfl) (by kernel_rfl)
      simp only [List.take_succ_cons, List.take_zero, List.zip_cons_cons, List.zip_nil_left]
      (first | apply wpF_val rfl | apply wpF_valg (by rfl)); (intro w' hE hD; unfold Yld; go_simp; exact ⟨Ext.refl _, rfl⟩); (try simp only [Act.put, List.setIfInBounds_toArray, List.set_cons_zero, List.set_cons_succ])
      (first | apply wpF_val rfl | apply wpF_valg (by rfl)); (intro w' hE hD; unfold Yld; go_simp; exact ⟨Ext.refl _, rfl⟩); (try simp only [Act.put, List.setIfInBounds_toArray, List.set_cons_zero, List.set_cons_succ])
      (first | apply wpF_val rfl | apply wpF_valg (by rfl)); (intro w' hE hD; have hcx := Ext.cell hE HX4.out; unfold Yld; go_simp; exact ⟨Ext.refl _, rfl⟩); (try simp only [Act.put, List.setIfInBounds_toArray, List.set_cons_zero, List.set_cons_succ])
      (first | apply wpF_val rfl | apply wpF_valg (by rfl)); (intro w' hE hD; unfold Yld; go_simp; exact ⟨Ext.refl _, rfl⟩); (try simp only [Act.put, List.setIfInBounds_toArray, List.set_cons_zero, List.set_cons_succ])
      (first | apply wpF_val rfl | apply wpF_valg (by rfl)); (intro w' hE hD; unfold Yld; go_simp; exact ⟨Ext.refl _, rfl⟩); (try simp only [Act.put, List.setIfInBounds_toArray, List.set_cons_zero, List.set_cons_succ])
      (first | apply wpF_val rfl | apply wpF_valg (by rfl)); (intro w' hE hD; have hcx := Ext.cell hE HX5.out; unfold Yld; go_simp; exact ⟨Ext.refl _, rfl⟩); (try simp only [Act.put, List.setIfInBounds_toArray, List.set_cons_zero, List.set_cons_succ])
      (first | apply wpF_val rfl | apply wpF_valg (by rfl)); (intro w' hE hD; unfold Yld; go_simp; exact ⟨Ext.refl _, rfl⟩); (try simp only [Act.put, List.setIfInBounds_toArray, List.set_cons_zero, List.set_cons_succ])
      (first | apply wpF_val rfl | apply wpF_valg (by rfl)); (intro w' hE hD; unfold Yld; go_simp; exact ⟨Ext.refl _, rfl⟩); (try simp only [Act.put, List.setIfInBounds_toArray, List.set_cons_zero, List.set_cons_succ])
      (first | apply wpF_val rfl | apply wpF_valg (by rfl)); (intro w' hE hD; unfold Yld; go_simp; exact ⟨Ext.refl _, rfl⟩); (try simp only [Act.put, List.setIfInBounds_toArray, List.set_cons_zero, List.set_cons_succ])
      (first | apply wpF_val rfl | apply wpF_valg (by rfl)); (intro w' hE hD; have hcx := Ext.cell hE HX4.out; unfold Yld; go_simp; exact ⟨Ext.refl _, rfl⟩); (try simp only [Act.put, List.setIfInBounds_toArray, List.set_cons_zero, List.set_cons_succ])
      (first | apply wpF_val rfl | apply wpF_valg (by rfl)); (intro w' hE hD; unfold Yld; go_simp; exact ⟨Ext.refl _, rfl⟩); (try simp only [Act.put, List.setIfInBounds_toArray, List.set_cons_zero, List.set_cons_succ])
      (first | apply wpF_val rfl | apply wpF_valg (by rfl)); (intro w' hE hD; unfold Yld; go_simp; exact ⟨Ext.refl _, rfl⟩); (try simp only [Act.put, List.setIfInBounds_toArray, List.set_cons_zero, List.set_cons_succ])
      (first | apply wpF_val rfl | apply wpF_valg (by rfl)); (intro w' hE hD; unfold Yld; go_simp; exact ⟨Ext.refl _, rfl⟩); (try simp only [Act.put, List.setIfInBounds_toArray, List.set_cons_zero, List.set_cons_succ])
      (first | apply wpF_val rfl | apply wpF_valg (by rfl)); (intro w' hE hD; have hcx := Ext.cell hE HX6.out; unfold Yld; go_simp; exact ⟨Ext.refl _, rfl⟩); (try simp only [Act.put, List.setIfInBounds_toArray, List.set_cons_zero, List.set_cons_succ])
      (first | apply wpF_val rfl | apply wpF_valg (by rfl)); (intro w' hE hD; unfold Yld; go_simp; exact ⟨Ext.refl _, rfl⟩); (try simp only [Act.put, List.setIfInBounds_toArray, List.set_cons_zero, List.set_cons_succ])
      (first | apply wpF_val rfl | apply wpF_valg (by rfl)); (intro w' hE hD; unfold Yld; go_simp; exact ⟨Ext.refl _, rfl⟩); (try simp only [Act.put, List.setIfInBounds_toArray, List.set_cons_zero, List.set_cons_succ])
      refine wpF_nil fun w4 hE4 hA => ?_
      have HX0 := Aside0.mk (Ext.cell hE4 HX0.out)
      have HX1 := Aside0.mk (Ext.cell hE4 HX1.out)
      have HX2 := Aside0.mk (Ext.cell hE4 HX2.out)
      have HX3 := Aside0.mk (Ext.cell hE4 HX3.out)
      have HX4 := Aside0.mk (Ext.cell hE4 HX4.out)
      have HX5 := Aside0.mk (Ext.cell hE4 HX5.out)
      have HX6 := Aside0.mk (Ext.cell hE4 HX6.out)
      have HX7 := Aside0.mk (Ext.cell hE4 HX7.out)
      have HCW := Aside0.mk (Ext.cell hE4 HCW.out)
      have HCK := Aside0.mk (Ext.cell hE4 HCK.out)
      have HE := Aside0.mk (HE.out.trans hE4)
      simp only [List.drop_succ_cons, List.drop_zero]
      clear hA hE4
      go_wp2_with fail
      have hl0 : 0 ≤ x := by omega
      have hu0 : x < 64 := by omega
      apply wp_region_facts 16 [RF.val (.slice (some ⟨bx, ox, none⟩) 8 c1), RF.val (.pointer (some (⟨bx, ox + 7, none⟩))), RF.val (.int .u32 R.h), RF.val (.int .u32 (xr (xr (rotF 6 R.e) (rotF 11 R.e)) (rotF 25 R.e))), RF.val (.int .u32 (ad R.h (xr (xr (rotF 6 R.e) (rotF 11 R.e)) (rotF 25 R.e)))), RF.val (.int .u32 (xr (an R.e R.f) (an (nt R.e) R.g))), RF.val (.int .u32 (ad (ad R.h (xr (xr (rotF 6 R.e) (rotF 11 R.e)) (rotF 25 R.e))) (xr (an R.e R.f) (an (nt R.e) R.g)))), RF.val (.int .i64 x), RF.val (.pointer (some (⟨0, x.toNat, none⟩))), RF.val (.int .u32 (rd kL x)), RF.val (.int .u32 (ad (ad (ad R.h (xr (xr (rotF 6 R.e) (rotF 11 R.e)) (rotF 25 R.e))) (xr (an R.e R.f) (an (nt R.e) R.g))) (rd kL x))), RF.val (.slice (some ad2) 64 c2), RF.val (.int .i64 x), RF.val (.pointer (some (ad2.add x.toNat))), RF.val (.int .u32 (rd W x)), RF.val (.int .u32 (ad (ad (ad (ad R.h (xr (xr (rotF 6 R.e) (rotF 11 R.e)) (rotF 25 R.e))) (xr (an R.e R.f) (an (nt R.e) R.g))) (rd kL x)) (rd W x)))] (by kernel_rfl) (by kernel_rfl)
      simp only [List.take_succ_cons, List.take_zero, List.zip_cons_cons, List.zip_nil_left]
      (first | apply wpF_val rfl | apply wpF_valg (by rfl)); (intro w' hE hD; unfold Yld; go_simp; exact ⟨Ext.refl _, rfl⟩); (try simp only [Act.put, List.setIfInBounds_toArray, List.set_cons_zero, List.set_cons_succ])
      (first | apply wpF_val rfl | apply wpF_valg (by rfl)); (intro w' hE hD; unfold Yld; go_simp; exact ⟨Ext.refl _, rfl⟩); (try simp only [Act.put, List.setIfInBounds_toArray, List.set_cons_zero, List.set_cons_succ])
      (first | apply wpF_val rfl | apply wpF_valg (by rfl)); (intro w' hE hD; have hcx := Ext.cell hE HX7.out; unfold Yld; go_simp; exact ⟨Ext.refl _, rfl⟩); (try simp only [Act.put, List.setIfInBounds_toArray, List.set_cons_zero, List.set_cons_succ])
      (first | apply wpF_val rfl | apply wpF_valg (by rfl)); (intro w' hE hD; unfold Yld; go_simp; exact ⟨Ext.refl _, rfl⟩); (try simp only [Act.put, List.setIfInBounds_toArray, List.set_cons_zero, List.set_cons_succ])
      (first | apply wpF_val rfl | apply wpF_valg (by rfl)); (intro w' hE hD; unfold Yld; go_simp; exact ⟨Ext.refl _, congrArg (Value.int .u32) (wrapAd _ _)⟩); (try simp only [Act.put, List.setIfInBounds_toArray, List.set_cons_zero, List.set_cons_succ])
      (first | apply wpF_val rfl | apply wpF_valg (by rfl)); (intro w' hE hD; unfold Yld; go_simp; exact ⟨Ext.refl _, rfl⟩); (try simp only [Act.put, List.setIfInBounds_toArray, List.set_cons_zero, List.set_cons_succ])
      (first | apply wpF_val rfl | apply wpF_valg (by rfl)); (intro w' hE hD; unfold Yld; go_simp; exact ⟨Ext.refl _, congrArg (Value.int .u32) (wrapAd _ _)⟩); (try simp only [Act.put, List.setIfInBounds_toArray, List.set_cons_zero, List.set_cons_succ])
      (first | apply wpF_val rfl | apply wpF_valg (by rfl)); (intro w' hE hD; unfold Yld; go_simp; exact ⟨Ext.refl _, rfl⟩); (try simp only [Act.put, List.setIfInBounds_toArray, List.set_cons_zero, List.set_cons_succ])
      (first | apply wpF_val rfl | apply wpF_valg (by rfl)); (intro w' hE hD; unfold Yld; go_simp; exact ⟨Ext.refl _, rfl⟩); (try simp only [Act.put, List.setIfInBounds_toArray, List.set_cons_zero, List.set_cons_succ])
      (first | apply wpF_val rfl | apply wpF_valg (by rfl)); (intro w' hE hD; have hcx := Ext.cell hE HCK.out; unfold Yld; go_simp; exact ⟨Ext.refl _, rfl⟩); (try simp only [Act.put, List.setIfInBounds_toArray, List.set_cons_zero, List.set_cons_succ])
      (first | apply wpF_val rfl | apply wpF_valg (by rfl)); (intro w' hE hD; unfold Yld; go_simp; exact ⟨Ext.refl _, congrArg (Value.int .u32) (wrapAd _ _)⟩); (try simp only [Act.put, List.setIfInBounds_toArray, List.set_cons_zero, List.set_cons_succ])
      (first | apply wpF_val rfl | apply wpF_valg (by rfl)); (intro w' hE hD; unfold Yld; go_simp; exact ⟨Ext.refl _, rfl⟩); (try simp only [Act.put, List.setIfInBounds_toArray, List.set_cons_zero, List.set_cons_succ])
      (first | apply wpF_val rfl | apply wpF_valg (by rfl)); (intro w' hE hD; unfold Yld; go_simp; exact ⟨Ext.refl _, rfl⟩); (try simp only [Act.put, List.setIfInBounds_toArray, List.set_cons_zero, List.set_cons_succ])
      (first | apply wpF_val rfl | apply wpF_valg (by rfl)); (intro w' hE hD; unfold Yld; go_simp; exact ⟨Ext.refl _, rfl⟩); (try simp only [Act.put, List.setIfInBounds_toArray, List.set_cons_zero, List.set_cons_succ])
      (first | apply wpF_val rfl | apply wpF_valg (by rfl)); (intro w' hE hD; have hcx := Ext.cell hE HCW.out; unfold Yld; go_simp; exact ⟨Ext.refl _, rfl⟩); (try simp only [Act.put, List.setIfInBounds_toArray, List.set_cons_zero, List.set_cons_succ])
      (first | apply wpF_val rfl | apply wpF_valg (by rfl)); (intro w' hE hD; unfold Yld; go_simp; exact ⟨Ext.refl _, congrArg (Value.int .u32) (wrapAd _ _)⟩); (try simp only [Act.put, List.setIfInBounds_toArray, List.set_cons_zero, List.set_cons_succ])
      refine wpF_nil fun w4 hE4 hA => ?_
      have HX0 := Aside0.mk (Ext.cell hE4 HX0.out)
      have HX1 := Aside0.mk (Ext.cell hE4 HX1.out)
      have HX2 := Aside0.mk (Ext.cell hE4 HX2.out)
      have HX3 := Aside0.mk (Ext.cell hE4 HX3.out)
      have HX4 := Aside0.mk (Ext.cell hE4 HX4.out)
      have HX5 := Aside0.mk (Ext.cell hE4 HX5.out)
      have HX6 := Aside0.mk (Ext.cell hE4 HX6.out)
      have HX7 := Aside0.mk (Ext.cell hE4 HX7.out)
      have HCW := Aside0.mk (Ext.cell hE4 HCW.out)
      have HCK := Aside0.mk (Ext.cell hE4 HCK.out)
      have HE := Aside0.mk (HE.out.trans hE4)
      simp only [List.drop_succ_cons, List.drop_zero]
      clear hA hE4
      clear hl0 hu0
      go_wp2_with fail
      apply wp_region_facts 14 [RF.val (.slice (some ⟨bx, ox, none⟩) 8 c1), RF.val (.pointer (some (⟨bx, ox, none⟩))), RF.val (.int .u32 R.a), RF.val (.int .u32 (rotF 2 R.a)), RF.val (.slice (some ⟨bx, ox, none⟩) 8 c1), RF.val (.pointer (some (⟨bx, ox, none⟩))), RF.val (.int .u32 R.a), RF.val (.int .u32 (rotF 13 R.a)), RF.val (.int .u32 (xr (rotF 2 R.a) (rotF 13 R.a))), RF.val (.slice (some ⟨bx, ox, none⟩) 8 c1), RF.val (.pointer (some (⟨bx, ox, none⟩))), RF.val (.int .u32 R.a), RF.val (.int .u32 (rotF 22 R.a)), RF.val (.int .u32 (xr (xr (rotF 2 R.a) (rotF 13 R.a)) (rotF 22 R.a)))] (by kernel_rfl) (by kernel_rfl)
      simp only [List.take_succ_cons, List.take_zero, List.zip_cons_cons, List.zip_nil_left]
      (first | apply wpF_val rfl | apply wpF_valg (by rfl)); (intro w' hE hD; unfold Yld; go_simp; exact ⟨Ext.refl _, rfl⟩); (try simp only [Act.put, List.setIfInBounds_toArray, List.set_cons_zero, List.set_cons_succ])
      (first | apply wpF_val rfl | apply wpF_valg (by rfl)); (intro w' hE hD; unfold Yld; go_simp; exact ⟨Ext.refl _, rfl⟩); (try simp only [Act.put, List.setIfInBounds_toArray, List.set_cons_zero, List.set_cons_succ])
      (first | apply wpF_val rfl | apply wpF_valg (by rfl)); (intro w' hE hD; have hcx := Ext.cell hE HX0.out; unfold Yld; go_simp; exact ⟨Ext.refl _, rfl⟩); (try simp only [Act.put, List.setIfInBounds_toArray, List.set_cons_zero, List.set_cons_succ])
      (first | apply wpF_val rfl | apply wpF_valg (by rfl)); (intro w' hE hD; unfold Yld; go_simp; exact (rotr_n 2 R.a (by decide) (by decide) w').mono fun e w2 h => ⟨_, h.1, h.2, rfl⟩); (try simp only [Act.put, List.setIfInBounds_toArray, List.set_cons_zero, List.set_cons_succ])
      (first | apply wpF_val rfl | apply wpF_valg (by rfl)); (intro w' hE hD; unfold Yld; go_simp; exact ⟨Ext.refl _, rfl⟩); (try simp only [Act.put, List.setIfInBounds_toArray, List.set_cons_zero, List.set_cons_succ])
      (first | apply wpF_val rfl | apply wpF_valg (by rfl)); (intro w' hE hD; unfold Yld; go_simp; exact ⟨Ext.refl _, rfl⟩); (try simp only [Act.put, List.setIfInBounds_toArray, List.set_cons_zero, List.set_cons_succ])
      (first | apply wpF_val rfl | apply wpF_valg (by rfl)); (intro w' hE hD; have hcx := Ext.cell hE HX0.out; unfold Yld; go_simp; exact ⟨Ext.refl _, rfl⟩); (try simp only [Act.put, List.setIfInBounds_toArray, List.set_cons_zero, List.set_cons_succ])
      (first | apply wpF_val rfl | apply wpF_valg (by rfl)); (intro w' hE hD; unfold Yld; go_simp; exact (rotr_n 13 R.a (by decide) (by decide) w').mono fun e w2 h => ⟨_, h.1, h.2, rfl⟩); (try simp only [Act.put, List.setIfInBounds_toArray, List.set_cons_zero, List.set_cons_succ])
      (first | apply wpF_val rfl | apply wpF_valg (by rfl)); (intro w' hE hD; unfold Yld; go_simp; exact ⟨Ext.refl _, rfl⟩); (try simp only [Act.put, List.setIfInBounds_toArray, List.set_cons_zero, List.set_cons_succ])
      (first | apply wpF_val rfl | apply wpF_valg (by rfl)); (intro w' hE hD; unfold Yld; go_simp; exact ⟨Ext.refl _, rfl⟩); (try simp only [Act.put, List.setIfInBounds_toArray, List.set_cons_zero, List.set_cons_succ])
      (first | apply wpF_val rfl | apply wpF_valg (by rfl)); (intro w' hE hD; unfold Yld; go_simp; exact ⟨Ext.refl _, rfl⟩); (try simp only [Act.put, List.setIfInBounds_toArray, List.set_cons_zero, List.set_cons_succ])
      (first | apply wpF_val rfl | apply wpF_valg (by rfl)); (intro w' hE hD; have hcx := Ext.cell hE HX0.out; unfold Yld; go_simp; exact ⟨Ext.refl _, rfl⟩); (try simp only [Act.put, List.setIfInBounds_toArray, List.set_cons_zero, List.set_cons_succ])
      (first | apply wpF_val rfl | apply wpF_valg (by rfl)); (intro w' hE hD; unfold Yld; go_simp; exact (rotr_n 22 R.a (by decide) (by decide) w').mono fun e w2 h => ⟨_, h.1, h.2, rfl⟩); (try simp only [Act.put, List.setIfInBounds_toArray, List.set_cons_zero, List.set_cons_succ])
      (first | apply wpF_val rfl | apply wpF_valg (by rfl)); (intro w' hE hD; unfold Yld; go_simp; exact ⟨Ext.refl _, rfl⟩); (try simp only [Act.put, List.setIfInBounds_toArray, List.set_cons_zero, List.set_cons_succ])
      refine wpF_nil fun w4 hE4 hA => ?_
      have HX0 := Aside0.mk (Ext.cell hE4 HX0.out)
      have HX1 := Aside0.mk (Ext.cell hE4 HX1.out)
      have HX2 := Aside0.mk (Ext.cell hE4 HX2.out)
      have HX3 := Aside0.mk (Ext.cell hE4 HX3.out)
      have HX4 := Aside0.mk (Ext.cell hE4 HX4.out)
      have HX5 := Aside0.mk (Ext.cell hE4 HX5.out)
      have HX6 := Aside0.mk (Ext.cell hE4 HX6.out)
      have HX7 := Aside0.mk (Ext.cell hE4 HX7.out)
      have HCW := Aside0.mk (Ext.cell hE4 HCW.out)
      have HCK := Aside0.mk (Ext.cell hE4 HCK.out)
      have HE := Aside0.mk (HE.out.trans hE4)
      simp only [List.drop_succ_cons, List.drop_zero]
      clear hA hE4
      go_wp2_with fail
      apply wp_region_facts 23 [RF.val (.slice (some ⟨bx, ox, none⟩) 8 c1), RF.val (.pointer (some (⟨bx, ox, none⟩))), RF.val (.int .u32 R.a), RF.val (.slice (some ⟨bx, ox, none⟩) 8 c1), RF.val (.pointer (some (⟨bx, ox + 1, none⟩))), RF.val (.int .u32 R.b), RF.val (.int .u32 (an R.a R.b)), RF.val (.slice (some ⟨bx, ox, none⟩) 8 c1), RF.val (.pointer (some (⟨bx, ox, none⟩))), RF.val (.int .u32 R.a), RF.val (.slice (some ⟨bx, ox, none⟩) 8 c1), RF.val (.pointer (some (⟨bx, ox + 2, none⟩))), RF.val (.int .u32 R.c), RF.val (.int .u32 (an R.a R.c)), RF.val (.int .u32 (xr (an R.a R.b) (an R.a R.c))), RF.val (.slice (some ⟨bx, ox, none⟩) 8 c1), RF.val (.pointer (some (⟨bx, ox + 1, none⟩))), RF.val (.int .u32 R.b), RF.val (.slice (some ⟨bx, ox, none⟩) 8 c1), RF.val (.pointer (some (⟨bx, ox + 2, none⟩))), RF.val (.int .u32 R.c), RF.val (.int .u32 (an R.b R.c)), RF.val (.int .u32 (xr (xr (an R.a R.b) (an R.a R.c)) (an R.b R.c)))] (by kernel_rfl) (by kernel_rfl)
      simp only [List.take_succ_cons, List.take_zero, List.zip_cons_cons, List.zip_nil_left]
      (first | apply wpF_val rfl | apply wpF_valg (by rfl)); (intro w' hE hD; unfold Yld; go_simp; exact ⟨Ext.refl _, rfl⟩); (try simp only [Act.put, List.setIfInBounds_toArray, List.set_cons_zero, List.set_cons_succ])
      (first | apply wpF_val rfl | apply wpF_valg (by rfl)); (intro w' hE hD; unfold Yld; go_simp; exact ⟨Ext.refl _, rfl⟩); (try simp only [Act.put, List.setIfInBounds_toArray, List.set_cons_zero, List.set_cons_succ])
      (first | apply wpF_val rfl | apply wpF_valg (by rfl)); (intro w' hE hD; have hcx := Ext.cell hE HX0.out; unfold Yld; go_simp; exact ⟨Ext.refl _, rfl⟩); (try simp only [Act.put, List.setIfInBounds_toArray, List.set_cons_zero, List.set_cons_succ])
      (first | apply wpF_val rfl | apply wpF_valg (by rfl)); (intro w' hE hD; unfold Yld; go_simp; exact ⟨Ext.refl _, rfl⟩); (try simp only [Act.put, List.setIfInBounds_toArray, List.set_cons_zero, List.set_cons_succ])
      (first | apply wpF_val rfl | apply wpF_valg (by rfl)); (intro w' hE hD; unfold Yld; go_simp; exact ⟨Ext.refl _, rfl⟩); (try simp only [Act.put, List.setIfInBounds_toArray, List.set_cons_zero, List.set_cons_succ])
      (first | apply wpF_val rfl | apply wpF_valg (by rfl)); (intro w' hE hD; have hcx := Ext.cell hE HX1.out; unfold Yld; go_simp; exact ⟨Ext.refl _, rfl⟩); (try simp only [Act.put, List.setIfInBounds_toArray, List.set_cons_zero, List.set_cons_succ])
      (first | apply wpF_val rfl | apply wpF_valg (by rfl)); (intro w' hE hD; unfold Yld; go_simp; exact ⟨Ext.refl _, rfl⟩); (try simp only [Act.put, List.setIfInBounds_toArray, List.set_cons_zero, List.set_cons_succ])
      (first | apply wpF_val rfl | apply wpF_valg (by rfl)); (intro w' hE hD; unfold Yld; go_simp; exact ⟨Ext.refl _, rfl⟩); (try simp only [Act.put, List.setIfInBounds_toArray, List.set_cons_zero, List.set_cons_succ])
      (first | apply wpF_val rfl | apply wpF_valg (by rfl)); (intro w' hE hD; unfold Yld; go_simp; exact ⟨Ext.refl _, rfl⟩); (try simp only [Act.put, List.setIfInBounds_toArray, List.set_cons_zero, List.set_cons_succ])
      (first | apply wpF_val rfl | apply wpF_valg (by rfl)); (intro w' hE hD; have hcx := Ext.cell hE HX0.out; unfold Yld; go_simp; exact ⟨Ext.refl _, rfl⟩); (try simp only [Act.put, List.setIfInBounds_toArray, List.set_cons_zero, List.set_cons_succ])
      (first | apply wpF_val rfl | apply wpF_valg (by rfl)); (intro w' hE hD; unfold Yld; go_simp; exact ⟨Ext.refl _, rfl⟩); (try simp only [Act.put, List.setIfInBounds_toArray, List.set_cons_zero, List.set_cons_succ])
      (first | apply wpF_val rfl | apply wpF_valg (by rfl)); (intro w' hE hD; unfold Yld; go_simp; exact ⟨Ext.refl _, rfl⟩); (try simp only [Act.put, List.setIfInBounds_toArray, List.set_cons_zero, List.set_cons_succ])
      (first | apply wpF_val rfl | apply wpF_valg (by rfl)); (intro w' hE hD; have hcx := Ext.cell hE HX2.out; unfold Yld; go_simp; exact ⟨Ext.refl _, rfl⟩); (try simp only [Act.put, List.setIfInBounds_toArray, List.set_cons_zero, List.set_cons_succ])
      (first | apply wpF_val rfl | apply wpF_valg (by rfl)); (intro w' hE hD; unfold Yld; go_simp; exact ⟨Ext.refl _, rfl⟩); (try simp only [Act.put, List.setIfInBounds_toArray, List.set_cons_zero, List.set_cons_succ])
      (first | apply wpF_val rfl | apply wpF_valg (by rfl)); (intro w' hE hD; unfold Yld; go_simp; exact ⟨Ext.refl _, rfl⟩); (try simp only [Act.put, List.setIfInBounds_toArray, List.set_cons_zero, List.set_cons_succ])
      (first | apply wpF_val rfl | apply wpF_valg (by rfl)); (intro w' hE hD; unfold Yld; go_simp; exact ⟨Ext.refl _, rfl⟩); (try simp only [Act.put, List.setIfInBounds_toArray, List.set_cons_zero, List.set_cons_succ])
      (first | apply wpF_val rfl | apply wpF_valg (by rfl)); (intro w' hE hD; unfold Yld; go_simp; exact ⟨Ext.refl _, rfl⟩); (try simp only [Act.put, List.setIfInBounds_toArray, List.set_cons_zero, List.set_cons_succ])
      (first | apply wpF_val rfl | apply wpF_valg (by rfl)); (intro w' hE hD; have hcx := Ext.cell hE HX1.out; unfold Yld; go_simp; exact ⟨Ext.refl _, rfl⟩); (try simp only [Act.put, List.setIfInBounds_toArray, List.set_cons_zero, List.set_cons_succ])
      (first | apply wpF_val rfl | apply wpF_valg (by rfl)); (intro w' hE hD; unfold Yld; go_simp; exact ⟨Ext.refl _, rfl⟩); (try simp only [Act.put, List.setIfInBounds_toArray, List.set_cons_zero, List.set_cons_succ])
      (first | apply wpF_val rfl | apply wpF_valg (by rfl)); (intro w' hE hD; unfold Yld; go_simp; exact ⟨Ext.refl _, rfl⟩); (try simp only [Act.put, List.setIfInBounds_toArray, List.set_cons_zero, List.set_cons_succ])
      (first | apply wpF_val rfl | apply wpF_valg (by rfl)); (intro w' hE hD; have hcx := Ext.cell hE HX2.out; unfold Yld; go_simp; exact ⟨Ext.refl _, rfl⟩); (try simp only [Act.put, List.setIfInBounds_toArray, List.set_cons_zero, List.set_cons_succ])
      (first | apply wpF_val rfl | apply wpF_valg (by rfl)); (intro w' hE hD; unfold Yld; go_simp; exact ⟨Ext.refl _, rfl⟩); (try simp only [Act.put, List.setIfInBounds_toArray, List.set_cons_zero, List.set_cons_succ])
      (first | apply wpF_val rfl | apply wpF_valg (by rfl)); (intro w' hE hD; unfold Yld; go_simp; exact ⟨Ext.refl _, rfl⟩); (try simp only [Act.put, List.setIfInBounds_toArray, List.set_cons_zero, List.set_cons_succ])
      refine wpF_nil fun w4 hE4 hA => ?_
      have HX0 := Aside0.mk (Ext.cell hE4 HX0.out)
      have HX1 := Aside0.mk (Ext.cell hE4 HX1.out)
      have HX2 := Aside0.mk (Ext.cell hE4 HX2.out)
      have HX3 := Aside0.mk (Ext.cell hE4 HX3.out)
      have HX4 := Aside0.mk (Ext.cell hE4 HX4.out)
      have HX5 := Aside0.mk (Ext.cell hE4 HX5.out)
      have HX6 := Aside0.mk (Ext.cell hE4 HX6.out)
      have HX7 := Aside0.mk (Ext.cell hE4 HX7.out)
      have HCW := Aside0.mk (Ext.cell hE4 HCW.out)
      have HCK := Aside0.mk (Ext.cell hE4 HCK.out)
      have HE := Aside0.mk (HE.out.trans hE4)
      simp only [List.drop_succ_cons, List.drop_zero]
      clear hA hE4
      go_wp2_with fail
      have HLL := Aside0.mk (show (step (rd kL x) (rd W x) R).l = [(ad (ad (ad (ad (ad (ad R.h (xr (xr (rotF 6 R.e) (rotF 11 R.e)) (rotF 25 R.e))) (xr (an R.e R.f) (an (nt R.e) R.g))) (rd kL x)) (rd W x)) (xr (xr (rotF 2 R.a) (rotF 13 R.a)) (rotF 22 R.a))) (xr (xr (an R.a R.b) (an R.a R.c)) (an R.b R.c))), R.a, R.b, R.c, (ad R.d (ad (ad (ad (ad R.h (xr (xr (rotF 6 R.e) (rotF 11 R.e)) (rotF 25 R.e))) (xr (an R.e R.f) (an (nt R.e) R.g))) (rd kL x)) (rd W x))), R.e, R.f, R.g] by simp only [step, S8.l, ad_assoc])
      apply wp_region_facts 29 [RF.val (.int .u32 (ad (ad (ad (ad R.h (xr (xr (rotF 6 R.e) (rotF 11 R.e)) (rotF 25 R.e))) (xr (an R.e R.f) (an (nt R.e) R.g))) (rd kL x)) (rd W x))), RF.val (.int .u32 (xr (xr (rotF 2 R.a) (rotF 13 R.a)) (rotF 22 R.a))), RF.val (.int .u32 (ad (ad (ad (ad (ad R.h (xr (xr (rotF 6 R.e) (rotF 11 R.e)) (rotF 25 R.e))) (xr (an R.e R.f) (an (nt R.e) R.g))) (rd kL x)) (rd W x)) (xr (xr (rotF 2 R.a) (rotF 13 R.a)) (rotF 22 R.a)))), RF.val (.int .u32 (xr (xr (an R.a R.b) (an R.a R.c)) (an R.b R.c))), RF.val (.int .u32 (ad (ad (ad (ad (ad (ad R.h (xr (xr (rotF 6 R.e) (rotF 11 R.e)) (rotF 25 R.e))) (xr (an R.e R.f) (an (nt R.e) R.g))) (rd kL x)) (rd W x)) (xr (xr (rotF 2 R.a) (rotF 13 R.a)) (rotF 22 R.a))) (xr (xr (an R.a R.b) (an R.a R.c)) (an R.b R.c)))), RF.val (.slice (some ⟨bx, ox, none⟩) 8 c1), RF.val (.pointer (some (⟨bx, ox, none⟩))), RF.val (.int .u32 R.a), RF.val (.slice (some ⟨bx, ox, none⟩) 8 c1), RF.val (.pointer (some (⟨bx, ox + 1, none⟩))), RF.val (.int .u32 R.b), RF.val (.slice (some ⟨bx, ox, none⟩) 8 c1), RF.val (.pointer (some (⟨bx, ox + 2, none⟩))), RF.val (.int .u32 R.c), RF.val (.slice (some ⟨bx, ox, none⟩) 8 c1), RF.val (.pointer (some (⟨bx, ox + 3, none⟩))), RF.val (.int .u32 R.d), RF.val (.int .u32 (ad (ad (ad (ad R.h (xr (xr (rotF 6 R.e) (rotF 11 R.e)) (rotF 25 R.e))) (xr (an R.e R.f) (an (nt R.e) R.g))) (rd kL x)) (rd W x))), RF.val (.int .u32 (ad R.d (ad (ad (ad (ad R.h (xr (xr (rotF 6 R.e) (rotF 11 R.e)) (rotF 25 R.e))) (xr (an R.e R.f) (an (nt R.e) R.g))) (rd kL x)) (rd W x)))), RF.val (.slice (some ⟨bx, ox, none⟩) 8 c1), RF.val (.pointer (some (⟨bx, ox + 4, none⟩))), RF.val (.int .u32 R.e), RF.val (.slice (some ⟨bx, ox, none⟩) 8 c1), RF.val (.pointer (some (⟨bx, ox + 5, none⟩))), RF.val (.int .u32 R.f), RF.val (.slice (some ⟨bx, ox, none⟩) 8 c1), RF.val (.pointer (some (⟨bx, ox + 6, none⟩))), RF.val (.int .u32 R.g), RF.fact (fun u Wd => ∃ bk, u = .slice (some ⟨bk, 0, none⟩) 8 8 ∧ Wd.rangeAt bk 0 (nums .u32 (step (rd kL x) (rd W x) R).l))] (by kernel_rfl) (by kernel_rfl)
      simp only [List.take_succ_cons, List.take_zero, List.zip_cons_cons, List.zip_nil_left]
      (first | apply wpF_val rfl | apply wpF_valg (by rfl)); (intro w' hE hD; unfold Yld; go_simp; exact ⟨Ext.refl _, rfl⟩); (try simp only [Act.put, List.setIfInBounds_toArray, List.set_cons_zero, List.set_cons_succ])
      (first | apply wpF_val rfl | apply wpF_valg (by rfl)); (intro w' hE hD; unfold Yld; go_simp; exact ⟨Ext.refl _, rfl⟩); (try simp only [Act.put, List.setIfInBounds_toArray, List.set_cons_zero, List.set_cons_succ])
      (first | apply wpF_val rfl | apply wpF_valg (by rfl)); (intro w' hE hD; unfold Yld; go_simp; exact ⟨Ext.refl _, congrArg (Value.int .u32) (wrapAd _ _)⟩); (try simp only [Act.put, List.setIfInBounds_toArray, List.set_cons_zero, List.set_cons_succ])
      (first | apply wpF_val rfl | apply wpF_valg (by rfl)); (intro w' hE hD; unfold Yld; go_simp; exact ⟨Ext.refl _, rfl⟩); (try simp only [Act.put, List.setIfInBounds_toArray, List.set_cons_zero, List.set_cons_succ])
      (first | apply wpF_val rfl | apply wpF_valg (by rfl)); (intro w' hE hD; unfold Yld; go_simp; exact ⟨Ext.refl _, congrArg (Value.int .u32) (wrapAd _ _)⟩); (try simp only [Act.put, List.setIfInBounds_toArray, List.set_cons_zero, List.set_cons_succ])
      (first | apply wpF_val rfl | apply wpF_valg (by rfl)); (intro w' hE hD; unfold Yld; go_simp; exact ⟨Ext.refl _, rfl⟩); (try simp only [Act.put, List.setIfInBounds_toArray, List.set_cons_zero, List.set_cons_succ])
      (first | apply wpF_val rfl | apply wpF_valg (by rfl)); (intro w' hE hD; unfold Yld; go_simp; exact ⟨Ext.refl _, rfl⟩); (try simp only [Act.put, List.setIfInBounds_toArray, List.set_cons_zero, List.set_cons_succ])
      (first | apply wpF_val rfl | apply wpF_valg (by rfl)); (intro w' hE hD; have hcx := Ext.cell hE HX0.out; unfold Yld; go_simp; exact ⟨Ext.refl _, rfl⟩); (try simp only [Act.put, List.setIfInBounds_toArray, List.set_cons_zero, List.set_cons_succ])
      (first | apply wpF_val rfl | apply wpF_valg (by rfl)); (intro w' hE hD; unfold Yld; go_simp; exact ⟨Ext.refl _, rfl⟩); (try simp only [Act.put, List.setIfInBounds_toArray, List.set_cons_zero, List.set_cons_succ])
      (first | apply wpF_val rfl | apply wpF_valg (by rfl)); (intro w' hE hD; unfold Yld; go_simp; exact ⟨Ext.refl _, rfl⟩); (try simp only [Act.put, List.setIfInBounds_toArray, List.set_cons_zero, List.set_cons_succ])
      (first | apply wpF_val rfl | apply wpF_valg (by rfl)); (intro w' hE hD; have hcx := Ext.cell hE HX1.out; unfold Yld; go_simp; exact ⟨Ext.refl _, rfl⟩); (try simp only [Act.put, List.setIfInBounds_toArray, List.set_cons_zero, List.set_cons_succ])
      (first | apply wpF_val rfl | apply wpF_valg (by rfl)); (intro w' hE hD; unfold Yld; go_simp; exact ⟨Ext.refl _, rfl⟩); (try simp only [Act.put, List.setIfInBounds_toArray, List.set_cons_zero, List.set_cons_succ])
      (first | apply wpF_val rfl | apply wpF_valg (by rfl)); (intro w' hE hD; unfold Yld; go_simp; exact ⟨Ext.refl _, rfl⟩); (try simp only [Act.put, List.setIfInBounds_toArray, List.set_cons_zero, List.set_cons_succ])
      (first | apply wpF_val rfl | apply wpF_valg (by rfl)); (intro w' hE hD; have hcx := Ext.cell hE HX2.out; unfold Yld; go_simp; exact ⟨Ext.refl _, rfl⟩); (try simp only [Act.put, List.setIfInBounds_toArray, List.set_cons_zero, List.set_cons_succ])
      (first | apply wpF_val rfl | apply wpF_valg (by rfl)); (intro w' hE hD; unfold Yld; go_simp; exact ⟨Ext.refl _, rfl⟩); (try simp only [Act.put, List.setIfInBounds_toArray, List.set_cons_zero, List.set_cons_succ])
      (first | apply wpF_val rfl | apply wpF_valg (by rfl)); (intro w' hE hD; unfold Yld; go_simp; exact ⟨Ext.refl _, rfl⟩); (try simp only [Act.put, List.setIfInBounds_toArray, List.set_cons_zero, List.set_cons_succ])
      (first | apply wpF_val rfl | apply wpF_valg (by rfl)); (intro w' hE hD; have hcx := Ext.cell hE HX3.out; unfold Yld; go_simp; exact ⟨Ext.refl _, rfl⟩); (try simp only [Act.put, List.setIfInBounds_toArray, List.set_cons_zero, List.set_cons_succ])
      (first | apply wpF_val rfl | apply wpF_valg (by rfl)); (intro w' hE hD; unfold Yld; go_simp; exact ⟨Ext.refl _, rfl⟩); (try simp only [Act.put, List.setIfInBounds_toArray, List.set_cons_zero, List.set_cons_succ])
      (first | apply wpF_val rfl | apply wpF_valg (by rfl)); (intro w' hE hD; unfold Yld; go_simp; exact ⟨Ext.refl _, congrArg (Value.int .u32) (wrapAd _ _)⟩); (try simp only [Act.put, List.setIfInBounds_toArray, List.set_cons_zero, List.set_cons_succ])
      (first | apply wpF_val rfl | apply wpF_valg (by rfl)); (intro w' hE hD; unfold Yld; go_simp; exact ⟨Ext.refl _, rfl⟩); (try simp only [Act.put, List.setIfInBounds_toArray, List.set_cons_zero, List.set_cons_succ])
      (first | apply wpF_val rfl | apply wpF_valg (by rfl)); (intro w' hE hD; unfold Yld; go_simp; exact ⟨Ext.refl _, rfl⟩); (try simp only [Act.put, List.setIfInBounds_toArray, List.set_cons_zero, List.set_cons_succ])
      (first | apply wpF_val rfl | apply wpF_valg (by rfl)); (intro w' hE hD; have hcx := Ext.cell hE HX4.out; unfold Yld; go_simp; exact ⟨Ext.refl _, rfl⟩); (try simp only [Act.put, List.setIfInBounds_toArray, List.set_cons_zero, List.set_cons_succ])
      (first | apply wpF_val rfl | apply wpF_valg (by rfl)); (intro w' hE hD; unfold Yld; go_simp; exact ⟨Ext.refl _, rfl⟩); (try simp only [Act.put, List.setIfInBounds_toArray, List.set_cons_zero, List.set_cons_succ])
      (first | apply wpF_val rfl | apply wpF_valg (by rfl)); (intro w' hE hD; unfold Yld; go_simp; exact ⟨Ext.refl _, rfl⟩); (try simp only [Act.put, List.setIfInBounds_toArray, List.set_cons_zero, List.set_cons_succ])
      (first | apply wpF_val rfl | apply wpF_valg (by rfl)); (intro w' hE hD; have hcx := Ext.cell hE HX5.out; unfold Yld; go_simp; exact ⟨Ext.refl _, rfl⟩); (try simp only [Act.put, List.setIfInBounds_toArray, List.set_cons_zero, List.set_cons_succ])
      (first | apply wpF_val rfl | apply wpF_valg (by rfl)); (intro w' hE hD; unfold Yld; go_simp; exact ⟨Ext.refl _, rfl⟩); (try simp only [Act.put, List.setIfInBounds_toArray, List.set_cons_zero, List.set_cons_succ])
      (first | apply wpF_val rfl | apply wpF_valg (by rfl)); (intro w' hE hD; unfold Yld; go_simp; exact ⟨Ext.refl _, rfl⟩); (try simp only [Act.put, List.setIfInBounds_toArray, List.set_cons_zero, List.set_cons_succ])
      (first | apply wpF_val rfl | apply wpF_valg (by rfl)); (intro w' hE hD; have hcx := Ext.cell hE HX6.out; unfold Yld; go_simp; exact ⟨Ext.refl _, rfl⟩); (try simp only [Act.put, List.setIfInBounds_toArray, List.set_cons_zero, List.set_cons_succ])
      refine wpF_fact rfl (fun u Wa Wb h he => ?_) (fun w' hE hD => ?_) (fun u28 => ?_)
      · obtain ⟨bk, hu, hrg⟩ := h
        exact ⟨bk, hu, rangeAt_ext hrg he⟩
      · unfold Yld
        go_simp
        exact ⟨(Ext.refl w').alloc _, w'.heap.size, rfl, by rw [HLL.out]; exact (Blk.new w' _ 39).range 0 _ [] (by simp [nums])⟩
      (try simp only [Act.put, List.setIfInBounds_toArray, List.set_cons_zero, List.set_cons_succ])
      refine wpF_nil fun w4 hE4 hA => ?_
      obtain ⟨bk, hu, hrg⟩ := hA.1
      subst hu
      have HC1 := Aside0.mk hrg
      have HE := Aside0.mk (HE.out.trans hE4)
      simp only [List.drop_succ_cons, List.drop_zero]
      clear hA hE4 hrg HX0 HX1 HX2 HX3 HX4 HX5 HX6 HX7 HCW HCK HLL
      go_wp2_with fail
      go_roundw
      case rel => exact ⟨x + 1, rfl, ⟨by omega, by omega⟩, ⟨bk, 0, 8, rfl, Nat.le_refl _, ⟨by rw [HRN.out]; exact HC1.out⟩⟩, HE⟩
      case measure => have := HLT.out; simp only [intOf]; omega
    · have hx : x = 64 := by omega
      subst hx
      have HTF := Aside0.mk (show takeF s b = add8 s (rounds W (64 : Int).toNat s) by unfold takeF; rw [← HW.out]; rfl)
      generalize rounds W (64 : Int).toNat s = R at HTF HC1
      obtain ⟨T, hT⟩ : ∃ T, T = (add8 s R).l := ⟨_, rfl⟩
      have HTL := Aside0.mk (show T.length = 8 by rw [hT]; rfl)
      have HTT := Aside0.mk (show ∀ y : Int, 0 ≤ y → y < 8 → T.take y.toNat ++ [ad (rd s.l y) (rd R.l y)] = T.take (y + 1).toNat by
        intro y h0 h1
        rw [hT]
        obtain h | h | h | h | h | h | h | h : y = 0 ∨ y = 1 ∨ y = 2 ∨ y = 3 ∨ y = 4 ∨ y = 5 ∨ y = 6 ∨ y = 7 := by omega
        all_goals (subst h; rfl))
      have HTE := Aside0.mk (show (takeF s b).l = T by rw [hT, HTF.out])
      obtain ⟨ad1, had1⟩ : ∃ ad1 : Addr, ad1 = ⟨bx, ox, none⟩ := ⟨_, rfl⟩
      have HCX := Aside0.mk (show ∀ y : Int, 0 ≤ y → y < 8 → wx.cell? (ad1.add y.toNat) = some (.int .u32 (rd R.l y)) ∧ ad1.block < wx.heap.size by
        intro y h0 h1
        have hc := HC1.out y.toNat (.int .u32 (rd R.l y)) (by
          obtain h | h | h | h | h | h | h | h : y = 0 ∨ y = 1 ∨ y = 2 ∨ y = 3 ∨ y = 4 ∨ y = 5 ∨ y = 6 ∨ y = 7 := by omega
          all_goals (subst h; rfl))
        have e : ad1.add y.toNat = ⟨bx, ox + y.toNat, none⟩ := by
          rw [had1]; unfold Addr.add; split
          · rename_i h; rw [h]; rfl
          · rfl
        rw [e]
        refine ⟨hc, ?_⟩
        rw [had1]
        exact (show bx < wx.heap.size from World.block_lt_of_cell? wx ⟨bx, ox + y.toNat, none⟩ hc))
      obtain ⟨ad0, eA0, hcs0⟩ := at_k (Kd.C_below HR0.out (HE1.out.trans HE.out)) 0 (by decide) (by decide)
      subst eA0
      have HCS := Aside0.mk (show ∀ y : Int, 0 ≤ y → y < 8 → wx.cell? (ad0.add y.toNat) = some (.int .u32 (rd s.l y)) ∧ ad0.block < wx.heap.size by
        intro y h0 h1
        obtain ⟨ad3, e3, h3⟩ := at_k (Kd.C_below HR0.out (HE1.out.trans HE.out)) y h0 (by omega)
        obtain rfl := Option.some.inj e3
        exact ⟨h3, World.block_lt_of_cell? wx _ hcs0⟩)
      rw [← had1]
      have HEZ := Aside0.mk (HE1.out.trans HE.out)
      clear hT had1 hcs0 HC1 HX g0 g1 hlt HE
      go_wp2_with fail
      go_loopw [13, 14] (fun V i wr => ∃ y : Int, i = .int .i64 y ∧ Aside0 (0 ≤ y ∧ y ≤ 8) ∧ Aside0 (NU wr wx.heap.size V (T.take y.toNat)) ∧ Aside0 (Ext wx wr)) (fun _ i _ => 8 - (intOf i).toNat)
      case atStart => exact ⟨0, rfl, ⟨by decide⟩, ⟨Kd.R_nil ku 39 wx _ _⟩, ⟨Ext.refl _⟩⟩
      case round =>
        obtain ⟨y, rfl, HY, HN, HE⟩ := hrel
        obtain ⟨g0, g1⟩ := HY.out
        obtain ⟨wy, hwy⟩ : ∃ wy : World, wy = wr := ⟨_, rfl⟩
        subst hwy
        by_cases hlt : y < 8
        · have HLT := Aside0.mk hlt
          have hfar : ∀ k, u13.ownBlock = some k → wx.heap.size ≤ k := fun k hk => by
            obtain ⟨h0, inner, hown, hr⟩ := HN.out
            exact own_base hown k hk
          have HFR := Aside0.mk hfar
          have HCX' := Aside0.mk (show ∀ w', wy.grownBy w' u13.ownBlock → w'.cell? (ad1.add y.toNat) = some (.int .u32 (rd R.l y)) by
            intro w' hg
            obtain ⟨h1, h2⟩ := HCX.out y g0 hlt
            exact hg.cell (Ext.cell HE.out h1) (fun h => by have := hfar _ h.symm; have : (ad1.add y.toNat).block = ad1.block := by unfold Addr.add; split <;> rfl
                                                            omega))
          have HCS' := Aside0.mk (show ∀ w', wy.grownBy w' u13.ownBlock → w'.cell? (ad0.add y.toNat) = some (.int .u32 (rd s.l y)) by
            intro w' hg
            obtain ⟨h1, h2⟩ := HCS.out y g0 hlt
            exact hg.cell (Ext.cell HE.out h1) (fun h => by have := hfar _ h.symm; have : (ad0.add y.toNat).block = ad0.block := by unfold Addr.add; split <;> rfl
                                                            omega))
          clear hfar
          go_wp2_with fail
          apply wp_region_G 12 11 (fun w w' => w.grownBy w' u13.ownBlock) (fun _ _ h => ⟨h.os, h.tape, h.output, h.size, fun k hk _ => h.block k hk⟩) (fun _ _ _ h k => h.trans k) [GF.val u13, GF.val (.slice (some ad0) 8 c0), GF.val (.int .i64 y), GF.val (.pointer (some (ad0.add y.toNat))), GF.val (.int .u32 (rd s.l y)), GF.val (.slice (some ad1) 8 c1), GF.val (.int .i64 y), GF.val (.pointer (some (ad1.add y.toNat))), GF.val (.int .u32 (rd R.l y)), GF.val (.int .u32 (ad (rd s.l y) (rd R.l y))), GF.fact false (fun u Wd => ∃ aq, u = .slice (some aq) 1 1 ∧ Wd.cell? aq = some (.int .u32 (ad (rd s.l y) (rd R.l y)))), GF.fact true (fun u Wd => NU Wd wx.heap.size u (T.take y.toNat ++ [ad (rd s.l y) (rd R.l y)]))] (by kernel_rfl) (by kernel_rfl)
          simp only [List.take_succ_cons, List.take_zero, List.zip_cons_cons, List.zip_nil_left]
          iterate 4 (refine wpG_val (by rfl) (by decide) (fun w' hT hD => ?_) ?_; (unfold YldG; go_simp; exact ⟨Ext.refl _, rfl⟩); (try simp only [Act.put, List.setIfInBounds_toArray, List.set_cons_zero, List.set_cons_succ]))
          refine wpG_val (by rfl) (by decide) (fun w' hT hD => ?_) ?_; (have hcx := HCS'.out w' hT; unfold YldG; go_simp; exact ⟨Ext.refl _, rfl⟩); (try simp only [Act.put, List.setIfInBounds_toArray, List.set_cons_zero, List.set_cons_succ])
          iterate 3 (refine wpG_val (by rfl) (by decide) (fun w' hT hD => ?_) ?_; (unfold YldG; go_simp; exact ⟨Ext.refl _, rfl⟩); (try simp only [Act.put, List.setIfInBounds_toArray, List.set_cons_zero, List.set_cons_succ]))
          refine wpG_val (by rfl) (by decide) (fun w' hT hD => ?_) ?_; (have hcx := HCX'.out w' hT; unfold YldG; go_simp; exact ⟨Ext.refl _, rfl⟩); (try simp only [Act.put, List.setIfInBounds_toArray, List.set_cons_zero, List.set_cons_succ])
          refine wpG_val (by rfl) (by decide) (fun w' hT hD => ?_) ?_; (unfold YldG; go_simp; exact ⟨Ext.refl _, congrArg (Value.int .u32) (wrapAd _ _)⟩); (try simp only [Act.put, List.setIfInBounds_toArray, List.set_cons_zero, List.set_cons_succ])
          refine wpG_fact (by rfl) (by decide) (fun h => absurd h (by decide)) (fun u Wa Wb h he => ?_) (fun w' hT hD => ?_) (fun u10 => ?_)
          · obtain ⟨aq, h1, h2⟩ := h
            exact ⟨aq, h1, Ext.cell he h2⟩
          · unfold YldG
            go_simp
            exact ⟨(Ext.refl w').alloc _, ⟨w'.heap.size, 0, none⟩, rfl, (Blk.new w' _ 39).cell 0 rfl⟩
          (try simp only [Act.put, List.setIfInBounds_toArray, List.set_cons_zero, List.set_cons_succ])
          refine wpG_here (by rfl) rfl (fun u W W' h he => Kd.R_below h he) (fun w' hE hD => ?_) (fun u11 => ?_)
          · obtain ⟨aq, h1, h2⟩ := hD.1 rfl (by kernel_rfl)
            subst h1
            exact YldG_append (.tmp 140) (.tmp 150) rfl u13 aq rfl rfl wx.heap.size (T.take y.toNat) (ad (rd s.l y) (rd R.l y)) (Kd.R_below HN.out hE) h2 (Nat.le_trans HE.out.size hE.size) (by rw [List.length_take, HTL.out]; omega) (fun w1 hg => hg)
          (try simp only [Act.put, List.setIfInBounds_toArray, List.set_cons_zero, List.set_cons_succ])
          refine wpG_nil fun w9 hT hA => ?_
          have HN9 := Aside0.mk (show NU w9 wx.heap.size u11 (T.take (y + 1).toNat) by rw [← HTT.out y g0 hlt]; exact hA.2.1 rfl)
          have HE9 := Aside0.mk (show Ext wx w9 from ⟨hT.os.trans HE.out.os, hT.tape.trans HE.out.tape, hT.output.trans HE.out.output, Nat.le_trans HE.out.size hT.size, fun k hk => (hT.block k (Nat.lt_of_lt_of_le hk HE.out.size) (fun h => by have := HFR.out k h.symm; omega)).trans (HE.out.block k hk)⟩)
          clear hA hT HN HE HCX' HCS' HFR
          simp only [List.drop_succ_cons, List.drop_zero]
          go_wp2_with fail
          go_roundw
          case rel => exact ⟨y + 1, rfl, ⟨by omega, by omega⟩, HN9, HE9⟩
          case measure => have := HLT.out; simp only [intOf]; omega
        · have hy : y = 8 := by omega
          subst hy
          have HN8 := Aside0.mk (show NU wy wx.heap.size u13 T by have := HN.out; rwa [List.take_of_length_le (by rw [HTL.out]; decide)] at this)
          clear HN HY g0 g1 hlt
          go_wp2_with fail
          go_ret
          exact ⟨u13, rfl, by rw [HTE.out]; exact Kd.R_lower HN8.out HEZ.out.size, HEZ.out.trans HE.out⟩
end Go.Proofs.YtbnbncnmhhioeaaDoor.By
