/- Layer 7: DiskPlays. -/
import Derived.Test.YtkgjcmolmogpdaaTw
import Derived.Test.YtkgjcmolmogpdaaKi
import Derived.Test.YtkgjcmolmogpdaaKn
namespace Go.Proofs.Ytkgjcmolmogpdaa.By
open Go.RowKit Go.Proofs.Ytkgjcmolmogpdaa.Reg Go.Proofs.YtkgjcmolmogpdaaW.PrintWords Go.Proofs.YtkgjcmolmogpdaaW.PrintLast Go.Proofs.YtkgjcmolmogpdaaW.PrintMore
set_option linter.unusedVariables false
set_option linter.unusedSimpArgs false


variable {X : Nat → Prop}
theorem RBX.cells {w : World} {bm bq n : Nat} {f : Nat → List Int} {g : Nat → Option (List Int)} {left : Int} {off : Bool} {wt : Int} {rq : List Int} (h : RBX X w bm bq n f g left off wt rq) : w.cell? ⟨bm, 0, none⟩ = some (.int .i64 n) ∧ w.cell? ⟨bm, 2, none⟩ = some (.int .i64 wt) ∧ w.cell? ⟨bm, 3, none⟩ = some (.bool off) := by
  obtain ⟨VL, VC, l, k, h1, _⟩ := h
  obtain ⟨c0, c1, c2, c3, c4, c5, c6⟩ := h1.cells
  exact ⟨c0, c2, c3⟩
theorem cnt_out {rd : List Int} {i : Int} {n : Nat} (h : inB i n = false) : cntF rd i n = 0 := by unfold cntF; rw [h]; rfl
section
variable {w : World} {bd bl bc br n : Nat} {f : Nat → List Int} {g : Nat → Option (List Int)} {ar : Bool} {lf : Int} {of : Bool} {wt : Int} {rd : List Int}
theorem d_lenE (h : DBX X w bd bl bc br n f g ar lf of wt rd) : Calls Try.prog 64 #[.pointer (some ⟨bd, 0, none⟩)] w fun e w' => e = .returned (.int .i64 n) ∧ Ext w w' := by
  obtain ⟨LV, CV, h1, h2⟩ := h
  exact (len_calls h1).mono fun e w' ⟨a, b⟩ => ⟨a, b ▸ Ext.refl _⟩
theorem d_downE (h : DBX X w bd bl bc br n f g ar lf of wt rd) : Calls Try.prog 24 #[.pointer (some ⟨bd, 0, none⟩)] w fun e w' => e = .returned (.bool of) ∧ Ext w w' := (d_down h).mono fun e w' ⟨a, b⟩ => ⟨a, b ▸ Ext.refl _⟩
theorem d_writesE (h : DBX X w bd bl bc br n f g ar lf of wt rd) : Calls Try.prog 26 #[.pointer (some ⟨bd, 0, none⟩)] w fun e w' => e = .returned (.int .i64 wt) ∧ Ext w w' := (d_writes h).mono fun e w' ⟨a, b⟩ => ⟨a, b ▸ Ext.refl _⟩
theorem d_readsE (h : DBX X w bd bl bc br n f g ar lf of wt rd) (i : Int) (hi : inB i n = false) : Calls Try.prog 25 #[.pointer (some ⟨bd, 0, none⟩), .int .i64 i] w fun e w' => e = .returned (.int .i64 0) ∧ Ext w w' := by
  rw [← cnt_out (rd := rd) hi]
  exact (d_reads h i).mono fun e w' ⟨a, b⟩ => ⟨a, b ▸ Ext.refl _⟩
end
theorem dirtyB_len (g : Nat → Option (List Int)) (n : Nat) : (dirtyB g n).length ≤ n := by
  unfold dirtyB
  rw [List.length_map]
  exact Nat.le_trans (List.length_filter_le _ _) (by simp)
def NiQ (xs : List Int) (u : Value) (w : World) : Prop := NI w 0 u xs
theorem NiQ.ext {xs : List Int} {u : Value} {w w' : World} (h : NiQ xs u w) (he : Ext w w') : NiQ xs u w' := Kd.R_below (show NI w 0 u xs from h) he
theorem NI.reads {w : World} {B : Nat} {V : Value} {xs : List Int} (h : NI w B V xs) : ∃ A c, V = .slice A xs.length c ∧ xs.length ≤ c ∧ Kd.C kI w A xs.length xs := Kd.R_reads h
theorem NI.chg {w w' : World} {S : Nat → Prop} {B : Nat} {V : Value} {xs : List Int} (h : NI w B V xs) (k : Chg w w' S) (hn : ∀ j, V.ownBlock = some j → ¬ S j) : NI w' B V xs := by
  have h1 := Kd.R_tight (d := kI) rfl h
  exact Kd.R_mono (Kd.R_step h1 (fun j hj hlt => k.block j hlt (hn j hj.symm))) (fun _ _ => trivial)
theorem NB.nat {w : World} {B : Nat} {V : Value} {xs : List Int} (h : NB w B V xs) {n : Nat} (hn : n = xs.length) : ∃ A c, V = .slice A n c ∧ n ≤ c ∧ Kd.C kb w A n xs := by
  subst hn
  exact h.reads
theorem NI.nat {w : World} {B : Nat} {V : Value} {xs : List Int} (h : NI w B V xs) {n : Nat} (hn : n = xs.length) : ∃ A c, V = .slice A n c ∧ n ≤ c ∧ Kd.C kI w A n xs := by
  subst hn
  exact h.reads
theorem Chg.of_kept {w0 w w' : World} {S : Nat → Prop} (h0 : Ext w0 w) (h1 : Ext w0 w') (hk : Kept w w' S) : Chg w w' S := ⟨h1.os.trans h0.os.symm, h1.tape.trans h0.tape.symm, h1.output.trans h0.output.symm, hk.1, fun k hlt hn => hk.2 k hlt hn⟩
def TWE (w : World) (bd bl bc br bm bq n : Nat) : Prop := ∃ s ar lf left, TW (fun _ => False) w bd bl bc br bm bq n s ar lf s left ∧ Lft ar lf left
section
variable {w0 w w' : World} {bd bl bc br bm bq n : Nat} {s t : RS} {ar : Bool} {lf left : Int}
theorem TW.offT (h : TW X w bd bl bc br bm bq n s ar lf t left) {B : Nat} {V : Value} {xs : List Int} (hx : NB w B V xs) : ∀ j, V.ownBlock = some j → ¬ Tst bd bl bc br bm bq j := by
  obtain ⟨LV, CV, h1, h2⟩ := h.d
  obtain ⟨VL, VC, l, kk, r1, _⟩ := h.r
  intro j hj hs
  rcases hs with hs | hs
  · exact hx.apart h1 j hj hs
  · obtain ⟨cells, hc⟩ := hx.typed j hj
    exact r1.apart hc (by decide) (by decide) hs
set_option maxRecDepth 100000 in
set_option maxHeartbeats 2000000 in
theorem alike_calls (h : TW (fun _ => False) w bd bl bc br bm bq n s ar lf s left) :
    Calls Try.prog 33 #[.pointer (some ⟨bd, 0, none⟩), .pointer (some ⟨bm, 0, none⟩)] w fun e w' => e = .returned (.bool true) ∧ (∃ s', TW (fun _ => False) w' bd bl bc br bm bq n s' ar lf s' left) ∧ Chg w w' (Tst bd bl bc br bm bq) := by
  have HT := Aside0.mk h
  have HNN := Aside0.mk (show n ≤ 4096 from by obtain ⟨LV, CV, h1, h2⟩ := h.d; exact h1.nn.2)
  have HDB := Aside0.mk (show (dirtyB s.g n).length ≤ 4096 from by have := dirtyB_len s.g n; have := HNN.out; omega)
  have hin1 : inB (-1) n = false := by unfold inB; rw [decide_eq_false (by omega : ¬ (0 : Int) ≤ -1)]; rfl
  have hin2 : inB (n : Int) n = false := by unfold inB; rw [decide_eq_false (by omega : ¬ (n : Int) < n)]; simp
  have HI := Aside0.mk (And.intro hin1 hin2)
  clear h hin1 hin2
  go_enter Try.func33, Try.ntmps33
  go_wp2_with fail
  refine (d_dirty HT.out.d).mono ?_
  rintro e w1 ⟨V, rfl, hV, hE⟩
  have HV := Aside0.mk hV
  have HE := Aside0.mk hE
  have HT1 := Aside0.mk (HT.out.ext hE)
  obtain ⟨nV, hnV⟩ : ∃ nV, nV = (dirtyB s.g n).length := ⟨_, rfl⟩
  have HNV := Aside0.mk hnV
  obtain ⟨AV, cV, hVe, hcV, hCV⟩ := NI.nat hV hnV
  have HCV := Aside0.mk hCV
  subst hVe
  obtain ⟨c0, c2, c3⟩ := HT1.out.r.cells
  clear hV hE hnV hCV
  go_wp2_with fail
  apply wp_region_facts 46 [RF.val _, RF.val _, RF.val _, RF.val _, RF.val _, RF.val _, RF.val _, RF.val _, RF.val _, RF.val _, RF.val _, RF.val _, RF.val _, RF.val _, RF.val _, RF.val _, RF.val _, RF.val _, RF.val _, RF.val _, RF.val _, RF.val _, RF.val _, RF.val _, RF.val _, RF.val _, RF.val _, RF.val _, RF.fact (fun u w => NiQ (dirtyB s.g n) u w), RF.val _, RF.val _, RF.val _, RF.val _, RF.val _, RF.val _, RF.val _, RF.val _, RF.val _, RF.val _, RF.val _, RF.val _, RF.val _, RF.val _, RF.val _, RF.val _, RF.val _]
  case hm => kernel_rfl
  case hB => kernel_rfl
  simp only [List.take_succ_cons, List.take_zero, List.zip_cons_cons, List.zip_nil_left]
  (first | refine wpF_val rfl (fun w' hE hD => by unfold Yld; go_simp; exact ⟨Ext.refl _, rfl⟩) ?_ | refine wpF_valg (by rfl) (fun w' hE hD => by unfold Yld; go_simp; exact ⟨Ext.refl _, rfl⟩) ?_)
  (try simp only [Act.put, List.setIfInBounds_toArray, List.set_cons_zero, List.set_cons_succ])
  (first | refine wpF_val rfl (fun w' hE hD => by unfold Yld; go_simp; exact (d_lenE (HT1.out.d.ext hE)).mono fun e w2 h => ⟨_, h.1, h.2, rfl⟩) ?_ | refine wpF_valg (by rfl) (fun w' hE hD => by unfold Yld; go_simp; exact (d_lenE (HT1.out.d.ext hE)).mono fun e w2 h => ⟨_, h.1, h.2, rfl⟩) ?_)
  (try simp only [Act.put, List.setIfInBounds_toArray, List.set_cons_zero, List.set_cons_succ])
  (first | refine wpF_val rfl (fun w' hE hD => by unfold Yld; go_simp; exact ⟨Ext.refl _, rfl⟩) ?_ | refine wpF_valg (by rfl) (fun w' hE hD => by unfold Yld; go_simp; exact ⟨Ext.refl _, rfl⟩) ?_)
  (try simp only [Act.put, List.setIfInBounds_toArray, List.set_cons_zero, List.set_cons_succ])
  (first | refine wpF_val rfl (fun w' hE hD => by unfold Yld; go_simp; exact ⟨Ext.refl _, rfl⟩) ?_ | refine wpF_valg (by rfl) (fun w' hE hD => by unfold Yld; go_simp; exact ⟨Ext.refl _, rfl⟩) ?_)
  (try simp only [Act.put, List.setIfInBounds_toArray, List.set_cons_zero, List.set_cons_succ])
  (first | refine wpF_val rfl (fun w' hE hD => by unfold Yld; go_simp; exact ⟨Ext.refl _, rfl⟩) ?_ | refine wpF_valg (by rfl) (fun w' hE hD => by unfold Yld; go_simp; exact ⟨Ext.refl _, rfl⟩) ?_)
  (try simp only [Act.put, List.setIfInBounds_toArray, List.set_cons_zero, List.set_cons_succ])
  (first | refine wpF_val rfl (fun w' hE hD => by have hc0 := Ext.cell hE c0; unfold Yld; go_simp; exact ⟨Ext.refl _, rfl⟩) ?_ | refine wpF_valg (by rfl) (fun w' hE hD => by have hc0 := Ext.cell hE c0; unfold Yld; go_simp; exact ⟨Ext.refl _, rfl⟩) ?_)
  (try simp only [Act.put, List.setIfInBounds_toArray, List.set_cons_zero, List.set_cons_succ])
  (first | refine wpF_val rfl (fun w' hE hD => by unfold Yld; go_simp; exact ⟨Ext.refl _, rfl⟩) ?_ | refine wpF_valg (by rfl) (fun w' hE hD => by unfold Yld; go_simp; exact ⟨Ext.refl _, rfl⟩) ?_)
  (try simp only [Act.put, List.setIfInBounds_toArray, List.set_cons_zero, List.set_cons_succ])
  (first | refine wpF_val rfl (fun w' hE hD => by unfold Yld; go_simp; exact ⟨Ext.refl _, rfl⟩) ?_ | refine wpF_valg (by rfl) (fun w' hE hD => by unfold Yld; go_simp; exact ⟨Ext.refl _, rfl⟩) ?_)
  (try simp only [Act.put, List.setIfInBounds_toArray, List.set_cons_zero, List.set_cons_succ])
  (first | refine wpF_val rfl (fun w' hE hD => by unfold Yld; go_simp; exact ⟨Ext.refl _, rfl⟩) ?_ | refine wpF_valg (by rfl) (fun w' hE hD => by unfold Yld; go_simp; exact ⟨Ext.refl _, rfl⟩) ?_)
  (try simp only [Act.put, List.setIfInBounds_toArray, List.set_cons_zero, List.set_cons_succ])
  (first | refine wpF_val rfl (fun w' hE hD => by unfold Yld; go_simp; exact (d_downE (HT1.out.d.ext hE)).mono fun e w2 h => ⟨_, h.1, h.2, rfl⟩) ?_ | refine wpF_valg (by rfl) (fun w' hE hD => by unfold Yld; go_simp; exact (d_downE (HT1.out.d.ext hE)).mono fun e w2 h => ⟨_, h.1, h.2, rfl⟩) ?_)
  (try simp only [Act.put, List.setIfInBounds_toArray, List.set_cons_zero, List.set_cons_succ])
  (first | refine wpF_val rfl (fun w' hE hD => by unfold Yld; go_simp; exact ⟨Ext.refl _, rfl⟩) ?_ | refine wpF_valg (by rfl) (fun w' hE hD => by unfold Yld; go_simp; exact ⟨Ext.refl _, rfl⟩) ?_)
  (try simp only [Act.put, List.setIfInBounds_toArray, List.set_cons_zero, List.set_cons_succ])
  (first | refine wpF_val rfl (fun w' hE hD => by unfold Yld; go_simp; exact ⟨Ext.refl _, rfl⟩) ?_ | refine wpF_valg (by rfl) (fun w' hE hD => by unfold Yld; go_simp; exact ⟨Ext.refl _, rfl⟩) ?_)
  (try simp only [Act.put, List.setIfInBounds_toArray, List.set_cons_zero, List.set_cons_succ])
  (first | refine wpF_val rfl (fun w' hE hD => by unfold Yld; go_simp; exact ⟨Ext.refl _, rfl⟩) ?_ | refine wpF_valg (by rfl) (fun w' hE hD => by unfold Yld; go_simp; exact ⟨Ext.refl _, rfl⟩) ?_)
  (try simp only [Act.put, List.setIfInBounds_toArray, List.set_cons_zero, List.set_cons_succ])
  (first | refine wpF_val rfl (fun w' hE hD => by have hc3 := Ext.cell hE c3; unfold Yld; go_simp; exact ⟨Ext.refl _, rfl⟩) ?_ | refine wpF_valg (by rfl) (fun w' hE hD => by have hc3 := Ext.cell hE c3; unfold Yld; go_simp; exact ⟨Ext.refl _, rfl⟩) ?_)
  (try simp only [Act.put, List.setIfInBounds_toArray, List.set_cons_zero, List.set_cons_succ])
  (first | refine wpF_val rfl (fun w' hE hD => by unfold Yld; go_simp; exact ⟨Ext.refl _, rfl⟩) ?_ | refine wpF_valg (by rfl) (fun w' hE hD => by unfold Yld; go_simp; exact ⟨Ext.refl _, rfl⟩) ?_)
  (try simp only [Act.put, List.setIfInBounds_toArray, List.set_cons_zero, List.set_cons_succ])
  (first | refine wpF_val rfl (fun w' hE hD => by unfold Yld; go_simp; exact ⟨Ext.refl _, rfl⟩) ?_ | refine wpF_valg (by rfl) (fun w' hE hD => by unfold Yld; go_simp; exact ⟨Ext.refl _, rfl⟩) ?_)
  (try simp only [Act.put, List.setIfInBounds_toArray, List.set_cons_zero, List.set_cons_succ])
  (first | refine wpF_val rfl (fun w' hE hD => by unfold Yld; go_simp; exact ⟨Ext.refl _, rfl⟩) ?_ | refine wpF_valg (by rfl) (fun w' hE hD => by unfold Yld; go_simp; exact ⟨Ext.refl _, rfl⟩) ?_)
  (try simp only [Act.put, List.setIfInBounds_toArray, List.set_cons_zero, List.set_cons_succ])
  (first | refine wpF_val rfl (fun w' hE hD => by unfold Yld; go_simp; exact ⟨Ext.refl _, rfl⟩) ?_ | refine wpF_valg (by rfl) (fun w' hE hD => by unfold Yld; go_simp; exact ⟨Ext.refl _, rfl⟩) ?_)
  (try simp only [Act.put, List.setIfInBounds_toArray, List.set_cons_zero, List.set_cons_succ])
  (first | refine wpF_val rfl (fun w' hE hD => by unfold Yld; go_simp; exact (d_writesE (HT1.out.d.ext hE)).mono fun e w2 h => ⟨_, h.1, h.2, rfl⟩) ?_ | refine wpF_valg (by rfl) (fun w' hE hD => by unfold Yld; go_simp; exact (d_writesE (HT1.out.d.ext hE)).mono fun e w2 h => ⟨_, h.1, h.2, rfl⟩) ?_)
  (try simp only [Act.put, List.setIfInBounds_toArray, List.set_cons_zero, List.set_cons_succ])
  (first | refine wpF_val rfl (fun w' hE hD => by unfold Yld; go_simp; exact ⟨Ext.refl _, rfl⟩) ?_ | refine wpF_valg (by rfl) (fun w' hE hD => by unfold Yld; go_simp; exact ⟨Ext.refl _, rfl⟩) ?_)
  (try simp only [Act.put, List.setIfInBounds_toArray, List.set_cons_zero, List.set_cons_succ])
  (first | refine wpF_val rfl (fun w' hE hD => by unfold Yld; go_simp; exact ⟨Ext.refl _, rfl⟩) ?_ | refine wpF_valg (by rfl) (fun w' hE hD => by unfold Yld; go_simp; exact ⟨Ext.refl _, rfl⟩) ?_)
  (try simp only [Act.put, List.setIfInBounds_toArray, List.set_cons_zero, List.set_cons_succ])
  (first | refine wpF_val rfl (fun w' hE hD => by unfold Yld; go_simp; exact ⟨Ext.refl _, rfl⟩) ?_ | refine wpF_valg (by rfl) (fun w' hE hD => by unfold Yld; go_simp; exact ⟨Ext.refl _, rfl⟩) ?_)
  (try simp only [Act.put, List.setIfInBounds_toArray, List.set_cons_zero, List.set_cons_succ])
  (first | refine wpF_val rfl (fun w' hE hD => by have hc2 := Ext.cell hE c2; unfold Yld; go_simp; exact ⟨Ext.refl _, rfl⟩) ?_ | refine wpF_valg (by rfl) (fun w' hE hD => by have hc2 := Ext.cell hE c2; unfold Yld; go_simp; exact ⟨Ext.refl _, rfl⟩) ?_)
  (try simp only [Act.put, List.setIfInBounds_toArray, List.set_cons_zero, List.set_cons_succ])
  (first | refine wpF_val rfl (fun w' hE hD => by unfold Yld; go_simp; exact ⟨Ext.refl _, rfl⟩) ?_ | refine wpF_valg (by rfl) (fun w' hE hD => by unfold Yld; go_simp; exact ⟨Ext.refl _, rfl⟩) ?_)
  (try simp only [Act.put, List.setIfInBounds_toArray, List.set_cons_zero, List.set_cons_succ])
  (first | refine wpF_val rfl (fun w' hE hD => by unfold Yld; go_simp; exact ⟨Ext.refl _, rfl⟩) ?_ | refine wpF_valg (by rfl) (fun w' hE hD => by unfold Yld; go_simp; exact ⟨Ext.refl _, rfl⟩) ?_)
  (try simp only [Act.put, List.setIfInBounds_toArray, List.set_cons_zero, List.set_cons_succ])
  (first | refine wpF_val rfl (fun w' hE hD => by unfold Yld; go_simp; exact ⟨Ext.refl _, rfl⟩) ?_ | refine wpF_valg (by rfl) (fun w' hE hD => by unfold Yld; go_simp; exact ⟨Ext.refl _, rfl⟩) ?_)
  (try simp only [Act.put, List.setIfInBounds_toArray, List.set_cons_zero, List.set_cons_succ])
  (first | refine wpF_val rfl (fun w' hE hD => by unfold Yld; go_simp; exact ⟨Ext.refl _, rfl⟩) ?_ | refine wpF_valg (by rfl) (fun w' hE hD => by unfold Yld; go_simp; exact ⟨Ext.refl _, rfl⟩) ?_)
  (try simp only [Act.put, List.setIfInBounds_toArray, List.set_cons_zero, List.set_cons_succ])
  (first | refine wpF_val rfl (fun w' hE hD => by unfold Yld; go_simp; exact ⟨Ext.refl _, rfl⟩) ?_ | refine wpF_valg (by rfl) (fun w' hE hD => by unfold Yld; go_simp; exact ⟨Ext.refl _, rfl⟩) ?_)
  (try simp only [Act.put, List.setIfInBounds_toArray, List.set_cons_zero, List.set_cons_succ])
  refine wpF_factg (by rfl) (fun u Wa Wb h he => h.ext he) (fun w' hE hD => ?_) (fun u41 => ?_)
  · unfold Yld; go_simp; exact (rb_dirty (HT1.out.r.ext hE)).mono fun e w2 h => by obtain ⟨U, h1, h2, h3⟩ := h; exact ⟨U, h1, h3, Kd.R_lower h2 (Nat.zero_le _)⟩
  (try simp only [Act.put, List.setIfInBounds_toArray, List.set_cons_zero, List.set_cons_succ])
  (first | refine wpF_val rfl (fun w' hE hD => by have hq := hD.1 (by kernel_rfl); obtain ⟨A2, c2', e2, hc2', hC2⟩ := NI.nat hq HNV.out; rw [e2]; unfold Yld; go_simp; exact (sameI_at w' AV A2 cV c2' _ _ true HNV.out HNV.out (by simp) (Kd.C_below HCV.out hE) hcV hC2 hc2' (by have := HDB.out; omega)).mono fun e w2 h => ⟨_, h.1, h.2, rfl⟩) ?_ | refine wpF_valg (by rfl) (fun w' hE hD => by have hq := hD.1 (by kernel_rfl); obtain ⟨A2, c2', e2, hc2', hC2⟩ := NI.nat hq HNV.out; rw [e2]; unfold Yld; go_simp; exact (sameI_at w' AV A2 cV c2' _ _ true HNV.out HNV.out (by simp) (Kd.C_below HCV.out hE) hcV hC2 hc2' (by have := HDB.out; omega)).mono fun e w2 h => ⟨_, h.1, h.2, rfl⟩) ?_)
  (try simp only [Act.put, List.setIfInBounds_toArray, List.set_cons_zero, List.set_cons_succ])
  (first | refine wpF_val rfl (fun w' hE hD => by unfold Yld; go_simp; exact ⟨Ext.refl _, rfl⟩) ?_ | refine wpF_valg (by rfl) (fun w' hE hD => by unfold Yld; go_simp; exact ⟨Ext.refl _, rfl⟩) ?_)
  (try simp only [Act.put, List.setIfInBounds_toArray, List.set_cons_zero, List.set_cons_succ])
  (first | refine wpF_val rfl (fun w' hE hD => by unfold Yld; go_simp; exact ⟨Ext.refl _, rfl⟩) ?_ | refine wpF_valg (by rfl) (fun w' hE hD => by unfold Yld; go_simp; exact ⟨Ext.refl _, rfl⟩) ?_)
  (try simp only [Act.put, List.setIfInBounds_toArray, List.set_cons_zero, List.set_cons_succ])
  (first | refine wpF_val rfl (fun w' hE hD => by unfold Yld; go_simp; exact ⟨Ext.refl _, rfl⟩) ?_ | refine wpF_valg (by rfl) (fun w' hE hD => by unfold Yld; go_simp; exact ⟨Ext.refl _, rfl⟩) ?_)
  (try simp only [Act.put, List.setIfInBounds_toArray, List.set_cons_zero, List.set_cons_succ])
  (first | refine wpF_val rfl (fun w' hE hD => by unfold Yld; go_simp; exact ⟨Ext.refl _, rfl⟩) ?_ | refine wpF_valg (by rfl) (fun w' hE hD => by unfold Yld; go_simp; exact ⟨Ext.refl _, rfl⟩) ?_)
  (try simp only [Act.put, List.setIfInBounds_toArray, List.set_cons_zero, List.set_cons_succ])
  (first | refine wpF_val rfl (fun w' hE hD => by unfold Yld; go_simp; exact (d_readsE (HT1.out.d.ext hE) _ HI.out.1).mono fun e w2 h => ⟨_, h.1, h.2, rfl⟩) ?_ | refine wpF_valg (by rfl) (fun w' hE hD => by unfold Yld; go_simp; exact (d_readsE (HT1.out.d.ext hE) _ HI.out.1).mono fun e w2 h => ⟨_, h.1, h.2, rfl⟩) ?_)
  (try simp only [Act.put, List.setIfInBounds_toArray, List.set_cons_zero, List.set_cons_succ])
  (first | refine wpF_val rfl (fun w' hE hD => by unfold Yld; go_simp; exact ⟨Ext.refl _, rfl⟩) ?_ | refine wpF_valg (by rfl) (fun w' hE hD => by unfold Yld; go_simp; exact ⟨Ext.refl _, rfl⟩) ?_)
  (try simp only [Act.put, List.setIfInBounds_toArray, List.set_cons_zero, List.set_cons_succ])
  (first | refine wpF_val rfl (fun w' hE hD => by unfold Yld; go_simp; exact ⟨Ext.refl _, rfl⟩) ?_ | refine wpF_valg (by rfl) (fun w' hE hD => by unfold Yld; go_simp; exact ⟨Ext.refl _, rfl⟩) ?_)
  (try simp only [Act.put, List.setIfInBounds_toArray, List.set_cons_zero, List.set_cons_succ])
  (first | refine wpF_val rfl (fun w' hE hD => by unfold Yld; go_simp; exact ⟨Ext.refl _, rfl⟩) ?_ | refine wpF_valg (by rfl) (fun w' hE hD => by unfold Yld; go_simp; exact ⟨Ext.refl _, rfl⟩) ?_)
  (try simp only [Act.put, List.setIfInBounds_toArray, List.set_cons_zero, List.set_cons_succ])
  (first | refine wpF_val rfl (fun w' hE hD => by unfold Yld; go_simp; exact ⟨Ext.refl _, rfl⟩) ?_ | refine wpF_valg (by rfl) (fun w' hE hD => by unfold Yld; go_simp; exact ⟨Ext.refl _, rfl⟩) ?_)
  (try simp only [Act.put, List.setIfInBounds_toArray, List.set_cons_zero, List.set_cons_succ])
  (first | refine wpF_val rfl (fun w' hE hD => by unfold Yld; go_simp; exact ⟨Ext.refl _, rfl⟩) ?_ | refine wpF_valg (by rfl) (fun w' hE hD => by unfold Yld; go_simp; exact ⟨Ext.refl _, rfl⟩) ?_)
  (try simp only [Act.put, List.setIfInBounds_toArray, List.set_cons_zero, List.set_cons_succ])
  (first | refine wpF_val rfl (fun w' hE hD => by unfold Yld; go_simp; exact ⟨Ext.refl _, rfl⟩) ?_ | refine wpF_valg (by rfl) (fun w' hE hD => by unfold Yld; go_simp; exact ⟨Ext.refl _, rfl⟩) ?_)
  (try simp only [Act.put, List.setIfInBounds_toArray, List.set_cons_zero, List.set_cons_succ])
  (first | refine wpF_val rfl (fun w' hE hD => by unfold Yld; go_simp; exact ⟨Ext.refl _, rfl⟩) ?_ | refine wpF_valg (by rfl) (fun w' hE hD => by unfold Yld; go_simp; exact ⟨Ext.refl _, rfl⟩) ?_)
  (try simp only [Act.put, List.setIfInBounds_toArray, List.set_cons_zero, List.set_cons_succ])
  (first | refine wpF_val rfl (fun w' hE hD => by have hc0 := Ext.cell hE c0; unfold Yld; go_simp; exact ⟨Ext.refl _, rfl⟩) ?_ | refine wpF_valg (by rfl) (fun w' hE hD => by have hc0 := Ext.cell hE c0; unfold Yld; go_simp; exact ⟨Ext.refl _, rfl⟩) ?_)
  (try simp only [Act.put, List.setIfInBounds_toArray, List.set_cons_zero, List.set_cons_succ])
  (first | refine wpF_val rfl (fun w' hE hD => by unfold Yld; go_simp; exact (d_readsE (HT1.out.d.ext hE) _ HI.out.2).mono fun e w2 h => ⟨_, h.1, h.2, rfl⟩) ?_ | refine wpF_valg (by rfl) (fun w' hE hD => by unfold Yld; go_simp; exact (d_readsE (HT1.out.d.ext hE) _ HI.out.2).mono fun e w2 h => ⟨_, h.1, h.2, rfl⟩) ?_)
  (try simp only [Act.put, List.setIfInBounds_toArray, List.set_cons_zero, List.set_cons_succ])
  (first | refine wpF_val rfl (fun w' hE hD => by unfold Yld; go_simp; exact ⟨Ext.refl _, rfl⟩) ?_ | refine wpF_valg (by rfl) (fun w' hE hD => by unfold Yld; go_simp; exact ⟨Ext.refl _, rfl⟩) ?_)
  (try simp only [Act.put, List.setIfInBounds_toArray, List.set_cons_zero, List.set_cons_succ])
  (first | refine wpF_val rfl (fun w' hE hD => by unfold Yld; go_simp; exact ⟨Ext.refl _, rfl⟩) ?_ | refine wpF_valg (by rfl) (fun w' hE hD => by unfold Yld; go_simp; exact ⟨Ext.refl _, rfl⟩) ?_)
  (try simp only [Act.put, List.setIfInBounds_toArray, List.set_cons_zero, List.set_cons_succ])
  refine wpF_nil fun w2 hE2 hA => ?_
  refine (show wpList _ _ _ [] _ _ from ?_)
  clear hA c0 c2 c3
  have HE2 := Aside0.mk (HE.out.trans hE2)
  have HV2 := Aside0.mk (show NI w2 w.heap.size (.slice AV nV cV) (dirtyB s.g n) from Kd.R_below HV.out hE2)
  clear hE2
  go_wp2_with fail
  refine (spoilI_calls w2 (dirtyB s.g n) w (.slice AV nV cV) HE2.out HV2.out (by have := HDB.out; omega)).mono ?_
  rintro e w3 ⟨rfl, hE3, _⟩
  have HT3 := Aside0.mk (HT.out.ext hE3)
  have HC3 := Aside0.mk (Chg.of_ext hE3 (Tst bd bl bc br bm bq))
  clear hE3 HE2 HV2 HCV HV HE HT1
  go_wp2_with fail
  go_loopw [6] (fun i wr => ∃ (x : Nat), i = .int .i64 x ∧ Aside0 (x ≤ n) ∧ ∃ s', Aside0 (TW (fun _ => False) wr bd bl bc br bm bq n s' ar lf s' left) ∧ Aside0 (Chg w wr (Tst bd bl bc br bm bq))) (fun i _ => n - (intOf i).toNat)
  case atStart => exact ⟨0, rfl, ⟨Nat.zero_le _⟩, s, HT3, HC3⟩
  case round =>
    clear HT3 HC3
    obtain ⟨x, rfl, HX, s', HT, HC⟩ := hrel
    have g0 := HX.out
    obtain ⟨wx, hwx⟩ : ∃ wx : World, wx = wr := ⟨_, rfl⟩
    subst hwx
    obtain ⟨c0, c2, c3⟩ := HT.out.r.cells
    clear c2 c3
    have gn := HNN.out
    by_cases hlt : x < n
    · have HLT := Aside0.mk hlt
      have hdl : decide ((x : Int) < (n : Int)) = true := decide_eq_true (by omega)
      go_wp2_with fail
      refine (d_reads HT.out.d (x : Int)).mono ?_
      rintro e w4 ⟨rfl, rfl⟩
      go_wp2_with fail
      refine (rb_reads HT.out.r (x : Int)).mono ?_
      rintro e w4 ⟨rfl, rfl⟩
      clear c0
      go_wp2_with fail
      refine (tw_read HT.out x HLT.out).mono ?_
      rintro e w4 ⟨U, rfl, hU, hT, hC⟩
      have HU := Aside0.mk hU
      have HT4 := Aside0.mk hT
      have HC4 := Aside0.mk (HC.out.trans hC)
      clear hU hT hC HT HC
      go_wp2_with fail
      refine (tr_read HT4.out x HLT.out).mono ?_
      rintro e w5 ⟨U2, rfl, hU, hT, hC⟩
      have HU2 := Aside0.mk hU
      have HU1 := Aside0.mk (HT4.out.byt HU.out hC)
      have HT5 := Aside0.mk hT
      have HC5 := Aside0.mk (HC4.out.trans hC)
      have HL := Aside0.mk (show (atB s'.f s'.g x).length ≤ 1024 from by
        obtain ⟨LV, CV, h1, h2⟩ := HT4.out.d
        exact (h2.at_ x HLT.out).2.1)
      clear hU hT hC HT4 HC4 HU
      obtain ⟨nU, hnU⟩ : ∃ nU, nU = (atB s'.f s'.g x).length := ⟨_, rfl⟩
      obtain ⟨A1, c1, e1, hc1, hC1⟩ := HU1.out.nat hnU
      obtain ⟨A2, c2, e2, hc2, hC2⟩ := HU2.out.nat hnU
      subst e1 e2
      have HSM := Aside0.mk (same_at w5 A1 A2 c1 c2 _ _ true hnU hnU (by simp) hC1 hc1 hC2 hc2 (by have := HL.out; omega))
      clear hC1 hC2 hnU HU1 HU2
      go_wp2_with fail
      refine HSM.out.mono ?_
      rintro e w6 ⟨rfl, hE⟩
      have HT6 := Aside0.mk (HT5.out.ext hE)
      have HC6 := Aside0.mk (HC5.out.ext hE)
      clear hE HT5 HC5 HSM
      go_wp2_with fail
      go_roundw
      case rel => exact ⟨x + 1, by go_num, ⟨hlt⟩, _, HT6, HC6⟩
      case measure => have := HLT.out; simp only [intOf]; omega
    · obtain rfl : x = n := by omega
      go_wp2_with fail
      go_ret
      exact ⟨rfl, ⟨s', HT.out⟩, HC.out⟩
end
end Go.Proofs.Ytkgjcmolmogpdaa.By
