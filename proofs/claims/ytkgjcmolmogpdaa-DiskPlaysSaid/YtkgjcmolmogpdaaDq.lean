/- Layer 7: DiskPlays, an act with both. -/
import Derived.Test.YtkgjcmolmogpdaaDp
namespace Go.Proofs.Ytkgjcmolmogpdaa.By
open Go.RowKit Go.Proofs.Ytkgjcmolmogpdaa.Reg Go.Proofs.YtkgjcmolmogpdaaW.PrintWords Go.Proofs.YtkgjcmolmogpdaaW.PrintLast Go.Proofs.YtkgjcmolmogpdaaW.PrintMore
set_option linter.unusedVariables false
set_option linter.unusedSimpArgs false


theorem F_oldX {k : IntKind} {w0 w : World} {ok : Nat → Prop} {A : Option Addr} {n : Nat} {xs : List Int} (h : Kd.C (Kd.int k) w0 A n xs) (he : Ext w0 w) (hok : ∀ k, k < w0.heap.size → ok k) : Kd.F (Kd.int k) w ok A n xs := fun W' hW =>
  (Kd.heap_int k).C (fun k hk => (hW k (hok k hk) (Nat.lt_of_lt_of_le hk he.size)).trans (he.block k hk)) h
theorem NI.F {w : World} {B : Nat} {A : Option Addr} {n c : Nat} {xs : List Int} (h : NI w B (.slice A n c) xs) {ok : Nat → Prop} (hok : ∀ k, (Value.slice A n c).ownBlock = some k → ok k) : Kd.F kI w ok A n xs := Kd.N_F (Kd.R_N (Kd.R_mono (Kd.R_tight (d := kI) rfl h) (fun k hk => hok k hk.symm)))
theorem lent_at (w : World) (A : Option Addr) (c : Nat) (xs : List Int) {m : Nat} (hn : m = xs.length) (hr : Kd.C kb w A m xs) (hc : m ≤ c) (hl : m ≤ 2000) : Calls Try.prog 52 #[.slice A m c] w fun e w' => ∃ V, e = .returned V ∧ NB w' w.heap.size V (lent xs) ∧ Ext w w' := by
  subst hn
  exact lent_calls w A c xs hr hc (by omega)
theorem lentI_at (w : World) (A : Option Addr) (c : Nat) (xs : List Int) {m : Nat} (hn : m = xs.length) (hr : Kd.C kI w A m xs) (hc : m ≤ c) (hl : m ≤ 200) : Calls Try.prog 59 #[.slice A m c] w fun e w' => ∃ V, e = .returned V ∧ NI w' w.heap.size V (lentI xs) ∧ Ext w w' := by
  subst hn
  exact lentI_calls w A c xs hr hc (by omega)
theorem kept_at (w : World) (A B : Option Addr) (c d : Nat) (xs : List Int) {m5 m : Nat} (h5 : m5 = (lent xs).length) (hn : m = xs.length) (hr : Kd.C kb w A m5 (lent xs)) (hc : m5 ≤ c) (hr' : Kd.C kb w B m xs) (hc' : m ≤ d) (hl : m ≤ 2000) : Calls Try.prog 63 #[.slice A m5 c, .slice B m d] w fun e w' => e = .returned (.bool true) ∧ Ext w w' := by
  subst h5; subst hn
  exact kept_calls w A B c d xs (lent xs) rfl hr hc hr' hc' (by omega)
theorem keptI_at (w : World) (A B : Option Addr) (c d : Nat) (xs : List Int) {m5 m : Nat} (h5 : m5 = (lentI xs).length) (hn : m = xs.length) (hr : Kd.C kI w A m5 (lentI xs)) (hc : m5 ≤ c) (hr' : Kd.C kI w B m xs) (hc' : m ≤ d) (hl : m ≤ 200) : Calls Try.prog 61 #[.slice A m5 c, .slice B m d] w fun e w' => e = .returned (.bool true) ∧ Ext w w' := by
  subst h5; subst hn
  exact keptI_calls w A B c d xs (lentI xs) rfl hr hc hr' hc' (by omega)
/-- What an act with both leans on at each place: the lent bytes V, as they are, in old memory (blocks from w1s on, below w2s), and the act, boxed at bx. -/
structure AS (w0 w : World) (w1s w2s bx : Nat) (V : Value) (xs : List Int) (cs : Array Value) : Prop where
  nb : NB w w1s V (lent xs)
  vl : ∀ k, V.ownBlock = some k → k < w2s
  bb : Blk w bx cs 53
  he : Ext w0 w
  ws : w2s ≤ w.heap.size
  wb : w0.heap.size ≤ w1s
  w12 : w1s ≤ w2s
theorem AS.ext {w0 w w' : World} {w1s w2s bx : Nat} {V : Value} {xs : List Int} {cs : Array Value} (h : AS w0 w w1s w2s bx V xs cs) (k : Ext w w') : AS w0 w' w1s w2s bx V xs cs := ⟨h.nb.ext k, h.vl, h.bb.ext k, h.he.trans k, Nat.le_trans h.ws k.size, h.wb, h.w12⟩
section
variable {X : Nat → Prop} {w0 w w' : World} {w1s w2s bx : Nat} {V : Value} {xs : List Int} {cs : Array Value} {bd bl bc br bm bq n : Nat} {s t : RS} {ar : Bool} {lf left : Int}
theorem AS.tst (h : AS w0 w w1s w2s bx V xs cs) (hT : TW X w bd bl bc br bm bq n s ar lf t left) (hS : ∀ j, Tst bd bl bc br bm bq j → w0.heap.size ≤ j) (k : Chg w w' (Tst bd bl bc br bm bq)) : AS w0 w' w1s w2s bx V xs cs :=
  ⟨h.nb.chg k (hT.offT h.nb), h.vl, k.blk h.bb (hT.apart h.bb (by decide) (by decide) (by decide) (by decide)), k.to_ext h.he hS, Nat.le_trans h.ws k.size, h.wb, h.w12⟩
/-- Bytes that came later are written over. -/
theorem AS.spoil (h : AS w0 w w1s w2s bx V xs cs) {U : Value} {ys : List Int} {B : Nat} (hU : NB w B U ys) (hB : w2s ≤ B) (hbx : bx < w2s) (k : Chg w w' (fun j => U.ownBlock = some j)) (he : Ext w0 w') : AS w0 w' w1s w2s bx V xs cs :=
  ⟨h.nb.chg k (fun j hj hs => by have := h.vl j hj; have := Kd.R_base hU j hs; omega), h.vl, k.blk h.bb (fun hs => by have := Kd.R_base hU bx hs; omega), he, Nat.le_trans h.ws k.size, h.wb, h.w12⟩
theorem TW.spoilB (h : TW X w bd bl bc br bm bq n s ar lf t left) {U : Value} {ys : List Int} {B : Nat} (hU : NB w B U ys) (hX : ∀ j, U.ownBlock = some j → X j) (k : Chg w w' (fun j => U.ownBlock = some j)) : TW X w' bd bl bc br bm bq n s ar lf t left :=
  h.spoil k hX (fun j hj => h.offT hU j hj) (fun j hj => by
    obtain ⟨cells, hc⟩ := hU.typed j hj
    exact ⟨cells, 5, hc, by decide⟩)
end
section
variable {w0 w w' : World} {bd bl bc br bm bq n : Nat} {s : RS} {ar : Bool} {lf left : Int}
set_option maxRecDepth 100000 in
set_option maxHeartbeats 2000000 in
theorem does_calls (h : TW (fun _ => False) w bd bl bc br bm bq n s ar lf s left) (hl : Lft ar lf left) (hE : Ext w0 w) (hS : ∀ j, Tst bd bl bc br bm bq j → w0.heap.size ≤ j) (kind i : Int) (hk0 : -9223372036854775808 ≤ kind) (hk1 : kind ≤ 9223372036854775807) (hi : i ≤ 9223372036854775807)
    (AD : Option Addr) (m cd : Nat) (xs : List Int) (hn : m = xs.length) (hr : Kd.C kb w0 AD m xs) (hc : m ≤ cd) (hm : m ≤ 2000) (AF : Option Addr) (mf cf : Nat) (fl : List Int) (hnf : mf = fl.length) (hrf : Kd.C kI w0 AF mf fl) (hcf : mf ≤ cf) (hmf : mf ≤ 200) :
    Calls Try.prog 32 #[.pointer (some ⟨bd, 0, none⟩), .pointer (some ⟨bm, 0, none⟩), .agg #[.int .i64 kind, .int .i64 i, .slice AD m cd, .slice AF mf cf]] w fun e w' => e = .returned (.bool true) ∧ TWE w' bd bl bc br bm bq n ∧ Ext w0 w' := by
  have hE0 := (Ext.refl w).alloc (.cells #[.int .i64 kind, .int .i64 i, .slice AD m cd, .slice AF mf cf] 53)
  have HT := Aside0.mk (h.ext hE0)
  have HB := Aside0.mk (Blk.new w #[.int .i64 kind, .int .i64 i, .slice AD m cd, .slice AF mf cf] 53)
  have HE0 := Aside0.mk (hE.trans hE0)
  have HL := Aside0.mk hl
  have HS := Aside0.mk hS
  have HN := Aside0.mk hn
  have HNF := Aside0.mk hnf
  have HRD := Aside0.mk hr
  have HRF := Aside0.mk hrf
  have HK := Aside0.mk (And.intro hk0 hk1)
  have HI := Aside0.mk hi
  obtain ⟨bx, hbx⟩ : ∃ bx, bx = w.heap.size := ⟨_, rfl⟩
  rw [← hbx] at HB
  obtain ⟨w1, hw1⟩ : ∃ w1, w1 = w.alloc (.cells #[.int .i64 kind, .int .i64 i, .slice AD m cd, .slice AF mf cf] 53) := ⟨_, rfl⟩
  rw [← hw1] at HT HB HE0
  have HBX := Aside0.mk hbx
  have HW1 := Aside0.mk hw1
  have HLENT := Aside0.mk (lent_at w1 AD cd xs hn (Kd.C_below hr HE0.out) hc hm)
  clear h hE0 hl hE hS hn hnf hr hrf hk0 hk1 hi hbx hw1
  go_enter Try.func32, Try.ntmps32
  go_wp2_with fail
  rw [← HW1.out, ← HBX.out]
  refine HLENT.out.mono ?_
  rintro e w2 ⟨V, rfl, hV, hE⟩
  obtain ⟨w1s, hw1s⟩ : ∃ z, z = w1.heap.size := ⟨_, rfl⟩
  obtain ⟨w2s, hw2s⟩ : ∃ z, z = w2.heap.size := ⟨_, rfl⟩
  rw [← hw1s] at hV
  have HT2 := Aside0.mk ((HT.out.idle (Y := fun k => w1s ≤ k) (fun k hk => by rw [← hw1s]; exact hk)).ext hE)
  have HA2 := Aside0.mk (show AS w0 w2 w1s w2s bx V xs #[.int .i64 kind, .int .i64 i, .slice AD m cd, .slice AF mf cf] from ⟨hV, fun k hk => by rw [hw2s]; exact hV.blt k hk, HB.out.ext hE, HE0.out.trans hE, Nat.le_of_eq hw2s, by rw [hw1s]; exact HE0.out.size, by rw [hw1s, hw2s]; exact hE.size⟩)
  have HBX2 := Aside0.mk (show bx < w2s from by rw [hw2s]; exact Nat.lt_of_lt_of_le HB.out.lt hE.size)
  have HVB := Aside0.mk (fun k (hk : V.ownBlock = some k) => show w1s ≤ k from Kd.R_base hV k hk)
  obtain ⟨m5, hm5⟩ : ∃ z, z = (lent xs).length := ⟨_, rfl⟩
  have HM5 := Aside0.mk hm5
  have hm5' : m5 = m + 5 := by rw [hm5, lent_length, HN.out]
  obtain ⟨AV, cV, eV, hcV, hCV⟩ := hV.nat hm5
  have HIN := Aside0.mk (show Kd.F kb w2 (fun k => ¬ Tst bd bl bc br bm bq k) AV m xs from by
    have h1 := Kd.R_take (m := m) (show Kd.R kb 5 w2 w1s (fun _ => True) (.slice AV m5 cV) (lent xs) from by rw [← eV]; exact hV) (by rw [← hm5]; omega)
    have h2 : (lent xs).take m = xs := by rw [HN.out]; exact lent_take xs
    rw [h2] at h1
    exact NB.F h1 (HT2.out.offT h1))
  have HEV := Aside0.mk eV
  have HCVF := Aside0.mk (show m ≤ cV from by omega)
  obtain ⟨i0, hi0, _, hsz, _⟩ := info_parts PDiskPlays.info5
  have hcut := cut_to (P := Try.prog) 29 5 .i64 Try.underlying29 hi0 AV m5 cV (m : Int) (by omega) (by omega) hcV
  rw [Int.toNat_natCast] at hcut
  obtain ⟨cb0, cb1, cb2, cb3⟩ : w2.cell? ⟨bx, 0, none⟩ = some (.int .i64 kind) ∧ w2.cell? ⟨bx, 1, none⟩ = some (.int .i64 i) ∧ w2.cell? ⟨bx, 2, none⟩ = some (.slice AD m cd) ∧ w2.cell? ⟨bx, 3, none⟩ = some (.slice AF mf cf) := ⟨HA2.out.bb.cell 0 rfl, HA2.out.bb.cell 1 rfl, HA2.out.bb.cell 2 rfl, HA2.out.bb.cell 3 rfl⟩
  have hmm : (m : Int) ≤ m5 := by omega
  have hm52 : (m5 : Int) ≤ 2005 := by omega
  rw [eV]
  clear hV hE hw1s hw2s hm5 eV hCV hi0 hsz HLENT hm5'
  go_wp2_with fail
  refine (pick_calls w2 kind 9 _ HK.out.1 HK.out.2 (by decide) rfl).mono ?_
  rintro e w3 ⟨rfl, hE⟩
  have HT3 := Aside0.mk (HT2.out.ext hE)
  have HA3 := Aside0.mk (HA2.out.ext hE)
  have HIN3 := Aside0.mk (show Kd.F kb w3 (fun k => ¬ Tst bd bl bc br bm bq k) AV m xs from Kd.F_below HIN.out hE)
  have hP := pickT_range kind 9 (by decide)
  obtain ⟨r, hrr⟩ : ∃ r, pickT kind 9 = r := ⟨_, rfl⟩
  rw [hrr] at hP ⊢
  clear hE hcut cb0 cb1 cb2 cb3 hmm HIN HT2 HA2 hrr hm52
  obtain ⟨cb0, cb1, cb2, cb3⟩ : w3.cell? ⟨bx, 0, none⟩ = some (.int .i64 kind) ∧ w3.cell? ⟨bx, 1, none⟩ = some (.int .i64 i) ∧ w3.cell? ⟨bx, 2, none⟩ = some (.slice AD m cd) ∧ w3.cell? ⟨bx, 3, none⟩ = some (.slice AF mf cf) := ⟨HA3.out.bb.cell 0 rfl, HA3.out.bb.cell 1 rfl, HA3.out.bb.cell 2 rfl, HA3.out.bb.cell 3 rfl⟩
  have HRD3 := Aside0.mk (show Kd.F kb w3 (fun k => ¬ Tst bd bl bc br bm bq k) AD m xs from F_oldX HRD.out HA3.out.he (fun k hk hs => by have := HS.out k hs; omega))
  have HRF3 := Aside0.mk (show Kd.F kI w3 (fun k => ¬ Tst bd bl bc br bm bq k) AF mf fl from F_oldX HRF.out HA3.out.he (fun k hk hs => by have := HS.out k hs; omega))
  have HNX := Aside0.mk (HT3.out.apart HA3.out.bb (by decide) (by decide) (by decide) (by decide))
  have HR9 : r = 0 ∨ r = 1 ∨ r = 2 ∨ r = 3 ∨ r = 4 ∨ r = 5 ∨ r = 6 ∨ r = 7 ∨ r = 8 := by omega
  clear hP
  rcases HR9 with rfl | rfl | rfl | rfl | rfl | rfl | rfl | rfl | rfl
  · have HTX := Aside0.mk (HT3.out.sub (Y := (fun k => w1s ≤ k ∧ k < w2s)) (fun k hk => hk.1))
    go_wp2_with fail
    apply wp_region_H 12 4 10 (fun a b => Chg a b (Tst bd bl bc br bm bq)) (fun z => TW (fun k => w1s ≤ k ∧ k < w2s) z bd bl bc br bm bq n (sWr s ar lf n i m xs) ar (writeL i n m ar lf s.of) s left) (fun z => TW (fun k => w1s ≤ k ∧ k < w2s) z bd bl bc br bm bq n (sWr s ar lf n i m xs) ar (writeL i n m ar lf s.of) (sWr s ar lf n i m xs) (rwL i n m left s.of)) [RF.val _, RF.val _, RF.val _, RF.val _, RF.val _, RF.val _, RF.val _, RF.val _, RF.val _, RF.val _, RF.val _, RF.val _]
    case hm => kernel_rfl
    case hB => kernel_rfl
    case hgE => exact fun a b h => Chg.of_ext h _
    case hgT => exact fun a b c h k => h.trans k
    case hP1 => exact (fun a b h he => h.ext he)
    case hP2 => exact (fun a b h he => h.ext he)
    simp only [List.take_succ_cons, List.take_zero, List.zip_cons_cons, List.zip_nil_left]
    refine wpH_val (by rfl) (by decide) (by decide) (fun w' hE hD => by unfold YldR; go_simp; exact ⟨Ext.refl _, rfl⟩) ?_
    (try simp only [Act.put, List.setIfInBounds_toArray, List.set_cons_zero, List.set_cons_succ])
    refine wpH_val (by rfl) (by decide) (by decide) (fun w' hE hD => by unfold YldR; go_simp; exact ⟨Ext.refl _, rfl⟩) ?_
    (try simp only [Act.put, List.setIfInBounds_toArray, List.set_cons_zero, List.set_cons_succ])
    refine wpH_val (by rfl) (by decide) (by decide) (fun w' hE hD => by have hc1 := (hE.blk HA3.out.bb HNX.out).cell 1 (v := .int .i64 i) rfl; unfold YldR; go_simp; exact ⟨Ext.refl _, rfl⟩) ?_
    (try simp only [Act.put, List.setIfInBounds_toArray, List.set_cons_zero, List.set_cons_succ])
    refine wpH_val (by rfl) (by decide) (by decide) (fun w' hE hD => by unfold YldR; go_simp; exact ⟨Ext.refl _, rfl⟩) ?_
    (try simp only [Act.put, List.setIfInBounds_toArray, List.set_cons_zero, List.set_cons_succ])
    refine wpH_one rfl (by rfl) (by decide) (fun w' hE hD => by unfold YldR; go_simp; exact (tw_write (HTX.out.ext hE) i AV m cV xs HN.out (Kd.F_below HIN3.out hE) (by have := HCVF.out; omega) (fun k hk => Nat.lt_of_lt_of_le hk.2 (Nat.le_trans HA3.out.ws hE.size))).mono fun e w2 h => ⟨_, h.1, ⟨h.2.2, h.2.1⟩, rfl⟩) ?_
    (try simp only [Act.put, List.setIfInBounds_toArray, List.set_cons_zero, List.set_cons_succ])
    refine wpH_val (by rfl) (by decide) (by decide) (fun w' hE hD => by unfold YldR; go_simp; exact ⟨Ext.refl _, rfl⟩) ?_
    (try simp only [Act.put, List.setIfInBounds_toArray, List.set_cons_zero, List.set_cons_succ])
    refine wpH_val (by rfl) (by decide) (by decide) (fun w' hE hD => by unfold YldR; go_simp; exact ⟨Ext.refl _, rfl⟩) ?_
    (try simp only [Act.put, List.setIfInBounds_toArray, List.set_cons_zero, List.set_cons_succ])
    refine wpH_val (by rfl) (by decide) (by decide) (fun w' hE hD => by have hc1 := (hE.blk HA3.out.bb HNX.out).cell 1 (v := .int .i64 i) rfl; unfold YldR; go_simp; exact ⟨Ext.refl _, rfl⟩) ?_
    (try simp only [Act.put, List.setIfInBounds_toArray, List.set_cons_zero, List.set_cons_succ])
    refine wpH_val (by rfl) (by decide) (by decide) (fun w' hE hD => by unfold YldR; go_simp; exact ⟨Ext.refl _, rfl⟩) ?_
    (try simp only [Act.put, List.setIfInBounds_toArray, List.set_cons_zero, List.set_cons_succ])
    refine wpH_val (by rfl) (by decide) (by decide) (fun w' hE hD => by have hc2 := (hE.blk HA3.out.bb HNX.out).cell 2 (v := .slice AD m cd) rfl; unfold YldR; go_simp; exact ⟨Ext.refl _, rfl⟩) ?_
    (try simp only [Act.put, List.setIfInBounds_toArray, List.set_cons_zero, List.set_cons_succ])
    refine wpH_two rfl (by rfl) (by decide) (by decide) (fun w' hE hP hD => by unfold YldR; go_simp; exact (tr_write hP HL.out.down i AD m cd xs HN.out (Kd.F_step HRD3.out (fun k hk hkl => hE.block k hkl hk)) hc (fun k hk => Nat.lt_of_lt_of_le hk.2 (Nat.le_trans HA3.out.ws hE.size))).mono fun e w2 h => ⟨_, h.1, ⟨h.2.2, h.2.1⟩, rfl⟩) ?_
    (try simp only [Act.put, List.setIfInBounds_toArray, List.set_cons_zero, List.set_cons_succ])
    refine wpH_val (by rfl) (by decide) (by decide) (fun w' hE hD => by unfold YldR; go_simp; exact ⟨Ext.refl _, rfl⟩) ?_
    (try simp only [Act.put, List.setIfInBounds_toArray, List.set_cons_zero, List.set_cons_succ])
    refine wpH_nil fun w4 hC4 hP hA => ?_
    simp only [List.drop_succ_cons, List.drop_zero]
    have HTk := Aside0.mk hP
    have HAk := Aside0.mk (HA3.out.tst HT3.out HS.out hC4)
    clear hP hC4 hA HTX
    clear cb0 cb1 cb2 cb3 HT3 HA3 HIN3 HRD3 HRF3
    obtain ⟨cb0, cb1, cb2, cb3⟩ : w4.cell? ⟨bx, 0, none⟩ = some (.int .i64 kind) ∧ w4.cell? ⟨bx, 1, none⟩ = some (.int .i64 i) ∧ w4.cell? ⟨bx, 2, none⟩ = some (.slice AD m cd) ∧ w4.cell? ⟨bx, 3, none⟩ = some (.slice AF mf cf) := ⟨HAk.out.bb.cell 0 rfl, HAk.out.bb.cell 1 rfl, HAk.out.bb.cell 2 rfl, HAk.out.bb.cell 3 rfl⟩
    have HKP := Aside0.mk (show Calls Try.prog 63 #[.slice AV m5 cV, .slice AD m cd] w4 (fun e w' => e = .returned (.bool true) ∧ Ext w4 w') from by
      obtain ⟨A', c', e, h1, h2⟩ := HAk.out.nb.nat HM5.out
      rw [HEV.out] at e
      injection e with e1 e2 e3
      subst e1 e3
      exact kept_at w4 AV AD cV cd xs HM5.out HN.out h2 h1 (Kd.C_below HRD.out HAk.out.he) hc hm)
    clear cb0 cb1 cb3
    go_wp2_with fail
    refine HKP.out.mono ?_
    rintro e wz ⟨rfl, hE⟩
    have HTz := Aside0.mk (HTk.out.ext hE)
    have HAz := Aside0.mk (HAk.out.ext hE)
    clear hE HKP HTk HAk cb2
    go_wp2_with fail
    refine (spoil_calls wz (lent xs) w0 (.slice AV m5 cV) HAz.out.he (by rw [← HEV.out]; exact HAz.out.nb.lower HAz.out.wb) (by rw [← HM5.out, HM5.out, lent_length, ← HN.out]; omega)).mono ?_
    rintro e wy ⟨rfl, hE, hK⟩
    rw [← HEV.out] at hK
    have HTy := Aside0.mk (HTz.out.spoilB HAz.out.nb (fun j hj => ⟨HVB.out j hj, HAz.out.vl j hj⟩) (Chg.of_kept HAz.out.he hE hK))
    have HEy := Aside0.mk hE
    clear hE hK HTz HAz
    go_wp2_with fail
    go_ret
    exact ⟨rfl, ⟨_, _, _, _, HTy.out.sub (fun k hk => hk.elim), HL.out.write _ _ _ _⟩, HEy.out⟩
  · have HTX := Aside0.mk (HT3.out.sub (Y := (fun k => w1s ≤ k ∧ k < w2s)) (fun k hk => hk.1))
    go_wp2_with fail
    apply wp_region_H 12 4 10 (fun a b => Chg a b (Tst bd bl bc br bm bq)) (fun z => TW (fun k => w1s ≤ k ∧ k < w2s) z bd bl bc br bm bq n (sWr s ar lf n i m xs) ar (writeL i n m ar lf s.of) s left) (fun z => TW (fun k => w1s ≤ k ∧ k < w2s) z bd bl bc br bm bq n (sWr s ar lf n i m xs) ar (writeL i n m ar lf s.of) (sWr s ar lf n i m xs) (rwL i n m left s.of)) [RF.val _, RF.val _, RF.val _, RF.val _, RF.val _, RF.val _, RF.val _, RF.val _, RF.val _, RF.val _, RF.val _, RF.val _]
    case hm => kernel_rfl
    case hB => kernel_rfl
    case hgE => exact fun a b h => Chg.of_ext h _
    case hgT => exact fun a b c h k => h.trans k
    case hP1 => exact (fun a b h he => h.ext he)
    case hP2 => exact (fun a b h he => h.ext he)
    simp only [List.take_succ_cons, List.take_zero, List.zip_cons_cons, List.zip_nil_left]
    refine wpH_val (by rfl) (by decide) (by decide) (fun w' hE hD => by unfold YldR; go_simp; exact ⟨Ext.refl _, rfl⟩) ?_
    (try simp only [Act.put, List.setIfInBounds_toArray, List.set_cons_zero, List.set_cons_succ])
    refine wpH_val (by rfl) (by decide) (by decide) (fun w' hE hD => by unfold YldR; go_simp; exact ⟨Ext.refl _, rfl⟩) ?_
    (try simp only [Act.put, List.setIfInBounds_toArray, List.set_cons_zero, List.set_cons_succ])
    refine wpH_val (by rfl) (by decide) (by decide) (fun w' hE hD => by have hc1 := (hE.blk HA3.out.bb HNX.out).cell 1 (v := .int .i64 i) rfl; unfold YldR; go_simp; exact ⟨Ext.refl _, rfl⟩) ?_
    (try simp only [Act.put, List.setIfInBounds_toArray, List.set_cons_zero, List.set_cons_succ])
    refine wpH_val (by rfl) (by decide) (by decide) (fun w' hE hD => by unfold YldR; go_simp; exact ⟨Ext.refl _, rfl⟩) ?_
    (try simp only [Act.put, List.setIfInBounds_toArray, List.set_cons_zero, List.set_cons_succ])
    refine wpH_one rfl (by rfl) (by decide) (fun w' hE hD => by unfold YldR; go_simp; exact (tw_write (HTX.out.ext hE) i AV m cV xs HN.out (Kd.F_below HIN3.out hE) (by have := HCVF.out; omega) (fun k hk => Nat.lt_of_lt_of_le hk.2 (Nat.le_trans HA3.out.ws hE.size))).mono fun e w2 h => ⟨_, h.1, ⟨h.2.2, h.2.1⟩, rfl⟩) ?_
    (try simp only [Act.put, List.setIfInBounds_toArray, List.set_cons_zero, List.set_cons_succ])
    refine wpH_val (by rfl) (by decide) (by decide) (fun w' hE hD => by unfold YldR; go_simp; exact ⟨Ext.refl _, rfl⟩) ?_
    (try simp only [Act.put, List.setIfInBounds_toArray, List.set_cons_zero, List.set_cons_succ])
    refine wpH_val (by rfl) (by decide) (by decide) (fun w' hE hD => by unfold YldR; go_simp; exact ⟨Ext.refl _, rfl⟩) ?_
    (try simp only [Act.put, List.setIfInBounds_toArray, List.set_cons_zero, List.set_cons_succ])
    refine wpH_val (by rfl) (by decide) (by decide) (fun w' hE hD => by have hc1 := (hE.blk HA3.out.bb HNX.out).cell 1 (v := .int .i64 i) rfl; unfold YldR; go_simp; exact ⟨Ext.refl _, rfl⟩) ?_
    (try simp only [Act.put, List.setIfInBounds_toArray, List.set_cons_zero, List.set_cons_succ])
    refine wpH_val (by rfl) (by decide) (by decide) (fun w' hE hD => by unfold YldR; go_simp; exact ⟨Ext.refl _, rfl⟩) ?_
    (try simp only [Act.put, List.setIfInBounds_toArray, List.set_cons_zero, List.set_cons_succ])
    refine wpH_val (by rfl) (by decide) (by decide) (fun w' hE hD => by have hc2 := (hE.blk HA3.out.bb HNX.out).cell 2 (v := .slice AD m cd) rfl; unfold YldR; go_simp; exact ⟨Ext.refl _, rfl⟩) ?_
    (try simp only [Act.put, List.setIfInBounds_toArray, List.set_cons_zero, List.set_cons_succ])
    refine wpH_two rfl (by rfl) (by decide) (by decide) (fun w' hE hP hD => by unfold YldR; go_simp; exact (tr_write hP HL.out.down i AD m cd xs HN.out (Kd.F_step HRD3.out (fun k hk hkl => hE.block k hkl hk)) hc (fun k hk => Nat.lt_of_lt_of_le hk.2 (Nat.le_trans HA3.out.ws hE.size))).mono fun e w2 h => ⟨_, h.1, ⟨h.2.2, h.2.1⟩, rfl⟩) ?_
    (try simp only [Act.put, List.setIfInBounds_toArray, List.set_cons_zero, List.set_cons_succ])
    refine wpH_val (by rfl) (by decide) (by decide) (fun w' hE hD => by unfold YldR; go_simp; exact ⟨Ext.refl _, rfl⟩) ?_
    (try simp only [Act.put, List.setIfInBounds_toArray, List.set_cons_zero, List.set_cons_succ])
    refine wpH_nil fun w4 hC4 hP hA => ?_
    simp only [List.drop_succ_cons, List.drop_zero]
    have HTk := Aside0.mk hP
    have HAk := Aside0.mk (HA3.out.tst HT3.out HS.out hC4)
    clear hP hC4 hA HTX
    clear cb0 cb1 cb2 cb3 HT3 HA3 HIN3 HRD3 HRF3
    obtain ⟨cb0, cb1, cb2, cb3⟩ : w4.cell? ⟨bx, 0, none⟩ = some (.int .i64 kind) ∧ w4.cell? ⟨bx, 1, none⟩ = some (.int .i64 i) ∧ w4.cell? ⟨bx, 2, none⟩ = some (.slice AD m cd) ∧ w4.cell? ⟨bx, 3, none⟩ = some (.slice AF mf cf) := ⟨HAk.out.bb.cell 0 rfl, HAk.out.bb.cell 1 rfl, HAk.out.bb.cell 2 rfl, HAk.out.bb.cell 3 rfl⟩
    have HKP := Aside0.mk (show Calls Try.prog 63 #[.slice AV m5 cV, .slice AD m cd] w4 (fun e w' => e = .returned (.bool true) ∧ Ext w4 w') from by
      obtain ⟨A', c', e, h1, h2⟩ := HAk.out.nb.nat HM5.out
      rw [HEV.out] at e
      injection e with e1 e2 e3
      subst e1 e3
      exact kept_at w4 AV AD cV cd xs HM5.out HN.out h2 h1 (Kd.C_below HRD.out HAk.out.he) hc hm)
    clear cb0 cb1 cb3
    go_wp2_with fail
    refine HKP.out.mono ?_
    rintro e wz ⟨rfl, hE⟩
    have HTz := Aside0.mk (HTk.out.ext hE)
    have HAz := Aside0.mk (HAk.out.ext hE)
    clear hE HKP HTk HAk cb2
    go_wp2_with fail
    refine (spoil_calls wz (lent xs) w0 (.slice AV m5 cV) HAz.out.he (by rw [← HEV.out]; exact HAz.out.nb.lower HAz.out.wb) (by rw [← HM5.out, HM5.out, lent_length, ← HN.out]; omega)).mono ?_
    rintro e wy ⟨rfl, hE, hK⟩
    rw [← HEV.out] at hK
    have HTy := Aside0.mk (HTz.out.spoilB HAz.out.nb (fun j hj => ⟨HVB.out j hj, HAz.out.vl j hj⟩) (Chg.of_kept HAz.out.he hE hK))
    have HEy := Aside0.mk hE
    clear hE hK HTz HAz
    go_wp2_with fail
    go_ret
    exact ⟨rfl, ⟨_, _, _, _, HTy.out.sub (fun k hk => hk.elim), HL.out.write _ _ _ _⟩, HEy.out⟩
  · have HTX := Aside0.mk (HT3.out.sub (Y := (fun k => w1s ≤ k ∧ k < w2s)) (fun k hk => hk.1))
    go_wp2_with fail
    apply wp_region_H 12 4 10 (fun a b => Chg a b (Tst bd bl bc br bm bq)) (fun z => TW (fun k => w1s ≤ k ∧ k < w2s) z bd bl bc br bm bq n (sWr s ar lf n i m xs) ar (writeL i n m ar lf s.of) s left) (fun z => TW (fun k => w1s ≤ k ∧ k < w2s) z bd bl bc br bm bq n (sWr s ar lf n i m xs) ar (writeL i n m ar lf s.of) (sWr s ar lf n i m xs) (rwL i n m left s.of)) [RF.val _, RF.val _, RF.val _, RF.val _, RF.val _, RF.val _, RF.val _, RF.val _, RF.val _, RF.val _, RF.val _, RF.val _]
    case hm => kernel_rfl
    case hB => kernel_rfl
    case hgE => exact fun a b h => Chg.of_ext h _
    case hgT => exact fun a b c h k => h.trans k
    case hP1 => exact (fun a b h he => h.ext he)
    case hP2 => exact (fun a b h he => h.ext he)
    simp only [List.take_succ_cons, List.take_zero, List.zip_cons_cons, List.zip_nil_left]
    refine wpH_val (by rfl) (by decide) (by decide) (fun w' hE hD => by unfold YldR; go_simp; exact ⟨Ext.refl _, rfl⟩) ?_
    (try simp only [Act.put, List.setIfInBounds_toArray, List.set_cons_zero, List.set_cons_succ])
    refine wpH_val (by rfl) (by decide) (by decide) (fun w' hE hD => by unfold YldR; go_simp; exact ⟨Ext.refl _, rfl⟩) ?_
    (try simp only [Act.put, List.setIfInBounds_toArray, List.set_cons_zero, List.set_cons_succ])
    refine wpH_val (by rfl) (by decide) (by decide) (fun w' hE hD => by have hc1 := (hE.blk HA3.out.bb HNX.out).cell 1 (v := .int .i64 i) rfl; unfold YldR; go_simp; exact ⟨Ext.refl _, rfl⟩) ?_
    (try simp only [Act.put, List.setIfInBounds_toArray, List.set_cons_zero, List.set_cons_succ])
    refine wpH_val (by rfl) (by decide) (by decide) (fun w' hE hD => by unfold YldR; go_simp; exact ⟨Ext.refl _, rfl⟩) ?_
    (try simp only [Act.put, List.setIfInBounds_toArray, List.set_cons_zero, List.set_cons_succ])
    refine wpH_one rfl (by rfl) (by decide) (fun w' hE hD => by unfold YldR; go_simp; exact (tw_write (HTX.out.ext hE) i AV m cV xs HN.out (Kd.F_below HIN3.out hE) (by have := HCVF.out; omega) (fun k hk => Nat.lt_of_lt_of_le hk.2 (Nat.le_trans HA3.out.ws hE.size))).mono fun e w2 h => ⟨_, h.1, ⟨h.2.2, h.2.1⟩, rfl⟩) ?_
    (try simp only [Act.put, List.setIfInBounds_toArray, List.set_cons_zero, List.set_cons_succ])
    refine wpH_val (by rfl) (by decide) (by decide) (fun w' hE hD => by unfold YldR; go_simp; exact ⟨Ext.refl _, rfl⟩) ?_
    (try simp only [Act.put, List.setIfInBounds_toArray, List.set_cons_zero, List.set_cons_succ])
    refine wpH_val (by rfl) (by decide) (by decide) (fun w' hE hD => by unfold YldR; go_simp; exact ⟨Ext.refl _, rfl⟩) ?_
    (try simp only [Act.put, List.setIfInBounds_toArray, List.set_cons_zero, List.set_cons_succ])
    refine wpH_val (by rfl) (by decide) (by decide) (fun w' hE hD => by have hc1 := (hE.blk HA3.out.bb HNX.out).cell 1 (v := .int .i64 i) rfl; unfold YldR; go_simp; exact ⟨Ext.refl _, rfl⟩) ?_
    (try simp only [Act.put, List.setIfInBounds_toArray, List.set_cons_zero, List.set_cons_succ])
    refine wpH_val (by rfl) (by decide) (by decide) (fun w' hE hD => by unfold YldR; go_simp; exact ⟨Ext.refl _, rfl⟩) ?_
    (try simp only [Act.put, List.setIfInBounds_toArray, List.set_cons_zero, List.set_cons_succ])
    refine wpH_val (by rfl) (by decide) (by decide) (fun w' hE hD => by have hc2 := (hE.blk HA3.out.bb HNX.out).cell 2 (v := .slice AD m cd) rfl; unfold YldR; go_simp; exact ⟨Ext.refl _, rfl⟩) ?_
    (try simp only [Act.put, List.setIfInBounds_toArray, List.set_cons_zero, List.set_cons_succ])
    refine wpH_two rfl (by rfl) (by decide) (by decide) (fun w' hE hP hD => by unfold YldR; go_simp; exact (tr_write hP HL.out.down i AD m cd xs HN.out (Kd.F_step HRD3.out (fun k hk hkl => hE.block k hkl hk)) hc (fun k hk => Nat.lt_of_lt_of_le hk.2 (Nat.le_trans HA3.out.ws hE.size))).mono fun e w2 h => ⟨_, h.1, ⟨h.2.2, h.2.1⟩, rfl⟩) ?_
    (try simp only [Act.put, List.setIfInBounds_toArray, List.set_cons_zero, List.set_cons_succ])
    refine wpH_val (by rfl) (by decide) (by decide) (fun w' hE hD => by unfold YldR; go_simp; exact ⟨Ext.refl _, rfl⟩) ?_
    (try simp only [Act.put, List.setIfInBounds_toArray, List.set_cons_zero, List.set_cons_succ])
    refine wpH_nil fun w4 hC4 hP hA => ?_
    simp only [List.drop_succ_cons, List.drop_zero]
    have HTk := Aside0.mk hP
    have HAk := Aside0.mk (HA3.out.tst HT3.out HS.out hC4)
    clear hP hC4 hA HTX
    clear cb0 cb1 cb2 cb3 HT3 HA3 HIN3 HRD3 HRF3
    obtain ⟨cb0, cb1, cb2, cb3⟩ : w4.cell? ⟨bx, 0, none⟩ = some (.int .i64 kind) ∧ w4.cell? ⟨bx, 1, none⟩ = some (.int .i64 i) ∧ w4.cell? ⟨bx, 2, none⟩ = some (.slice AD m cd) ∧ w4.cell? ⟨bx, 3, none⟩ = some (.slice AF mf cf) := ⟨HAk.out.bb.cell 0 rfl, HAk.out.bb.cell 1 rfl, HAk.out.bb.cell 2 rfl, HAk.out.bb.cell 3 rfl⟩
    have HKP := Aside0.mk (show Calls Try.prog 63 #[.slice AV m5 cV, .slice AD m cd] w4 (fun e w' => e = .returned (.bool true) ∧ Ext w4 w') from by
      obtain ⟨A', c', e, h1, h2⟩ := HAk.out.nb.nat HM5.out
      rw [HEV.out] at e
      injection e with e1 e2 e3
      subst e1 e3
      exact kept_at w4 AV AD cV cd xs HM5.out HN.out h2 h1 (Kd.C_below HRD.out HAk.out.he) hc hm)
    clear cb0 cb1 cb3
    go_wp2_with fail
    refine HKP.out.mono ?_
    rintro e wz ⟨rfl, hE⟩
    have HTz := Aside0.mk (HTk.out.ext hE)
    have HAz := Aside0.mk (HAk.out.ext hE)
    clear hE HKP HTk HAk cb2
    go_wp2_with fail
    refine (spoil_calls wz (lent xs) w0 (.slice AV m5 cV) HAz.out.he (by rw [← HEV.out]; exact HAz.out.nb.lower HAz.out.wb) (by rw [← HM5.out, HM5.out, lent_length, ← HN.out]; omega)).mono ?_
    rintro e wy ⟨rfl, hE, hK⟩
    rw [← HEV.out] at hK
    have HTy := Aside0.mk (HTz.out.spoilB HAz.out.nb (fun j hj => ⟨HVB.out j hj, HAz.out.vl j hj⟩) (Chg.of_kept HAz.out.he hE hK))
    have HEy := Aside0.mk hE
    clear hE hK HTz HAz
    go_wp2_with fail
    go_ret
    exact ⟨rfl, ⟨_, _, _, _, HTy.out.sub (fun k hk => hk.elim), HL.out.write _ _ _ _⟩, HEy.out⟩
  · go_wp2_with fail
    refine (tw_sync HT3.out).mono ?_
    rintro e w4 ⟨rfl, hT, hC⟩
    have HT4 := Aside0.mk hT
    have HA4 := Aside0.mk (HA3.out.tst HT3.out HS.out hC)
    clear hT hC cb0 cb1 cb2 cb3
    go_wp2_with fail
    refine (tr_sync HT4.out HL.out.down).mono ?_
    rintro e w5 ⟨rfl, hT, hC⟩
    have HTk := Aside0.mk hT
    have HAk := Aside0.mk (HA4.out.tst HT4.out HS.out hC)
    clear hT hC HT4 HA4
    clear HT3 HA3 HIN3 HRD3 HRF3
    obtain ⟨cb0, cb1, cb2, cb3⟩ : w5.cell? ⟨bx, 0, none⟩ = some (.int .i64 kind) ∧ w5.cell? ⟨bx, 1, none⟩ = some (.int .i64 i) ∧ w5.cell? ⟨bx, 2, none⟩ = some (.slice AD m cd) ∧ w5.cell? ⟨bx, 3, none⟩ = some (.slice AF mf cf) := ⟨HAk.out.bb.cell 0 rfl, HAk.out.bb.cell 1 rfl, HAk.out.bb.cell 2 rfl, HAk.out.bb.cell 3 rfl⟩
    have HKP := Aside0.mk (show Calls Try.prog 63 #[.slice AV m5 cV, .slice AD m cd] w5 (fun e w' => e = .returned (.bool true) ∧ Ext w5 w') from by
      obtain ⟨A', c', e, h1, h2⟩ := HAk.out.nb.nat HM5.out
      rw [HEV.out] at e
      injection e with e1 e2 e3
      subst e1 e3
      exact kept_at w5 AV AD cV cd xs HM5.out HN.out h2 h1 (Kd.C_below HRD.out HAk.out.he) hc hm)
    clear cb0 cb1 cb3
    go_wp2_with fail
    refine HKP.out.mono ?_
    rintro e wz ⟨rfl, hE⟩
    have HTz := Aside0.mk (HTk.out.ext hE)
    have HAz := Aside0.mk (HAk.out.ext hE)
    clear hE HKP HTk HAk cb2
    go_wp2_with fail
    refine (spoil_calls wz (lent xs) w0 (.slice AV m5 cV) HAz.out.he (by rw [← HEV.out]; exact HAz.out.nb.lower HAz.out.wb) (by rw [← HM5.out, HM5.out, lent_length, ← HN.out]; omega)).mono ?_
    rintro e wy ⟨rfl, hE, hK⟩
    rw [← HEV.out] at hK
    have HTy := Aside0.mk (HTz.out.spoilB HAz.out.nb (fun j hj => HVB.out j hj) (Chg.of_kept HAz.out.he hE hK))
    have HEy := Aside0.mk hE
    clear hE hK HTz HAz
    go_wp2_with fail
    go_ret
    exact ⟨rfl, ⟨_, _, _, _, HTy.out.sub (fun k hk => hk.elim), HL.out.spend _⟩, HEy.out⟩
  · go_wp2_with fail
    refine (tw_spend HT3.out).mono ?_
    rintro e w4 ⟨rfl, hT, hC⟩
    have HT4 := Aside0.mk hT
    have HA4 := Aside0.mk (HA3.out.tst HT3.out HS.out hC)
    clear hT hC cb0 cb1 cb2 cb3
    go_wp2_with fail
    refine (tr_spend HT4.out).mono ?_
    rintro e w5 ⟨rfl, hT, hC⟩
    have HTk := Aside0.mk (show TW (fun k => w1s ≤ k) w5 bd bl bc br bm bq n (sOf s (downF ar lf s.of)) ar (spendL ar lf s.of) (sOf s (downF ar lf s.of)) (rspL left s.of) from by rw [← HL.out.down]; rw [← HL.out.down] at hT; exact hT)
    rw [HL.out.err]
    have HAk := Aside0.mk (HA4.out.tst HT4.out HS.out hC)
    clear hT hC HT4 HA4
    clear HT3 HA3 HIN3 HRD3 HRF3
    obtain ⟨cb0, cb1, cb2, cb3⟩ : w5.cell? ⟨bx, 0, none⟩ = some (.int .i64 kind) ∧ w5.cell? ⟨bx, 1, none⟩ = some (.int .i64 i) ∧ w5.cell? ⟨bx, 2, none⟩ = some (.slice AD m cd) ∧ w5.cell? ⟨bx, 3, none⟩ = some (.slice AF mf cf) := ⟨HAk.out.bb.cell 0 rfl, HAk.out.bb.cell 1 rfl, HAk.out.bb.cell 2 rfl, HAk.out.bb.cell 3 rfl⟩
    have HKP := Aside0.mk (show Calls Try.prog 63 #[.slice AV m5 cV, .slice AD m cd] w5 (fun e w' => e = .returned (.bool true) ∧ Ext w5 w') from by
      obtain ⟨A', c', e, h1, h2⟩ := HAk.out.nb.nat HM5.out
      rw [HEV.out] at e
      injection e with e1 e2 e3
      subst e1 e3
      exact kept_at w5 AV AD cV cd xs HM5.out HN.out h2 h1 (Kd.C_below HRD.out HAk.out.he) hc hm)
    clear cb0 cb1 cb3
    go_wp2_with fail
    refine HKP.out.mono ?_
    rintro e wz ⟨rfl, hE⟩
    have HTz := Aside0.mk (HTk.out.ext hE)
    have HAz := Aside0.mk (HAk.out.ext hE)
    clear hE HKP HTk HAk cb2
    go_wp2_with fail
    refine (spoil_calls wz (lent xs) w0 (.slice AV m5 cV) HAz.out.he (by rw [← HEV.out]; exact HAz.out.nb.lower HAz.out.wb) (by rw [← HM5.out, HM5.out, lent_length, ← HN.out]; omega)).mono ?_
    rintro e wy ⟨rfl, hE, hK⟩
    rw [← HEV.out] at hK
    have HTy := Aside0.mk (HTz.out.spoilB HAz.out.nb (fun j hj => HVB.out j hj) (Chg.of_kept HAz.out.he hE hK))
    have HEy := Aside0.mk hE
    clear hE hK HTz HAz
    go_wp2_with fail
    go_ret
    exact ⟨rfl, ⟨_, _, _, _, HTy.out.sub (fun k hk => hk.elim), HL.out.spend _⟩, HEy.out⟩
  · have HW23 := Aside0.mk (show w2s ≤ w3.heap.size from HA3.out.ws)
    have HW13 := Aside0.mk (show w1s ≤ w3.heap.size from Nat.le_trans HA3.out.w12 HA3.out.ws)
    have HW03 := Aside0.mk (show w0.heap.size ≤ w3.heap.size from HA3.out.he.size)
    cases hin : inB i n with
    | true =>
      obtain ⟨h0, h1⟩ := inB_t hin
      obtain ⟨k, rfl⟩ : ∃ k : Nat, i = k := ⟨i.toNat, by omega⟩
      have HKN := Aside0.mk (show k < n from by omega)
      clear h0 h1 hin
      go_wp2_with fail
      refine (tw_read HT3.out k HKN.out).mono ?_
      rintro e w4 ⟨U, rfl, hU, hT, hC⟩
      obtain ⟨ys, hys⟩ : ∃ ys, ys = atB s.f s.g k := ⟨_, rfl⟩
      rw [← hys] at hU
      have HYL := Aside0.mk (show ys.length ≤ 1024 from by
        rw [hys]
        obtain ⟨LV, CV, h1, h2⟩ := HT3.out.d
        exact (h2.at_ k HKN.out).2.1)
      have HU4 := Aside0.mk hU
      have HT4 := Aside0.mk hT
      have HA4 := Aside0.mk (HA3.out.tst HT3.out HS.out hC)
      clear hU hT hC cb0 cb1 cb2 cb3
      have cb1 : w4.cell? ⟨bx, 1, none⟩ = some (.int .i64 (k : Int)) := HA4.out.bb.cell 1 rfl
      go_wp2_with fail
      refine (tr_read HT4.out k HKN.out).mono ?_
      rintro e w5 ⟨U2, rfl, hU2, hT, hC⟩
      rw [← hys] at hU2
      have HV5 := Aside0.mk hU2
      have HU5 := Aside0.mk (HT4.out.byt HU4.out hC)
      have HT5 := Aside0.mk hT
      have HA5 := Aside0.mk (HA4.out.tst HT4.out HS.out hC)
      clear hU2 hT hC HT4 HA4 HU4 cb1 hys
      obtain ⟨nU, hnU⟩ : ∃ nU, nU = ys.length := ⟨_, rfl⟩
      obtain ⟨A1, c1, e1, hc1, hC1⟩ := HU5.out.nat hnU
      obtain ⟨A2, c2, e2, hc2, hC2⟩ := HV5.out.nat hnU
      subst e1 e2
      have HSM := Aside0.mk (same_at w5 A1 A2 c1 c2 ys ys true hnU hnU (by simp) hC1 hc1 hC2 hc2 (by have := HYL.out; omega))
      clear hC1 hC2 hnU HV5
      go_wp2_with fail
      refine HSM.out.mono ?_
      rintro e w6 ⟨rfl, hE⟩
      have HT6 := Aside0.mk (HT5.out.ext hE)
      have HA6 := Aside0.mk (HA5.out.ext hE)
      have HU6 := Aside0.mk (HU5.out.ext hE)
      clear hE HT5 HA5 HU5 HSM
      go_wp2_with fail
      refine (spoil_calls w6 ys w0 (.slice A1 nU c1) HA6.out.he (HU6.out.lower HW03.out) (by have := HYL.out; omega)).mono ?_
      rintro e w7 ⟨rfl, hE, hK⟩
      have HCK := Aside0.mk (Chg.of_kept HA6.out.he hE hK)
      have HTk := Aside0.mk (HT6.out.spoilB HU6.out (fun j hj => by have h1 := Kd.R_base HU6.out j hj; have h2 := HW13.out; omega) HCK.out)
      have HAk := Aside0.mk (HA6.out.spoil HU6.out HW23.out HBX2.out HCK.out hE)
      clear hE hK HT6 HA6 HU6 HCK
      clear HT3 HA3 HIN3 HRD3 HRF3
      obtain ⟨cb0, cb1, cb2, cb3⟩ : w7.cell? ⟨bx, 0, none⟩ = some (.int .i64 kind) ∧ w7.cell? ⟨bx, 1, none⟩ = some (.int .i64 (k : Int)) ∧ w7.cell? ⟨bx, 2, none⟩ = some (.slice AD m cd) ∧ w7.cell? ⟨bx, 3, none⟩ = some (.slice AF mf cf) := ⟨HAk.out.bb.cell 0 rfl, HAk.out.bb.cell 1 rfl, HAk.out.bb.cell 2 rfl, HAk.out.bb.cell 3 rfl⟩
      have HKP := Aside0.mk (show Calls Try.prog 63 #[.slice AV m5 cV, .slice AD m cd] w7 (fun e w' => e = .returned (.bool true) ∧ Ext w7 w') from by
        obtain ⟨A', c', e, h1, h2⟩ := HAk.out.nb.nat HM5.out
        rw [HEV.out] at e
        injection e with e1 e2 e3
        subst e1 e3
        exact kept_at w7 AV AD cV cd xs HM5.out HN.out h2 h1 (Kd.C_below HRD.out HAk.out.he) hc hm)
      clear cb0 cb1 cb3
      go_wp2_with fail
      refine HKP.out.mono ?_
      rintro e wz ⟨rfl, hE⟩
      have HTz := Aside0.mk (HTk.out.ext hE)
      have HAz := Aside0.mk (HAk.out.ext hE)
      clear hE HKP HTk HAk cb2
      go_wp2_with fail
      refine (spoil_calls wz (lent xs) w0 (.slice AV m5 cV) HAz.out.he (by rw [← HEV.out]; exact HAz.out.nb.lower HAz.out.wb) (by rw [← HM5.out, HM5.out, lent_length, ← HN.out]; omega)).mono ?_
      rintro e wy ⟨rfl, hE, hK⟩
      rw [← HEV.out] at hK
      have HTy := Aside0.mk (HTz.out.spoilB HAz.out.nb (fun j hj => HVB.out j hj) (Chg.of_kept HAz.out.he hE hK))
      have HEy := Aside0.mk hE
      clear hE hK HTz HAz
      go_wp2_with fail
      go_ret
      exact ⟨rfl, ⟨_, _, _, _, HTy.out.sub (fun k hk => hk.elim), HL.out⟩, HEy.out⟩
    | false =>
      go_wp2_with fail
      refine (d_read_no HT3.out.d i hin).mono ?_
      rintro e w4 ⟨rfl, rfl⟩
      go_wp2_with fail
      refine (rb_read_no HT3.out.r i hin).mono ?_
      rintro e w4 ⟨rfl, rfl⟩
      obtain ⟨w5, hw5⟩ : ∃ w5, w5 = w3 := ⟨_, rfl⟩
      subst hw5
      obtain ⟨ys, hys⟩ : ∃ ys : List Int, ys = [] := ⟨_, rfl⟩
      have HYL := Aside0.mk (show ys.length ≤ 1024 from by rw [hys]; decide)
      have HSM := Aside0.mk (same_at w5 none none 0 0 [] [] true rfl rfl rfl (Kd.C_nil kb w5) (Nat.le_refl _) (Kd.C_nil kb w5) (Nat.le_refl _) (by decide))
      clear cb0 cb1 cb2 cb3 hin
      go_wp2_with fail
      refine HSM.out.mono ?_
      rintro e w6 ⟨rfl, hE⟩
      have HT6 := Aside0.mk (HT3.out.ext hE)
      have HA6 := Aside0.mk (HA3.out.ext hE)
      have HU6 := Aside0.mk (show NB w6 w5.heap.size (.slice none 0 0) [] from Kd.R_nil _ _ _ _ _)
      clear hE HSM
      go_wp2_with fail
      refine (spoil_calls w6 [] w0 (.slice none 0 0) HA6.out.he (Kd.R_nil _ _ _ _ _) (by decide)).mono ?_
      rintro e w7 ⟨rfl, hE, hK⟩
      have HCK := Aside0.mk (Chg.of_kept HA6.out.he hE hK)
      have HTk := Aside0.mk (HT6.out.spoilB HU6.out (fun j hj => by simp [Value.ownBlock] at hj) HCK.out)
      have HAk := Aside0.mk (HA6.out.spoil HU6.out HW23.out HBX2.out HCK.out hE)
      clear hE hK HT6 HA6 HU6 HCK
      clear HT3 HA3 HIN3 HRD3 HRF3
      obtain ⟨cb0, cb1, cb2, cb3⟩ : w7.cell? ⟨bx, 0, none⟩ = some (.int .i64 kind) ∧ w7.cell? ⟨bx, 1, none⟩ = some (.int .i64 i) ∧ w7.cell? ⟨bx, 2, none⟩ = some (.slice AD m cd) ∧ w7.cell? ⟨bx, 3, none⟩ = some (.slice AF mf cf) := ⟨HAk.out.bb.cell 0 rfl, HAk.out.bb.cell 1 rfl, HAk.out.bb.cell 2 rfl, HAk.out.bb.cell 3 rfl⟩
      have HKP := Aside0.mk (show Calls Try.prog 63 #[.slice AV m5 cV, .slice AD m cd] w7 (fun e w' => e = .returned (.bool true) ∧ Ext w7 w') from by
        obtain ⟨A', c', e, h1, h2⟩ := HAk.out.nb.nat HM5.out
        rw [HEV.out] at e
        injection e with e1 e2 e3
        subst e1 e3
        exact kept_at w7 AV AD cV cd xs HM5.out HN.out h2 h1 (Kd.C_below HRD.out HAk.out.he) hc hm)
      clear cb0 cb1 cb3
      go_wp2_with fail
      refine HKP.out.mono ?_
      rintro e wz ⟨rfl, hE⟩
      have HTz := Aside0.mk (HTk.out.ext hE)
      have HAz := Aside0.mk (HAk.out.ext hE)
      clear hE HKP HTk HAk cb2
      go_wp2_with fail
      refine (spoil_calls wz (lent xs) w0 (.slice AV m5 cV) HAz.out.he (by rw [← HEV.out]; exact HAz.out.nb.lower HAz.out.wb) (by rw [← HM5.out, HM5.out, lent_length, ← HN.out]; omega)).mono ?_
      rintro e wy ⟨rfl, hE, hK⟩
      rw [← HEV.out] at hK
      have HTy := Aside0.mk (HTz.out.spoilB HAz.out.nb (fun j hj => HVB.out j hj) (Chg.of_kept HAz.out.he hE hK))
      have HEy := Aside0.mk hE
      clear hE hK HTz HAz
      go_wp2_with fail
      go_ret
      exact ⟨rfl, ⟨_, _, _, _, HTy.out.sub (fun k hk => hk.elim), HL.out⟩, HEy.out⟩
  · go_wp2_with fail
    refine (tw_arm HT3.out i).mono ?_
    rintro e w4 ⟨rfl, hT, hC⟩
    have HT4 := Aside0.mk hT
    have HA4 := Aside0.mk (HA3.out.tst HT3.out HS.out hC)
    clear hT hC cb0 cb1 cb2 cb3
    have cb1 : w4.cell? ⟨bx, 1, none⟩ = some (.int .i64 i) := HA4.out.bb.cell 1 rfl
    go_wp2_with fail
    refine (tr_arm HT4.out i).mono ?_
    rintro e w5 ⟨rfl, hT, hC⟩
    have HTk := Aside0.mk hT
    have HAk := Aside0.mk (HA4.out.tst HT4.out HS.out hC)
    clear hT hC HT4 HA4 cb1
    clear HT3 HA3 HIN3 HRD3 HRF3
    obtain ⟨cb0, cb1, cb2, cb3⟩ : w5.cell? ⟨bx, 0, none⟩ = some (.int .i64 kind) ∧ w5.cell? ⟨bx, 1, none⟩ = some (.int .i64 i) ∧ w5.cell? ⟨bx, 2, none⟩ = some (.slice AD m cd) ∧ w5.cell? ⟨bx, 3, none⟩ = some (.slice AF mf cf) := ⟨HAk.out.bb.cell 0 rfl, HAk.out.bb.cell 1 rfl, HAk.out.bb.cell 2 rfl, HAk.out.bb.cell 3 rfl⟩
    have HKP := Aside0.mk (show Calls Try.prog 63 #[.slice AV m5 cV, .slice AD m cd] w5 (fun e w' => e = .returned (.bool true) ∧ Ext w5 w') from by
      obtain ⟨A', c', e, h1, h2⟩ := HAk.out.nb.nat HM5.out
      rw [HEV.out] at e
      injection e with e1 e2 e3
      subst e1 e3
      exact kept_at w5 AV AD cV cd xs HM5.out HN.out h2 h1 (Kd.C_below HRD.out HAk.out.he) hc hm)
    clear cb0 cb1 cb3
    go_wp2_with fail
    refine HKP.out.mono ?_
    rintro e wz ⟨rfl, hE⟩
    have HTz := Aside0.mk (HTk.out.ext hE)
    have HAz := Aside0.mk (HAk.out.ext hE)
    clear hE HKP HTk HAk cb2
    go_wp2_with fail
    refine (spoil_calls wz (lent xs) w0 (.slice AV m5 cV) HAz.out.he (by rw [← HEV.out]; exact HAz.out.nb.lower HAz.out.wb) (by rw [← HM5.out, HM5.out, lent_length, ← HN.out]; omega)).mono ?_
    rintro e wy ⟨rfl, hE, hK⟩
    rw [← HEV.out] at hK
    have HTy := Aside0.mk (HTz.out.spoilB HAz.out.nb (fun j hj => HVB.out j hj) (Chg.of_kept HAz.out.he hE hK))
    have HEy := Aside0.mk hE
    clear hE hK HTz HAz
    go_wp2_with fail
    go_ret
    exact ⟨rfl, ⟨_, _, _, _, HTy.out.sub (fun k hk => hk.elim), Lft.arm i HI.out⟩, HEy.out⟩
  · have HLT3 := Aside0.mk HT3.out.lt
    go_wp2_with fail
    refine (lentI_at w3 AF cf fl HNF.out (Kd.F_now HRF3.out) hcf hmf).mono ?_
    rintro e w4 ⟨VL, rfl, hV, hE⟩
    obtain ⟨w3s, hw3s⟩ : ∃ z, z = w3.heap.size := ⟨_, rfl⟩
    rw [← hw3s] at hV HLT3
    have HT4 := Aside0.mk (HT3.out.ext hE)
    have HA4 := Aside0.mk (HA3.out.ext hE)
    have HRF4 := Aside0.mk (show Kd.F kI w4 (fun k => ¬ Tst bd bl bc br bm bq k) AF mf fl from Kd.F_below HRF3.out hE)
    obtain ⟨q5, hq5⟩ : ∃ z, z = (lentI fl).length := ⟨_, rfl⟩
    have HQ5 := Aside0.mk hq5
    have hq5' : q5 = mf + 5 := by rw [hq5, lent_lengthI, HNF.out]
    obtain ⟨AL, cL, eL, hcL, hCL⟩ := hV.nat hq5
    subst eL
    have HVL := Aside0.mk hV
    have HOFF := Aside0.mk (fun j (hj : (Value.slice AL q5 cL).ownBlock = some j) (hs : Tst bd bl bc br bm bq j) => show False from by have h1 := Kd.R_base hV j hj; have h2 := HLT3.out j hs; omega)
    have HIL := Aside0.mk (show Kd.F kI w4 (fun k => ¬ Tst bd bl bc br bm bq k) AL mf fl from by
      have h1 := Kd.R_take (m := mf) hV (by rw [← hq5]; omega)
      have h2 : (lentI fl).take mf = fl := by rw [HNF.out]; exact lent_takeI fl
      rw [h2] at h1
      exact NI.F h1 (fun j hj hs => by have e1 := Kd.R_base h1 j hj; have e2 := HLT3.out j hs; omega))
    have HCL := Aside0.mk (show mf ≤ cL from by omega)
    obtain ⟨i0, hi0, _, hsz, _⟩ := info_parts PDiskPlays.info3
    have hcut := cut_to (P := Try.prog) 23 3 .i64 Try.underlying23 hi0 AL q5 cL (mf : Int) (by omega) (by omega) hcL
    rw [Int.toNat_natCast] at hcut
    have hmm : (mf : Int) ≤ q5 := by omega
    have hm52 : (q5 : Int) ≤ 205 := by omega
    clear hV hE hq5 hCL hi0 hsz cb0 cb1 cb2 cb3 hw3s hq5'
    have cb3 : w4.cell? ⟨bx, 3, none⟩ = some (.slice AF mf cf) := HA4.out.bb.cell 3 rfl
    go_wp2_with fail
    refine (tw_crash HT4.out AL mf cL fl HNF.out HIL.out HCL.out).mono ?_
    rintro e w5 ⟨rfl, hT, hC⟩
    have HT5 := Aside0.mk hT
    have HA5 := Aside0.mk (HA4.out.tst HT4.out HS.out hC)
    have HRF5 := Aside0.mk (show Kd.F kI w5 (fun k => ¬ Tst bd bl bc br bm bq k) AF mf fl from Kd.F_step HRF4.out (fun k hk hkl => hC.block k hkl hk))
    have HVL5 := Aside0.mk (HVL.out.chg hC (fun j hj hs => HOFF.out j hj hs))
    clear hT hC HT4 HA4 HRF4 HVL HIL cb3 hcut hmm hm52
    have cb3 : w5.cell? ⟨bx, 3, none⟩ = some (.slice AF mf cf) := HA5.out.bb.cell 3 rfl
    go_wp2_with fail
    refine (tr_crash HT5.out AF mf cf fl HNF.out HRF5.out hcf).mono ?_
    rintro e w6 ⟨rfl, hT, hC⟩
    have HT6 := Aside0.mk hT
    have HA6 := Aside0.mk (HA5.out.tst HT5.out HS.out hC)
    have HVL6 := Aside0.mk (HVL5.out.chg hC (fun j hj hs => HOFF.out j hj hs))
    clear hT hC HT5 HA5 HRF5 HVL5 cb3
    have cb3 : w6.cell? ⟨bx, 3, none⟩ = some (.slice AF mf cf) := HA6.out.bb.cell 3 rfl
    have HKI := Aside0.mk (show Calls Try.prog 61 #[.slice AL q5 cL, .slice AF mf cf] w6 (fun e w' => e = .returned (.bool true) ∧ Ext w6 w') from by
      obtain ⟨A', c', e, h1, h2⟩ := HVL6.out.nat HQ5.out
      injection e with e1 e2 e3
      subst e1 e3
      exact keptI_at w6 AL AF cL cf fl HQ5.out HNF.out h2 h1 (Kd.C_below HRF.out HA6.out.he) hcf hmf)
    go_wp2_with fail
    refine HKI.out.mono ?_
    rintro e w7 ⟨rfl, hE⟩
    have HTk := Aside0.mk (HT6.out.ext hE)
    have HAk := Aside0.mk (HA6.out.ext hE)
    clear hE HKI HT6 HA6 HVL6 cb3
    clear HT3 HA3 HIN3 HRD3 HRF3
    obtain ⟨cb0, cb1, cb2, cb3⟩ : w7.cell? ⟨bx, 0, none⟩ = some (.int .i64 kind) ∧ w7.cell? ⟨bx, 1, none⟩ = some (.int .i64 i) ∧ w7.cell? ⟨bx, 2, none⟩ = some (.slice AD m cd) ∧ w7.cell? ⟨bx, 3, none⟩ = some (.slice AF mf cf) := ⟨HAk.out.bb.cell 0 rfl, HAk.out.bb.cell 1 rfl, HAk.out.bb.cell 2 rfl, HAk.out.bb.cell 3 rfl⟩
    have HKP := Aside0.mk (show Calls Try.prog 63 #[.slice AV m5 cV, .slice AD m cd] w7 (fun e w' => e = .returned (.bool true) ∧ Ext w7 w') from by
      obtain ⟨A', c', e, h1, h2⟩ := HAk.out.nb.nat HM5.out
      rw [HEV.out] at e
      injection e with e1 e2 e3
      subst e1 e3
      exact kept_at w7 AV AD cV cd xs HM5.out HN.out h2 h1 (Kd.C_below HRD.out HAk.out.he) hc hm)
    clear cb0 cb1 cb3
    go_wp2_with fail
    refine HKP.out.mono ?_
    rintro e wz ⟨rfl, hE⟩
    have HTz := Aside0.mk (HTk.out.ext hE)
    have HAz := Aside0.mk (HAk.out.ext hE)
    clear hE HKP HTk HAk cb2
    go_wp2_with fail
    refine (spoil_calls wz (lent xs) w0 (.slice AV m5 cV) HAz.out.he (by rw [← HEV.out]; exact HAz.out.nb.lower HAz.out.wb) (by rw [← HM5.out, HM5.out, lent_length, ← HN.out]; omega)).mono ?_
    rintro e wy ⟨rfl, hE, hK⟩
    rw [← HEV.out] at hK
    have HTy := Aside0.mk (HTz.out.spoilB HAz.out.nb (fun j hj => HVB.out j hj) (Chg.of_kept HAz.out.he hE hK))
    have HEy := Aside0.mk hE
    clear hE hK HTz HAz
    go_wp2_with fail
    go_ret
    exact ⟨rfl, ⟨_, _, _, _, HTy.out.sub (fun k hk => hk.elim), Lft.crash lf⟩, HEy.out⟩
  · have HTX := Aside0.mk (HT3.out.sub (Y := (fun k => w1s ≤ k ∧ k < w2s)) (fun k hk => hk.1))
    go_wp2_with fail
    apply wp_region_H 12 4 10 (fun a b => Chg a b (Tst bd bl bc br bm bq)) (fun z => TW (fun k => w1s ≤ k ∧ k < w2s) z bd bl bc br bm bq n (sTa s n i m xs) ar (lf) s left) (fun z => TW (fun k => w1s ≤ k ∧ k < w2s) z bd bl bc br bm bq n (sTa s n i m xs) ar (lf) (sTa s n i m xs) (left)) [RF.val _, RF.val _, RF.val _, RF.val _, RF.val _, RF.val _, RF.val _, RF.val _, RF.val _, RF.val _, RF.val _, RF.val _]
    case hm => kernel_rfl
    case hB => kernel_rfl
    case hgE => exact fun a b h => Chg.of_ext h _
    case hgT => exact fun a b c h k => h.trans k
    case hP1 => exact (fun a b h he => h.ext he)
    case hP2 => exact (fun a b h he => h.ext he)
    simp only [List.take_succ_cons, List.take_zero, List.zip_cons_cons, List.zip_nil_left]
    refine wpH_val (by rfl) (by decide) (by decide) (fun w' hE hD => by unfold YldR; go_simp; exact ⟨Ext.refl _, rfl⟩) ?_
    (try simp only [Act.put, List.setIfInBounds_toArray, List.set_cons_zero, List.set_cons_succ])
    refine wpH_val (by rfl) (by decide) (by decide) (fun w' hE hD => by unfold YldR; go_simp; exact ⟨Ext.refl _, rfl⟩) ?_
    (try simp only [Act.put, List.setIfInBounds_toArray, List.set_cons_zero, List.set_cons_succ])
    refine wpH_val (by rfl) (by decide) (by decide) (fun w' hE hD => by have hc1 := (hE.blk HA3.out.bb HNX.out).cell 1 (v := .int .i64 i) rfl; unfold YldR; go_simp; exact ⟨Ext.refl _, rfl⟩) ?_
    (try simp only [Act.put, List.setIfInBounds_toArray, List.set_cons_zero, List.set_cons_succ])
    refine wpH_val (by rfl) (by decide) (by decide) (fun w' hE hD => by unfold YldR; go_simp; exact ⟨Ext.refl _, rfl⟩) ?_
    (try simp only [Act.put, List.setIfInBounds_toArray, List.set_cons_zero, List.set_cons_succ])
    refine wpH_one rfl (by rfl) (by decide) (fun w' hE hD => by unfold YldR; go_simp; exact (tw_tamper (HTX.out.ext hE) i AV m cV xs HN.out (Kd.F_below HIN3.out hE) (by have := HCVF.out; omega) (fun k hk => Nat.lt_of_lt_of_le hk.2 (Nat.le_trans HA3.out.ws hE.size))).mono fun e w2 h => ⟨_, h.1, ⟨h.2.2, h.2.1⟩, rfl⟩) ?_
    (try simp only [Act.put, List.setIfInBounds_toArray, List.set_cons_zero, List.set_cons_succ])
    refine wpH_val (by rfl) (by decide) (by decide) (fun w' hE hD => by unfold YldR; go_simp; exact ⟨Ext.refl _, rfl⟩) ?_
    (try simp only [Act.put, List.setIfInBounds_toArray, List.set_cons_zero, List.set_cons_succ])
    refine wpH_val (by rfl) (by decide) (by decide) (fun w' hE hD => by unfold YldR; go_simp; exact ⟨Ext.refl _, rfl⟩) ?_
    (try simp only [Act.put, List.setIfInBounds_toArray, List.set_cons_zero, List.set_cons_succ])
    refine wpH_val (by rfl) (by decide) (by decide) (fun w' hE hD => by have hc1 := (hE.blk HA3.out.bb HNX.out).cell 1 (v := .int .i64 i) rfl; unfold YldR; go_simp; exact ⟨Ext.refl _, rfl⟩) ?_
    (try simp only [Act.put, List.setIfInBounds_toArray, List.set_cons_zero, List.set_cons_succ])
    refine wpH_val (by rfl) (by decide) (by decide) (fun w' hE hD => by unfold YldR; go_simp; exact ⟨Ext.refl _, rfl⟩) ?_
    (try simp only [Act.put, List.setIfInBounds_toArray, List.set_cons_zero, List.set_cons_succ])
    refine wpH_val (by rfl) (by decide) (by decide) (fun w' hE hD => by have hc2 := (hE.blk HA3.out.bb HNX.out).cell 2 (v := .slice AD m cd) rfl; unfold YldR; go_simp; exact ⟨Ext.refl _, rfl⟩) ?_
    (try simp only [Act.put, List.setIfInBounds_toArray, List.set_cons_zero, List.set_cons_succ])
    refine wpH_two rfl (by rfl) (by decide) (by decide) (fun w' hE hP hD => by unfold YldR; go_simp; exact (tr_tamper hP i AD m cd xs HN.out (Kd.F_step HRD3.out (fun k hk hkl => hE.block k hkl hk)) hc (fun k hk => Nat.lt_of_lt_of_le hk.2 (Nat.le_trans HA3.out.ws hE.size))).mono fun e w2 h => ⟨_, h.1, ⟨h.2.2, h.2.1⟩, rfl⟩) ?_
    (try simp only [Act.put, List.setIfInBounds_toArray, List.set_cons_zero, List.set_cons_succ])
    refine wpH_val (by rfl) (by decide) (by decide) (fun w' hE hD => by unfold YldR; go_simp; exact ⟨Ext.refl _, rfl⟩) ?_
    (try simp only [Act.put, List.setIfInBounds_toArray, List.set_cons_zero, List.set_cons_succ])
    refine wpH_nil fun w4 hC4 hP hA => ?_
    simp only [List.drop_succ_cons, List.drop_zero]
    have HTk := Aside0.mk hP
    have HAk := Aside0.mk (HA3.out.tst HT3.out HS.out hC4)
    clear hP hC4 hA HTX
    clear cb0 cb1 cb2 cb3 HT3 HA3 HIN3 HRD3 HRF3
    obtain ⟨cb0, cb1, cb2, cb3⟩ : w4.cell? ⟨bx, 0, none⟩ = some (.int .i64 kind) ∧ w4.cell? ⟨bx, 1, none⟩ = some (.int .i64 i) ∧ w4.cell? ⟨bx, 2, none⟩ = some (.slice AD m cd) ∧ w4.cell? ⟨bx, 3, none⟩ = some (.slice AF mf cf) := ⟨HAk.out.bb.cell 0 rfl, HAk.out.bb.cell 1 rfl, HAk.out.bb.cell 2 rfl, HAk.out.bb.cell 3 rfl⟩
    have HKP := Aside0.mk (show Calls Try.prog 63 #[.slice AV m5 cV, .slice AD m cd] w4 (fun e w' => e = .returned (.bool true) ∧ Ext w4 w') from by
      obtain ⟨A', c', e, h1, h2⟩ := HAk.out.nb.nat HM5.out
      rw [HEV.out] at e
      injection e with e1 e2 e3
      subst e1 e3
      exact kept_at w4 AV AD cV cd xs HM5.out HN.out h2 h1 (Kd.C_below HRD.out HAk.out.he) hc hm)
    clear cb0 cb1 cb3
    go_wp2_with fail
    refine HKP.out.mono ?_
    rintro e wz ⟨rfl, hE⟩
    have HTz := Aside0.mk (HTk.out.ext hE)
    have HAz := Aside0.mk (HAk.out.ext hE)
    clear hE HKP HTk HAk cb2
    go_wp2_with fail
    refine (spoil_calls wz (lent xs) w0 (.slice AV m5 cV) HAz.out.he (by rw [← HEV.out]; exact HAz.out.nb.lower HAz.out.wb) (by rw [← HM5.out, HM5.out, lent_length, ← HN.out]; omega)).mono ?_
    rintro e wy ⟨rfl, hE, hK⟩
    rw [← HEV.out] at hK
    have HTy := Aside0.mk (HTz.out.spoilB HAz.out.nb (fun j hj => ⟨HVB.out j hj, HAz.out.vl j hj⟩) (Chg.of_kept HAz.out.he hE hK))
    have HEy := Aside0.mk hE
    clear hE hK HTz HAz
    go_wp2_with fail
    go_ret
    exact ⟨rfl, ⟨_, _, _, _, HTy.out.sub (fun k hk => hk.elim), HL.out⟩, HEy.out⟩
end
end Go.Proofs.Ytkgjcmolmogpdaa.By
