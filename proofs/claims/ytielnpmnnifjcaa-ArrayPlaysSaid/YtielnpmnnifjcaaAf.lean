/- An array: Fall, Mapped. -/
import Derived.Test.YtielnpmnnifjcaaAq
namespace Go.Proofs.Ytielnpmnnifjcaa.By
open Go.RowKit Go.Proofs.Ytielnpmnnifjcaa.Reg Go.Proofs.YtielnpmnnifjcaaW.PrintWords Go.Proofs.YtielnpmnnifjcaaW.PrintLast Go.Proofs.YtielnpmnnifjcaaW.PrintMore
set_option linter.unusedVariables false
set_option linter.unusedSimpArgs false


def doR (R : Nat → List Int) (p : Ch) : Nat → List Int := upd R p.2.1.toNat p.2.2
def doM (M : Nat → Bool) (p : Ch) : Nat → Bool := upd M p.2.1.toNat (!p.1)
def aftR (R : Nat → List Int) (L : List Ch) : Nat → List Int := L.foldl doR R
def aftM (M : Nat → Bool) (L : List Ch) : Nat → Bool := L.foldl doM M
theorem aftR_snoc (R : Nat → List Int) (L : List Ch) (p : Ch) : aftR R (L ++ [p]) = doR (aftR R L) p := by simp [aftR]
theorem aftM_snoc (M : Nat → Bool) (L : List Ch) (p : Ch) : aftM M (L ++ [p]) = doM (aftM M L) p := by simp [aftM]
theorem aftR_take {R : Nat → List Int} {L : List Ch} {x : Nat} {p : Ch} (hp : L[x]? = some p) : aftR R (L.take (x + 1)) = doR (aftR R (L.take x)) p := by
  obtain ⟨hx, e⟩ := List.getElem?_eq_some_iff.1 hp
  rw [List.take_succ_eq_append_getElem hx, e, aftR_snoc]
theorem aftM_take {M : Nat → Bool} {L : List Ch} {x : Nat} {p : Ch} (hp : L[x]? = some p) : aftM M (L.take (x + 1)) = doM (aftM M (L.take x)) p := by
  obtain ⟨hx, e⟩ := List.getElem?_eq_some_iff.1 hp
  rw [List.take_succ_eq_append_getElem hx, e, aftM_snoc]
/-- A change that may be, to one of n blocks. -/
def okC (n : Nat) (p : Ch) : Prop := 0 ≤ p.2.1 ∧ p.2.1 < (n : Int) ∧ p.2.2.length = 32
theorem AC.doL {cs : Array Value} {n : Nat} {R R' : Nat → List Int} {M M' : Nat → Bool} {V : Value} (h : AC cs n R M R' M' V) (trim : Bool) (k : Nat) (data : List Int) (hk : k < 64) (hd : data.length = 32) : AC (doC cs 1 trim k data) n (upd R k data) (upd M k (!trim)) R' M' V := by
  have hs : 1 + 2112 ≤ cs.size := by rw [h.sz]; decide
  refine ⟨by rw [doC_size hk hd hs, h.sz], ?_, h.la.do trim k data hk hd hs, h.no.far trim k data hk hd hs (.inr (by decide)), ?_⟩
  · rw [doC_at hk hd hs, if_neg (by omega), if_neg (by omega), h.c0]
  · rw [doC_at hk hd hs, if_neg (by omega), if_neg (by omega), h.op]
theorem ch_at {w : World} {A : Option Addr} {n : Nat} {L : List Ch} (h : Kd.C kH w A n L) (i : Nat) (hi : i < n) (p : Ch) (hp : L[i]? = some p) : ∃ b off, A = some ⟨b, off, none⟩ ∧ w.rangeAt b (off + i * 34) (chL p) := by
  obtain ⟨b, off, cs, e, h1, h2, h3⟩ := row_at h (by decide) i hi p hp
  obtain ⟨e2, _⟩ := ch_K h2
  subst e2
  exact ⟨b, off, e, h3⟩
section
variable {w w' : World} {ba n : Nat} {R R' : Nat → List Int} {M M' : Nat → Bool}
set_option maxRecDepth 100000 in
set_option maxHeartbeats 2000000 in
theorem afall_no {A : Option Addr} {nl c : Nat} (h : AV w ba n R M R' M' (.slice A nl c)) (m : Int) (hm : m < 0 ∨ (nl : Int) < m) : Calls Try.prog 11 #[.pointer (some ⟨ba, 0, none⟩), .int .i64 m] w fun e w' => e = .returned (.int .i64 7) ∧ w = w' := by
  obtain ⟨c0, c1⟩ := h.cells
  clear h c0
  by_cases h0 : m < 0
  · have hd0 : decide (m < 0) = true := decide_eq_true h0
    clear hm
    go_enter Try.func11, Try.ntmps11
    go_wp2
    go_ret
    exact ⟨rfl, rfl⟩
  · have hd0 : decide (m < 0) = false := decide_eq_false h0
    have h1 : (nl : Int) < m := by omega
    have hd1 : decide ((nl : Int) < m) = true := decide_eq_true h1
    clear hm
    go_enter Try.func11, Try.ntmps11
    go_wp2
    go_ret
    exact ⟨rfl, rfl⟩
set_option maxRecDepth 100000 in
set_option maxHeartbeats 2000000 in
theorem afall_ok {A : Option Addr} {nl c : Nat} (h : AV w ba n R M R' M' (.slice A nl c)) {L : List Ch} (hL : OR w (.slice A nl c) L) (hnl : nl = L.length) (hok : ∀ p ∈ L, okC n p) (hn64 : n ≤ 64) (m : Nat) (hm : m ≤ nl) (hlim : nl ≤ 100000) :
    Calls Try.prog 11 #[.pointer (some ⟨ba, 0, none⟩), .int .i64 (m : Int)] w fun e w' => e = .returned (.int .i64 0) ∧ AV w' ba n (aftR R (L.take m)) (aftM M (L.take m)) (aftR R (L.take m)) (aftM M (L.take m)) (.slice none 0 0) ∧ Chg w w' (fun j => j = ba) := by
  obtain ⟨c0, c1⟩ := h.cells
  obtain ⟨A', c', e', hcc, hCC⟩ := hL.nat hnl
  injection e' with e1 e2 e3
  rw [← e1] at hCC
  rw [← e3] at hcc
  clear e1 e2 e3
  have HCC := Aside0.mk hCC
  have HNL := Aside0.mk hnl
  have HOK := Aside0.mk hok
  have HN64 := Aside0.mk hn64
  have HNB := Aside0.mk (show ∀ j, (Value.slice A nl c).ownBlock = some j → ¬ j = ba from fun j hj e => by
    obtain ⟨cells, hcl⟩ := hL.typed j hj
    obtain ⟨cs, hb, _⟩ := h
    rw [e] at hcl
    have := hb.is.symm.trans hcl
    injection this with this
    injection this with _ h9
    cases h9)
  have HOR := Aside0.mk hL
  have HZ := Aside0.mk (show AV w ba n (aftR R (L.take 0)) (aftM M (L.take 0)) R' M' (.slice A nl c) from h)
  have hd0 : decide ((m : Int) < 0) = false := decide_eq_false (by omega)
  have hd1 : decide (nl < m) = false := decide_eq_false (by omega)
  obtain ⟨i0, hi0, _, hsz, _⟩ := info_parts info71
  have hcut := cut_to (P := Try.prog) 64 71 .i64 Try.underlying64 hi0 A nl c (m : Int) (by omega) (by omega) hcc
  rw [Int.toNat_natCast] at hcut
  have HI71 := Aside0.mk (fun (p : Ch) (hp : p.2.2.length = 32) => show (Try.prog.info? 71).map (·.size) = some (chL p).length from by rw [chL_len p hp]; kernel_rfl)
  have HBA0 := Aside0.mk h.lt
  clear h hL hnl hok hn64 c0 hi0 hsz hCC
  go_enter Try.func11, Try.ntmps11
  go_wp2_with fail
  clear hcut c1
  go_loopw [25] (fun j wr => ∃ x : Nat, j = .int .i64 x ∧ Aside0 (x ≤ m) ∧ Aside0 (AV wr ba n (aftR R (L.take x)) (aftM M (L.take x)) R' M' (.slice A nl c)) ∧ Aside0 (Chg w wr (fun j => j = ba))) (fun j _ => m - (intOf j).toNat)
  case atStart => exact ⟨0, rfl, ⟨Nat.zero_le _⟩, HZ, ⟨Chg.refl _ _⟩⟩
  case round =>
    clear HZ
    obtain ⟨x, rfl, HX, HAV, HC⟩ := hrel
    have g1 := HX.out
    obtain ⟨wx, hwx⟩ : ∃ wx : World, wx = wr := ⟨_, rfl⟩
    subst hwx
    by_cases hlt : x < m
    · have HLT := Aside0.mk hlt
      have hxe : x < L.length := by have := HNL.out; omega
      have hget : L[x]? = some L[x] := List.getElem?_eq_getElem hxe
      have HPK := Aside0.mk (HOK.out _ (List.getElem_mem hxe))
      have hor := HOR.out.chg HC.out HNB.out
      obtain ⟨A', c', e', _, hCC⟩ := hor.nat HNL.out
      injection e' with e1 e2 e3
      rw [← e1] at hCC
      obtain ⟨b, off, hA, hrg⟩ := ch_at hCC x (by omega) _ hget
      have HTR := Aside0.mk (aftR_take (R := R) hget)
      have HTM := Aside0.mk (aftM_take (M := M) hget)
      generalize L[x] = p at hrg HPK HTR HTM
      obtain ⟨trim, at', data⟩ := p
      obtain ⟨k, rfl⟩ : ∃ k : Nat, at' = k := ⟨at'.toNat, by have := HPK.out.1; dsimp only at this; omega⟩
      have HKK := Aside0.mk (show k < 64 ∧ data.length = 32 from ⟨by have := HPK.out.2.1; have := HN64.out; dsimp only at *; omega, HPK.out.2.2⟩)
      subst hA
      have HRG := Aside0.mk (show wx.rangeAt b (off + x * 34) (chL (trim, (k : Int), data)) from hrg)
      clear hrg hget hxe hor hCC e1 e2 e3
      have hlx : (x : Int) < (m : Int) := by omega
      go_wp2_with (first | ((with_reducible refine gate_load (ty := 71) rfl ?_); refine load_at rfl 71 _ rfl b (off + x * 34) rfl (chL (trim, (k : Int), data)) _ HRG.out Try.underlying71 rfl (HI71.out _ HKK.out.2) ?_) | ((with_reducible refine gate_alloc (ty := 71) rfl ?_); refine alloc_at rfl 71 rfl _ zero71 ?_) | ((with_reducible refine gate_store (ty := 71) rfl ?_); refine store_at rfl 71 _ _ rfl wx.heap.size (chL (trim, (k : Int), data)) rfl rfl (chL (false, 0, z32)).toArray 71 (Blk.new _ _ _) (by rw [List.size_toArray, chL_len _ z32_len, chL_len _ HKK.out.2]) (HI71.out _ HKK.out.2) (chL_one _) ?_) | fail)
      intro w3 hW3 hb3
      obtain ⟨b6, hb6⟩ : ∃ z, z = wx.heap.size := ⟨_, rfl⟩
      rw [← hb6] at hW3 hb3 ⊢
      have hE3 : Ext wx w3 := (Chg.of_wrote (S := fun j => j = b6) hW3 rfl).to_ext ((Ext.refl wx).alloc _) (fun j hj => by rw [hj, hb6]; exact Nat.le_refl _)
      have HB63 := Aside0.mk hb3
      have HN6 := Aside0.mk (show ¬ b6 = ba from by have := HAV.out.lt; omega)
      have HC3 := Aside0.mk (HC.out.ext hE3)
      obtain ⟨cs, hblk, hac⟩ := HAV.out.ext hE3
      have HBA3 := Aside0.mk hblk
      have HAC := Aside0.mk hac
      have HRG6 := Aside0.mk (fun (W : World) (h : Blk W b6 (chL (trim, (k : Int), data)).toArray 71) => show W.rangeAt b6 0 (chL (trim, (k : Int), data)) from h.whole)
      clear hW3 hb3 hb6 hE3 HAV HC hblk hac HRG
      go_wp2_with fail
      apply wp_region_G 5 4 (fun a b' => Chg a b' (fun j => j = ba)) (fun a b h => Chg.of_ext h _) (fun a b c h k => h.trans k) [GF.val _, GF.val _, GF.val _, GF.val _, GF.fact true (fun u w' => Blk w' ba (doC cs 1 trim k data) 66)]
      case hm => kernel_rfl
      case hB => kernel_rfl
      simp only [List.take_succ_cons, List.take_zero, List.zip_cons_cons, List.zip_nil_left]
      refine wpG_val (by rfl) (by decide) (fun w' hE hD => by unfold YldG; go_simp; exact ⟨Ext.refl _, rfl⟩) ?_
      (try simp only [Act.put, List.setIfInBounds_toArray, List.set_cons_zero, List.set_cons_succ])
      refine wpG_val (by rfl) (by decide) (fun w' hE hD => by unfold YldG; go_simp; exact ⟨Ext.refl _, rfl⟩) ?_
      (try simp only [Act.put, List.setIfInBounds_toArray, List.set_cons_zero, List.set_cons_succ])
      refine wpG_val (by rfl) (by decide) (fun w' hE hD => by unfold YldG; go_simp; exact ⟨Ext.refl _, rfl⟩) ?_
      (try simp only [Act.put, List.setIfInBounds_toArray, List.set_cons_zero, List.set_cons_succ])
      refine wpG_val (by rfl) (by decide) (fun w' hE hD => YldG_load 71 _ rfl b6 0 rfl (chL (trim, (k : Int), data)) _ (HRG6.out w' (hE.blk HB63.out HN6.out)) Try.underlying71 rfl (HI71.out _ HKK.out.2)) ?_
      (try simp only [Act.put, List.setIfInBounds_toArray, List.set_cons_zero, List.set_cons_succ])
      refine wpG_here (by rfl) (by decide) (fun u Wa Wb h he => Blk.ext h he) (fun w' hE hD => by unfold YldG; go_simp; exact (bdo_calls w' ba 1 66 cs _ _ (HBA3.out.ext hE) HAC.out.la (by rw [HAC.out.sz]; decide) trim k data HKK.out.1 HKK.out.2).mono fun e w2 h => ⟨_, h.1, h.2.2, h.2.1⟩) (fun u33 => ?_)
      (try simp only [Act.put, List.setIfInBounds_toArray, List.set_cons_zero, List.set_cons_succ])
      refine wpG_nil fun w5 hC5 hA => ?_
      refine (show wpList _ _ _ [] _ _ from ?_)
      have HAV5 := Aside0.mk (show AV w5 ba n (aftR R (L.take (x + 1))) (aftM M (L.take (x + 1))) R' M' (.slice (some ⟨b, off, none⟩) nl c) from ⟨_, hA.1 rfl, by rw [HTR.out, HTM.out]; exact HAC.out.doL trim k data HKK.out.1 HKK.out.2⟩)
      have HC5 := Aside0.mk (HC3.out.trans hC5)
      clear hC5 hA HBA3 HB63 HAC HC3
      go_wp2_with fail
      go_roundw
      case rel => exact ⟨x + 1, by go_num, ⟨hlt⟩, HAV5, HC5⟩
      case measure => have := HLT.out; simp only [intOf]; omega
    · obtain rfl : x = m := by omega
      obtain ⟨cs, hB, hA⟩ := HAV.out
      have HB := Aside0.mk hB
      have HA := Aside0.mk hA
      have HSL := Aside0.mk (show (segB cs 1).length = 2112 from segB_len _ _ (by have := hA.sz; omega))
      have HRG := Aside0.mk (segB_range hB (show 1 + 2112 ≤ cs.size by have := hA.sz; omega))
      have HON := Aside0.mk (segB_one hA.la (show 1 + 2112 ≤ cs.size by have := hA.sz; omega))
      have HI := Aside0.mk (show (Try.prog.info? 63).map (·.size) = some (segB cs 1).length from by rw [HSL.out]; kernel_rfl)
      clear hB hA
      go_wp2_with (first | ((with_reducible refine gate_load (ty := 63) rfl ?_); refine load_at rfl 63 _ rfl ba 1 rfl (segB cs 1) _ HRG.out Try.underlying63 rfl HI.out ?_) | ((with_reducible refine gate_store (ty := 63) rfl ?_); refine storem_at rfl 63 _ _ rfl ba 2113 (segB cs 1) rfl rfl cs 66 HB.out (by rw [HSL.out, HA.out.sz]; decide) HI.out HON.out ?_) | fail)
      intro w1 hW hB1
      have hz : (splice cs 2113 (segB cs 1)).size = 4226 := by rw [splice_size _ _ _ (by rw [HSL.out, HA.out.sz]; decide), HA.out.sz]
      have hc := hB1.cell 4225 (v := .slice A nl c) (by rw [splice_at _ _ _ (by rw [HSL.out, HA.out.sz]; decide), HSL.out, if_neg (by decide)]; exact HA.out.op)
      have hf := hB1.free 4225
      have HFIN := Aside0.mk (show AV (w1.setCell ⟨ba, 4225, none⟩ (.slice none 0 0)) ba n (aftR R (L.take x)) (aftM M (L.take x)) (aftR R (L.take x)) (aftM M (L.take x)) (.slice none 0 0) from ⟨_, hB1.set 4225 (.slice none 0 0), HA.out.fall (.slice none 0 0)⟩)
      have HCF := Aside0.mk (HC.out.trans (Chg.of_wrote (S := fun j => j = ba) (hW.trans (Wrote.setCell w1 ba 4225 (.slice none 0 0))) rfl))
      clear hW hB1 HB HA HSL HRG HON HI hz HAV HC
      go_wp2
      go_ret
      exact ⟨rfl, HFIN.out, HCF.out⟩
theorem run_index61 (X : Array Value) (x : Nat) (b : Bool) (hx : x < 64) (h : X[x]? = some (.bool b)) (W : World) : (Instr.index 61 (.agg X) (.int .i64 (x : Int))).run Try.prog W = .ok (.bool b) W := by
  obtain ⟨i, hi, hsz⟩ : ∃ i, Try.prog.info? 4 = some i ∧ i.size = 1 := by
    obtain ⟨i, h1, _, h2, _⟩ := info_parts PArrayPlays.info4
    exact ⟨i, h1, h2⟩
  have h0 : (0 : Int) ≤ x := by omega
  have h1 : (x : Int) < 64 := by omega
  simp [Instr.index, asIntOf, run_underlying Try.underlying61, h0, h1, hx, sizeOf, typeInfo, hi, hsz, part, h, Result.andThen]
def cntM (M : Nat → Bool) : Nat → Nat
  | 0 => 0
  | k + 1 => cntM M k + if M k = true then 1 else 0
theorem cntM_le (M : Nat → Bool) : ∀ k, cntM M k ≤ k
  | 0 => Nat.le_refl _
  | k + 1 => by
    have := cntM_le M k
    rw [cntM]
    split <;> omega
def bools (M : Nat → Bool) : List Value := (List.range 64).map fun i => .bool (M i)
theorem bools_at (M : Nat → Bool) (i : Nat) (hi : i < 64) : (bools M)[i]? = some (.bool (M i)) := by
  unfold bools
  rw [List.getElem?_map, List.getElem?_range hi]
  rfl
theorem bools_len (M : Nat → Bool) : (bools M).length = 64 := by unfold bools; rw [List.length_map, List.length_range]
set_option maxRecDepth 100000 in
set_option maxHeartbeats 2000000 in
theorem amapped_calls {V : Value} (h : AV w ba n R M R' M' V) : Calls Try.prog 14 #[.pointer (some ⟨ba, 0, none⟩)] w fun e w' => e = .returned (.int .i64 (cntM M' 64)) ∧ w = w' := by
  have HRG := Aside0.mk (show w.rangeAt ba 4161 (bools M') from fun j v hv => by
    have hj : j < 64 := by have := (List.getElem?_eq_some_iff.1 hv).1; rwa [bools_len] at this
    rw [bools_at M' j hj] at hv
    rw [← hv]
    have := (h.row j hj).2
    rw [show 2113 + 2048 + j = 4161 + j by omega] at this
    exact this)
  have HI := Aside0.mk (show (Try.prog.info? 61).map (·.size) = some (bools M').length from by rw [bools_len]; kernel_rfl)
  obtain ⟨X, hX⟩ : ∃ X : Array Value, X = (bools M').toArray := ⟨_, rfl⟩
  have HX := Aside0.mk (show ∀ i, i < 64 → X[i]? = some (.bool (M' i)) from fun i hi => by rw [hX, List.getElem?_toArray]; exact bools_at M' i hi)
  have HXE := Aside0.mk hX
  clear h hX
  go_enter Try.func14, Try.ntmps14
  go_wp2_with (first | ((with_reducible refine gate_load (ty := 61) rfl ?_); refine load_at rfl 61 _ rfl ba 4161 rfl (bools M') _ HRG.out Try.underlying61 rfl HI.out ?_) | fail)
  rw [← HXE.out]
  go_loopw [3, 5, 11] (fun u3 u5 j wr => ∃ x : Nat, j = .int .i64 x ∧ u3 = .int .i64 (cntM M' x) ∧ Aside0 (x ≤ 64) ∧ Aside0 (wr = w)) (fun _ _ j _ => 64 - (intOf j).toNat)
  case atStart => exact ⟨0, rfl, rfl, ⟨Nat.zero_le _⟩, ⟨rfl⟩⟩
  case round =>
    obtain ⟨x, rfl, rfl, HX', HW⟩ := hrel
    have g1 := HX'.out
    have hw := HW.out
    subst hw
    by_cases hlt : x < 64
    · have HLT := Aside0.mk hlt
      have hxi := run_index61 X x _ hlt (HX.out x hlt)
      have hl64 : (x : Int) < 64 := by omega
      have hcl := cntM_le M' x
      have HCS := Aside0.mk (show cntM M' (x + 1) = cntM M' x + if M' x = true then 1 else 0 from rfl)
      obtain ⟨q, hq⟩ : ∃ q, cntM M' x = q := ⟨_, rfl⟩
      rw [hq] at hcl HCS ⊢
      cases hm : M' x with
      | true =>
        rw [hm] at hxi HCS
        have HCE := Aside0.mk (show cntM M' (x + 1) = q + 1 from by rw [HCS.out, if_pos rfl])
        clear hm hq HCS
        go_wp2_with fail
        go_roundw
        case rel => exact ⟨x + 1, by go_num, by rw [HCE.out]; go_num, ⟨hlt⟩, ⟨trivial⟩⟩
        case measure => have := HLT.out; simp only [intOf]; omega
      | false =>
        rw [hm] at hxi HCS
        have HCE := Aside0.mk (show cntM M' (x + 1) = q from by rw [HCS.out, if_neg (by decide), Nat.add_zero])
        clear hm hq HCS
        go_wp2_with fail
        go_roundw
        case rel => exact ⟨x + 1, by go_num, by rw [HCE.out], ⟨hlt⟩, ⟨trivial⟩⟩
        case measure => have := HLT.out; simp only [intOf]; omega
    · obtain rfl : x = 64 := by omega
      go_wp2_with fail
      go_ret
      exact ⟨rfl, rfl⟩
end
end Go.Proofs.Ytielnpmnnifjcaa.By
