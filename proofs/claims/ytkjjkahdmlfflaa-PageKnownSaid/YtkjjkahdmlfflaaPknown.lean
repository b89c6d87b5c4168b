/- PageKnown. -/
import Derived.Test.YtkjjkahdmlfflaaPPagePutsx1
import Derived.Test.YtkjjkahdmlfflaaPlaw
namespace Go.Proofs.Ytkjjkahdmlfflaa.By
open Go.RowKit Go.Proofs.Ytkjjkahdmlfflaa.Reg Go.Proofs.YtkjjkahdmlfflaaW.PrintWords Go.Proofs.YtkjjkahdmlfflaaW.PrintLast Go.Proofs.YtkjjkahdmlfflaaW.PrintMore
set_option linter.unusedVariables false

def seenC (n : Nat) : List Value := List.replicate (8 + n) (.bool false) |>.mapIdx fun i v => if 8 ≤ i then .bool true else v
def seenR (n : Nat) : List Value := List.replicate 8 (.bool false) ++ List.replicate n (.bool true) ++ List.replicate (64 - n) (.bool false)
theorem built_seen : Program.built Try.prog 70 [] = some (seenR 0).toArray := by kernel_rfl
theorem seenR_len (n : Nat) (h : n ≤ 64) : (seenR n).length = 72 := by simp [seenR]; omega
theorem seenR_at (n : Nat) (h : n < 64) : (seenR n)[8 + n]? = some (.bool false) := by
  unfold seenR
  rw [List.getElem?_append_right (by simp; omega), List.getElem?_replicate, if_pos (by simp; omega)]
theorem seenR_set (n : Nat) (h : n < 64) : (seenR n).set (8 + n) (.bool true) = seenR (n + 1) := by
  unfold seenR
  have hl : (List.replicate 8 (Value.bool false) ++ List.replicate n (Value.bool true)).length = 8 + n := by simp only [List.length_append, List.length_replicate]
  have e1 : List.replicate (64 - n) (Value.bool false) = .bool false :: List.replicate (64 - (n + 1)) (.bool false) := by
    rw [← List.replicate_succ]; congr 1; omega
  rw [e1, List.set_append_right _ _ (by rw [hl]; exact Nat.le_refl _), hl, Nat.sub_self, List.set_cons_zero, List.replicate_succ' (n := n)]
  simp only [List.append_assoc, List.cons_append, List.nil_append]
theorem one_seen (n : Nat) : ∀ v ∈ seenR n, v.oneCell' = true := by
  intro v hv
  unfold seenR at hv
  simp only [List.mem_append, List.mem_replicate] at hv
  rcases hv with (⟨_, rfl⟩ | ⟨_, rfl⟩) | ⟨_, rfl⟩ <;> rfl
theorem leaf_in (x : Int) (h0 : 0 ≤ x) (h1 : x < 64) : ∃ i k, PPagePuts.page_Leaf.f x = some (i, k) ∧ 1 ≤ i ∧ i ≤ 8 ∧ 0 ≤ k ∧ k ≤ 7 ∧ x = 8 * (i - 1) + k := by
  refine ⟨_, _, by unfold PPagePuts.page_Leaf.f; rw [if_neg (by omega), if_neg (by omega)], ?_⟩
  have e1 : Int.tdiv x 8 = x / 8 := by rw [Int.tdiv_eq_ediv_of_nonneg h0]
  have e2 : Int.tmod x 8 = x % 8 := by rw [Int.tmod_eq_emod_of_nonneg h0]
  rw [e1, e2]
  have : wrap64 (wrap64 (x / 8) + 1) = x / 8 + 1 := by
    unfold wrap64
    omega
  rw [this]
  omega

def s31 : List Int := List.replicate 31 0 ++ [1]
def pv (v : Int) : List Rf := List.replicate 7 zeroR ++ [(v, s31)]
theorem s31_ok (v : Int) (h : -9223372036854775808 ≤ v ∧ v ≤ 9223372036854775807) : Rf.ok (v, s31) := ⟨h, rfl, fun x hx => by
  unfold s31 at hx
  rcases List.mem_append.1 hx with hx | hx
  · rw [List.eq_of_mem_replicate hx]; decide
  · rw [List.mem_singleton.1 hx]; decide⟩
theorem pv_ok (v : Int) (h : -9223372036854775808 ≤ v ∧ v ≤ 9223372036854775807) : Pok (pv v) := ⟨rfl, fun r hr => by
  unfold pv at hr
  rcases List.mem_append.1 hr with hr | hr
  · rw [List.eq_of_mem_replicate hr]; exact zeroR_ok
  · rw [List.mem_singleton.1 hr]; exact s31_ok v h⟩
theorem built_s31 : Program.built Try.prog 24 [(31, .int .u8 1)] = some (nums .u8 s31).toArray := by kernel_rfl
theorem splice31 (v : Int) (h : -9223372036854775808 ≤ v ∧ v ≤ 9223372036854775807) : splice (pageC zeroP).toArray 231 (refC v s31) = (pageC (pv v)).toArray :=
  page_splice (List.replicate 7 zeroR) [] zeroR (v, s31) (fun r hr => by rw [List.eq_of_mem_replicate hr]; exact zeroR_ok) zeroR_ok (s31_ok v h)
theorem pv_ne (v : Int) : decide (pv v = zeroP) = false := by
  refine decide_eq_false fun h => ?_
  have h1 : (pv v)[7]? = zeroP[7]? := by rw [h]
  have h2 : (pv v)[7]? = some (v, s31) := rfl
  have h3 : zeroP[7]? = some zeroR := rfl
  rw [h2, h3] at h1
  have h4 : s31 = zero32 := congrArg Prod.snd (Option.some.inj h1)
  exact absurd h4 (by decide)
def ends4 : Array Value := #[.int .i64 (-9223372036854775808), .int .i64 (-1), .int .i64 64, .int .i64 9223372036854775807]
def ats7 : Array Value := #[.int .i64 (-1), .int .i64 0, .int .i64 1, .int .i64 2, .int .i64 3, .int .i64 4095, .int .i64 4096]

set_option maxRecDepth 100000 in
set_option maxHeartbeats 16000000 in
theorem pknown_calls (w : World) : Calls Try.prog 14 #[] w fun e w' => e = .returned (.bool true) ∧ Ext w w' := by
  have HI := Aside0.mk (show (Try.prog.info? 70).map (·.size) = some (seenR 0).length by kernel_rfl)
  have HZ := Aside0.mk (show (seenR 0).toArray.size = (seenR 0).length from rfl)
  have HK0 := Aside0.mk (Blk.new w (seenR 0).toArray 70)
  go_enter Try.func14, Try.ntmps14
  go_wp2_with (first | ((with_reducible refine gate_build (ty := 70) rfl ?_); (refine build_at rfl 70 #[] rfl (seenR 0).toArray [] rfl built_seen ?_)) | ((with_reducible refine gate_store (ty := 70) rfl ?_); (refine store_at rfl 70 _ _ rfl w.heap.size (seenR 0) rfl rfl _ 70 HK0.out HZ.out HI.out (one_seen 0) ?_)) | fail)
  intro w1 hW1 hB1
  have HB1 := Aside0.mk hB1
  have HE1 := Aside0.mk (hW1.ext ((Ext.refl w).alloc (.cells (seenR 0).toArray 70)) (Nat.le_refl _))
  clear hW1 hB1 HK0 HI HZ
  go_wp2_with fail
  go_loopw [2] (fun i wr => ∃ x : Int, i = .int .i64 x ∧ Aside0 (0 ≤ x ∧ x ≤ 64) ∧ Aside0 (Blk wr w.heap.size (seenR x.toNat).toArray 70) ∧ Aside0 (Ext w wr)) (fun i _ => 64 - (intOf i).toNat)
  case atStart => exact ⟨0, rfl, ⟨by decide⟩, HB1, HE1⟩
  case round =>
    clear HB1 HE1
    obtain ⟨x, rfl, HX, HB, HE⟩ := hrel
    obtain ⟨g0, g1⟩ := HX.out
    by_cases hlt : x < 64
    · obtain ⟨i, k, hl, i1, i8, k0, k7, hxx⟩ := leaf_in x g0 hlt
      have HL := Aside0.mk hl
      have HXX := Aside0.mk hxx
      have HLT := Aside0.mk hlt
      clear hl hxx
      obtain ⟨wx, hwx⟩ : ∃ wx : World, wx = wr := ⟨_, rfl⟩
      subst hwx
      go_wp2_with fail
      refine (PPagePuts.page_Leaf.calls x i k wx HL.out).mono ?_
      rintro e w2 ⟨rfl, hD2⟩
      have hE2 : Ext wx w2 := hD2.below
      have HE2 := Aside0.mk (HE.out.trans hE2)
      have hb2 := HB.out.ext hE2
      have hcl := hb2.cell (8 + x.toNat) (v := .bool false) (by rw [List.getElem?_toArray]; exact seenR_at _ (by omega))
      have hfr := hb2.free (8 + x.toNat)
      have hst := hb2.set (8 + x.toNat) (.bool true)
      rw [List.setIfInBounds_toArray, seenR_set _ (by omega)] at hst
      have hoff : 8 + x.toNat = i.toNat * 8 + k.toNat := by have := HXX.out; omega
      rw [hoff] at hcl hfr hst
      have HST := Aside0.mk hst
      have HWR := Aside0.mk ((Wrote.setCell w2 w.heap.size (i.toNat * 8 + k.toNat) (.bool true)).ext HE2.out (Nat.le_refl _))
      clear hst hE2 hD2 HE HB hb2
      have z1 : (i < 1) = False := eq_false (by omega)
      have z2 : (8 < i) = False := eq_false (by omega)
      have z3 : (k < 0) = False := eq_false (by omega)
      have z4 : (7 < k) = False := eq_false (by omega)
      have HNE := Aside0.mk (show (8 * (i - 1) + k != x) = false by rw [← HXX.out]; simp)
      go_wp2_with fail
      go_roundw
      case rel => exact ⟨x + 1, rfl, ⟨by omega, by omega⟩, ⟨by rw [show (x + 1).toNat = x.toNat + 1 by omega]; exact HST.out⟩, HWR⟩
      case measure => have := HLT.out; simp only [intOf]; omega
    · obtain ⟨wa, hwa⟩ : ∃ wa : World, wa = wr := ⟨_, rfl⟩
      subst hwa
      clear HB
      have HB1 := Aside0.mk (Blk.new wa ends4 3)
      have HE1 := Aside0.mk (HE.out.alloc (.cells ends4 3))
      go_wp2_with fail
      clear HE HX g0 g1
      go_loopw [6] (fun i wr => ∃ x : Int, i = .int .i64 x ∧ Aside0 (0 ≤ x ∧ x ≤ 4) ∧ Aside0 (Blk wr wa.heap.size ends4 3) ∧ Aside0 (Ext w wr)) (fun i _ => 4 - (intOf i).toNat)
      case atStart => exact ⟨0, rfl, ⟨by decide⟩, HB1, HE1⟩
      case round =>
        clear HB1 HE1
        obtain ⟨y, rfl, HX, HB, HE⟩ := hrel
        obtain ⟨wx, hwx⟩ : ∃ wx : World, wx = wr := ⟨_, rfl⟩
        subst hwx
        obtain h | h | h | h | h : y = 0 ∨ y = 1 ∨ y = 2 ∨ y = 3 ∨ y = 4 := by have := HX.out; omega
        · subst h
          have hc := HB.out.cell 0 (v := .int .i64 (-9223372036854775808)) rfl
          go_wp2_with fail
          refine (PPagePuts.page_Leaf.calls (-9223372036854775808) 0 0 wx (by rfl)).mono ?_
          rintro e w2 ⟨rfl, hD2⟩
          have hE2 : Ext wx w2 := hD2.below
          have HE2 := Aside0.mk (HE.out.trans hE2)
          have HB2 := Aside0.mk (HB.out.ext hE2)
          clear hE2 hD2 HE HB hc
          go_wp2_with fail
          go_roundw
          case rel => exact ⟨1, rfl, ⟨by decide⟩, HB2, HE2⟩
          case measure => simp only [intOf]; decide
        · subst h
          have hc := HB.out.cell 1 (v := .int .i64 (-1)) rfl
          go_wp2_with fail
          refine (PPagePuts.page_Leaf.calls (-1) 0 0 wx (by rfl)).mono ?_
          rintro e w2 ⟨rfl, hD2⟩
          have hE2 : Ext wx w2 := hD2.below
          have HE2 := Aside0.mk (HE.out.trans hE2)
          have HB2 := Aside0.mk (HB.out.ext hE2)
          clear hE2 hD2 HE HB hc
          go_wp2_with fail
          go_roundw
          case rel => exact ⟨2, rfl, ⟨by decide⟩, HB2, HE2⟩
          case measure => simp only [intOf]; decide
        · subst h
          have hc := HB.out.cell 2 (v := .int .i64 (64)) rfl
          go_wp2_with fail
          refine (PPagePuts.page_Leaf.calls (64) 0 0 wx (by rfl)).mono ?_
          rintro e w2 ⟨rfl, hD2⟩
          have hE2 : Ext wx w2 := hD2.below
          have HE2 := Aside0.mk (HE.out.trans hE2)
          have HB2 := Aside0.mk (HB.out.ext hE2)
          clear hE2 hD2 HE HB hc
          go_wp2_with fail
          go_roundw
          case rel => exact ⟨3, rfl, ⟨by decide⟩, HB2, HE2⟩
          case measure => simp only [intOf]; decide
        · subst h
          have hc := HB.out.cell 3 (v := .int .i64 (9223372036854775807)) rfl
          go_wp2_with fail
          refine (PPagePuts.page_Leaf.calls (9223372036854775807) 0 0 wx (by rfl)).mono ?_
          rintro e w2 ⟨rfl, hD2⟩
          have hE2 : Ext wx w2 := hD2.below
          have HE2 := Aside0.mk (HE.out.trans hE2)
          have HB2 := Aside0.mk (HB.out.ext hE2)
          clear hE2 hD2 HE HB hc
          go_wp2_with fail
          go_roundw
          case rel => exact ⟨4, rfl, ⟨by decide⟩, HB2, HE2⟩
          case measure => simp only [intOf]; decide
        · subst h
          clear HB HX
          have HB1 := Aside0.mk (Blk.new wx ats7 3)
          have HE1 := Aside0.mk (HE.out.alloc (.cells ats7 3))
          go_wp2_with fail
          clear HE
          obtain ⟨wb, hwb⟩ : ∃ wb : World, wb = wx := ⟨_, rfl⟩
          subst hwb
          go_loopw [10] (fun i wr => ∃ x : Int, i = .int .i64 x ∧ Aside0 (0 ≤ x ∧ x ≤ 7) ∧ Aside0 (Blk wr wb.heap.size ats7 3) ∧ Aside0 (Ext w wr)) (fun i _ => 7 - (intOf i).toNat)
          case atStart => exact ⟨0, rfl, ⟨by decide⟩, HB1, HE1⟩
          case round =>
            clear HB1 HE1
            obtain ⟨z, rfl, HX, HB, HE⟩ := hrel
            obtain ⟨wx, hwx⟩ : ∃ wx : World, wx = wr := ⟨_, rfl⟩
            subst hwx
            obtain h | h | h | h | h | h | h | h : z = 0 ∨ z = 1 ∨ z = 2 ∨ z = 3 ∨ z = 4 ∨ z = 5 ∨ z = 6 ∨ z = 7 := by have := HX.out; omega
            · subst h
              have hc := (HB.out.alloc (.cells Try.zeroCells58 58)).cell 0 (v := .int .i64 (-1)) rfl
              have HK := Aside0.mk (Blk.new wx (pageC zeroP).toArray 58)
              have HI := Aside0.mk (show (Try.prog.info? 26).map (·.size) = some (refC (-1) s31).length by kernel_rfl)
              have HIP := Aside0.mk (wf_page (pv_ok (-1) (by decide))).1
              have HSZ := Aside0.mk (show 231 + (refC (-1) s31).length ≤ (pageC zeroP).toArray.size by decide)
              go_wp2_with (first | ((with_reducible refine gate_build (ty := 24) rfl ?_); (refine build_at rfl 24 #[(31, .const (.int .u8 1))] rfl _ _ rfl built_s31 ?_)) | ((with_reducible refine gate_build (ty := 26) rfl ?_); (refine build_at rfl 26 #[(0, .tmp 93), (1, .tmp 94)] rfl _ _ rfl (built_ref (-1) s31 rfl) ?_)) | ((with_reducible refine gate_store (ty := 26) rfl ?_); (refine store_mid_at rfl 26 _ _ rfl wx.heap.size 231 (refC (-1) s31) rfl rfl _ 58 HK.out HSZ.out HI.out (one_ref _ _) ?_)) | fail)
              intro w3 hW hB3
              rw [splice31 (-1) (by decide)] at hB3
              have hx3 := hW.ext ((Ext.refl wx).alloc _) (Nat.le_refl _)
              have HB3 := Aside0.mk hB3
              have HE3 := Aside0.mk (HE.out.trans hx3)
              have HA3 := Aside0.mk (HB.out.ext hx3)
              clear hW hB3 hx3 HK HE HB hc
              go_wp2_with (first | ((with_reducible refine gate_load (ty := 58) rfl ?_); refine load_at rfl 58 _ rfl wx.heap.size 0 rfl (pageC (pv (-1))) _ (HB3.out.range 0 (pageC (pv (-1))) [] (by simp)) Try.underlying58 rfl HIP.out ?_) | fail)
              refine (put_calls w3 0 (pv (-1)) (pv_ok (-1) (by decide)) _ rfl).mono ?_
              rintro e w4 ⟨V, cE, rfl, hcE, ⟨X, k4, c4, rfl, hk4, hkc4, hC4⟩, hE4⟩
              rw [(put_no (show mayB 0 (pv (-1)) = false by decide)).1] at hcE
              subst hcE
              have HE4 := Aside0.mk (HE3.out.trans hE4)
              have HB4 := Aside0.mk (HB3.out.ext hE4)
              have HA4 := Aside0.mk (HA3.out.ext hE4)
              clear hE4 HE3 HB3 HA3 hC4 hk4
              go_wp2_with (first | ((with_reducible refine gate_load (ty := 58) rfl ?_); refine load_at rfl 58 _ rfl wx.heap.size 0 rfl (pageC (pv (-1))) _ (HB4.out.range 0 (pageC (pv (-1))) [] (by simp)) Try.underlying58 rfl HIP.out ?_) | fail)
              refine (empty_calls w4 (pv (-1)) (pv_ok (-1) (by decide)) _ rfl).mono ?_
              rintro e w5 ⟨rfl, hE5⟩
              have HE5 := Aside0.mk (HE4.out.trans hE5)
              have HA5 := Aside0.mk (HA4.out.ext hE5)
              rw [pv_ne]
              clear hE5 HE4 HB4 HA4 HI HIP HSZ
              go_wp2_with fail
              go_roundw
              case rel => exact ⟨1, rfl, ⟨by decide⟩, HA5, HE5⟩
              case measure => simp only [intOf]; decide
            · subst h
              have hc := (HB.out.alloc (.cells Try.zeroCells58 58)).cell 1 (v := .int .i64 (0)) rfl
              have HK := Aside0.mk (Blk.new wx (pageC zeroP).toArray 58)
              have HI := Aside0.mk (show (Try.prog.info? 26).map (·.size) = some (refC (0) s31).length by kernel_rfl)
              have HIP := Aside0.mk (wf_page (pv_ok (0) (by decide))).1
              have HSZ := Aside0.mk (show 231 + (refC (0) s31).length ≤ (pageC zeroP).toArray.size by decide)
              go_wp2_with (first | ((with_reducible refine gate_build (ty := 24) rfl ?_); (refine build_at rfl 24 #[(31, .const (.int .u8 1))] rfl _ _ rfl built_s31 ?_)) | ((with_reducible refine gate_build (ty := 26) rfl ?_); (refine build_at rfl 26 #[(0, .tmp 93), (1, .tmp 94)] rfl _ _ rfl (built_ref (0) s31 rfl) ?_)) | ((with_reducible refine gate_store (ty := 26) rfl ?_); (refine store_mid_at rfl 26 _ _ rfl wx.heap.size 231 (refC (0) s31) rfl rfl _ 58 HK.out HSZ.out HI.out (one_ref _ _) ?_)) | fail)
              intro w3 hW hB3
              rw [splice31 (0) (by decide)] at hB3
              have hx3 := hW.ext ((Ext.refl wx).alloc _) (Nat.le_refl _)
              have HB3 := Aside0.mk hB3
              have HE3 := Aside0.mk (HE.out.trans hx3)
              have HA3 := Aside0.mk (HB.out.ext hx3)
              clear hW hB3 hx3 HK HE HB hc
              go_wp2_with (first | ((with_reducible refine gate_load (ty := 58) rfl ?_); refine load_at rfl 58 _ rfl wx.heap.size 0 rfl (pageC (pv (0))) _ (HB3.out.range 0 (pageC (pv (0))) [] (by simp)) Try.underlying58 rfl HIP.out ?_) | fail)
              refine (put_calls w3 0 (pv (0)) (pv_ok (0) (by decide)) _ rfl).mono ?_
              rintro e w4 ⟨V, cE, rfl, hcE, ⟨X, k4, c4, rfl, hk4, hkc4, hC4⟩, hE4⟩
              rw [(put_no (show mayB 0 (pv (0)) = false by decide)).1] at hcE
              subst hcE
              have HE4 := Aside0.mk (HE3.out.trans hE4)
              have HB4 := Aside0.mk (HB3.out.ext hE4)
              have HA4 := Aside0.mk (HA3.out.ext hE4)
              clear hE4 HE3 HB3 HA3 hC4 hk4
              go_wp2_with (first | ((with_reducible refine gate_load (ty := 58) rfl ?_); refine load_at rfl 58 _ rfl wx.heap.size 0 rfl (pageC (pv (0))) _ (HB4.out.range 0 (pageC (pv (0))) [] (by simp)) Try.underlying58 rfl HIP.out ?_) | fail)
              refine (empty_calls w4 (pv (0)) (pv_ok (0) (by decide)) _ rfl).mono ?_
              rintro e w5 ⟨rfl, hE5⟩
              have HE5 := Aside0.mk (HE4.out.trans hE5)
              have HA5 := Aside0.mk (HA4.out.ext hE5)
              rw [pv_ne]
              clear hE5 HE4 HB4 HA4 HI HIP HSZ
              go_wp2_with fail
              go_roundw
              case rel => exact ⟨2, rfl, ⟨by decide⟩, HA5, HE5⟩
              case measure => simp only [intOf]; decide
            · subst h
              have hc := (HB.out.alloc (.cells Try.zeroCells58 58)).cell 2 (v := .int .i64 (1)) rfl
              have HK := Aside0.mk (Blk.new wx (pageC zeroP).toArray 58)
              have HI := Aside0.mk (show (Try.prog.info? 26).map (·.size) = some (refC (1) s31).length by kernel_rfl)
              have HIP := Aside0.mk (wf_page (pv_ok (1) (by decide))).1
              have HSZ := Aside0.mk (show 231 + (refC (1) s31).length ≤ (pageC zeroP).toArray.size by decide)
              go_wp2_with (first | ((with_reducible refine gate_build (ty := 24) rfl ?_); (refine build_at rfl 24 #[(31, .const (.int .u8 1))] rfl _ _ rfl built_s31 ?_)) | ((with_reducible refine gate_build (ty := 26) rfl ?_); (refine build_at rfl 26 #[(0, .tmp 93), (1, .tmp 94)] rfl _ _ rfl (built_ref (1) s31 rfl) ?_)) | ((with_reducible refine gate_store (ty := 26) rfl ?_); (refine store_mid_at rfl 26 _ _ rfl wx.heap.size 231 (refC (1) s31) rfl rfl _ 58 HK.out HSZ.out HI.out (one_ref _ _) ?_)) | fail)
              intro w3 hW hB3
              rw [splice31 (1) (by decide)] at hB3
              have hx3 := hW.ext ((Ext.refl wx).alloc _) (Nat.le_refl _)
              have HB3 := Aside0.mk hB3
              have HE3 := Aside0.mk (HE.out.trans hx3)
              have HA3 := Aside0.mk (HB.out.ext hx3)
              clear hW hB3 hx3 HK HE HB hc
              go_wp2_with (first | ((with_reducible refine gate_load (ty := 58) rfl ?_); refine load_at rfl 58 _ rfl wx.heap.size 0 rfl (pageC (pv (1))) _ (HB3.out.range 0 (pageC (pv (1))) [] (by simp)) Try.underlying58 rfl HIP.out ?_) | fail)
              refine (put_calls w3 0 (pv (1)) (pv_ok (1) (by decide)) _ rfl).mono ?_
              rintro e w4 ⟨V, cE, rfl, hcE, ⟨X, k4, c4, rfl, hk4, hkc4, hC4⟩, hE4⟩
              rw [(put_no (show mayB 0 (pv (1)) = false by decide)).1] at hcE
              subst hcE
              have HE4 := Aside0.mk (HE3.out.trans hE4)
              have HB4 := Aside0.mk (HB3.out.ext hE4)
              have HA4 := Aside0.mk (HA3.out.ext hE4)
              clear hE4 HE3 HB3 HA3 hC4 hk4
              go_wp2_with (first | ((with_reducible refine gate_load (ty := 58) rfl ?_); refine load_at rfl 58 _ rfl wx.heap.size 0 rfl (pageC (pv (1))) _ (HB4.out.range 0 (pageC (pv (1))) [] (by simp)) Try.underlying58 rfl HIP.out ?_) | fail)
              refine (empty_calls w4 (pv (1)) (pv_ok (1) (by decide)) _ rfl).mono ?_
              rintro e w5 ⟨rfl, hE5⟩
              have HE5 := Aside0.mk (HE4.out.trans hE5)
              have HA5 := Aside0.mk (HA4.out.ext hE5)
              rw [pv_ne]
              clear hE5 HE4 HB4 HA4 HI HIP HSZ
              go_wp2_with fail
              go_roundw
              case rel => exact ⟨3, rfl, ⟨by decide⟩, HA5, HE5⟩
              case measure => simp only [intOf]; decide
            · subst h
              have hc := (HB.out.alloc (.cells Try.zeroCells58 58)).cell 3 (v := .int .i64 (2)) rfl
              have HK := Aside0.mk (Blk.new wx (pageC zeroP).toArray 58)
              have HI := Aside0.mk (show (Try.prog.info? 26).map (·.size) = some (refC (2) s31).length by kernel_rfl)
              have HIP := Aside0.mk (wf_page (pv_ok (2) (by decide))).1
              have HSZ := Aside0.mk (show 231 + (refC (2) s31).length ≤ (pageC zeroP).toArray.size by decide)
              go_wp2_with (first | ((with_reducible refine gate_build (ty := 24) rfl ?_); (refine build_at rfl 24 #[(31, .const (.int .u8 1))] rfl _ _ rfl built_s31 ?_)) | ((with_reducible refine gate_build (ty := 26) rfl ?_); (refine build_at rfl 26 #[(0, .tmp 93), (1, .tmp 94)] rfl _ _ rfl (built_ref (2) s31 rfl) ?_)) | ((with_reducible refine gate_store (ty := 26) rfl ?_); (refine store_mid_at rfl 26 _ _ rfl wx.heap.size 231 (refC (2) s31) rfl rfl _ 58 HK.out HSZ.out HI.out (one_ref _ _) ?_)) | fail)
              intro w3 hW hB3
              rw [splice31 (2) (by decide)] at hB3
              have hx3 := hW.ext ((Ext.refl wx).alloc _) (Nat.le_refl _)
              have HB3 := Aside0.mk hB3
              have HE3 := Aside0.mk (HE.out.trans hx3)
              have HA3 := Aside0.mk (HB.out.ext hx3)
              clear hW hB3 hx3 HK HE HB hc
              go_wp2_with (first | ((with_reducible refine gate_load (ty := 58) rfl ?_); refine load_at rfl 58 _ rfl wx.heap.size 0 rfl (pageC (pv (2))) _ (HB3.out.range 0 (pageC (pv (2))) [] (by simp)) Try.underlying58 rfl HIP.out ?_) | fail)
              refine (put_calls w3 0 (pv (2)) (pv_ok (2) (by decide)) _ rfl).mono ?_
              rintro e w4 ⟨V, cE, rfl, hcE, ⟨X, k4, c4, rfl, hk4, hkc4, hC4⟩, hE4⟩
              rw [(put_no (show mayB 0 (pv (2)) = false by decide)).1] at hcE
              subst hcE
              have HE4 := Aside0.mk (HE3.out.trans hE4)
              have HB4 := Aside0.mk (HB3.out.ext hE4)
              have HA4 := Aside0.mk (HA3.out.ext hE4)
              clear hE4 HE3 HB3 HA3 hC4 hk4
              go_wp2_with (first | ((with_reducible refine gate_load (ty := 58) rfl ?_); refine load_at rfl 58 _ rfl wx.heap.size 0 rfl (pageC (pv (2))) _ (HB4.out.range 0 (pageC (pv (2))) [] (by simp)) Try.underlying58 rfl HIP.out ?_) | fail)
              refine (empty_calls w4 (pv (2)) (pv_ok (2) (by decide)) _ rfl).mono ?_
              rintro e w5 ⟨rfl, hE5⟩
              have HE5 := Aside0.mk (HE4.out.trans hE5)
              have HA5 := Aside0.mk (HA4.out.ext hE5)
              rw [pv_ne]
              clear hE5 HE4 HB4 HA4 HI HIP HSZ
              go_wp2_with fail
              go_roundw
              case rel => exact ⟨4, rfl, ⟨by decide⟩, HA5, HE5⟩
              case measure => simp only [intOf]; decide
            · subst h
              have hc := (HB.out.alloc (.cells Try.zeroCells58 58)).cell 4 (v := .int .i64 (3)) rfl
              have HK := Aside0.mk (Blk.new wx (pageC zeroP).toArray 58)
              have HI := Aside0.mk (show (Try.prog.info? 26).map (·.size) = some (refC (3) s31).length by kernel_rfl)
              have HIP := Aside0.mk (wf_page (pv_ok (3) (by decide))).1
              have HSZ := Aside0.mk (show 231 + (refC (3) s31).length ≤ (pageC zeroP).toArray.size by decide)
              go_wp2_with (first | ((with_reducible refine gate_build (ty := 24) rfl ?_); (refine build_at rfl 24 #[(31, .const (.int .u8 1))] rfl _ _ rfl built_s31 ?_)) | ((with_reducible refine gate_build (ty := 26) rfl ?_); (refine build_at rfl 26 #[(0, .tmp 93), (1, .tmp 94)] rfl _ _ rfl (built_ref (3) s31 rfl) ?_)) | ((with_reducible refine gate_store (ty := 26) rfl ?_); (refine store_mid_at rfl 26 _ _ rfl wx.heap.size 231 (refC (3) s31) rfl rfl _ 58 HK.out HSZ.out HI.out (one_ref _ _) ?_)) | fail)
              intro w3 hW hB3
              rw [splice31 (3) (by decide)] at hB3
              have hx3 := hW.ext ((Ext.refl wx).alloc _) (Nat.le_refl _)
              have HB3 := Aside0.mk hB3
              have HE3 := Aside0.mk (HE.out.trans hx3)
              have HA3 := Aside0.mk (HB.out.ext hx3)
              clear hW hB3 hx3 HK HE HB hc
              go_wp2_with (first | ((with_reducible refine gate_load (ty := 58) rfl ?_); refine load_at rfl 58 _ rfl wx.heap.size 0 rfl (pageC (pv (3))) _ (HB3.out.range 0 (pageC (pv (3))) [] (by simp)) Try.underlying58 rfl HIP.out ?_) | fail)
              refine (put_calls w3 0 (pv (3)) (pv_ok (3) (by decide)) _ rfl).mono ?_
              rintro e w4 ⟨V, cE, rfl, hcE, ⟨X, k4, c4, rfl, hk4, hkc4, hC4⟩, hE4⟩
              rw [(put_yes (show mayB 0 (pv (3)) = true by decide)).1] at hcE
              subst hcE
              have HE4 := Aside0.mk (HE3.out.trans hE4)
              have HB4 := Aside0.mk (HB3.out.ext hE4)
              have HA4 := Aside0.mk (HA3.out.ext hE4)
              clear hE4 HE3 HB3 HA3 hC4 hk4
              go_wp2_with (first | ((with_reducible refine gate_load (ty := 58) rfl ?_); refine load_at rfl 58 _ rfl wx.heap.size 0 rfl (pageC (pv (3))) _ (HB4.out.range 0 (pageC (pv (3))) [] (by simp)) Try.underlying58 rfl HIP.out ?_) | fail)
              refine (empty_calls w4 (pv (3)) (pv_ok (3) (by decide)) _ rfl).mono ?_
              rintro e w5 ⟨rfl, hE5⟩
              have HE5 := Aside0.mk (HE4.out.trans hE5)
              have HA5 := Aside0.mk (HA4.out.ext hE5)
              rw [pv_ne]
              clear hE5 HE4 HB4 HA4 HI HIP HSZ
              go_wp2_with fail
              go_roundw
              case rel => exact ⟨5, rfl, ⟨by decide⟩, HA5, HE5⟩
              case measure => simp only [intOf]; decide
            · subst h
              have hc := (HB.out.alloc (.cells Try.zeroCells58 58)).cell 5 (v := .int .i64 (4095)) rfl
              have HK := Aside0.mk (Blk.new wx (pageC zeroP).toArray 58)
              have HI := Aside0.mk (show (Try.prog.info? 26).map (·.size) = some (refC (4095) s31).length by kernel_rfl)
              have HIP := Aside0.mk (wf_page (pv_ok (4095) (by decide))).1
              have HSZ := Aside0.mk (show 231 + (refC (4095) s31).length ≤ (pageC zeroP).toArray.size by decide)
              go_wp2_with (first | ((with_reducible refine gate_build (ty := 24) rfl ?_); (refine build_at rfl 24 #[(31, .const (.int .u8 1))] rfl _ _ rfl built_s31 ?_)) | ((with_reducible refine gate_build (ty := 26) rfl ?_); (refine build_at rfl 26 #[(0, .tmp 93), (1, .tmp 94)] rfl _ _ rfl (built_ref (4095) s31 rfl) ?_)) | ((with_reducible refine gate_store (ty := 26) rfl ?_); (refine store_mid_at rfl 26 _ _ rfl wx.heap.size 231 (refC (4095) s31) rfl rfl _ 58 HK.out HSZ.out HI.out (one_ref _ _) ?_)) | fail)
              intro w3 hW hB3
              rw [splice31 (4095) (by decide)] at hB3
              have hx3 := hW.ext ((Ext.refl wx).alloc _) (Nat.le_refl _)
              have HB3 := Aside0.mk hB3
              have HE3 := Aside0.mk (HE.out.trans hx3)
              have HA3 := Aside0.mk (HB.out.ext hx3)
              clear hW hB3 hx3 HK HE HB hc
              go_wp2_with (first | ((with_reducible refine gate_load (ty := 58) rfl ?_); refine load_at rfl 58 _ rfl wx.heap.size 0 rfl (pageC (pv (4095))) _ (HB3.out.range 0 (pageC (pv (4095))) [] (by simp)) Try.underlying58 rfl HIP.out ?_) | fail)
              refine (put_calls w3 0 (pv (4095)) (pv_ok (4095) (by decide)) _ rfl).mono ?_
              rintro e w4 ⟨V, cE, rfl, hcE, ⟨X, k4, c4, rfl, hk4, hkc4, hC4⟩, hE4⟩
              rw [(put_yes (show mayB 0 (pv (4095)) = true by decide)).1] at hcE
              subst hcE
              have HE4 := Aside0.mk (HE3.out.trans hE4)
              have HB4 := Aside0.mk (HB3.out.ext hE4)
              have HA4 := Aside0.mk (HA3.out.ext hE4)
              clear hE4 HE3 HB3 HA3 hC4 hk4
              go_wp2_with (first | ((with_reducible refine gate_load (ty := 58) rfl ?_); refine load_at rfl 58 _ rfl wx.heap.size 0 rfl (pageC (pv (4095))) _ (HB4.out.range 0 (pageC (pv (4095))) [] (by simp)) Try.underlying58 rfl HIP.out ?_) | fail)
              refine (empty_calls w4 (pv (4095)) (pv_ok (4095) (by decide)) _ rfl).mono ?_
              rintro e w5 ⟨rfl, hE5⟩
              have HE5 := Aside0.mk (HE4.out.trans hE5)
              have HA5 := Aside0.mk (HA4.out.ext hE5)
              rw [pv_ne]
              clear hE5 HE4 HB4 HA4 HI HIP HSZ
              go_wp2_with fail
              go_roundw
              case rel => exact ⟨6, rfl, ⟨by decide⟩, HA5, HE5⟩
              case measure => simp only [intOf]; decide
            · subst h
              have hc := (HB.out.alloc (.cells Try.zeroCells58 58)).cell 6 (v := .int .i64 (4096)) rfl
              have HK := Aside0.mk (Blk.new wx (pageC zeroP).toArray 58)
              have HI := Aside0.mk (show (Try.prog.info? 26).map (·.size) = some (refC (4096) s31).length by kernel_rfl)
              have HIP := Aside0.mk (wf_page (pv_ok (4096) (by decide))).1
              have HSZ := Aside0.mk (show 231 + (refC (4096) s31).length ≤ (pageC zeroP).toArray.size by decide)
              go_wp2_with (first | ((with_reducible refine gate_build (ty := 24) rfl ?_); (refine build_at rfl 24 #[(31, .const (.int .u8 1))] rfl _ _ rfl built_s31 ?_)) | ((with_reducible refine gate_build (ty := 26) rfl ?_); (refine build_at rfl 26 #[(0, .tmp 93), (1, .tmp 94)] rfl _ _ rfl (built_ref (4096) s31 rfl) ?_)) | ((with_reducible refine gate_store (ty := 26) rfl ?_); (refine store_mid_at rfl 26 _ _ rfl wx.heap.size 231 (refC (4096) s31) rfl rfl _ 58 HK.out HSZ.out HI.out (one_ref _ _) ?_)) | fail)
              intro w3 hW hB3
              rw [splice31 (4096) (by decide)] at hB3
              have hx3 := hW.ext ((Ext.refl wx).alloc _) (Nat.le_refl _)
              have HB3 := Aside0.mk hB3
              have HE3 := Aside0.mk (HE.out.trans hx3)
              have HA3 := Aside0.mk (HB.out.ext hx3)
              clear hW hB3 hx3 HK HE HB hc
              go_wp2_with (first | ((with_reducible refine gate_load (ty := 58) rfl ?_); refine load_at rfl 58 _ rfl wx.heap.size 0 rfl (pageC (pv (4096))) _ (HB3.out.range 0 (pageC (pv (4096))) [] (by simp)) Try.underlying58 rfl HIP.out ?_) | fail)
              refine (put_calls w3 0 (pv (4096)) (pv_ok (4096) (by decide)) _ rfl).mono ?_
              rintro e w4 ⟨V, cE, rfl, hcE, ⟨X, k4, c4, rfl, hk4, hkc4, hC4⟩, hE4⟩
              rw [(put_no (show mayB 0 (pv (4096)) = false by decide)).1] at hcE
              subst hcE
              have HE4 := Aside0.mk (HE3.out.trans hE4)
              have HB4 := Aside0.mk (HB3.out.ext hE4)
              have HA4 := Aside0.mk (HA3.out.ext hE4)
              clear hE4 HE3 HB3 HA3 hC4 hk4
              go_wp2_with (first | ((with_reducible refine gate_load (ty := 58) rfl ?_); refine load_at rfl 58 _ rfl wx.heap.size 0 rfl (pageC (pv (4096))) _ (HB4.out.range 0 (pageC (pv (4096))) [] (by simp)) Try.underlying58 rfl HIP.out ?_) | fail)
              refine (empty_calls w4 (pv (4096)) (pv_ok (4096) (by decide)) _ rfl).mono ?_
              rintro e w5 ⟨rfl, hE5⟩
              have HE5 := Aside0.mk (HE4.out.trans hE5)
              have HA5 := Aside0.mk (HA4.out.ext hE5)
              rw [pv_ne]
              clear hE5 HE4 HB4 HA4 HI HIP HSZ
              go_wp2_with fail
              go_roundw
              case rel => exact ⟨7, rfl, ⟨by decide⟩, HA5, HE5⟩
              case measure => simp only [intOf]; decide
            · subst h
              clear HB HX
              go_wp2_with (first | ((with_reducible refine gate_build (ty := 58) rfl ?_); (refine build_at rfl 58 #[] rfl (pageC zeroP).toArray [] rfl built_page0 ?_)) | fail)
              refine (put_calls wx 9 zeroP zeroP_ok _ rfl).mono ?_
              rintro e w3 ⟨V, cE, rfl, hcE, ⟨X, k4, c4, rfl, hk4, hkc4, hC4⟩, hE3⟩
              rw [(put_no (show mayB 9 zeroP = false by decide)).1] at hcE
              subst hcE
              have HE3 := Aside0.mk (HE.out.trans hE3)
              clear hE3 HE hC4 hk4
              go_wp2_with (first | ((with_reducible refine gate_build (ty := 58) rfl ?_); (refine build_at rfl 58 #[] rfl (pageC zeroP).toArray [] rfl built_page0 ?_)) | fail)
              refine (put_calls w3 (-1) zeroP zeroP_ok _ rfl).mono ?_
              rintro e w4 ⟨V, cE, rfl, hcE, ⟨Y, k5, c5, rfl, hk5, hkc5, hC5⟩, hE4⟩
              rw [(put_no (show mayB (-1) zeroP = false by decide)).1] at hcE
              subst hcE
              have HE4 := Aside0.mk (HE3.out.trans hE4)
              clear hE4 HE3 hC5 hk5
              go_wp2_with fail
              refine (known13_calls _).mono ?_
              rintro e w5 ⟨rfl, hE⟩
              have HE5 := Aside0.mk (HE4.out.trans hE)
              clear hE HE4
              go_wp2
              go_ret
              exact ⟨rfl, HE5.out⟩
end Go.Proofs.Ytkjjkahdmlfflaa.By
