/- ShaKnown. -/
import Derived.Test.YtbnbncnmhhioeaaDoorLAdds
namespace Go.Proofs.YtbnbncnmhhioeaaDoor.By
open Go.RowKit Go.Proofs.YtbnbncnmhhioeaaDoor.Reg Go.Proofs.YtbnbncnmhhioeaaDoorW.PrintWords Go.Proofs.YtbnbncnmhhioeaaDoorW.PrintLast Go.Proofs.YtbnbncnmhhioeaaDoorW.PrintMore
set_option linter.unusedVariables false

theorem none_is : shaF [] = digest ⟨3820012610, 2566659092, 2600203464, 2574235940, 665731556, 1687917388, 2761267483, 2018687061⟩ := by decide +kernel
def l56 : List Int := [97, 98, 99, 100, 98, 99, 100, 101, 99, 100, 101, 102, 100, 101, 102, 103, 101, 102, 103, 104, 102, 103, 104, 105, 103, 104, 105, 106, 104, 105, 106, 107, 105, 106, 107, 108, 106, 107, 108, 109, 107, 108, 109, 110, 108, 109, 110, 111, 109, 110, 111, 112, 110, 111, 112, 113]
theorem l56_is : shaF l56 = digest ⟨613247585, 3523623096, 3854575251, 205414457, 2738676825, 1694441831, 4142722516, 433784513⟩ := by decide +kernel
/-- Bytes of a literal: their block, marked. -/
theorem C_lit (w : World) (l : List Int) (fr : Nat × Nat) (hl : l.length ≤ 1000000) : Kd.C kb (w.alloc (.cells (nums .u8 l).toArray 5 fr)) (some ⟨w.heap.size, 0, none⟩) l.length l :=
  C_of_cells (fun j p hj => by
    rw [cell_of_cells (heap_alloc_new w (.cells (nums .u8 l).toArray 5 fr)), List.getElem?_toArray]
    simp [nums, hj]) hl

theorem C_three (w : World) (bl y : Nat) (Py P6 : List Int) (hy : y = Py.length) (h6 : 64 = P6.length) (hyl : y ≤ 1000) (hC : Kd.C kb w (some ⟨bl, 0, none⟩) y Py) (hC6 : Kd.C kb w (some ⟨bl, 0, none⟩) 64 P6) :
    Kd.C kbs (w.alloc (.cells #[Value.slice (some ⟨bl, 0, none⟩) y 1000, Value.slice (some ⟨bl, 0, none⟩) 64 1000, Value.slice (some ⟨bl, 0, none⟩) y 1000] 22)) (some ⟨w.heap.size, 0, none⟩) 3 [Py, P6, Py] := by
  have hE := (Ext.refl w).alloc (.cells #[Value.slice (some ⟨bl, 0, none⟩) y 1000, Value.slice (some ⟨bl, 0, none⟩) 64 1000, Value.slice (some ⟨bl, 0, none⟩) y 1000] 22)
  have hb := Blk.new w #[Value.slice (some ⟨bl, 0, none⟩) y 1000, Value.slice (some ⟨bl, 0, none⟩) 64 1000, Value.slice (some ⟨bl, 0, none⟩) y 1000] 22
  have hK : ∀ (p : List Int) (q : Nat), q = p.length → q ≤ 1000 → Kd.C kb w (some ⟨bl, 0, none⟩) q p → kbs.K (w.alloc (.cells #[Value.slice (some ⟨bl, 0, none⟩) y 1000, Value.slice (some ⟨bl, 0, none⟩) 64 1000, Value.slice (some ⟨bl, 0, none⟩) y 1000] 22)) p [.slice (some ⟨bl, 0, none⟩) q 1000] := by
    intro p q hq hq2 hc
    subst hq
    exact ⟨_, _, rfl, hq2, Kd.C_below hc hE⟩
  refine ⟨rfl, by decide, fun _ => ⟨⟨w.heap.size, 0, none⟩, rfl, fun j p hj => ?_⟩⟩
  have hj3 : j < 3 := (List.getElem?_eq_some_iff.1 hj).1
  have cell : ∀ (v : Value), (#[Value.slice (some ⟨bl, 0, none⟩) y 1000, Value.slice (some ⟨bl, 0, none⟩) 64 1000, Value.slice (some ⟨bl, 0, none⟩) y 1000] : Array Value)[j]? = some v → ∀ (i : Nat) (u : Value), [v][i]? = some u → (w.alloc (.cells #[Value.slice (some ⟨bl, 0, none⟩) y 1000, Value.slice (some ⟨bl, 0, none⟩) 64 1000, Value.slice (some ⟨bl, 0, none⟩) y 1000] 22)).cell? ((⟨w.heap.size, 0, none⟩ : Addr).add (j * kbs.sz + i)) = some u := by
    intro v hv i u hu
    have hi : i = 0 := by have := (List.getElem?_eq_some_iff.1 hu).1; simpa using this
    subst hi
    rw [show u = v from (Option.some.inj hu).symm]
    have e : (⟨w.heap.size, 0, none⟩ : Addr).add (j * kbs.sz + 0) = ⟨w.heap.size, j, none⟩ := by
      show (⟨w.heap.size, 0, none⟩ : Addr).add (j * 1 + 0) = _
      rw [Nat.mul_one, Nat.add_zero]; unfold Addr.add; split
      · rename_i h; rw [h]
      · simp
    rw [e]
    exact hb.cell j hv
  obtain h | h | h : j = 0 ∨ j = 1 ∨ j = 2 := by omega
  · subst h
    rw [← Option.some.inj hj]
    exact ⟨_, rfl, hK Py y hy hyl hC, cell _ rfl⟩
  · subst h
    rw [← Option.some.inj hj]
    exact ⟨_, rfl, hK P6 64 h6 (by decide) hC6, cell _ rfl⟩
  · subst h
    rw [← Option.some.inj hj]
    exact ⟨_, rfl, hK Py y hy hyl hC, cell _ rfl⟩
theorem make1000 (W : World) : (Instr.makeSlice 22 (.int .i64 1000) (.int .i64 1000)).run Tryd.prog W = .ok (.slice (some ⟨W.heap.size, 0, none⟩) 1000 1000) (W.alloc (.cells (madeCells #[.int .u8 0] 1000) 5)) := by
  obtain ⟨i0, hi0, hz0, hsz, hby⟩ := info_parts PShaAdds.info5
  have := run_make (P := Tryd.prog) W 22 5 i0 (.int .u8 0) Tryd.underlying22 hi0 hz0 .i64 .i64 1000 1000 (by decide) (by decide) (by rw [hby]; decide) (by decide)
  rw [hsz] at this
  exact this
theorem made_is : madeCells #[.int .u8 0] 1000 = (nums .u8 (upto 1000 (List.replicate 0 97))).toArray := by
  apply Array.ext
  · rw [size_madeCells, List.size_toArray, nums_length, upto_length 1000 _ (by simp)]
  · intro i h1 h2
    rw [size_madeCells] at h1
    simp only [madeCells, Array.getElem_map, Array.getElem_range, nums, upto, List.replicate_zero, List.nil_append, List.map_replicate, List.getElem_toArray, List.getElem_replicate]
    simp [Nat.mod_one]
set_option maxRecDepth 100000 in
set_option maxHeartbeats 16000000 in
theorem lknown_calls (w : World) (hT0 : Tab 0 w) (hT1 : Tab 1 w) (h2 : 2 ≤ w.heap.size) : Calls Tryd.prog 6 #[] w fun e w' => e = .returned (.bool true) ∧ Ext w w' := by
  have HT0 := Aside0.mk hT0
  have HT1 := Aside0.mk hT1
  have H2 := Aside0.mk h2
  have kc := fun (w : World) (C : Array Value) (n c : Nat) => Lib.run_convert_bytes_const (P := Tryd.prog) w 22 5 C n c Tryd.underlying22 Tryd.underlying5
  clear hT0 hT1 h2
  go_enter Tryd.func6, Tryd.ntmps6
  go_wp2_with fail
  refine (new_calls w).mono ?_
  rintro e w1 ⟨rfl, hH, hE1⟩
  obtain ⟨b, hb⟩ : ∃ b, b = w.heap.size := ⟨_, rfl⟩
  have HBE := Aside0.mk hb
  rw [← hb]
  have HH1 := Aside0.mk (show Hs w1 w.heap.size b (List.replicate 0 97) (.slice none 0 0) by rw [hb]; exact hH)
  have HE1 := Aside0.mk hE1
  clear hH hE1 hb
  go_wp2_with fail
  go_loopw [2] (fun i wr => ∃ x : Nat, ∃ V, i = .int .i64 x ∧ Aside0 (x ≤ 1000) ∧ Aside0 (Hs wr w.heap.size b (List.replicate x 97) V) ∧ Aside0 (Ext w wr)) (fun i _ => 1000 - (intOf i).toNat)
  case atStart => exact ⟨0, _, rfl, ⟨Nat.zero_le _⟩, HH1, HE1⟩
  case round =>
    clear HH1 HE1
    obtain ⟨x, V, rfl, HX, HH, HE⟩ := hrel
    have hx := HX.out
    obtain ⟨wx, hwx⟩ : ∃ wx : World, wx = wr := ⟨_, rfl⟩
    subst hwx
    by_cases hlt : x < 1000
    · have hz : ((x : Int) < 1000) = True := eq_true (by omega)
      have HLT := Aside0.mk hlt
      have HE0 := Aside0.mk ((Ext.refl wx).alloc (.cells #[Value.int .u8 97] 5 (1, 2)))
      have HC := Aside0.mk (show Kd.C kb (wx.alloc (.cells #[Value.int .u8 97] 5 (1, 2))) (some ⟨wx.heap.size, 0, none⟩) 1 [97] from C_lit wx [97] (1, 2) (by decide))
      go_wp2_with fail
      refine (add_calls _ w.heap.size b (List.replicate x 97) [97] V _ 1 1 H2.out rfl (HH.out.ext HE0.out) (HT1.out.ext (HE.out.trans HE0.out)) HC.out (Nat.le_refl _) (by rw [List.length_replicate]; omega) (fun a ha _ => by have := HH.out.2.1.lt; rw [← Option.some.inj ha]; show wx.heap.size ≠ b; omega)).mono ?_
      rintro e w3 ⟨rfl, Vn, hH3, hF3, hO3⟩
      rw [← List.replicate_succ'] at hH3
      have HH3 := Aside0.mk hH3
      have HE3 := Aside0.mk (hF3.ext (HE.out.trans HE0.out) (fun k hk => by rcases hk with rfl | hk; exact HH.out.1; exact (HH.out.own k hk).1))
      clear hH3 hF3 hO3 HH HE HE0 HC
      go_wp2_with fail
      go_roundw
      case rel => exact ⟨x + 1, Vn, by congr 1, ⟨HLT.out⟩, HH3, HE3⟩
      case measure => have := HLT.out; simp only [intOf]; omega
    · have hxe : x = 1000 := by omega
      subst hxe
      have hmk := make1000
      have HMC := Aside0.mk made_is
      go_wp2_with fail
      obtain ⟨bl, hbl⟩ : ∃ bl, bl = wx.heap.size := ⟨_, rfl⟩
      have HBL := Aside0.mk (show Blk (wx.alloc (.cells (madeCells #[.int .u8 0] 1000) 5)) bl (nums .u8 (upto 1000 (List.replicate 0 97))).toArray 5 by rw [hbl, HMC.out]; exact Blk.new wx _ 5)
      have HHL := Aside0.mk (HH.out.ext ((Ext.refl wx).alloc (.cells (madeCells #[.int .u8 0] 1000) 5)))
      have HEL := Aside0.mk (HE.out.alloc (.cells (madeCells #[.int .u8 0] 1000) 5))
      have HNB := Aside0.mk (show w.heap.size ≤ bl ∧ b ≠ bl ∧ ∀ k, V.ownBlock = some k → k ≠ bl by
        refine ⟨by rw [hbl]; exact HE.out.size, by have := HH.out.2.1.lt; omega, fun k hk => by have := (HH.out.own k hk).2; omega⟩)
      rw [← hbl]
      clear hmk HH HE HX hx hlt hbl
      go_loopw [4] (fun i wr => ∃ x : Nat, i = .int .i64 x ∧ Aside0 (x ≤ 1000) ∧ Aside0 (Blk wr bl (nums .u8 (upto 1000 (List.replicate x 97))).toArray 5) ∧ Aside0 (Hs wr w.heap.size b (List.replicate 1000 97) V) ∧ Aside0 (Ext w wr)) (fun i _ => 1000 - (intOf i).toNat)
      case atStart => exact ⟨0, rfl, ⟨Nat.zero_le _⟩, HBL, HHL, HEL⟩
      case round =>
        clear HBL HHL HEL
        obtain ⟨x, rfl, HX, HB, HH, HE⟩ := hrel
        have hx := HX.out
        obtain ⟨wy, hwy⟩ : ∃ wy : World, wy = wr := ⟨_, rfl⟩
        subst hwy
        by_cases hlt : x < 1000
        · have hz : ((x : Int) < 1000) = True := eq_true (by omega)
          have HLT := Aside0.mk hlt
          obtain ⟨v0, hv0⟩ := upto_there 1000 (List.replicate x 97) x .u8 hlt (by rw [List.length_replicate]; omega)
          have hcl := HB.out.cell x hv0
          have hfr := HB.out.free x
          have hst := HB.out.set x (.int .u8 97)
          have hset := upto_set 1000 (List.replicate x 97) 97 .u8 (by rw [List.length_replicate]; exact hlt)
          rw [List.length_replicate, ← List.replicate_succ'] at hset
          rw [hset] at hst
          have HST := Aside0.mk hst
          have hw := Wrote.setCell wy bl x (.int .u8 97)
          have HHn := Aside0.mk (HH.out.fr (Fr.of_wrote hw) HNB.out.2.1 HNB.out.2.2)
          have HEn := Aside0.mk (hw.ext HE.out HNB.out.1)
          clear hv0 hst hset hw HB HH HE
          go_wp2_with fail
          go_roundw
          case rel => exact ⟨x + 1, by congr 1, ⟨HLT.out⟩, HST, HHn, HEn⟩
          case measure => have := HLT.out; simp only [intOf]; omega
        · have hxe : x = 1000 := by omega
          subst hxe
          have HB7 : Aside0 (Blk wy bl (nums .u8 (List.replicate 1000 97)).toArray 5) := ⟨by have h := HB.out; unfold upto at h; rw [List.length_replicate] at h; simpa using h⟩
          clear HB HX hx hlt
          obtain ⟨T, hT⟩ : ∃ T : List Int, T = List.replicate 1000 97 := ⟨_, rfl⟩
          have HTL := Aside0.mk (show T.length = 1000 by rw [hT, List.length_replicate])
          rw [← hT] at HB7 HH
          have HC := Aside0.mk (show Kd.C kb wy (some ⟨bl, 0, none⟩) 1000 T by have h := C_of_blk HB7.out (by rw [HTL.out]; decide); rwa [HTL.out] at h)
          obtain ⟨i0, hi0, _, hsz, _⟩ := info_parts PShaAdds.info5
          have HPC := Aside0.mk (show ∀ (j : Nat), j ≤ 1000 → Kd.C kb wy (some ⟨bl, 0, none⟩) j (T.take j) from fun j hj => by
            have h := Kd.C_take (m := j) (HTL.out.symm ▸ HC.out) (by rw [HTL.out]; exact hj)
            rwa [show (T.take j).length = j by rw [List.length_take, HTL.out]; omega] at h)
          have HTT := Aside0.mk hT
          clear hT HB7
          go_wp2_with fail
          go_loopw [5] (fun i wr => ∃ y : Nat, i = .int .i64 y ∧ Aside0 (50 ≤ y ∧ y ≤ 70) ∧ Aside0 (Ext wy wr)) (fun i _ => 70 - (intOf i).toNat)
          case atStart => exact ⟨50, rfl, ⟨by decide⟩, ⟨Ext.refl _⟩⟩
          case round =>
            obtain ⟨y, rfl, HY, HX⟩ := hrel
            obtain ⟨hy0, hy1⟩ := HY.out
            obtain ⟨wz, hwz⟩ : ∃ wz : World, wz = wr := ⟨_, rfl⟩
            subst hwz
            by_cases hlt : y < 70
            · have hz : ((y : Int) < 70) = True := eq_true (by omega)
              have HLT := Aside0.mk hlt
              have hcut1 := cut_to (P := Tryd.prog) 22 5 .i64 Tryd.underlying22 hi0 (some ⟨bl, 0, none⟩) 1000 1000 (y : Int) (by omega) (by omega) (Nat.le_refl _)
              rw [Int.toNat_natCast] at hcut1
              have hcut2 := cut_to (P := Tryd.prog) 22 5 .i64 Tryd.underlying22 hi0 (some ⟨bl, 0, none⟩) 1000 1000 64 (by decide) (by decide) (Nat.le_refl _)
              rw [show (64 : Int).toNat = 64 from rfl] at hcut2
              have hcut3 := cut_to (P := Tryd.prog) 22 5 .i64 Tryd.underlying22 hi0 (some ⟨bl, 0, none⟩) 1000 1000 130 (by decide) (by decide) (Nat.le_refl _)
              rw [show (130 : Int).toNat = 130 from rfl] at hcut3
              have HPY := Aside0.mk (HPC.out y (by omega))
              have HP6 := Aside0.mk (HPC.out 64 (by decide))
              have HP13 := Aside0.mk (HPC.out 130 (by decide))
              have HEW := Aside0.mk (HE.out.trans HX.out)
              have HLY := Aside0.mk (show (T.take y).length = y ∧ (T.take 64).length = 64 ∧ (T.take 130).length = 130 by refine ⟨?_, ?_, ?_⟩ <;> (rw [List.length_take, HTL.out]; omega))
              generalize T.take y = Py at HPY HLY
              generalize T.take 64 = P6 at HP6 HLY
              generalize T.take 130 = P13 at HP13 HLY
              go_wp2_with fail
              apply wp_region_facts 18 [RF.val (.slice (some ⟨bl, 0, none⟩) 1000 1000), RF.val (.int .i64 y), RF.val (.slice (some ⟨bl, 0, none⟩) y 1000), RF.val (.slice (some ⟨bl, 0, none⟩) 1000 1000), RF.val (.slice (some ⟨bl, 0, none⟩) 64 1000), RF.val (.slice (some ⟨bl, 0, none⟩) 1000 1000), RF.val (.int .i64 y), RF.val (.slice (some ⟨bl, 0, none⟩) y 1000), RF.fact (fun u Wd => ∃ bk, u = .slice (some ⟨bk, 0, none⟩) 3 3 ∧ Kd.C kbs Wd (some ⟨bk, 0, none⟩) 3 [Py, P6, Py]), RF.val (.bool true), RF.val (.bool false), RF.val (.bool false), RF.val (.slice (some ⟨bl, 0, none⟩) 1000 1000), RF.val (.slice (some ⟨bl, 0, none⟩) 130 1000), RF.val (.int .i64 y), RF.val (.bool true), RF.val (.bool false), RF.val (.bool false)] (by kernel_rfl) (by kernel_rfl)
              simp only [List.take_succ_cons, List.take_zero, List.zip_cons_cons, List.zip_nil_left]
              (first | apply wpF_val rfl | apply wpF_valg (by rfl)); (intro w' hE hD; unfold Yld; go_simp; exact ⟨Ext.refl _, rfl⟩); (try simp only [Act.put, List.setIfInBounds_toArray, List.set_cons_zero, List.set_cons_succ])
              (first | apply wpF_val rfl | apply wpF_valg (by rfl)); (intro w' hE hD; unfold Yld; go_simp; exact ⟨Ext.refl _, rfl⟩); (try simp only [Act.put, List.setIfInBounds_toArray, List.set_cons_zero, List.set_cons_succ])
              (first | apply wpF_val rfl | apply wpF_valg (by rfl)); (intro w' hE hD; unfold Yld; go_simp; exact ⟨Ext.refl _, rfl⟩); (try simp only [Act.put, List.setIfInBounds_toArray, List.set_cons_zero, List.set_cons_succ])
              (first | apply wpF_val rfl | apply wpF_valg (by rfl)); (intro w' hE hD; unfold Yld; go_simp; exact ⟨Ext.refl _, rfl⟩); (try simp only [Act.put, List.setIfInBounds_toArray, List.set_cons_zero, List.set_cons_succ])
              (first | apply wpF_val rfl | apply wpF_valg (by rfl)); (intro w' hE hD; unfold Yld; go_simp; exact ⟨Ext.refl _, rfl⟩); (try simp only [Act.put, List.setIfInBounds_toArray, List.set_cons_zero, List.set_cons_succ])
              (first | apply wpF_val rfl | apply wpF_valg (by rfl)); (intro w' hE hD; unfold Yld; go_simp; exact ⟨Ext.refl _, rfl⟩); (try simp only [Act.put, List.setIfInBounds_toArray, List.set_cons_zero, List.set_cons_succ])
              (first | apply wpF_val rfl | apply wpF_valg (by rfl)); (intro w' hE hD; unfold Yld; go_simp; exact ⟨Ext.refl _, rfl⟩); (try simp only [Act.put, List.setIfInBounds_toArray, List.set_cons_zero, List.set_cons_succ])
              (first | apply wpF_val rfl | apply wpF_valg (by rfl)); (intro w' hE hD; unfold Yld; go_simp; exact ⟨Ext.refl _, rfl⟩); (try simp only [Act.put, List.setIfInBounds_toArray, List.set_cons_zero, List.set_cons_succ])
              refine wpF_fact rfl (fun u Wa Wb h he => ?_) (fun w' hE hD => ?_) (fun u28 => ?_)
              · obtain ⟨bk, hu, hc⟩ := h
                exact ⟨bk, hu, Kd.C_below hc he⟩
              · unfold Yld
                go_simp
                exact ⟨(Ext.refl w').alloc _, w'.heap.size, rfl, C_three w' bl y Py P6 HLY.out.1.symm HLY.out.2.1.symm (by omega) (Kd.C_below HPY.out (HX.out.trans hE)) (Kd.C_below HP6.out (HX.out.trans hE))⟩
              (try simp only [Act.put, List.setIfInBounds_toArray, List.set_cons_zero, List.set_cons_succ])
              (first | apply wpF_val rfl | apply wpF_valg (by rfl)); (intro w' hE hD; obtain ⟨bk, hu, hc⟩ := hD.1 (by kernel_rfl); subst hu; unfold Yld; go_simp; exact (ladds_calls w' (some ⟨bk, 0, none⟩) 3 3 [Py, P6, Py] (HT0.out.ext (HEW.out.trans hE)) (HT1.out.ext (HEW.out.trans hE)) (Nat.le_trans H2.out (Nat.le_trans HEW.out.size hE.size)) hc (Nat.le_refl _)).mono fun e w2 h => ⟨_, h.1, h.2, rfl⟩); (try simp only [Act.put, List.setIfInBounds_toArray, List.set_cons_zero, List.set_cons_succ])
              (first | apply wpF_val rfl | apply wpF_valg (by rfl)); (intro w' hE hD; unfold Yld; go_simp; exact ⟨Ext.refl _, rfl⟩); (try simp only [Act.put, List.setIfInBounds_toArray, List.set_cons_zero, List.set_cons_succ])
              (first | apply wpF_val rfl | apply wpF_valg (by rfl)); (intro w' hE hD; unfold Yld; go_simp; exact ⟨Ext.refl _, rfl⟩); (try simp only [Act.put, List.setIfInBounds_toArray, List.set_cons_zero, List.set_cons_succ])
              (first | apply wpF_val rfl | apply wpF_valg (by rfl)); (intro w' hE hD; unfold Yld; go_simp; exact ⟨Ext.refl _, rfl⟩); (try simp only [Act.put, List.setIfInBounds_toArray, List.set_cons_zero, List.set_cons_succ])
              (first | apply wpF_val rfl | apply wpF_valg (by rfl)); (intro w' hE hD; unfold Yld; go_simp; exact ⟨Ext.refl _, rfl⟩); (try simp only [Act.put, List.setIfInBounds_toArray, List.set_cons_zero, List.set_cons_succ])
              (first | apply wpF_val rfl | apply wpF_valg (by rfl)); (intro w' hE hD; unfold Yld; go_simp; exact ⟨Ext.refl _, rfl⟩); (try simp only [Act.put, List.setIfInBounds_toArray, List.set_cons_zero, List.set_cons_succ])
              (first | apply wpF_val rfl | apply wpF_valg (by rfl)); (intro w' hE hD; unfold Yld; go_simp; exact (lpieces_calls w' (some ⟨bl, 0, none⟩) 1000 130 P13 (y : Int) 64 HLY.out.2.2.symm (HT1.out.ext (HEW.out.trans hE)) (Nat.le_trans H2.out (Nat.le_trans HEW.out.size hE.size)) (Kd.C_below HP13.out (HX.out.trans hE)) (by decide) (by omega) (by decide)).mono fun e w2 h => ⟨_, h.1, h.2, rfl⟩); (try simp only [Act.put, List.setIfInBounds_toArray, List.set_cons_zero, List.set_cons_succ])
              (first | apply wpF_val rfl | apply wpF_valg (by rfl)); (intro w' hE hD; unfold Yld; go_simp; exact ⟨Ext.refl _, rfl⟩); (try simp only [Act.put, List.setIfInBounds_toArray, List.set_cons_zero, List.set_cons_succ])
              (first | apply wpF_val rfl | apply wpF_valg (by rfl)); (intro w' hE hD; unfold Yld; go_simp; exact ⟨Ext.refl _, rfl⟩); (try simp only [Act.put, List.setIfInBounds_toArray, List.set_cons_zero, List.set_cons_succ])
              refine wpF_nil fun wf hE hA => ?_
              have HXF := Aside0.mk (HX.out.trans hE)
              clear hA hE HX HEW hcut1 hcut2 hcut3
              simp only [List.drop_succ_cons, List.drop_zero]
              refine wpList_nil ?_
              go_wp2_with fail
              go_roundw
              case rel => exact ⟨y + 1, by congr 1, ⟨by have := HLT.out; omega⟩, HXF⟩
              case measure => have := HLT.out; simp only [intOf]; omega
            · have hye : y = 70 := by omega
              subst hye
              have HEz := Aside0.mk (HE.out.trans HX.out)
              obtain ⟨D0, hD0, hQ0⟩ := shaD []
              obtain ⟨D5, hD5, hQ5⟩ := shaD l56
              obtain ⟨DT, hDT, hQT⟩ := shaD T
              have HD0 := Aside0.mk hD0
              have HQ0 := Aside0.mk hQ0
              have HD5 := Aside0.mk hD5
              have HQ5 := Aside0.mk hQ5
              have HDT := Aside0.mk hDT
              have HQT := Aside0.mk hQT
              clear hD0 hQ0 hD5 hQ5 hDT hQT hlt HY hy0 hy1
              go_wp2_with fail
              refine (of_calls wz none 0 0 [] rfl (HT1.out.ext HEz.out) (Kd.C_nil kb wz) (Nat.le_refl _) (by decide) (Nat.le_trans H2.out HEz.out.size)).mono ?_
              rintro e w7 ⟨rfl, hE7⟩
              rw [← HD0.out]
              have HX7 := Aside0.mk (HX.out.trans hE7)
              clear hE7 HX HEz
              go_wp2_with fail
              refine (sum_calls w7 ⟨3820012610, 2566659092, 2600203464, 2574235940, 665731556, 1687917388, 2761267483, 2018687061⟩).mono ?_
              rintro e w8 ⟨rfl, hE8⟩
              rw [← none_is, ← HD0.out]
              have HX8 := Aside0.mk (HX7.out.trans hE8)
              clear hE8 HX7
              go_wp2_with (first | ((with_reducible refine gate_eql (ty := 26) rfl ?_); (refine eql_at rfl 26 26 _ _ rfl (nums .u8 D0).toArray (nums .u8 D0).toArray rfl rfl (by kernel_rfl) true (HQ0.out _) ?_)) | fail)
              refine (new_calls w8).mono ?_
              rintro e w9 ⟨rfl, hHn, hE9⟩
              have HHN := Aside0.mk hHn
              have HX9 := Aside0.mk (HX8.out.trans hE9)
              clear hHn hE9 HX8
              go_wp2_with fail
              refine (hsum_calls w9 w8.heap.size w8.heap.size [] _ HHN.out (HT1.out.ext (HE.out.trans HX9.out)) (by decide)).mono ?_
              rintro e wa ⟨rfl, hEa⟩
              rw [← HD0.out]
              have HXa := Aside0.mk (HX9.out.trans hEa)
              clear hEa HX9 HHN
              go_wp2_with fail
              refine (of_calls wa none 0 0 [] rfl (HT1.out.ext (HE.out.trans HXa.out)) (Kd.C_nil kb wa) (Nat.le_refl _) (by decide) (Nat.le_trans H2.out (HE.out.trans HXa.out).size)).mono ?_
              rintro e wb ⟨rfl, hEb⟩
              rw [← HD0.out]
              have HXb := Aside0.mk (HXa.out.trans hEb)
              have HXl := Aside0.mk (HXb.out.alloc (.cells #[Value.int .u8 97, Value.int .u8 98, Value.int .u8 99, Value.int .u8 100, Value.int .u8 98, Value.int .u8 99, Value.int .u8 100, Value.int .u8 101, Value.int .u8 99, Value.int .u8 100, Value.int .u8 101, Value.int .u8 102, Value.int .u8 100, Value.int .u8 101, Value.int .u8 102, Value.int .u8 103, Value.int .u8 101, Value.int .u8 102, Value.int .u8 103, Value.int .u8 104, Value.int .u8 102, Value.int .u8 103, Value.int .u8 104, Value.int .u8 105, Value.int .u8 103, Value.int .u8 104, Value.int .u8 105, Value.int .u8 106, Value.int .u8 104, Value.int .u8 105, Value.int .u8 106, Value.int .u8 107, Value.int .u8 105, Value.int .u8 106, Value.int .u8 107, Value.int .u8 108, Value.int .u8 106, Value.int .u8 107, Value.int .u8 108, Value.int .u8 109, Value.int .u8 107, Value.int .u8 108, Value.int .u8 109, Value.int .u8 110, Value.int .u8 108, Value.int .u8 109, Value.int .u8 110, Value.int .u8 111, Value.int .u8 109, Value.int .u8 110, Value.int .u8 111, Value.int .u8 112, Value.int .u8 110, Value.int .u8 111, Value.int .u8 112, Value.int .u8 113] 5 (56, 57)))
              have HC5 := Aside0.mk (show Kd.C kb (wb.alloc (.cells #[Value.int .u8 97, Value.int .u8 98, Value.int .u8 99, Value.int .u8 100, Value.int .u8 98, Value.int .u8 99, Value.int .u8 100, Value.int .u8 101, Value.int .u8 99, Value.int .u8 100, Value.int .u8 101, Value.int .u8 102, Value.int .u8 100, Value.int .u8 101, Value.int .u8 102, Value.int .u8 103, Value.int .u8 101, Value.int .u8 102, Value.int .u8 103, Value.int .u8 104, Value.int .u8 102, Value.int .u8 103, Value.int .u8 104, Value.int .u8 105, Value.int .u8 103, Value.int .u8 104, Value.int .u8 105, Value.int .u8 106, Value.int .u8 104, Value.int .u8 105, Value.int .u8 106, Value.int .u8 107, Value.int .u8 105, Value.int .u8 106, Value.int .u8 107, Value.int .u8 108, Value.int .u8 106, Value.int .u8 107, Value.int .u8 108, Value.int .u8 109, Value.int .u8 107, Value.int .u8 108, Value.int .u8 109, Value.int .u8 110, Value.int .u8 108, Value.int .u8 109, Value.int .u8 110, Value.int .u8 111, Value.int .u8 109, Value.int .u8 110, Value.int .u8 111, Value.int .u8 112, Value.int .u8 110, Value.int .u8 111, Value.int .u8 112, Value.int .u8 113] 5 (56, 57))) (some ⟨wb.heap.size, 0, none⟩) 56 l56 from C_lit wb l56 (56, 57) (by decide))
              clear hEb HXa
              go_wp2_with (first | ((with_reducible refine gate_eql (ty := 26) rfl ?_); (refine eql_at rfl 26 26 _ _ rfl (nums .u8 D0).toArray (nums .u8 D0).toArray rfl rfl (by kernel_rfl) true (HQ0.out _) ?_)) | fail)
              refine (of_calls _ (some ⟨wb.heap.size, 0, none⟩) 56 56 l56 rfl (HT1.out.ext (HE.out.trans HXl.out)) HC5.out (Nat.le_refl _) (by decide) (Nat.le_trans H2.out (HE.out.trans HXl.out).size)).mono ?_
              rintro e wc ⟨rfl, hEc⟩
              rw [← HD5.out]
              have HXc := Aside0.mk (HXl.out.trans hEc)
              clear hEc HXb HXl HC5
              go_wp2_with fail
              refine (sum_calls wc ⟨613247585, 3523623096, 3854575251, 205414457, 2738676825, 1694441831, 4142722516, 433784513⟩).mono ?_
              rintro e wd ⟨rfl, hEd⟩
              rw [← l56_is, ← HD5.out]
              have HXd := Aside0.mk (HXc.out.trans hEd)
              clear hEd HXc
              go_wp2_with (first | ((with_reducible refine gate_eql (ty := 26) rfl ?_); (refine eql_at rfl 26 26 _ _ rfl (nums .u8 D5).toArray (nums .u8 D5).toArray rfl rfl (by kernel_rfl) true (HQ5.out _) ?_)) | fail)
              refine (hsum_calls wd w.heap.size b T V (HH.out.ext HXd.out) (HT1.out.ext (HE.out.trans HXd.out)) (by rw [HTL.out]; decide)).mono ?_
              rintro e we ⟨rfl, hEe⟩
              rw [← HDT.out]
              have HXe := Aside0.mk (HXd.out.trans hEe)
              clear hEe HXd
              go_wp2_with fail
              refine (of_calls we (some ⟨bl, 0, none⟩) 1000 1000 T HTL.out.symm (HT1.out.ext (HE.out.trans HXe.out)) (Kd.C_below HC.out HXe.out) (Nat.le_refl _) (by decide) (Nat.le_trans H2.out (HE.out.trans HXe.out).size)).mono ?_
              rintro e wg ⟨rfl, hEg⟩
              rw [← HDT.out]
              have HEg := Aside0.mk (HE.out.trans (HXe.out.trans hEg))
              clear hEg HXe
              go_wp2_with (first | ((with_reducible refine gate_eql (ty := 26) rfl ?_); (refine eql_at rfl 26 26 _ _ rfl (nums .u8 DT).toArray (nums .u8 DT).toArray rfl rfl (by kernel_rfl) true (HQT.out _) ?_)) | fail)
              refine (known_calls wg (HT1.out.ext HEg.out) (Nat.le_trans H2.out HEg.out.size)).mono ?_
              rintro e wh ⟨rfl, hEh⟩
              have HEh := Aside0.mk (HEg.out.trans hEh)
              clear hEh HEg
              go_wp2
              go_ret
              exact ⟨rfl, HEh.out⟩
end Go.Proofs.YtbnbncnmhhioeaaDoor.By
