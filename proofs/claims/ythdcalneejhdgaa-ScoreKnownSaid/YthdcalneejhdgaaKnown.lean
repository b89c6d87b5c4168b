/- The walk of ScoreKnown. -/
import Derived.Test.YthdcalneejhdgaaMore
namespace Go.Proofs.Ythdcalneejhdgaa.Laws
open Go.RowKit Go.Proofs.Ythdcalneejhdgaa.Reg Go.Proofs.YthdcalneejhdgaaW.PrintWords Go.Proofs.YthdcalneejhdgaaW.PrintLast Go.Proofs.YthdcalneejhdgaaW.PrintMore Go.Proofs.Ythdcalneejhdgaa.PScoreVictim Go.Proofs.Ythdcalneejhdgaa.Vict
set_option linter.unusedVariables false

def nl : List Int := [-9223372036854775808, -1, 0, 1, 32, 64, 65, 1099511627776, 1099511627777, 9223372036854775807]
def nlv : Array Value := (nl.map (Value.int .i64)).toArray
def nx (i : Int) : Int := nl.getD i.toNat 0
theorem nl_in : ∀ x ∈ nl, -9223372036854775808 ≤ x ∧ x ≤ 9223372036854775807 := by decide +kernel
theorem nx_in (i : Int) (h0 : 0 ≤ i) (h1 : i < 10) : -9223372036854775808 ≤ nx i ∧ nx i ≤ 9223372036854775807 := by
  unfold nx
  rw [List.getD_eq_getElem?_getD, List.getElem?_eq_getElem (show i.toNat < nl.length by simp [nl]; omega)]
  exact nl_in _ (List.getElem_mem _)
theorem nl_cell {w : World} {b : Nat} (h : Blk w b nlv 3) (i : Int) (h0 : 0 ≤ i) (h1 : i < 10) : w.cell? ⟨b, i.toNat, none⟩ = some (.int .i64 (nx i)) := by
  refine h.cell _ ?_
  have hl : i.toNat < nl.length := by simp [nl]; omega
  simp only [nlv, nx, List.getElem?_toArray, List.getElem?_map, List.getD_eq_getElem?_getD, List.getElem?_eq_getElem hl]
  rfl

set_option maxHeartbeats 8000000 in
set_option maxRecDepth 100000 in
theorem scoreKnown_calls (w : World) : Calls Try.prog 6 #[] w fun e w' => e = .returned (.bool true) ∧ Ext w w' := by
  go_enter Try.func6, Try.ntmps6
  go_wp2
  have HN0 := Blk.new w nlv 3
  have hE0 := (Ext.refl w).alloc (.cells nlv 3)
  go_loopw [2] (fun i wr => ∃ x : Int, i = .int .i64 x ∧ Aside0 (0 ≤ x ∧ x ≤ 10) ∧ Blk wr w.heap.size nlv 3 ∧ Ext w wr) (fun i _ => 10 - (intOf i).toNat)
  case atStart => exact ⟨0, rfl, ⟨by omega, by omega⟩, HN0, hE0⟩
  case round =>
    clear HN0 hE0
    obtain ⟨x, rfl, HX, HNx, hEx⟩ := hrel
    obtain ⟨hx0, hx1⟩ := HX.out
    by_cases hxl : x < 10
    · obtain ⟨wx, hwx⟩ : ∃ wx : World, wx = wr := ⟨_, rfl⟩
      subst hwx
      go_wp2
      go_loopw [3] (fun i wr => ∃ y : Int, i = .int .i64 y ∧ Aside0 (0 ≤ y ∧ y ≤ 10) ∧ Blk wr w.heap.size nlv 3 ∧ Ext w wr) (fun i _ => 10 - (intOf i).toNat)
      case atStart => exact ⟨0, rfl, ⟨by omega, by omega⟩, HNx, hEx⟩
      case round =>
        clear HNx hEx
        obtain ⟨y, rfl, HY, HNy, hEy⟩ := hrel
        obtain ⟨hy0, hy1⟩ := HY.out
        by_cases hyl : y < 10
        · obtain ⟨wy, hwy⟩ : ∃ wy : World, wy = wr := ⟨_, rfl⟩
          subst hwy
          go_wp2
          go_loopw [4] (fun i wr => ∃ z : Int, i = .int .i64 z ∧ Aside0 (0 ≤ z ∧ z ≤ 10) ∧ Blk wr w.heap.size nlv 3 ∧ Ext w wr) (fun i _ => 10 - (intOf i).toNat)
          case atStart => exact ⟨0, rfl, ⟨by omega, by omega⟩, HNy, hEy⟩
          case round =>
            clear HNy hEy
            obtain ⟨z, rfl, HZ, HN, hE⟩ := hrel
            obtain ⟨hz0, hz1⟩ := HZ.out
            by_cases hzl : z < 10
            · go_wp2
              have cx := nl_cell HN x hx0 (by omega)
              have cy := nl_cell HN y hy0 (by omega)
              have cz := nl_cell HN z hz0 (by omega)
              apply wp_region_facts 63 [RF.val _, RF.val _, RF.val _, RF.val _, RF.val _, RF.val _, RF.val _, RF.val _, RF.val _, RF.val _, RF.val _, RF.val _, RF.val _, RF.val _, RF.val _, RF.val _, RF.val _, RF.val _, RF.val _, RF.val _, RF.val _, RF.val _, RF.val _, RF.val _, RF.val _, RF.val _, RF.val _, RF.val _, RF.val _, RF.val _, RF.val _, RF.val _, RF.val _, RF.val _, RF.val _, RF.val _, RF.val _, RF.val _, RF.val _, RF.val _, RF.val _, RF.val _, RF.val _, RF.val _, RF.val _, RF.val _, RF.val _, RF.val _, RF.val _, RF.val _, RF.fact (fun u W => ∃ b, u = .slice (some ⟨b, 0, none⟩) 2 2 ∧ Blk W b ([(⟨2, Int.tmod (nx x) 9, nx y⟩ : S36), ⟨2, 1, nx z⟩].flatMap enc36).toArray 36), RF.val _, RF.val _, RF.val _, RF.val _, RF.val _, RF.val _, RF.val _, RF.val _, RF.val _, RF.val _, RF.val _, RF.val _] (by kernel_rfl) (by kernel_rfl)
              simp only [List.take_succ_cons, List.take_zero, List.zip_cons_cons, List.zip_nil_left]
              iterate 12 ((first | apply wpF_val rfl | apply wpF_valg (by rfl)); (intro w' hE hD; have e0 := Ext.cell (w := wr) hE cx; have e1 := Ext.cell (w := wr) hE cy; have e2 := Ext.cell (w := wr) hE cz; unfold Yld; go_simp; exact ⟨Ext.refl _, rfl⟩); (try simp only [Act.put, List.setIfInBounds_toArray, List.set_cons_zero, List.set_cons_succ]))
              (first | apply wpF_val rfl | apply wpF_valg (by rfl))
              · intro w' hE hD
                unfold Yld
                go_simp
                exact (scoreOf_calls _ _ _ _).mono fun e w2 h => ⟨_, h.1, h.2, rfl⟩
              (try simp only [Act.put, List.setIfInBounds_toArray, List.set_cons_zero, List.set_cons_succ])
              iterate 18 ((first | apply wpF_val rfl | apply wpF_valg (by rfl)); (intro w' hE hD; have e0 := Ext.cell (w := wr) hE cx; have e1 := Ext.cell (w := wr) hE cy; have e2 := Ext.cell (w := wr) hE cz; unfold Yld; go_simp; exact ⟨Ext.refl _, rfl⟩); (try simp only [Act.put, List.setIfInBounds_toArray, List.set_cons_zero, List.set_cons_succ]))
              (first | apply wpF_val rfl | apply wpF_valg (by rfl))
              · intro w' hE hD
                unfold Yld
                go_simp
                exact (bends_calls _ _ _ _ _ (nx_in x hx0 (by omega))).mono fun e w2 h => ⟨_, h.1, h.2, rfl⟩
              (try simp only [Act.put, List.setIfInBounds_toArray, List.set_cons_zero, List.set_cons_succ])
              iterate 18 ((first | apply wpF_val rfl | apply wpF_valg (by rfl)); (intro w' hE hD; have e0 := Ext.cell (w := wr) hE cx; have e1 := Ext.cell (w := wr) hE cy; have e2 := Ext.cell (w := wr) hE cz; unfold Yld; go_simp; exact ⟨Ext.refl _, rfl⟩); (try simp only [Act.put, List.setIfInBounds_toArray, List.set_cons_zero, List.set_cons_succ]))
              refine wpF_factg (by rfl) ?_ ?_ ?_
              · rintro u W W' ⟨b, rfl, hb⟩ he
                exact ⟨b, rfl, hb.ext he⟩
              · intro w' hE hD
                unfold Yld
                go_simp
                exact ⟨(Ext.refl _).alloc _, _, rfl, Blk.new _ _ _⟩
              intro u
              (try simp only [Act.put, List.setIfInBounds_toArray, List.set_cons_zero, List.set_cons_succ])
              iterate 9 ((first | apply wpF_val rfl | apply wpF_valg (by rfl)); (intro w' hE hD; have e0 := Ext.cell (w := wr) hE cx; have e1 := Ext.cell (w := wr) hE cy; have e2 := Ext.cell (w := wr) hE cz; unfold Yld; go_simp; exact ⟨Ext.refl _, rfl⟩); (try simp only [Act.put, List.setIfInBounds_toArray, List.set_cons_zero, List.set_cons_succ]))
              apply wpF_valg (by rfl)
              · intro w' hE hD
                obtain ⟨b, rfl, hblk⟩ := hD.1 (by kernel_rfl)
                unfold Yld
                go_simp
                exact (scoreVictim_calls (some ⟨b, 0, none⟩) 2 [(⟨2, Int.tmod (nx x) 9, nx y⟩ : S36), ⟨2, 1, nx z⟩] 32 (nx y) (nx x) w' (C_of_blk (d := k36) enc36 k36_mk hblk _ (by simp) 0 [] (by simp)) (by simp) (nx_in x hx0 (by omega)).1 (nx_in x hx0 (by omega)).2 (by
                  have hy := nx_in y hy0 (by omega)
                  have hz := nx_in z hz0 (by omega)
                  simp; omega)).mono fun e w2 h => ⟨_, h.1, h.2, rfl⟩
              (try simp only [Act.put, List.setIfInBounds_toArray, List.set_cons_zero, List.set_cons_succ])
              iterate 2 ((first | apply wpF_val rfl | apply wpF_valg (by rfl)); (intro w' hE hD; have e0 := Ext.cell (w := wr) hE cx; have e1 := Ext.cell (w := wr) hE cy; have e2 := Ext.cell (w := wr) hE cz; unfold Yld; go_simp; exact ⟨Ext.refl _, rfl⟩); (try simp only [Act.put, List.setIfInBounds_toArray, List.set_cons_zero, List.set_cons_succ]))

              refine wpF_nil fun w8 hE8 _ => ?_
              have HN8 := HN.ext hE8
              have hE9 := hE.trans hE8
              clear hE8 HN hE cx cy cz
              refine wpList_nil ?_
              go_wp2
              go_roundw
              case rel => exact ⟨z + 1, by go_num, ⟨by omega, by omega⟩, HN8, hE9⟩
              case measure => simp [intOf]; omega
            · go_wp2
              go_roundw
              case rel => exact ⟨y + 1, by go_num, ⟨by omega, by omega⟩, HN, hE⟩
              case measure => simp [intOf]; omega
        · go_wp2
          go_roundw
          case rel => exact ⟨x + 1, by go_num, ⟨by omega, by omega⟩, HNy, hEy⟩
          case measure => simp [intOf]; omega
    · go_wp2_with fail
      refine (victim_at none 0 0 [] 32 6 9 0 false _ ⟨rfl, by simp, fun h => absurd h (by simp)⟩ rfl (by simp) rfl (by decide +kernel)).mono ?_
      rintro e w1 ⟨rfl, hE⟩
      have hE1 := hEx.trans hE
      clear hE hEx HNx
      go_wp2_with fail
      refine (of_at 32 32 9 0 _ (by decide +kernel)).mono ?_
      rintro e w2 ⟨rfl, hE⟩
      have hE2 := hE1.trans hE
      clear hE hE1
      go_wp2_with fail
      refine (of_at 0 0 0 0 _ (by decide +kernel)).mono ?_
      rintro e w3 ⟨rfl, hE⟩
      have hE3 := hE2.trans hE
      clear hE hE2
      go_wp2_with fail
      refine (of_at 32 33 0 0 _ (by decide +kernel)).mono ?_
      rintro e w4 ⟨rfl, hE⟩
      have hE4 := hE3.trans hE
      clear hE hE3
      go_wp2_with fail
      refine (known_calls _).mono ?_
      rintro e w5 ⟨rfl, hE⟩
      have hE5 := hE4.trans hE
      clear hE hE4
      go_wp2
      go_ret
      exact ⟨rfl, hE5⟩
end Go.Proofs.Ythdcalneejhdgaa.Laws
