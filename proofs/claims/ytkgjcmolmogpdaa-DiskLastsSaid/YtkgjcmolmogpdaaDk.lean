/- Layer 7: DiskKnown. -/
import Derived.Test.YtkgjcmolmogpdaaKn
namespace Go.Proofs.Ytkgjcmolmogpdaa.By
open Go.RowKit Go.Proofs.Ytkgjcmolmogpdaa.Reg Go.Proofs.YtkgjcmolmogpdaaW.PrintWords Go.Proofs.YtkgjcmolmogpdaaW.PrintLast Go.Proofs.YtkgjcmolmogpdaaW.PrintMore
set_option linter.unusedVariables false
set_option linter.unusedSimpArgs false


def zerosA (n : Nat) : Array Value := (List.replicate n (.int .u8 0)).toArray
theorem mk_gen (t e : TypeId) (ht : Try.prog.underlying t = some (.slice e)) (z : Value) (hi : (Try.prog.info? e).map (fun i => (i.zero, i.size, i.bytes)) = some (some z, 1, 1)) (hz : z.cells = #[z]) (n : Nat) (hn : n ≤ 4096) (W : World) :
    (Instr.makeSlice t (.int .i64 n) (.int .i64 n)).run Try.prog W = .ok (.slice (some ⟨W.heap.size, 0, none⟩) n n) (W.alloc (.cells (List.replicate n z).toArray e)) := by
  obtain ⟨i, hi1, hi2⟩ := info_of hi
  have h1 : i.zero = some z := congrArg Prod.fst hi2
  have h2 : i.size = 1 := congrArg (fun p => p.2.1) hi2
  have h3 : i.bytes = 1 := congrArg (fun p => p.2.2) hi2
  have hr := run_make (P := Try.prog) (w := W) t e i z ht hi1 h1 .i64 .i64 (n : Int) (n : Int) (by omega) (by omega) (by rw [h3]; omega) (by omega)
  rw [h2, Int.toNat_natCast, made_one z hz n] at hr
  exact hr
theorem mk_bytes (n : Nat) (hn : n ≤ 4096) (W : World) : (Instr.makeSlice 29 (.int .i64 n) (.int .i64 n)).run Try.prog W = .ok (.slice (some ⟨W.heap.size, 0, none⟩) n n) (W.alloc (.cells (zerosA n) 5)) :=
  mk_gen 29 5 Try.underlying29 (.int .u8 0) (by kernel_rfl) rfl n hn W
theorem sp1 : spendL (decide ((0 : Int) ≤ 2)) 2 false = 1 := by
  rw [(spendE_0 rfl).2]; exact wrap64_in (by decide) (by decide)
theorem sp2 : wrap64 (1 - 1) = 0 := wrap64_in (by decide) (by decide)
theorem sp3 : wrap64 (wrap64 (wrap64 (0 + 1) + 1) + 1) = 3 := by
  rw [show wrap64 (0 + 1) = 1 from wrap64_in (by decide) (by decide), show wrap64 (1 + 1) = 2 from wrap64_in (by decide) (by decide)]
  exact wrap64_in (by decide) (by decide)
theorem zerosA_nb (n : Nat) (hn : n ≤ 4096) (w : World) : NB (w.alloc (.cells (zerosA n) 5)) w.heap.size (.slice (some ⟨w.heap.size, 0, none⟩) n n) (List.replicate n 0) := by
  refine Kd.R_of_own ?_ (fun _ _ => trivial)
  have := World.ownsRow_lit (base := w.heap.size) (e := 5) (size := 1) w (zerosA n) n (Nat.le_refl _) (by unfold maxLen; omega) (by simp [zerosA])
  rw [List.length_replicate]
  have e : encs (fun x => Value.int .u8 x) (List.replicate n 0) = (zerosA n).toList := by simp [encs, zerosA]
  rw [e]
  exact this
/-- A disk's Write of n noughts. -/
theorem d_writeZ {w : World} {bd bl bc br n : Nat} {f : Nat → List Int} {g : Nat → Option (List Int)} {ar : Bool} {lf : Int} {wt : Int} {rd : List Int} (h : DB w bd bl bc br n f g ar lf false wt rd) (i m : Nat) (hi : i < n) (hm : m ≤ 1024) (hs : downF ar lf false = false) : Calls Try.prog 18 #[.pointer (some ⟨bd, 0, none⟩), .int .i64 (i : Int), .slice (some ⟨w.heap.size, 0, none⟩) m m] (w.alloc (.cells (zerosA m) 5)) fun e w' => e = .returned (.int .i64 0) ∧ DB w' bd bl bc br n f (upd g i (some (List.replicate m 0))) ar (wrap64 (lf - 1)) false (wrap64 (wt + 1)) rd ∧ Chg w w' (Dst bd bl bc br) := by
  have hE := (Ext.refl w).alloc (.cells (zerosA m) 5)
  have hlt := h.lt
  refine (d_write (h.ext hE) i (some ⟨w.heap.size, 0, none⟩) m m (List.replicate m 0) (by simp) ((zerosA_nb m (by omega) w).F (fun k hk hd => ?_)) (Nat.le_refl _) hi hm hs).mono fun e w' ⟨he, h1, hc⟩ => ⟨he, h1, (Chg.of_ext hE _).trans hc⟩
  have e : w.heap.size = k := by simpa [Value.ownBlock] using hk
  have := hlt k hd
  omega
set_option maxRecDepth 100000 in
set_option maxHeartbeats 2000000 in
theorem dknown_calls (w : World) : Calls Try.prog 7 #[] w fun e w' => e = .returned (.bool true) ∧ Ext w w' := by
  go_enter Try.func7, Try.ntmps7
  go_wp2_with fail
  obtain ⟨w1, hw1⟩ : ∃ x, x = w.alloc (.cells #[.int .i64 (-9223372036854775808), .int .i64 (-1), .int .i64 0, .int .i64 1, .int .i64 4096, .int .i64 4097, .int .i64 9223372036854775807] 3) := ⟨_, rfl⟩
  have HE1 := Aside0.mk (show Ext w w1 by rw [hw1]; exact (Ext.refl w).alloc _)
  have HB := Aside0.mk (show Blk w1 w.heap.size #[.int .i64 (-9223372036854775808), .int .i64 (-1), .int .i64 0, .int .i64 1, .int .i64 4096, .int .i64 4097, .int .i64 9223372036854775807] 3 by rw [hw1]; exact Blk.new _ _ _)
  rw [← hw1]
  clear hw1
  generalize w.heap.size = b0 at HB ⊢
  go_loopw [2] (fun i wr => ∃ j : Int, i = .int .i64 j ∧ Aside0 (0 ≤ j ∧ j ≤ 7) ∧ Aside0 (Ext w1 wr)) (fun i _ => 7 - (intOf i).toNat)
  case atStart => exact ⟨0, rfl, ⟨by decide, by decide⟩, ⟨Ext.refl _⟩⟩
  case round =>
    obtain ⟨j, rfl, HJ, HE⟩ := hrel
    obtain ⟨g0, g1⟩ := HJ.out
    obtain ⟨wx, hwx⟩ : ∃ wx : World, wx = wr := ⟨_, rfl⟩
    subst hwx
    have HBx := Aside0.mk (HB.out.ext HE.out)
    obtain rfl | rfl | rfl | rfl | rfl | rfl | rfl | rfl : j = 0 ∨ j = 1 ∨ j = 2 ∨ j = 3 ∨ j = 4 ∨ j = 5 ∨ j = 6 ∨ j = 7 := by omega
    · have hcell := HBx.out.cell 0 (v := .int .i64 (-9223372036854775808)) rfl
      clear HBx
      go_wp2_with fail
      refine (new_no wx (-9223372036854775808) (by decide)).mono ?_
      rintro e w3 ⟨rfl, rfl⟩
      have HE3 := HE
      clear HE
      go_wp2_with fail
      go_roundw
      case rel => exact ⟨1, by go_num, ⟨by decide, by decide⟩, HE3⟩
      case measure => simp only [intOf]; decide
    · have hcell := HBx.out.cell 1 (v := .int .i64 (-1)) rfl
      clear HBx
      go_wp2_with fail
      refine (new_no wx (-1) (by decide)).mono ?_
      rintro e w3 ⟨rfl, rfl⟩
      have HE3 := HE
      clear HE
      go_wp2_with fail
      go_roundw
      case rel => exact ⟨2, by go_num, ⟨by decide, by decide⟩, HE3⟩
      case measure => simp only [intOf]; decide
    · have hcell := HBx.out.cell 2 (v := .int .i64 (0)) rfl
      clear HBx
      go_wp2_with fail
      refine (new_no wx (0) (by decide)).mono ?_
      rintro e w3 ⟨rfl, rfl⟩
      have HE3 := HE
      clear HE
      go_wp2_with fail
      go_roundw
      case rel => exact ⟨3, by go_num, ⟨by decide, by decide⟩, HE3⟩
      case measure => simp only [intOf]; decide
    · have hcell := HBx.out.cell 3 (v := .int .i64 (1)) rfl
      clear HBx
      go_wp2_with fail
      refine (d_new wx 1 (by decide) (by decide)).mono ?_
      rintro e w3 ⟨bd, bl, bc, br, rfl, hD, hE, hk⟩
      have HE3 := Aside0.mk (HE.out.trans hE)
      clear hD hE hk HE
      go_wp2_with fail
      go_roundw
      case rel => exact ⟨4, by go_num, ⟨by decide, by decide⟩, HE3⟩
      case measure => simp only [intOf]; decide
    · have hcell := HBx.out.cell 4 (v := .int .i64 (4096)) rfl
      clear HBx
      go_wp2_with fail
      refine (d_new wx 4096 (by decide) (by decide)).mono ?_
      rintro e w3 ⟨bd, bl, bc, br, rfl, hD, hE, hk⟩
      have HE3 := Aside0.mk (HE.out.trans hE)
      clear hD hE hk HE
      go_wp2_with fail
      go_roundw
      case rel => exact ⟨5, by go_num, ⟨by decide, by decide⟩, HE3⟩
      case measure => simp only [intOf]; decide
    · have hcell := HBx.out.cell 5 (v := .int .i64 (4097)) rfl
      clear HBx
      go_wp2_with fail
      refine (new_no wx (4097) (by decide)).mono ?_
      rintro e w3 ⟨rfl, rfl⟩
      have HE3 := HE
      clear HE
      go_wp2_with fail
      go_roundw
      case rel => exact ⟨6, by go_num, ⟨by decide, by decide⟩, HE3⟩
      case measure => simp only [intOf]; decide
    · have hcell := HBx.out.cell 6 (v := .int .i64 (9223372036854775807)) rfl
      clear HBx
      go_wp2_with fail
      refine (new_no wx (9223372036854775807) (by decide)).mono ?_
      rintro e w3 ⟨rfl, rfl⟩
      have HE3 := HE
      clear HE
      go_wp2_with fail
      go_roundw
      case rel => exact ⟨7, by go_num, ⟨by decide, by decide⟩, HE3⟩
      case measure => simp only [intOf]; decide
    · clear HBx
      go_wp2_with fail
      refine (d_new wx 4 (by decide) (by decide)).mono ?_
      rintro e w2 ⟨bd, bl, bc, br, rfl, hD, hE, hk⟩
      have HD2 := Aside0.mk hD
      have HE2 := Aside0.mk (HE.out.trans hE)
      have HK := Aside0.mk (show ∀ k, Dst bd bl bc br k → w1.heap.size ≤ k from fun k hd => Nat.le_trans HE.out.size (hk k hd))
      clear hD hE hk HE HB
      go_wp2_with fail
      refine (d_write1 HD2.out 1 9 (by decide) rfl).mono ?_
      rintro e w3 ⟨rfl, hD, hC⟩
      have HD3 := Aside0.mk hD
      have HE3 := Aside0.mk (hC.to_ext HE2.out HK.out)
      clear hD hC HD2 HE2
      go_wp2_with fail
      refine (d_tamper1 HD3.out 1 10 (by decide)).mono ?_
      rintro e w4 ⟨rfl, hD, hC⟩
      have HD4 := Aside0.mk hD
      have HE4 := Aside0.mk (hC.to_ext HE3.out HK.out)
      clear hD hC HD3 HE3
      go_wp2_with fail
      refine (d_dirty HD4.out).mono ?_
      rintro e w5 ⟨V, rfl, hV, hE⟩
      obtain ⟨A5, c5, rfl, _, _⟩ := Kd.R_reads hV
      have h0 : (dirtyB (upd (upd (fun _ => none) 1 (some [9])) 1 none) 4).length = 0 := by rfl
      rw [h0]
      have HD5 := Aside0.mk (HD4.out.ext hE)
      have HE5 := Aside0.mk (HE4.out.trans hE)
      clear hE hV HD4 HE4 h0
      go_wp2_with fail
      refine (d_tamper_wrong HD5.out 4 none 0 0 7 rfl (by decide)).mono ?_
      rintro e w6 ⟨rfl, rfl⟩
      have hmk : ∀ W : World, (Instr.makeSlice 29 (.int .i64 1025) (.int .i64 1025)).run Try.prog W = .ok (.slice (some ⟨W.heap.size, 0, none⟩) 1025 1025) (W.alloc (.cells (zerosA 1025) 5)) := mk_bytes 1025 (by decide)
      have hmk2 : ∀ W : World, (Instr.makeSlice 29 (.int .i64 1024) (.int .i64 1024)).run Try.prog W = .ok (.slice (some ⟨W.heap.size, 0, none⟩) 1024 1024) (W.alloc (.cells (zerosA 1024) 5)) := mk_bytes 1024 (by decide)
      go_wp2_with fail
      refine (d_tamper_wrong (HD5.out.ext ((Ext.refl w5).alloc _)) 0 _ 1025 1025 3 rfl (by decide)).mono ?_
      rintro e w7 ⟨rfl, rfl⟩
      obtain ⟨w7, hw7⟩ : ∃ x, x = w5.alloc (.cells (zerosA 1025) 5) := ⟨_, rfl⟩
      have HD7 := Aside0.mk (show DB w7 bd bl bc br 4 _ _ _ _ _ _ _ by rw [hw7]; exact HD5.out.ext ((Ext.refl _).alloc _))
      have HE7 := Aside0.mk (show Ext w1 w7 by rw [hw7]; exact HE5.out.alloc _)
      rw [← hw7]
      clear hw7 HD5 HE5
      go_wp2_with fail
      refine (d_write_wrong (HD7.out.ext ((Ext.refl w7).alloc _)) 0 _ 1025 1025 3 rfl (by decide)).mono ?_
      rintro e w8 ⟨rfl, rfl⟩
      obtain ⟨w8, hw8⟩ : ∃ x, x = w7.alloc (.cells (zerosA 1025) 5) := ⟨_, rfl⟩
      have HD8 := Aside0.mk (show DB w8 bd bl bc br 4 _ _ _ _ _ _ _ by rw [hw8]; exact HD7.out.ext ((Ext.refl _).alloc _))
      have HE8 := Aside0.mk (show Ext w1 w8 by rw [hw8]; exact HE7.out.alloc _)
      rw [← hw8]
      clear hw8 HD7 HE7 hmk
      go_wp2_with fail
      refine (d_writeZ HD8.out 0 1024 (by decide) (by decide) rfl).mono ?_
      rintro e w9 ⟨rfl, hD, hC⟩
      have HD9 := Aside0.mk hD
      have HE9 := Aside0.mk (hC.to_ext HE8.out HK.out)
      clear hD hC HD8 HE8
      clear hmk2
      go_wp2_with fail
      refine (d_arm HD9.out 2).mono ?_
      rintro e w10 ⟨rfl, hD, hC⟩
      have HD10 := Aside0.mk hD
      have HE10 := Aside0.mk (hC.to_ext HE9.out HK.out)
      clear hD hC HD9 HE9
      go_wp2_with fail
      refine (d_write_wrong HD10.out 9 none 0 0 7 rfl (by decide)).mono ?_
      rintro e w11 ⟨rfl, rfl⟩
      go_wp2_with fail
      refine (d_spend HD10.out).mono ?_
      rintro e w12 ⟨rfl, hD, hC⟩
      rw [sp1] at hD
      have HD12 := Aside0.mk (show DB w12 bd bl bc br 4 _ _ true 1 false _ _ from hD)
      have HE12 := Aside0.mk (hC.to_ext HE10.out HK.out)
      rw [show spendE (decide ((0 : Int) ≤ 2)) 2 false = 0 from rfl]
      clear hD hC HD10 HE10
      go_wp2_with fail
      refine (d_write HD12.out 3 none 0 0 [] rfl (Kd.F_nil kb w12 _) (Nat.le_refl _) (by decide) (by decide) rfl).mono ?_
      rintro e w13 ⟨rfl, hD, hC⟩
      rw [sp2] at hD
      have HD13 := Aside0.mk (show DB w13 bd bl bc br 4 _ _ true 0 false _ _ from hD)
      have HE13 := Aside0.mk (hC.to_ext HE12.out HK.out)
      clear hD hC HD12 HE12
      go_wp2_with fail
      refine (d_sync_spent HD13.out rfl).mono ?_
      rintro e w14 ⟨rfl, hD, hC⟩
      rw [sp3] at hD
      have HD14 := Aside0.mk (show DB w14 bd bl bc br 4 _ _ true 0 true 3 (List.replicate 4 0) from hD)
      have HE14 := Aside0.mk (hC.to_ext HE13.out HK.out)
      clear hD hC HD13 HE13
      go_wp2_with fail
      refine (d_down HD14.out).mono ?_
      rintro e w15 ⟨rfl, rfl⟩
      go_wp2_with fail
      refine (d_spend HD14.out).mono ?_
      rintro e w16 ⟨rfl, hD, hC⟩
      have HD16 := Aside0.mk (show DB w16 bd bl bc br 4 _ _ true 0 true 3 (List.replicate 4 0) from by rw [(spendE_12 (ar := true) (lf := 0) (of := true) rfl).2] at hD; exact hD)
      have HE16 := Aside0.mk (hC.to_ext HE14.out HK.out)
      rw [show spendE true 0 true = 12 from rfl]
      clear hD hC HD14 HE14
      go_wp2_with fail
      refine (d_writes HD16.out).mono ?_
      rintro e w17 ⟨rfl, rfl⟩
      go_wp2_with fail
      refine (d_reads HD16.out 1).mono ?_
      rintro e w17 ⟨rfl, rfl⟩
      rw [show cntF (List.replicate 4 0) 1 4 = 0 from rfl]
      go_wp2_with fail
      refine (known_calls w16).mono ?_
      rintro e w18 ⟨rfl, hE⟩
      have HE18 := Aside0.mk (HE1.out.trans (HE16.out.trans hE))
      clear hE HE16 HD16
      go_wp2
      go_ret
      exact ⟨rfl, HE18.out⟩
      
end Go.Proofs.Ytkgjcmolmogpdaa.By
