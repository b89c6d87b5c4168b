/- Layer 7: known; a row of one byte as an argument. -/
import Derived.Test.YtkgjcmolmogpdaaDb
namespace Go.Proofs.Ytkgjcmolmogpdaa.By
open Go.RowKit Go.Proofs.Ytkgjcmolmogpdaa.Reg Go.Proofs.YtkgjcmolmogpdaaW.PrintWords Go.Proofs.YtkgjcmolmogpdaaW.PrintLast Go.Proofs.YtkgjcmolmogpdaaW.PrintMore
set_option linter.unusedVariables false
set_option linter.unusedSimpArgs false


theorem row1 (w : World) (x : Int) : NB (w.alloc (.cells #[.int .u8 x] 5)) w.heap.size (.slice (some ⟨w.heap.size, 0, none⟩) 1 1) [x] := by
  refine Kd.R_of_own ?_ (fun _ _ => trivial)
  have := World.ownsRow_lit (base := w.heap.size) (e := 5) (size := 1) w #[.int .u8 x] 1 (Nat.le_refl _) (by decide) (by simp)
  simpa [encs] using this
theorem rowI (w : World) (cs : Array Value) (xs : List Int) (h : cs.toList = xs.map (.int .i64)) (hl : xs.length ≤ 1000) : Kd.R kI 3 (w.alloc (.cells cs 3)) w.heap.size (fun _ => True) (.slice (some ⟨w.heap.size, 0, none⟩) xs.length xs.length) xs := by
  refine Kd.R_of_own ?_ (fun _ _ => trivial)
  have hs : cs.size = xs.length * 1 := by rw [← Array.length_toList, h]; simp
  have := World.ownsRow_lit (base := w.heap.size) (e := 3) (size := 1) w cs xs.length (Nat.le_refl _) (by unfold maxLen; omega) hs
  rw [h] at this
  simpa [encs] using this
theorem RI_F {w : World} {B : Nat} {A : Option Addr} {n c : Nat} {xs : List Int} (h : Kd.R kI 3 w B (fun _ => True) (.slice A n c) xs) {ok : Nat → Prop} (hok : ∀ k, (Value.slice A n c).ownBlock = some k → ok k) : Kd.F kI w ok A n xs := Kd.N_F (Kd.R_N (Kd.R_mono (Kd.R_tight (d := kI) rfl h) (fun k hk => hok k hk.symm)))
section
variable {w : World} {bd bl bc br n : Nat} {f : Nat → List Int} {g : Nat → Option (List Int)} {ar : Bool} {lf : Int} {of : Bool} {wt : Int} {rd : List Int}
theorem d_write1 (h : DB w bd bl bc br n f g ar lf false wt rd) (i : Nat) (x : Int) (hi : i < n) (hs : downF ar lf false = false) : Calls Try.prog 18 #[.pointer (some ⟨bd, 0, none⟩), .int .i64 (i : Int), .slice (some ⟨w.heap.size, 0, none⟩) 1 1] (w.alloc (.cells #[.int .u8 x] 5)) fun e w' => e = .returned (.int .i64 0) ∧ DB w' bd bl bc br n f (upd g i (some [x])) ar (wrap64 (lf - 1)) false (wrap64 (wt + 1)) rd ∧ Chg w w' (Dst bd bl bc br) := by
  have hE := (Ext.refl w).alloc (.cells #[Value.int .u8 x] 5)
  have hlt := h.lt
  refine (d_write (h.ext hE) i (some ⟨w.heap.size, 0, none⟩) 1 1 [x] rfl ((row1 w x).F (fun k hk hd => ?_)) (Nat.le_refl _) hi (by decide) hs).mono fun e w' ⟨he, h1, hc⟩ => ⟨he, h1, (Chg.of_ext hE _).trans hc⟩
  have e : w.heap.size = k := by simpa [Value.ownBlock] using hk
  have := hlt k hd
  omega
theorem d_write1s (h : DB w bd bl bc br n f g ar lf false wt rd) (i : Nat) (x : Int) (hi : i < n) (hs : downF ar lf false = true) : Calls Try.prog 18 #[.pointer (some ⟨bd, 0, none⟩), .int .i64 (i : Int), .slice (some ⟨w.heap.size, 0, none⟩) 1 1] (w.alloc (.cells #[.int .u8 x] 5)) fun e w' => e = .returned (.int .i64 12) ∧ DB w' bd bl bc br n f g ar lf true wt rd ∧ Chg w w' (Dst bd bl bc br) := by
  have hE := (Ext.refl w).alloc (.cells #[Value.int .u8 x] 5)
  exact (d_write_spent (h.ext hE) i (some ⟨w.heap.size, 0, none⟩) 1 1 hi (by decide) hs).mono fun e w' ⟨he, h1, hc⟩ => ⟨he, h1, (Chg.of_ext hE _).trans hc⟩
theorem d_write1d (h : DB w bd bl bc br n f g ar lf true wt rd) (i : Nat) (x : Int) : Calls Try.prog 18 #[.pointer (some ⟨bd, 0, none⟩), .int .i64 (i : Int), .slice (some ⟨w.heap.size, 0, none⟩) 1 1] (w.alloc (.cells #[.int .u8 x] 5)) fun e w' => e = .returned (.int .i64 12) ∧ DB w' bd bl bc br n f g ar lf true wt rd ∧ Chg w w' (Dst bd bl bc br) := by
  have hE := (Ext.refl w).alloc (.cells #[Value.int .u8 x] 5)
  refine (d_write_down (h.ext hE) i (some ⟨w.heap.size, 0, none⟩) 1 1).mono fun e w' ⟨he, hw⟩ => ?_
  subst hw
  exact ⟨he, h.ext hE, Chg.of_ext hE _⟩
theorem d_tamper1 (h : DB w bd bl bc br n f g ar lf of wt rd) (i : Nat) (x : Int) (hi : i < n) : Calls Try.prog 28 #[.pointer (some ⟨bd, 0, none⟩), .int .i64 (i : Int), .slice (some ⟨w.heap.size, 0, none⟩) 1 1] (w.alloc (.cells #[.int .u8 x] 5)) fun e w' => e = .returned (.int .i64 0) ∧ DB w' bd bl bc br n (upd f i [x]) (upd g i none) ar lf of wt rd ∧ Chg w w' (Dst bd bl bc br) := by
  have hE := (Ext.refl w).alloc (.cells #[Value.int .u8 x] 5)
  have hlt := h.lt
  refine (d_tamper (h.ext hE) i (some ⟨w.heap.size, 0, none⟩) 1 1 [x] rfl ((row1 w x).F (fun k hk hd => ?_)) (Nat.le_refl _) hi (by decide)).mono fun e w' ⟨he, h1, hc⟩ => ⟨he, h1, (Chg.of_ext hE _).trans hc⟩
  have e : w.heap.size = k := by simpa [Value.ownBlock] using hk
  have := hlt k hd
  omega
/-- Bytes of one's own against a row of one byte just made. -/
theorem same1 {w0 : World} {B : Nat} {A : Option Addr} {m c : Nat} {xs : List Int} (h : NB w B (.slice A m c) xs) (hl : xs.length ≤ 100000) (x : Int) (b : Bool) (hb : b = decide (xs = [x])) : Calls Try.prog 22 #[.slice A m c, .slice (some ⟨w.heap.size, 0, none⟩) 1 1] (w.alloc (.cells #[.int .u8 x] 5)) fun e w' => e = .returned (.bool b) ∧ Ext w w' := by
  have hE := (Ext.refl w).alloc (.cells #[Value.int .u8 x] 5)
  obtain ⟨A', c', e, hc, hC⟩ := (h.ext hE).reads
  obtain ⟨A2, c2, e2, hc2, hC2⟩ := (row1 w x).reads
  injection e with e e3 e4
  injection e2 with e2 e5 e6
  subst e e4 e2 e6
  exact (same_at _ A _ c _ xs [x] b e3 rfl hb (by rw [e3]; exact hC) (by omega) hC2 (Nat.le_refl _) (by omega)).mono fun e w' h => ⟨h.1, hE.trans h.2⟩
end
set_option maxRecDepth 100000 in
set_option maxHeartbeats 2000000 in
theorem known_calls (w : World) : Calls Try.prog 16 #[] w fun e w' => e = .returned (.bool true) ∧ Ext w w' := by
  go_enter Try.func16, Try.ntmps16
  go_wp2_with fail
  refine (d_new w 4 (by decide) (by decide)).mono ?_
  rintro e w1 ⟨bd, bl, bc, br, rfl, hD, hE, hk⟩
  have HD1 := Aside0.mk hD
  have HE1 := Aside0.mk hE
  have HK := Aside0.mk hk
  clear hD hE hk
  go_wp2_with fail
  refine (d_write1 HD1.out 1 7 (by decide) rfl).mono ?_
  rintro e w2 ⟨rfl, hD, hC⟩
  have HD2 := Aside0.mk hD
  have HE2 := Aside0.mk (hC.to_ext HE1.out HK.out)
  clear hD hC HD1 HE1
  go_wp2_with fail
  refine (d_sync HD2.out rfl).mono ?_
  rintro e w3 ⟨rfl, hD, hC⟩
  have HD3 := Aside0.mk hD
  have HE3 := Aside0.mk (hC.to_ext HE2.out HK.out)
  clear hD hC HD2 HE2
  go_wp2_with fail
  refine (d_write1 HD3.out 1 8 (by decide) rfl).mono ?_
  rintro e w4 ⟨rfl, hD, hC⟩
  have HD4 := Aside0.mk hD
  have HE4 := Aside0.mk (hC.to_ext HE3.out HK.out)
  clear hD hC HD3 HE3
  go_wp2_with fail
  refine (d_write1 HD4.out 2 9 (by decide) rfl).mono ?_
  rintro e w5 ⟨rfl, hD, hC⟩
  have HD5 := Aside0.mk hD
  have HE5 := Aside0.mk (hC.to_ext HE4.out HK.out)
  clear hD hC HD4 HE4
  have HR := Aside0.mk (rowI w5 #[.int .i64 0, .int .i64 1] [0, 1] rfl (by decide))
  have HE5a := Aside0.mk ((Ext.refl w5).alloc (.cells #[.int .i64 0, .int .i64 1] 3))
  have HLT := Aside0.mk HD5.out.lt
  go_wp2_with fail
  refine (d_crash (HD5.out.ext HE5a.out) _ 2 2 [0, 1] rfl (RI_F HR.out (fun k hk hd => by have h2 := HLT.out k hd; have h3 : w5.heap.size = k := (by simpa [Value.ownBlock] using hk); omega)) (Nat.le_refl _)).mono ?_
  rintro e w6 ⟨rfl, hD, hC⟩
  have HD6 := Aside0.mk hD
  have HE6 := Aside0.mk (hC.to_ext (HE5.out.trans HE5a.out) HK.out)
  clear hD hC HD5 HE5 HE5a HR HLT
  go_wp2_with fail
  refine (d_read HD6.out 1 (by decide)).mono ?_
  rintro e w7 ⟨U1, rfl, hU1, hD, hC⟩
  replace hU1 : NB w7 w6.heap.size U1 [7] := hU1
  have HE7 := Aside0.mk (hC.to_ext HE6.out HK.out)
  have HU1 := Aside0.mk hU1
  have HD7 := Aside0.mk hD
  clear hD hC hU1 HD6 HE6
  go_wp2_with fail
  refine (d_read HD7.out 2 (by decide)).mono ?_
  rintro e w8 ⟨U2, rfl, hU2, hD, hC⟩
  replace hU2 : NB w8 w7.heap.size U2 [9] := hU2
  have HE8 := Aside0.mk (hC.to_ext HE7.out HK.out)
  have HU1b := Aside0.mk (HD7.out.byt HU1.out hC)
  have HU2 := Aside0.mk hU2
  clear hD hC hU2 HD7 HE7 HU1
  obtain ⟨A1, n1, c1, hV1⟩ := HU1b.out.isSl
  obtain ⟨A2, n2, c2, hV2⟩ := HU2.out.isSl
  subst hV1 hV2
  go_wp2_with fail
  refine (same1 (w0 := w) HU1b.out (by decide) 7 true rfl).mono ?_
  rintro e w9 ⟨rfl, hE⟩
  have HU2b := Aside0.mk (HU2.out.ext hE)
  have HE9 := Aside0.mk (HE8.out.trans hE)
  clear hE HU2 HE8 HU1b
  go_wp2_with fail
  refine (same1 (w0 := w) HU2b.out (by decide) 9 true rfl).mono ?_
  rintro e wa ⟨rfl, hE⟩
  have HEa := Aside0.mk (HE9.out.trans hE)
  clear hE HU2b HE9
  go_wp2
  go_ret
  exact ⟨rfl, HEa.out⟩
end Go.Proofs.Ytkgjcmolmogpdaa.By
