/- The chapter's example. -/
import Derived.Test.YtielnpmnnifjcaaAu
import Derived.Test.YtielnpmnnifjcaaEk
namespace Go.Proofs.Ytielnpmnnifjcaa.By
open Go.RowKit Go.Proofs.Ytielnpmnnifjcaa.Reg Go.Proofs.YtielnpmnnifjcaaW.PrintWords Go.Proofs.YtielnpmnnifjcaaW.PrintLast Go.Proofs.YtielnpmnnifjcaaW.PrintMore
set_option linter.unusedVariables false
set_option linter.unusedSimpArgs false


set_option maxRecDepth 100000 in
theorem rowF_eq (b : Int) : PArrayPlays.rilllaw29_row.f 40 b = some (List.replicate 32 b) := by kernel_rfl
theorem row_calls (w : World) (b : Int) : Calls Try.prog 10 #[.int .u8 b] w fun e w' => ∃ A c, e = .returned (.slice A 32 c) ∧ Aside0 (32 ≤ c) ∧ Aside0 (Kd.C kb w' A 32 (List.replicate 32 b)) ∧ Aside0 (Ext w w') := by
  refine (PArrayPlays.rilllaw29_row.calls 40 b _ w (rowF_eq b)).mono fun e w' ⟨V, he, hv, hE⟩ => ?_
  obtain ⟨A, c, e1, h1, h2⟩ := NB.nat (n := 32) hv (by rw [List.length_replicate])
  exact ⟨A, c, by rw [he, e1], ⟨h1⟩, ⟨h2⟩, ⟨hE⟩⟩
/-- Two rows in a block of their own. -/
theorem two_rows {w w' : World} {A0 A1 : Option Addr} {c0 c1 n0 n1 b t : Nat} {xs ys : List Int} (hb : Blk w' b #[.slice A0 n0 c0, .slice A1 n1 c1] t) (hE : Ext w w') (hx : Kd.C kb w A0 n0 xs) (hn0 : n0 = xs.length) (h0 : n0 ≤ c0) (hy : Kd.C kb w A1 n1 ys) (hn1 : n1 = ys.length) (h1 : n1 ≤ c1) :
    Kd.C kBB w' (some ⟨b, 0, none⟩) 2 [xs, ys] := by
  subst hn0 hn1
  have k0 : w'.cell? ((⟨b, 0, none⟩ : Addr).add 0) = some (.slice A0 xs.length c0) := addr0_cell (cs := [.slice A0 xs.length c0, .slice A1 ys.length c1]) hb rfl
  have k1 : w'.cell? ((⟨b, 0, none⟩ : Addr).add 1) = some (.slice A1 ys.length c1) := addr0_cell (cs := [.slice A0 xs.length c0, .slice A1 ys.length c1]) hb rfl
  refine ⟨rfl, by decide, fun _ => ⟨_, rfl, fun j r hr => ?_⟩⟩
  match j, hr with
  | 0, hr =>
    injection hr with hr
    subst hr
    refine ⟨[.slice A0 xs.length c0], rfl, ⟨A0, c0, rfl, h0, Kd.C_below hx hE⟩, fun i u hu => ?_⟩
    match i, hu with
    | 0, hu => injection hu with hu; subst hu; exact k0
    | i + 1, hu => simp at hu
  | 1, hr =>
    injection hr with hr
    subst hr
    refine ⟨[.slice A1 ys.length c1], rfl, ⟨A1, c1, rfl, h1, Kd.C_below hy hE⟩, fun i u hu => ?_⟩
    match i, hu with
    | 0, hu => injection hu with hu; subst hu; exact k1
    | i + 1, hu => simp at hu
  | j + 2, hr => simp at hr
abbrev r0 : List Int := List.replicate 32 0
abbrev r7 : List Int := List.replicate 32 7
abbrev r8 : List Int := List.replicate 32 8
set_option maxRecDepth 100000 in
set_option maxHeartbeats 2000000 in
theorem known_calls (w : World) : Calls Try.prog 15 #[] w fun e w' => e = .returned (.bool true) ∧ Ext w w' := by
  go_enter Try.func15, Try.ntmps15
  go_wp2_with fail
  refine (ar_new w 2 w.heap.size (Nat.le_refl _)).mono ?_
  rintro e w1 ⟨ba, rfl, hA, hE, hb⟩
  have HA1 := Aside0.mk (show AR w1 w.heap.size ba 2 (.slice none 0 0) [] 0 from hA)
  have HX1 := Aside0.mk hE
  clear hA hE hb
  go_wp2_with fail
  refine (row_calls w1 7).mono ?_
  rintro e w2 ⟨A1, c1, rfl, HC1, HR1, HE1⟩
  go_wp2_with fail
  refine (ar_do_w (HA1.out.ext HE1.out) (by decide) 0 (by decide) A1 c1 r7 rfl HR1.out HC1.out (by have := HX1.out.size; have := HE1.out.size; omega)).mono ?_
  rintro e w3 ⟨V1, rfl, hA, hC, hO⟩
  have HA3 := Aside0.mk hA
  have HX3 := Aside0.mk (hC.to_ext (HX1.out.trans HE1.out) (HA1.out.ext HE1.out).bb)
  clear hA hC hO HA1 HX1 HC1 HR1 HE1
  go_wp2_with fail
  refine (ar_do_t HA3.out (by decide) 1 (by decide) none 0 (by have := HX3.out.size; omega)).mono ?_
  rintro e w4 ⟨V2, rfl, hA, hC, hO⟩
  have HA4 := Aside0.mk hA
  have HX4 := Aside0.mk (hC.to_ext HX3.out HA3.out.bb)
  clear hA hC hO HA3 HX3
  go_wp2_with fail
  refine (row_calls w4 8).mono ?_
  rintro e w5 ⟨A4, c4, rfl, HC4, HR4, HE4⟩
  go_wp2_with fail
  refine (ar_do_w (HA4.out.ext HE4.out) (by decide) 1 (by decide) A4 c4 r8 rfl HR4.out HC4.out (by have := HX4.out.size; have := HE4.out.size; omega)).mono ?_
  rintro e w6 ⟨V3, rfl, hA, hC, hO⟩
  have HA6 := Aside0.mk (show AR w6 w.heap.size ba 2 V3 [(false, 0, r7), (true, 1, z32), (false, 1, r8)] 0 from hA)
  have HX6 := Aside0.mk (hC.to_ext (HX4.out.trans HE4.out) (HA4.out.ext HE4.out).bb)
  clear hA hC hO HA4 HX4 HC4 HR4 HE4
  go_wp2_with fail
  refine (row_calls w6 7).mono ?_
  rintro e w7 ⟨A6, c6, rfl, HC6, HR6, HE6⟩
  go_wp2_with fail
  refine (row_calls w7 0).mono ?_
  rintro e w8 ⟨A7, c7, rfl, HC7, HR7, HE7⟩
  go_wp2_with fail
  have HEa := Aside0.mk ((Ext.refl w8).alloc (.cells #[.slice A6 32 c6, .slice A7 32 c7] 31))
  refine (ar_match_at (HA6.out.ext ((HE6.out.trans HE7.out).trans HEa.out)) _ 2 2 [r7, r0] rfl (two_rows (Blk.new _ _ _) HEa.out (Kd.C_below HR6.out HE7.out) rfl HC6.out HR7.out rfl HC7.out) (Nat.le_refl _) 1 true (by unfold AQ MQ; decide +kernel)).mono ?_
  rintro e w9 ⟨rfl, hE⟩
  have HA9 := Aside0.mk (HA6.out.ext (((HE6.out.trans HE7.out).trans HEa.out).trans hE))
  have HX9 := Aside0.mk (HX6.out.trans (((HE6.out.trans HE7.out).trans HEa.out).trans hE))
  clear hE HEa HA6 HX6 HC6 HR6 HE6 HC7 HR7 HE7
  go_wp2_with fail
  refine (row_calls w9 7).mono ?_
  rintro e w10 ⟨A9, c9, rfl, HC9, HR9, HE9⟩
  go_wp2_with fail
  refine (row_calls w10 8).mono ?_
  rintro e w11 ⟨A10, c10, rfl, HC10, HR10, HE10⟩
  go_wp2_with fail
  have HEa := Aside0.mk ((Ext.refl w11).alloc (.cells #[.slice A9 32 c9, .slice A10 32 c10] 31))
  refine (ar_match_at (HA9.out.ext ((HE9.out.trans HE10.out).trans HEa.out)) _ 2 2 [r7, r8] rfl (two_rows (Blk.new _ _ _) HEa.out (Kd.C_below HR9.out HE10.out) rfl HC9.out HR10.out rfl HC10.out) (Nat.le_refl _) 3 true (by unfold AQ MQ; decide +kernel)).mono ?_
  rintro e w12 ⟨rfl, hE⟩
  have HA12 := Aside0.mk (HA9.out.ext (((HE9.out.trans HE10.out).trans HEa.out).trans hE))
  have HX12 := Aside0.mk (HX9.out.trans (((HE9.out.trans HE10.out).trans HEa.out).trans hE))
  clear hE HEa HA9 HX9 HC9 HR9 HE9 HC10 HR10 HE10
  go_wp2_with fail
  refine (row_calls w12 8).mono ?_
  rintro e w13 ⟨A12, c12, rfl, HC12, HR12, HE12⟩
  go_wp2_with fail
  refine (row_calls w13 8).mono ?_
  rintro e w14 ⟨A13, c13, rfl, HC13, HR13, HE13⟩
  go_wp2_with fail
  have HEa := Aside0.mk ((Ext.refl w14).alloc (.cells #[.slice A12 32 c12, .slice A13 32 c13] 31))
  refine (ar_match_at (HA12.out.ext ((HE12.out.trans HE13.out).trans HEa.out)) _ 2 2 [r8, r8] rfl (two_rows (Blk.new _ _ _) HEa.out (Kd.C_below HR12.out HE13.out) rfl HC12.out HR13.out rfl HC13.out) (Nat.le_refl _) 0 false (by unfold AQ MQ; decide +kernel)).mono ?_
  rintro e w15 ⟨rfl, hE⟩
  have HA15 := Aside0.mk (HA12.out.ext (((HE12.out.trans HE13.out).trans HEa.out).trans hE))
  have HX15 := Aside0.mk (HX12.out.trans (((HE12.out.trans HE13.out).trans HEa.out).trans hE))
  clear hE HEa HA12 HX12 HC12 HR12 HE12 HC13 HR13 HE13
  go_wp2_with fail
  refine (ar_open HA15.out).mono ?_
  rintro e _ ⟨rfl, rfl⟩
  go_wp2_with fail
  refine (ar_mapped HA15.out).mono ?_
  rintro e _ ⟨he, rfl⟩
  obtain rfl : e = .returned (.int .i64 2) := by rw [he]; exact congrArg (fun z : Int => Ending.returned (.int .i64 z)) (by decide +kernel)
  clear he
  go_wp2_with fail
  refine (ar_fall_no HA15.out 4 (.inr (by decide))).mono ?_
  rintro e _ ⟨rfl, rfl⟩
  go_wp2_with fail
  refine (ar_fall HA15.out 1 (by decide)).mono ?_
  rintro e w16 ⟨rfl, hA, hC⟩
  have HA16 := Aside0.mk (show AR w16 w.heap.size ba 2 (.slice none 0 0) [(false, 0, r7)] 1 from hA)
  have HX16 := Aside0.mk (hC.to_ext HX15.out HA15.out.bb)
  clear hA hC HA15 HX15
  go_wp2_with fail
  refine (ar_read HA16.out 1 (by decide)).mono ?_
  rintro e w17 ⟨U, he, hN, hE⟩
  obtain rfl : e = .returned (.tuple #[U, .bool false]) := by rw [he]; exact congrArg (fun z : Bool => Ending.returned (.tuple #[U, .bool z])) (by decide +kernel)
  obtain ⟨A17, c17, rfl, hc, hC⟩ := NB.nat (n := 32) hN (by decide +kernel)
  have HN17 := Aside0.mk (show Kd.C kb w17 A17 32 r0 from by have q : aftR zR [(false, (0 : Int), r7)] 1 = r0 := by decide +kernel
                                                             rw [q] at hC; exact hC)
  have HC17 := Aside0.mk hc
  have HA17 := Aside0.mk (HA16.out.ext hE)
  have HX17 := Aside0.mk (HX16.out.trans hE)
  clear hE hN hc hC he HA16 HX16
  go_wp2_with fail
  refine (row_calls w17 0).mono ?_
  rintro e w18 ⟨A18, c18, rfl, HC18, HR18, HE18⟩
  go_wp2_with fail
  refine (same_at w18 A17 A18 c17 c18 r0 r0 true rfl rfl (by decide +kernel) (Kd.C_below HN17.out HE18.out) HC17.out HR18.out HC18.out (by decide)).mono ?_
  rintro e w19 ⟨rfl, hE⟩
  have HA19 := Aside0.mk (HA17.out.ext (HE18.out.trans hE))
  have HX19 := Aside0.mk (HX17.out.trans (HE18.out.trans hE))
  clear hE HA17 HX17 HC18 HR18 HE18 HN17 HC17
  go_wp2_with fail
  refine (ar_open HA19.out).mono ?_
  rintro e _ ⟨rfl, rfl⟩
  go_wp2_with fail
  refine (ar_mapped HA19.out).mono ?_
  rintro e _ ⟨he, rfl⟩
  obtain rfl : e = .returned (.int .i64 1) := by rw [he]; exact congrArg (fun z : Int => Ending.returned (.int .i64 z)) (by decide +kernel)
  clear he
  go_wp2_with fail
  go_ret
  exact ⟨rfl, HX19.out⟩
end Go.Proofs.Ytielnpmnnifjcaa.By
