/- PackPuts. -/
import Derived.Test.YtkjjkahdmlfflaaKnown
import Derived.Test.YtkjjkahdmlfflaaGate
namespace Go.Proofs.Ytkjjkahdmlfflaa.By
open Go.RowKit Go.Proofs.Ytkjjkahdmlfflaa.Reg Go.Proofs.YtkjjkahdmlfflaaW.PrintWords Go.Proofs.YtkjjkahdmlfflaaW.PrintLast Go.Proofs.YtkjjkahdmlfflaaW.PrintMore
set_option linter.unusedVariables false

theorem NB.top {w : World} {B : Nat} {V : Value} {xs : List Int} (h : NB w B V xs) (k : Nat) (hk : V.ownBlock = some k) : k < w.heap.size := own_lt (Kd.own_of_R h) k hk

section
variable (w : World) (A : Option Addr) (c n : Nat) (xs s : List Int) (v a : Int) (hn : n = xs.length) (hr : Kd.C kb w A n xs) (hc : n ≤ c)
include hn hr hc
theorem sum_n (S : Value) (hS : S = sumV s) (hs : s.length = 32) (hl : n + 32 ≤ 140737488355328) :
    Calls Try.prog 18 #[.slice A n c, S] w fun e w' => ∃ V, e = .returned V ∧ NB w' w.heap.size V (xs ++ s) ∧ Ext w w' := by
  subst hn; subst hS
  exact sum_calls w A c xs s hs hr hc hl
theorem rsum_n (S : Value) (hS : S = sumV s) (hs : s.length = 32) (hl : n + 32 ≤ 140737488355328) :
    Calls Try.prog 22 #[.slice A n c, S] w fun e w' => ∃ V, e = .returned V ∧ NB w' w.heap.size V (xs ++ s) ∧ Ext w w' := by
  subst hn; subst hS
  exact rsum_calls w A c xs s hs hr hc hl
theorem rref_n (S : Value) (hS : S = refV a s) (hs : s.length = 32) (hl : n + 40 ≤ 140737488355327) :
    Calls Try.prog 23 #[.slice A n c, S] w fun e w' => ∃ V, e = .returned V ∧ NB w' w.heap.size V (xs ++ refB a s) ∧ Ext w w' := by
  subst hn; subst hS
  exact rref_calls w A c xs s a hs hr hc (by omega)
theorem rint_n (hl : n + 8 < 140737488355328) :
    Calls Try.prog 21 #[.slice A n c, .int .i64 v] w fun e w' => ∃ V, e = .returned V ∧ NB w' w.heap.size V (xs ++ be8 v) ∧ Ext w w' := by
  subst hn
  exact rint_calls w A c xs v hr hc hl
end
/-- Two rows of the same bytes, each as a value that was made. -/
theorem same_nb (w : World) (B B' : Nat) (X Y : Value) (xs : List Int) (h : NB w B X xs) (h' : NB w B' Y xs) (hl : xs.length ≤ 9223372036854775806) :
    Calls Try.prog 20 #[X, Y] w fun e w' => e = .returned (.bool true) ∧ Ext w w' := by
  obtain ⟨A, c, rfl, hc, hC⟩ := h.reads
  obtain ⟨A', c', rfl, hc', hC'⟩ := h'.reads
  exact same_at w A A' c c' xs xs true rfl rfl (by simp) hC hc hC' hc' hl

theorem lent_at (w : World) (A : Option Addr) (c n : Nat) (xs : List Int) (hn : n = xs.length) (hr : Kd.C kb w A n xs) (hc : n ≤ c) (hl : n ≤ 281474976710651) :
    Calls Try.prog 16 #[.slice A n c] w fun e w' => ∃ B d, e = .returned (.slice B (n + 5) d) ∧ NB w' w.heap.size (.slice B (n + 5) d) (lent xs) ∧ n + 5 ≤ d ∧ Kd.C kb w' B (n + 5) (lent xs) ∧ Kd.C kb w' B n xs ∧ Ext w w' := by
  subst hn
  refine (lent_calls w A c xs hr hc hl).mono ?_
  rintro e w' ⟨V, rfl, hN, hE⟩
  obtain ⟨B, d, rfl, hd, hC⟩ := hN.reads
  have ht := Kd.C_take (m := xs.length) hC (by rw [lent_length]; omega)
  rw [lent_take] at ht
  rw [lent_length] at hd hC hN ⊢
  exact ⟨B, d, rfl, hN, hd, hC, ht, hE⟩

theorem refBlk0 {w : World} {b : Nat} {a : Int} {s : List Int} {t : TypeId} (h : Blk w b (refC a s).toArray t) : w.rangeAt b 0 (refC a s) := h.range 0 (refC a s) [] (by simp)

theorem kept_n (w : World) (A B : Option Addr) (c d n : Nat) (xs : List Int) (hn : n = xs.length) (hr : Kd.C kb w A (n + 5) (lent xs)) (hc : n + 5 ≤ c) (hr' : Kd.C kb w B n xs) (hc' : n ≤ d) (hl : n ≤ 281474976710651) :
    Calls Try.prog 25 #[.slice A (n + 5) c, .slice B n d] w fun e w' => e = .returned (.bool true) ∧ Ext w w' := by
  subst hn
  have := kept_calls w A B c d xs (lent xs) rfl (by rw [lent_length]; exact hr) (by rw [lent_length]; exact hc) hr' hc' hl
  rwa [lent_length] at this

set_option maxHeartbeats 4000000 in
theorem puts_calls (w : World) (A : Option Addr) (c n : Nat) (bs s : List Int) (v a : Int) (hn : n = bs.length) (hs : s.length = 32) (hr : Kd.C kb w A n bs) (hc : n ≤ c) :
    Calls Try.prog 3 #[.slice A n c, .int .i64 v, refV a s] w fun e w' => e = .returned (.bool true) ∧ Ext w w' := by
  have HR := Aside0.mk hr
  have HN := Aside0.mk hn
  have HS := Aside0.mk hs
  have hE0 := (Ext.refl w).alloc (.cells (refC a s).toArray 26)
  have hK0 := Blk.new w (refC a s).toArray 26
  clear hr hn hs
  unfold refV
  by_cases hbig : n > 65536
  · clear hK0
    have hz : ((65536 : Int) < (n : Int)) = True := eq_true (by omega)
    go_enter Try.func3, Try.ntmps3
    go_wp2_with fail
    refine (known_calls _).mono ?_
    rintro e w1 ⟨rfl, hE⟩
    have HE := Aside0.mk (hE0.trans hE)
    clear hE hE0
    go_wp2
    go_ret
    exact ⟨rfl, HE.out⟩
  have hz : ((65536 : Int) < (n : Int)) = False := eq_false (by omega)
  have hsm : n ≤ 65536 := by omega
  obtain ⟨i0, hi0, _, hsz, _⟩ := info_parts PPackPuts.info5
  clear hbig
  generalize hw0 : w.alloc (.cells (refC a s).toArray 26) = w0 at *
  have HR0 := Aside0.mk (Kd.C_below HR.out hE0)
  have HK0 := Aside0.mk hK0
  have HI := Aside0.mk (show (Try.prog.info? 26).map (·.size) = some (refC a s).length by unfold refC; rw [List.length_cons, nums_length, HS.out]; kernel_rfl)
  have HI4 := Aside0.mk (show (Try.prog.info? 24).map (·.size) = some (nums .u8 s).length by rw [nums_length, HS.out]; kernel_rfl)
  clear hK0
  go_enter Try.func3, Try.ntmps3
  go_wp2_with fail
  refine (lent_at w0 A c n bs HN.out HR0.out hc (by omega)).mono ?_
  rintro e w1 ⟨B, d, rfl, hNB, hd, hCB, hCI, hE1⟩
  have HNB := Aside0.mk hNB
  have HCB := Aside0.mk hCB
  have HCI := Aside0.mk hCI
  have HE1 := Aside0.mk (hE0.trans hE1)
  have HE1' := Aside0.mk hE1
  have hcut := cut_to (P := Try.prog) 22 5 .i64 Try.underlying22 hi0 B (n + 5) d (n : Int) (by omega) (by omega) hd
  rw [Int.toNat_natCast] at hcut
  clear hNB hCB hCI
  have hnd : n ≤ d := by omega
  go_wp2_with fail
  refine (int_at w1 B d n bs v HN.out HCI.out hnd (by omega)).mono ?_
  rintro e w2 ⟨X, rfl, hX, hE2⟩
  have HX := Aside0.mk hX
  have HS12 := Aside0.mk (show w1.heap.size ≤ w2.heap.size from hE2.size)
  have HE2 := Aside0.mk hE2
  clear hX
  have HK2 := Aside0.mk ((HK0.out.ext hE1).ext hE2)
  have HC2 := Aside0.mk (Kd.C_below HCI.out hE2)
  clear hE1
  go_wp2_with (first | ((with_reducible refine gate_load (ty := 24) rfl ?_); refine load_at rfl 24 _ rfl w.heap.size 1 rfl (nums .u8 s) _ (refBlk HK2.out).2 Try.underlying24 rfl HI4.out ?_) | fail)
  refine (sum_n w2 B d n bs s HN.out HC2.out hnd _ rfl HS.out (by omega)).mono ?_
  rintro e w3 ⟨Y, rfl, hY, hE3⟩
  have HY := Aside0.mk hY
  have HE3 := Aside0.mk (hE2.trans hE3)
  have HK3 := Aside0.mk (HK2.out.ext hE3)
  have HC3 := Aside0.mk (Kd.C_below HC2.out hE3)
  clear hY
  go_wp2_with (first | ((with_reducible refine gate_load (ty := 26) rfl ?_); refine load_at rfl 26 _ rfl w.heap.size 0 rfl (refC a s) _ (refBlk0 HK3.out) Try.underlying26 rfl HI.out ?_) | fail)
  refine (ref_at w3 B d n bs s a _ HN.out rfl HS.out HC3.out hnd (by have := HN.out; omega)).mono ?_
  rintro e w4 ⟨Z, rfl, hZ, hE4⟩
  have HZ := Aside0.mk hZ
  have HE14 := Aside0.mk (HE3.out.trans hE4)
  have HC4 := Aside0.mk (Kd.C_below HR0.out (HE1'.out.trans HE14.out))
  have HX4 := Aside0.mk (HX.out.ext (hE3.trans hE4))
  have HY4 := Aside0.mk (HY.out.ext hE4)
  have HK4 := Aside0.mk (HK3.out.ext hE4)
  have HS1 := Aside0.mk (show w2.heap.size ≤ w3.heap.size from hE3.size)
  have HT1 := Aside0.mk HX.out.top
  have HT2 := Aside0.mk HY.out.top
  clear hZ hE4 hE3 hE2 HE3 HK2 HC2 HK3 HC3 HE2
  go_wp2_with fail
  refine (rint_n w4 A c n bs v HN.out HC4.out hc (by omega)).mono ?_
  rintro e w5 ⟨R, rfl, hR, hE5⟩
  have HRR := Aside0.mk hR
  have HE5 := Aside0.mk hE5
  clear hR hE5
  go_wp2_with fail
  refine (same_nb w5 _ _ X R _ (HX4.out.ext HE5.out) HRR.out (by rw [List.length_append, be8_length]; have := HN.out; omega)).mono ?_
  rintro e w6 ⟨rfl, hE6⟩
  have HE6 := Aside0.mk (HE5.out.trans hE6)
  clear hE6 HRR HE5
  go_wp2_with (first | ((with_reducible refine gate_load (ty := 24) rfl ?_); refine load_at rfl 24 _ rfl w.heap.size 1 rfl (nums .u8 s) _ (refBlk (HK4.out.ext HE6.out)).2 Try.underlying24 rfl HI4.out ?_) | fail)
  refine (rsum_n w6 A c n bs s HN.out (Kd.C_below HC4.out HE6.out) hc _ rfl HS.out (by omega)).mono ?_
  rintro e w7 ⟨R2, rfl, hR, hE7⟩
  have HRR := Aside0.mk hR
  have HE7 := Aside0.mk (HE6.out.trans hE7)
  clear hR hE7 HE6
  go_wp2_with fail
  refine (same_nb w7 _ _ Y R2 _ (HY4.out.ext HE7.out) HRR.out (by rw [List.length_append, HS.out]; have := HN.out; omega)).mono ?_
  rintro e w8 ⟨rfl, hE8⟩
  have HE8 := Aside0.mk (HE7.out.trans hE8)
  clear hE8 HRR HE7
  go_wp2_with (first | ((with_reducible refine gate_load (ty := 26) rfl ?_); refine load_at rfl 26 _ rfl w.heap.size 0 rfl (refC a s) _ (refBlk0 (HK4.out.ext HE8.out)) Try.underlying26 rfl HI.out ?_) | fail)
  refine (rref_n w8 A c n bs s a HN.out (Kd.C_below HC4.out HE8.out) hc _ rfl HS.out (by omega)).mono ?_
  rintro e w9 ⟨R3, rfl, hR, hE9⟩
  have HRR := Aside0.mk hR
  have HE9 := Aside0.mk (HE8.out.trans hE9)
  clear hR hE9 HE8
  go_wp2_with fail
  refine (same_nb w9 _ _ Z R3 _ (HZ.out.ext HE9.out) HRR.out (by unfold refB; rw [List.length_append, List.length_append, be8_length, HS.out]; have := HN.out; omega)).mono ?_
  rintro e w10 ⟨rfl, hEa⟩
  have HEa := Aside0.mk (HE9.out.trans hEa)
  have HY10 := Aside0.mk (HY4.out.ext HEa.out)
  have HZ10 := Aside0.mk (HZ.out.ext HEa.out)
  have HX10 := Aside0.mk (HX4.out.ext HEa.out)
  have HE110 := Aside0.mk (HE14.out.trans HEa.out)
  clear hEa HRR HE9 HX4 HY4 HZ HEa
  go_wp2_with fail
  refine (spoil_calls w10 _ w1 X HE110.out HX10.out (by rw [List.length_append, be8_length]; have := HN.out; omega)).mono ?_
  rintro e w11 ⟨rfl, hE11, hK11⟩
  have HY11 := Aside0.mk (HY10.out.kept hK11 HT1.out)
  have HZ11 := Aside0.mk (HZ10.out.kept hK11 (fun k hk => Nat.lt_of_lt_of_le (HT1.out k hk) HS1.out))
  have HE11 := Aside0.mk hE11
  clear hE11 hK11 HY10 HZ10 HX10 HE110
  go_wp2_with fail
  refine (spoil_calls w11 _ w1 Y HE11.out (HY11.out.lower HS12.out) (by rw [List.length_append, HS.out]; have := HN.out; omega)).mono ?_
  rintro e w12 ⟨rfl, hE12, hK12⟩
  have HZ12 := Aside0.mk (HZ11.out.kept hK12 HT2.out)
  have HE12 := Aside0.mk hE12
  clear hE12 hK12 HY11 HZ11 HE11
  go_wp2_with fail
  refine (spoil_calls w12 _ w1 Z HE12.out (HZ12.out.lower (Nat.le_trans HS12.out HS1.out)) (by unfold refB; rw [List.length_append, List.length_append, be8_length, HS.out]; have := HN.out; omega)).mono ?_
  rintro e w13 ⟨rfl, hE13, hK13⟩
  have HE13 := Aside0.mk hE13
  clear hE13 hK13 HZ12 HE12
  go_wp2_with fail
  refine (kept_n w13 B A d c n bs HN.out (Kd.C_below HCB.out HE13.out) hd (Kd.C_below HR0.out (HE1'.out.trans HE13.out)) hc (by omega)).mono ?_
  rintro e w14 ⟨rfl, hE14⟩
  have HE14' := Aside0.mk (HE13.out.trans hE14)
  clear hE14
  go_wp2_with fail
  refine (known_calls w14).mono ?_
  rintro e w15 ⟨rfl, hE15⟩
  have HE15 := Aside0.mk ((HE1.out.trans HE14'.out).trans hE15)
  clear hE15
  go_wp2
  go_ret
  exact ⟨rfl, HE15.out⟩
end Go.Proofs.Ytkjjkahdmlfflaa.By
