/- The walks of layer 17's laws: the chapter's rows, ScoreOf and ScoreBends. -/
import Derived.Test.YthdcalneejhdgaaVict
namespace Go.Proofs.Ythdcalneejhdgaa.Laws
open Go.RowKit Go.Proofs.Ythdcalneejhdgaa.Reg Go.Proofs.YthdcalneejhdgaaW.PrintWords Go.Proofs.YthdcalneejhdgaaW.PrintLast Go.Proofs.YthdcalneejhdgaaW.PrintMore Go.Proofs.Ythdcalneejhdgaa.PScoreVictim Go.Proofs.Ythdcalneejhdgaa.Vict
set_option linter.unusedVariables false

/-- Rows that stand in a block are read. -/
theorem C_of_blk {α : Type} {d : Kd α} (enc : α → List Value) (hK : ∀ w x, d.K w x (enc x)) {w : World} {b : Nat} {cs : Array Value} {t : TypeId} (h : Blk w b cs t) (xs : List α) (hxs : xs.length ≤ 9223372036854775807) (off : Nat) (rest : List Value) (hcs : cs.toList.drop off = xs.flatMap enc ++ rest) :
    Kd.C d w (some ⟨b, off, none⟩) xs.length xs := by
  have hlen : ∀ x, (enc x).length = d.sz := fun x => d.K_len (hK w x)
  have hfl : ∀ (ys : List α), (ys.flatMap enc).length = ys.length * d.sz := by
    intro ys
    induction ys with
    | nil => simp
    | cons y ys ih => rw [List.flatMap_cons, List.length_append, ih, hlen, List.length_cons, Nat.succ_mul]; omega
  refine ⟨rfl, hxs, fun _ => ⟨_, rfl, fun j p hj => ⟨enc p, hlen p, hK w p, fun i u hu => ?_⟩⟩⟩
  have hil : i < (enc p).length := (List.getElem?_eq_some_iff.1 hu).1
  obtain ⟨hjl, hjp⟩ := List.getElem?_eq_some_iff.1 hj
  have ha : (⟨b, off, none⟩ : Addr).add (j * d.sz + i) = ⟨b, off + (j * d.sz + i), none⟩ := by unfold Addr.add; split <;> simp_all
  rw [ha]
  refine h.cell _ ?_
  have e1 : cs[off + (j * d.sz + i)]? = (cs.toList.drop off)[j * d.sz + i]? := by rw [List.getElem?_drop, Array.getElem?_toList]
  have e2 : xs = xs.take j ++ p :: xs.drop (j + 1) := by rw [← hjp, List.getElem_cons_drop, List.take_append_drop]
  have e3 : ((xs.take j).flatMap enc).length = j * d.sz := by rw [hfl, List.length_take, Nat.min_eq_left (by omega)]
  rw [e1, hcs, e2, List.flatMap_append, List.flatMap_cons, List.append_assoc, List.getElem?_append_right (by omega), e3, Nat.add_sub_cancel_left, List.append_assoc, List.getElem?_append_left hil, hu]

def enc36 (x : S36) : List Value := [.int .i64 x.f0, .int .i64 x.f1, .int .i64 x.f2]

def kl : List S36 := [⟨2, 6, 5⟩, ⟨2, 0, 5⟩, ⟨1, 0, 0⟩, ⟨2, 0, 4⟩]
theorem kl_a : vfold 32 6 9 kl 4 = (3, 6000) := by decide +kernel
theorem kl_b : vfold 32 (-1) 9 kl 4 = (0, -1) := by decide +kernel
theorem vict_a (b : Nat) (w : World) (h : Blk w b (kl.flatMap enc36).toArray 36) :
    Calls Try.prog 12 #[.slice (some ⟨b, 0, none⟩) 4 4, .int .i64 32, .int .i64 6, .int .i64 9] w fun e w' => e = .returned (.tuple #[.int .i64 3, .bool true]) ∧ Ext w w' := by
  have hC := C_of_blk (d := k36) enc36 k36_mk h kl (by decide) 0 [] (by simp)
  refine (victim_calls _ 4 kl 32 6 9 w hC (by decide) (by decide)).mono fun e w' ⟨he, hb⟩ => ⟨?_, hb⟩
  have : kl.length = 4 := rfl
  rw [he, this, kl_a]
  rfl
theorem vict_b (b : Nat) (w : World) (h : Blk w b (kl.flatMap enc36).toArray 36) :
    Calls Try.prog 12 #[.slice (some ⟨b, 0, none⟩) 4 4, .int .i64 32, .int .i64 (-1), .int .i64 9] w fun e w' => e = .returned (.tuple #[.int .i64 0, .bool false]) ∧ Ext w w' := by
  have hC := C_of_blk (d := k36) enc36 k36_mk h kl (by decide) 0 [] (by simp)
  refine (victim_calls _ 4 kl 32 (-1) 9 w hC (by decide) (by decide)).mono fun e w' ⟨he, hb⟩ => ⟨?_, hb⟩
  have : kl.length = 4 := rfl
  rw [he, this, kl_b]
  rfl
theorem of_calls (a b c : Int) (w : World) : Calls Try.prog 8 #[.int .i64 a, .int .i64 b, .int .i64 c] w fun e w' => e = .returned (.int .i64 (ofT a b c)) ∧ Ext w w' :=
  (score_Of.calls _ _ _ _ w (of_eq a b c)).mono fun e w' h => ⟨h.1, h.2.below⟩
theorem of_at (a b c r : Int) (w : World) (h : ofT a b c = r) : Calls Try.prog 8 #[.int .i64 a, .int .i64 b, .int .i64 c] w fun e w' => e = .returned (.int .i64 r) ∧ Ext w w' := by
  subst h
  exact of_calls a b c w

set_option maxHeartbeats 1000000 in
theorem known_calls (w : World) : Calls Try.prog 10 #[] w fun e w' => e = .returned (.bool true) ∧ Ext w w' := by
  have hu36 := Try.underlying36
  go_enter Try.func10, Try.ntmps10
  go_wp2_with fail
  have hb0 := Blk.new w (kl.flatMap enc36).toArray 36
  have hE0 := (Ext.refl w).alloc (.cells (kl.flatMap enc36).toArray 36)
  refine (vict_a _ _ hb0).mono ?_
  rintro e w1 ⟨rfl, hE⟩
  have hb1 := hb0.ext hE
  have hE1 := hE0.trans hE
  clear hE hE0 hb0
  go_wp2_with fail
  refine (vict_b _ _ hb1).mono ?_
  rintro e w2 ⟨rfl, hE⟩
  have hE2 := hE1.trans hE
  clear hE hE1 hb1
  go_wp2_with fail
  refine (of_at 32 0 0 1000 _ (by decide +kernel)).mono ?_
  rintro e w3 ⟨rfl, hE⟩
  have hE3 := hE2.trans hE
  clear hE hE2
  go_wp2_with fail
  refine (of_at 32 6 9 6842 _ (by decide +kernel)).mono ?_
  rintro e w4 ⟨rfl, hE⟩
  have hE4 := hE3.trans hE
  clear hE hE3
  go_wp2
  go_ret
  exact ⟨rfl, hE4⟩

set_option maxHeartbeats 1000000 in
theorem scoreOf_calls (a b c : Int) (w : World) : Calls Try.prog 3 #[.int .i64 a, .int .i64 b, .int .i64 c] w fun e w' => e = .returned (.bool true) ∧ Ext w w' := by
  have hr : rillref17_Of.f a b c = some (ofT a b c) := of_eq a b c
  have HR := Lib.hid hr
  clear hr
  go_enter Try.func3, Try.ntmps3
  go_wp2_with fail
  refine (of_calls _ _ _ _).mono ?_
  rintro e w1 ⟨rfl, hE1⟩
  go_wp2_with fail
  refine (rillref17_Of.calls _ _ _ _ _ HR.out).mono ?_
  rintro e w2 ⟨rfl, hE⟩
  have hE2 := hE1.trans hE.below
  clear hE hE1
  go_wp2_with fail
  refine (known_calls _).mono ?_
  rintro e w3 ⟨rfl, hE⟩
  have hE3 := hE2.trans hE
  clear hE hE2
  go_wp2
  go_ret
  exact ⟨rfl, hE3⟩
end Go.Proofs.Ythdcalneejhdgaa.Laws
