/- ShaOf. -/
import Derived.Test.YtbnbncnmhhioeaaDoorSKnown
namespace Go.Proofs.YtbnbncnmhhioeaaDoor.By
open Go.RowKit Go.Proofs.YtbnbncnmhhioeaaDoor.Reg Go.Proofs.YtbnbncnmhhioeaaDoorW.PrintWords Go.Proofs.YtbnbncnmhhioeaaDoorW.PrintLast Go.Proofs.YtbnbncnmhhioeaaDoorW.PrintMore
set_option linter.unusedVariables false

theorem shaD (l : List Int) : ∃ D, D = shaF l ∧ ∀ W : World, (Op.equal 26 (sumV D) (sumV D)).run Tryd.prog W = .ok true W :=
  ⟨_, rfl, fun W => by have := equal_sum (shaF l) (shaF l) (sha_len l) (sha_len l) (sha_isB l) (sha_isB l) W; rwa [show decide (shaF l = shaF l) = true by simp] at this⟩

set_option maxRecDepth 100000 in
set_option maxHeartbeats 8000000 in
theorem lof_calls (w : World) (A : Option Addr) (c n : Nat) (bs : List Int) (hn : n = bs.length) (hT0 : Tab 0 w) (hT1 : Tab 1 w) (h2 : 2 ≤ w.heap.size) (hr : Kd.C kb w A n bs) (hc : n ≤ c) :
    Calls Tryd.prog 3 #[.slice A n c] w fun e w' => e = .returned (.bool true) ∧ Ext w w' := by
  have HR := Aside0.mk hr
  have HN := Aside0.mk hn
  have HT0 := Aside0.mk hT0
  have HT1 := Aside0.mk hT1
  have H2 := Aside0.mk h2
  clear hr hn hT0 hT1 h2
  by_cases hbig : n > 65536
  · have hz : ((65536 : Int) < (n : Int)) = True := eq_true (by omega)
    go_enter Tryd.func3, Tryd.ntmps3
    go_wp2_with fail
    refine (known_calls _ HT1.out H2.out).mono ?_
    rintro e w1 ⟨rfl, hE⟩
    have HE := Aside0.mk hE
    clear hE
    go_wp2
    go_ret
    exact ⟨rfl, HE.out⟩
  have hz : ((65536 : Int) < (n : Int)) = False := eq_false (by omega)
  have hsm : n ≤ 65536 := by omega
  obtain ⟨i0, hi0, _, hsz, _⟩ := info_parts PShaAdds.info5
  obtain ⟨D, hD, hQ⟩ := shaD bs
  have HD := Aside0.mk hD
  have HQ := Aside0.mk hQ
  clear hbig hD hQ
  go_enter Tryd.func3, Tryd.ntmps3
  go_wp2_with fail
  refine (lent_at w A c n bs HN.out HR.out hc (by omega)).mono ?_
  rintro e w1 ⟨B, d, rfl, hNB, hd, hCB, hCI, hE1⟩
  have HCB := Aside0.mk hCB
  have HCI := Aside0.mk hCI
  have HE1 := Aside0.mk hE1
  have hcut := cut_to (P := Tryd.prog) 22 5 .i64 Tryd.underlying22 hi0 B (n + 5) d (n : Int) (by omega) (by omega) hd
  rw [Int.toNat_natCast] at hcut
  clear hNB hCB hCI hi0 hsz hE1
  have hnd : n ≤ d := by omega
  go_wp2_with fail
  refine (of_calls w1 B d n bs HN.out (HT1.out.ext HE1.out) HCI.out hnd (by omega) (Nat.le_trans H2.out HE1.out.size)).mono ?_
  rintro e w2 ⟨rfl, hE2⟩
  rw [← HD.out]
  have HE2 := Aside0.mk (HE1.out.trans hE2)
  have HCB2 := Aside0.mk (Kd.C_below HCB.out hE2)
  clear hE2 hcut HE1 HCB HCI
  go_wp2_with fail
  refine (rof_calls w2 A c n bs HN.out (HT0.out.ext HE2.out) (Kd.C_below HR.out HE2.out) hc (by omega)).mono ?_
  rintro e w3 ⟨rfl, hE3⟩
  rw [← HD.out]
  have HE3 := Aside0.mk (HE2.out.trans hE3)
  have HCB3 := Aside0.mk (Kd.C_below HCB2.out hE3)
  clear hE3 HE2 HCB2
  go_wp2_with (first | ((with_reducible refine gate_eql (ty := 26) rfl ?_); (refine eql_at rfl 26 26 _ _ rfl (nums .u8 D).toArray (nums .u8 D).toArray rfl rfl (by kernel_rfl) true (HQ.out _) ?_)) | fail)
  refine (kept_n w3 B A d c n bs HN.out HCB3.out hd (Kd.C_below HR.out HE3.out) hc (by omega)).mono ?_
  rintro e w4 ⟨rfl, hE4⟩
  have HE4 := Aside0.mk (HE3.out.trans hE4)
  clear hE4 HE3
  go_wp2
  go_ret
  exact ⟨rfl, HE4.out⟩
end Go.Proofs.YtbnbncnmhhioeaaDoor.By
