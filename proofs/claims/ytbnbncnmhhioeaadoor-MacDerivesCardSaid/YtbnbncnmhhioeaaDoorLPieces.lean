/- ShaOf. -/
import Derived.Test.YtbnbncnmhhioeaaDoorSKnown
namespace Go.Proofs.YtbnbncnmhhioeaaDoor.By
open Go.RowKit Go.Proofs.YtbnbncnmhhioeaaDoor.Reg Go.Proofs.YtbnbncnmhhioeaaDoorW.PrintWords Go.Proofs.YtbnbncnmhhioeaaDoorW.PrintLast Go.Proofs.YtbnbncnmhhioeaaDoorW.PrintMore
set_option linter.unusedVariables false

theorem shaD (l : List Int) : ∃ D, D = shaF l ∧ ∀ W : World, (Op.equal 26 (sumV D) (sumV D)).run Tryd.prog W = .ok true W :=
  ⟨_, rfl, fun W => by have := equal_sum (shaF l) (shaF l) (sha_len l) (sha_len l) (sha_isB l) (sha_isB l) W; rwa [show decide (shaF l = shaF l) = true by simp] at this⟩

set_option maxRecDepth 100000 in
set_option maxHeartbeats 8000000 in
theorem lof_calls (w : World) (A : Option Addr) (c n : Nat) (bs : List Int) (hn : n = bs.length) (hT0 : Tab 0 w) (hT1 : Tab 1 w) (h2 : 2 ≤ w.heap.size) (hr : Kd.C kb w A n bs) (hc : n ≤ c) :
    Calls Tryd.prog 3 #[.slice A n c] w fun e w' => e = .returned (.bool true) ∧ Ext w w' := by
  have HR := Aside0.mk hr
  have HN := Aside0.mk hn
  have HT0 := Aside0.mk hT0
  have HT1 := Aside0.mk hT1
  have H2 := Aside0.mk h2
  clear hr hn hT0 hT1 h2
  by_cases hbig : n > 65536
  · have hz : ((65536 : Int) < (n : Int)) = True := eq_true (by omega)
    go_enter Tryd.func3, Tryd.ntmps3
    go_wp2_with fail
    refine (known_calls _ HT1.out H2.out).mono ?_
    rintro e w1 ⟨rfl, hE⟩
    have HE := Aside0.mk hE
    clear hE
    go_wp2
    go_ret
    exact ⟨rfl, HE.out⟩
  have hz : ((65536 : Int) < (n : Int)) = False := eq_false (by omega)
  have hsm : n ≤ 65536 := by omega
  obtain ⟨i0, hi0, _, hsz, _⟩ := info_parts PShaAdds.info5
  obtain ⟨D, hD, hQ⟩ := shaD bs
  have HD := Aside0.mk hD
  have HQ := Aside0.mk hQ
  clear hbig hD hQ
  go_enter Tryd.func3, Tryd.ntmps3
  go_wp2_with fail
  refine (lent_at w A c n bs HN.out HR.out hc (by omega)).mono ?_
  rintro e w1 ⟨B, d, rfl, hNB, hd, hCB, hCI, hE1⟩
  have HCB := Aside0.mk hCB
  have HCI := Aside0.mk hCI
  have HE1 := Aside0.mk hE1
  have hcut := cut_to (P := Tryd.prog) 22 5 .i64 Tryd.underlying22 hi0 B (n + 5) d (n : Int) (by omega) (by omega) hd
  rw [Int.toNat_natCast] at hcut
  clear hNB hCB hCI hi0 hsz hE1
  have hnd : n ≤ d := by omega
  go_wp2_with fail
  refine (of_calls w1 B d n bs HN.out (HT1.out.ext HE1.out) HCI.out hnd (by omega) (Nat.le_trans H2.out HE1.out.size)).mono ?_
  rintro e w2 ⟨rfl, hE2⟩
  rw [← HD.out]
  have HE2 := Aside0.mk (HE1.out.trans hE2)
  have HCB2 := Aside0.mk (Kd.C_below HCB.out hE2)
  clear hE2 hcut HE1 HCB HCI
  go_wp2_with fail
  refine (rof_calls w2 A c n bs HN.out (HT0.out.ext HE2.out) (Kd.C_below HR.out HE2.out) hc (by omega)).mono ?_
  rintro e w3 ⟨rfl, hE3⟩
  rw [← HD.out]
  have HE3 := Aside0.mk (HE2.out.trans hE3)
  have HCB3 := Aside0.mk (Kd.C_below HCB2.out hE3)
  clear hE3 HE2 HCB2
  go_wp2_with (first | ((with_reducible refine gate_eql (ty := 26) rfl ?_); (refine eql_at rfl 26 26 _ _ rfl (nums .u8 D).toArray (nums .u8 D).toArray rfl rfl (by kernel_rfl) true (HQ.out _) ?_)) | fail)
  refine (kept_n w3 B A d c n bs HN.out HCB3.out hd (Kd.C_below HR.out HE3.out) hc (by omega)).mono ?_
  rintro e w4 ⟨rfl, hE4⟩
  have HE4 := Aside0.mk (HE3.out.trans hE4)
  clear hE4 HE3
  go_wp2
  go_ret
  exact ⟨rfl, HE4.out⟩
end Go.Proofs.YtbnbncnmhhioeaaDoor.By

/- ShaPieces. -/
namespace Go.Proofs.YtbnbncnmhhioeaaDoor.By
open Go.RowKit Go.Proofs.YtbnbncnmhhioeaaDoor.Reg Go.Proofs.YtbnbncnmhhioeaaDoorW.PrintWords Go.Proofs.YtbnbncnmhhioeaaDoorW.PrintLast Go.Proofs.YtbnbncnmhhioeaaDoorW.PrintMore
set_option linter.unusedVariables false

theorem Yld_eql {P : Program} {w : World} {o : Oper} {a : Act} (t yt : TypeId) (x y : Operand) (ho : o.op = .binOp .eql t x y yt) (xs ys : Array Value) (hx : a.eval x = .agg xs) (hy : a.eval y = .agg ys) (hg : P.eqGuardType P.depth t = false) (r : Bool) (he : (Op.equal t (.agg xs) (.agg ys)).run P w = .ok r w) :
    Yld P o a w (.val (.bool r)) := by
  unfold Yld
  rw [run_eql t yt x y ho xs ys hx hy hg r he]
  exact ⟨Ext.refl _, rfl⟩
theorem cutM (A : Option Addr) (L c : Nat) (xs : List Int) (m m2 : Nat) (hL : L = xs.length) (hc : L ≤ c) (h1 : m ≤ m2) (h2 : m2 ≤ L) :
    ∃ AB cB, (∀ W : World, (Instr.slice 22 (.slice A L c) (some (.int .i64 (m : Int))) (some (.int .i64 (m2 : Int))) none).run Tryd.prog W = .ok (.slice AB (m2 - m) cB) W) ∧ m2 - m ≤ cB ∧ ∀ W, Kd.C kb W A L xs → Kd.C kb W AB (m2 - m) ((xs.take m2).drop m) := by
  subst hL
  obtain ⟨i0, hi0, _, hsz, _⟩ := info_parts PShaAdds.info5
  have hcut := cut_mid (P := Tryd.prog) 22 5 .i64 .i64 Tryd.underlying22 hi0 1 hsz A xs.length c (m : Int) (m2 : Int) (by omega) (by omega) (by omega) hc
  rw [Int.toNat_natCast, Int.toNat_natCast] at hcut
  refine ⟨_, _, hcut, by omega, fun W hC => ?_⟩
  have h3 := Kd.C_mid (lo := m) (hi := m2) hC h1 h2 hc
  have e2 : ((xs.take m2).drop m).length = m2 - m := by rw [List.length_drop, List.length_take]; omega
  rwa [e2] at h3
/-- Add, of bytes that lay there before. -/
theorem add_old (w w1 : World) (lo b : Nat) (bs xs : List Int) (V : Value) (A : Option Addr) (c n : Nat) (h2 : 2 ≤ w.heap.size) (hlo : w.heap.size ≤ lo) (hn : n = xs.length) (hH : Hs w1 lo b bs V) (hE : Ext w w1) (hT : Tab 1 w) (hr : Kd.C kb w A n xs) (hc : n ≤ c) (hl : bs.length + n ≤ 1099511627776) :
    Calls Tryd.prog 20 #[.pointer (some ⟨b, 0, none⟩), .slice A n c] w1 fun e w' => e = .returned (.tuple #[]) ∧ ∃ V', Hs w' lo b (bs ++ xs) V' ∧ Ext w w' ∧ Fr w1 w' (fun k => k = b ∨ V.ownBlock = some k) ∧ ∀ k, V'.ownBlock = some k → w1.heap.size ≤ k := by
  have hvlo : ∀ k, V.ownBlock = some k → lo ≤ k := fun k hk => own_base (Kd.own_of_R hH.2.2) k hk
  have hlb := hH.1
  refine (add_calls w1 lo b bs xs V A c n (by omega) hn hH (hT.ext hE) (Kd.C_below hr hE) hc hl (fun a ha hp => ?_)).mono fun e w' h => ?_
  · obtain ⟨ad, e, h⟩ := at_k hr 0 (by decide) (by omega)
    subst ha
    obtain rfl := Option.some.inj e
    have := World.block_lt_of_cell? w _ h
    have e2 : (a.add (0 : Int).toNat).block = a.block := by unfold Addr.add; split <;> rfl
    omega
  · obtain ⟨h1, V', h3, h4, h5⟩ := h
    exact ⟨h1, V', h3, h4.ext hE (fun k hk => by rcases hk with rfl | hk; exact Nat.le_trans hlo hlb; exact Nat.le_trans hlo (hvlo k hk)), h4, h5⟩
theorem pick_at (k n : Int) (h0 : -9223372036854775808 ≤ k) (h1 : k ≤ 9223372036854775807) (h2 : 1 ≤ n) (h3 : n ≤ 9223372036854775807) (w : World) :
    Calls Tryd.prog 23 #[.int .i64 k, .int .i64 n] w fun e w' => ∃ r : Nat, (r : Int) < n ∧ e = .returned (.int .i64 r) ∧ Ext w w' := by
  have hr := pickT_range k n h2
  refine (pick_calls w k n _ h0 h1 h3 rfl).mono fun e w' h => ⟨(pickT k n).toNat, by omega, ?_, h.2⟩
  rw [h.1, Int.toNat_of_nonneg hr.1]

set_option maxRecDepth 100000 in
set_option maxHeartbeats 16000000 in
theorem lpieces_calls (w : World) (A : Option Addr) (c n : Nat) (bs : List Int) (i k : Int) (hn : n = bs.length) (hT1 : Tab 1 w) (h2 : 2 ≤ w.heap.size) (hr : Kd.C kb w A n bs) (hc : n ≤ c) (hi : -9223372036854775808 ≤ i ∧ i ≤ 9223372036854775807) (hk : -9223372036854775808 ≤ k ∧ k ≤ 9223372036854775807) :
    Calls Tryd.prog 5 #[.slice A n c, .int .i64 i, .int .i64 k] w fun e w' => e = .returned (.bool true) ∧ Ext w w' := by
  have HR := Aside0.mk hr
  have HN := Aside0.mk hn
  have HT1 := Aside0.mk hT1
  have H2 := Aside0.mk h2
  have HIK := Aside0.mk (And.intro hi hk)
  clear hr hn hT1 h2 hi hk
  by_cases hbig : n > 4096
  · have hz : ((4096 : Int) < (n : Int)) = True := eq_true (by omega)
    go_enter Tryd.func5, Tryd.ntmps5
    go_wp2_with fail
    refine (known_calls _ HT1.out H2.out).mono ?_
    rintro e w1 ⟨rfl, hE⟩
    have HE := Aside0.mk hE
    clear hE
    go_wp2
    go_ret
    exact ⟨rfl, HE.out⟩
  have hz : ((4096 : Int) < (n : Int)) = False := eq_false (by omega)
  have hsm : n ≤ 4096 := by omega
  clear hbig
  go_enter Tryd.func5, Tryd.ntmps5
  go_wp2_with fail
  refine (pick_at i ((n : Int) + 1) HIK.out.1.1 HIK.out.1.2 (by omega) (by omega) _).mono ?_
  rintro e w1 ⟨I, hI, rfl, hE1⟩
  have hI' : I ≤ n := by omega
  have HE1 := Aside0.mk hE1
  clear hE1 hI
  go_wp2_with fail
  refine (pick_at k ((n : Int) - (I : Int) + 1) HIK.out.2.1 HIK.out.2.2 (by omega) (by omega) _).mono ?_
  rintro e w2 ⟨J0, hJ, rfl, hE2⟩
  obtain ⟨J, hJe⟩ : ∃ J, J = I + J0 := ⟨_, rfl⟩
  have hJc : (I : Int) + (J0 : Int) = (J : Int) := by omega
  have hIJ : I ≤ J := by omega
  have hJn : J ≤ n := by omega
  have HE2 := Aside0.mk (HE1.out.trans hE2)
  have HJC := Aside0.mk hJc
  clear hE2 hJ hJe HE1
  go_wp2_with fail
  try rw [hJc]
  clear hJc
  refine (new_calls w2).mono ?_
  rintro e w3 ⟨rfl, hH, hE3⟩
  have hlo : w.heap.size ≤ w2.heap.size := HE2.out.size
  generalize w2.heap.size = b at hH hlo ⊢
  have HLO := Aside0.mk hlo
  have HH3 := Aside0.mk hH
  have HE3 := Aside0.mk (HE2.out.trans hE3)
  have hnl := HN.out
  obtain ⟨i0, hi0, _, hsz, _⟩ := info_parts PShaAdds.info5
  have hcut1 := cut_to (P := Tryd.prog) 22 5 .i64 Tryd.underlying22 hi0 A n c (I : Int) (by omega) (by omega) hc
  rw [Int.toNat_natCast] at hcut1
  have hcut4 := cut_to (P := Tryd.prog) 22 5 .i64 Tryd.underlying22 hi0 A n c (J : Int) (by omega) (by omega) hc
  rw [Int.toNat_natCast] at hcut4
  obtain ⟨AB, cB, hcut2, hcB, hCB⟩ := cutM A n c bs I J hnl hc hIJ hJn
  obtain ⟨AF, cF, hcut3, hcF, hCF⟩ := cutF A n c bs J hnl hc hJn (J : Int) rfl
  have lI : (bs.take I).length = I := by rw [List.length_take]; omega
  have lJ : (bs.take J).length = J := by rw [List.length_take]; omega
  have HC1 := Aside0.mk (show Kd.C kb w A I (bs.take I) by have h := Kd.C_take (m := I) (hnl ▸ HR.out) (by omega); rwa [lI] at h)
  have HC4 := Aside0.mk (show Kd.C kb w A J (bs.take J) by have h := Kd.C_take (m := J) (hnl ▸ HR.out) (by omega); rwa [lJ] at h)
  have HC2 := Aside0.mk (hCB w HR.out)
  have HC3 := Aside0.mk (hCF w HR.out)
  have HL1 := Aside0.mk lI
  have HLJ := Aside0.mk lJ
  have HL2 := Aside0.mk (show J - I = ((bs.take J).drop I).length by rw [List.length_drop, lJ])
  have HL3 := Aside0.mk (show n - J = (bs.drop J).length by rw [List.length_drop, hnl])
  have HA2 := Aside0.mk (show bs.take I ++ (bs.take J).drop I = bs.take J by
    conv => rhs; rw [← List.take_append_drop I (bs.take J), List.take_take, Nat.min_eq_left hIJ])
  obtain ⟨DJ, hDJ, hQJ⟩ := shaD (bs.take J)
  obtain ⟨D, hD, hQ⟩ := shaD bs
  have HDJ := Aside0.mk hDJ
  have HD := Aside0.mk hD
  have HQJ := Aside0.mk hQJ
  have HQ := Aside0.mk hQ
  have HIJ := Aside0.mk (show (Tryd.prog.info? 26).map (·.size) = some (nums .u8 DJ).length by rw [nums_length, hDJ, sha_len]; kernel_rfl)
  have HSJ := Aside0.mk (show (nums .u8 zs).toArray.size = (nums .u8 DJ).length by rw [nums_length, hDJ, sha_len]; rfl)
  have hIc : I ≤ c := by omega
  have hJc2 : J ≤ c := by omega
  have HNS := Aside0.mk (And.intro hsm (And.intro hI' (And.intro hIJ hJn)))
  clear hH hE3 hlo HE2 hi0 hsz hCB hCF lI lJ hDJ hD hQJ hQ hnl HJC
  go_wp2_with fail
  refine (add_old w w3 b b [] (bs.take I) _ A c I H2.out HLO.out HL1.out.symm HH3.out HE3.out HT1.out HC1.out hIc (by have := HNS.out; simp; omega)).mono ?_
  rintro e w4 ⟨rfl, V4, hH4, hE4, _, _⟩
  rw [List.nil_append] at hH4
  have HH4 := Aside0.mk hH4
  have HE4 := Aside0.mk hE4
  clear hH4 hE4 HH3 HE3 hcut1
  go_wp2_with fail
  refine (hsum_calls w4 b b (bs.take I) V4 HH4.out (HT1.out.ext HE4.out) (by rw [HL1.out]; have := HNS.out; omega)).mono ?_
  rintro e w5 ⟨rfl, hE5⟩
  have HH5 := Aside0.mk (HH4.out.ext hE5)
  have HE5 := Aside0.mk (HE4.out.trans hE5)
  clear hE5 HH4 HE4
  generalize shaF (bs.take I) = DI
  go_wp2_with fail
  refine (add_old w w5 b b (bs.take I) ((bs.take J).drop I) V4 AB cB (J - I) H2.out HLO.out HL2.out HH5.out HE5.out HT1.out HC2.out hcB (by rw [HL1.out]; have := HNS.out; omega)).mono ?_
  rintro e w6 ⟨rfl, V6, hH6, hE6, _, _⟩
  rw [HA2.out] at hH6
  have HH6 := Aside0.mk hH6
  have HE6 := Aside0.mk hE6
  clear hH6 hE6 HH5 HE5 hcut2 HA2
  go_wp2_with fail
  refine (hsum_calls w6 b b (bs.take J) V6 HH6.out (HT1.out.ext HE6.out) (by rw [HLJ.out]; have := HNS.out; omega)).mono ?_
  rintro e w7 ⟨rfl, hE7⟩
  rw [← HDJ.out]
  have HH7 := Aside0.mk (HH6.out.ext hE7)
  have HE7 := Aside0.mk (HE6.out.trans hE7)
  clear hE7 HH6 HE6
  go_wp2_with (first | ((with_reducible refine gate_store (ty := 26) rfl ?_); (refine store_at rfl 26 _ _ rfl w7.heap.size (nums .u8 DJ) rfl rfl _ 26 (Blk.new w7 #[Value.int .u8 0, Value.int .u8 0, Value.int .u8 0, Value.int .u8 0, Value.int .u8 0, Value.int .u8 0, Value.int .u8 0, Value.int .u8 0, Value.int .u8 0, Value.int .u8 0, Value.int .u8 0, Value.int .u8 0, Value.int .u8 0, Value.int .u8 0, Value.int .u8 0, Value.int .u8 0, Value.int .u8 0, Value.int .u8 0, Value.int .u8 0, Value.int .u8 0, Value.int .u8 0, Value.int .u8 0, Value.int .u8 0, Value.int .u8 0, Value.int .u8 0, Value.int .u8 0, Value.int .u8 0, Value.int .u8 0, Value.int .u8 0, Value.int .u8 0, Value.int .u8 0, Value.int .u8 0] 26) HSJ.out HIJ.out (one_cells _ _) ?_)) | fail)
  intro w8 hW8 hB8
  have hx8 := hW8.ext ((Ext.refl w7).alloc _) (Nat.le_refl _)
  have HH8 := Aside0.mk (HH7.out.ext hx8)
  have HE8 := Aside0.mk (HE7.out.trans hx8)
  have HB8 := Aside0.mk hB8
  have HNE := Aside0.mk (show ¬ (w7.heap.size = b ∨ V6.ownBlock = some w7.heap.size) from fun h => by
    rcases h with h | h
    · have := HH7.out.2.1.lt; omega
    · have := own_lt (Kd.own_of_R HH7.out.2.2) _ h; omega)
  clear hW8 hB8 hx8 HH7 HE7
  go_wp2_with fail
  refine (add_old w w8 b b (bs.take J) (bs.drop J) V6 AF cF (n - J) H2.out HLO.out HL3.out HH8.out HE8.out HT1.out HC3.out hcF (by rw [HLJ.out]; have := HNS.out; omega)).mono ?_
  rintro e w9 ⟨rfl, V9, hH9, hE9, hF9, _⟩
  rw [List.take_append_drop] at hH9
  have HH9 := Aside0.mk hH9
  have HE9 := Aside0.mk hE9
  have HB9 := Aside0.mk (hF9.blk HB8.out HNE.out)
  clear hH9 hE9 hF9 HH8 HE8 HB8 hcut3 HNE
  have hz9 : 2 ≤ w9.heap.size := Nat.le_trans H2.out HE9.out.size
  have HZ9 := Aside0.mk hz9
  clear hz9
  go_wp2_with fail
  apply wp_region_facts 23 [RF.val (.agg (nums .u8 DJ).toArray), RF.val (.slice A n c), RF.val (.int .i64 J), RF.val (.slice A J c), RF.val (.agg (nums .u8 DJ).toArray), RF.val (.bool true), RF.val (.bool true), RF.val (.pointer (some ⟨b, 0, none⟩)), RF.val (.agg (nums .u8 D).toArray), RF.val (.slice A n c), RF.val (.agg (nums .u8 D).toArray), RF.val (.bool true), RF.val (.bool true), RF.val (.bool true), RF.val (.pointer (some ⟨b, 0, none⟩)), RF.val (.agg (nums .u8 D).toArray), RF.val (.pointer (some ⟨b, 0, none⟩)), RF.val (.agg (nums .u8 D).toArray), RF.val (.bool true), RF.val (.bool true), RF.val (.bool true), RF.val (.bool true), RF.val (.bool true)] (by kernel_rfl) (by kernel_rfl)
  simp only [List.take_succ_cons, List.take_zero, List.zip_cons_cons, List.zip_nil_left]
  (first | apply wpF_val rfl | apply wpF_valg (by rfl)); (intro w' hE hD; exact Yld_load 26 (.tmp 8) rfl w7.heap.size 0 rfl (nums .u8 DJ) _ ((HB9.out.ext hE).range 0 _ [] (by simp)) Tryd.underlying26 rfl HIJ.out); (try simp only [Act.put, List.setIfInBounds_toArray, List.set_cons_zero, List.set_cons_succ])
  (first | apply wpF_val rfl | apply wpF_valg (by rfl)); (intro w' hE hD; unfold Yld; go_simp; exact ⟨Ext.refl _, rfl⟩); (try simp only [Act.put, List.setIfInBounds_toArray, List.set_cons_zero, List.set_cons_succ])
  (first | apply wpF_val rfl | apply wpF_valg (by rfl)); (intro w' hE hD; unfold Yld; go_simp; exact ⟨Ext.refl _, rfl⟩); (try simp only [Act.put, List.setIfInBounds_toArray, List.set_cons_zero, List.set_cons_succ])
  (first | apply wpF_val rfl | apply wpF_valg (by rfl)); (intro w' hE hD; unfold Yld; go_simp; exact ⟨Ext.refl _, rfl⟩); (try simp only [Act.put, List.setIfInBounds_toArray, List.set_cons_zero, List.set_cons_succ])
  (first | apply wpF_val rfl | apply wpF_valg (by rfl)); (intro w' hE hD; unfold Yld; go_simp; exact (of_calls w' A c J (bs.take J) HLJ.out.symm (HT1.out.ext (HE9.out.trans hE)) (Kd.C_below HC4.out (HE9.out.trans hE)) hJc2 (by have := HNS.out; omega) (Nat.le_trans HZ9.out hE.size)).mono fun e w2 h => ⟨_, h.1, h.2, by rw [← HDJ.out]; rfl⟩); (try simp only [Act.put, List.setIfInBounds_toArray, List.set_cons_zero, List.set_cons_succ])
  (first | apply wpF_val rfl | apply wpF_valg (by rfl)); (intro w' hE hD; exact Yld_eql 26 26 (.tmp 48) (.tmp 52) rfl (nums .u8 DJ).toArray (nums .u8 DJ).toArray rfl rfl (by kernel_rfl) true (HQJ.out _)); (try simp only [Act.put, List.setIfInBounds_toArray, List.set_cons_zero, List.set_cons_succ])
  (first | apply wpF_val rfl | apply wpF_valg (by rfl)); (intro w' hE hD; unfold Yld; go_simp; exact ⟨Ext.refl _, rfl⟩); (try simp only [Act.put, List.setIfInBounds_toArray, List.set_cons_zero, List.set_cons_succ])
  (first | apply wpF_val rfl | apply wpF_valg (by rfl)); (intro w' hE hD; unfold Yld; go_simp; exact ⟨Ext.refl _, rfl⟩); (try simp only [Act.put, List.setIfInBounds_toArray, List.set_cons_zero, List.set_cons_succ])
  (first | apply wpF_val rfl | apply wpF_valg (by rfl)); (intro w' hE hD; unfold Yld; go_simp; exact (hsum_calls w' b b bs V9 (HH9.out.ext hE) (HT1.out.ext (HE9.out.trans hE)) (by rw [← HN.out]; have := HNS.out; omega)).mono fun e w2 h => ⟨_, h.1, h.2, by rw [← HD.out]; rfl⟩); (try simp only [Act.put, List.setIfInBounds_toArray, List.set_cons_zero, List.set_cons_succ])
  (first | apply wpF_val rfl | apply wpF_valg (by rfl)); (intro w' hE hD; unfold Yld; go_simp; exact ⟨Ext.refl _, rfl⟩); (try simp only [Act.put, List.setIfInBounds_toArray, List.set_cons_zero, List.set_cons_succ])
  (first | apply wpF_val rfl | apply wpF_valg (by rfl)); (intro w' hE hD; unfold Yld; go_simp; exact (of_calls w' A c n bs HN.out (HT1.out.ext (HE9.out.trans hE)) (Kd.C_below HR.out (HE9.out.trans hE)) hc (by have := HNS.out; omega) (Nat.le_trans HZ9.out hE.size)).mono fun e w2 h => ⟨_, h.1, h.2, by rw [← HD.out]; rfl⟩); (try simp only [Act.put, List.setIfInBounds_toArray, List.set_cons_zero, List.set_cons_succ])
  (first | apply wpF_val rfl | apply wpF_valg (by rfl)); (intro w' hE hD; exact Yld_eql 26 26 (.tmp 56) (.tmp 58) rfl (nums .u8 D).toArray (nums .u8 D).toArray rfl rfl (by kernel_rfl) true (HQ.out _)); (try simp only [Act.put, List.setIfInBounds_toArray, List.set_cons_zero, List.set_cons_succ])
  (first | apply wpF_val rfl | apply wpF_valg (by rfl)); (intro w' hE hD; unfold Yld; go_simp; exact ⟨Ext.refl _, rfl⟩); (try simp only [Act.put, List.setIfInBounds_toArray, List.set_cons_zero, List.set_cons_succ])
  (first | apply wpF_val rfl | apply wpF_valg (by rfl)); (intro w' hE hD; unfold Yld; go_simp; exact ⟨Ext.refl _, rfl⟩); (try simp only [Act.put, List.setIfInBounds_toArray, List.set_cons_zero, List.set_cons_succ])
  (first | apply wpF_val rfl | apply wpF_valg (by rfl)); (intro w' hE hD; unfold Yld; go_simp; exact ⟨Ext.refl _, rfl⟩); (try simp only [Act.put, List.setIfInBounds_toArray, List.set_cons_zero, List.set_cons_succ])
  (first | apply wpF_val rfl | apply wpF_valg (by rfl)); (intro w' hE hD; unfold Yld; go_simp; exact (hsum_calls w' b b bs V9 (HH9.out.ext hE) (HT1.out.ext (HE9.out.trans hE)) (by rw [← HN.out]; have := HNS.out; omega)).mono fun e w2 h => ⟨_, h.1, h.2, by rw [← HD.out]; rfl⟩); (try simp only [Act.put, List.setIfInBounds_toArray, List.set_cons_zero, List.set_cons_succ])
  (first | apply wpF_val rfl | apply wpF_valg (by rfl)); (intro w' hE hD; unfold Yld; go_simp; exact ⟨Ext.refl _, rfl⟩); (try simp only [Act.put, List.setIfInBounds_toArray, List.set_cons_zero, List.set_cons_succ])
  (first | apply wpF_val rfl | apply wpF_valg (by rfl)); (intro w' hE hD; unfold Yld; go_simp; exact (hsum_calls w' b b bs V9 (HH9.out.ext hE) (HT1.out.ext (HE9.out.trans hE)) (by rw [← HN.out]; have := HNS.out; omega)).mono fun e w2 h => ⟨_, h.1, h.2, by rw [← HD.out]; rfl⟩); (try simp only [Act.put, List.setIfInBounds_toArray, List.set_cons_zero, List.set_cons_succ])
  (first | apply wpF_val rfl | apply wpF_valg (by rfl)); (intro w' hE hD; exact Yld_eql 26 26 (.tmp 63) (.tmp 65) rfl (nums .u8 D).toArray (nums .u8 D).toArray rfl rfl (by kernel_rfl) true (HQ.out _)); (try simp only [Act.put, List.setIfInBounds_toArray, List.set_cons_zero, List.set_cons_succ])
  (first | apply wpF_val rfl | apply wpF_valg (by rfl)); (intro w' hE hD; unfold Yld; go_simp; exact ⟨Ext.refl _, rfl⟩); (try simp only [Act.put, List.setIfInBounds_toArray, List.set_cons_zero, List.set_cons_succ])
  (first | apply wpF_val rfl | apply wpF_valg (by rfl)); (intro w' hE hD; unfold Yld; go_simp; exact ⟨Ext.refl _, rfl⟩); (try simp only [Act.put, List.setIfInBounds_toArray, List.set_cons_zero, List.set_cons_succ])
  (first | apply wpF_val rfl | apply wpF_valg (by rfl)); (intro w' hE hD; unfold Yld; go_simp; exact (known_calls w' (HT1.out.ext (HE9.out.trans hE)) (Nat.le_trans HZ9.out hE.size)).mono fun e w2 h => ⟨_, h.1, h.2, rfl⟩); (try simp only [Act.put, List.setIfInBounds_toArray, List.set_cons_zero, List.set_cons_succ])
  (first | apply wpF_val rfl | apply wpF_valg (by rfl)); (intro w' hE hD; unfold Yld; go_simp; exact ⟨Ext.refl _, rfl⟩); (try simp only [Act.put, List.setIfInBounds_toArray, List.set_cons_zero, List.set_cons_succ])
  refine wpF_nil fun wf hE hA => ?_
  have HEF := Aside0.mk (HE9.out.trans hE)
  clear hA hE HE9 HH9 HB9
  simp only [List.drop_succ_cons, List.drop_zero]
  go_wp2
  go_ret
  exact ⟨rfl, HEF.out⟩
end Go.Proofs.YtbnbncnmhhioeaaDoor.By
