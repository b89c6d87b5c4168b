/- Layer 8: CountMakes and CountOrders. -/
import Derived.Test.YtkgjcmolmogpdaaCe
namespace Go.Proofs.Ytkgjcmolmogpdaa.By
open Go.RowKit Go.Proofs.Ytkgjcmolmogpdaa.Reg Go.Proofs.YtkgjcmolmogpdaaW.PrintWords Go.Proofs.YtkgjcmolmogpdaaW.PrintLast Go.Proofs.YtkgjcmolmogpdaaW.PrintMore
set_option linter.unusedVariables false
set_option linter.unusedSimpArgs false


theorem Ext.bel {w w' : World} (h : Ext w w') : Below w.heap.size w w' := h
set_option maxRecDepth 100000 in
set_option maxHeartbeats 2000000 in
theorem cmakes_calls (w : World) (a b v : Int) (hv : v ≤ 9223372036854775807) : Calls Try.prog 9 #[.int .i64 a, .int .i64 b, .int .i64 v] w fun e w' => e = .returned (.bool true) ∧ Ext w w' := by
  go_enter Try.func9, Try.ntmps9
  go_wp2_with fail
  refine (make_calls w a b).mono ?_
  rintro e w1 ⟨rfl, h1⟩
  go_wp2_with fail
  refine (rmake_calls w1 a b).mono ?_
  rintro e w2 ⟨rfl, h2⟩
  have E2 := h1.trans h2
  clear h1 h2
  go_wp2_with fail
  refine (level_calls w2 v).mono ?_
  rintro e w3 ⟨rfl, h1⟩
  have E3 := E2.trans h1
  clear E2 h1
  go_wp2_with fail
  refine (rlevel_calls w3 v hv).mono ?_
  rintro e w4 ⟨rfl, h1⟩
  have E4 := E3.trans h1
  clear E3 h1
  go_wp2_with fail
  refine (tries_calls w4 v hv).mono ?_
  rintro e w5 ⟨rfl, h1⟩
  have E5 := E4.trans h1
  clear E4 h1
  go_wp2_with fail
  refine (rtries_calls w5 v).mono ?_
  rintro e w6 ⟨rfl, h1⟩
  have E6 := E5.trans h1
  clear E5 h1
  go_wp2_with fail
  refine (works_calls w6).mono ?_
  rintro e w7 ⟨rfl, h1⟩
  have E7 := E6.trans h1
  clear E6 h1
  go_wp2
  go_ret
  exact ⟨rfl, E7⟩
def okF (l t : Int) : Prop := 0 ≤ l ∧ l ≤ 1099511627776 ∧ 0 ≤ t ∧ t < 1048576
theorem mk_eq {l t : Int} (h : okF l t) : makeF l t = l * 1048576 + t := by
  obtain ⟨a, b, c, d⟩ := h
  unfold makeF
  rw [cl_in a b, cl_in c (by omega)]
theorem mk_level {l t : Int} (h : okF l t) : levelF (makeF l t) = l := by
  rw [mk_eq h]
  obtain ⟨a, b, c, d⟩ := h
  unfold levelF up0
  rw [if_neg (by omega)]
  omega
theorem mk_tries {l t : Int} (h : okF l t) : triesF (makeF l t) = t := by
  rw [mk_eq h]
  obtain ⟨a, b, c, d⟩ := h
  unfold triesF up0
  rw [if_neg (by omega)]
  omega
theorem mk_r (l t : Int) : 0 ≤ makeF l t ∧ makeF l t ≤ 1152921504607895551 := by
  have ha := cl_r l 1099511627776 (by omega)
  have hb := cl_r t 1048575 (by omega)
  unfold makeF
  omega
theorem mk_lt {l t m u : Int} (h : okF l t) (h0 : 0 ≤ m) (h1 : m ≤ 1099511627776) (h2 : l < m) : makeF l t < makeF m u := by
  rw [mk_eq h]
  obtain ⟨a, b, c, d⟩ := h
  unfold makeF
  rw [cl_in h0 h1]
  have hb := cl_r u 1048575 (by omega)
  omega
theorem mk_next {l t : Int} (h : okF l t) (h1 : t + 1 < 1048576) : makeF l (t + 1) = makeF l t + 1 := by
  rw [mk_eq h, mk_eq ⟨h.1, h.2.1, by have := h.2.2.1; omega, h1⟩]
  omega
set_option maxRecDepth 100000 in
set_option maxHeartbeats 2000000 in
theorem ord_n0 (w : World) (l m t u : Int) (f0 : ¬ 0 ≤ l) : Calls Try.prog 10 #[.int .i64 l, .int .i64 m, .int .i64 t, .int .i64 u] w fun e w' => e = .returned (.bool true) ∧ Ext w w' := by
  have d0 : decide (0 ≤ l) = false := decide_eq_false f0
  have hx := mk_r l t
  have hx0 : decide (0 ≤ makeF l t) = true := decide_eq_true hx.1
  have hx1 : decide (makeF l t ≤ 1152921504607895551) = true := decide_eq_true hx.2
  go_enter Try.func10, Try.ntmps10
  go_wp2_with fail
  refine (make_calls w l t).mono ?_
  rintro e w1 ⟨rfl, h1⟩
  go_wp2_with fail
  refine (make_calls w1 m u).mono ?_
  rintro e w2 ⟨rfl, h2⟩
  have E2 := h1.trans h2
  clear h1 h2
  go_wp2_with fail
  refine (works_calls w2).mono ?_
  rintro e w7 ⟨rfl, h1⟩
  have E7 := E2.trans h1
  clear E2 h1
  go_wp2
  go_ret
  exact ⟨rfl, E7⟩
set_option maxRecDepth 100000 in
set_option maxHeartbeats 2000000 in
theorem ord_n1 (w : World) (l m t u : Int) (f0 : 0 ≤ l) (f1 : ¬ l ≤ 1099511627776) : Calls Try.prog 10 #[.int .i64 l, .int .i64 m, .int .i64 t, .int .i64 u] w fun e w' => e = .returned (.bool true) ∧ Ext w w' := by
  have d0 : decide (0 ≤ l) = true := decide_eq_true f0
  have d1 : decide (l ≤ 1099511627776) = false := decide_eq_false f1
  have hx := mk_r l t
  have hx0 : decide (0 ≤ makeF l t) = true := decide_eq_true hx.1
  have hx1 : decide (makeF l t ≤ 1152921504607895551) = true := decide_eq_true hx.2
  go_enter Try.func10, Try.ntmps10
  go_wp2_with fail
  refine (make_calls w l t).mono ?_
  rintro e w1 ⟨rfl, h1⟩
  go_wp2_with fail
  refine (make_calls w1 m u).mono ?_
  rintro e w2 ⟨rfl, h2⟩
  have E2 := h1.trans h2
  clear h1 h2
  go_wp2_with fail
  refine (works_calls w2).mono ?_
  rintro e w7 ⟨rfl, h1⟩
  have E7 := E2.trans h1
  clear E2 h1
  go_wp2
  go_ret
  exact ⟨rfl, E7⟩
set_option maxRecDepth 100000 in
set_option maxHeartbeats 2000000 in
theorem ord_n2 (w : World) (l m t u : Int) (f0 : 0 ≤ l) (f1 : l ≤ 1099511627776) (f2 : ¬ 0 ≤ t) : Calls Try.prog 10 #[.int .i64 l, .int .i64 m, .int .i64 t, .int .i64 u] w fun e w' => e = .returned (.bool true) ∧ Ext w w' := by
  have d0 : decide (0 ≤ l) = true := decide_eq_true f0
  have d1 : decide (l ≤ 1099511627776) = true := decide_eq_true f1
  have d2 : decide (0 ≤ t) = false := decide_eq_false f2
  have hx := mk_r l t
  have hx0 : decide (0 ≤ makeF l t) = true := decide_eq_true hx.1
  have hx1 : decide (makeF l t ≤ 1152921504607895551) = true := decide_eq_true hx.2
  go_enter Try.func10, Try.ntmps10
  go_wp2_with fail
  refine (make_calls w l t).mono ?_
  rintro e w1 ⟨rfl, h1⟩
  go_wp2_with fail
  refine (make_calls w1 m u).mono ?_
  rintro e w2 ⟨rfl, h2⟩
  have E2 := h1.trans h2
  clear h1 h2
  go_wp2_with fail
  refine (works_calls w2).mono ?_
  rintro e w7 ⟨rfl, h1⟩
  have E7 := E2.trans h1
  clear E2 h1
  go_wp2
  go_ret
  exact ⟨rfl, E7⟩
set_option maxRecDepth 100000 in
set_option maxHeartbeats 2000000 in
theorem ord_n3 (w : World) (l m t u : Int) (f0 : 0 ≤ l) (f1 : l ≤ 1099511627776) (f2 : 0 ≤ t) (f3 : ¬ t < 1048576) : Calls Try.prog 10 #[.int .i64 l, .int .i64 m, .int .i64 t, .int .i64 u] w fun e w' => e = .returned (.bool true) ∧ Ext w w' := by
  have d0 : decide (0 ≤ l) = true := decide_eq_true f0
  have d1 : decide (l ≤ 1099511627776) = true := decide_eq_true f1
  have d2 : decide (0 ≤ t) = true := decide_eq_true f2
  have d3 : decide (t < 1048576) = false := decide_eq_false f3
  have hx := mk_r l t
  have hx0 : decide (0 ≤ makeF l t) = true := decide_eq_true hx.1
  have hx1 : decide (makeF l t ≤ 1152921504607895551) = true := decide_eq_true hx.2
  go_enter Try.func10, Try.ntmps10
  go_wp2_with fail
  refine (make_calls w l t).mono ?_
  rintro e w1 ⟨rfl, h1⟩
  go_wp2_with fail
  refine (make_calls w1 m u).mono ?_
  rintro e w2 ⟨rfl, h2⟩
  have E2 := h1.trans h2
  clear h1 h2
  go_wp2_with fail
  refine (works_calls w2).mono ?_
  rintro e w7 ⟨rfl, h1⟩
  have E7 := E2.trans h1
  clear E2 h1
  go_wp2
  go_ret
  exact ⟨rfl, E7⟩
set_option maxRecDepth 100000 in
set_option maxHeartbeats 2000000 in
theorem ord_y01 (w : World) (l m t u : Int) (f0 : 0 ≤ l) (f1 : l ≤ 1099511627776) (f2 : 0 ≤ t) (f3 : t < 1048576) (f4 : ¬ 0 ≤ m) (f5 : t + 1 < 1048576) : Calls Try.prog 10 #[.int .i64 l, .int .i64 m, .int .i64 t, .int .i64 u] w fun e w' => e = .returned (.bool true) ∧ Ext w w' := by
  have d0 : decide (0 ≤ l) = true := decide_eq_true f0
  have d1 : decide (l ≤ 1099511627776) = true := decide_eq_true f1
  have d2 : decide (0 ≤ t) = true := decide_eq_true f2
  have d3 : decide (t < 1048576) = true := decide_eq_true f3
  have d4 : decide (0 ≤ m) = false := decide_eq_false f4
  have d5 : decide (t + 1 < 1048576) = true := decide_eq_true f5
  have hl := mk_level (l := l) (t := t) ⟨f0, f1, f2, f3⟩
  have ht := mk_tries (l := l) (t := t) ⟨f0, f1, f2, f3⟩
  have hw : wrap64 (t + 1) = t + 1 := wrap64_in (by omega) (by omega)
  have hw2 : wrap64 (makeF l t + 1) = makeF l t + 1 := wrap64_in (by have := mk_r l t; omega) (by have := mk_r l t; omega)
  have hn := mk_next (l := l) (t := t) ⟨f0, f1, f2, f3⟩ f5
  have hx := mk_r l t
  have hx0 : decide (0 ≤ makeF l t) = true := decide_eq_true hx.1
  have hx1 : decide (makeF l t ≤ 1152921504607895551) = true := decide_eq_true hx.2
  go_enter Try.func10, Try.ntmps10
  go_wp2_with fail
  refine (make_calls w l t).mono ?_
  rintro e w1 ⟨rfl, h1⟩
  go_wp2_with fail
  refine (make_calls w1 m u).mono ?_
  rintro e w2 ⟨rfl, h2⟩
  have E2 := h1.trans h2
  clear h1 h2
  go_wp2_with fail
  refine (level_calls w2 _).mono ?_
  rintro e w3 ⟨rfl, h1⟩
  rw [hl]
  have E3 := E2.trans h1
  clear E2 h1
  go_wp2_with fail
  refine (tries_calls w3 _ (by have := mk_r l t; omega)).mono ?_
  rintro e w4 ⟨rfl, h1⟩
  rw [ht]
  have E4 := E3.trans h1
  clear E3 h1
  go_wp2_with fail
  (try rw [hw])
  refine (make_calls w4 l (t + 1)).mono ?_
  rintro e w5 ⟨rfl, h1⟩
  rw [hn]
  have E5 := E4.trans h1
  clear E4 h1
  go_wp2_with fail
  refine (works_calls w5).mono ?_
  rintro e w7 ⟨rfl, h1⟩
  have E7 := E5.trans h1
  clear E5 h1
  go_wp2
  go_ret
  exact ⟨rfl, E7⟩
set_option maxRecDepth 100000 in
set_option maxHeartbeats 2000000 in
theorem ord_y00 (w : World) (l m t u : Int) (f0 : 0 ≤ l) (f1 : l ≤ 1099511627776) (f2 : 0 ≤ t) (f3 : t < 1048576) (f4 : ¬ 0 ≤ m) (f5 : ¬ t + 1 < 1048576) : Calls Try.prog 10 #[.int .i64 l, .int .i64 m, .int .i64 t, .int .i64 u] w fun e w' => e = .returned (.bool true) ∧ Ext w w' := by
  have d0 : decide (0 ≤ l) = true := decide_eq_true f0
  have d1 : decide (l ≤ 1099511627776) = true := decide_eq_true f1
  have d2 : decide (0 ≤ t) = true := decide_eq_true f2
  have d3 : decide (t < 1048576) = true := decide_eq_true f3
  have d4 : decide (0 ≤ m) = false := decide_eq_false f4
  have d5 : decide (t + 1 < 1048576) = false := decide_eq_false f5
  have hl := mk_level (l := l) (t := t) ⟨f0, f1, f2, f3⟩
  have ht := mk_tries (l := l) (t := t) ⟨f0, f1, f2, f3⟩
  have hw : wrap64 (t + 1) = t + 1 := wrap64_in (by omega) (by omega)
  have hw2 : wrap64 (makeF l t + 1) = makeF l t + 1 := wrap64_in (by have := mk_r l t; omega) (by have := mk_r l t; omega)
  have hx := mk_r l t
  have hx0 : decide (0 ≤ makeF l t) = true := decide_eq_true hx.1
  have hx1 : decide (makeF l t ≤ 1152921504607895551) = true := decide_eq_true hx.2
  go_enter Try.func10, Try.ntmps10
  go_wp2_with fail
  refine (make_calls w l t).mono ?_
  rintro e w1 ⟨rfl, h1⟩
  go_wp2_with fail
  refine (make_calls w1 m u).mono ?_
  rintro e w2 ⟨rfl, h2⟩
  have E2 := h1.trans h2
  clear h1 h2
  go_wp2_with fail
  refine (level_calls w2 _).mono ?_
  rintro e w3 ⟨rfl, h1⟩
  rw [hl]
  have E3 := E2.trans h1
  clear E2 h1
  go_wp2_with fail
  refine (tries_calls w3 _ (by have := mk_r l t; omega)).mono ?_
  rintro e w4 ⟨rfl, h1⟩
  rw [ht]
  have E4 := E3.trans h1
  clear E3 h1
  go_wp2_with fail
  refine (works_calls w4).mono ?_
  rintro e w7 ⟨rfl, h1⟩
  have E7 := E4.trans h1
  clear E4 h1
  go_wp2
  go_ret
  exact ⟨rfl, E7⟩
set_option maxRecDepth 100000 in
set_option maxHeartbeats 2000000 in
theorem ord_y11 (w : World) (l m t u : Int) (f0 : 0 ≤ l) (f1 : l ≤ 1099511627776) (f2 : 0 ≤ t) (f3 : t < 1048576) (f4 : 0 ≤ m) (f5 : ¬ m ≤ 1099511627776) (f6 : t + 1 < 1048576) : Calls Try.prog 10 #[.int .i64 l, .int .i64 m, .int .i64 t, .int .i64 u] w fun e w' => e = .returned (.bool true) ∧ Ext w w' := by
  have d0 : decide (0 ≤ l) = true := decide_eq_true f0
  have d1 : decide (l ≤ 1099511627776) = true := decide_eq_true f1
  have d2 : decide (0 ≤ t) = true := decide_eq_true f2
  have d3 : decide (t < 1048576) = true := decide_eq_true f3
  have d4 : decide (0 ≤ m) = true := decide_eq_true f4
  have d5 : decide (m ≤ 1099511627776) = false := decide_eq_false f5
  have d6 : decide (t + 1 < 1048576) = true := decide_eq_true f6
  have hl := mk_level (l := l) (t := t) ⟨f0, f1, f2, f3⟩
  have ht := mk_tries (l := l) (t := t) ⟨f0, f1, f2, f3⟩
  have hw : wrap64 (t + 1) = t + 1 := wrap64_in (by omega) (by omega)
  have hw2 : wrap64 (makeF l t + 1) = makeF l t + 1 := wrap64_in (by have := mk_r l t; omega) (by have := mk_r l t; omega)
  have hn := mk_next (l := l) (t := t) ⟨f0, f1, f2, f3⟩ f6
  have hx := mk_r l t
  have hx0 : decide (0 ≤ makeF l t) = true := decide_eq_true hx.1
  have hx1 : decide (makeF l t ≤ 1152921504607895551) = true := decide_eq_true hx.2
  go_enter Try.func10, Try.ntmps10
  go_wp2_with fail
  refine (make_calls w l t).mono ?_
  rintro e w1 ⟨rfl, h1⟩
  go_wp2_with fail
  refine (make_calls w1 m u).mono ?_
  rintro e w2 ⟨rfl, h2⟩
  have E2 := h1.trans h2
  clear h1 h2
  go_wp2_with fail
  refine (level_calls w2 _).mono ?_
  rintro e w3 ⟨rfl, h1⟩
  rw [hl]
  have E3 := E2.trans h1
  clear E2 h1
  go_wp2_with fail
  refine (tries_calls w3 _ (by have := mk_r l t; omega)).mono ?_
  rintro e w4 ⟨rfl, h1⟩
  rw [ht]
  have E4 := E3.trans h1
  clear E3 h1
  go_wp2_with fail
  (try rw [hw])
  refine (make_calls w4 l (t + 1)).mono ?_
  rintro e w5 ⟨rfl, h1⟩
  rw [hn]
  have E5 := E4.trans h1
  clear E4 h1
  go_wp2_with fail
  refine (works_calls w5).mono ?_
  rintro e w7 ⟨rfl, h1⟩
  have E7 := E5.trans h1
  clear E5 h1
  go_wp2
  go_ret
  exact ⟨rfl, E7⟩
set_option maxRecDepth 100000 in
set_option maxHeartbeats 2000000 in
theorem ord_y10 (w : World) (l m t u : Int) (f0 : 0 ≤ l) (f1 : l ≤ 1099511627776) (f2 : 0 ≤ t) (f3 : t < 1048576) (f4 : 0 ≤ m) (f5 : ¬ m ≤ 1099511627776) (f6 : ¬ t + 1 < 1048576) : Calls Try.prog 10 #[.int .i64 l, .int .i64 m, .int .i64 t, .int .i64 u] w fun e w' => e = .returned (.bool true) ∧ Ext w w' := by
  have d0 : decide (0 ≤ l) = true := decide_eq_true f0
  have d1 : decide (l ≤ 1099511627776) = true := decide_eq_true f1
  have d2 : decide (0 ≤ t) = true := decide_eq_true f2
  have d3 : decide (t < 1048576) = true := decide_eq_true f3
  have d4 : decide (0 ≤ m) = true := decide_eq_true f4
  have d5 : decide (m ≤ 1099511627776) = false := decide_eq_false f5
  have d6 : decide (t + 1 < 1048576) = false := decide_eq_false f6
  have hl := mk_level (l := l) (t := t) ⟨f0, f1, f2, f3⟩
  have ht := mk_tries (l := l) (t := t) ⟨f0, f1, f2, f3⟩
  have hw : wrap64 (t + 1) = t + 1 := wrap64_in (by omega) (by omega)
  have hw2 : wrap64 (makeF l t + 1) = makeF l t + 1 := wrap64_in (by have := mk_r l t; omega) (by have := mk_r l t; omega)
  have hx := mk_r l t
  have hx0 : decide (0 ≤ makeF l t) = true := decide_eq_true hx.1
  have hx1 : decide (makeF l t ≤ 1152921504607895551) = true := decide_eq_true hx.2
  go_enter Try.func10, Try.ntmps10
  go_wp2_with fail
  refine (make_calls w l t).mono ?_
  rintro e w1 ⟨rfl, h1⟩
  go_wp2_with fail
  refine (make_calls w1 m u).mono ?_
  rintro e w2 ⟨rfl, h2⟩
  have E2 := h1.trans h2
  clear h1 h2
  go_wp2_with fail
  refine (level_calls w2 _).mono ?_
  rintro e w3 ⟨rfl, h1⟩
  rw [hl]
  have E3 := E2.trans h1
  clear E2 h1
  go_wp2_with fail
  refine (tries_calls w3 _ (by have := mk_r l t; omega)).mono ?_
  rintro e w4 ⟨rfl, h1⟩
  rw [ht]
  have E4 := E3.trans h1
  clear E3 h1
  go_wp2_with fail
  refine (works_calls w4).mono ?_
  rintro e w7 ⟨rfl, h1⟩
  have E7 := E4.trans h1
  clear E4 h1
  go_wp2
  go_ret
  exact ⟨rfl, E7⟩
set_option maxRecDepth 100000 in
set_option maxHeartbeats 2000000 in
theorem ord_y21 (w : World) (l m t u : Int) (f0 : 0 ≤ l) (f1 : l ≤ 1099511627776) (f2 : 0 ≤ t) (f3 : t < 1048576) (f4 : 0 ≤ m) (f5 : m ≤ 1099511627776) (f6 : ¬ l < m) (f7 : t + 1 < 1048576) : Calls Try.prog 10 #[.int .i64 l, .int .i64 m, .int .i64 t, .int .i64 u] w fun e w' => e = .returned (.bool true) ∧ Ext w w' := by
  have d0 : decide (0 ≤ l) = true := decide_eq_true f0
  have d1 : decide (l ≤ 1099511627776) = true := decide_eq_true f1
  have d2 : decide (0 ≤ t) = true := decide_eq_true f2
  have d3 : decide (t < 1048576) = true := decide_eq_true f3
  have d4 : decide (0 ≤ m) = true := decide_eq_true f4
  have d5 : decide (m ≤ 1099511627776) = true := decide_eq_true f5
  have d6 : decide (l < m) = false := decide_eq_false f6
  have d7 : decide (t + 1 < 1048576) = true := decide_eq_true f7
  have hl := mk_level (l := l) (t := t) ⟨f0, f1, f2, f3⟩
  have ht := mk_tries (l := l) (t := t) ⟨f0, f1, f2, f3⟩
  have hw : wrap64 (t + 1) = t + 1 := wrap64_in (by omega) (by omega)
  have hw2 : wrap64 (makeF l t + 1) = makeF l t + 1 := wrap64_in (by have := mk_r l t; omega) (by have := mk_r l t; omega)
  have hn := mk_next (l := l) (t := t) ⟨f0, f1, f2, f3⟩ f7
  have hx := mk_r l t
  have hx0 : decide (0 ≤ makeF l t) = true := decide_eq_true hx.1
  have hx1 : decide (makeF l t ≤ 1152921504607895551) = true := decide_eq_true hx.2
  go_enter Try.func10, Try.ntmps10
  go_wp2_with fail
  refine (make_calls w l t).mono ?_
  rintro e w1 ⟨rfl, h1⟩
  go_wp2_with fail
  refine (make_calls w1 m u).mono ?_
  rintro e w2 ⟨rfl, h2⟩
  have E2 := h1.trans h2
  clear h1 h2
  go_wp2_with fail
  refine (level_calls w2 _).mono ?_
  rintro e w3 ⟨rfl, h1⟩
  rw [hl]
  have E3 := E2.trans h1
  clear E2 h1
  go_wp2_with fail
  refine (tries_calls w3 _ (by have := mk_r l t; omega)).mono ?_
  rintro e w4 ⟨rfl, h1⟩
  rw [ht]
  have E4 := E3.trans h1
  clear E3 h1
  go_wp2_with fail
  (try rw [hw])
  refine (make_calls w4 l (t + 1)).mono ?_
  rintro e w5 ⟨rfl, h1⟩
  rw [hn]
  have E5 := E4.trans h1
  clear E4 h1
  go_wp2_with fail
  refine (works_calls w5).mono ?_
  rintro e w7 ⟨rfl, h1⟩
  have E7 := E5.trans h1
  clear E5 h1
  go_wp2
  go_ret
  exact ⟨rfl, E7⟩
set_option maxRecDepth 100000 in
set_option maxHeartbeats 2000000 in
theorem ord_y20 (w : World) (l m t u : Int) (f0 : 0 ≤ l) (f1 : l ≤ 1099511627776) (f2 : 0 ≤ t) (f3 : t < 1048576) (f4 : 0 ≤ m) (f5 : m ≤ 1099511627776) (f6 : ¬ l < m) (f7 : ¬ t + 1 < 1048576) : Calls Try.prog 10 #[.int .i64 l, .int .i64 m, .int .i64 t, .int .i64 u] w fun e w' => e = .returned (.bool true) ∧ Ext w w' := by
  have d0 : decide (0 ≤ l) = true := decide_eq_true f0
  have d1 : decide (l ≤ 1099511627776) = true := decide_eq_true f1
  have d2 : decide (0 ≤ t) = true := decide_eq_true f2
  have d3 : decide (t < 1048576) = true := decide_eq_true f3
  have d4 : decide (0 ≤ m) = true := decide_eq_true f4
  have d5 : decide (m ≤ 1099511627776) = true := decide_eq_true f5
  have d6 : decide (l < m) = false := decide_eq_false f6
  have d7 : decide (t + 1 < 1048576) = false := decide_eq_false f7
  have hl := mk_level (l := l) (t := t) ⟨f0, f1, f2, f3⟩
  have ht := mk_tries (l := l) (t := t) ⟨f0, f1, f2, f3⟩
  have hw : wrap64 (t + 1) = t + 1 := wrap64_in (by omega) (by omega)
  have hw2 : wrap64 (makeF l t + 1) = makeF l t + 1 := wrap64_in (by have := mk_r l t; omega) (by have := mk_r l t; omega)
  have hx := mk_r l t
  have hx0 : decide (0 ≤ makeF l t) = true := decide_eq_true hx.1
  have hx1 : decide (makeF l t ≤ 1152921504607895551) = true := decide_eq_true hx.2
  go_enter Try.func10, Try.ntmps10
  go_wp2_with fail
  refine (make_calls w l t).mono ?_
  rintro e w1 ⟨rfl, h1⟩
  go_wp2_with fail
  refine (make_calls w1 m u).mono ?_
  rintro e w2 ⟨rfl, h2⟩
  have E2 := h1.trans h2
  clear h1 h2
  go_wp2_with fail
  refine (level_calls w2 _).mono ?_
  rintro e w3 ⟨rfl, h1⟩
  rw [hl]
  have E3 := E2.trans h1
  clear E2 h1
  go_wp2_with fail
  refine (tries_calls w3 _ (by have := mk_r l t; omega)).mono ?_
  rintro e w4 ⟨rfl, h1⟩
  rw [ht]
  have E4 := E3.trans h1
  clear E3 h1
  go_wp2_with fail
  refine (works_calls w4).mono ?_
  rintro e w7 ⟨rfl, h1⟩
  have E7 := E4.trans h1
  clear E4 h1
  go_wp2
  go_ret
  exact ⟨rfl, E7⟩
set_option maxRecDepth 100000 in
set_option maxHeartbeats 2000000 in
theorem ord_y31 (w : World) (l m t u : Int) (f0 : 0 ≤ l) (f1 : l ≤ 1099511627776) (f2 : 0 ≤ t) (f3 : t < 1048576) (f4 : 0 ≤ m) (f5 : m ≤ 1099511627776) (f6 : l < m) (f7 : t + 1 < 1048576) : Calls Try.prog 10 #[.int .i64 l, .int .i64 m, .int .i64 t, .int .i64 u] w fun e w' => e = .returned (.bool true) ∧ Ext w w' := by
  have d0 : decide (0 ≤ l) = true := decide_eq_true f0
  have d1 : decide (l ≤ 1099511627776) = true := decide_eq_true f1
  have d2 : decide (0 ≤ t) = true := decide_eq_true f2
  have d3 : decide (t < 1048576) = true := decide_eq_true f3
  have d4 : decide (0 ≤ m) = true := decide_eq_true f4
  have d5 : decide (m ≤ 1099511627776) = true := decide_eq_true f5
  have d6 : decide (l < m) = true := decide_eq_true f6
  have d7 : decide (t + 1 < 1048576) = true := decide_eq_true f7
  have hl := mk_level (l := l) (t := t) ⟨f0, f1, f2, f3⟩
  have ht := mk_tries (l := l) (t := t) ⟨f0, f1, f2, f3⟩
  have hw : wrap64 (t + 1) = t + 1 := wrap64_in (by omega) (by omega)
  have hw2 : wrap64 (makeF l t + 1) = makeF l t + 1 := wrap64_in (by have := mk_r l t; omega) (by have := mk_r l t; omega)
  have hn := mk_next (l := l) (t := t) ⟨f0, f1, f2, f3⟩ f7
  have hlt := decide_eq_false (Int.not_le.mpr (mk_lt (u := u) ⟨f0, f1, f2, f3⟩ f4 f5 f6))
  have hx := mk_r l t
  have hx0 : decide (0 ≤ makeF l t) = true := decide_eq_true hx.1
  have hx1 : decide (makeF l t ≤ 1152921504607895551) = true := decide_eq_true hx.2
  go_enter Try.func10, Try.ntmps10
  go_wp2_with fail
  refine (make_calls w l t).mono ?_
  rintro e w1 ⟨rfl, h1⟩
  go_wp2_with fail
  refine (make_calls w1 m u).mono ?_
  rintro e w2 ⟨rfl, h2⟩
  have E2 := h1.trans h2
  clear h1 h2
  go_wp2_with fail
  refine (level_calls w2 _).mono ?_
  rintro e w3 ⟨rfl, h1⟩
  rw [hl]
  have E3 := E2.trans h1
  clear E2 h1
  go_wp2_with fail
  refine (tries_calls w3 _ (by have := mk_r l t; omega)).mono ?_
  rintro e w4 ⟨rfl, h1⟩
  rw [ht]
  have E4 := E3.trans h1
  clear E3 h1
  go_wp2_with fail
  (try rw [hw])
  refine (make_calls w4 l (t + 1)).mono ?_
  rintro e w5 ⟨rfl, h1⟩
  rw [hn]
  have E5 := E4.trans h1
  clear E4 h1
  go_wp2_with fail
  refine (works_calls w5).mono ?_
  rintro e w7 ⟨rfl, h1⟩
  have E7 := E5.trans h1
  clear E5 h1
  go_wp2
  go_ret
  exact ⟨rfl, E7⟩
set_option maxRecDepth 100000 in
set_option maxHeartbeats 2000000 in
theorem ord_y30 (w : World) (l m t u : Int) (f0 : 0 ≤ l) (f1 : l ≤ 1099511627776) (f2 : 0 ≤ t) (f3 : t < 1048576) (f4 : 0 ≤ m) (f5 : m ≤ 1099511627776) (f6 : l < m) (f7 : ¬ t + 1 < 1048576) : Calls Try.prog 10 #[.int .i64 l, .int .i64 m, .int .i64 t, .int .i64 u] w fun e w' => e = .returned (.bool true) ∧ Ext w w' := by
  have d0 : decide (0 ≤ l) = true := decide_eq_true f0
  have d1 : decide (l ≤ 1099511627776) = true := decide_eq_true f1
  have d2 : decide (0 ≤ t) = true := decide_eq_true f2
  have d3 : decide (t < 1048576) = true := decide_eq_true f3
  have d4 : decide (0 ≤ m) = true := decide_eq_true f4
  have d5 : decide (m ≤ 1099511627776) = true := decide_eq_true f5
  have d6 : decide (l < m) = true := decide_eq_true f6
  have d7 : decide (t + 1 < 1048576) = false := decide_eq_false f7
  have hl := mk_level (l := l) (t := t) ⟨f0, f1, f2, f3⟩
  have ht := mk_tries (l := l) (t := t) ⟨f0, f1, f2, f3⟩
  have hw : wrap64 (t + 1) = t + 1 := wrap64_in (by omega) (by omega)
  have hw2 : wrap64 (makeF l t + 1) = makeF l t + 1 := wrap64_in (by have := mk_r l t; omega) (by have := mk_r l t; omega)
  have hlt := decide_eq_false (Int.not_le.mpr (mk_lt (u := u) ⟨f0, f1, f2, f3⟩ f4 f5 f6))
  have hx := mk_r l t
  have hx0 : decide (0 ≤ makeF l t) = true := decide_eq_true hx.1
  have hx1 : decide (makeF l t ≤ 1152921504607895551) = true := decide_eq_true hx.2
  go_enter Try.func10, Try.ntmps10
  go_wp2_with fail
  refine (make_calls w l t).mono ?_
  rintro e w1 ⟨rfl, h1⟩
  go_wp2_with fail
  refine (make_calls w1 m u).mono ?_
  rintro e w2 ⟨rfl, h2⟩
  have E2 := h1.trans h2
  clear h1 h2
  go_wp2_with fail
  refine (level_calls w2 _).mono ?_
  rintro e w3 ⟨rfl, h1⟩
  rw [hl]
  have E3 := E2.trans h1
  clear E2 h1
  go_wp2_with fail
  refine (tries_calls w3 _ (by have := mk_r l t; omega)).mono ?_
  rintro e w4 ⟨rfl, h1⟩
  rw [ht]
  have E4 := E3.trans h1
  clear E3 h1
  go_wp2_with fail
  refine (works_calls w4).mono ?_
  rintro e w7 ⟨rfl, h1⟩
  have E7 := E4.trans h1
  clear E4 h1
  go_wp2
  go_ret
  exact ⟨rfl, E7⟩
theorem orders_calls (w : World) (l m t u : Int) : Calls Try.prog 10 #[.int .i64 l, .int .i64 m, .int .i64 t, .int .i64 u] w fun e w' => e = .returned (.bool true) ∧ Ext w w' := by
  by_cases f0 : 0 ≤ l
  rotate_left
  · exact ord_n0 w l m t u f0
  by_cases f1 : l ≤ 1099511627776
  rotate_left
  · exact ord_n1 w l m t u f0 f1
  by_cases f2 : 0 ≤ t
  rotate_left
  · exact ord_n2 w l m t u f0 f1 f2
  by_cases f3 : t < 1048576
  rotate_left
  · exact ord_n3 w l m t u f0 f1 f2 f3
  by_cases g : t + 1 < 1048576
  · by_cases f4 : 0 ≤ m
    rotate_left
    · exact ord_y01 w l m t u f0 f1 f2 f3 f4 g
    by_cases f5 : m ≤ 1099511627776
    rotate_left
    · exact ord_y11 w l m t u f0 f1 f2 f3 f4 f5 g
    by_cases f6 : l < m
    rotate_left
    · exact ord_y21 w l m t u f0 f1 f2 f3 f4 f5 f6 g
    exact ord_y31 w l m t u f0 f1 f2 f3 f4 f5 f6 g
  · by_cases f4 : 0 ≤ m
    rotate_left
    · exact ord_y00 w l m t u f0 f1 f2 f3 f4 g
    by_cases f5 : m ≤ 1099511627776
    rotate_left
    · exact ord_y10 w l m t u f0 f1 f2 f3 f4 f5 g
    by_cases f6 : l < m
    rotate_left
    · exact ord_y20 w l m t u f0 f1 f2 f3 f4 f5 f6 g
    exact ord_y30 w l m t u f0 f1 f2 f3 f4 f5 f6 g
end Go.Proofs.Ytkgjcmolmogpdaa.By
