/- The walk of ScoreMore. -/
import Derived.Test.YthdcalneejhdgaaVictim
import Derived.Test.YthdcalneejhdgaaPureMore
namespace Go.Proofs.Ythdcalneejhdgaa.Laws
open Go.RowKit Go.Proofs.Ythdcalneejhdgaa.Reg Go.Proofs.YthdcalneejhdgaaW.PrintWords Go.Proofs.YthdcalneejhdgaaW.PrintLast Go.Proofs.YthdcalneejhdgaaW.PrintMore Go.Proofs.Ythdcalneejhdgaa.PScoreVictim Go.Proofs.Ythdcalneejhdgaa.Vict
set_option linter.unusedVariables false

theorem R_empty {α : Type} (d : Kd α) (e : Nat) (w : World) (base : Nat) (hb : base ≤ w.heap.size) : Kd.R d e (w.alloc (.cells #[] e)) base (fun _ => True) (.slice (some ⟨w.heap.size, 0, none⟩) 0 0) [] :=
  ⟨fun _ _ => trivial, [], ⟨by simp, .inr ⟨w.heap.size, 0, #[], rfl, hb, (Blk.new w #[] e).is, Nat.le_refl _, by simp [maxLen], by simp, by simp⟩⟩, by simp [Reps]⟩
theorem k36_KM {w W : World} {base : Nat} {ok : Nat → Prop} (x : S36) (cs : List Value) (h : k36.K w x cs) : k36.M W base ok x cs := by
  obtain rfl := k36_open h
  exact k36_mkM W base ok x

set_option maxHeartbeats 2000000 in
theorem scoreMore_big (A B : Option Addr) (c c' : Nat) (l m : List S36) (s lean now : Int) (w : World) (hl : l.length ≤ 9223372036854775807) (hm : m.length ≤ 9223372036854775807) (h : 2048 < l.length ∨ 2048 < m.length) :
    Calls Try.prog 7 #[.slice A l.length c, .slice B m.length c', .agg #[.int .i64 s, .int .i64 lean, .int .i64 now]] w fun e w' => e = .returned (.bool true) ∧ Ext w w' := by
  by_cases h1 : 2048 < l.length
  · have d1 : decide (2048 < l.length) = true := decide_eq_true h1
    go_enter Try.func7, Try.ntmps7
    go_wp2_with fail
    refine (known_calls _).mono ?_
    rintro e w3 ⟨rfl, hE3⟩
    have hE4 := ((Ext.refl w).alloc _).trans hE3
    clear hE3
    go_wp2
    go_ret
    exact ⟨rfl, hE4⟩
  · have d1 : decide (2048 < l.length) = false := decide_eq_false h1
    have d2 : decide (2048 < m.length) = true := decide_eq_true (by omega)
    go_enter Try.func7, Try.ntmps7
    go_wp2_with fail
    refine (known_calls _).mono ?_
    rintro e w3 ⟨rfl, hE3⟩
    have hE4 := ((Ext.refl w).alloc _).trans hE3
    clear hE3
    go_wp2
    go_ret
    exact ⟨rfl, hE4⟩

set_option maxHeartbeats 4000000 in
theorem scoreMore_calls (A B : Option Addr) (c c' : Nat) (l m : List S36) (s lean now : Int) (w : World) (hr : Kd.C k36 w A l.length l) (hc : l.length ≤ c) (hr' : Kd.C k36 w B m.length m) (hc' : m.length ≤ c') (hl : l.length ≤ 2048) (hm : m.length ≤ 2048) :
    Calls Try.prog 7 #[.slice A l.length c, .slice B m.length c', .agg #[.int .i64 s, .int .i64 lean, .int .i64 now]] w fun e w' => e = .returned (.bool true) ∧ Ext w w' := by
  have hu36 := Try.underlying36
  have d1 : decide (2048 < l.length) = false := decide_eq_false (by omega)
  have d2 : decide (2048 < m.length) = false := decide_eq_false (by omega)
  have HR := Aside0.mk hr
  have HR' := Aside0.mk hr'
  clear hr hr'
  go_enter Try.func7, Try.ntmps7
  have hE1 := (Ext.refl w).alloc (.cells #[.int .i64 s, .int .i64 lean, .int .i64 now] 27)
  have hbox := Blk.new w #[.int .i64 s, .int .i64 lean, .int .i64 now] 27
  have hsz := size_alloc w (.cells #[.int .i64 s, .int .i64 lean, .int .i64 now] 27)
  have hR0 := R_empty k36 36 (w.alloc (.cells #[.int .i64 s, .int .i64 lean, .int .i64 now] 27)) w.heap.size (by omega)
  rw [hsz] at hR0
  have hB0 : Below w.heap.size w ((w.alloc (.cells #[.int .i64 s, .int .i64 lean, .int .i64 now] 27)).alloc (.cells #[] 36)) := hE1.alloc _
  have hbox0 := hbox.alloc (.cells #[] 36)
  have hszz : w.heap.size + 2 ≤ ((w.alloc (.cells #[.int .i64 s, .int .i64 lean, .int .i64 now] 27)).alloc (.cells #[] 36)).heap.size := by rw [size_alloc, hsz]; omega
  clear hE1 hbox hsz
  have HR0 := Aside0.mk hR0
  clear hR0
  go_wp2_with (at_builtin; refine Kd.R_append_rows k36 (Rr := k36.K ((w.alloc (.cells #[.int .i64 s, .int .i64 lean, .int .i64 now] 27)).alloc (.cells #[] 36))) (w0 := w) w.heap.size rfl (.tmp 25) (.tmp 26) 25 36 _ 24 rfl Try.underlying25 info36 rfl (by decide) (by decide) _ [] l A l.length c (fun _ => True) (fun _ => False) rfl rfl HR0.out ?c1 k36_KM (fun _ h => h.elim) (fun _ _ => trivial) hB0 ?c2 ?c3 ?_)
  case c1 => exact (Kd.C_below HR.out hB0)
  case c2 => omega
  case c3 => simp; omega
  intro v1 w1 hR1 hB1 hg1 hat1
  have hbox1 : Blk w1 w.heap.size #[.int .i64 s, .int .i64 lean, .int .i64 now] 27 := ⟨(hg1.block _ hbox0.lt (by show some w.heap.size ≠ some (w.heap.size + 1); simp)).trans hbox0.is⟩
  have hv1 : ∀ k, v1.ownBlock = some k → w.heap.size + 1 ≤ k := by
    intro k hk
    rcases hat1 with hat1 | ⟨b, hb, hle⟩
    · rw [hat1] at hk
      have : w.heap.size + 1 = k := by simpa [Act.eval, Value.ownBlock] using hk
      omega
    · rw [hb] at hk
      have : b = k := by simpa using hk
      omega
  have hs1 : w.heap.size + 2 ≤ w1.heap.size := Nat.le_trans hszz hg1.size
  clear hg1 hat1 hbox0 HR0 hB0 hszz
  replace hR1 : Kd.R k36 36 w1 w.heap.size (fun _ => True) v1 l := hR1
  have HR1 := Aside0.mk hR1
  have HV1 := Aside0.mk hv1
  clear hR1 hv1
  go_wp2_with (at_builtin; refine Kd.R_append_rows k36 (Rr := k36.K w1) (w0 := w) w.heap.size rfl (.tmp 27) (.tmp 28) 25 36 _ 24 rfl Try.underlying25 info36 rfl (by decide) (by decide) v1 l m B m.length c' (fun _ => True) (fun _ => False) rfl rfl HR1.out ?c1 k36_KM (fun _ h => h.elim) (fun _ _ => trivial) hB1 ?c2 ?c3 ?_)
  case c1 => exact (Kd.C_below HR'.out hB1)
  case c2 => omega
  case c3 => omega
  intro v2 w2 hR2 hB2 hg2 hat2
  have hbox2 : Blk w2 w.heap.size #[.int .i64 s, .int .i64 lean, .int .i64 now] 27 := ⟨(hg2.block _ hbox1.lt (fun e => by have := HV1.out _ e.symm; omega)).trans hbox1.is⟩
  clear hg2 hat2 hbox1 HR1 HV1 hB1 hs1
  obtain ⟨bl, hbl⟩ : ∃ bl, bl = l ++ m := ⟨_, rfl⟩
  rw [← hbl] at hR2
  obtain ⟨A2, c2, rfl, hl2, hC2⟩ := Kd.R_reads hR2
  have HC2 := Aside0.mk hC2
  have HL2 := Aside0.mk hl2
  clear hC2 hl2 hR2
  have bs := fun (W : World) (h : Ext w2 W) => (hbox2.ext h)
  have h4 := four s lean now l m
  rw [← hbl] at h4
  have HBL := Aside0.mk hbl
  clear hbl
  obtain ⟨i, hi⟩ : ∃ i, i = (vfold s lean now l l.length).1 := ⟨_, rfl⟩
  obtain ⟨ib, hib⟩ : ∃ i, i = (vfold s lean now l l.length).2 := ⟨_, rfl⟩
  obtain ⟨k, hk⟩ : ∃ i, i = (vfold s lean now m m.length).1 := ⟨_, rfl⟩
  obtain ⟨kb, hkb⟩ : ∃ i, i = (vfold s lean now m m.length).2 := ⟨_, rfl⟩
  obtain ⟨n, hn⟩ : ∃ i, i = (vfold s lean now bl bl.length).1 := ⟨_, rfl⟩
  obtain ⟨nb, hnb⟩ : ∃ i, i = (vfold s lean now bl bl.length).2 := ⟨_, rfl⟩
  have V1 := fun (b : Bool) (W : World) (hE : Ext w2 W) (hb : b = decide (0 ≤ ib)) => victim_at A c l.length l s lean now i b W (Kd.C_below HR.out (Below.extend hB2 (Nat.le_of_lt hbox2.lt) hE)) rfl hc hi (by rw [hb, hib])
  have V2 := fun (b : Bool) (W : World) (hE : Ext w2 W) (hb : b = decide (0 ≤ kb)) => victim_at B c' m.length m s lean now k b W (Kd.C_below HR'.out (Below.extend hB2 (Nat.le_of_lt hbox2.lt) hE)) rfl hc' hk (by rw [hb, hkb])
  have V3 := fun (b : Bool) (W : World) (hE : Ext w2 W) (hb : b = decide (0 ≤ nb)) => victim_at A2 c2 bl.length bl s lean now n b W (Kd.C_below HC2.out hE) rfl HL2.out hn (by rw [hb, hnb])
  have H1 := Aside0.mk V1
  have H2 := Aside0.mk V2
  have H3 := Aside0.mk V3
  have HI := Aside0.mk hi
  have HK := Aside0.mk hk
  have BS := Aside0.mk bs
  clear V1 V2 V3 bs
  rcases h4 with ⟨x1, x2, x3⟩ | ⟨x1, x2, x3, x4, x5⟩ | ⟨x1, x2, x3⟩ | ⟨x1, x2, x3, x4, x5, x6, x7, x8⟩
  · rw [x3] at hn hnb
    rw [← hib] at x1
    rw [← hkb] at x2
    have e1 : decide (0 ≤ ib) = false := decide_eq_false (by omega)
    have e2 : decide (0 ≤ kb) = false := decide_eq_false (by omega)
    have e3 : decide (0 ≤ nb) = false := decide_eq_false (by simp at hnb; omega)
    simp only at hn
    have E1 := Aside0.mk e1
    have E2 := Aside0.mk e2
    have E3 := Aside0.mk e3
    subst hn
    clear e1 e2 e3 hi hib hk hkb hnb x1 x2 x3
    have b0 := hbox2.cell 0 rfl
    have b1 := hbox2.cell 1 rfl
    have b2 := hbox2.cell 2 rfl
    go_wp2_with fail
    refine (H1.out false _ (Ext.refl _) E1.out.symm).mono ?_
    rintro e w3 ⟨rfl, hE3⟩
    have y0 := (hbox2.ext hE3).cell 0 rfl
    have y1 := (hbox2.ext hE3).cell 1 rfl
    have y2 := (hbox2.ext hE3).cell 2 rfl
    clear b0 b1 b2
    go_wp2_with fail
    refine (H2.out false _ hE3 E2.out.symm).mono ?_
    rintro e w4 ⟨rfl, hE⟩
    have hE4 := hE3.trans hE
    clear hE y0 y1 y2
    have z0 := (hbox2.ext hE4).cell 0 rfl
    have z1 := (hbox2.ext hE4).cell 1 rfl
    have z2 := (hbox2.ext hE4).cell 2 rfl
    go_wp2_with fail
    refine (H3.out false _ hE4 E3.out.symm).mono ?_
    rintro e w5 ⟨rfl, hE⟩
    have hE5 := hE4.trans hE
    clear hE z0 z1 z2
    go_wp2_with fail
    refine (known_calls _).mono ?_
    rintro e w6 ⟨rfl, hE⟩
    have hE6 := Below.extend hB2 (Nat.le_of_lt hbox2.lt) (hE5.trans hE)
    clear hE
    go_wp2
    go_ret
    exact ⟨rfl, hE6⟩
  · rw [x5] at hn hnb
    rw [← hib] at x1
    rw [← hkb] at x2 hnb
    rw [← hk] at x3 x4 hn
    simp only at hn hnb
    have e1 : decide (0 ≤ ib) = false := decide_eq_false (by omega)
    have e2 : decide (0 ≤ kb) = true := decide_eq_true (by omega)
    have e3 : decide (0 ≤ nb) = true := decide_eq_true (by omega)
    have E1 := Aside0.mk e1
    have E2 := Aside0.mk e2
    have E3 := Aside0.mk e3
    clear e1 e2 e3
    subst hn
    clear hi hib hk hkb hnb x1 x2 x5
    have b0 := hbox2.cell 0 rfl
    have b1 := hbox2.cell 1 rfl
    have b2 := hbox2.cell 2 rfl
    go_wp2_with fail
    refine (H1.out false _ (Ext.refl _) E1.out.symm).mono ?_
    rintro e w3 ⟨rfl, hE3⟩
    have y0 := (hbox2.ext hE3).cell 0 rfl
    have y1 := (hbox2.ext hE3).cell 1 rfl
    have y2 := (hbox2.ext hE3).cell 2 rfl
    clear b0 b1 b2
    go_wp2_with fail
    refine (H2.out true _ hE3 E2.out.symm).mono ?_
    rintro e w4 ⟨rfl, hE⟩
    have hE4 := hE3.trans hE
    clear hE y0 y1 y2
    have z0 := (hbox2.ext hE4).cell 0 rfl
    have z1 := (hbox2.ext hE4).cell 1 rfl
    have z2 := (hbox2.ext hE4).cell 2 rfl
    go_wp2_with fail
    refine (H3.out true _ hE4 E3.out.symm).mono ?_
    rintro e w5 ⟨rfl, hE⟩
    have hE5 := hE4.trans hE
    clear hE z0 z1 z2
    go_wp2_with fail
    refine (known_calls _).mono ?_
    rintro e w6 ⟨rfl, hE⟩
    have hE6 := Below.extend hB2 (Nat.le_of_lt hbox2.lt) (hE5.trans hE)
    clear hE
    go_wp2
    go_ret
    exact ⟨rfl, hE6⟩
  · rw [x3] at hn hnb
    rw [← hib] at x1 hnb
    rw [← hkb] at x2
    rw [← hi] at hn
    have e1 : decide (0 ≤ ib) = true := decide_eq_true (by omega)
    have e2 : decide (0 ≤ kb) = false := decide_eq_false (by omega)
    have e3 : decide (0 ≤ nb) = true := decide_eq_true (by omega)
    have E1 := Aside0.mk e1
    have E2 := Aside0.mk e2
    have E3 := Aside0.mk e3
    clear e1 e2 e3
    subst hn
    clear hi hib hk hkb hnb x1 x2 x3
    have b0 := hbox2.cell 0 rfl
    have b1 := hbox2.cell 1 rfl
    have b2 := hbox2.cell 2 rfl
    go_wp2_with fail
    refine (H1.out true _ (Ext.refl _) E1.out.symm).mono ?_
    rintro e w3 ⟨rfl, hE3⟩
    have y0 := (hbox2.ext hE3).cell 0 rfl
    have y1 := (hbox2.ext hE3).cell 1 rfl
    have y2 := (hbox2.ext hE3).cell 2 rfl
    clear b0 b1 b2
    go_wp2_with fail
    refine (H2.out false _ hE3 E2.out.symm).mono ?_
    rintro e w4 ⟨rfl, hE⟩
    have hE4 := hE3.trans hE
    clear hE y0 y1 y2
    have z0 := (hbox2.ext hE4).cell 0 rfl
    have z1 := (hbox2.ext hE4).cell 1 rfl
    have z2 := (hbox2.ext hE4).cell 2 rfl
    go_wp2_with fail
    refine (H3.out true _ hE4 E3.out.symm).mono ?_
    rintro e w5 ⟨rfl, hE⟩
    have hE5 := hE4.trans hE
    clear hE z0 z1 z2
    go_wp2_with fail
    refine (known_calls _).mono ?_
    rintro e w6 ⟨rfl, hE⟩
    have hE6 := Below.extend hB2 (Nat.le_of_lt hbox2.lt) (hE5.trans hE)
    clear hE
    go_wp2
    go_ret
    exact ⟨rfl, hE6⟩
  · rw [← hib] at x1
    rw [← hkb] at x2
    rw [← hi] at x3 x4
    rw [← hk] at x5 x6
    rw [← hnb] at x7
    rw [← hi, ← hk, ← hn] at x8
    have e1 : decide (0 ≤ ib) = true := decide_eq_true (by omega)
    have e2 : decide (0 ≤ kb) = true := decide_eq_true (by omega)
    have e3 : decide (0 ≤ nb) = true := decide_eq_true (by omega)
    have E1 := Aside0.mk e1
    have E2 := Aside0.mk e2
    have E3 := Aside0.mk e3
    clear e1 e2 e3
    clear hi hib hk hkb hn hnb x1 x2 x7
    have hB5 := Nat.le_of_lt hbox2.lt
    obtain ⟨ad, e, p0, p1, p2⟩ := at_T36 (Kd.C_below HR.out hB2) i x3 x4
    subst e
    obtain ⟨bd, e, q0, q1, q2⟩ := at_T36 (Kd.C_below HR'.out hB2) k x5 x6
    subst e
    obtain ⟨x, hx⟩ : ∃ x, x = rd_T36 l i := ⟨_, rfl⟩
    obtain ⟨y, hy⟩ : ∃ y, y = rd_T36 m k := ⟨_, rfl⟩
    rw [← hx] at p0 p1 p2 x8
    rw [← hy] at q0 q1 q2 x8
    obtain ⟨tt, htt⟩ : ∃ t, t = (vfold s lean now [x, y] 2).1 := ⟨_, rfl⟩
    obtain ⟨tb, htb⟩ : ∃ t, t = decide (0 ≤ (vfold s lean now [x, y] 2).2) := ⟨_, rfl⟩
    rw [← htt] at x8
    have HT := Aside0.mk htt
    have HTB := Aside0.mk htb
    have HX8 := Aside0.mk x8
    have PQ := Aside0.mk (And.intro p0 (And.intro p1 (And.intro p2 (And.intro q0 (And.intro q1 q2)))))
    clear hx hy htt htb x8 p0 p1 p2 q0 q1 q2
    have b0 := hbox2.cell 0 rfl
    have b1 := hbox2.cell 1 rfl
    have b2 := hbox2.cell 2 rfl
    go_wp2_with fail
    refine (H1.out true _ (Ext.refl _) E1.out.symm).mono ?_
    rintro e w3 ⟨rfl, hE3⟩
    have y0 := (hbox2.ext hE3).cell 0 rfl
    have y1 := (hbox2.ext hE3).cell 1 rfl
    have y2 := (hbox2.ext hE3).cell 2 rfl
    clear b0 b1 b2
    go_wp2_with fail
    refine (H2.out true _ hE3 E2.out.symm).mono ?_
    rintro e w4 ⟨rfl, hE⟩
    have hE4 := hE3.trans hE
    clear hE y0 y1 y2
    have z0 := (hbox2.ext hE4).cell 0 rfl
    have z1 := (hbox2.ext hE4).cell 1 rfl
    have z2 := (hbox2.ext hE4).cell 2 rfl
    go_wp2_with fail
    refine (H3.out true _ hE4 E3.out.symm).mono ?_
    rintro e w5 ⟨rfl, hE⟩
    have hE5 := hE4.trans hE
    clear hE z0 z1 z2
    go_wp2_with fail
    have HE5 : Ext w2 w5 := hE5
    have hPQ := fun (a : Addr) (v : Value) (h : w2.cell? a = some v) => Ext.cell HE5 h
    obtain ⟨p0, p1, p2, q0, q1, q2⟩ := PQ.out
    replace p0 := Ext.cell HE5 p0
    replace p1 := Ext.cell HE5 p1
    replace p2 := Ext.cell HE5 p2
    replace q0 := Ext.cell HE5 q0
    replace q1 := Ext.cell HE5 q1
    replace q2 := Ext.cell HE5 q2
    have y0 := (hbox2.ext HE5).cell 0 rfl
    have y1 := (hbox2.ext HE5).cell 1 rfl
    have y2 := (hbox2.ext HE5).cell 2 rfl
    clear hPQ HE5
    apply wp_region_facts 21 [.val _, .val _, .val _, .val _, .val _, .val _, .val _, .val _, .fact (fun u W => ∃ b, u = .slice (some ⟨b, 0, none⟩) 2 2 ∧ Blk W b ([x, y].flatMap enc36).toArray 36), .val _, .val _, .val _, .val _, .val _, .val _, .val (.tuple #[.int .i64 tt, .bool tb]), .val (.tuple #[.int .i64 tt, .bool tb]), .val (.int .i64 tt), .val (.bool tb), .val (.int .i64 tt), .val (.bool tb)] (by kernel_rfl) (by kernel_rfl)
    simp only [List.take_succ_cons, List.take_zero, List.zip_cons_cons, List.zip_nil_left]
    iterate 8 (apply wpF_val rfl; (intro w' hE hD; have e0 := Ext.cell (w := w5) hE p0; have e1 := Ext.cell (w := w5) hE p1; have e2 := Ext.cell (w := w5) hE p2; have e3 := Ext.cell (w := w5) hE q0; have e4 := Ext.cell (w := w5) hE q1; have e5 := Ext.cell (w := w5) hE q2; unfold Yld; go_simp; exact ⟨Ext.refl _, rfl⟩); (try simp only [Act.put, List.setIfInBounds_toArray, List.set_cons_zero, List.set_cons_succ]))
    refine wpF_fact rfl ?_ ?_ ?_
    · rintro u W W' ⟨b, rfl, hb⟩ he
      exact ⟨b, rfl, hb.ext he⟩
    · intro w' hE hD
      unfold Yld
      go_simp
      exact ⟨(Ext.refl _).alloc _, _, rfl, Blk.new _ _ _⟩
    intro u
    (try simp only [Act.put, List.setIfInBounds_toArray, List.set_cons_zero, List.set_cons_succ])
    iterate 6 (apply wpF_val rfl; (intro w' hE hD; have e0 := Ext.cell (w := w5) hE y0; have e1 := Ext.cell (w := w5) hE y1; have e2 := Ext.cell (w := w5) hE y2; unfold Yld; go_simp; exact ⟨Ext.refl _, rfl⟩); (try simp only [Act.put, List.setIfInBounds_toArray, List.set_cons_zero, List.set_cons_succ]))
    apply wpF_val rfl
    · intro w' hE hD
      obtain ⟨b, rfl, hblk⟩ := hD.1 (by kernel_rfl)
      unfold Yld
      go_simp
      exact (victim_at (some ⟨b, 0, none⟩) 2 2 [x, y] s lean now tt tb w' (C_of_blk (d := k36) enc36 k36_mk hblk [x, y] (by simp) 0 [] (by simp)) rfl (by simp) HT.out HTB.out).mono fun e w2 h => ⟨_, h.1, h.2, rfl⟩
    (try simp only [Act.put, List.setIfInBounds_toArray, List.set_cons_zero, List.set_cons_succ])
    iterate 5 (apply wpF_val rfl; (intro w' hE hD; unfold Yld; go_simp; exact ⟨Ext.refl _, rfl⟩); (try simp only [Act.put, List.setIfInBounds_toArray, List.set_cons_zero, List.set_cons_succ]))
    refine wpF_nil fun w8 hE0 _ => ?_
    have hE8 := hE5.trans hE0
    clear hE0 p0 p1 p2 q0 q1 q2 y0 y1 y2 hE5
    refine wpList_nil ?_
    rcases HX8.out with ⟨h1, h2⟩ | ⟨h1, h2⟩
    all_goals
      subst h1
      subst h2
      go_wp2_with fail
      refine (known_calls _).mono ?_
      rintro e w9 ⟨rfl, hE⟩
      have hE9 := Below.extend hB2 hB5 (hE8.trans hE)
      clear hE
      go_wp2
      go_ret
      exact ⟨rfl, hE9⟩
theorem scoreMore_all (A B : Option Addr) (c c' : Nat) (l m : List S36) (s lean now : Int) (w : World) (hr : Kd.C k36 w A l.length l) (hc : l.length ≤ c) (hr' : Kd.C k36 w B m.length m) (hc' : m.length ≤ c') :
    Calls Try.prog 7 #[.slice A l.length c, .slice B m.length c', .agg #[.int .i64 s, .int .i64 lean, .int .i64 now]] w fun e w' => e = .returned (.bool true) ∧ Ext w w' := by
  by_cases h : 2048 < l.length ∨ 2048 < m.length
  · exact scoreMore_big A B c c' l m s lean now w hr.2.1 hr'.2.1 h
  · exact scoreMore_calls A B c c' l m s lean now w hr hc hr' hc' (by omega) (by omega)
end Go.Proofs.Ythdcalneejhdgaa.Laws
