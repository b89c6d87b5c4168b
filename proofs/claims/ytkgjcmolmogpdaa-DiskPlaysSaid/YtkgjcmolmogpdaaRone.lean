/- The reference of layer 7: rows of sectors as rising lists of slice values; without. -/
import Derived.Test.YtkgjcmolmogpdaaDb
namespace Go.Proofs.Ytkgjcmolmogpdaa.By
open Go.RowKit Go.Proofs.Ytkgjcmolmogpdaa.Reg Go.Proofs.YtkgjcmolmogpdaaW.PrintWords Go.Proofs.YtkgjcmolmogpdaaW.PrintLast Go.Proofs.YtkgjcmolmogpdaaW.PrintMore
set_option linter.unusedVariables false
set_option linter.unusedSimpArgs false


/-- A slice as a value: where, how many, how many there may be. -/
abbrev SlT := Option Addr × Nat × Nat
def slV (t : SlT) : Value := .slice t.1 t.2.1 t.2.2
abbrev kSl : Kd SlT := Kd.scalar slV (fun _ => rfl)
abbrev kP : Kd (Int × SlT) := Kd.pair (Kd.int .i64) kSl
/-- A row of sectors of one's own. -/
abbrev RW (w : World) (B : Nat) (V : Value) (l : List (Int × SlT)) : Prop := Kd.R kP 94 w B (fun _ => True) V l
def pC (p : Int × SlT) : List Value := [.int .i64 p.1, slV p.2]
theorem RW.ext {w w' : World} {B : Nat} {V : Value} {l : List (Int × SlT)} (h : RW w B V l) (he : Ext w w') : RW w' B V l := Kd.R_below h he
theorem RW.lower {w : World} {B B' : Nat} {V : Value} {l : List (Int × SlT)} (h : RW w B V l) (hb : B' ≤ B) : RW w B' V l := Kd.R_lower h hb
theorem RW.reads {w : World} {B : Nat} {V : Value} {l : List (Int × SlT)} (h : RW w B V l) : ∃ A c, V = .slice A l.length c ∧ l.length ≤ c ∧ Kd.C kP w A l.length l := Kd.R_reads h
theorem RW.nil (w : World) (B : Nat) : RW w B (.slice none 0 0) [] := Kd.R_nil _ _ _ _ _
theorem p_M (p : Int × SlT) (w : World) (base : Nat) (ok : Nat → Prop) : kP.M w base ok p (pC p) := ⟨[.int .i64 p.1], [slV p.2], rfl, rfl, rfl⟩
theorem p_K {w : World} {p : Int × SlT} {cs : List Value} (h : kP.K w p cs) : cs = pC p := by
  obtain ⟨c0, c1, e, h0, h1⟩ := h
  have h0' : c0 = [.int .i64 p.1] := h0
  have h1' : c1 = [slV p.2] := h1
  rw [e, h0', h1']
  rfl
theorem p_at {w : World} {A : Option Addr} {n : Nat} {L : List (Int × SlT)} (h : Kd.C kP w A n L) (i : Nat) (hi : i < n) (p : Int × SlT) (hp : L[i]? = some p) : ∃ b off, A = some ⟨b, off, none⟩ ∧ w.rangeAt b (off + i * 2) (pC p) := by
  obtain ⟨ad, rfl, hc⟩ := h.2.2 (by omega)
  obtain ⟨cs, h1, h2, h3⟩ := hc i p hp
  have := p_K h2
  subst this
  have hs : ad.spot = none := by
    have hl0 : 0 < L.length := by rw [h.1]; omega
    obtain ⟨cs0, g1, g2, g3⟩ := hc 0 _ (List.getElem?_eq_getElem hl0)
    have := p_K g2
    subst this
    have := g3 0 _ rfl
    rw [show 0 * kP.sz + 0 = 0 from rfl] at this
    cases hsp : ad.spot with
    | none => rfl
    | some s =>
      exfalso
      simp only [Addr.add, World.cell?] at this
      simp [hsp] at this
      split at this <;> cases this
  obtain ⟨b, off, sp⟩ := ad
  subst hs
  refine ⟨b, off, rfl, fun j v hv => ?_⟩
  have := h3 j v hv
  rw [show kP.sz = 2 from rfl] at this
  unfold Addr.add at this
  split at this
  · rename_i h0
    have e : off + i * 2 + j = off := by omega
    rw [e]
    exact this
  · rw [show off + i * 2 + j = off + (i * 2 + j) by omega]
    exact this
theorem del_take {l : List (Int × SlT)} (x : Nat) (p : Int × SlT) (hp : l[x]? = some p) (i : Int) : delA (l.take (x + 1)) i = delA (l.take x) i ++ (if p.1 = i then [] else [p]) := by
  obtain ⟨hx, e⟩ := List.getElem?_eq_some_iff.1 hp
  rw [List.take_succ_eq_append_getElem hx, e]
  unfold delA
  rw [List.filter_append, List.filter_cons, List.filter_nil]
  by_cases h : p.1 = i
  · simp [h]
  · simp [h]
theorem del_len (l : List (Int × SlT)) (i : Int) : (delA l i).length ≤ l.length := List.length_filter_le _ _
set_option maxRecDepth 100000 in
set_option maxHeartbeats 2000000 in
theorem wo_calls (w : World) (A : Option Addr) (n c : Nat) (l : List (Int × SlT)) (hn : n = l.length) (hr : Kd.C kP w A n l) (hc : n ≤ c) (hl : n ≤ 1000000) (i : Int) :
    Calls Try.prog 78 #[.slice A n c, .int .i64 i] w fun e w' => ∃ V, e = .returned V ∧ RW w' w.heap.size V (delA l i) ∧ Ext w w' := by
  have HN := Aside0.mk hn
  have HR := Aside0.mk hr
  have HIN := Aside0.mk (show (Try.prog.info? 94).map (fun i => (i.zero, i.size, i.bytes)) = some (some (.agg #[.int .i64 0, .slice none 0 0]), 2, 32) by kernel_rfl)
  have HI1 := Aside0.mk (fun (u v : Value) => show (Try.prog.info? 94).map (·.size) = some [u, v].length by kernel_rfl)
  have HE0 := Aside0.mk (Ext.refl w)
  clear hn hr
  go_enter Try.func78, Try.ntmps78
  go_wp2_with fail
  go_loopw [5, 6] (fun v j wr => ∃ x : Nat, j = .int .i64 x ∧ Aside0 (x ≤ n) ∧ Aside0 (RW wr w.heap.size v (delA (l.take x) i)) ∧ Aside0 (Ext w wr)) (fun _ j _ => n - (intOf j).toNat)
  case atStart => exact ⟨0, rfl, ⟨Nat.zero_le _⟩, ⟨RW.nil _ _⟩, HE0⟩
  case round =>
    clear HE0
    obtain ⟨x, rfl, HX, HV, HE⟩ := hrel
    have g1 := HX.out
    obtain ⟨wx, hwx⟩ : ∃ wx : World, wx = wr := ⟨_, rfl⟩
    subst hwx
    obtain ⟨V, hV⟩ : ∃ V, V = u5 := ⟨_, rfl⟩
    subst hV
    obtain ⟨A1, C1, hV1, _, _⟩ := HV.out.reads
    obtain ⟨N1, hN1⟩ : ∃ N1, N1 = (delA (l.take x) i).length := ⟨_, rfl⟩
    rw [← hN1] at hV1
    subst hV1
    have HLN := Aside0.mk (show (delA (l.take x) i).length ≤ n from Nat.le_trans (del_len _ _) (by rw [List.length_take]; omega))
    clear hN1
    by_cases hlt : x < n
    · have HLT := Aside0.mk hlt
      have hxe : x < l.length := by have := HN.out; omega
      have hget : l[x]? = some l[x] := List.getElem?_eq_getElem hxe
      obtain ⟨b, off, hA, hrg⟩ := p_at (Kd.C_below HR.out HE.out) x hlt _ hget
      have hdt := del_take x _ hget i
      generalize l[x] = p at hrg hdt
      obtain ⟨pi, ps⟩ := p
      subst hA
      have hcell : wx.cell? ⟨b, off + x * 2, none⟩ = some (.int .i64 pi) := hrg 0 _ rfl
      have HG1 := Aside0.mk (show wx.rangeAt b (off + x * 2) [.int .i64 pi, slV ps] from hrg)
      have HBS := Aside0.mk (show w.heap.size ≤ wx.heap.size from HE.out.size)
      have HDT := Aside0.mk hdt
      have HL1 := Aside0.mk (show ((delA (l.take x) i).length + 1) * 32 ≤ 140737488355328 from by have := HLN.out; omega)
      clear hrg hdt hget hxe
      by_cases hpi : pi = i
      · subst hpi
        have HV1 := Aside0.mk (show RW wx w.heap.size (.slice A1 N1 C1) (delA (l.take (x + 1)) pi) from by rw [HDT.out, if_pos rfl, List.append_nil]; exact HV.out)
        clear HDT HV HL1
        go_wp2_with fail
        go_roundw
        case rel => exact ⟨x + 1, by go_num, ⟨hlt⟩, HV1, HE⟩
        case measure => have := HLT.out; simp only [intOf]; omega
      · have hpb : (pi == i) = false := by simpa using hpi
        have HPI := Aside0.mk hpi
        go_wp2_with (first | ((with_reducible refine gate_load (ty := 94) rfl ?_); refine load_at rfl 94 _ rfl b (off + x * 2) rfl [.int .i64 pi, slV ps] _ HG1.out Try.underlying94 rfl (HI1.out _ _) ?_) | (at_builtin; refine Kd.R_append kP (w0 := wx) w.heap.size rfl (.tmp 20) (.tmp 25) 80 94 (.agg #[.int .i64 0, .slice none 0 0]) 32 rfl Try.underlying80 HIN.out rfl (by decide) (by decide) (.slice A1 N1 C1) (delA (l.take x) i) (pi, ps) (pC (pi, ps)) (fun _ => True) (fun _ => False) rfl rfl (p_M (pi, ps) wx w.heap.size (fun _ => False)) (fun _ hk => hk.elim) (fun _ _ => trivial) HV.out (Below.refl _ _) HBS.out HL1.out ?_) | fail)
        intro V1 w1 hR hBl _ _
        have HV1 := Aside0.mk (show RW w1 w.heap.size V1 (delA (l.take (x + 1)) i) from by rw [HDT.out, if_neg HPI.out]; exact hR)
        have HE1 := Aside0.mk (show Ext w w1 from Below.trans HE.out hBl)
        clear hR hBl
        go_wp2_with fail
        go_roundw
        case rel => exact ⟨x + 1, by go_num, ⟨hlt⟩, HV1, HE1⟩
        case measure => have := HLT.out; simp only [intOf]; omega
    · have HFV := Aside0.mk (show RW wx w.heap.size (.slice A1 N1 C1) (delA l i) from by
        have := HV.out
        rwa [List.take_of_length_le (by have := HN.out; omega)] at this)
      clear HV
      go_wp2_with fail
      go_ret
      exact ⟨_, rfl, HFV.out, HE.out⟩
end Go.Proofs.Ytkgjcmolmogpdaa.By

/- The reference of layer 7: put. -/
namespace Go.Proofs.Ytkgjcmolmogpdaa.By
open Go.RowKit Go.Proofs.Ytkgjcmolmogpdaa.Reg Go.Proofs.YtkgjcmolmogpdaaW.PrintWords Go.Proofs.YtkgjcmolmogpdaaW.PrintLast Go.Proofs.YtkgjcmolmogpdaaW.PrintMore
set_option linter.unusedVariables false
set_option linter.unusedSimpArgs false


abbrev PP := Int × SlT
theorem ins_skip (p : PP) : ∀ (a b : List PP), (∀ q ∈ a, ¬ p.1 < q.1) → insA p (a ++ b) = a ++ insA p b
  | [], b, _ => rfl
  | y :: r, b, h => by
    rw [List.cons_append, insA, if_neg (h y (List.mem_cons_self ..)), ins_skip p r b (fun q hq => h q (List.mem_cons_of_mem _ hq))]
    rfl
def PI (p : PP) (m : List PP) (x : Nat) (pl : Bool) (v : List PP) : Prop :=
  (pl = false → v = m.take x ∧ ∀ q ∈ m.take x, ¬ p.1 < q.1) ∧ (pl = true → ∃ k, k ≤ x ∧ v = m.take k ++ p :: (m.take x).drop k ∧ insA p m = m.take k ++ p :: m.drop k)
theorem PI.zero (p : PP) (m : List PP) : PI p m 0 false [] := ⟨fun _ => ⟨rfl, fun q hq => by cases hq⟩, fun h => by cases h⟩
theorem PI.a {p q : PP} {m : List PP} {x : Nat} {v : List PP} (h : PI p m x false v) (hq : m[x]? = some q) (hlt : p.1 < q.1) : PI p m (x + 1) true ((v ++ [p]) ++ [q]) := by
  obtain ⟨h1, h2⟩ := h.1 rfl
  obtain ⟨hx, e⟩ := List.getElem?_eq_some_iff.1 hq
  have hl : (m.take x).length = x := by rw [List.length_take]; omega
  refine ⟨fun h => (by cases h), fun _ => ⟨x, Nat.le_succ x, ?_, ?_⟩⟩
  · rw [List.take_succ_eq_append_getElem hx, e, List.drop_append_of_le_length (by omega), List.drop_of_length_le (by omega), h1]
    simp
  · have hm : m = m.take x ++ q :: m.drop (x + 1) := by
      rw [← e, ← List.drop_eq_getElem_cons hx, List.take_append_drop]
    have hd : m.drop x = q :: m.drop (x + 1) := by rw [List.drop_eq_getElem_cons hx, e]
    rw [hd]
    conv => lhs; rw [hm]
    rw [ins_skip p _ _ h2, insA, if_pos hlt]
theorem PI.b {p q : PP} {m : List PP} {x : Nat} {v : List PP} (h : PI p m x false v) (hq : m[x]? = some q) (hlt : ¬ p.1 < q.1) : PI p m (x + 1) false (v ++ [q]) := by
  obtain ⟨h1, h2⟩ := h.1 rfl
  obtain ⟨hx, e⟩ := List.getElem?_eq_some_iff.1 hq
  refine ⟨fun _ => ⟨by rw [h1, List.take_succ_eq_append_getElem hx, e], fun r hr => ?_⟩, fun h => (by cases h)⟩
  rw [List.take_succ_eq_append_getElem hx, e] at hr
  rcases List.mem_append.1 hr with h3 | h3
  · exact h2 r h3
  · rw [List.mem_singleton.1 h3]; exact hlt
theorem PI.c {p q : PP} {m : List PP} {x : Nat} {v : List PP} (h : PI p m x true v) (hq : m[x]? = some q) : PI p m (x + 1) true (v ++ [q]) := by
  obtain ⟨k, hk, h1, h2⟩ := h.2 rfl
  obtain ⟨hx, e⟩ := List.getElem?_eq_some_iff.1 hq
  refine ⟨fun h => (by cases h), fun _ => ⟨k, by omega, ?_, h2⟩⟩
  rw [h1, List.take_succ_eq_append_getElem hx, e, List.drop_append_of_le_length (by rw [List.length_take]; omega)]
  simp
theorem PI.endF {p : PP} {m : List PP} {v : List PP} (h : PI p m m.length false v) : v ++ [p] = insA p m := by
  obtain ⟨h1, h2⟩ := h.1 rfl
  rw [List.take_length] at h1 h2
  have := ins_skip p m [] h2
  rw [List.append_nil] at this
  rw [this, h1]
  rfl
theorem PI.endT {p : PP} {m : List PP} {v : List PP} (h : PI p m m.length true v) : v = insA p m := by
  obtain ⟨k, hk, h1, h2⟩ := h.2 rfl
  rw [List.take_length] at h1
  rw [h1, h2]
theorem rangeAt_below {w w' : World} {b o B : Nat} {cs : List Value} (h : w.rangeAt b o cs) (hb : b < B) (k : Below B w w') : w'.rangeAt b o cs := fun j v hv => (Below.cell k (p := ⟨b, o + j, none⟩) hb).trans (h j v hv)
theorem blk94 {w : World} {b : Nat} {u v : Value} (h : Blk w b #[u, v] 94) : w.rangeAt b 0 [u, v] := h.whole
set_option maxRecDepth 100000 in
set_option maxHeartbeats 2000000 in
theorem put_calls (w : World) (A : Option Addr) (n c : Nat) (l : List PP) (hn : n = l.length) (hr : Kd.C kP w A n l) (hc : n ≤ c) (hl : n ≤ 1000000) (i : Int) (s : SlT) :
    Calls Try.prog 75 #[.slice A n c, .agg #[.int .i64 i, slV s]] w fun e w' => ∃ V, e = .returned V ∧ RW w' w.heap.size V (putA l i s) ∧ Ext w w' := by
  have HIN := Aside0.mk (show (Try.prog.info? 94).map (fun i => (i.zero, i.size, i.bytes)) = some (some (.agg #[.int .i64 0, .slice none 0 0]), 2, 32) by kernel_rfl)
  have HI1 := Aside0.mk (fun (u v : Value) => show (Try.prog.info? 94).map (·.size) = some [u, v].length by kernel_rfl)
  obtain ⟨sv, hsv⟩ : ∃ sv, sv = slV s := ⟨_, rfl⟩
  have HSV := Aside0.mk hsv
  rw [← hsv]
  have hone : sv.oneCell' = true := by rw [hsv]; rfl
  have hE0 := (Ext.refl w).alloc (.cells #[.int .i64 i, sv] 94)
  have HB0 := Aside0.mk (Blk.new w #[.int .i64 i, sv] 94)
  have HWO := Aside0.mk (wo_calls (w.alloc (.cells #[.int .i64 i, sv] 94)) A n c l hn (Kd.C_below hr hE0) hc hl i)
  have HE0 := Aside0.mk hE0
  have HLEN := Aside0.mk (show (delA l i).length ≤ 1000000 from by have := del_len l i; omega)
  clear hsv hE0 hr hn
  go_enter Try.func75, Try.ntmps75
  go_wp2_with fail
  refine HWO.out.mono ?_
  rintro e w1 ⟨V0, rfl, hV, hE⟩
  obtain ⟨m, hm⟩ : ∃ m, m = delA l i := ⟨_, rfl⟩
  rw [← hm] at hV HLEN
  have HMM := Aside0.mk hm
  have HE1 := Aside0.mk (HE0.out.trans hE)
  have HBX := Aside0.mk (HB0.out.ext hE)
  obtain ⟨A0, c0, hV0, hc0, hC0⟩ := hV.reads
  obtain ⟨n0, hn0⟩ : ∃ n0, n0 = m.length := ⟨_, rfl⟩
  rw [← hn0] at hV0 hc0 hC0
  subst hV0
  have HN0 := Aside0.mk hn0
  have HC0 := Aside0.mk hC0
  clear hV hE hm hn0 hC0 HWO HE0 HB0
  have HBX1 := Aside0.mk (show w.heap.size ≤ w1.heap.size from HE1.out.size)
  obtain ⟨bx, hbx⟩ : ∃ bx, bx = w.heap.size := ⟨_, rfl⟩
  have HBXE := Aside0.mk hbx
  rw [← hbx] at HBX ⊢
  clear hbx
  obtain ⟨p, hp⟩ : ∃ p : PP, p = (i, s) := ⟨_, rfl⟩
  have HP := Aside0.mk hp
  clear hp
  have HZ := Aside0.mk (PI.zero p m)
  go_wp2_with fail
  go_loopw [5, 6, 7] (fun v pv j wr => ∃ (x : Nat) (pl : Bool), j = .int .i64 x ∧ pv = .bool pl ∧ Aside0 (x ≤ n0) ∧ (∃ vL, Aside0 (RW wr w1.heap.size v vL) ∧ Aside0 (PI p m x pl vL) ∧ Aside0 (vL.length ≤ x + 1)) ∧ Aside0 (Ext w1 wr)) (fun _ _ j _ => n0 - (intOf j).toNat)
  case atStart => exact ⟨0, false, rfl, rfl, ⟨Nat.zero_le _⟩, ⟨[], ⟨RW.nil _ _⟩, HZ, ⟨Nat.zero_le _⟩⟩, ⟨Ext.refl _⟩⟩
  case round =>
    clear HZ
    obtain ⟨x, pl, rfl, rfl, HX, ⟨vL, HV, HPI, HVL⟩, HE⟩ := hrel
    have g1 := HX.out
    obtain ⟨wx, hwx⟩ : ∃ wx : World, wx = wr := ⟨_, rfl⟩
    subst hwx
    obtain ⟨V, hV⟩ : ∃ V, V = u5 := ⟨_, rfl⟩
    subst hV
    obtain ⟨A1, C1, hV1, _, _⟩ := HV.out.reads
    obtain ⟨N1, hN1⟩ : ∃ N1, N1 = vL.length := ⟨_, rfl⟩
    rw [← hN1] at hV1
    subst hV1
    clear hN1
    have HLN := Aside0.mk (show n0 ≤ 1000000 from by rw [HN0.out]; exact HLEN.out)
    have HBS := Aside0.mk (show w1.heap.size ≤ wx.heap.size from HE.out.size)
    have hbx := HBX.out.ext HE.out
    have HGX := Aside0.mk (blk94 hbx)
    have hcx : wx.cell? ⟨bx, 0, none⟩ = some (.int .i64 i) := hbx.cell 0 rfl
    clear hbx
    by_cases hlt : x < n0
    · have HLT := Aside0.mk hlt
      have gx : x < 1000000 := by have := HLN.out; omega
      have hxe : x < m.length := by have := HN0.out; omega
      have hget : m[x]? = some m[x] := List.getElem?_eq_getElem hxe
      obtain ⟨b, off, hA, hrg1⟩ := p_at HC0.out x hlt _ hget
      have hrg := rangeAt_ext hrg1 HE.out
      have HBLT := Aside0.mk (show b < w1.heap.size from World.block_lt_of_cell? _ _ (hrg1 0 _ rfl))
      clear hrg1
      generalize m[x] = q at hrg hget
      obtain ⟨qi, qs⟩ := q
      subst hA
      have HGET := Aside0.mk hget
      have hcell : wx.cell? ⟨b, off + x * 2, none⟩ = some (.int .i64 qi) := hrg 0 _ rfl
      obtain ⟨qv, hqv⟩ : ∃ qv, qv = slV qs := ⟨_, rfl⟩
      have HQV := Aside0.mk hqv
      have HG1 := Aside0.mk (show wx.rangeAt b (off + x * 2) [.int .i64 qi, qv] from by rw [hqv]; exact hrg)
      have HL1 := Aside0.mk (show (vL.length + 1) * 32 ≤ 140737488355328 from by have := HVL.out; have := HLN.out; omega)
      have HL2 := Aside0.mk (show ((vL ++ [p]).length + 1) * 32 ≤ 140737488355328 from by rw [List.length_append]; have := HVL.out; have := HLN.out; simp only [List.length_singleton]; omega)
      have HCC := Aside0.mk hcell
      clear hrg hget hxe hqv
      cases pl with
      | true =>
        go_wp2_with fail
        apply wp_region_facts 12 [RF.val _, RF.val _, RF.val _, RF.val _, RF.val _, RF.val _, RF.val _, RF.val _, RF.val _, RF.val _, RF.val _, RF.val _]
        case hm => kernel_rfl
        case hB => kernel_rfl
        simp only [List.take_succ_cons, List.take_zero, List.zip_cons_cons, List.zip_nil_left]
        (first | refine wpF_val rfl (fun w' hE hD => by unfold Yld; go_simp; exact ⟨Ext.refl _, rfl⟩) ?_ | refine wpF_valg (by rfl) (fun w' hE hD => by unfold Yld; go_simp; exact ⟨Ext.refl _, rfl⟩) ?_)
        (try simp only [Act.put, List.setIfInBounds_toArray, List.set_cons_zero, List.set_cons_succ])
        (first | refine wpF_val rfl (fun w' hE hD => by unfold Yld; go_simp; exact ⟨Ext.refl _, rfl⟩) ?_ | refine wpF_valg (by rfl) (fun w' hE hD => by unfold Yld; go_simp; exact ⟨Ext.refl _, rfl⟩) ?_)
        (try simp only [Act.put, List.setIfInBounds_toArray, List.set_cons_zero, List.set_cons_succ])
        (first | refine wpF_val rfl (fun w' hE hD => by unfold Yld; go_simp; exact ⟨Ext.refl _, rfl⟩) ?_ | refine wpF_valg (by rfl) (fun w' hE hD => by unfold Yld; go_simp; exact ⟨Ext.refl _, rfl⟩) ?_)
        (try simp only [Act.put, List.setIfInBounds_toArray, List.set_cons_zero, List.set_cons_succ])
        refine wpF_skip (by rfl) ?_
        (try simp only [Act.put, List.setIfInBounds_toArray, List.set_cons_zero, List.set_cons_succ])
        refine wpF_skip (by rfl) ?_
        (try simp only [Act.put, List.setIfInBounds_toArray, List.set_cons_zero, List.set_cons_succ])
        refine wpF_skip (by rfl) ?_
        (try simp only [Act.put, List.setIfInBounds_toArray, List.set_cons_zero, List.set_cons_succ])
        refine wpF_skip (by rfl) ?_
        (try simp only [Act.put, List.setIfInBounds_toArray, List.set_cons_zero, List.set_cons_succ])
        refine wpF_skip (by rfl) ?_
        (try simp only [Act.put, List.setIfInBounds_toArray, List.set_cons_zero, List.set_cons_succ])
        refine wpF_skip (by rfl) ?_
        (try simp only [Act.put, List.setIfInBounds_toArray, List.set_cons_zero, List.set_cons_succ])
        refine wpF_skip (by rfl) ?_
        (try simp only [Act.put, List.setIfInBounds_toArray, List.set_cons_zero, List.set_cons_succ])
        refine wpF_skip (by rfl) ?_
        (try simp only [Act.put, List.setIfInBounds_toArray, List.set_cons_zero, List.set_cons_succ])
        (first | refine wpF_val rfl (fun w' hE hD => by unfold Yld; go_simp; exact ⟨Ext.refl _, rfl⟩) ?_ | refine wpF_valg (by rfl) (fun w' hE hD => by unfold Yld; go_simp; exact ⟨Ext.refl _, rfl⟩) ?_)
        (try simp only [Act.put, List.setIfInBounds_toArray, List.set_cons_zero, List.set_cons_succ])
        refine wpF_nil fun wd hEd hA => ?_
        simp only [List.drop_succ_cons, List.drop_zero, List.drop_nil]
        clear hA
        have HEd := Aside0.mk (HE.out.trans hEd)
        have HVd := Aside0.mk (HV.out.ext hEd)
        have HGd := Aside0.mk (rangeAt_ext HG1.out hEd)
        have HBd := Aside0.mk (show w1.heap.size ≤ wd.heap.size from HEd.out.size)
        clear hEd HE HV HG1 hcell hcx HBS HGX
        go_wp2_with (first | ((with_reducible refine gate_load (ty := 94) rfl ?_); refine load_at rfl 94 _ rfl b (off + x * 2) rfl [.int .i64 qi, qv] _ HGd.out Try.underlying94 rfl (HI1.out _ _) ?_) | (at_builtin; refine Kd.R_append kP (w0 := wd) w1.heap.size rfl (.tmp 34) (.tmp 39) 80 94 (.agg #[.int .i64 0, .slice none 0 0]) 32 rfl Try.underlying80 HIN.out rfl (by decide) (by decide) (.slice A1 N1 C1) vL (qi, qs) [.int .i64 qi, qv] (fun _ => True) (fun _ => False) rfl rfl (by first | exact p_M _ wd _ _ | (rw [HQV.out]; exact p_M _ wd _ _)) (fun _ hk => hk.elim) (fun _ _ => trivial) HVd.out (Below.refl _ _) HBd.out HL1.out ?_) | fail)
        intro V1 w2 hR hBl _ _
        have HV2 := Aside0.mk (show RW w2 w1.heap.size V1 (vL ++ [(qi, qs)]) from hR)
        have HE2 := Aside0.mk (show Ext w1 w2 from Below.trans HEd.out hBl)
        have HP2 := Aside0.mk (HPI.out.c HGET.out)
        clear hR hBl
        go_wp2_with fail
        go_roundw
        case rel => exact ⟨x + 1, true, by go_num, rfl, ⟨hlt⟩, ⟨_, HV2, HP2, ⟨by rw [List.length_append]; have := HVL.out; simp only [List.length_singleton]; omega⟩⟩, HE2⟩
        case measure => have := HLT.out; simp only [intOf]; omega
      | false =>
        by_cases hgt : i < qi
        · have hgd : decide (i < qi) = true := decide_eq_true hgt
          go_wp2_with fail
          apply wp_region_facts 12 [RF.val _, RF.val _, RF.val _, RF.val _, RF.val _, RF.val _, RF.val _, RF.val _, RF.val _, RF.val _, RF.val _, RF.val _]
          case hm => kernel_rfl
          case hB => kernel_rfl
          simp only [List.take_succ_cons, List.take_zero, List.zip_cons_cons, List.zip_nil_left]
          (first | refine wpF_val rfl (fun w' hE hD => by unfold Yld; go_simp; exact ⟨Ext.refl _, rfl⟩) ?_ | refine wpF_valg (by rfl) (fun w' hE hD => by unfold Yld; go_simp; exact ⟨Ext.refl _, rfl⟩) ?_)
          (try simp only [Act.put, List.setIfInBounds_toArray, List.set_cons_zero, List.set_cons_succ])
          (first | refine wpF_val rfl (fun w' hE hD => by unfold Yld; go_simp; exact ⟨Ext.refl _, rfl⟩) ?_ | refine wpF_valg (by rfl) (fun w' hE hD => by unfold Yld; go_simp; exact ⟨Ext.refl _, rfl⟩) ?_)
          (try simp only [Act.put, List.setIfInBounds_toArray, List.set_cons_zero, List.set_cons_succ])
          (first | refine wpF_val rfl (fun w' hE hD => by unfold Yld; go_simp; exact ⟨Ext.refl _, rfl⟩) ?_ | refine wpF_valg (by rfl) (fun w' hE hD => by unfold Yld; go_simp; exact ⟨Ext.refl _, rfl⟩) ?_)
          (try simp only [Act.put, List.setIfInBounds_toArray, List.set_cons_zero, List.set_cons_succ])
          (first | refine wpF_val rfl (fun w' hE hD => by unfold Yld; go_simp; exact ⟨Ext.refl _, rfl⟩) ?_ | refine wpF_valg (by rfl) (fun w' hE hD => by unfold Yld; go_simp; exact ⟨Ext.refl _, rfl⟩) ?_)
          (try simp only [Act.put, List.setIfInBounds_toArray, List.set_cons_zero, List.set_cons_succ])
          (first | refine wpF_val rfl (fun w' hE hD => by unfold Yld; go_simp; exact ⟨Ext.refl _, rfl⟩) ?_ | refine wpF_valg (by rfl) (fun w' hE hD => by unfold Yld; go_simp; exact ⟨Ext.refl _, rfl⟩) ?_)
          (try simp only [Act.put, List.setIfInBounds_toArray, List.set_cons_zero, List.set_cons_succ])
          (first | refine wpF_val rfl (fun w' hE hD => by unfold Yld; go_simp; exact ⟨Ext.refl _, rfl⟩) ?_ | refine wpF_valg (by rfl) (fun w' hE hD => by unfold Yld; go_simp; exact ⟨Ext.refl _, rfl⟩) ?_)
          (try simp only [Act.put, List.setIfInBounds_toArray, List.set_cons_zero, List.set_cons_succ])
          (first | refine wpF_val rfl (fun w' hE hD => by unfold Yld; go_simp; exact ⟨Ext.refl _, rfl⟩) ?_ | refine wpF_valg (by rfl) (fun w' hE hD => by unfold Yld; go_simp; exact ⟨Ext.refl _, rfl⟩) ?_)
          (try simp only [Act.put, List.setIfInBounds_toArray, List.set_cons_zero, List.set_cons_succ])
          (first | refine wpF_val rfl (fun w' hE hD => by have hq := Ext.cell hE hcell; have hq2 := Ext.cell hE hcx; unfold Yld; go_simp; exact ⟨Ext.refl _, rfl⟩) ?_ | refine wpF_valg (by rfl) (fun w' hE hD => by have hq := Ext.cell hE hcell; have hq2 := Ext.cell hE hcx; unfold Yld; go_simp; exact ⟨Ext.refl _, rfl⟩) ?_)
          (try simp only [Act.put, List.setIfInBounds_toArray, List.set_cons_zero, List.set_cons_succ])
          (first | refine wpF_val rfl (fun w' hE hD => by unfold Yld; go_simp; exact ⟨Ext.refl _, rfl⟩) ?_ | refine wpF_valg (by rfl) (fun w' hE hD => by unfold Yld; go_simp; exact ⟨Ext.refl _, rfl⟩) ?_)
          (try simp only [Act.put, List.setIfInBounds_toArray, List.set_cons_zero, List.set_cons_succ])
          (first | refine wpF_val rfl (fun w' hE hD => by have hq := Ext.cell hE hcell; have hq2 := Ext.cell hE hcx; unfold Yld; go_simp; exact ⟨Ext.refl _, rfl⟩) ?_ | refine wpF_valg (by rfl) (fun w' hE hD => by have hq := Ext.cell hE hcell; have hq2 := Ext.cell hE hcx; unfold Yld; go_simp; exact ⟨Ext.refl _, rfl⟩) ?_)
          (try simp only [Act.put, List.setIfInBounds_toArray, List.set_cons_zero, List.set_cons_succ])
          (first | refine wpF_val rfl (fun w' hE hD => by unfold Yld; go_simp; exact ⟨Ext.refl _, rfl⟩) ?_ | refine wpF_valg (by rfl) (fun w' hE hD => by unfold Yld; go_simp; exact ⟨Ext.refl _, rfl⟩) ?_)
          (try simp only [Act.put, List.setIfInBounds_toArray, List.set_cons_zero, List.set_cons_succ])
          (first | refine wpF_val rfl (fun w' hE hD => by unfold Yld; go_simp; exact ⟨Ext.refl _, rfl⟩) ?_ | refine wpF_valg (by rfl) (fun w' hE hD => by unfold Yld; go_simp; exact ⟨Ext.refl _, rfl⟩) ?_)
          (try simp only [Act.put, List.setIfInBounds_toArray, List.set_cons_zero, List.set_cons_succ])
          refine wpF_nil fun wd hEd hA => ?_
          simp only [List.drop_succ_cons, List.drop_zero, List.drop_nil]
          clear hA
          have HEd := Aside0.mk (HE.out.trans hEd)
          have HVd := Aside0.mk (HV.out.ext hEd)
          have HGd := Aside0.mk (rangeAt_ext HG1.out hEd)
          have HXd := Aside0.mk (rangeAt_ext HGX.out hEd)
          have HBd := Aside0.mk (show w1.heap.size ≤ wd.heap.size from HEd.out.size)
          have HGT := Aside0.mk hgt
          clear hEd HE HV HG1 hcell hcx HBS HGX
          go_wp2_with (first | ((with_reducible refine gate_load (ty := 94) rfl ?_); refine load_at rfl 94 _ rfl bx 0 rfl [.int .i64 i, sv] _ HXd.out Try.underlying94 rfl (HI1.out _ _) ?_) | (at_builtin; refine Kd.R_append kP (w0 := wd) w1.heap.size rfl (.tmp 30) (.tmp 32) 80 94 (.agg #[.int .i64 0, .slice none 0 0]) 32 rfl Try.underlying80 HIN.out rfl (by decide) (by decide) (.slice A1 N1 C1) vL (i, s) [.int .i64 i, sv] (fun _ => True) (fun _ => False) rfl rfl (by first | exact p_M _ wd _ _ | (rw [HSV.out]; exact p_M _ wd _ _)) (fun _ hk => hk.elim) (fun _ _ => trivial) HVd.out (Below.refl _ _) HBd.out HL1.out ?_) | fail)
          intro V1 w2 hR hBl _ _
          have HV2 := Aside0.mk (show RW w2 w1.heap.size V1 (vL ++ [p]) from by rw [HP.out]; exact hR)
          have HE2 := Aside0.mk (show Ext w1 w2 from Below.trans HEd.out hBl)
          have HGe := Aside0.mk (show w2.rangeAt b (off + x * 2) [.int .i64 qi, qv] from rangeAt_below HGd.out HBLT.out hBl)
          have HBe := Aside0.mk (show w1.heap.size ≤ w2.heap.size from HE2.out.size)
          clear hR hBl HVd HGd HXd HBd HEd
          go_wp2_with (first | ((with_reducible refine gate_load (ty := 94) rfl ?_); refine load_at rfl 94 _ rfl b (off + x * 2) rfl [.int .i64 qi, qv] _ HGe.out Try.underlying94 rfl (HI1.out _ _) ?_) | (at_builtin; refine Kd.R_append kP (w0 := w2) w1.heap.size rfl (.tmp 34) (.tmp 39) 80 94 (.agg #[.int .i64 0, .slice none 0 0]) 32 rfl Try.underlying80 HIN.out rfl (by decide) (by decide) V1 (vL ++ [p]) (qi, qs) [.int .i64 qi, qv] (fun _ => True) (fun _ => False) rfl rfl (by first | exact p_M _ w2 _ _ | (rw [HQV.out]; exact p_M _ w2 _ _)) (fun _ hk => hk.elim) (fun _ _ => trivial) HV2.out (Below.refl _ _) HBe.out HL2.out ?_) | fail)
          intro V2 w3 hR hBl _ _
          have HV3 := Aside0.mk (show RW w3 w1.heap.size V2 ((vL ++ [p]) ++ [(qi, qs)]) from by rw [List.append_assoc]; exact hR)
          have HE3 := Aside0.mk (show Ext w1 w3 from Below.trans HE2.out hBl)
          have HP2 := Aside0.mk (HPI.out.a HGET.out (show p.1 < ((qi, qs) : PP).1 from by rw [HP.out]; exact HGT.out))
          have HVN := Aside0.mk (show vL.length ≤ x from by
            obtain ⟨h1, _⟩ := HPI.out.1 rfl
            rw [h1, List.length_take]
            omega)
          clear hR hBl
          go_wp2_with fail
          go_roundw
          case rel => exact ⟨x + 1, true, by go_num, rfl, ⟨hlt⟩, ⟨_, HV3, HP2, ⟨by rw [List.length_append, List.length_append]; have := HVN.out; simp only [List.length_singleton]; omega⟩⟩, HE3⟩
          case measure => have := HLT.out; simp only [intOf]; omega
        · have hgd : decide (i < qi) = false := decide_eq_false hgt
          go_wp2_with fail
          apply wp_region_facts 12 [RF.val _, RF.val _, RF.val _, RF.val _, RF.val _, RF.val _, RF.val _, RF.val _, RF.val _, RF.val _, RF.val _, RF.val _]
          case hm => kernel_rfl
          case hB => kernel_rfl
          simp only [List.take_succ_cons, List.take_zero, List.zip_cons_cons, List.zip_nil_left]
          (first | refine wpF_val rfl (fun w' hE hD => by unfold Yld; go_simp; exact ⟨Ext.refl _, rfl⟩) ?_ | refine wpF_valg (by rfl) (fun w' hE hD => by unfold Yld; go_simp; exact ⟨Ext.refl _, rfl⟩) ?_)
          (try simp only [Act.put, List.setIfInBounds_toArray, List.set_cons_zero, List.set_cons_succ])
          (first | refine wpF_val rfl (fun w' hE hD => by unfold Yld; go_simp; exact ⟨Ext.refl _, rfl⟩) ?_ | refine wpF_valg (by rfl) (fun w' hE hD => by unfold Yld; go_simp; exact ⟨Ext.refl _, rfl⟩) ?_)
          (try simp only [Act.put, List.setIfInBounds_toArray, List.set_cons_zero, List.set_cons_succ])
          (first | refine wpF_val rfl (fun w' hE hD => by unfold Yld; go_simp; exact ⟨Ext.refl _, rfl⟩) ?_ | refine wpF_valg (by rfl) (fun w' hE hD => by unfold Yld; go_simp; exact ⟨Ext.refl _, rfl⟩) ?_)
          (try simp only [Act.put, List.setIfInBounds_toArray, List.set_cons_zero, List.set_cons_succ])
          (first | refine wpF_val rfl (fun w' hE hD => by unfold Yld; go_simp; exact ⟨Ext.refl _, rfl⟩) ?_ | refine wpF_valg (by rfl) (fun w' hE hD => by unfold Yld; go_simp; exact ⟨Ext.refl _, rfl⟩) ?_)
          (try simp only [Act.put, List.setIfInBounds_toArray, List.set_cons_zero, List.set_cons_succ])
          (first | refine wpF_val rfl (fun w' hE hD => by unfold Yld; go_simp; exact ⟨Ext.refl _, rfl⟩) ?_ | refine wpF_valg (by rfl) (fun w' hE hD => by unfold Yld; go_simp; exact ⟨Ext.refl _, rfl⟩) ?_)
          (try simp only [Act.put, List.setIfInBounds_toArray, List.set_cons_zero, List.set_cons_succ])
          (first | refine wpF_val rfl (fun w' hE hD => by unfold Yld; go_simp; exact ⟨Ext.refl _, rfl⟩) ?_ | refine wpF_valg (by rfl) (fun w' hE hD => by unfold Yld; go_simp; exact ⟨Ext.refl _, rfl⟩) ?_)
          (try simp only [Act.put, List.setIfInBounds_toArray, List.set_cons_zero, List.set_cons_succ])
          (first | refine wpF_val rfl (fun w' hE hD => by unfold Yld; go_simp; exact ⟨Ext.refl _, rfl⟩) ?_ | refine wpF_valg (by rfl) (fun w' hE hD => by unfold Yld; go_simp; exact ⟨Ext.refl _, rfl⟩) ?_)
          (try simp only [Act.put, List.setIfInBounds_toArray, List.set_cons_zero, List.set_cons_succ])
          (first | refine wpF_val rfl (fun w' hE hD => by have hq := Ext.cell hE hcell; have hq2 := Ext.cell hE hcx; unfold Yld; go_simp; exact ⟨Ext.refl _, rfl⟩) ?_ | refine wpF_valg (by rfl) (fun w' hE hD => by have hq := Ext.cell hE hcell; have hq2 := Ext.cell hE hcx; unfold Yld; go_simp; exact ⟨Ext.refl _, rfl⟩) ?_)
          (try simp only [Act.put, List.setIfInBounds_toArray, List.set_cons_zero, List.set_cons_succ])
          (first | refine wpF_val rfl (fun w' hE hD => by unfold Yld; go_simp; exact ⟨Ext.refl _, rfl⟩) ?_ | refine wpF_valg (by rfl) (fun w' hE hD => by unfold Yld; go_simp; exact ⟨Ext.refl _, rfl⟩) ?_)
          (try simp only [Act.put, List.setIfInBounds_toArray, List.set_cons_zero, List.set_cons_succ])
          (first | refine wpF_val rfl (fun w' hE hD => by have hq := Ext.cell hE hcell; have hq2 := Ext.cell hE hcx; unfold Yld; go_simp; exact ⟨Ext.refl _, rfl⟩) ?_ | refine wpF_valg (by rfl) (fun w' hE hD => by have hq := Ext.cell hE hcell; have hq2 := Ext.cell hE hcx; unfold Yld; go_simp; exact ⟨Ext.refl _, rfl⟩) ?_)
          (try simp only [Act.put, List.setIfInBounds_toArray, List.set_cons_zero, List.set_cons_succ])
          (first | refine wpF_val rfl (fun w' hE hD => by unfold Yld; go_simp; exact ⟨Ext.refl _, rfl⟩) ?_ | refine wpF_valg (by rfl) (fun w' hE hD => by unfold Yld; go_simp; exact ⟨Ext.refl _, rfl⟩) ?_)
          (try simp only [Act.put, List.setIfInBounds_toArray, List.set_cons_zero, List.set_cons_succ])
          (first | refine wpF_val rfl (fun w' hE hD => by unfold Yld; go_simp; exact ⟨Ext.refl _, rfl⟩) ?_ | refine wpF_valg (by rfl) (fun w' hE hD => by unfold Yld; go_simp; exact ⟨Ext.refl _, rfl⟩) ?_)
          (try simp only [Act.put, List.setIfInBounds_toArray, List.set_cons_zero, List.set_cons_succ])
          refine wpF_nil fun wd hEd hA => ?_
          simp only [List.drop_succ_cons, List.drop_zero, List.drop_nil]
          clear hA
          have HEd := Aside0.mk (HE.out.trans hEd)
          have HVd := Aside0.mk (HV.out.ext hEd)
          have HGd := Aside0.mk (rangeAt_ext HG1.out hEd)
          have HBd := Aside0.mk (show w1.heap.size ≤ wd.heap.size from HEd.out.size)
          have HGT := Aside0.mk hgt
          clear hEd HE HV HG1 hcell hcx HBS HGX
          go_wp2_with (first | ((with_reducible refine gate_load (ty := 94) rfl ?_); refine load_at rfl 94 _ rfl b (off + x * 2) rfl [.int .i64 qi, qv] _ HGd.out Try.underlying94 rfl (HI1.out _ _) ?_) | (at_builtin; refine Kd.R_append kP (w0 := wd) w1.heap.size rfl (.tmp 34) (.tmp 39) 80 94 (.agg #[.int .i64 0, .slice none 0 0]) 32 rfl Try.underlying80 HIN.out rfl (by decide) (by decide) (.slice A1 N1 C1) vL (qi, qs) [.int .i64 qi, qv] (fun _ => True) (fun _ => False) rfl rfl (by first | exact p_M _ wd _ _ | (rw [HQV.out]; exact p_M _ wd _ _)) (fun _ hk => hk.elim) (fun _ _ => trivial) HVd.out (Below.refl _ _) HBd.out HL1.out ?_) | fail)
          intro V1 w2 hR hBl _ _
          have HV2 := Aside0.mk (show RW w2 w1.heap.size V1 (vL ++ [(qi, qs)]) from hR)
          have HE2 := Aside0.mk (show Ext w1 w2 from Below.trans HEd.out hBl)
          have HP2 := Aside0.mk (HPI.out.b HGET.out (show ¬ p.1 < ((qi, qs) : PP).1 from by rw [HP.out]; have := HGT.out; show ¬ i < qi; omega))
          clear hR hBl
          go_wp2_with fail
          go_roundw
          case rel => exact ⟨x + 1, false, by go_num, rfl, ⟨hlt⟩, ⟨_, HV2, HP2, ⟨by rw [List.length_append]; have := HVL.out; simp only [List.length_singleton]; omega⟩⟩, HE2⟩
          case measure => have := HLT.out; simp only [intOf]; omega
    · have hxn : x = m.length := by have := HN0.out; omega
      have HXN := Aside0.mk hxn
      clear hxn
      cases pl with
      | true =>
        have HFV := Aside0.mk (show RW wx w.heap.size (.slice A1 N1 C1) (putA l i s) from by
          have h := HPI.out
          rw [HXN.out] at h
          have h2 := h.endT
          have h3 := HV.out
          rw [h2, HP.out, HMM.out] at h3
          exact h3.lower HBX1.out)
        have HEf := Aside0.mk (HE1.out.trans HE.out)
        clear HV HE
        go_wp2_with fail
        go_ret
        exact ⟨_, rfl, HFV.out, HEf.out⟩
      | false =>
        have HL1 := Aside0.mk (show (vL.length + 1) * 32 ≤ 140737488355328 from by have := HVL.out; have := HLN.out; omega)
        go_wp2_with (first | ((with_reducible refine gate_load (ty := 94) rfl ?_); refine load_at rfl 94 _ rfl bx 0 rfl [.int .i64 i, sv] _ HGX.out Try.underlying94 rfl (HI1.out _ _) ?_) | (at_builtin; refine Kd.R_append kP (w0 := wx) w1.heap.size rfl (.tmp 43) (.tmp 45) 80 94 (.agg #[.int .i64 0, .slice none 0 0]) 32 rfl Try.underlying80 HIN.out rfl (by decide) (by decide) (.slice A1 N1 C1) vL (i, s) [.int .i64 i, sv] (fun _ => True) (fun _ => False) rfl rfl (by first | exact p_M _ wx _ _ | (rw [HSV.out]; exact p_M _ wx _ _)) (fun _ hk => hk.elim) (fun _ _ => trivial) HV.out (Below.refl _ _) HBS.out HL1.out ?_) | fail)
        intro V1 w2 hR hBl _ _
        have HFV := Aside0.mk (show RW w2 w.heap.size V1 (putA l i s) from by
          have h := HPI.out
          rw [HXN.out] at h
          have h2 := h.endF
          rw [← HP.out] at hR
          rw [h2, HP.out, HMM.out] at hR
          exact Kd.R_lower hR HBX1.out)
        have HEf := Aside0.mk (HE1.out.trans (show Ext w1 w2 from Below.trans HE.out hBl))
        clear hR hBl HV HE
        go_wp2_with fail
        go_ret
        exact ⟨_, rfl, HFV.out, HEf.out⟩
end Go.Proofs.Ytkgjcmolmogpdaa.By

/- The reference of layer 7: find. -/
namespace Go.Proofs.Ytkgjcmolmogpdaa.By
open Go.RowKit Go.Proofs.Ytkgjcmolmogpdaa.Reg Go.Proofs.YtkgjcmolmogpdaaW.PrintWords Go.Proofs.YtkgjcmolmogpdaaW.PrintLast Go.Proofs.YtkgjcmolmogpdaaW.PrintMore
set_option linter.unusedVariables false
set_option linter.unusedSimpArgs false


/-- A slice that reads as these bytes. -/
def FS (w : World) (s : SlT) (xs : List Int) : Prop := s.2.1 = xs.length ∧ xs.length ≤ s.2.2 ∧ xs.length ≤ 1024 ∧ Kd.C kb w s.1 s.2.1 xs
theorem FS.ext {w w' : World} {s : SlT} {xs : List Int} (h : FS w s xs) (k : Ext w w') : FS w' s xs := ⟨h.1, h.2.1, h.2.2.1, Kd.C_below h.2.2.2 k⟩
theorem get_at {l : List PP} {x : Nat} {p : PP} (hp : l[x]? = some p) (hn : ∀ q ∈ l.take x, q.1 ≠ p.1) : getA l p.1 = some p.2 := by
  obtain ⟨hx, e⟩ := List.getElem?_eq_some_iff.1 hp
  have hl : l = l.take x ++ p :: l.drop (x + 1) := by rw [← e, ← List.drop_eq_getElem_cons hx, List.take_append_drop]
  unfold getA
  rw [hl, List.find?_append, List.find?_eq_none.2 (fun q hq => by simpa using hn q hq), Option.none_or, List.find?_cons_of_pos (by simp)]
  rfl
def FindQ (w w' : World) (l : List PP) (i : Int) (U b : Value) : Prop := (getA l i = none ∧ b = .bool false ∧ U = .slice none 0 0) ∨ ∃ s xs, getA l i = some s ∧ b = .bool true ∧ FS w s xs ∧ NB w' w.heap.size U xs
set_option maxRecDepth 100000 in
set_option maxHeartbeats 2000000 in
theorem find_calls (w : World) (A : Option Addr) (n c : Nat) (l : List PP) (hn : n = l.length) (hr : Kd.C kP w A n l) (hc : n ≤ c) (hl : n ≤ 1000000) (i : Int) (hf : ∀ s, getA l i = some s → ∃ xs, FS w s xs) :
    Calls Try.prog 82 #[.slice A n c, .int .i64 i] w fun e w' => ∃ U b : Value, e = .returned (.tuple #[U, b]) ∧ Ext w w' ∧ FindQ w w' l i U b := by
  have HN := Aside0.mk hn
  have HR := Aside0.mk hr
  have HF := Aside0.mk hf
  clear hn hr hf
  go_enter Try.func82, Try.ntmps82
  go_wp2_with fail
  go_loopw [6] (fun j wr => ∃ x : Nat, j = .int .i64 x ∧ Aside0 (x ≤ n) ∧ Aside0 (∀ q ∈ l.take x, q.1 ≠ i) ∧ Aside0 (wr = w)) (fun j _ => n - (intOf j).toNat)
  case atStart => exact ⟨0, rfl, ⟨Nat.zero_le _⟩, ⟨fun q hq => by cases hq⟩, ⟨rfl⟩⟩
  case round =>
    obtain ⟨x, rfl, HX, HQ, HW⟩ := hrel
    have g1 := HX.out
    have hw := HW.out
    subst hw
    by_cases hlt : x < n
    · have HLT := Aside0.mk hlt
      have hxe : x < l.length := by have := HN.out; omega
      have hget : l[x]? = some l[x] := List.getElem?_eq_getElem hxe
      obtain ⟨b, off, hA, hrg⟩ := p_at HR.out x hlt _ hget
      have HTK := Aside0.mk (List.take_succ_eq_append_getElem hxe)
      generalize l[x] = p at hrg hget HTK
      obtain ⟨pi, ps⟩ := p
      subst hA
      have hcell : wr.cell? ⟨b, off + x * 2, none⟩ = some (.int .i64 pi) := hrg 0 _ rfl
      have hcell1 : wr.cell? ⟨b, off + x * 2 + 1, none⟩ = some (slV ps) := hrg 1 _ rfl
      have HGET := Aside0.mk hget
      clear hrg hget hxe
      by_cases hpi : pi = i
      · subst hpi
        have HG := Aside0.mk (get_at HGET.out HQ.out)
        obtain ⟨ys, hfs⟩ := HF.out ps HG.out
        obtain ⟨As, ns, cs⟩ := ps
        obtain ⟨h1, h2, h3, h4⟩ := hfs
        dsimp only at h1 h2 h4
        subst h1
        have HFS := Aside0.mk (show FS wr (As, ys.length, cs) ys from ⟨rfl, h2, h3, h4⟩)
        have HCP := Aside0.mk (copy_calls wr As cs ys h4 h2 (by omega))
        obtain ⟨ny, hny⟩ : ∃ ny, ny = ys.length := ⟨_, rfl⟩
        rw [← hny] at HCP
        unfold slV at hcell1
        dsimp only at hcell1
        rw [← hny] at hcell1
        clear h2 h3 h4 hny
        go_wp2_with fail
        refine HCP.out.mono ?_
        rintro e w1 ⟨U, rfl, hU, hE⟩
        have HU := Aside0.mk hU
        have HE := Aside0.mk hE
        clear hU hE
        go_wp2_with fail
        go_ret2
        exact ⟨_, _, rfl, HE.out, Or.inr ⟨_, ys, HG.out, rfl, HFS.out, HU.out⟩⟩
      · have hpb : (pi == i) = false := by simpa using hpi
        have HPI := Aside0.mk hpi
        have HQ2 := Aside0.mk (show ∀ q ∈ l.take (x + 1), q.1 ≠ i from fun q hq => by
          rw [HTK.out] at hq
          rcases List.mem_append.1 hq with h | h
          · exact HQ.out q h
          · rw [List.mem_singleton.1 h]; exact HPI.out)
        go_wp2_with fail
        go_roundw
        case rel => exact ⟨x + 1, by go_num, ⟨hlt⟩, HQ2, ⟨trivial⟩⟩
        case measure => have := HLT.out; simp only [intOf]; omega
    · have HNO := Aside0.mk (show getA l i = none from getA_none.2 (fun q hq => HQ.out q (by rw [List.take_of_length_le (by have := HN.out; omega)]; exact hq)))
      go_wp2_with fail
      go_ret2
      exact ⟨_, _, rfl, Ext.refl _, Or.inl ⟨HNO.out, rfl, rfl⟩⟩
end Go.Proofs.Ytkgjcmolmogpdaa.By

/- The reference of layer 7: the disk at the level of bytes; Spend, Arm, wrong, Reads, New. -/
namespace Go.Proofs.Ytkgjcmolmogpdaa.By
open Go.RowKit Go.Proofs.Ytkgjcmolmogpdaa.Reg Go.Proofs.YtkgjcmolmogpdaaW.PrintWords Go.Proofs.YtkgjcmolmogpdaaW.PrintLast Go.Proofs.YtkgjcmolmogpdaaW.PrintMore
set_option linter.unusedVariables false
set_option linter.unusedSimpArgs false


def rC (n : Nat) (left wt : Int) (off : Bool) (VL VC : Value) (bq : Nat) : List Value := [.int .i64 n, .int .i64 left, .int .i64 wt, .bool off, VL, VC, .slice (some ⟨bq, 0, none⟩) n n]
/-- The reference's disk at bm: its rows are values VL (what lasts) and VC (what is cached). -/
structure RV (w : World) (bm bq n : Nat) (VL VC : Value) (left : Int) (off : Bool) (wt : Int) (rq : List Int) : Prop where
  hm : Blk w bm (rC n left wt off VL VC bq).toArray 82
  hq : Blk w bq (rq.map (Value.int .i64)).toArray 3
  lq : rq.length = n
  nn : 1 ≤ n ∧ n ≤ 4096
def Rst (bm bq k : Nat) : Prop := k = bm ∨ k = bq
section
variable {w w' : World} {bm bq n : Nat} {VL VC : Value} {left : Int} {off : Bool} {wt : Int} {rq : List Int} {S : Nat → Prop}
theorem RV.chg (h : RV w bm bq n VL VC left off wt rq) (k : Chg w w' S) (hn : ∀ j, Rst bm bq j → ¬ S j) : RV w' bm bq n VL VC left off wt rq := ⟨k.blk h.hm (hn _ (.inl rfl)), k.blk h.hq (hn _ (.inr rfl)), h.lq, h.nn⟩
theorem RV.ext (h : RV w bm bq n VL VC left off wt rq) (k : Ext w w') : RV w' bm bq n VL VC left off wt rq := h.chg (Chg.of_ext k (fun _ => False)) (fun _ _ h => h)
theorem RV.ne (h : RV w bm bq n VL VC left off wt rq) : bm ≠ bq := blk_ne h.hm h.hq (by decide)
theorem RV.lt (h : RV w bm bq n VL VC left off wt rq) (j : Nat) (hj : Rst bm bq j) : j < w.heap.size := by
  rcases hj with rfl | rfl
  · exact h.hm.lt
  · exact h.hq.lt
theorem RV.cells (h : RV w bm bq n VL VC left off wt rq) : w.cell? ⟨bm, 0, none⟩ = some (.int .i64 n) ∧ w.cell? ⟨bm, 1, none⟩ = some (.int .i64 left) ∧ w.cell? ⟨bm, 2, none⟩ = some (.int .i64 wt) ∧ w.cell? ⟨bm, 3, none⟩ = some (.bool off) ∧ w.cell? ⟨bm, 4, none⟩ = some VL ∧ w.cell? ⟨bm, 5, none⟩ = some VC ∧ w.cell? ⟨bm, 6, none⟩ = some (.slice (some ⟨bq, 0, none⟩) n n) :=
  ⟨h.hm.cell 0 rfl, h.hm.cell 1 rfl, h.hm.cell 2 rfl, h.hm.cell 3 rfl, h.hm.cell 4 rfl, h.hm.cell 5 rfl, h.hm.cell 6 rfl⟩
theorem RV.set (h : RV w bm bq n VL VC left off wt rq) {VL' VC' : Value} {left' : Int} {off' : Bool} {wt' : Int} (k : Wrote w w' bm) (hd : Blk w' bm (rC n left' wt' off' VL' VC' bq).toArray 82) : RV w' bm bq n VL' VC' left' off' wt' rq :=
  ⟨hd, h.hq.wrote k (Ne.symm h.ne), h.lq, h.nn⟩
end
def rdownF (left : Int) (off : Bool) : Bool := off || decide (left = 0)
def rspE (left : Int) (off : Bool) : Int := if rdownF left off = true then 12 else 0
def rspL (left : Int) (off : Bool) : Int := if rdownF left off = true then left else if 0 < left then wrap64 (left - 1) else left
section
variable {w : World} {bm bq n : Nat} {VL VC : Value} {left : Int} {off : Bool} {wt : Int} {rq : List Int}
set_option maxRecDepth 100000 in
set_option maxHeartbeats 2000000 in
theorem rspend_calls (h : RV w bm bq n VL VC left off wt rq) : Calls Try.prog 55 #[.pointer (some ⟨bm, 0, none⟩)] w fun e w' => e = .returned (.int .i64 (rspE left off)) ∧ RV w' bm bq n VL VC (rspL left off) (rdownF left off) wt rq ∧ Chg w w' (Rst bm bq) := by
  have HD := Aside0.mk h
  obtain ⟨c0, c1, c2, c3, c4, c5, c6⟩ := h.cells
  have f1 := h.hm.free 1
  have f3 := h.hm.free 3
  have HB3 := Aside0.mk (show Blk (w.setCell ⟨bm, 3, none⟩ (.bool true)) bm (rC n left wt true VL VC bq).toArray 82 by simpa [rC] using h.hm.set 3 (.bool true))
  have HB1 := Aside0.mk (show Blk (w.setCell ⟨bm, 1, none⟩ (.int .i64 (wrap64 (left - 1)))) bm (rC n (wrap64 (left - 1)) wt off VL VC bq).toArray 82 by simpa [rC] using h.hm.set 1 (.int .i64 (wrap64 (left - 1))))
  have HW3 := Aside0.mk (Wrote.setCell w bm 3 (.bool true))
  have HW1 := Aside0.mk (Wrote.setCell w bm 1 (.int .i64 (wrap64 (left - 1))))
  clear h c0 c2 c4 c5 c6
  cases off with
  | true =>
    go_enter Try.func55, Try.ntmps55
    go_wp2
    go_ret
    exact ⟨rfl, HD.out, Chg.refl _ _⟩
  | false =>
    by_cases h0 : left = 0
    · subst h0
      go_enter Try.func55, Try.ntmps55
      go_wp2
      go_ret
      exact ⟨rfl, HD.out.set HW3.out HB3.out, Chg.of_wrote HW3.out (.inl rfl)⟩
    · have hb0 : (left == 0) = false := by simpa using h0
      have hz : rdownF left false = false := by unfold rdownF; rw [decide_eq_false h0]; rfl
      by_cases h1 : 0 < left
      · have hd1 : decide (0 < left) = true := decide_eq_true h1
        have HQ := Aside0.mk (show rspE left false = 0 ∧ rspL left false = wrap64 (left - 1) ∧ rdownF left false = false from ⟨by unfold rspE; rw [hz]; rfl, by unfold rspL; rw [hz, if_neg (by decide), if_pos h1], hz⟩)
        clear hz
        go_enter Try.func55, Try.ntmps55
        go_wp2
        go_ret
        rw [HQ.out.1, HQ.out.2.1, HQ.out.2.2]
        exact ⟨rfl, HD.out.set HW1.out HB1.out, Chg.of_wrote HW1.out (.inl rfl)⟩
      · have hd1 : decide (0 < left) = false := decide_eq_false h1
        have HQ := Aside0.mk (show rspE left false = 0 ∧ rspL left false = left ∧ rdownF left false = false from ⟨by unfold rspE; rw [hz]; rfl, by unfold rspL; rw [hz, if_neg (by decide), if_neg h1], hz⟩)
        clear hz
        go_enter Try.func55, Try.ntmps55
        go_wp2
        go_ret
        rw [HQ.out.1, HQ.out.2.1, HQ.out.2.2]
        exact ⟨rfl, HD.out, Chg.refl _ _⟩
set_option maxRecDepth 100000 in
set_option maxHeartbeats 2000000 in
theorem rarm_calls (h : RV w bm bq n VL VC left off wt rq) (x : Int) : Calls Try.prog 58 #[.pointer (some ⟨bm, 0, none⟩), .int .i64 x] w fun e w' => e = .returned (.tuple #[]) ∧ RV w' bm bq n VL VC (if x < 0 then -1 else x) off wt rq ∧ Chg w w' (Rst bm bq) := by
  have HD := Aside0.mk h
  obtain ⟨c0, c1, c2, c3, c4, c5, c6⟩ := h.cells
  have f1 := h.hm.free 1
  have HB1 := Aside0.mk (show Blk (w.setCell ⟨bm, 1, none⟩ (.int .i64 x)) bm (rC n x wt off VL VC bq).toArray 82 by simpa [rC] using h.hm.set 1 (.int .i64 x))
  have HW1 := Aside0.mk (Wrote.setCell w bm 1 (.int .i64 x))
  have HB2 := Aside0.mk (show Blk ((w.setCell ⟨bm, 1, none⟩ (.int .i64 x)).setCell ⟨bm, 1, none⟩ (.int .i64 (-1))) bm (rC n (-1) wt off VL VC bq).toArray 82 by simpa [rC] using (h.hm.set 1 (.int .i64 x)).set 1 (.int .i64 (-1)))
  have HW2 := Aside0.mk ((Wrote.setCell w bm 1 (.int .i64 x)).trans (Wrote.setCell (w.setCell ⟨bm, 1, none⟩ (.int .i64 x)) bm 1 (.int .i64 (-1))))
  clear h c0 c2 c3 c4 c5 c6
  by_cases hx : x < 0
  · have hdx : decide (x < 0) = true := decide_eq_true hx
    rw [if_pos hx]
    go_enter Try.func58, Try.ntmps58
    go_wp2
    go_end0
    exact ⟨rfl, HD.out.set HW2.out HB2.out, Chg.of_wrote HW2.out (.inl rfl)⟩
  · have hdx : decide (x < 0) = false := decide_eq_false hx
    rw [if_neg hx]
    go_enter Try.func58, Try.ntmps58
    go_wp2
    go_end0
    exact ⟨rfl, HD.out.set HW1.out HB1.out, Chg.of_wrote HW1.out (.inl rfl)⟩
set_option maxRecDepth 100000 in
set_option maxHeartbeats 2000000 in
theorem rwrong_calls (h : RV w bm bq n VL VC left off wt rq) (i : Int) (A : Option Addr) (m c : Nat) : Calls Try.prog 74 #[.pointer (some ⟨bm, 0, none⟩), .int .i64 i, .slice A m c] w fun e w' => e = .returned (.int .i64 (wrongF i n m)) ∧ w = w' := by
  obtain ⟨c0, c1, c2, c3, c4, c5, c6⟩ := h.cells
  clear h c1 c2 c3 c4 c5 c6
  by_cases h0 : i < 0
  · have hd0 : decide (i < 0) = true := decide_eq_true h0
    have HQ := Aside0.mk (show wrongF i n m = 7 by unfold wrongF inB; rw [decide_eq_false (by omega : ¬ 0 ≤ i)]; rfl)
    go_enter Try.func74, Try.ntmps74
    go_wp2
    go_ret
    rw [HQ.out]
    exact ⟨rfl, rfl⟩
  · have hd0 : decide (i < 0) = false := decide_eq_false h0
    by_cases h1 : (n : Int) ≤ i
    · have hd1 : decide ((n : Int) ≤ i) = true := decide_eq_true h1
      have HQ := Aside0.mk (show wrongF i n m = 7 by unfold wrongF inB; rw [decide_eq_true (by omega : 0 ≤ i), decide_eq_false (by omega : ¬ i < n)]; rfl)
      go_enter Try.func74, Try.ntmps74
      go_wp2
      go_ret
      rw [HQ.out]
      exact ⟨rfl, rfl⟩
    · have hd1 : decide ((n : Int) ≤ i) = false := decide_eq_false h1
      have hin : inB i n = true := by unfold inB; rw [decide_eq_true (by omega : 0 ≤ i), decide_eq_true (by omega : i < n)]; rfl
      by_cases h2 : (1024 : Int) < m
      · have hd2 : decide ((1024 : Int) < m) = true := decide_eq_true h2
        have HQ := Aside0.mk (show wrongF i n m = 3 by unfold wrongF; rw [hin, if_neg (by decide), if_pos (by omega)])
        clear hin
        go_enter Try.func74, Try.ntmps74
        go_wp2
        go_ret
        rw [HQ.out]
        exact ⟨rfl, rfl⟩
      · have hd2 : decide ((1024 : Int) < m) = false := decide_eq_false h2
        have HQ := Aside0.mk (show wrongF i n m = 0 by unfold wrongF; rw [hin, if_neg (by decide), if_neg (by omega)])
        clear hin
        go_enter Try.func74, Try.ntmps74
        go_wp2
        go_ret
        rw [HQ.out]
        exact ⟨rfl, rfl⟩
end
end Go.Proofs.Ytkgjcmolmogpdaa.By

/- The reference of layer 8: the counter. -/
namespace Go.Proofs.Ytkgjcmolmogpdaa.By
open Go.RowKit Go.Proofs.Ytkgjcmolmogpdaa.Reg Go.Proofs.YtkgjcmolmogpdaaW.PrintWords Go.Proofs.YtkgjcmolmogpdaaW.PrintLast Go.Proofs.YtkgjcmolmogpdaaW.PrintMore
set_option linter.unusedVariables false
set_option linter.unusedSimpArgs false


def rcC (bm : Nat) (v : Int) : List Value := [.pointer (some ⟨bm, 0, none⟩), .int .i64 v]
set_option maxRecDepth 100000 in
set_option maxHeartbeats 2000000 in
theorem rcnew_calls (w : World) (bm : Nat) : Calls Try.prog 44 #[.pointer (some ⟨bm, 0, none⟩)] w fun e w' => ∃ bj, e = .returned (.pointer (some ⟨bj, 0, none⟩)) ∧ Blk w' bj (rcC bm 0).toArray 91 ∧ w.heap.size ≤ bj ∧ Ext w w' := by
  go_enter Try.func44, Try.ntmps44
  go_wp2
  go_ret
  exact ⟨w.heap.size, rfl, Blk.new _ _ _, Nat.le_refl _, (Ext.refl w).alloc _⟩
set_option maxRecDepth 100000 in
set_option maxHeartbeats 2000000 in
theorem rvalue_calls {w : World} {bm bj : Nat} {v : Int} (h : Blk w bj (rcC bm v).toArray 91) : Calls Try.prog 46 #[.pointer (some ⟨bj, 0, none⟩)] w fun e w' => e = .returned (.int .i64 v) ∧ w = w' := by
  have c1 := h.cell 1 (v := .int .i64 v) rfl
  clear h
  go_enter Try.func46, Try.ntmps46
  go_wp2
  go_ret
  exact ⟨rfl, rfl⟩
set_option maxRecDepth 100000 in
set_option maxHeartbeats 2000000 in
theorem rraise_no {w : World} {bm bj : Nat} {v : Int} (h : Blk w bj (rcC bm v).toArray 91) (q : Int) (hl : lateF q v = true) : Calls Try.prog 70 #[.pointer (some ⟨bj, 0, none⟩), .int .i64 q] w fun e w' => e = .returned (.int .i64 8) ∧ w = w' := by
  have c1 := h.cell 1 (v := .int .i64 v) rfl
  clear h
  by_cases h1 : q ≤ v
  · have hd1 : decide (q ≤ v) = true := decide_eq_true h1
    go_enter Try.func70, Try.ntmps70
    go_wp2
    go_ret
    exact ⟨rfl, rfl⟩
  · have h2 : 1152921504606846976 < q := by unfold lateF at hl; rw [decide_eq_false h1] at hl; simpa using hl
    have hd : decide (q ≤ v) = false := decide_eq_false h1
    have hd2 : decide (1152921504606846976 < q) = true := decide_eq_true h2
    clear hl
    go_enter Try.func70, Try.ntmps70
    go_wp2
    go_ret
    exact ⟨rfl, rfl⟩
section
variable {w : World} {bm bq n : Nat} {VL VC : Value} {left : Int} {off : Bool} {wt : Int} {rq : List Int}
set_option maxRecDepth 100000 in
set_option maxHeartbeats 2000000 in
theorem rraise_spent (h : RV w bm bq n VL VC left off wt rq) {bj : Nat} {v : Int} (hb : Blk w bj (rcC bm v).toArray 91) (q : Int) (hl : lateF q v = false) (hs : rdownF left off = true) : Calls Try.prog 70 #[.pointer (some ⟨bj, 0, none⟩), .int .i64 q] w fun e w' => e = .returned (.int .i64 12) ∧ RV w' bm bq n VL VC left true wt rq ∧ Chg w w' (Rst bm bq) := by
  have HS := Aside0.mk (rspend_calls h)
  rw [show rspE left off = 12 by unfold rspE; rw [if_pos hs], show rspL left off = left by unfold rspL; rw [if_pos hs], hs] at HS
  have c0 := hb.cell 0 (v := .pointer (some ⟨bm, 0, none⟩)) rfl
  have c1 := hb.cell 1 (v := .int .i64 v) rfl
  obtain ⟨h1, h2⟩ := late_f hl
  have hd1 : decide (q ≤ v) = false := decide_eq_false h1
  have hd2 : decide (1152921504606846976 < q) = false := decide_eq_false h2
  clear h hb hl hs
  go_enter Try.func70, Try.ntmps70
  go_wp2_with fail
  refine HS.out.mono ?_
  rintro e w2 ⟨rfl, hD, hC⟩
  have HD := Aside0.mk hD
  have HC2 := Aside0.mk hC
  clear hD hC HS c0 c1
  go_wp2
  go_ret
  exact ⟨rfl, HD.out, HC2.out⟩
set_option maxRecDepth 100000 in
set_option maxHeartbeats 2000000 in
theorem rraise_ok (h : RV w bm bq n VL VC left off wt rq) {bj : Nat} {v : Int} (hb : Blk w bj (rcC bm v).toArray 91) (q : Int) (hl : lateF q v = false) (hs : rdownF left off = false) : Calls Try.prog 70 #[.pointer (some ⟨bj, 0, none⟩), .int .i64 q] w fun e w' => e = .returned (.int .i64 0) ∧ RV w' bm bq n VL VC (rspL left off) false wt rq ∧ Blk w' bj (rcC bm q).toArray 91 ∧ Chg w w' (fun k => Rst bm bq k ∨ k = bj) := by
  have HS := Aside0.mk (rspend_calls h)
  rw [show rspE left off = 0 by unfold rspE; rw [if_neg (by rw [hs]; decide)], hs] at HS
  have HNE := Aside0.mk (show ¬ Rst bm bq bj from by
    rintro (e | e)
    · exact absurd (blk_type hb (e ▸ h.hm)) (by decide)
    · exact absurd (blk_type hb (e ▸ h.hq)) (by decide))
  have HB := Aside0.mk hb
  have c0 := hb.cell 0 (v := .pointer (some ⟨bm, 0, none⟩)) rfl
  have c1 := hb.cell 1 (v := .int .i64 v) rfl
  obtain ⟨h1, h2⟩ := late_f hl
  have hd1 : decide (q ≤ v) = false := decide_eq_false h1
  have hd2 : decide (1152921504606846976 < q) = false := decide_eq_false h2
  clear h hb hl hs
  go_enter Try.func70, Try.ntmps70
  go_wp2_with fail
  refine HS.out.mono ?_
  rintro e w2 ⟨rfl, hD, hC⟩
  have HD := Aside0.mk hD
  have HC2 := Aside0.mk hC
  have HB2 := Aside0.mk (hC.blk HB.out HNE.out)
  clear hD hC HS c0 c1
  have c1 := HB2.out.cell 1 (v := .int .i64 v) rfl
  have f1 := HB2.out.free 1
  have HW := Aside0.mk (Wrote.setCell w2 bj 1 (.int .i64 q))
  have HB3 := Aside0.mk (show Blk (w2.setCell ⟨bj, 1, none⟩ (.int .i64 q)) bj (rcC bm q).toArray 91 by simpa [rcC] using HB2.out.set 1 (.int .i64 q))
  go_wp2
  go_ret
  exact ⟨rfl, HD.out.chg (Chg.of_wrote (S := fun k => k = bj) HW.out rfl) (fun j hj e => HNE.out (e ▸ hj)), HB3.out, (HC2.out.mono (fun k hk => .inl hk)).trans (Chg.of_wrote HW.out (.inr rfl))⟩
end
end Go.Proofs.Ytkgjcmolmogpdaa.By

/- The reference of layer 7: New, Reads. -/
namespace Go.Proofs.Ytkgjcmolmogpdaa.By
open Go.RowKit Go.Proofs.Ytkgjcmolmogpdaa.Reg Go.Proofs.YtkgjcmolmogpdaaW.PrintWords Go.Proofs.YtkgjcmolmogpdaaW.PrintLast Go.Proofs.YtkgjcmolmogpdaaW.PrintMore
set_option linter.unusedVariables false
set_option linter.unusedSimpArgs false


theorem mk_gen8 (t e : TypeId) (ht : Try.prog.underlying t = some (.slice e)) (z : Value) (hi : (Try.prog.info? e).map (fun i => (i.zero, i.size, i.bytes)) = some (some z, 1, 8)) (hz : z.cells = #[z]) (n : Nat) (hn : n ≤ 4096) (W : World) :
    (Instr.makeSlice t (.int .i64 n) (.int .i64 n)).run Try.prog W = .ok (.slice (some ⟨W.heap.size, 0, none⟩) n n) (W.alloc (.cells (List.replicate n z).toArray e)) := by
  obtain ⟨i, hi1, hi2⟩ := info_of hi
  have h1 : i.zero = some z := congrArg Prod.fst hi2
  have h2 : i.size = 1 := congrArg (fun p => p.2.1) hi2
  have h3 : i.bytes = 8 := congrArg (fun p => p.2.2) hi2
  have hr := run_make (P := Try.prog) (w := W) t e i z ht hi1 h1 .i64 .i64 (n : Int) (n : Int) (by omega) (by omega) (by rw [h3]; omega) (by omega)
  rw [h2, Int.toNat_natCast, made_one z hz n] at hr
  exact hr
theorem alloc_size' (w : World) (o : Obj) : (w.alloc o).heap.size = w.heap.size + 1 := by
  show (w.heap.push o).size = _
  exact Array.size_push _
set_option maxRecDepth 100000 in
set_option maxHeartbeats 2000000 in
theorem rnew_ok (w : World) (n : Nat) (h0 : 1 ≤ n) (h1 : n ≤ 4096) : Calls Try.prog 31 #[.int .i64 n] w fun e w' => ∃ bm bq, e = .returned (.tuple #[.pointer (some ⟨bm, 0, none⟩), .int .i64 0]) ∧ RV w' bm bq n (.slice none 0 0) (.slice none 0 0) (-1) false 0 (List.replicate n 0) ∧ Ext w w' ∧ (∀ k, Rst bm bq k → w.heap.size ≤ k) := by
  have hd1 : decide ((n : Int) < 1) = false := decide_eq_false (by omega)
  have hd2 : decide ((4096 : Int) < n) = false := decide_eq_false (by omega)
  obtain ⟨Z, hZ⟩ : ∃ Z : Array Value, Z = (List.replicate n (Value.int .i64 0)).toArray := ⟨_, rfl⟩
  have HZ := Aside0.mk hZ
  have hmk : ∀ W : World, (Instr.makeSlice 23 (.int .i64 n) (.int .i64 n)).run Try.prog W = .ok (.slice (some ⟨W.heap.size, 0, none⟩) n n) (W.alloc (.cells Z 3)) := by rw [hZ]; exact fun W => mk_gen8 23 3 Try.underlying23 (.int .i64 0) (by kernel_rfl) rfl n h1 W
  have HSZ := Aside0.mk (alloc_size' w (.cells Z 3))
  have HNN := Aside0.mk (show 1 ≤ n ∧ n ≤ 4096 from ⟨h0, h1⟩)
  clear hZ h0 h1
  go_enter Try.func31, Try.ntmps31
  go_wp2
  go_ret2
  refine ⟨w.heap.size + 1, w.heap.size, rfl, ⟨?_, ?_, by simp, HNN.out⟩, (((Ext.refl w).alloc _).alloc _), fun k hk => by rcases hk with rfl | rfl <;> omega⟩
  · have h := Blk.new (w.alloc (.cells Z 3)) (rC n (-1) 0 false (.slice none 0 0) (.slice none 0 0) w.heap.size).toArray 82
    rw [HSZ.out] at h
    exact h
  · have h := (Blk.new w Z 3).ext ((Ext.refl (w.alloc (.cells Z 3))).alloc (.cells (rC n (-1) 0 false (.slice none 0 0) (.slice none 0 0) w.heap.size).toArray 82))
    rw [List.map_replicate, ← HZ.out]
    exact h
section
variable {w : World} {bm bq n : Nat} {VL VC : Value} {left : Int} {off : Bool} {wt : Int} {rq : List Int}
set_option maxRecDepth 100000 in
set_option maxHeartbeats 2000000 in
theorem rreads_calls (h : RV w bm bq n VL VC left off wt rq) (i : Int) : Calls Try.prog 67 #[.pointer (some ⟨bm, 0, none⟩), .int .i64 i] w fun e w' => e = .returned (.int .i64 (cntF rq i n)) ∧ w = w' := by
  obtain ⟨c0, c1, c2, c3, c4, c5, c6⟩ := h.cells
  have HD := Aside0.mk h
  clear h c1 c2 c3 c4 c5
  by_cases h0 : i < 0
  · have hd0 : decide (i < 0) = true := decide_eq_true h0
    have HQ := Aside0.mk (show cntF rq i n = 0 by unfold cntF inB; rw [decide_eq_false (by omega : ¬ 0 ≤ i)]; rfl)
    go_enter Try.func67, Try.ntmps67
    go_wp2
    go_ret
    rw [HQ.out]
    exact ⟨rfl, rfl⟩
  · have hd0 : decide (i < 0) = false := decide_eq_false h0
    by_cases h1 : (n : Int) ≤ i
    · have hd1 : decide ((n : Int) ≤ i) = true := decide_eq_true h1
      have HQ := Aside0.mk (show cntF rq i n = 0 by unfold cntF inB; rw [decide_eq_true (by omega : 0 ≤ i), decide_eq_false (by omega : ¬ i < n)]; rfl)
      go_enter Try.func67, Try.ntmps67
      go_wp2
      go_ret
      rw [HQ.out]
      exact ⟨rfl, rfl⟩
    · have hd1 : decide ((n : Int) ≤ i) = false := decide_eq_false h1
      obtain ⟨k, hk⟩ : ∃ k : Nat, i = k := ⟨i.toNat, by omega⟩
      subst hk
      have hkn : k < rq.length := by rw [HD.out.lq]; omega
      have hcq := HD.out.hq.cell k (v := .int .i64 rq[k]) (by simp [hkn])
      have HQ := Aside0.mk (show cntF rq (k : Int) n = rq[k] by unfold cntF inB; rw [decide_eq_true (by omega : (0 : Int) ≤ k), decide_eq_true (by omega : (k : Int) < n), if_pos (show (true && true) = true from rfl), Int.toNat_natCast, List.getD_eq_getElem?_getD, List.getElem?_eq_getElem hkn]; rfl)
      generalize rq[k] = v at hcq HQ
      clear hkn
      have hkn : (k : Int) < n := by omega
      go_enter Try.func67, Try.ntmps67
      go_wp2
      go_ret
      rw [HQ.out]
      exact ⟨rfl, rfl⟩
end
end Go.Proofs.Ytkgjcmolmogpdaa.By
