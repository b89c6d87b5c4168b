/- Layer 7: DiskLasts. -/
import Derived.Test.YtkgjcmolmogpdaaDl
namespace Go.Proofs.Ytkgjcmolmogpdaa.By
open Go.RowKit Go.Proofs.Ytkgjcmolmogpdaa.Reg Go.Proofs.YtkgjcmolmogpdaaW.PrintWords Go.Proofs.YtkgjcmolmogpdaaW.PrintLast Go.Proofs.YtkgjcmolmogpdaaW.PrintMore
set_option linter.unusedVariables false
set_option linter.unusedSimpArgs false


theorem bb_at2 {w : World} {A : Option Addr} {m : Nat} {xs : List (List Int)} (h : Kd.C kBB w A m xs) (x : Nat) (hx : x < m) : ∃ ad A' c' ys, A = some ad ∧ w.cell? (ad.add x) = some (.slice A' ys.length c') ∧ ys.length ≤ c' ∧ Kd.C kb w A' ys.length ys ∧ ys ∈ xs := by
  obtain ⟨ad, c, e, _, hK, hc⟩ := Kd.C_get h [] (x : Int) (by omega) (by omega)
  obtain ⟨A', c', h3, h4, h5⟩ := hK
  subst h3
  have a0 := hc 0 _ rfl
  rw [Int.toNat_natCast] at a0
  have e1 : x * kBB.sz + 0 = x := by show x * 1 + 0 = x; omega
  rw [e1] at a0
  have hl : x < xs.length := by have := h.1; omega
  exact ⟨ad, A', c', _, e, a0, h4, h5, by rw [List.getD_eq_getElem?_getD, List.getElem?_eq_getElem hl]; exact List.getElem_mem hl⟩
/-- A slice that reads, in the first world, as these bytes. -/
def Sx (w : World) (V : Value) (xs : List Int) : Prop := ∃ A c, V = .slice A xs.length c ∧ xs.length ≤ c ∧ Kd.C kb w A xs.length xs ∧ xs.length ≤ 100
theorem Sx.nil (w : World) : Sx w (.slice none 0 0) [] := ⟨none, 0, rfl, Nat.le_refl _, Kd.C_nil kb w, by simp⟩
theorem alloc_size (w : World) (o : Obj) : (w.alloc o).heap.size = w.heap.size + 1 := by
  show (w.heap.push o).size = _
  exact Array.size_push _
def gT (C : Nat → List Int) (T : Nat → Bool) : Nat → Option (List Int) := fun j => if T j = true then some (C j) else none
def zS : Value := .slice none 0 0
structure AI (w : World) (LA CA : List Value) (TA : List Bool) (L C : Nat → List Int) (T : Nat → Bool) : Prop where
  l1 : LA.length = 20
  l2 : CA.length = 20
  l3 : TA.length = 20
  s1 : ∀ j, j < 20 → Sx w (LA.getD j zS) (L j)
  s2 : ∀ j, j < 20 → Sx w (CA.getD j zS) (C j)
  s3 : ∀ j, j < 20 → TA.getD j false = T j
  s4 : ∀ j, j < 20 → T j = false → C j = L j
theorem gT_upd (C : Nat → List Int) (T : Nat → Bool) (q : Nat) (zs : List Int) : upd (gT C T) q (some zs) = gT (upd C q zs) (upd T q true) := by
  funext j
  unfold upd gT
  by_cases e : j = q
  · simp [e]
  · simp [e]
theorem AI.put {w : World} {LA CA : List Value} {TA : List Bool} {L C : Nat → List Int} {T : Nat → Bool} (h : AI w LA CA TA L C T) (q : Nat) (hq : q < 20) {V : Value} {zs : List Int} (hv : Sx w V zs) : AI w LA (CA.set q V) (TA.set q true) L (upd C q zs) (upd T q true) := by
  refine ⟨h.l1, by rw [List.length_set]; exact h.l2, by rw [List.length_set]; exact h.l3, h.s1, fun j hj => ?_, fun j hj => ?_, fun j hj ht => ?_⟩
  · unfold upd
    rw [List.getD_eq_getElem?_getD, List.getElem?_set]
    by_cases e : j = q
    · subst e; rw [if_pos rfl, if_pos rfl, if_pos (by rw [h.l2]; exact hj)]; exact hv
    · rw [if_neg e, if_neg (fun h => e h.symm), ← List.getD_eq_getElem?_getD]; exact h.s2 j hj
  · unfold upd
    rw [List.getD_eq_getElem?_getD, List.getElem?_set]
    by_cases e : j = q
    · subst e; rw [if_pos rfl, if_pos rfl, if_pos (by rw [h.l3]; exact hj)]; rfl
    · rw [if_neg e, if_neg (fun h => e h.symm), ← List.getD_eq_getElem?_getD]; exact h.s3 j hj
  · unfold upd at ht ⊢
    by_cases e : j = q
    · rw [if_pos e] at ht; cases ht
    · rw [if_neg e] at ht ⊢; exact h.s4 j hj ht
theorem AI.sync {w : World} {LA CA : List Value} {TA : List Bool} {L C : Nat → List Int} {T : Nat → Bool} (h : AI w LA CA TA L C T) : AI w CA CA (List.replicate 20 false) (atB L (gT C T)) C (fun _ => false) := by
  have e : ∀ j, j < 20 → atB L (gT C T) j = C j := by
    intro j hj
    unfold atB gT
    cases ht : T j with
    | true => simp
    | false => simp; exact (h.s4 j hj ht).symm
  refine ⟨h.l2, h.l2, by simp, fun j hj => by rw [e j hj]; exact h.s2 j hj, h.s2, fun j hj => ?_, fun j hj _ => (e j hj).symm⟩
  rw [List.getD_eq_getElem?_getD, List.getElem?_replicate]
  split <;> rfl
theorem AI.one {w : World} {LA CA : List Value} {TA : List Bool} {L C : Nat → List Int} {T : Nat → Bool} (h : AI w LA CA TA L C T) : ∀ v ∈ CA, v.oneCell' = true := by
  intro v hv
  obtain ⟨j, hj, e⟩ := List.getElem_of_mem hv
  obtain ⟨A, c, e2, _⟩ := h.s2 j (by have := h.l2; omega)
  rw [List.getD_eq_getElem?_getD, List.getElem?_eq_getElem hj, e] at e2
  simp only [Option.getD_some] at e2
  rw [e2]
  rfl
section
variable {w : World} {bd bl bc br n : Nat} {f : Nat → List Int} {g : Nat → Option (List Int)} {ar : Bool} {lf : Int} {of : Bool} {wt : Int} {rd : List Int}
theorem Kx.wrote {w w' : World} {V : Value} {xs : List Int} {b : Nat} {cs : Array Value} {t : TypeId} (h : Kx w V xs) (hb : Blk w b cs t) (ht : t ≠ 5) (k : Wrote w w' b) : Kx w' V xs := by
  refine ⟨h.1.chg (Chg.of_wrote (S := fun j => j = b) k rfl) (fun j hj e => ?_), h.2⟩
  obtain ⟨cells, hc⟩ := h.1.typed j hj
  rw [e] at hc
  have := hb.is.symm.trans hc
  injection this with this
  injection this with _ h2
  exact ht h2
theorem DB.wrote {w' : World} (h : DB w bd bl bc br n f g ar lf of wt rd) {b : Nat} {cs : Array Value} {t : TypeId} (hb : Blk w b cs t) (ht : t ≠ 5) (k : Wrote w w' b) (hn : ∀ j, Dst bd bl bc br j → j < b) : DB w' bd bl bc br n f g ar lf of wt rd := by
  obtain ⟨LV, CV, hd, hf⟩ := h
  exact ⟨LV, CV, hd.chg (Chg.of_wrote (S := fun j => j = b) k rfl) (fun j hj e => by have := hn j hj; omega), hf.map (fun V xs hx => hx.wrote hb ht k)⟩
end
theorem cntB_succ (g : Nat → Option (List Int)) (y : Nat) : cntB g (y + 1) = cntB g y + if (g y).isSome = true then 1 else 0 := by
  unfold cntB
  rw [List.range_succ, List.filter_append, List.length_append, List.filter_cons, List.filter_nil]
  split <;> simp
theorem cntB_le (g : Nat → Option (List Int)) (i : Nat) : cntB g i ≤ i := by
  unfold cntB
  exact Nat.le_trans (List.length_filter_le _ _) (by simp)
theorem cell_at {w : World} {b : Nat} {LA : List Value} {t : TypeId} (h : Blk w b LA.toArray t) (hl : LA.length = 20) {y : Nat} (hy : y < 20) : w.cell? ⟨b, y, none⟩ = some (LA.getD y zS) :=
  h.cell y (by rw [List.getElem?_toArray, List.getD_eq_getElem?_getD, List.getElem?_eq_getElem (by omega)]; rfl)
theorem cell_atB {w : World} {b : Nat} {TA : List Bool} {t : TypeId} (h : Blk w b (TA.map Value.bool).toArray t) (hl : TA.length = 20) {y : Nat} (hy : y < 20) : w.cell? ⟨b, y, none⟩ = some (.bool (TA.getD y false)) :=
  h.cell y (by rw [List.getElem?_toArray, List.getElem?_map, List.getD_eq_getElem?_getD, List.getElem?_eq_getElem (by omega)]; rfl)
def Bs (w : World) (b : Nat) (LA CA : List Value) (TA : List Bool) : Prop := Blk w b LA.toArray 30 ∧ Blk w (b + 1) CA.toArray 30 ∧ Blk w (b + 1 + 1) (TA.map Value.bool).toArray 31
def z20 : List Value := List.replicate 20 (.slice none 0 0)
def b20 : List Value := List.replicate 20 (.bool false)
theorem b20_one : ∀ v ∈ b20, v.oneCell' = true := by
  intro v hv
  have e : v = .bool false := List.eq_of_mem_replicate hv
  rw [e]
  rfl
theorem ai0 (w : World) : AI w z20 z20 (List.replicate 20 false) fN fN (fun _ => false) := by
  have h : ∀ j, j < 20 → Sx w (z20.getD j zS) (fN j) := by
    intro j hj
    have e : z20.getD j zS = .slice none 0 0 := by
      unfold z20
      rw [List.getD_eq_getElem?_getD, List.getElem?_replicate, if_pos hj]
      rfl
    rw [e]
    exact Sx.nil w
  refine ⟨rfl, rfl, by simp, h, h, fun j hj => ?_, fun _ _ _ => rfl⟩
  rw [List.getD_eq_getElem?_getD, List.getElem?_replicate]
  split <;> rfl
set_option maxRecDepth 100000 in
set_option maxHeartbeats 2000000 in
theorem dlasts_calls (w : World) (A : Option Addr) (m c : Nat) (xs : List (List Int)) (hr : Kd.C kBB w A m xs) (hc : m ≤ c) (hsz : ∀ ys ∈ xs, ys.length ≤ 140737488355327) (p : Int) (hp : -9223372036854775808 ≤ p ∧ p ≤ 9223372036854775807) (AF : Option Addr) (mf cf : Nat) (fl : List Int) (hf : mf = fl.length) (hrf : Kd.C kI w AF mf fl) (hcf : mf ≤ cf) :
    Calls Try.prog 3 #[.slice A m c, .int .i64 p, .slice AF mf cf] w fun e w' => e = .returned (.bool true) ∧ Ext w w' := by
  have HR := Aside0.mk hr
  have HSZ := Aside0.mk hsz
  have HFN := Aside0.mk hf
  have HRF := Aside0.mk hrf
  clear hr hsz hf hrf
  obtain ⟨N, hN⟩ : ∃ N, N = pickT p 200 := ⟨_, rfl⟩
  by_cases hbf : (1000 : Int) < mf
  · go_enter Try.func3, Try.ntmps3
    go_wp2_with fail
    refine (d_new w 20 (by decide) (by decide)).mono ?_
    rintro e w1 ⟨bd, bl, bc, br, rfl, hD, hE, hk⟩
    have HE1 := Aside0.mk hE
    clear hD hE hk
    go_wp2_with fail
    refine (known_calls w1).mono ?_
    rintro e w7 ⟨rfl, hE⟩
    have HE7 := Aside0.mk (HE1.out.trans hE)
    clear hE
    go_wp2
    go_ret
    exact ⟨rfl, HE7.out⟩
  have hd1 : decide ((1000 : Int) < mf) = false := decide_eq_false hbf
  have HI30 := Aside0.mk (show (Try.prog.info? 30).map (·.size) = some 20 by kernel_rfl)
  have HI31 := Aside0.mk (show (Try.prog.info? 31).map (·.size) = some 20 by kernel_rfl)
  go_enter Try.func3, Try.ntmps3
  go_wp2_with fail
  refine (d_new w 20 (by decide) (by decide)).mono ?_
  rintro e w1 ⟨bd, bl, bc, br, rfl, hD, hE, hk⟩
  have hs1 : (w1.alloc (.cells #[Value.slice none 0 0, Value.slice none 0 0, Value.slice none 0 0, Value.slice none 0 0, Value.slice none 0 0, Value.slice none 0 0, Value.slice none 0 0, Value.slice none 0 0, Value.slice none 0 0, Value.slice none 0 0, Value.slice none 0 0, Value.slice none 0 0, Value.slice none 0 0, Value.slice none 0 0, Value.slice none 0 0, Value.slice none 0 0, Value.slice none 0 0, Value.slice none 0 0, Value.slice none 0 0, Value.slice none 0 0] 30)).heap.size = w1.heap.size + 1 := alloc_size _ _
  have hs2 : ((w1.alloc (.cells #[Value.slice none 0 0, Value.slice none 0 0, Value.slice none 0 0, Value.slice none 0 0, Value.slice none 0 0, Value.slice none 0 0, Value.slice none 0 0, Value.slice none 0 0, Value.slice none 0 0, Value.slice none 0 0, Value.slice none 0 0, Value.slice none 0 0, Value.slice none 0 0, Value.slice none 0 0, Value.slice none 0 0, Value.slice none 0 0, Value.slice none 0 0, Value.slice none 0 0, Value.slice none 0 0, Value.slice none 0 0] 30)).alloc (.cells #[Value.slice none 0 0, Value.slice none 0 0, Value.slice none 0 0, Value.slice none 0 0, Value.slice none 0 0, Value.slice none 0 0, Value.slice none 0 0, Value.slice none 0 0, Value.slice none 0 0, Value.slice none 0 0, Value.slice none 0 0, Value.slice none 0 0, Value.slice none 0 0, Value.slice none 0 0, Value.slice none 0 0, Value.slice none 0 0, Value.slice none 0 0, Value.slice none 0 0, Value.slice none 0 0, Value.slice none 0 0] 30)).heap.size = w1.heap.size + 1 + 1 := by rw [alloc_size, alloc_size]
  have HB9 := Aside0.mk (show Blk (((w1.alloc (.cells #[Value.slice none 0 0, Value.slice none 0 0, Value.slice none 0 0, Value.slice none 0 0, Value.slice none 0 0, Value.slice none 0 0, Value.slice none 0 0, Value.slice none 0 0, Value.slice none 0 0, Value.slice none 0 0, Value.slice none 0 0, Value.slice none 0 0, Value.slice none 0 0, Value.slice none 0 0, Value.slice none 0 0, Value.slice none 0 0, Value.slice none 0 0, Value.slice none 0 0, Value.slice none 0 0, Value.slice none 0 0] 30)).alloc (.cells #[Value.slice none 0 0, Value.slice none 0 0, Value.slice none 0 0, Value.slice none 0 0, Value.slice none 0 0, Value.slice none 0 0, Value.slice none 0 0, Value.slice none 0 0, Value.slice none 0 0, Value.slice none 0 0, Value.slice none 0 0, Value.slice none 0 0, Value.slice none 0 0, Value.slice none 0 0, Value.slice none 0 0, Value.slice none 0 0, Value.slice none 0 0, Value.slice none 0 0, Value.slice none 0 0, Value.slice none 0 0] 30)).alloc (.cells #[Value.bool false, Value.bool false, Value.bool false, Value.bool false, Value.bool false, Value.bool false, Value.bool false, Value.bool false, Value.bool false, Value.bool false, Value.bool false, Value.bool false, Value.bool false, Value.bool false, Value.bool false, Value.bool false, Value.bool false, Value.bool false, Value.bool false, Value.bool false] 31)) w1.heap.size #[Value.slice none 0 0, Value.slice none 0 0, Value.slice none 0 0, Value.slice none 0 0, Value.slice none 0 0, Value.slice none 0 0, Value.slice none 0 0, Value.slice none 0 0, Value.slice none 0 0, Value.slice none 0 0, Value.slice none 0 0, Value.slice none 0 0, Value.slice none 0 0, Value.slice none 0 0, Value.slice none 0 0, Value.slice none 0 0, Value.slice none 0 0, Value.slice none 0 0, Value.slice none 0 0, Value.slice none 0 0] 30 from ((Blk.new w1 #[Value.slice none 0 0, Value.slice none 0 0, Value.slice none 0 0, Value.slice none 0 0, Value.slice none 0 0, Value.slice none 0 0, Value.slice none 0 0, Value.slice none 0 0, Value.slice none 0 0, Value.slice none 0 0, Value.slice none 0 0, Value.slice none 0 0, Value.slice none 0 0, Value.slice none 0 0, Value.slice none 0 0, Value.slice none 0 0, Value.slice none 0 0, Value.slice none 0 0, Value.slice none 0 0, Value.slice none 0 0] 30).ext ((Ext.refl _).alloc _)).ext ((Ext.refl _).alloc _))
  have HB10 := Aside0.mk (show Blk (((w1.alloc (.cells #[Value.slice none 0 0, Value.slice none 0 0, Value.slice none 0 0, Value.slice none 0 0, Value.slice none 0 0, Value.slice none 0 0, Value.slice none 0 0, Value.slice none 0 0, Value.slice none 0 0, Value.slice none 0 0, Value.slice none 0 0, Value.slice none 0 0, Value.slice none 0 0, Value.slice none 0 0, Value.slice none 0 0, Value.slice none 0 0, Value.slice none 0 0, Value.slice none 0 0, Value.slice none 0 0, Value.slice none 0 0] 30)).alloc (.cells #[Value.slice none 0 0, Value.slice none 0 0, Value.slice none 0 0, Value.slice none 0 0, Value.slice none 0 0, Value.slice none 0 0, Value.slice none 0 0, Value.slice none 0 0, Value.slice none 0 0, Value.slice none 0 0, Value.slice none 0 0, Value.slice none 0 0, Value.slice none 0 0, Value.slice none 0 0, Value.slice none 0 0, Value.slice none 0 0, Value.slice none 0 0, Value.slice none 0 0, Value.slice none 0 0, Value.slice none 0 0] 30)).alloc (.cells #[Value.bool false, Value.bool false, Value.bool false, Value.bool false, Value.bool false, Value.bool false, Value.bool false, Value.bool false, Value.bool false, Value.bool false, Value.bool false, Value.bool false, Value.bool false, Value.bool false, Value.bool false, Value.bool false, Value.bool false, Value.bool false, Value.bool false, Value.bool false] 31)) (w1.heap.size + 1) #[Value.slice none 0 0, Value.slice none 0 0, Value.slice none 0 0, Value.slice none 0 0, Value.slice none 0 0, Value.slice none 0 0, Value.slice none 0 0, Value.slice none 0 0, Value.slice none 0 0, Value.slice none 0 0, Value.slice none 0 0, Value.slice none 0 0, Value.slice none 0 0, Value.slice none 0 0, Value.slice none 0 0, Value.slice none 0 0, Value.slice none 0 0, Value.slice none 0 0, Value.slice none 0 0, Value.slice none 0 0] 30 from by rw [← hs1]; exact (Blk.new (w1.alloc (.cells #[Value.slice none 0 0, Value.slice none 0 0, Value.slice none 0 0, Value.slice none 0 0, Value.slice none 0 0, Value.slice none 0 0, Value.slice none 0 0, Value.slice none 0 0, Value.slice none 0 0, Value.slice none 0 0, Value.slice none 0 0, Value.slice none 0 0, Value.slice none 0 0, Value.slice none 0 0, Value.slice none 0 0, Value.slice none 0 0, Value.slice none 0 0, Value.slice none 0 0, Value.slice none 0 0, Value.slice none 0 0] 30)) #[Value.slice none 0 0, Value.slice none 0 0, Value.slice none 0 0, Value.slice none 0 0, Value.slice none 0 0, Value.slice none 0 0, Value.slice none 0 0, Value.slice none 0 0, Value.slice none 0 0, Value.slice none 0 0, Value.slice none 0 0, Value.slice none 0 0, Value.slice none 0 0, Value.slice none 0 0, Value.slice none 0 0, Value.slice none 0 0, Value.slice none 0 0, Value.slice none 0 0, Value.slice none 0 0, Value.slice none 0 0] 30).ext ((Ext.refl _).alloc _))
  have HB11 := Aside0.mk (show Blk (((w1.alloc (.cells #[Value.slice none 0 0, Value.slice none 0 0, Value.slice none 0 0, Value.slice none 0 0, Value.slice none 0 0, Value.slice none 0 0, Value.slice none 0 0, Value.slice none 0 0, Value.slice none 0 0, Value.slice none 0 0, Value.slice none 0 0, Value.slice none 0 0, Value.slice none 0 0, Value.slice none 0 0, Value.slice none 0 0, Value.slice none 0 0, Value.slice none 0 0, Value.slice none 0 0, Value.slice none 0 0, Value.slice none 0 0] 30)).alloc (.cells #[Value.slice none 0 0, Value.slice none 0 0, Value.slice none 0 0, Value.slice none 0 0, Value.slice none 0 0, Value.slice none 0 0, Value.slice none 0 0, Value.slice none 0 0, Value.slice none 0 0, Value.slice none 0 0, Value.slice none 0 0, Value.slice none 0 0, Value.slice none 0 0, Value.slice none 0 0, Value.slice none 0 0, Value.slice none 0 0, Value.slice none 0 0, Value.slice none 0 0, Value.slice none 0 0, Value.slice none 0 0] 30)).alloc (.cells #[Value.bool false, Value.bool false, Value.bool false, Value.bool false, Value.bool false, Value.bool false, Value.bool false, Value.bool false, Value.bool false, Value.bool false, Value.bool false, Value.bool false, Value.bool false, Value.bool false, Value.bool false, Value.bool false, Value.bool false, Value.bool false, Value.bool false, Value.bool false] 31)) (w1.heap.size + 1 + 1) #[Value.bool false, Value.bool false, Value.bool false, Value.bool false, Value.bool false, Value.bool false, Value.bool false, Value.bool false, Value.bool false, Value.bool false, Value.bool false, Value.bool false, Value.bool false, Value.bool false, Value.bool false, Value.bool false, Value.bool false, Value.bool false, Value.bool false, Value.bool false] 31 from by rw [← hs2]; exact Blk.new _ #[Value.bool false, Value.bool false, Value.bool false, Value.bool false, Value.bool false, Value.bool false, Value.bool false, Value.bool false, Value.bool false, Value.bool false, Value.bool false, Value.bool false, Value.bool false, Value.bool false, Value.bool false, Value.bool false, Value.bool false, Value.bool false, Value.bool false, Value.bool false] 31)
  have HEC := Aside0.mk (show Ext w1 (((w1.alloc (.cells #[Value.slice none 0 0, Value.slice none 0 0, Value.slice none 0 0, Value.slice none 0 0, Value.slice none 0 0, Value.slice none 0 0, Value.slice none 0 0, Value.slice none 0 0, Value.slice none 0 0, Value.slice none 0 0, Value.slice none 0 0, Value.slice none 0 0, Value.slice none 0 0, Value.slice none 0 0, Value.slice none 0 0, Value.slice none 0 0, Value.slice none 0 0, Value.slice none 0 0, Value.slice none 0 0, Value.slice none 0 0] 30)).alloc (.cells #[Value.slice none 0 0, Value.slice none 0 0, Value.slice none 0 0, Value.slice none 0 0, Value.slice none 0 0, Value.slice none 0 0, Value.slice none 0 0, Value.slice none 0 0, Value.slice none 0 0, Value.slice none 0 0, Value.slice none 0 0, Value.slice none 0 0, Value.slice none 0 0, Value.slice none 0 0, Value.slice none 0 0, Value.slice none 0 0, Value.slice none 0 0, Value.slice none 0 0, Value.slice none 0 0, Value.slice none 0 0] 30)).alloc (.cells #[Value.bool false, Value.bool false, Value.bool false, Value.bool false, Value.bool false, Value.bool false, Value.bool false, Value.bool false, Value.bool false, Value.bool false, Value.bool false, Value.bool false, Value.bool false, Value.bool false, Value.bool false, Value.bool false, Value.bool false, Value.bool false, Value.bool false, Value.bool false] 31)) from (((Ext.refl _).alloc _).alloc _).alloc _)
  have HD1 := Aside0.mk hD
  have HE1 := Aside0.mk hE
  have HK := Aside0.mk hk
  have HBS := Aside0.mk (show (∀ j, Dst bd bl bc br j → j < w1.heap.size) ∧ w.heap.size ≤ w1.heap.size from ⟨hD.lt, hE.size⟩)
  clear hD hE hk hs1 hs2
  go_wp2_with (first | ((with_reducible refine gate_store (ty := 31) rfl ?_); (refine store_at rfl 31 _ _ rfl (w1.heap.size + 1 + 1) b20 rfl rfl #[Value.bool false, Value.bool false, Value.bool false, Value.bool false, Value.bool false, Value.bool false, Value.bool false, Value.bool false, Value.bool false, Value.bool false, Value.bool false, Value.bool false, Value.bool false, Value.bool false, Value.bool false, Value.bool false, Value.bool false, Value.bool false, Value.bool false, Value.bool false] 31 HB11.out rfl HI31.out b20_one ?_)) | fail)
  intro w2 hW hB
  have HN2 := Aside0.mk (show Bs w2 w1.heap.size z20 z20 (List.replicate 20 false) from ⟨HB9.out.wrote hW (by omega), HB10.out.wrote hW (by omega), hB⟩)
  have HD2 := Aside0.mk ((HD1.out.ext HEC.out).wrote HB11.out (by decide) hW (fun j hj => by have := HBS.out.1 j hj; omega))
  have HE2 := Aside0.mk (show Ext w w2 from hW.ext (HE1.out.trans HEC.out) (by have := HBS.out.2; omega))
  clear hW hB HB9 HB10 HB11 HEC HD1 HE1
  generalize w1.heap.size = b at HN2 HBS ⊢
  go_wp2_with fail
  refine (pick_calls w2 p 200 N hp.1 hp.2 (by decide) hN).mono ?_
  rintro e w3 ⟨rfl, hE⟩
  have HD3 := Aside0.mk (HD2.out.ext hE)
  have HE3 := Aside0.mk (HE2.out.trans hE)
  have HN3 := Aside0.mk (show Bs w3 b z20 z20 (List.replicate 20 false) from ⟨HN2.out.1.ext hE, HN2.out.2.1.ext hE, HN2.out.2.2.ext hE⟩)
  clear hE HD2 HE2 HN2 hN
  have HA3 := Aside0.mk (ai0 w)
  go_wp2_with fail
  go_loopw [12] (fun i wr => ∃ x : Nat, i = .int .i64 x ∧ Aside0 (x ≤ m ∧ x ≤ 200) ∧ (∃ L C T LA CA TA lf wt, Aside0 (DB wr bd bl bc br 20 L (gT C T) false lf false wt (List.replicate 20 0)) ∧ Aside0 (Bs wr b LA CA TA) ∧ Aside0 (AI w LA CA TA L C T)) ∧ Aside0 (Ext w wr)) (fun i _ => 200 - (intOf i).toNat)
  case atStart => exact ⟨0, rfl, ⟨Nat.zero_le _, by decide⟩, ⟨fN, fN, fun _ => false, z20, z20, List.replicate 20 false, _, _, HD3, HN3, HA3⟩, HE3⟩
  case round =>
    clear HD3 HN3 HA3 HE3
    obtain ⟨x, rfl, HX, ⟨L, C, T, LA, CA, TA, lf, wt, HD, HN, HA⟩, HE⟩ := hrel
    have g0 := HX.out
    obtain ⟨wx, hwx⟩ : ∃ wx : World, wx = wr := ⟨_, rfl⟩
    subst hwx
    by_cases hlt : x < m ∧ x < 200
    · have HXL := Aside0.mk hlt
      obtain ⟨hl1, hl2⟩ := hlt
      have hdj : decide ((x : Int) < (m : Int)) = true := decide_eq_true (by omega)
      have hdk : decide ((x : Int) < 200) = true := decide_eq_true (by omega)
      obtain ⟨ad, A', c', ys, had, hcell0, hlc, hC, hmem⟩ := bb_at2 HR.out x hl1
      subst had
      obtain ⟨zs, hzs⟩ : ∃ zs, zs = ys.take 100 := ⟨_, rfl⟩
      obtain ⟨l, hl⟩ : ∃ l, l = zs.length := ⟨_, rfl⟩
      have hll : l = min ys.length 100 := by rw [hl, hzs, List.length_take, Nat.min_comm]
      have HL := Aside0.mk hl
      have HL1 := Aside0.mk (show l ≤ 100 ∧ l ≤ c' from by rw [hll]; omega)
      have HCZ := Aside0.mk (show Kd.C kb w A' l zs from by
        have h := C_takeI hC 100
        rw [← hzs, ← hl] at h
        exact h)
      obtain ⟨ny, hny⟩ : ∃ n, n = ys.length := ⟨_, rfl⟩
      have HNY := Aside0.mk (HSZ.out ys hmem)
      rw [← hny] at hcell0 hll HNY
      have HC0 := Aside0.mk hcell0
      have HCUT := Aside0.mk (show 0 ≤ min (ny : Int) 100 ∧ min (ny : Int) 100 ≤ (c' : Int) from by have := HL1.out; omega)
      have HLK := Aside0.mk (show (min (ny : Int) 100).toNat = l from by omega)
      have hcell := Ext.cell HE.out hcell0
      clear hmem hC hny hzs hl hlc hcell0 hll
      go_wp2_with fail
      apply wp_region_facts 11 [RF.val _, RF.val _, RF.val _, RF.val _, RF.val _, RF.val _, RF.val _, RF.val _, RF.val _, RF.val _, RF.val _]
      case hm => kernel_rfl
      case hB => kernel_rfl
      simp only [List.take_succ_cons, List.take_zero, List.zip_cons_cons, List.zip_nil_left]
      (first | refine wpF_val rfl (fun w' hE hD => by unfold Yld; go_simp; exact ⟨Ext.refl _, rfl⟩) ?_ | refine wpF_valg (by rfl) (fun w' hE hD => by unfold Yld; go_simp; exact ⟨Ext.refl _, rfl⟩) ?_)
      (try simp only [Act.put, List.setIfInBounds_toArray, List.set_cons_zero, List.set_cons_succ])
      (first | refine wpF_val rfl (fun w' hE hD => by unfold Yld; go_simp; exact ⟨Ext.refl _, rfl⟩) ?_ | refine wpF_valg (by rfl) (fun w' hE hD => by unfold Yld; go_simp; exact ⟨Ext.refl _, rfl⟩) ?_)
      (try simp only [Act.put, List.setIfInBounds_toArray, List.set_cons_zero, List.set_cons_succ])
      (first | refine wpF_val rfl (fun w' hE hD => by unfold Yld; go_simp; exact ⟨Ext.refl _, rfl⟩) ?_ | refine wpF_valg (by rfl) (fun w' hE hD => by unfold Yld; go_simp; exact ⟨Ext.refl _, rfl⟩) ?_)
      (try simp only [Act.put, List.setIfInBounds_toArray, List.set_cons_zero, List.set_cons_succ])
      (first | refine wpF_val rfl (fun w' hE hD => by have hq := Ext.cell hE hcell; unfold Yld; go_simp; exact ⟨Ext.refl _, rfl⟩) ?_ | refine wpF_valg (by rfl) (fun w' hE hD => by have hq := Ext.cell hE hcell; unfold Yld; go_simp; exact ⟨Ext.refl _, rfl⟩) ?_)
      (try simp only [Act.put, List.setIfInBounds_toArray, List.set_cons_zero, List.set_cons_succ])
      (first | refine wpF_val rfl (fun w' hE hD => by unfold Yld; go_simp; exact ⟨Ext.refl _, rfl⟩) ?_ | refine wpF_valg (by rfl) (fun w' hE hD => by unfold Yld; go_simp; exact ⟨Ext.refl _, rfl⟩) ?_)
      (try simp only [Act.put, List.setIfInBounds_toArray, List.set_cons_zero, List.set_cons_succ])
      (first | refine wpF_val rfl (fun w' hE hD => by unfold Yld; go_simp; exact ⟨Ext.refl _, rfl⟩) ?_ | refine wpF_valg (by rfl) (fun w' hE hD => by unfold Yld; go_simp; exact ⟨Ext.refl _, rfl⟩) ?_)
      (try simp only [Act.put, List.setIfInBounds_toArray, List.set_cons_zero, List.set_cons_succ])
      (first | refine wpF_val rfl (fun w' hE hD => by unfold Yld; go_simp; exact ⟨Ext.refl _, rfl⟩) ?_ | refine wpF_valg (by rfl) (fun w' hE hD => by unfold Yld; go_simp; exact ⟨Ext.refl _, rfl⟩) ?_)
      (try simp only [Act.put, List.setIfInBounds_toArray, List.set_cons_zero, List.set_cons_succ])
      (first | refine wpF_val rfl (fun w' hE hD => by have hq := Ext.cell hE hcell; unfold Yld; go_simp; exact ⟨Ext.refl _, rfl⟩) ?_ | refine wpF_valg (by rfl) (fun w' hE hD => by have hq := Ext.cell hE hcell; unfold Yld; go_simp; exact ⟨Ext.refl _, rfl⟩) ?_)
      (try simp only [Act.put, List.setIfInBounds_toArray, List.set_cons_zero, List.set_cons_succ])
      (first | refine wpF_val rfl (fun w' hE hD => by unfold Yld; go_simp; exact ⟨Ext.refl _, rfl⟩) ?_ | refine wpF_valg (by rfl) (fun w' hE hD => by unfold Yld; go_simp; exact ⟨Ext.refl _, rfl⟩) ?_)
      (try simp only [Act.put, List.setIfInBounds_toArray, List.set_cons_zero, List.set_cons_succ])
      (first | refine wpF_val rfl (fun w' hE hD => by unfold Yld; go_simp; exact ⟨Ext.refl _, rfl⟩) ?_ | refine wpF_valg (by rfl) (fun w' hE hD => by unfold Yld; go_simp; exact ⟨Ext.refl _, rfl⟩) ?_)
      (try simp only [Act.put, List.setIfInBounds_toArray, List.set_cons_zero, List.set_cons_succ])
      (first | refine wpF_val rfl (fun w' hE hD => by unfold Yld; go_simp; rw [if_pos HCUT.out]; exact ⟨Ext.refl _, rfl⟩) ?_ | refine wpF_valg (by rfl) (fun w' hE hD => by unfold Yld; go_simp; rw [if_pos HCUT.out]; exact ⟨Ext.refl _, rfl⟩) ?_)
      (try simp only [Act.put, List.setIfInBounds_toArray, List.set_cons_zero, List.set_cons_succ])
      refine wpF_nil fun w5 hE5 hA => ?_
      simp only [List.drop_succ_cons, List.drop_zero]
      rw [HLK.out]
      clear hA hcell HLK HCUT
      have HD5 := Aside0.mk (HD.out.ext hE5)
      have HN5 := Aside0.mk (show Bs w5 b LA CA TA from ⟨HN.out.1.ext hE5, HN.out.2.1.ext hE5, HN.out.2.2.ext hE5⟩)
      have HE5 := Aside0.mk (HE.out.trans hE5)
      have hcell := Ext.cell HE5.out HC0.out
      clear hE5 HD HN HE HC0
      obtain ⟨Y, hY⟩ : ∃ Y : Nat, x * 7 + ny = Y := ⟨_, rfl⟩
      have hrem : Int.tmod (wrap64 (wrap64 ((x : Int) * 7) + (ny : Int))) 20 = ((Y % 20 : Nat) : Int) := by
        rw [wrap64_in (x := (x : Int) * 7) (by omega) (by omega), wrap64_in (by have := HNY.out; omega) (by have := HNY.out; omega), Int.tmod_eq_emod_of_nonneg (by omega)]
        omega
      have h7 : wrap64 ((x : Int) * 7) = (x : Int) * 7 := wrap64_in (by omega) (by omega)
      have h8 : wrap64 ((x : Int) * 7 + (ny : Int)) = (x : Int) * 7 + (ny : Int) := wrap64_in (by omega) (by have := HNY.out; omega)
      rw [h7, h8] at hrem
      have HQ := Aside0.mk (Nat.mod_lt Y (show 0 < 20 by decide))
      generalize Y % 20 = q at hrem HQ
      clear hY
      go_wp2_with fail
      refine (d_write HD5.out q A' l c' zs HL.out (F_old HCZ.out HE5.out (fun k hk hd => by have := HK.out k hd; omega)) HL1.out.2 HQ.out (by have := HL1.out.1; omega) rfl).mono ?_
      rintro e w6 ⟨rfl, hD, hC⟩
      rw [gT_upd] at hD
      have HV := Aside0.mk (show Sx w (.slice A' l c') zs from ⟨A', c', by rw [HL.out], by have := HL1.out.2; have := HL.out; omega, by have h := HCZ.out; rw [HL.out] at h; exact h, by have := HL1.out.1; have := HL.out; omega⟩)
      have HA6 := Aside0.mk (HA.out.put q HQ.out HV.out)
      have hnd : ∀ j, Dst bd bl bc br j → j < b := HBS.out.1
      have HN6 := Aside0.mk (show Bs w6 b LA CA TA from ⟨hC.blk HN5.out.1 (fun h => by have := hnd _ h; omega), hC.blk HN5.out.2.1 (fun h => by have := hnd _ h; omega), hC.blk HN5.out.2.2 (fun h => by have := hnd _ h; omega)⟩)
      have HD6 := Aside0.mk hD
      have HE6 := Aside0.mk (hC.to_ext HE5.out HK.out)
      clear hD hC HD5 HN5 HE5 hnd hcell HV
      have hqC : q < CA.length := by rw [HA.out.l2]; exact HQ.out
      have hqT : q < TA.length := by rw [HA.out.l3]; exact HQ.out
      have hc10 := HN6.out.2.1.cell q (v := CA[q]) (by simp [hqC])
      have hf10 := HN6.out.2.1.free q
      obtain ⟨A9, c9, hv9, _⟩ := HA.out.s2 q HQ.out
      rw [show CA[q] = CA.getD q zS by rw [List.getD_eq_getElem?_getD, List.getElem?_eq_getElem hqC]; rfl, hv9] at hc10
      have hc11 := HN6.out.2.2.cell q (v := .bool TA[q]) (by simp [hqT])
      have hf11 := HN6.out.2.2.free q
      obtain ⟨tq, htq⟩ : ∃ tq, tq = TA[q] := ⟨_, rfl⟩
      rw [← htq] at hc11
      clear htq
      have HW1 := Aside0.mk (Wrote.setCell w6 (b + 1) q (.slice A' l c'))
      have HW2 := Aside0.mk (Wrote.setCell (w6.setCell ⟨b + 1, q, none⟩ (.slice A' l c')) (b + 1 + 1) q (.bool true))
      have HB11 := Aside0.mk (HN6.out.2.2.wrote HW1.out (by omega))
      have HN7 := Aside0.mk (show Bs ((w6.setCell ⟨b + 1, q, none⟩ (.slice A' l c')).setCell ⟨b + 1 + 1, q, none⟩ (.bool true)) b LA (CA.set q (.slice A' l c')) (TA.set q true) from
        ⟨(HN6.out.1.wrote HW1.out (by omega)).wrote HW2.out (by omega), (by simpa using (HN6.out.2.1.set q (.slice A' l c')).wrote HW2.out (by omega)), (by simpa [List.map_set] using HB11.out.set q (.bool true))⟩)
      have HD7 := Aside0.mk ((HD6.out.wrote HN6.out.2.1 (by decide) HW1.out (fun j hj => by have := HBS.out.1 j hj; omega)).wrote HB11.out (by decide) HW2.out (fun j hj => by have := HBS.out.1 j hj; omega))
      have HE7 := Aside0.mk (HW2.out.ext (HW1.out.ext HE6.out (by have := HBS.out.2; omega)) (by have := HBS.out.2; omega))
      clear hv9 hqC hqT HA HD6 HE6 HW1 HW2 HB11 HN6 HL HL1 HCZ
      have hq20 : (q : Int) < 20 := by have := HQ.out; omega
      by_cases hxN : (x : Int) = N
      · have hxe : ((x : Int) == N) = true := by simpa using hxN
        have hxd : decide ((x : Int) = N) = true := decide_eq_true hxN
        clear hxN
        go_wp2_with fail
        refine (d_sync HD7.out rfl).mono ?_
        rintro e w8 ⟨rfl, hD, hC⟩
        have hnd : ∀ j, Dst bd bl bc br j → j < b := HBS.out.1
        have HN8 := Aside0.mk (show Bs w8 b LA (CA.set q (.slice A' l c')) (TA.set q true) from ⟨hC.blk HN7.out.1 (fun h => by have := hnd _ h; omega), hC.blk HN7.out.2.1 (fun h => by have := hnd _ h; omega), hC.blk HN7.out.2.2 (fun h => by have := hnd _ h; omega)⟩)
        have HD8 := Aside0.mk hD
        have HE8 := Aside0.mk (hC.to_ext HE7.out HK.out)
        have HA8 := Aside0.mk HA6.out.sync
        have HTL := Aside0.mk (show (TA.set q true).length = 20 from HA6.out.l3)
        have HLC := Aside0.mk (show (CA.set q (.slice A' l c')).length = 20 from HA6.out.l2)
        have HI30C := Aside0.mk (show (Try.prog.info? 30).map (·.size) = some (CA.set q (.slice A' l c')).length by rw [HLC.out]; exact HI30.out)
        have HSL := Aside0.mk (show LA.toArray.size = (CA.set q (.slice A' l c')).length by rw [HLC.out, List.size_toArray]; exact HA6.out.l1)
        clear hD hC hnd HD7 HE7 HN7 hc10 hf10 hc11 hf11
        obtain ⟨CB, hCB⟩ : ∃ CB, CB = CA.set q (.slice A' l c') := ⟨_, rfl⟩
        have HON := Aside0.mk HA6.out.one
        rw [← hCB] at HN8 HA8 HI30C HSL HON
        clear hCB HA6 HLC
        go_wp2_with (first | ((with_reducible refine gate_load (ty := 30) rfl ?_); refine load_at rfl 30 _ rfl (b + 1) 0 rfl CB _ HN8.out.2.1.whole Try.underlying30 rfl HI30C.out ?_) | ((with_reducible refine gate_store (ty := 30) rfl ?_); (refine store_at rfl 30 _ _ rfl b CB rfl rfl LA.toArray 30 HN8.out.1 HSL.out HI30C.out HON.out ?_)) | fail)
        intro w9 hW hB
        have HN9 := Aside0.mk (show Bs w9 b CB CB (TA.set q true) from ⟨hB, HN8.out.2.1.wrote hW (by omega), HN8.out.2.2.wrote hW (by omega)⟩)
        have HD9 := Aside0.mk (HD8.out.wrote HN8.out.1 (by decide) hW (fun j hj => HBS.out.1 j hj))
        have HE9 := Aside0.mk (hW.ext HE8.out HBS.out.2)
        have HST := Aside0.mk (show ((TA.set q true).map Value.bool).toArray.size = b20.length by rw [List.size_toArray, List.length_map]; exact HTL.out)
        clear hW hB HN8 HD8 HE8
        go_wp2_with (first | ((with_reducible refine gate_store (ty := 31) rfl ?_); (refine store_at rfl 31 _ _ rfl (b + 1 + 1) b20 rfl rfl ((TA.set q true).map Value.bool).toArray 31 HN9.out.2.2 HST.out HI31.out b20_one ?_)) | fail)
        intro wa hW hB
        have HNa := Aside0.mk (show Bs wa b CB CB (List.replicate 20 false) from ⟨HN9.out.1.wrote hW (by omega), HN9.out.2.1.wrote hW (by omega), hB⟩)
        have HDa := Aside0.mk (show DB wa bd bl bc br 20 (atB L (gT (upd C q zs) (upd T q true))) (gT (upd C q zs) (fun _ => false)) false _ false _ (List.replicate 20 0) from HD9.out.wrote HN9.out.2.2 (by decide) hW (fun j hj => by have := HBS.out.1 j hj; omega))
        have HEa := Aside0.mk (hW.ext HE9.out (by have := HBS.out.2; omega))
        clear hW hB HN9 HD9 HE9
        go_wp2_with fail
        go_roundw
        case rel => exact ⟨x + 1, by go_num, ⟨by have := HXL.out; omega⟩, ⟨_, _, _, _, _, _, _, _, HDa, HNa, HA8⟩, HEa⟩
        case measure => have := HXL.out; simp only [intOf]; omega
      · have hxe : ((x : Int) == N) = false := by simpa using hxN
        have hxd : decide ((x : Int) = N) = false := decide_eq_false hxN
        clear hxN
        go_wp2_with fail
        go_roundw
        case rel => exact ⟨x + 1, by go_num, ⟨by have := HXL.out; omega⟩, ⟨_, _, _, _, _, _, _, _, HD7, HN7, HA6⟩, HE7⟩
        case measure => have := HXL.out; simp only [intOf]; omega
    · rcases (show ¬ (x < m) ∨ (x < m ∧ ¬ (x < 200)) from by omega) with hx1 | hx1
      · have hdj : decide ((x : Int) < (m : Int)) = false := decide_eq_false (by omega)
        go_wp2_with fail
        refine (d_crash HD.out AF mf cf fl HFN.out (F_oldI HRF.out HE.out (fun k hk hd => by have := HK.out k hd; omega)) hcf).mono ?_
        rintro e w4 ⟨rfl, hD, hC⟩
        have hnd : ∀ j, Dst bd bl bc br j → j < b := HBS.out.1
        have HN4 := Aside0.mk (show Bs w4 b LA CA TA from ⟨hC.blk HN.out.1 (fun h => by have := hnd _ h; omega), hC.blk HN.out.2.1 (fun h => by have := hnd _ h; omega), hC.blk HN.out.2.2 (fun h => by have := hnd _ h; omega)⟩)
        have HD4 := Aside0.mk hD
        have HE4 := Aside0.mk (hC.to_ext HE.out HK.out)
        clear hD hC hnd HD HN HE
        obtain ⟨F, hF⟩ : ∃ F, F = crashB L (gT C T) fl := ⟨_, rfl⟩
        have HF := Aside0.mk hF
        rw [← hF] at HD4
        clear hF
        go_wp2_with fail
        go_loopw [15, 16] (fun u i wr => ∃ y k : Nat, i = .int .i64 y ∧ u = .int .i64 k ∧ Aside0 (y ≤ 20) ∧ Aside0 (k = cntB (gT C T) y) ∧ (∃ rd1 lf1 wt1, Aside0 (DB wr bd bl bc br 20 F gN false lf1 false wt1 rd1)) ∧ Aside0 (Bs wr b LA CA TA) ∧ Aside0 (Ext w wr)) (fun _ i _ => 20 - (intOf i).toNat)
        case atStart => exact ⟨0, 0, rfl, rfl, ⟨Nat.zero_le _⟩, ⟨rfl⟩, ⟨_, _, _, HD4⟩, HN4, HE4⟩
        case round =>
          clear HD4 HN4 HE4
          obtain ⟨y, k, rfl, rfl, HY, HKC, ⟨rd1, lf1, wt1, HD⟩, HN, HE⟩ := hrel
          have gy := HY.out
          obtain ⟨wy, hwy⟩ : ∃ wx : World, wx = wr := ⟨_, rfl⟩
          subst hwy
          by_cases hly : y < 20
          · have HYL := Aside0.mk hly
            have hdy : decide ((y : Int) < 20) = true := decide_eq_true (by omega)
            have HK20 := Aside0.mk (show k ≤ 20 from by rw [HKC.out]; exact Nat.le_trans (cntB_le _ _) (by omega))
            have gk := HK20.out
            obtain ⟨AL, cL, hvL, hcL, hCL, hlL⟩ := HA.out.s1 y hly
            obtain ⟨AC, cC, hvC, hcC, hCC, hlC⟩ := HA.out.s2 y hly
            have hcell9 : wy.cell? ⟨b, y, none⟩ = some (.slice AL (L y).length cL) := by rw [← hvL]; exact cell_at HN.out.1 HA.out.l1 hly
            have hcell10 : wy.cell? ⟨b + 1, y, none⟩ = some (.slice AC (C y).length cC) := by rw [← hvC]; exact cell_at HN.out.2.1 HA.out.l2 hly
            have hcell11 : wy.cell? ⟨b + 1 + 1, y, none⟩ = some (.bool (T y)) := by rw [← HA.out.s3 y hly]; exact cell_atB HN.out.2.2 HA.out.l3 hly
            obtain ⟨nL, hnL⟩ : ∃ n, n = (L y).length := ⟨_, rfl⟩
            obtain ⟨nC, hnC⟩ : ∃ n, n = (C y).length := ⟨_, rfl⟩
            rw [← hnL] at hcell9 hcL hCL
            rw [← hnC] at hcell10 hcC hCC
            have HSL := Aside0.mk (show nL = (L y).length ∧ nL ≤ cL ∧ Kd.C kb w AL nL (L y) ∧ (L y).length ≤ 100 from ⟨hnL, hcL, hCL, hlL⟩)
            have HSC := Aside0.mk (show nC = (C y).length ∧ nC ≤ cC ∧ Kd.C kb w AC nC (C y) ∧ (C y).length ≤ 100 from ⟨hnC, hcC, hCC, hlC⟩)
            clear hvL hvC hcL hCL hlL hcC hCC hlC hnL hnC
            by_cases hTy : T y = true
            · rw [hTy] at hcell11
              have HNX := Aside0.mk (show k + 1 = cntB (gT C T) (y + 1) from by rw [cntB_succ, if_pos (by unfold gT; rw [if_pos hTy]; rfl), ← HKC.out])
              by_cases hkm : k < mf
              · have hdkm : decide ((k : Int) < (mf : Int)) = true := decide_eq_true (by omega)
                obtain ⟨af, haf, hcellF⟩ := at_k (Kd.C_below HRF.out HE.out) (k : Int) (by omega) (by omega)
                subst haf
                rw [Int.toNat_natCast] at hcellF
                obtain ⟨v, hv⟩ : ∃ v, v = Go.Proofs.YtkgjcmolmogpdaaW.PrintWords.rd fl (k : Int) := ⟨_, rfl⟩
                rw [← hv] at hcellF
                have hvd : v = fl.getD (cntB (gT C T) y) 0 := by rw [hv, ← HKC.out]; unfold Go.Proofs.YtkgjcmolmogpdaaW.PrintWords.rd; rw [Int.toNat_natCast]
                by_cases hv0 : v = 0
                · have HFY := Aside0.mk (show F y = L y from by rw [HF.out]; unfold crashB; rw [if_pos (by rw [← hvd]; exact hv0)])
                  clear hv hvd
                  subst hv0
                  go_wp2_with fail
                  refine (d_read HD.out y hly).mono ?_
                  rintro e wa ⟨U1, rfl, hU, hD, hC⟩
                  have hnd : ∀ j, Dst bd bl bc br j → j < b := HBS.out.1
                  have HNa := Aside0.mk (show Bs wa b LA CA TA from ⟨hC.blk HN.out.1 (fun h => by have := hnd _ h; omega), hC.blk HN.out.2.1 (fun h => by have := hnd _ h; omega), hC.blk HN.out.2.2 (fun h => by have := hnd _ h; omega)⟩)
                  have HDa := Aside0.mk hD
                  have HEa := Aside0.mk (hC.to_ext HE.out HK.out)
                  have hU' : NB wa wy.heap.size U1 (F y) := hU
                  rw [HFY.out] at hU'
                  obtain ⟨A1, n1, hV1, hc1, hC1⟩ := hU'.reads
                  have HSB := Aside0.mk (same_at wa A1 AL n1 cL (L y) (L y) true rfl HSL.out.1 (by simp) hC1 hc1 (Kd.C_below HSL.out.2.2.1 HEa.out) HSL.out.2.1 (by have := HSL.out.2.2.2; omega))
                  rw [← hV1] at HSB
                  clear hV1 hc1 hC1 hU hU' hD hC hnd HD HN HE
                  go_wp2_with fail
                  refine HSB.out.mono ?_
                  rintro e wc ⟨rfl, hE⟩
                  have HDc := Aside0.mk (HDa.out.ext hE)
                  have HNc := Aside0.mk (show Bs wc b LA CA TA from ⟨HNa.out.1.ext hE, HNa.out.2.1.ext hE, HNa.out.2.2.ext hE⟩)
                  have HEc := Aside0.mk (HEa.out.trans hE)
                  clear hE HDa HNa HEa HSB
                  go_wp2_with fail
                  go_roundw
                  case rel => exact ⟨y + 1, k + 1, by go_num, (by first | rfl | go_num), ⟨HYL.out⟩, HNX, ⟨_, _, _, HDc⟩, HNc, HEc⟩
                  case measure => have := HYL.out; simp only [intOf]; omega
                · have HFY := Aside0.mk (show F y = C y from by rw [HF.out]; unfold crashB; rw [if_neg (by rw [← hvd]; exact hv0)]; unfold gT; rw [if_pos hTy]; rfl)
                  have hvb : (v == 0) = false := by simpa using hv0
                  clear hv hvd
                  go_wp2_with fail
                  refine (d_read HD.out y hly).mono ?_
                  rintro e wa ⟨U1, rfl, hU, hD, hC⟩
                  have hnd : ∀ j, Dst bd bl bc br j → j < b := HBS.out.1
                  have HNa := Aside0.mk (show Bs wa b LA CA TA from ⟨hC.blk HN.out.1 (fun h => by have := hnd _ h; omega), hC.blk HN.out.2.1 (fun h => by have := hnd _ h; omega), hC.blk HN.out.2.2 (fun h => by have := hnd _ h; omega)⟩)
                  have HDa := Aside0.mk hD
                  have HEa := Aside0.mk (hC.to_ext HE.out HK.out)
                  have hU' : NB wa wy.heap.size U1 (F y) := hU
                  rw [HFY.out] at hU'
                  obtain ⟨A1, n1, hV1, hc1, hC1⟩ := hU'.reads
                  have HSB := Aside0.mk (same_at wa A1 AC n1 cC (C y) (C y) true rfl HSC.out.1 (by simp) hC1 hc1 (Kd.C_below HSC.out.2.2.1 HEa.out) HSC.out.2.1 (by have := HSC.out.2.2.2; omega))
                  rw [← hV1] at HSB
                  clear hV1 hc1 hC1 hU hU' hD hC hnd HD HN HE
                  go_wp2_with fail
                  refine HSB.out.mono ?_
                  rintro e wc ⟨rfl, hE⟩
                  have HDc := Aside0.mk (HDa.out.ext hE)
                  have HNc := Aside0.mk (show Bs wc b LA CA TA from ⟨HNa.out.1.ext hE, HNa.out.2.1.ext hE, HNa.out.2.2.ext hE⟩)
                  have HEc := Aside0.mk (HEa.out.trans hE)
                  clear hE HDa HNa HEa HSB
                  go_wp2_with fail
                  go_roundw
                  case rel => exact ⟨y + 1, k + 1, by go_num, (by first | rfl | go_num), ⟨HYL.out⟩, HNX, ⟨_, _, _, HDc⟩, HNc, HEc⟩
                  case measure => have := HYL.out; simp only [intOf]; omega
              · have hdkm : decide ((k : Int) < (mf : Int)) = false := decide_eq_false (by omega)
                have HFY := Aside0.mk (show F y = L y from by
                  rw [HF.out]; unfold crashB
                  rw [if_pos (by rw [← HKC.out, List.getD_eq_getElem?_getD, List.getElem?_eq_none (by have := HFN.out; omega)]; rfl)])
                go_wp2_with fail
                refine (d_read HD.out y hly).mono ?_
                rintro e wa ⟨U1, rfl, hU, hD, hC⟩
                have hnd : ∀ j, Dst bd bl bc br j → j < b := HBS.out.1
                have HNa := Aside0.mk (show Bs wa b LA CA TA from ⟨hC.blk HN.out.1 (fun h => by have := hnd _ h; omega), hC.blk HN.out.2.1 (fun h => by have := hnd _ h; omega), hC.blk HN.out.2.2 (fun h => by have := hnd _ h; omega)⟩)
                have HDa := Aside0.mk hD
                have HEa := Aside0.mk (hC.to_ext HE.out HK.out)
                have hU' : NB wa wy.heap.size U1 (F y) := hU
                rw [HFY.out] at hU'
                obtain ⟨A1, n1, hV1, hc1, hC1⟩ := hU'.reads
                have HSB := Aside0.mk (same_at wa A1 AL n1 cL (L y) (L y) true rfl HSL.out.1 (by simp) hC1 hc1 (Kd.C_below HSL.out.2.2.1 HEa.out) HSL.out.2.1 (by have := HSL.out.2.2.2; omega))
                rw [← hV1] at HSB
                clear hV1 hc1 hC1 hU hU' hD hC hnd HD HN HE
                go_wp2_with fail
                refine HSB.out.mono ?_
                rintro e wc ⟨rfl, hE⟩
                have HDc := Aside0.mk (HDa.out.ext hE)
                have HNc := Aside0.mk (show Bs wc b LA CA TA from ⟨HNa.out.1.ext hE, HNa.out.2.1.ext hE, HNa.out.2.2.ext hE⟩)
                have HEc := Aside0.mk (HEa.out.trans hE)
                clear hE HDa HNa HEa HSB
                go_wp2_with fail
                go_roundw
                case rel => exact ⟨y + 1, k + 1, by go_num, (by first | rfl | go_num), ⟨HYL.out⟩, HNX, ⟨_, _, _, HDc⟩, HNc, HEc⟩
                case measure => have := HYL.out; simp only [intOf]; omega
            · have hTf : T y = false := by simpa using hTy
              rw [hTf] at hcell11
              have HNX := Aside0.mk (show k = cntB (gT C T) (y + 1) from by rw [cntB_succ, if_neg (by unfold gT; rw [if_neg hTy]; simp), ← HKC.out]; rfl)
              have HFY := Aside0.mk (show F y = L y from by
                rw [HF.out]; unfold crashB
                split
                · rfl
                · unfold gT; rw [if_neg hTy]; rfl)
              go_wp2_with fail
              refine (d_read HD.out y hly).mono ?_
              rintro e wa ⟨U1, rfl, hU, hD, hC⟩
              have hnd : ∀ j, Dst bd bl bc br j → j < b := HBS.out.1
              have HNa := Aside0.mk (show Bs wa b LA CA TA from ⟨hC.blk HN.out.1 (fun h => by have := hnd _ h; omega), hC.blk HN.out.2.1 (fun h => by have := hnd _ h; omega), hC.blk HN.out.2.2 (fun h => by have := hnd _ h; omega)⟩)
              have HDa := Aside0.mk hD
              have HEa := Aside0.mk (hC.to_ext HE.out HK.out)
              have hU' : NB wa wy.heap.size U1 (F y) := hU
              rw [HFY.out] at hU'
              obtain ⟨A1, n1, hV1, hc1, hC1⟩ := hU'.reads
              have HSB := Aside0.mk (same_at wa A1 AL n1 cL (L y) (L y) true rfl HSL.out.1 (by simp) hC1 hc1 (Kd.C_below HSL.out.2.2.1 HEa.out) HSL.out.2.1 (by have := HSL.out.2.2.2; omega))
              rw [← hV1] at HSB
              clear hV1 hc1 hC1 hU hU' hD hC hnd HD HN HE
              go_wp2_with fail
              refine HSB.out.mono ?_
              rintro e wc ⟨rfl, hE⟩
              have HDc := Aside0.mk (HDa.out.ext hE)
              have HNc := Aside0.mk (show Bs wc b LA CA TA from ⟨HNa.out.1.ext hE, HNa.out.2.1.ext hE, HNa.out.2.2.ext hE⟩)
              have HEc := Aside0.mk (HEa.out.trans hE)
              clear hE HDa HNa HEa HSB
              go_wp2_with fail
              go_roundw
              case rel => exact ⟨y + 1, k, by go_num, (by first | rfl | go_num), ⟨HYL.out⟩, HNX, ⟨_, _, _, HDc⟩, HNc, HEc⟩
              case measure => have := HYL.out; simp only [intOf]; omega
          · obtain rfl : y = 20 := by omega
            go_wp2_with fail
            refine (d_dirty HD.out).mono ?_
            rintro e wa ⟨V, rfl, hV, hE⟩
            obtain ⟨A5, c5, rfl, _, _⟩ := Kd.R_reads hV
            have h0 : (dirtyB gN 20).length = 0 := by rfl
            rw [h0]
            have HDa := Aside0.mk (HD.out.ext hE)
            have HEa := Aside0.mk (HE.out.trans hE)
            clear hV hE HD HE h0
            go_wp2_with fail
            refine (d_down HDa.out).mono ?_
            rintro e wb ⟨rfl, rfl⟩
            go_wp2_with fail
            refine (known_calls wa).mono ?_
            rintro e wz ⟨rfl, hE⟩
            have HEz := Aside0.mk (HEa.out.trans hE)
            clear hE HEa
            go_wp2
            go_ret
            exact ⟨rfl, HEz.out⟩
      · obtain ⟨hx1, hx2⟩ := hx1
        have hdj : decide ((x : Int) < (m : Int)) = true := decide_eq_true (by omega)
        have hdk : decide ((x : Int) < 200) = false := decide_eq_false (by omega)
        go_wp2_with fail
        refine (d_crash HD.out AF mf cf fl HFN.out (F_oldI HRF.out HE.out (fun k hk hd => by have := HK.out k hd; omega)) hcf).mono ?_
        rintro e w4 ⟨rfl, hD, hC⟩
        have hnd : ∀ j, Dst bd bl bc br j → j < b := HBS.out.1
        have HN4 := Aside0.mk (show Bs w4 b LA CA TA from ⟨hC.blk HN.out.1 (fun h => by have := hnd _ h; omega), hC.blk HN.out.2.1 (fun h => by have := hnd _ h; omega), hC.blk HN.out.2.2 (fun h => by have := hnd _ h; omega)⟩)
        have HD4 := Aside0.mk hD
        have HE4 := Aside0.mk (hC.to_ext HE.out HK.out)
        clear hD hC hnd HD HN HE
        obtain ⟨F, hF⟩ : ∃ F, F = crashB L (gT C T) fl := ⟨_, rfl⟩
        have HF := Aside0.mk hF
        rw [← hF] at HD4
        clear hF
        go_wp2_with fail
        go_loopw [15, 16] (fun u i wr => ∃ y k : Nat, i = .int .i64 y ∧ u = .int .i64 k ∧ Aside0 (y ≤ 20) ∧ Aside0 (k = cntB (gT C T) y) ∧ (∃ rd1 lf1 wt1, Aside0 (DB wr bd bl bc br 20 F gN false lf1 false wt1 rd1)) ∧ Aside0 (Bs wr b LA CA TA) ∧ Aside0 (Ext w wr)) (fun _ i _ => 20 - (intOf i).toNat)
        case atStart => exact ⟨0, 0, rfl, rfl, ⟨Nat.zero_le _⟩, ⟨rfl⟩, ⟨_, _, _, HD4⟩, HN4, HE4⟩
        case round =>
          clear HD4 HN4 HE4
          obtain ⟨y, k, rfl, rfl, HY, HKC, ⟨rd1, lf1, wt1, HD⟩, HN, HE⟩ := hrel
          have gy := HY.out
          obtain ⟨wy, hwy⟩ : ∃ wx : World, wx = wr := ⟨_, rfl⟩
          subst hwy
          by_cases hly : y < 20
          · have HYL := Aside0.mk hly
            have hdy : decide ((y : Int) < 20) = true := decide_eq_true (by omega)
            have HK20 := Aside0.mk (show k ≤ 20 from by rw [HKC.out]; exact Nat.le_trans (cntB_le _ _) (by omega))
            have gk := HK20.out
            obtain ⟨AL, cL, hvL, hcL, hCL, hlL⟩ := HA.out.s1 y hly
            obtain ⟨AC, cC, hvC, hcC, hCC, hlC⟩ := HA.out.s2 y hly
            have hcell9 : wy.cell? ⟨b, y, none⟩ = some (.slice AL (L y).length cL) := by rw [← hvL]; exact cell_at HN.out.1 HA.out.l1 hly
            have hcell10 : wy.cell? ⟨b + 1, y, none⟩ = some (.slice AC (C y).length cC) := by rw [← hvC]; exact cell_at HN.out.2.1 HA.out.l2 hly
            have hcell11 : wy.cell? ⟨b + 1 + 1, y, none⟩ = some (.bool (T y)) := by rw [← HA.out.s3 y hly]; exact cell_atB HN.out.2.2 HA.out.l3 hly
            obtain ⟨nL, hnL⟩ : ∃ n, n = (L y).length := ⟨_, rfl⟩
            obtain ⟨nC, hnC⟩ : ∃ n, n = (C y).length := ⟨_, rfl⟩
            rw [← hnL] at hcell9 hcL hCL
            rw [← hnC] at hcell10 hcC hCC
            have HSL := Aside0.mk (show nL = (L y).length ∧ nL ≤ cL ∧ Kd.C kb w AL nL (L y) ∧ (L y).length ≤ 100 from ⟨hnL, hcL, hCL, hlL⟩)
            have HSC := Aside0.mk (show nC = (C y).length ∧ nC ≤ cC ∧ Kd.C kb w AC nC (C y) ∧ (C y).length ≤ 100 from ⟨hnC, hcC, hCC, hlC⟩)
            clear hvL hvC hcL hCL hlL hcC hCC hlC hnL hnC
            by_cases hTy : T y = true
            · rw [hTy] at hcell11
              have HNX := Aside0.mk (show k + 1 = cntB (gT C T) (y + 1) from by rw [cntB_succ, if_pos (by unfold gT; rw [if_pos hTy]; rfl), ← HKC.out])
              by_cases hkm : k < mf
              · have hdkm : decide ((k : Int) < (mf : Int)) = true := decide_eq_true (by omega)
                obtain ⟨af, haf, hcellF⟩ := at_k (Kd.C_below HRF.out HE.out) (k : Int) (by omega) (by omega)
                subst haf
                rw [Int.toNat_natCast] at hcellF
                obtain ⟨v, hv⟩ : ∃ v, v = Go.Proofs.YtkgjcmolmogpdaaW.PrintWords.rd fl (k : Int) := ⟨_, rfl⟩
                rw [← hv] at hcellF
                have hvd : v = fl.getD (cntB (gT C T) y) 0 := by rw [hv, ← HKC.out]; unfold Go.Proofs.YtkgjcmolmogpdaaW.PrintWords.rd; rw [Int.toNat_natCast]
                by_cases hv0 : v = 0
                · have HFY := Aside0.mk (show F y = L y from by rw [HF.out]; unfold crashB; rw [if_pos (by rw [← hvd]; exact hv0)])
                  clear hv hvd
                  subst hv0
                  go_wp2_with fail
                  refine (d_read HD.out y hly).mono ?_
                  rintro e wa ⟨U1, rfl, hU, hD, hC⟩
                  have hnd : ∀ j, Dst bd bl bc br j → j < b := HBS.out.1
                  have HNa := Aside0.mk (show Bs wa b LA CA TA from ⟨hC.blk HN.out.1 (fun h => by have := hnd _ h; omega), hC.blk HN.out.2.1 (fun h => by have := hnd _ h; omega), hC.blk HN.out.2.2 (fun h => by have := hnd _ h; omega)⟩)
                  have HDa := Aside0.mk hD
                  have HEa := Aside0.mk (hC.to_ext HE.out HK.out)
                  have hU' : NB wa wy.heap.size U1 (F y) := hU
                  rw [HFY.out] at hU'
                  obtain ⟨A1, n1, hV1, hc1, hC1⟩ := hU'.reads
                  have HSB := Aside0.mk (same_at wa A1 AL n1 cL (L y) (L y) true rfl HSL.out.1 (by simp) hC1 hc1 (Kd.C_below HSL.out.2.2.1 HEa.out) HSL.out.2.1 (by have := HSL.out.2.2.2; omega))
                  rw [← hV1] at HSB
                  clear hV1 hc1 hC1 hU hU' hD hC hnd HD HN HE
                  go_wp2_with fail
                  refine HSB.out.mono ?_
                  rintro e wc ⟨rfl, hE⟩
                  have HDc := Aside0.mk (HDa.out.ext hE)
                  have HNc := Aside0.mk (show Bs wc b LA CA TA from ⟨HNa.out.1.ext hE, HNa.out.2.1.ext hE, HNa.out.2.2.ext hE⟩)
                  have HEc := Aside0.mk (HEa.out.trans hE)
                  clear hE HDa HNa HEa HSB
                  go_wp2_with fail
                  go_roundw
                  case rel => exact ⟨y + 1, k + 1, by go_num, (by first | rfl | go_num), ⟨HYL.out⟩, HNX, ⟨_, _, _, HDc⟩, HNc, HEc⟩
                  case measure => have := HYL.out; simp only [intOf]; omega
                · have HFY := Aside0.mk (show F y = C y from by rw [HF.out]; unfold crashB; rw [if_neg (by rw [← hvd]; exact hv0)]; unfold gT; rw [if_pos hTy]; rfl)
                  have hvb : (v == 0) = false := by simpa using hv0
                  clear hv hvd
                  go_wp2_with fail
                  refine (d_read HD.out y hly).mono ?_
                  rintro e wa ⟨U1, rfl, hU, hD, hC⟩
                  have hnd : ∀ j, Dst bd bl bc br j → j < b := HBS.out.1
                  have HNa := Aside0.mk (show Bs wa b LA CA TA from ⟨hC.blk HN.out.1 (fun h => by have := hnd _ h; omega), hC.blk HN.out.2.1 (fun h => by have := hnd _ h; omega), hC.blk HN.out.2.2 (fun h => by have := hnd _ h; omega)⟩)
                  have HDa := Aside0.mk hD
                  have HEa := Aside0.mk (hC.to_ext HE.out HK.out)
                  have hU' : NB wa wy.heap.size U1 (F y) := hU
                  rw [HFY.out] at hU'
                  obtain ⟨A1, n1, hV1, hc1, hC1⟩ := hU'.reads
                  have HSB := Aside0.mk (same_at wa A1 AC n1 cC (C y) (C y) true rfl HSC.out.1 (by simp) hC1 hc1 (Kd.C_below HSC.out.2.2.1 HEa.out) HSC.out.2.1 (by have := HSC.out.2.2.2; omega))
                  rw [← hV1] at HSB
                  clear hV1 hc1 hC1 hU hU' hD hC hnd HD HN HE
                  go_wp2_with fail
                  refine HSB.out.mono ?_
                  rintro e wc ⟨rfl, hE⟩
                  have HDc := Aside0.mk (HDa.out.ext hE)
                  have HNc := Aside0.mk (show Bs wc b LA CA TA from ⟨HNa.out.1.ext hE, HNa.out.2.1.ext hE, HNa.out.2.2.ext hE⟩)
                  have HEc := Aside0.mk (HEa.out.trans hE)
                  clear hE HDa HNa HEa HSB
                  go_wp2_with fail
                  go_roundw
                  case rel => exact ⟨y + 1, k + 1, by go_num, (by first | rfl | go_num), ⟨HYL.out⟩, HNX, ⟨_, _, _, HDc⟩, HNc, HEc⟩
                  case measure => have := HYL.out; simp only [intOf]; omega
              · have hdkm : decide ((k : Int) < (mf : Int)) = false := decide_eq_false (by omega)
                have HFY := Aside0.mk (show F y = L y from by
                  rw [HF.out]; unfold crashB
                  rw [if_pos (by rw [← HKC.out, List.getD_eq_getElem?_getD, List.getElem?_eq_none (by have := HFN.out; omega)]; rfl)])
                go_wp2_with fail
                refine (d_read HD.out y hly).mono ?_
                rintro e wa ⟨U1, rfl, hU, hD, hC⟩
                have hnd : ∀ j, Dst bd bl bc br j → j < b := HBS.out.1
                have HNa := Aside0.mk (show Bs wa b LA CA TA from ⟨hC.blk HN.out.1 (fun h => by have := hnd _ h; omega), hC.blk HN.out.2.1 (fun h => by have := hnd _ h; omega), hC.blk HN.out.2.2 (fun h => by have := hnd _ h; omega)⟩)
                have HDa := Aside0.mk hD
                have HEa := Aside0.mk (hC.to_ext HE.out HK.out)
                have hU' : NB wa wy.heap.size U1 (F y) := hU
                rw [HFY.out] at hU'
                obtain ⟨A1, n1, hV1, hc1, hC1⟩ := hU'.reads
                have HSB := Aside0.mk (same_at wa A1 AL n1 cL (L y) (L y) true rfl HSL.out.1 (by simp) hC1 hc1 (Kd.C_below HSL.out.2.2.1 HEa.out) HSL.out.2.1 (by have := HSL.out.2.2.2; omega))
                rw [← hV1] at HSB
                clear hV1 hc1 hC1 hU hU' hD hC hnd HD HN HE
                go_wp2_with fail
                refine HSB.out.mono ?_
                rintro e wc ⟨rfl, hE⟩
                have HDc := Aside0.mk (HDa.out.ext hE)
                have HNc := Aside0.mk (show Bs wc b LA CA TA from ⟨HNa.out.1.ext hE, HNa.out.2.1.ext hE, HNa.out.2.2.ext hE⟩)
                have HEc := Aside0.mk (HEa.out.trans hE)
                clear hE HDa HNa HEa HSB
                go_wp2_with fail
                go_roundw
                case rel => exact ⟨y + 1, k + 1, by go_num, (by first | rfl | go_num), ⟨HYL.out⟩, HNX, ⟨_, _, _, HDc⟩, HNc, HEc⟩
                case measure => have := HYL.out; simp only [intOf]; omega
            · have hTf : T y = false := by simpa using hTy
              rw [hTf] at hcell11
              have HNX := Aside0.mk (show k = cntB (gT C T) (y + 1) from by rw [cntB_succ, if_neg (by unfold gT; rw [if_neg hTy]; simp), ← HKC.out]; rfl)
              have HFY := Aside0.mk (show F y = L y from by
                rw [HF.out]; unfold crashB
                split
                · rfl
                · unfold gT; rw [if_neg hTy]; rfl)
              go_wp2_with fail
              refine (d_read HD.out y hly).mono ?_
              rintro e wa ⟨U1, rfl, hU, hD, hC⟩
              have hnd : ∀ j, Dst bd bl bc br j → j < b := HBS.out.1
              have HNa := Aside0.mk (show Bs wa b LA CA TA from ⟨hC.blk HN.out.1 (fun h => by have := hnd _ h; omega), hC.blk HN.out.2.1 (fun h => by have := hnd _ h; omega), hC.blk HN.out.2.2 (fun h => by have := hnd _ h; omega)⟩)
              have HDa := Aside0.mk hD
              have HEa := Aside0.mk (hC.to_ext HE.out HK.out)
              have hU' : NB wa wy.heap.size U1 (F y) := hU
              rw [HFY.out] at hU'
              obtain ⟨A1, n1, hV1, hc1, hC1⟩ := hU'.reads
              have HSB := Aside0.mk (same_at wa A1 AL n1 cL (L y) (L y) true rfl HSL.out.1 (by simp) hC1 hc1 (Kd.C_below HSL.out.2.2.1 HEa.out) HSL.out.2.1 (by have := HSL.out.2.2.2; omega))
              rw [← hV1] at HSB
              clear hV1 hc1 hC1 hU hU' hD hC hnd HD HN HE
              go_wp2_with fail
              refine HSB.out.mono ?_
              rintro e wc ⟨rfl, hE⟩
              have HDc := Aside0.mk (HDa.out.ext hE)
              have HNc := Aside0.mk (show Bs wc b LA CA TA from ⟨HNa.out.1.ext hE, HNa.out.2.1.ext hE, HNa.out.2.2.ext hE⟩)
              have HEc := Aside0.mk (HEa.out.trans hE)
              clear hE HDa HNa HEa HSB
              go_wp2_with fail
              go_roundw
              case rel => exact ⟨y + 1, k, by go_num, (by first | rfl | go_num), ⟨HYL.out⟩, HNX, ⟨_, _, _, HDc⟩, HNc, HEc⟩
              case measure => have := HYL.out; simp only [intOf]; omega
          · obtain rfl : y = 20 := by omega
            go_wp2_with fail
            refine (d_dirty HD.out).mono ?_
            rintro e wa ⟨V, rfl, hV, hE⟩
            obtain ⟨A5, c5, rfl, _, _⟩ := Kd.R_reads hV
            have h0 : (dirtyB gN 20).length = 0 := by rfl
            rw [h0]
            have HDa := Aside0.mk (HD.out.ext hE)
            have HEa := Aside0.mk (HE.out.trans hE)
            clear hV hE HD HE h0
            go_wp2_with fail
            refine (d_down HDa.out).mono ?_
            rintro e wb ⟨rfl, rfl⟩
            go_wp2_with fail
            refine (known_calls wa).mono ?_
            rintro e wz ⟨rfl, hE⟩
            have HEz := Aside0.mk (HEa.out.trans hE)
            clear hE HEa
            go_wp2
            go_ret
            exact ⟨rfl, HEz.out⟩
end Go.Proofs.Ytkgjcmolmogpdaa.By
