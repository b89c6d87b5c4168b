/- A digest under way: New and Add. -/
import Derived.Test.YtbnbncnmhhioeaaDoorSPure
namespace Go.Proofs.YtbnbncnmhhioeaaDoor.By
open Go.RowKit Go.Proofs.YtbnbncnmhhioeaaDoor.Reg Go.Proofs.YtbnbncnmhhioeaaDoorW.PrintWords Go.Proofs.YtbnbncnmhhioeaaDoorW.PrintLast Go.Proofs.YtbnbncnmhhioeaaDoorW.PrintMore
set_option linter.unusedVariables false

/-- Memory has turned in the blocks S alone, and grown. -/
structure Fr (w w' : World) (S : Nat → Prop) : Prop where
  os : w'.os = w.os
  tape : w'.tape = w.tape
  output : w'.output = w.output
  size : w.heap.size ≤ w'.heap.size
  block : ∀ k, k < w.heap.size → ¬ S k → w'.heap[k]? = w.heap[k]?
theorem Fr.of_ext {w w' : World} {S : Nat → Prop} (h : Ext w w') : Fr w w' S := ⟨h.os, h.tape, h.output, h.size, fun k hk _ => h.block k hk⟩
theorem Fr.weak {w w' : World} {S S' : Nat → Prop} (h : Fr w w' S) (hs : ∀ k, S k → S' k) : Fr w w' S' := ⟨h.os, h.tape, h.output, h.size, fun k hk hn => h.block k hk (fun h' => hn (hs k h'))⟩
theorem Fr.trans {w w' w'' : World} {S S' : Nat → Prop} (h : Fr w w' S) (k : Fr w' w'' S') (hs : ∀ j, j < w.heap.size → S' j → S j) : Fr w w'' S :=
  ⟨k.os.trans h.os, k.tape.trans h.tape, k.output.trans h.output, Nat.le_trans h.size k.size, fun j hj hn => (k.block j (Nat.lt_of_lt_of_le hj h.size) (fun h' => hn (hs j hj h'))).trans (h.block j hj hn)⟩
theorem Fr.of_wrote {w w' : World} {b : Nat} (h : Wrote w w' b) : Fr w w' (· = b) := ⟨h.os, h.tape, h.output, Nat.le_of_eq h.size.symm, fun k _ hn => h.block k hn⟩
theorem Fr.of_grown {w w' : World} {r : Option Nat} (h : w.grownBy w' r) : Fr w w' (fun k => r = some k) := ⟨h.os, h.tape, h.output, h.size, fun k hk hn => h.block k hk (fun e => hn e.symm)⟩
theorem Fr.ext {w0 w w' : World} {S : Nat → Prop} (h : Fr w w' S) (he : Ext w0 w) (hs : ∀ k, S k → w0.heap.size ≤ k) : Ext w0 w' :=
  ⟨h.os.trans he.os, h.tape.trans he.tape, h.output.trans he.output, Nat.le_trans he.size h.size, fun k hk => (h.block k (Nat.lt_of_lt_of_le hk he.size) (fun hS => by have := hs k hS; omega)).trans (he.block k hk)⟩
theorem Fr.cell {w w' : World} {S : Nat → Prop} (h : Fr w w' S) {a : Addr} {v : Value} (hc : w.cell? a = some v) (hn : ¬ S a.block) : w'.cell? a = some v :=
  (World.cell?_of_block (h.block a.block (World.block_lt_of_cell? w a hc) hn)).trans hc
theorem Fr.blk {w w' : World} {S : Nat → Prop} (h : Fr w w' S) {b : Nat} {cs : Array Value} {t : TypeId} (hb : Blk w b cs t) (hn : ¬ S b) : Blk w' b cs t := ⟨(h.block b hb.lt hn).trans hb.is⟩
theorem Tab.fr {g : Nat} {w w' : World} {S : Nat → Prop} (h : Tab g w) (hf : Fr w w' S) (hn : ¬ S g) : Tab g w' := fun i hi => hf.cell (h i hi) hn
theorem NB.fr {w w' : World} {S : Nat → Prop} {B : Nat} {V : Value} {xs : List Int} (h : NB w B V xs) (hf : Fr w w' S) (hn : ∀ k, V.ownBlock = some k → ¬ S k) : NB w' B V xs := by
  have h1 : Kd.R kb 5 w B (fun k => V.ownBlock = some k) V xs := Kd.R_of_own (Kd.own_of_R h) (fun k hk => hk)
  exact Kd.R_mono (Kd.R_step h1 (fun k hok hlt => hf.block k hlt (hn k hok))) (fun _ _ => trivial)

section
variable {P : Program} {w : World} {ops : Array Oper} {rest : List Oper} {o : Oper} {a : Act} {Q : Exit → Act → World → Prop}
theorem store_mid_at (hw : Region.wanted o (yielded ops a.tmps) = true) (ty : TypeId) (x y : Operand) (ho : o.op = .store ty x y)
    (b off : Nat) (vs : List Value) (hx : a.eval x = .pointer (some ⟨b, off, none⟩)) (hy : a.eval y = .agg vs.toArray) (cs : Array Value) (t : TypeId) (h : Blk w b cs t) (hsz : off + vs.length ≤ cs.size)
    (hi : (P.info? ty).map (·.size) = some vs.length) (h1 : ∀ v ∈ vs, v.oneCell' = true)
    (hk : ∀ w', Wrote w w' b → Blk w' b (splice cs off vs) t → wpList P ops Q rest (a.put o.dst undef) w') : wpList P ops Q (o :: rest) a w :=
  BigFrame.wpList_want hw fun K hK => by
    obtain ⟨w', hr, hwr, hb⟩ := run_store_blk (P := P) h off ty vs.toArray (by simpa using hsz) (by simpa using hi) (by simpa using h1)
    unfold Oper.wp execOp
    simp only [ho, hx, hy, Instr.storeAt, Instr.sureAddr, Sem.run_bind, Sem.run_pure, Result.andThen_ok, hr]
    exact hK _ _ (hk w' hwr hb)
end
/-- A digest's cells. -/
def hC (s : S8) (V : Value) (n : Int) : List Value := nums .u32 s.l ++ [V, .int .i64 n]
/-- At block b a digest under way, by which bs went. -/
def Hs (w : World) (lo b : Nat) (bs : List Int) (V : Value) : Prop :=
  lo ≤ b ∧ Blk w b (hC (foldB (bs.length / 64) s0 bs) V bs.length).toArray 56 ∧ NB w lo V (bs.drop (64 * (bs.length / 64)))
theorem Hs.ne {w : World} {lo b : Nat} {bs : List Int} {V : Value} (h : Hs w lo b bs V) : V.ownBlock ≠ some b := fun e => by
  have := own_ne (Kd.own_of_R h.2.2) h.2.1.is (by decide : (5 : TypeId) ≠ 56)
  exact this e.symm
theorem Hs.fr {w w' : World} {S : Nat → Prop} {lo b : Nat} {bs : List Int} {V : Value} (h : Hs w lo b bs V) (hf : Fr w w' S) (h1 : ¬ S b) (h2 : ∀ k, V.ownBlock = some k → ¬ S k) : Hs w' lo b bs V :=
  ⟨h.1, hf.blk h.2.1 h1, h.2.2.fr hf h2⟩
theorem Hs.ext {w w' : World} {lo b : Nat} {bs : List Int} {V : Value} (h : Hs w lo b bs V) (he : Ext w w') : Hs w' lo b bs V := ⟨h.1, h.2.1.ext he, h.2.2.ext he⟩
theorem built_h0 : Program.built Tryd.prog 56 [(0, .agg (nums .u32 s0.l).toArray)] = some (hC s0 (.slice none 0 0) 0).toArray := by kernel_rfl
theorem built_s0 : Program.built Tryd.prog 54 [(0, .int .u32 1779033703), (1, .int .u32 3144134277), (2, .int .u32 1013904242), (3, .int .u32 2773480762), (4, .int .u32 1359893119), (5, .int .u32 2600822924), (6, .int .u32 528734635), (7, .int .u32 1541459225)] = some (nums .u32 s0.l).toArray := by kernel_rfl
theorem new_calls (w : World) : Calls Tryd.prog 19 #[] w fun e w' => e = .returned (.pointer (some ⟨w.heap.size, 0, none⟩)) ∧ Hs w' w.heap.size w.heap.size [] (.slice none 0 0) ∧ Ext w w' := by
  have HB := Aside0.mk (Blk.new w (hC s0 (.slice none 0 0) 0).toArray 56)
  have HE := Aside0.mk ((Ext.refl w).alloc (.cells (hC s0 (.slice none 0 0) 0).toArray 56))
  go_enter Tryd.func19, Tryd.ntmps19
  go_wp2_with (first | ((with_reducible refine gate_build (ty := 54) rfl ?_); (refine build_at rfl 54 #[(0, .const (.int .u32 1779033703)), (1, .const (.int .u32 3144134277)), (2, .const (.int .u32 1013904242)), (3, .const (.int .u32 2773480762)), (4, .const (.int .u32 1359893119)), (5, .const (.int .u32 2600822924)), (6, .const (.int .u32 528734635)), (7, .const (.int .u32 1541459225))] rfl _ _ rfl built_s0 ?_)) | ((with_reducible refine gate_build (ty := 56) rfl ?_); (refine build_at rfl 56 #[(0, .tmp 1)] rfl _ _ rfl built_h0 ?_)) | fail)
  go_ret
  exact ⟨rfl, ⟨Nat.le_refl _, HB.out, Kd.R_nil kb 5 _ _ _⟩, HE.out⟩
/-- A piece of 64 bytes. -/
theorem cut64 (A : Option Addr) (L c : Nat) (xs : List Int) (m : Nat) (hL : L = xs.length) (hc : L ≤ c) (h : m + 64 ≤ L) (j k : Int) (hj : j = m) (hk : k = m + 64) :
    ∃ AB cB, (∀ W : World, (Instr.slice 22 (.slice A L c) (some (.int .i64 j)) (some (.int .i64 k)) none).run Tryd.prog W = .ok (.slice AB 64 cB) W) ∧ 64 ≤ cB ∧ ∀ W, Kd.C kb W A L xs → Kd.C kb W AB 64 ((xs.drop m).take 64) := by
  subst hL; subst hj; subst hk
  obtain ⟨i0, hi0, _, hsz, _⟩ := info_parts PShaAdds.info5
  have hcut := cut_mid (P := Tryd.prog) 22 5 .i64 .i64 Tryd.underlying22 hi0 1 hsz A xs.length c (m : Int) ((m : Int) + 64) (by omega) (by omega) (by omega) hc
  rw [show ((m : Int) + 64).toNat - (m : Int).toNat = 64 by omega, Int.toNat_natCast] at hcut
  refine ⟨_, _, hcut, by omega, fun W hC => ?_⟩
  have h1 := Kd.C_mid (lo := m) (hi := m + 64) hC (by omega) h hc
  have e : (xs.take (m + 64)).drop m = (xs.drop m).take 64 := by rw [List.drop_take]; congr 1; omega
  rw [e] at h1
  have e2 : ((xs.drop m).take 64).length = 64 := by rw [List.length_take, List.length_drop]; omega
  rwa [e2] at h1
/-- What stands from m on. -/
theorem cutF (A : Option Addr) (L c : Nat) (xs : List Int) (m : Nat) (hL : L = xs.length) (hc : L ≤ c) (h : m ≤ L) (j : Int) (hj : j = m) :
    ∃ AF cF, (∀ W : World, (Instr.slice 22 (.slice A L c) (some (.int .i64 j)) none none).run Tryd.prog W = .ok (.slice AF (L - m) cF) W) ∧ L - m ≤ cF ∧ ∀ W, Kd.C kb W A L xs → Kd.C kb W AF (L - m) (xs.drop m) := by
  subst hL; subst hj
  obtain ⟨i0, hi0, _, hsz, _⟩ := info_parts PShaAdds.info5
  have hcut := cut_from (P := Tryd.prog) 22 5 .i64 Tryd.underlying22 hi0 1 hsz A xs.length c (m : Int) (by omega) (by omega)
  rw [Int.toNat_natCast] at hcut
  refine ⟨_, _, hcut, by omega, fun W hC => ?_⟩
  have h1 := Kd.C_drop (m := m) hC h hc
  rwa [show (xs.drop m).length = xs.length - m from List.length_drop] at h1
theorem NB_empty (W : World) (B : Nat) (hB : B ≤ W.heap.size) : NB (W.alloc (.cells #[] 5)) B (.slice (some ⟨W.heap.size, 0, none⟩) 0 0) [] :=
  ⟨fun _ _ => trivial, [], ⟨by simp, .inr ⟨W.heap.size, 0, #[], rfl, hB, (Blk.new W _ 5).is, Nat.le_refl _, by simp only [maxLen]; omega, by simp, by simp⟩⟩, by simp [Reps]⟩
theorem splice_h (s s' : S8) (V : Value) (n : Int) : splice (hC s V n).toArray 0 (nums .u32 s'.l) = (hC s' V n).toArray := by
  unfold splice hC nums S8.l
  simp
set_option maxRecDepth 100000 in
set_option maxHeartbeats 16000000 in
theorem add_calls (w : World) (lo b : Nat) (bs xs : List Int) (V : Value) (A : Option Addr) (c n : Nat) (hlo : 2 ≤ lo) (hn : n = xs.length) (hH : Hs w lo b bs V) (hT : Tab 1 w) (hr : Kd.C kb w A n xs) (hc : n ≤ c) (hl : bs.length + n ≤ 1099511627776) (hA : ∀ a, A = some a → 0 < n → a.block ≠ b) :
    Calls Tryd.prog 20 #[.pointer (some ⟨b, 0, none⟩), .slice A n c] w fun e w' => e = .returned (.tuple #[]) ∧ ∃ V', Hs w' lo b (bs ++ xs) V' ∧ Fr w w' (fun k => k = b ∨ V.ownBlock = some k) ∧ ∀ k, V'.ownBlock = some k → w.heap.size ≤ k := by
  have hvb := hH.ne
  obtain ⟨hlb, hbk, hnb⟩ := hH
  obtain ⟨k0, hk0⟩ : ∃ k0, k0 = bs.length / 64 := ⟨_, rfl⟩
  rw [← hk0] at hbk hnb
  obtain ⟨S0, hS0⟩ : ∃ S0, S0 = foldB k0 s0 bs := ⟨_, rfl⟩
  rw [← hS0] at hbk
  obtain ⟨r0, hr0⟩ : ∃ r0, r0 = bs.drop (64 * k0) := ⟨_, rfl⟩
  rw [← hr0] at hnb
  obtain ⟨N0, hN0⟩ : ∃ N0 : Nat, N0 = bs.length := ⟨_, rfl⟩
  rw [← hN0] at hbk hl hk0
  have hrl : r0.length = N0 - 64 * k0 := by rw [hr0, List.length_drop, hN0]
  have hvlo : ∀ k, V.ownBlock = some k → lo ≤ k := fun k hk => own_base (Kd.own_of_R hnb) k hk
  obtain ⟨A1, c1, rfl, hc1, _⟩ := hnb.reads
  obtain ⟨q0, hq0⟩ : ∃ q0, q0 = r0.length := ⟨_, rfl⟩
  rw [← hq0] at hnb hbk hc1 hvb hvlo ⊢
  have c9 := hbk.cell 9 (v := .int .i64 N0) rfl
  have f9 := hbk.free 9
  have hw1 := Wrote.setCell w b 9 (.int .i64 ((N0 : Int) + (n : Int)))
  have hb1 : Blk (w.setCell ⟨b, 9, none⟩ (.int .i64 ((N0 : Int) + (n : Int)))) b (hC S0 (.slice A1 q0 c1) ((N0 : Int) + (n : Int))).toArray 56 := hbk.set 9 _
  have hn1 := hnb.fr (Fr.of_wrote hw1) (fun k hk e => hvb (by rw [hk, e]))
  have hr1 : Kd.C kb (w.setCell ⟨b, 9, none⟩ (.int .i64 ((N0 : Int) + (n : Int)))) A n xs := by
    rcases Nat.eq_zero_or_pos n with h0 | h0
    · exact ⟨hr.1, hr.2.1, fun hp => absurd hp (by omega)⟩
    · exact kb_stays hr (fun a ha => hw1.block _ (hA a ha h0))
  have c8 := hb1.cell 8 (v := .slice A1 q0 c1) rfl
  have HN1 := Aside0.mk hn1
  have HR1 := Aside0.mk hr1
  have HB1 := Aside0.mk hb1
  have HW1 := Aside0.mk hw1
  have HVB := Aside0.mk hvb
  have HVL := Aside0.mk hvlo
  have HBL := Aside0.mk hbk.lt
  have HT := Aside0.mk hT
  have HP := Aside0.mk (And.intro hS0 (And.intro hr0 (And.intro hN0 (And.intro hk0 (And.intro hrl (And.intro hq0 hn))))))
  have HSZ := Aside0.mk (show lo ≤ (w.setCell ⟨b, 9, none⟩ (.int .i64 ((N0 : Int) + (n : Int)))).heap.size by rw [hw1.size]; have := hbk.lt; omega)
  have HLB := Aside0.mk hlb
  have hN : (N0 : Int) + (n : Int) ≤ 1099511627776 := by omega
  have hN' : (0 : Int) ≤ (N0 : Int) + (n : Int) := by omega
  clear hbk hnb hS0 hr0 hN0 hk0 hrl hq0 hn hw1 hb1 hn1 hr hr1 hvb hT hA hlb hvlo
  go_enter Tryd.func20, Tryd.ntmps20
  go_wp2_with (at_builtin; go_loud (refine Kd.R_append_rows kb (Rr := kb.K (w.setCell ⟨b, 9, none⟩ (.int .i64 ((N0 : Int) + (n : Int))))) (w0 := w.setCell ⟨b, 9, none⟩ (.int .i64 ((N0 : Int) + (n : Int)))) lo rfl (.tmp 18) (.tmp 19) 22 5 _ 1 rfl Tryd.underlying22 PShaAdds.info5 rfl (by decide) (by decide) _ r0 xs A n c (fun _ => True) (fun _ => False) rfl rfl HN1.out ?c1 kb_KM (fun _ h => h.elim) (fun _ _ => trivial) (Below.refl _ _) ?c2 ?c3 ?_))
  case c1 => exact HR1.out
  case c2 => exact HSZ.out
  case c3 => have := HP.out; omega
  intro v1 w2 hR2 hB2 hg2 hat2
  replace hR2 : NB w2 lo v1 (r0 ++ xs) := hR2
  have hg2' := Fr.of_grown hg2
  have hb2 := hg2'.blk HB1.out (fun e => HVB.out e)
  have hv2 := own_ne (Kd.own_of_R hR2) hb2.is (by decide : (5 : TypeId) ≠ 56)
  obtain ⟨A2, c2, rfl, hc2, hC2⟩ := hR2.reads
  obtain ⟨R1, hR1⟩ : ∃ R1, R1 = r0 ++ xs := ⟨_, rfl⟩
  rw [← hR1] at hC2 hc2 hv2 ⊢
  obtain ⟨L, hL⟩ : ∃ L, L = R1.length := ⟨_, rfl⟩
  rw [← hL] at hC2 hc2 hv2 ⊢
  have hol : ∀ k, (Value.slice A2 L c2).ownBlock = some k → k < w2.heap.size := by rw [hL, hR1]; exact fun k hk => own_lt (Kd.own_of_R hR2) k hk
  have hA2 : ∀ a, A2 = some a → a.block ≠ b := fun a ha e => hv2 (by rw [ha, ← e]; simp [Value.ownBlock])
  have hA2l : ∀ a, A2 = some a → a.block < (w2.setCell ⟨b, 8, none⟩ (.slice A2 L c2)).heap.size := fun a ha => by rw [(Wrote.setCell w2 b 8 (.slice A2 L c2)).size]; exact hol _ (by rw [ha]; simp [Value.ownBlock])
  have hLx : (L : Int) ≤ 2199023255552 := by have := HP.out; rw [hL, hR1, List.length_append]; omega
  have f8 := hb2.free 8
  have c8' := hb2.cell 8 (v := .slice A1 q0 c1) rfl
  have hw3 := Wrote.setCell w2 b 8 (.slice A2 L c2)
  have hb3 : Blk (w2.setCell ⟨b, 8, none⟩ (.slice A2 L c2)) b (hC S0 (.slice A2 L c2) ((N0 : Int) + (n : Int))).toArray 56 := hb2.set 8 _
  have hC3 : Kd.C kb (w2.setCell ⟨b, 8, none⟩ (.slice A2 L c2)) A2 L R1 := kb_stays hC2 (fun a ha => hw3.block _ (hA2 a ha))
  have hf3 : Fr w (w2.setCell ⟨b, 8, none⟩ (.slice A2 L c2)) (fun k => k = b ∨ (Value.slice A1 q0 c1).ownBlock = some k) :=
    (((Fr.of_wrote HW1.out).weak (fun _ h => .inl h)).trans (hg2'.weak (fun _ h => .inr h)) (fun _ _ h => h)).trans ((Fr.of_wrote hw3).weak (fun _ h => .inl h)) (fun _ _ h => h)
  have HA2 := Aside0.mk (show ∀ a, A2 = some a → a.block ≠ b ∧ a.block < (w2.setCell ⟨b, 8, none⟩ (.slice A2 L c2)).heap.size from fun a ha => ⟨hA2 a ha, hA2l a ha⟩)
  have HC3 := Aside0.mk hC3
  have HF3 := Aside0.mk hf3
  have HLL := Aside0.mk (And.intro hL hR1)
  have HB3 : Aside0 (Blk (w2.setCell ⟨b, 8, none⟩ (.slice A2 L c2)) b (hC (foldB 0 S0 R1) (.slice A2 L c2) ((N0 : Int) + (n : Int))).toArray 56) := ⟨hb3⟩
  clear hR2 hB2 hg2 hat2 hg2' hb2 hv2 hA2 hA2l hol hw3 hb3 hC3 hC2 hf3 HN1 HR1 HB1 HW1 hL hR1 c8 c9 f9
  go_wp2_with fail
  go_loopw [4] (fun i wr => ∃ m : Nat, i = .int .i64 (64 * m) ∧ Aside0 (64 * m ≤ L) ∧ Aside0 (Blk wr b (hC (foldB m S0 R1) (.slice A2 L c2) ((N0 : Int) + (n : Int))).toArray 56) ∧ Aside0 (Fr (w2.setCell ⟨b, 8, none⟩ (.slice A2 L c2)) wr (· = b))) (fun i _ => L - (intOf i).toNat)
  case atStart => exact ⟨0, rfl, ⟨by omega⟩, HB3, ⟨Fr.of_ext (Ext.refl _)⟩⟩
  case round =>
    clear HB3 f8 c8'
    obtain ⟨m, rfl, HM, HB, HF⟩ := hrel
    have hm := HM.out
    generalize (w2.setCell ⟨b, 8, none⟩ (.slice A2 L c2)) = w3 at HF HF3 HC3 HA2
    obtain ⟨wx, hwx⟩ : ∃ wx : World, wx = wr := ⟨_, rfl⟩
    subst hwx
    have c8 := HB.out.cell 8 (v := .slice A2 L c2) rfl
    have HCX := Aside0.mk (kb_stays HC3.out (fun a ha => HF.out.block _ ((HA2.out a ha).2) (HA2.out a ha).1))
    have hw0 := wrapI (x := (L : Int) - 64 * m) (by omega) (by omega)
    have hT3 := HT.out.fr HF3.out (by intro h; rcases h with h | h; have := HLB.out; omega; have := HVL.out _ h; omega)
    have HTX := Aside0.mk (hT3.fr HF.out (by have := HLB.out; omega))
    clear hT3
    by_cases hlt : 64 * m + 64 ≤ L
    · have hz : (64 ≤ (L : Int) - 64 * (m : Int)) = True := eq_true (by omega)
      obtain ⟨AB, cB, hcut, hcB, hCB⟩ := cut64 A2 L c2 R1 (64 * m) HLL.out.1 hc2 hlt (64 * (m : Int)) (64 * (m : Int) + 64) (by omega) (by omega)
      have HCB := Aside0.mk (hCB wx HCX.out)
      have HBL2 := Aside0.mk (show ((R1.drop (64 * m)).take 64).length = 64 by rw [List.length_take, List.length_drop, ← HLL.out.1]; omega)
      have HSU := Aside0.mk (foldB_succ m S0 R1)
      have HLT := Aside0.mk hlt
      generalize foldB m S0 R1 = Sm at HB HSU
      generalize (R1.drop (64 * m)).take 64 = blk at HCB HBL2 HSU
      have HI := Aside0.mk (show (Tryd.prog.info? 54).map (·.size) = some (nums .u32 Sm.l).length by kernel_rfl)
      have HI2 := Aside0.mk (show (Tryd.prog.info? 54).map (·.size) = some (nums .u32 (takeF Sm blk).l).length by kernel_rfl)
      have hw1 := wrapI (x := 64 * (m : Int) + 64) (by omega) (by omega)
      clear hCB
      go_wp2_with fail
      apply wp_region_facts 14 [RF.val (.pointer (some ⟨b, 0, none⟩)), RF.val (.pointer (some ⟨b, 0, none⟩)), RF.val (.pointer (some ⟨b, 0, none⟩)), RF.val (.pointer (some ⟨b, 0, none⟩)), RF.val (.agg (nums .u32 Sm.l).toArray), RF.val (.pointer (some ⟨b, 0, none⟩)), RF.val (.pointer (some ⟨b, 0, none⟩)), RF.val (.pointer (some ⟨b, 8, none⟩)), RF.val (.slice A2 L c2), RF.val (.int .i64 (64 * m)), RF.val (.int .i64 (64 * m)), RF.val (.int .i64 (64 * m + 64)), RF.val (.slice AB 64 cB), RF.val (.agg (nums .u32 (takeF Sm blk).l).toArray)] (by kernel_rfl) (by kernel_rfl)
      simp only [List.take_succ_cons, List.take_zero, List.zip_cons_cons, List.zip_nil_left]
      (first | apply wpF_val rfl | apply wpF_valg (by rfl)); (intro w' hE hD; unfold Yld; go_simp; exact ⟨Ext.refl _, rfl⟩); (try simp only [Act.put, List.setIfInBounds_toArray, List.set_cons_zero, List.set_cons_succ])
      (first | apply wpF_val rfl | apply wpF_valg (by rfl)); (intro w' hE hD; unfold Yld; go_simp; exact ⟨Ext.refl _, rfl⟩); (try simp only [Act.put, List.setIfInBounds_toArray, List.set_cons_zero, List.set_cons_succ])
      (first | apply wpF_val rfl | apply wpF_valg (by rfl)); (intro w' hE hD; unfold Yld; go_simp; exact ⟨Ext.refl _, rfl⟩); (try simp only [Act.put, List.setIfInBounds_toArray, List.set_cons_zero, List.set_cons_succ])
      (first | apply wpF_val rfl | apply wpF_valg (by rfl)); (intro w' hE hD; unfold Yld; go_simp; exact ⟨Ext.refl _, rfl⟩); (try simp only [Act.put, List.setIfInBounds_toArray, List.set_cons_zero, List.set_cons_succ])
      (first | apply wpF_val rfl | apply wpF_valg (by rfl)); (intro w' hE hD; exact Yld_load 54 (.tmp 36) rfl b 0 rfl (nums .u32 Sm.l) _ ((HB.out.ext hE).range 0 (nums .u32 Sm.l) [.slice A2 L c2, .int .i64 ((N0 : Int) + (n : Int))] (by simp [hC])) Tryd.underlying54 rfl HI.out); (try simp only [Act.put, List.setIfInBounds_toArray, List.set_cons_zero, List.set_cons_succ])
      (first | apply wpF_val rfl | apply wpF_valg (by rfl)); (intro w' hE hD; unfold Yld; go_simp; exact ⟨Ext.refl _, rfl⟩); (try simp only [Act.put, List.setIfInBounds_toArray, List.set_cons_zero, List.set_cons_succ])
      (first | apply wpF_val rfl | apply wpF_valg (by rfl)); (intro w' hE hD; unfold Yld; go_simp; exact ⟨Ext.refl _, rfl⟩); (try simp only [Act.put, List.setIfInBounds_toArray, List.set_cons_zero, List.set_cons_succ])
      (first | apply wpF_val rfl | apply wpF_valg (by rfl)); (intro w' hE hD; unfold Yld; go_simp; exact ⟨Ext.refl _, rfl⟩); (try simp only [Act.put, List.setIfInBounds_toArray, List.set_cons_zero, List.set_cons_succ])
      (first | apply wpF_val rfl | apply wpF_valg (by rfl)); (intro w' hE hD; have hcx := Ext.cell hE c8; unfold Yld; go_simp; exact ⟨Ext.refl _, rfl⟩); (try simp only [Act.put, List.setIfInBounds_toArray, List.set_cons_zero, List.set_cons_succ])
      (first | apply wpF_val rfl | apply wpF_valg (by rfl)); (intro w' hE hD; unfold Yld; go_simp; exact ⟨Ext.refl _, rfl⟩); (try simp only [Act.put, List.setIfInBounds_toArray, List.set_cons_zero, List.set_cons_succ])
      (first | apply wpF_val rfl | apply wpF_valg (by rfl)); (intro w' hE hD; unfold Yld; go_simp; exact ⟨Ext.refl _, rfl⟩); (try simp only [Act.put, List.setIfInBounds_toArray, List.set_cons_zero, List.set_cons_succ])
      (first | apply wpF_val rfl | apply wpF_valg (by rfl)); (intro w' hE hD; unfold Yld; go_simp; exact ⟨Ext.refl _, rfl⟩); (try simp only [Act.put, List.setIfInBounds_toArray, List.set_cons_zero, List.set_cons_succ])
      (first | apply wpF_val rfl | apply wpF_valg (by rfl)); (intro w' hE hD; unfold Yld; go_simp; exact ⟨Ext.refl _, rfl⟩); (try simp only [Act.put, List.setIfInBounds_toArray, List.set_cons_zero, List.set_cons_succ])
      (first | apply wpF_val rfl | apply wpF_valg (by rfl)); (intro w' hE hD; unfold Yld; go_simp; exact (take_calls w' Sm AB cB blk HBL2.out (Kd.C_below HCB.out hE) hcB (HTX.out.ext hE) _ rfl).mono fun e w2 h => ⟨_, h.1, h.2, rfl⟩); (try simp only [Act.put, List.setIfInBounds_toArray, List.set_cons_zero, List.set_cons_succ])
      refine wpF_nil fun w5 hE hA => ?_
      have HB5 := Aside0.mk (HB.out.ext hE)
      have HF5 := Aside0.mk (HF.out.trans (Fr.of_ext (S := (· = b)) hE) (fun _ _ h => h))
      simp only [List.drop_succ_cons, List.drop_zero]
      clear hA hE HB HF HCX HCB c8 HTX hcut
      go_wp2_with (first | ((with_reducible refine gate_store (ty := 54) rfl ?_); (refine store_mid_at rfl 54 _ _ rfl b 0 (nums .u32 (takeF Sm blk).l) rfl rfl _ 56 HB5.out (by simp [hC, nums, S8.l]) HI2.out (one_cells _ _) ?_)) | fail)
      intro w6 hW hB6
      rw [splice_h] at hB6
      have HB6 := Aside0.mk hB6
      have HF6 := Aside0.mk (HF5.out.trans (Fr.of_wrote hW) (fun _ _ h => h))
      clear hW hB6 HB5 HF5
      go_wp2_with fail
      go_roundw
      case rel => exact ⟨m + 1, by congr 1, ⟨by have := HLT.out; omega⟩, ⟨by rw [HSU.out]; exact HB6.out⟩, HF6⟩
      case measure => have := HLT.out; simp only [intOf]; omega
    · have hz : (64 ≤ (L : Int) - 64 * (m : Int)) = False := eq_false (by omega)
      obtain ⟨AF, cF, hcut, hcF, hCF⟩ := cutF A2 L c2 R1 (64 * m) HLL.out.1 hc2 hm (64 * (m : Int)) (by omega)
      have HLT := Aside0.mk hlt
      have HE0 := Aside0.mk ((Ext.refl wx).alloc (.cells #[] 5))
      have HN0 := Aside0.mk (NB_empty wx wx.heap.size (Nat.le_refl _))
      have HB0 : Aside0 (Below wx.heap.size wx (wx.alloc (.cells #[] 5))) := ⟨HE0.out⟩
      have HCF := Aside0.mk (hCF wx HCX.out)
      have ca8 := (HB.out.alloc (.cells #[] 5)).cell 8 (v := .slice A2 L c2) rfl
      obtain ⟨r3, hr3⟩ : ∃ r3, r3 = R1.drop (64 * m) := ⟨_, rfl⟩
      rw [← hr3] at HCF
      have HR3 := Aside0.mk hr3
      clear hCF hr3 hlt
      go_wp2_with (at_builtin; go_loud (refine Kd.R_append_rows kb (Rr := kb.K wx) (w0 := wx) wx.heap.size rfl (.tmp 50) (.tmp 56) 22 5 _ 1 rfl Tryd.underlying22 PShaAdds.info5 rfl (by decide) (by decide) _ [] r3 AF (L - 64 * m) cF (fun _ => True) (fun _ => False) rfl rfl HN0.out ?c1 kb_KM (fun _ h => h.elim) (fun _ _ => trivial) HB0.out ?c2 ?c3 ?_))
      case c1 => exact Kd.C_below HCF.out HE0.out
      case c2 => simp
      case c3 => simp; omega
      intro v3 w4 hR4 hB4 hg4 hat4
      replace hR4 : NB w4 wx.heap.size v3 r3 := hR4
      have hE4 : Ext wx w4 := hB4
      have hb4 := HB.out.ext hE4
      have hlb : b < wx.heap.size := HB.out.lt
      obtain ⟨A4, c4, rfl, hc4, hC4⟩ := hR4.reads
      have hv4 := own_ne (Kd.own_of_R hR4) hb4.is (by decide : (5 : TypeId) ≠ 56)
      have f8 := hb4.free 8
      have c8' := hb4.cell 8 (v := .slice A2 L c2) rfl
      have hw5 := Wrote.setCell w4 b 8 (.slice A4 r3.length c4)
      have hb5 : Blk (w4.setCell ⟨b, 8, none⟩ (.slice A4 r3.length c4)) b (hC (foldB m S0 R1) (.slice A4 r3.length c4) ((N0 : Int) + (n : Int))).toArray 56 := hb4.set 8 _
      have hn5 := hR4.fr (Fr.of_wrote hw5) (fun k hk e => hv4 (by rw [hk, e]))
      have hf5 := ((HF3.out.trans (HF.out.weak (fun _ h => .inl h)) (fun _ _ h => h)).trans (Fr.of_ext (S := fun k => k = b ∨ (Value.slice A1 q0 c1).ownBlock = some k) hE4) (fun _ _ h => h)).trans ((Fr.of_wrote hw5).weak (fun _ h => .inl h)) (fun _ _ h => h)
      have hwx : w.heap.size ≤ wx.heap.size := Nat.le_trans HF3.out.size HF.out.size
      have HB5 := Aside0.mk hb5
      have HN5 := Aside0.mk hn5
      have HF5 := Aside0.mk hf5
      have HOW := Aside0.mk (show ∀ k, (Value.slice A4 r3.length c4).ownBlock = some k → w.heap.size ≤ k from fun k hk => Nat.le_trans hwx (own_base (Kd.own_of_R hR4) k hk))
      have HWX := Aside0.mk (show lo ≤ wx.heap.size from Nat.le_trans HLB.out (Nat.le_of_lt hlb))
      clear hR4 hB4 hg4 hat4 hE4 hb4 hv4 hw5 hb5 hn5 hf5 hwx hC4 HN0 HE0 HB0 HCF c8 ca8 hlb HB HF
      go_wp2_with fail
      (first | go_end0 | ((try simp only [Exit.inBlock, Exit.then]); refine bodyPost_ret (results_none rfl _ _ _) rfl ?_))
      refine ⟨rfl, .slice A4 r3.length c4, ⟨HLB.out, ?_, ?_⟩, HF5.out, HOW.out⟩
      · have hp := HP.out
        have h1 : (bs ++ xs).length / 64 = k0 + m := by
          have h2 := HLT.out; have h3 := HLL.out; rw [h3.2, List.length_append] at h3; rw [List.length_append]; omega
        have h2 : foldB (k0 + m) s0 (bs ++ xs) = foldB m S0 R1 := by
          rw [foldB_add, foldB_app k0 _ _ _ (by omega), List.drop_append_of_le_length (by omega), HLL.out.2, hp.1, hp.2.1]
        rw [h1, h2, List.length_append, ← hp.2.2.1, ← hp.2.2.2.2.2.2]
        exact HB5.out
      · have hp := HP.out
        have h1 : (bs ++ xs).length / 64 = k0 + m := by
          have h2 := HLT.out; have h3 := HLL.out; rw [h3.2, List.length_append] at h3; rw [List.length_append]; omega
        have h2 : (bs ++ xs).drop (64 * ((bs ++ xs).length / 64)) = r3 := by
          rw [h1, show 64 * (k0 + m) = 64 * k0 + 64 * m by omega, ← List.drop_drop, List.drop_append_of_le_length (by omega), HR3.out, HLL.out.2, hp.2.1]
        rw [h2]
        exact Kd.R_lower HN5.out HWX.out
end Go.Proofs.YtbnbncnmhhioeaaDoor.By
