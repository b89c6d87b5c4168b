/- The contracts of the reader of layer 9. -/
import Derived.Test.YthgdjgnbifakbaaNum
namespace Go.Proofs.Ythgdjgnbifakbaa.By
open Go.RowKit Go.Proofs.Ythgdjgnbifakbaa.Reg Go.Proofs.YthgdjgnbifakbaaW.PrintWords Go.Proofs.YthgdjgnbifakbaaW.PrintLast Go.Proofs.YthgdjgnbifakbaaW.PrintMore
set_option linter.unusedVariables false

/-- Memory has grown; of the old blocks those from lo to hi alone may have been written. -/
structure Tch (w w' : World) (lo hi : Nat) : Prop where
  os : w'.os = w.os
  tape : w'.tape = w.tape
  output : w'.output = w.output
  size : w.heap.size ≤ w'.heap.size
  block : ∀ k, k < w.heap.size → ¬ (lo ≤ k ∧ k < hi) → w'.heap[k]? = w.heap[k]?
theorem Tch.of_ext {w w' : World} (h : Ext w w') (lo hi : Nat) : Tch w w' lo hi := ⟨h.os, h.tape, h.output, h.size, fun k hk _ => h.block k hk⟩
theorem Tch.of_wrote {w w' : World} {b lo hi : Nat} (h : Wrote w w' b) (h0 : lo ≤ b) (h1 : b < hi) : Tch w w' lo hi :=
  ⟨h.os, h.tape, h.output, Nat.le_of_eq h.size.symm, fun k _ hn => h.block k (fun e => hn (by subst e; exact ⟨h0, h1⟩))⟩
theorem Tch.trans {w w' w'' : World} {lo hi : Nat} (h : Tch w w' lo hi) (k : Tch w' w'' lo hi) : Tch w w'' lo hi :=
  ⟨k.os.trans h.os, k.tape.trans h.tape, k.output.trans h.output, Nat.le_trans h.size k.size, fun i hi hn => (k.block i (Nat.lt_of_lt_of_le hi h.size) hn).trans (h.block i hi hn)⟩
theorem Tch.ext {w0 w w' : World} {lo hi : Nat} (h : Tch w w' lo hi) (he : Ext w0 w) (hb : w0.heap.size ≤ lo) : Ext w0 w' :=
  ⟨h.os.trans he.os, h.tape.trans he.tape, h.output.trans he.output, Nat.le_trans he.size h.size, fun k hk => (h.block k (Nat.lt_of_lt_of_le hk he.size) (by omega)).trans (he.block k hk)⟩
theorem Tch.refl (w : World) (lo hi : Nat) : Tch w w lo hi := Tch.of_ext (Ext.refl w) lo hi
theorem Tch.blk {w w' : World} {lo hi b : Nat} {cs : Array Value} {t : TypeId} (h : Tch w w' lo hi) (hb : Blk w b cs t) (hn : ¬ (lo ≤ b ∧ b < hi)) : Blk w' b cs t := ⟨(h.block b hb.lt hn).trans hb.is⟩

/-- A row of bytes stays when its block does. -/
theorem kb_stays {w w' : World} {A : Option Addr} {n : Nat} {xs : List Int} (h : Kd.C kb w A n xs) (hs : ∀ a, A = some a → w'.heap[a.block]? = w.heap[a.block]?) : Kd.C kb w' A n xs := by
  refine ⟨h.1, h.2.1, fun hp => ?_⟩
  obtain ⟨ad, e, hc⟩ := h.2.2 hp
  refine ⟨ad, e, fun j p hj => ?_⟩
  obtain ⟨cs, h1, h2, h3⟩ := hc j p hj
  refine ⟨cs, h1, h2, fun i u hu => ?_⟩
  rw [← h3 i u hu]
  show World.cell? w' _ = World.cell? w _
  unfold World.cell?
  have hk : ∀ m, (ad.add m).block = ad.block := fun m => by unfold Addr.add; split <;> rfl
  rw [hk, hs ad e]

/-- A reader in block b, with these bytes to read: it and its bytes lie from lo to hi. -/
structure RD (w : World) (lo hi b : Nat) (xs : List Int) (bad : Bool) (A : Option Addr) (c : Nat) : Prop where
  low : lo ≤ b
  high : b < hi
  size : hi ≤ w.heap.size
  blk : Blk w b #[.slice A xs.length c, .bool bad] 80
  row : Kd.C kb w A xs.length xs
  cap : xs.length ≤ c
  far : ∀ a, A = some a → lo ≤ a.block ∧ a.block < hi ∧ a.block ≠ b
def Rd (w : World) (lo hi b : Nat) (xs : List Int) (bad : Bool) : Prop := ∃ A c, RD w lo hi b xs bad A c
theorem RD.ext {w w' : World} {lo hi b : Nat} {xs : List Int} {bad : Bool} {A : Option Addr} {c : Nat} (h : RD w lo hi b xs bad A c) (he : Ext w w') : RD w' lo hi b xs bad A c :=
  ⟨h.low, h.high, Nat.le_trans h.size he.size, h.blk.ext he, Kd.C_below h.row he, h.cap, h.far⟩
theorem RD.tch {w w' : World} {lo hi b lo' hi' : Nat} {xs : List Int} {bad : Bool} {A : Option Addr} {c : Nat} (h : RD w lo hi b xs bad A c) (ht : Tch w w' lo' hi') (hn : hi ≤ lo' ∨ hi' ≤ lo) : RD w' lo hi b xs bad A c :=
  ⟨h.low, h.high, Nat.le_trans h.size ht.size, ht.blk h.blk (by have := h.low; have := h.high; omega),
    kb_stays h.row (fun a ha => ht.block _ (by have := (h.far a ha).2.1; have := h.size; omega) (by have := h.far a ha; omega)), h.cap, h.far⟩
theorem Rd.ext {w w' : World} {lo hi b : Nat} {xs : List Int} {bad : Bool} (h : Rd w lo hi b xs bad) (he : Ext w w') : Rd w' lo hi b xs bad := by
  obtain ⟨A, c, h⟩ := h
  exact ⟨A, c, h.ext he⟩
theorem Rd.tch {w w' : World} {lo hi b lo' hi' : Nat} {xs : List Int} {bad : Bool} (h : Rd w lo hi b xs bad) (ht : Tch w w' lo' hi') (hn : hi ≤ lo' ∨ hi' ≤ lo) : Rd w' lo hi b xs bad := by
  obtain ⟨A, c, h⟩ := h
  exact ⟨A, c, h.tch ht hn⟩

/-- The reader's cells are written: the row and whether it is bad. -/
theorem RD.bad_ {w : World} {lo hi b : Nat} {xs : List Int} {bad : Bool} {A : Option Addr} {c : Nat} (h : RD w lo hi b xs bad A c) (v : Bool) : RD (w.setCell ⟨b, 1, none⟩ (.bool v)) lo hi b xs v A c ∧ Wrote w (w.setCell ⟨b, 1, none⟩ (.bool v)) b := by
  have hw := Wrote.setCell w b 1 (.bool v)
  exact ⟨⟨h.low, h.high, by rw [hw.size]; exact h.size, by have := h.blk.set 1 (.bool v); simpa using this, kb_stays h.row (fun a ha => hw.block _ (h.far a ha).2.2), h.cap, h.far⟩, hw⟩
theorem RD.drop {w : World} {lo hi b : Nat} {xs : List Int} {bad : Bool} {A : Option Addr} {c : Nat} (h : RD w lo hi b xs bad A c) (m : Nat) (hm : m ≤ xs.length) :
    RD (w.setCell ⟨b, 0, none⟩ (.slice (if c = m then A else A.map (·.add (m * 1))) (xs.length - m) (c - m))) lo hi b (xs.drop m) bad (if c = m then A else A.map (·.add (m * 1))) (c - m) ∧ Wrote w (w.setCell ⟨b, 0, none⟩ (.slice (if c = m then A else A.map (·.add (m * 1))) (xs.length - m) (c - m))) b := by
  have hw := Wrote.setCell w b 0 (.slice (if c = m then A else A.map (·.add (m * 1))) (xs.length - m) (c - m))
  have hd := Kd.C_drop (c := c) h.row hm h.cap
  have hf : ∀ a, (if c = m then A else A.map (·.add (m * 1))) = some a → lo ≤ a.block ∧ a.block < hi ∧ a.block ≠ b := by
    intro a ha
    split at ha
    · exact h.far a ha
    · cases A with
      | none => cases ha
      | some a0 =>
        injection ha with ha
        subst ha
        have hk : (a0.add (m * 1)).block = a0.block := by unfold Addr.add; split <;> rfl
        show lo ≤ (a0.add (m * 1)).block ∧ (a0.add (m * 1)).block < hi ∧ (a0.add (m * 1)).block ≠ b
        rw [hk]
        exact h.far a0 rfl
  refine ⟨⟨h.low, h.high, by rw [hw.size]; exact h.size, ?_, kb_stays hd (fun a ha => hw.block _ (hf a ha).2.2), by have := h.cap; rw [List.length_drop]; omega, hf⟩, hw⟩
  have := h.blk.set 0 (.slice (if c = m then A else A.map (·.add (m * 1))) (xs.length - m) (c - m))
  rw [List.length_drop]
  simpa using this

theorem NB.far {w : World} {B : Nat} {A : Option Addr} {n c : Nat} {xs : List Int} (h : NB w B (.slice A n c) xs) (a : Addr) (ha : A = some a) : B ≤ a.block ∧ a.block < w.heap.size := by
  subst ha
  have ho := Kd.own_of_R h
  exact ⟨own_base ho _ rfl, own_lt ho _ rfl⟩

set_option maxHeartbeats 1000000 in
theorem read_calls (w : World) (A : Option Addr) (c n : Nat) (xs : List Int) (hn : n = xs.length) (hr : Kd.C kb w A n xs) (hc : n ≤ c) (hl : n ≤ 140737488355328) :
    Calls Try.prog 27 #[.slice A n c] w fun e w' => ∃ b, e = .returned (.pointer (some ⟨b, 0, none⟩)) ∧ Rd w' w.heap.size w'.heap.size b xs false ∧ Ext w w' := by
  have HR := Aside0.mk hr
  have HN := Aside0.mk hn
  clear hr hn
  go_enter Try.func27, Try.ntmps27
  go_wp2_with fail
  refine (behind_at w A none c 0 n 0 xs [] HN.out rfl (HN.out ▸ HR.out) (HN.out ▸ hc) (Kd.C_nil kb w) (Nat.le_refl _) (by have := HN.out; simp; omega)).mono ?_
  rintro e w1 ⟨V, rfl, hN, hE⟩
  obtain ⟨A1, c1, rfl, hl1, hC1⟩ := hN.reads
  have HF := Aside0.mk hN.far
  rw [List.append_nil] at hl1 hC1
  rw [List.append_nil]
  have HC1 := Aside0.mk hC1
  have HL := Aside0.mk hl1
  have hE1 := hE.alloc (.cells #[.slice A1 xs.length c1, .bool false] 80)
  have hB := Blk.new w1 #[.slice A1 xs.length c1, .bool false] 80
  clear hN hC1 hl1
  go_wp2
  go_ret
  refine ⟨w1.heap.size, rfl, ⟨A1, c1, ⟨hE.size, by rw [size_alloc]; omega, Nat.le_refl _, hB, Kd.C_below HC1.out ((Ext.refl w1).alloc _), HL.out, fun a ha => ?_⟩⟩, hE1⟩
  have := HF.out a ha
  rw [size_alloc]
  omega


set_option maxHeartbeats 2000000 in
theorem take_int_bad (w : World) (lo hi b : Nat) (xs : List Int) (bad : Bool) (h : Rd w lo hi b xs bad) (hb : bad = true ∨ xs.length < 8) :
    Calls Try.prog 60 #[.pointer (some ⟨b, 0, none⟩), .int .i64 8, .func (.func 61) #[] #[]] w fun e w' => e = .returned (.int .i64 0) ∧ Rd w' lo hi b xs true ∧ Tch w w' lo hi := by
  obtain ⟨A, c, h⟩ := h
  have c0 := h.blk.cell 0 (v := .slice A xs.length c) rfl
  have c1 := h.blk.cell 1 (v := .bool bad) rfl
  have f0 := h.blk.free 0
  have f1 := h.blk.free 1
  have HH := Aside0.mk h
  cases bad with
  | true =>
    clear h hb
    go_enter Try.func60, Try.ntmps60
    go_wp2
    go_ret
    have h2 := HH.out.bad_ true
    exact ⟨rfl, ⟨A, c, h2.1⟩, Tch.of_wrote h2.2 HH.out.low HH.out.high⟩
  | false =>
    have hs : xs.length < 8 := by simpa using hb
    clear h hb
    have hd : decide ((xs.length : Int) < 8) = true := decide_eq_true (by omega)
    have hz : ((xs.length : Int) < 8) = True := eq_true (by omega)
    go_enter Try.func60, Try.ntmps60
    go_wp2
    go_ret
    have h2 := HH.out.bad_ true
    exact ⟨rfl, ⟨A, c, h2.1⟩, Tch.of_wrote h2.2 HH.out.low HH.out.high⟩

set_option maxHeartbeats 2000000 in
theorem take_int_ok (w : World) (lo hi b : Nat) (xs : List Int) (h : Rd w lo hi b xs false) (hb : isB xs) (hs : 8 ≤ xs.length) :
    Calls Try.prog 60 #[.pointer (some ⟨b, 0, none⟩), .int .i64 8, .func (.func 61) #[] #[]] w fun e w' => e = .returned (.int .i64 (numI (xs.take 8))) ∧ Rd w' lo hi b (xs.drop 8) false ∧ Tch w w' lo hi := by
  obtain ⟨A, c, h⟩ := h
  have c0 := h.blk.cell 0 (v := .slice A xs.length c) rfl
  have c1 := h.blk.cell 1 (v := .bool false) rfl
  have f0 := h.blk.free 0
  have f1 := h.blk.free 1
  obtain ⟨hd, hw⟩ := h.drop 8 hs
  have hT := Tch.of_wrote hw h.low h.high
  have hq : Kd.C kb (w.setCell ⟨b, 0, none⟩ (.slice (if c = 8 then A else A.map (·.add (8 * 1))) (xs.length - 8) (c - 8))) A 8 (xs.take 8) := by
    have := kb_stays (Kd.C_take h.row hs) (fun a ha => hw.block _ (h.far a ha).2.2)
    rwa [show (xs.take 8).length = 8 by rw [List.length_take]; omega] at this
  obtain ⟨i0, hi0, _, hsz, _⟩ := info_parts PPackPuts.info5
  have hcut := cut_to (P := Try.prog) 22 5 .i64 Try.underlying22 hi0 A xs.length c 8 (by decide) (by omega) h.cap
  have hcut2 := cut_from (P := Try.prog) 22 5 .i64 Try.underlying22 hi0 1 hsz A xs.length c 8 (by decide) (by omega)
  rw [show (8 : Int).toNat = 8 from rfl] at hcut hcut2
  have hc := Nat.le_trans hs h.cap
  generalize (if c = 8 then A else A.map (·.add (8 * 1))) = A' at hd hw hT hq hcut2
  generalize xs.length - 8 = n' at hd hw hT hq hcut2
  generalize c - 8 = c' at hd hw hT hq hcut2
  have HD := Aside0.mk hd
  have HQ := Aside0.mk hq
  have HB := Aside0.mk hb
  have HS := Aside0.mk hs
  have hz : ((xs.length : Int) < 8) = False := eq_false (by omega)
  have hzd : decide ((xs.length : Int) < 8) = false := decide_eq_false (by omega)
  clear h hd hq hw hb hi0 hsz hs
  go_enter Try.func60, Try.ntmps60
  go_wp2_with fail
  refine (number_calls _ A c 8 (xs.take 8) (by rw [List.length_take]; have := HS.out; omega) (HB.out.take 8) HQ.out hc (by rw [List.length_take]; omega)).mono ?_
  rintro e w1 ⟨rfl, hE⟩
  have HT := Aside0.mk (hT.trans (Tch.of_ext hE lo hi))
  have HD1 := Aside0.mk (HD.out.ext hE)
  clear hT hE HD HQ
  go_wp2
  go_ret
  exact ⟨rfl, ⟨_, _, HD1.out⟩, HT.out⟩

theorem first_calls (w : World) (A : Option Addr) (c n : Nat) (xs : List Int) (h : 1 ≤ n) (hr : Kd.C kb w A n xs) :
    Calls Try.prog 67 #[.slice A n c] w fun e w' => e = .returned (.int .u8 (rd xs 0)) ∧ Ext w w' := by
  obtain ⟨ad, rfl, hcell⟩ := at_k hr 0 (by decide) (by omega)
  rw [show (0 : Int).toNat = 0 from rfl, show ad.add 0 = ad by simp [Addr.add]] at hcell
  have hn : (0 : Int) < (n : Int) := by omega
  have hn' : 0 < n := by omega
  clear hr
  go_enter Try.func67, Try.ntmps67
  go_wp2
  go_ret
  exact ⟨rfl, Ext.refl w⟩

set_option maxHeartbeats 2000000 in
theorem take_byte_bad (w : World) (lo hi b : Nat) (xs : List Int) (bad : Bool) (h : Rd w lo hi b xs bad) (hb : bad = true ∨ xs.length < 1) :
    Calls Try.prog 66 #[.pointer (some ⟨b, 0, none⟩), .int .i64 1, .func (.func 67) #[] #[]] w fun e w' => e = .returned (.int .u8 0) ∧ Rd w' lo hi b xs true ∧ Tch w w' lo hi := by
  obtain ⟨A, c, h⟩ := h
  have c0 := h.blk.cell 0 (v := .slice A xs.length c) rfl
  have c1 := h.blk.cell 1 (v := .bool bad) rfl
  have f0 := h.blk.free 0
  have f1 := h.blk.free 1
  have HH := Aside0.mk h
  cases bad with
  | true =>
    clear h hb
    go_enter Try.func66, Try.ntmps66
    go_wp2
    go_ret
    have h2 := HH.out.bad_ true
    exact ⟨rfl, ⟨A, c, h2.1⟩, Tch.of_wrote h2.2 HH.out.low HH.out.high⟩
  | false =>
    have hs : xs.length < 1 := by simpa using hb
    clear h hb
    have hd : decide ((xs.length : Int) < 1) = true := decide_eq_true (by omega)
    have hz : ((xs.length : Int) < 1) = True := eq_true (by omega)
    go_enter Try.func66, Try.ntmps66
    go_wp2
    go_ret
    have h2 := HH.out.bad_ true
    exact ⟨rfl, ⟨A, c, h2.1⟩, Tch.of_wrote h2.2 HH.out.low HH.out.high⟩

set_option maxHeartbeats 2000000 in
theorem take_byte_ok (w : World) (lo hi b : Nat) (xs : List Int) (h : Rd w lo hi b xs false) (hb : isB xs) (hs : 1 ≤ xs.length) :
    Calls Try.prog 66 #[.pointer (some ⟨b, 0, none⟩), .int .i64 1, .func (.func 67) #[] #[]] w fun e w' => e = .returned (.int .u8 (rd xs 0)) ∧ Rd w' lo hi b (xs.drop 1) false ∧ Tch w w' lo hi := by
  obtain ⟨A, c, h⟩ := h
  have c0 := h.blk.cell 0 (v := .slice A xs.length c) rfl
  have c1 := h.blk.cell 1 (v := .bool false) rfl
  have f0 := h.blk.free 0
  have f1 := h.blk.free 1
  obtain ⟨hd, hw⟩ := h.drop 1 hs
  have hT := Tch.of_wrote hw h.low h.high
  have hq : Kd.C kb (w.setCell ⟨b, 0, none⟩ (.slice (if c = 1 then A else A.map (·.add (1 * 1))) (xs.length - 1) (c - 1))) A 1 (xs.take 1) := by
    have := kb_stays (Kd.C_take h.row hs) (fun a ha => hw.block _ (h.far a ha).2.2)
    rwa [show (xs.take 1).length = 1 by rw [List.length_take]; omega] at this
  obtain ⟨i0, hi0, _, hsz, _⟩ := info_parts PPackPuts.info5
  have hcut := cut_to (P := Try.prog) 22 5 .i64 Try.underlying22 hi0 A xs.length c 1 (by decide) (by omega) h.cap
  have hcut2 := cut_from (P := Try.prog) 22 5 .i64 Try.underlying22 hi0 1 hsz A xs.length c 1 (by decide) (by omega)
  rw [show (1 : Int).toNat = 1 from rfl] at hcut hcut2
  have hc := Nat.le_trans hs h.cap
  generalize (if c = 1 then A else A.map (·.add (1 * 1))) = A' at hd hw hT hq hcut2
  generalize xs.length - 1 = n' at hd hw hT hq hcut2
  generalize c - 1 = c' at hd hw hT hq hcut2
  have HD := Aside0.mk hd
  have HQ := Aside0.mk hq
  have HB := Aside0.mk hb
  have HS := Aside0.mk hs
  have hz : ((xs.length : Int) < 1) = False := eq_false (by omega)
  have hzd : decide ((xs.length : Int) < 1) = false := decide_eq_false (by omega)
  clear h hd hq hw hb hi0 hsz hs
  go_enter Try.func66, Try.ntmps66
  go_wp2_with fail
  refine (first_calls _ A c 1 (xs.take 1) (Nat.le_refl _) HQ.out).mono ?_
  rw [show rd (xs.take 1) 0 = rd xs 0 by have := HS.out; cases xs with | nil => simp at this | cons x l => rfl]
  rintro e w1 ⟨rfl, hE⟩
  have HT := Aside0.mk (hT.trans (Tch.of_ext hE lo hi))
  have HD1 := Aside0.mk (HD.out.ext hE)
  clear hT hE HD HQ
  go_wp2
  go_ret
  exact ⟨rfl, ⟨_, _, HD1.out⟩, HT.out⟩

theorem rdint_bad (w : World) (lo hi b : Nat) (xs : List Int) (bad : Bool) (h : Rd w lo hi b xs bad) (hb : bad = true ∨ xs.length < 8) :
    Calls Try.prog 28 #[.pointer (some ⟨b, 0, none⟩)] w fun e w' => e = .returned (.int .i64 0) ∧ Rd w' lo hi b xs true ∧ Tch w w' lo hi := by
  have H := Aside0.mk (take_int_bad w lo hi b xs bad h hb)
  clear h hb
  go_enter Try.func28, Try.ntmps28
  go_wp2_with fail
  refine (H.out).mono ?_
  rintro e w1 ⟨rfl, hE⟩
  have HE := Aside0.mk hE
  clear hE H
  go_wp2
  go_ret
  exact ⟨rfl, HE.out⟩

theorem rdint_ok (w : World) (lo hi b : Nat) (xs : List Int) (h : Rd w lo hi b xs false) (hb : isB xs) (hs : 8 ≤ xs.length) :
    Calls Try.prog 28 #[.pointer (some ⟨b, 0, none⟩)] w fun e w' => e = .returned (.int .i64 (numI (xs.take 8))) ∧ Rd w' lo hi b (xs.drop 8) false ∧ Tch w w' lo hi := by
  have H := Aside0.mk (take_int_ok w lo hi b xs h hb hs)
  clear h hb hs
  go_enter Try.func28, Try.ntmps28
  go_wp2_with fail
  refine (H.out).mono ?_
  rintro e w1 ⟨rfl, hE⟩
  have HE := Aside0.mk hE
  clear hE H
  go_wp2
  go_ret
  exact ⟨rfl, HE.out⟩

theorem rdbyte_bad (w : World) (lo hi b : Nat) (xs : List Int) (bad : Bool) (h : Rd w lo hi b xs bad) (hb : bad = true ∨ xs.length < 1) :
    Calls Try.prog 32 #[.pointer (some ⟨b, 0, none⟩)] w fun e w' => e = .returned (.int .u8 0) ∧ Rd w' lo hi b xs true ∧ Tch w w' lo hi := by
  have H := Aside0.mk (take_byte_bad w lo hi b xs bad h hb)
  clear h hb
  go_enter Try.func32, Try.ntmps32
  go_wp2_with fail
  refine (H.out).mono ?_
  rintro e w1 ⟨rfl, hE⟩
  have HE := Aside0.mk hE
  clear hE H
  go_wp2
  go_ret
  exact ⟨rfl, HE.out⟩

theorem rdbyte_ok (w : World) (lo hi b : Nat) (xs : List Int) (h : Rd w lo hi b xs false) (hb : isB xs) (hs : 1 ≤ xs.length) :
    Calls Try.prog 32 #[.pointer (some ⟨b, 0, none⟩)] w fun e w' => e = .returned (.int .u8 (rd xs 0)) ∧ Rd w' lo hi b (xs.drop 1) false ∧ Tch w w' lo hi := by
  have H := Aside0.mk (take_byte_ok w lo hi b xs h hb hs)
  clear h hb hs
  go_enter Try.func32, Try.ntmps32
  go_wp2_with fail
  refine (H.out).mono ?_
  rintro e w1 ⟨rfl, hE⟩
  have HE := Aside0.mk hE
  clear hE H
  go_wp2
  go_ret
  exact ⟨rfl, HE.out⟩
end Go.Proofs.Ythgdjgnbifakbaa.By
