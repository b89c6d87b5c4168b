/- Sums under a key as plain functions. -/
import Derived.Test.YtbnbncnmhhioeaaDoorLPieces
import Derived.Laws.IdiomCopy
namespace Go.Proofs.YtbnbncnmhhioeaaDoor.By
open Go.RowKit Go.Proofs.YtbnbncnmhhioeaaDoor.Reg Go.Proofs.YtbnbncnmhhioeaaDoorW.PrintWords Go.Proofs.YtbnbncnmhhioeaaDoorW.PrintLast Go.Proofs.YtbnbncnmhhioeaaDoorW.PrintMore
set_option linter.unusedVariables false

def keyF (k : List Int) : List Int := if k.length > 64 then shaF k else k
def xorF (v : Int) (x : Int) : Int := Go.bits .xor .u8 x v
def blockF (k : List Int) (v : Int) : List Int := (upto 64 (keyF k)).map (xorF v)
def macF (k t : List Int) : List Int := shaF (blockF k 92 ++ shaF (blockF k 54 ++ t))
theorem keyF_len (k : List Int) : (keyF k).length ≤ 64 := by
  unfold keyF
  split
  · rw [sha_len]; decide
  · omega
theorem blockF_len (k : List Int) (v : Int) : (blockF k v).length = 64 := by
  unfold blockF
  rw [List.length_map, upto_length 64 _ (keyF_len k)]
theorem mac_len (k t : List Int) : (macF k t).length = 32 := sha_len _
theorem mac_isB (k t : List Int) : isB (macF k t) := sha_isB _
/-- A key with noughts behind it, up to 64 bytes. -/
theorem block_noughts (k : List Int) (v : Int) (n : Nat) (h : k.length + n ≤ 64) : blockF (k ++ List.replicate n 0) v = blockF k v := by
  have h1 : keyF (k ++ List.replicate n 0) = k ++ List.replicate n 0 := by unfold keyF; rw [if_neg (by rw [List.length_append, List.length_replicate]; omega)]
  have h2 : keyF k = k := by unfold keyF; rw [if_neg (by omega)]
  unfold blockF
  rw [h1, h2]
  congr 1
  unfold upto
  rw [List.length_append, List.length_replicate, List.append_assoc, List.replicate_append_replicate]
  congr 2
  omega
/-- A long key is as its digest. -/
theorem block_long (k : List Int) (v : Int) (h : 64 < k.length) : blockF k v = blockF (shaF k) v := by
  have h1 : keyF k = shaF k := by unfold keyF; rw [if_pos h]
  have h2 : keyF (shaF k) = shaF k := by unfold keyF; rw [if_neg (by rw [sha_len]; decide)]
  unfold blockF
  rw [h1, h2]
end Go.Proofs.YtbnbncnmhhioeaaDoor.By

/- copy into an array's slice. -/
namespace Go.Proofs.YtbnbncnmhhioeaaDoor.By
open Go.RowKit Go.Proofs.YtbnbncnmhhioeaaDoor.Reg Go.Proofs.YtbnbncnmhhioeaaDoorW.PrintWords Go.Proofs.YtbnbncnmhhioeaaDoorW.PrintLast Go.Proofs.YtbnbncnmhhioeaaDoorW.PrintMore
set_option linter.unusedVariables false

theorem run_copy_blk (w : World) (b d ty : Nat) (A : Option Addr) (m c : Nat) (bs cur : List Int) (te : TypeId) (hb : Blk w b (nums .u8 cur).toArray te) (hC : Kd.C kb w A m bs) (hm : m ≤ cur.length) (hd : d = cur.length) :
    ∃ w', (Builtin.copy_ #[22, 22] ty #[.slice (some ⟨b, 0, none⟩) d d, .slice A m c]).run Tryd.prog w = .ok (goInt m) w' ∧ Wrote w w' b ∧ Blk w' b (nums .u8 (bs ++ cur.drop m)).toArray te := by
  subst hd
  have hbl : bs.length = m := hC.1
  have hinf : (Tryd.prog.info? 5).map (·.size) = some 1 := by kernel_rfl
  rcases Nat.eq_zero_or_pos m with h0 | h0
  · subst h0
    have hbs : bs = [] := List.eq_nil_of_length_eq_zero hbl
    subst hbs
    have hr := run_copy_none (P := Tryd.prog) w 22 22 ty 5 (some ⟨b, 0, none⟩) A cur.length cur.length 0 c Tryd.underlying22 hinf (by simp)
    exact ⟨w, hr, ⟨rfl, rfl, rfl, rfl, fun _ _ => rfl⟩, by simpa using hb⟩
  · obtain ⟨ad, rfl, hc⟩ := hC.2.2 h0
    have key : ∀ j v, (nums .u8 bs)[j]? = some v → w.cell? (ad.add j) = some v := by
      intro j v hv
      simp only [nums, List.getElem?_map] at hv
      obtain ⟨p, hp, rfl⟩ := Option.map_eq_some_iff.1 hv
      obtain ⟨cs, h1, h2, h3⟩ := hc j p hp
      have h2' : cs = [.int .u8 p] := h2
      subst h2'
      have := h3 0 _ rfl
      rwa [show j * kb.sz + 0 = j by show j * 1 + 0 = j; omega] at this
    have hr := run_copy_row (P := Tryd.prog) w 22 22 ty 5 b 0 cur.length cur.length ad m c (nums .u8 cur).toArray te (nums .u8 bs) Tryd.underlying22 hinf hb.is (by rw [nums_length, hbl]; exact (Nat.min_eq_left hm).symm) key (by rw [nums_length, hbl]; simp [nums]; omega) (one_cells _ _)
    have e : (((nums .u8 cur).toArray.toList.take 0 ++ nums .u8 bs ++ (nums .u8 cur).toArray.toList.drop (0 + (nums .u8 bs).length)).toArray) = (nums .u8 (bs ++ cur.drop m)).toArray := by
      rw [nums_length, hbl]; simp [nums]
    rw [e, nums_length, hbl] at hr
    exact ⟨_, hr, (wrote_setRow hb _).1, (wrote_setRow hb _).2⟩
section
variable {W : World} {ops : Array Oper} {rest : List Oper} {o : Oper} {a : Act} {Q : Exit → Act → World → Prop}
theorem copy_at (hgd : o.guard = none) (s x : Operand) (ho : o.op = .call { callee := .builtin .copy, args := #[s, x], argTypes := #[22, 22] })
    (b d : Nat) (A : Option Addr) (m c : Nat) (bs cur : List Int) (te : TypeId) (hs : a.eval s = .slice (some ⟨b, 0, none⟩) d d) (hx : a.eval x = .slice A m c) (hb : Blk W b (nums .u8 cur).toArray te) (hC : Kd.C kb W A m bs) (hm : m ≤ cur.length) (hd : d = cur.length)
    (hk : ∀ w', Wrote W w' b → Blk w' b (nums .u8 (bs ++ cur.drop m)).toArray te → wpList Tryd.prog ops Q rest (a.put o.dst (goInt m)) w') : wpList Tryd.prog ops Q (o :: rest) a W :=
  wpList_plain hgd fun K hK => by
    obtain ⟨w', hr, hw, hb'⟩ := run_copy_blk W b d o.type A m c bs cur te hb hC hm hd
    unfold Oper.wp execOp
    simp only [ho, resolve, invoke, builtin, Sem.run_bind, Sem.run_pure, Result.andThen_ok, List.map_toArray, List.map_cons, List.map_nil, hs, hx, hr]
    exact hK _ _ (hk w' hw hb')
end
end Go.Proofs.YtbnbncnmhhioeaaDoor.By

/- A key's block: mac.blockOf. -/
namespace Go.Proofs.YtbnbncnmhhioeaaDoor.By
open Go.RowKit Go.Proofs.YtbnbncnmhhioeaaDoor.Reg Go.Proofs.YtbnbncnmhhioeaaDoorW.PrintWords Go.Proofs.YtbnbncnmhhioeaaDoorW.PrintLast Go.Proofs.YtbnbncnmhhioeaaDoorW.PrintMore
set_option linter.unusedVariables false

/-- The first x of a list turned by f. -/
def part (f : Int → Int) (L : List Int) (x : Nat) : List Int := (L.take x).map f ++ L.drop x
theorem part_set (f : Int → Int) (L : List Int) (x : Nat) (h : x < L.length) : (nums .u8 (part f L x)).toArray.setIfInBounds x (.int .u8 (f (rd L x))) = (nums .u8 (part f L (x + 1))).toArray := by
  rw [List.setIfInBounds_toArray]
  congr 1
  unfold part nums
  have hl : ((L.take x).map f).length = x := by rw [List.length_map, List.length_take]; omega
  have hr : rd L x = L[x] := by simp [rd, h]
  rw [List.map_append, List.set_append_right _ _ (by rw [List.length_map, hl]; exact Nat.le_refl _), List.length_map, hl, Nat.sub_self, List.drop_eq_getElem_cons h, List.map_cons, List.set_cons_zero, List.take_succ_eq_append_getElem h, hr]
  simp only [List.map_append, List.map_cons, List.map_nil, List.append_assoc, List.cons_append, List.nil_append]
theorem part_at (f : Int → Int) (L : List Int) (x : Nat) (h : x < L.length) : (nums .u8 (part f L x)).toArray[x]? = some (.int .u8 (rd L x)) := by
  have hl : ((L.take x).map f).length = x := by rw [List.length_map, List.length_take]; omega
  rw [List.getElem?_toArray]
  unfold nums part
  rw [List.getElem?_map, List.getElem?_append_right (by rw [hl]; exact Nat.le_refl _), hl, Nat.sub_self, List.getElem?_drop, Nat.add_zero, List.getElem?_eq_getElem h]
  simp [rd, h]
theorem part_len (f : Int → Int) (L : List Int) (x : Nat) : (part f L x).length = L.length := by unfold part; simp; omega

set_option maxRecDepth 100000 in
set_option maxHeartbeats 16000000 in
theorem blockof_short (w : World) (A : Option Addr) (c n : Nat) (k : List Int) (v : Int) (hn : n = k.length) (hr : Kd.C kb w A n k) (hc : n ≤ c) (hs : n ≤ 64) :
    Calls Tryd.prog 39 #[.slice A n c, .int .u8 v] w fun e w' => e = .returned (.agg (nums .u8 (blockF k v)).toArray) ∧ Ext w w' := by
  have hs1 : (w.alloc (.cells #[Value.int .u8 0, Value.int .u8 0, Value.int .u8 0, Value.int .u8 0, Value.int .u8 0, Value.int .u8 0, Value.int .u8 0, Value.int .u8 0, Value.int .u8 0, Value.int .u8 0, Value.int .u8 0, Value.int .u8 0, Value.int .u8 0, Value.int .u8 0, Value.int .u8 0, Value.int .u8 0, Value.int .u8 0, Value.int .u8 0, Value.int .u8 0, Value.int .u8 0, Value.int .u8 0, Value.int .u8 0, Value.int .u8 0, Value.int .u8 0, Value.int .u8 0, Value.int .u8 0, Value.int .u8 0, Value.int .u8 0, Value.int .u8 0, Value.int .u8 0, Value.int .u8 0, Value.int .u8 0, Value.int .u8 0, Value.int .u8 0, Value.int .u8 0, Value.int .u8 0, Value.int .u8 0, Value.int .u8 0, Value.int .u8 0, Value.int .u8 0, Value.int .u8 0, Value.int .u8 0, Value.int .u8 0, Value.int .u8 0, Value.int .u8 0, Value.int .u8 0, Value.int .u8 0, Value.int .u8 0, Value.int .u8 0, Value.int .u8 0, Value.int .u8 0, Value.int .u8 0, Value.int .u8 0, Value.int .u8 0, Value.int .u8 0, Value.int .u8 0, Value.int .u8 0, Value.int .u8 0, Value.int .u8 0, Value.int .u8 0, Value.int .u8 0, Value.int .u8 0, Value.int .u8 0, Value.int .u8 0] 59)).heap.size = w.heap.size + 1 := size_alloc _ _
  have hk5 := Blk.new (w.alloc (.cells #[Value.int .u8 0, Value.int .u8 0, Value.int .u8 0, Value.int .u8 0, Value.int .u8 0, Value.int .u8 0, Value.int .u8 0, Value.int .u8 0, Value.int .u8 0, Value.int .u8 0, Value.int .u8 0, Value.int .u8 0, Value.int .u8 0, Value.int .u8 0, Value.int .u8 0, Value.int .u8 0, Value.int .u8 0, Value.int .u8 0, Value.int .u8 0, Value.int .u8 0, Value.int .u8 0, Value.int .u8 0, Value.int .u8 0, Value.int .u8 0, Value.int .u8 0, Value.int .u8 0, Value.int .u8 0, Value.int .u8 0, Value.int .u8 0, Value.int .u8 0, Value.int .u8 0, Value.int .u8 0, Value.int .u8 0, Value.int .u8 0, Value.int .u8 0, Value.int .u8 0, Value.int .u8 0, Value.int .u8 0, Value.int .u8 0, Value.int .u8 0, Value.int .u8 0, Value.int .u8 0, Value.int .u8 0, Value.int .u8 0, Value.int .u8 0, Value.int .u8 0, Value.int .u8 0, Value.int .u8 0, Value.int .u8 0, Value.int .u8 0, Value.int .u8 0, Value.int .u8 0, Value.int .u8 0, Value.int .u8 0, Value.int .u8 0, Value.int .u8 0, Value.int .u8 0, Value.int .u8 0, Value.int .u8 0, Value.int .u8 0, Value.int .u8 0, Value.int .u8 0, Value.int .u8 0, Value.int .u8 0] 59)) #[Value.int .u8 0, Value.int .u8 0, Value.int .u8 0, Value.int .u8 0, Value.int .u8 0, Value.int .u8 0, Value.int .u8 0, Value.int .u8 0, Value.int .u8 0, Value.int .u8 0, Value.int .u8 0, Value.int .u8 0, Value.int .u8 0, Value.int .u8 0, Value.int .u8 0, Value.int .u8 0, Value.int .u8 0, Value.int .u8 0, Value.int .u8 0, Value.int .u8 0, Value.int .u8 0, Value.int .u8 0, Value.int .u8 0, Value.int .u8 0, Value.int .u8 0, Value.int .u8 0, Value.int .u8 0, Value.int .u8 0, Value.int .u8 0, Value.int .u8 0, Value.int .u8 0, Value.int .u8 0, Value.int .u8 0, Value.int .u8 0, Value.int .u8 0, Value.int .u8 0, Value.int .u8 0, Value.int .u8 0, Value.int .u8 0, Value.int .u8 0, Value.int .u8 0, Value.int .u8 0, Value.int .u8 0, Value.int .u8 0, Value.int .u8 0, Value.int .u8 0, Value.int .u8 0, Value.int .u8 0, Value.int .u8 0, Value.int .u8 0, Value.int .u8 0, Value.int .u8 0, Value.int .u8 0, Value.int .u8 0, Value.int .u8 0, Value.int .u8 0, Value.int .u8 0, Value.int .u8 0, Value.int .u8 0, Value.int .u8 0, Value.int .u8 0, Value.int .u8 0, Value.int .u8 0, Value.int .u8 0] 59
  rw [hs1] at hk5
  have HB5 := Aside0.mk (show Blk ((w.alloc (.cells #[Value.int .u8 0, Value.int .u8 0, Value.int .u8 0, Value.int .u8 0, Value.int .u8 0, Value.int .u8 0, Value.int .u8 0, Value.int .u8 0, Value.int .u8 0, Value.int .u8 0, Value.int .u8 0, Value.int .u8 0, Value.int .u8 0, Value.int .u8 0, Value.int .u8 0, Value.int .u8 0, Value.int .u8 0, Value.int .u8 0, Value.int .u8 0, Value.int .u8 0, Value.int .u8 0, Value.int .u8 0, Value.int .u8 0, Value.int .u8 0, Value.int .u8 0, Value.int .u8 0, Value.int .u8 0, Value.int .u8 0, Value.int .u8 0, Value.int .u8 0, Value.int .u8 0, Value.int .u8 0, Value.int .u8 0, Value.int .u8 0, Value.int .u8 0, Value.int .u8 0, Value.int .u8 0, Value.int .u8 0, Value.int .u8 0, Value.int .u8 0, Value.int .u8 0, Value.int .u8 0, Value.int .u8 0, Value.int .u8 0, Value.int .u8 0, Value.int .u8 0, Value.int .u8 0, Value.int .u8 0, Value.int .u8 0, Value.int .u8 0, Value.int .u8 0, Value.int .u8 0, Value.int .u8 0, Value.int .u8 0, Value.int .u8 0, Value.int .u8 0, Value.int .u8 0, Value.int .u8 0, Value.int .u8 0, Value.int .u8 0, Value.int .u8 0, Value.int .u8 0, Value.int .u8 0, Value.int .u8 0] 59)).alloc (.cells #[Value.int .u8 0, Value.int .u8 0, Value.int .u8 0, Value.int .u8 0, Value.int .u8 0, Value.int .u8 0, Value.int .u8 0, Value.int .u8 0, Value.int .u8 0, Value.int .u8 0, Value.int .u8 0, Value.int .u8 0, Value.int .u8 0, Value.int .u8 0, Value.int .u8 0, Value.int .u8 0, Value.int .u8 0, Value.int .u8 0, Value.int .u8 0, Value.int .u8 0, Value.int .u8 0, Value.int .u8 0, Value.int .u8 0, Value.int .u8 0, Value.int .u8 0, Value.int .u8 0, Value.int .u8 0, Value.int .u8 0, Value.int .u8 0, Value.int .u8 0, Value.int .u8 0, Value.int .u8 0, Value.int .u8 0, Value.int .u8 0, Value.int .u8 0, Value.int .u8 0, Value.int .u8 0, Value.int .u8 0, Value.int .u8 0, Value.int .u8 0, Value.int .u8 0, Value.int .u8 0, Value.int .u8 0, Value.int .u8 0, Value.int .u8 0, Value.int .u8 0, Value.int .u8 0, Value.int .u8 0, Value.int .u8 0, Value.int .u8 0, Value.int .u8 0, Value.int .u8 0, Value.int .u8 0, Value.int .u8 0, Value.int .u8 0, Value.int .u8 0, Value.int .u8 0, Value.int .u8 0, Value.int .u8 0, Value.int .u8 0, Value.int .u8 0, Value.int .u8 0, Value.int .u8 0, Value.int .u8 0] 59)) (w.heap.size + 1) (nums .u8 (List.replicate 64 0)).toArray 59 from hk5)
  have HB4 := Aside0.mk (show Blk ((w.alloc (.cells #[Value.int .u8 0, Value.int .u8 0, Value.int .u8 0, Value.int .u8 0, Value.int .u8 0, Value.int .u8 0, Value.int .u8 0, Value.int .u8 0, Value.int .u8 0, Value.int .u8 0, Value.int .u8 0, Value.int .u8 0, Value.int .u8 0, Value.int .u8 0, Value.int .u8 0, Value.int .u8 0, Value.int .u8 0, Value.int .u8 0, Value.int .u8 0, Value.int .u8 0, Value.int .u8 0, Value.int .u8 0, Value.int .u8 0, Value.int .u8 0, Value.int .u8 0, Value.int .u8 0, Value.int .u8 0, Value.int .u8 0, Value.int .u8 0, Value.int .u8 0, Value.int .u8 0, Value.int .u8 0, Value.int .u8 0, Value.int .u8 0, Value.int .u8 0, Value.int .u8 0, Value.int .u8 0, Value.int .u8 0, Value.int .u8 0, Value.int .u8 0, Value.int .u8 0, Value.int .u8 0, Value.int .u8 0, Value.int .u8 0, Value.int .u8 0, Value.int .u8 0, Value.int .u8 0, Value.int .u8 0, Value.int .u8 0, Value.int .u8 0, Value.int .u8 0, Value.int .u8 0, Value.int .u8 0, Value.int .u8 0, Value.int .u8 0, Value.int .u8 0, Value.int .u8 0, Value.int .u8 0, Value.int .u8 0, Value.int .u8 0, Value.int .u8 0, Value.int .u8 0, Value.int .u8 0, Value.int .u8 0] 59)).alloc (.cells #[Value.int .u8 0, Value.int .u8 0, Value.int .u8 0, Value.int .u8 0, Value.int .u8 0, Value.int .u8 0, Value.int .u8 0, Value.int .u8 0, Value.int .u8 0, Value.int .u8 0, Value.int .u8 0, Value.int .u8 0, Value.int .u8 0, Value.int .u8 0, Value.int .u8 0, Value.int .u8 0, Value.int .u8 0, Value.int .u8 0, Value.int .u8 0, Value.int .u8 0, Value.int .u8 0, Value.int .u8 0, Value.int .u8 0, Value.int .u8 0, Value.int .u8 0, Value.int .u8 0, Value.int .u8 0, Value.int .u8 0, Value.int .u8 0, Value.int .u8 0, Value.int .u8 0, Value.int .u8 0, Value.int .u8 0, Value.int .u8 0, Value.int .u8 0, Value.int .u8 0, Value.int .u8 0, Value.int .u8 0, Value.int .u8 0, Value.int .u8 0, Value.int .u8 0, Value.int .u8 0, Value.int .u8 0, Value.int .u8 0, Value.int .u8 0, Value.int .u8 0, Value.int .u8 0, Value.int .u8 0, Value.int .u8 0, Value.int .u8 0, Value.int .u8 0, Value.int .u8 0, Value.int .u8 0, Value.int .u8 0, Value.int .u8 0, Value.int .u8 0, Value.int .u8 0, Value.int .u8 0, Value.int .u8 0, Value.int .u8 0, Value.int .u8 0, Value.int .u8 0, Value.int .u8 0, Value.int .u8 0] 59)) w.heap.size (nums .u8 (List.replicate 64 0)).toArray 59 from (Blk.new w _ 59).alloc _)
  have HE := Aside0.mk (((Ext.refl w).alloc (.cells #[Value.int .u8 0, Value.int .u8 0, Value.int .u8 0, Value.int .u8 0, Value.int .u8 0, Value.int .u8 0, Value.int .u8 0, Value.int .u8 0, Value.int .u8 0, Value.int .u8 0, Value.int .u8 0, Value.int .u8 0, Value.int .u8 0, Value.int .u8 0, Value.int .u8 0, Value.int .u8 0, Value.int .u8 0, Value.int .u8 0, Value.int .u8 0, Value.int .u8 0, Value.int .u8 0, Value.int .u8 0, Value.int .u8 0, Value.int .u8 0, Value.int .u8 0, Value.int .u8 0, Value.int .u8 0, Value.int .u8 0, Value.int .u8 0, Value.int .u8 0, Value.int .u8 0, Value.int .u8 0, Value.int .u8 0, Value.int .u8 0, Value.int .u8 0, Value.int .u8 0, Value.int .u8 0, Value.int .u8 0, Value.int .u8 0, Value.int .u8 0, Value.int .u8 0, Value.int .u8 0, Value.int .u8 0, Value.int .u8 0, Value.int .u8 0, Value.int .u8 0, Value.int .u8 0, Value.int .u8 0, Value.int .u8 0, Value.int .u8 0, Value.int .u8 0, Value.int .u8 0, Value.int .u8 0, Value.int .u8 0, Value.int .u8 0, Value.int .u8 0, Value.int .u8 0, Value.int .u8 0, Value.int .u8 0, Value.int .u8 0, Value.int .u8 0, Value.int .u8 0, Value.int .u8 0, Value.int .u8 0] 59)).alloc (.cells #[Value.int .u8 0, Value.int .u8 0, Value.int .u8 0, Value.int .u8 0, Value.int .u8 0, Value.int .u8 0, Value.int .u8 0, Value.int .u8 0, Value.int .u8 0, Value.int .u8 0, Value.int .u8 0, Value.int .u8 0, Value.int .u8 0, Value.int .u8 0, Value.int .u8 0, Value.int .u8 0, Value.int .u8 0, Value.int .u8 0, Value.int .u8 0, Value.int .u8 0, Value.int .u8 0, Value.int .u8 0, Value.int .u8 0, Value.int .u8 0, Value.int .u8 0, Value.int .u8 0, Value.int .u8 0, Value.int .u8 0, Value.int .u8 0, Value.int .u8 0, Value.int .u8 0, Value.int .u8 0, Value.int .u8 0, Value.int .u8 0, Value.int .u8 0, Value.int .u8 0, Value.int .u8 0, Value.int .u8 0, Value.int .u8 0, Value.int .u8 0, Value.int .u8 0, Value.int .u8 0, Value.int .u8 0, Value.int .u8 0, Value.int .u8 0, Value.int .u8 0, Value.int .u8 0, Value.int .u8 0, Value.int .u8 0, Value.int .u8 0, Value.int .u8 0, Value.int .u8 0, Value.int .u8 0, Value.int .u8 0, Value.int .u8 0, Value.int .u8 0, Value.int .u8 0, Value.int .u8 0, Value.int .u8 0, Value.int .u8 0, Value.int .u8 0, Value.int .u8 0, Value.int .u8 0, Value.int .u8 0] 59))
  have HC := Aside0.mk (Kd.C_below hr HE.out)
  have HN := Aside0.mk hn
  have hz : ((64 : Int) < (n : Int)) = False := eq_false (by omega)
  clear hs1 hk5 hr hn
  go_enter Tryd.func39, Tryd.ntmps39
  go_wp2_with (first | ((with_reducible refine gate_builtin (b := .copy) (xs := #[.tmp 16, .tmp 17]) rfl ?_); go_loud (refine copy_at rfl (.tmp 16) (.tmp 17) rfl (w.heap.size + 1) 64 A n c k (List.replicate 64 0) 59 rfl rfl HB5.out HC.out (by rw [List.length_replicate]; exact hs) (by rw [List.length_replicate]) ?_)) | fail)
  intro w3 hW3 hB3
  obtain ⟨L, hL⟩ : ∃ L, L = upto 64 (keyF k) := ⟨_, rfl⟩
  have hkk : keyF k = k := by unfold keyF; rw [if_neg (by rw [← HN.out]; omega)]
  have hLe : k ++ (List.replicate 64 0).drop n = L := by
    rw [hL, hkk]; unfold upto; rw [List.drop_replicate, ← HN.out]
  replace hB3 : Blk w3 (w.heap.size + 1) (nums .u8 (k ++ (List.replicate 64 0).drop n)).toArray 59 := hB3
  rw [hLe] at hB3
  have HLL := Aside0.mk (show L.length = 64 by rw [hL, upto_length 64 _ (keyF_len k)])
  have HBF := Aside0.mk (show part (xorF v) L 64 = blockF k v by
    unfold part blockF; rw [List.take_of_length_le (by rw [HLL.out]; exact Nat.le_refl _), List.drop_eq_nil_of_le (by rw [HLL.out]; exact Nat.le_refl _), List.append_nil, hL])
  have HB5' := Aside0.mk (show Blk w3 (w.heap.size + 1) (nums .u8 (part (xorF v) L 0)).toArray 59 by unfold part; simpa using hB3)
  have HB4' := Aside0.mk (HB4.out.wrote hW3 (by omega))
  have HE' := Aside0.mk (hW3.ext HE.out (Nat.le_succ _))
  clear hW3 hB3 HB5 HB4 HE HC hL hkk hLe hz
  go_wp2_with fail
  go_loopw [19] (fun i wr => ∃ x : Nat, i = .int .i64 x ∧ Aside0 (x ≤ 64) ∧ Aside0 (Blk wr (w.heap.size + 1) (nums .u8 (part (xorF v) L x)).toArray 59) ∧ Aside0 (Blk wr w.heap.size (nums .u8 (List.replicate 64 0)).toArray 59) ∧ Aside0 (Ext w wr)) (fun i _ => 64 - (intOf i).toNat)
  case atStart => exact ⟨0, rfl, ⟨Nat.zero_le _⟩, HB5', HB4', HE'⟩
  case round =>
    clear HB5' HB4' HE'
    obtain ⟨x, rfl, HX, HB5, HB4, HE⟩ := hrel
    have hx := HX.out
    obtain ⟨wx, hwx⟩ : ∃ wx : World, wx = wr := ⟨_, rfl⟩
    subst hwx
    by_cases hlt : x < 64
    · have hz : ((x : Int) < 64) = True := eq_true (by omega)
      have HLT := Aside0.mk hlt
      have hcl := HB5.out.cell x (part_at (xorF v) L x (by rw [HLL.out]; exact hlt))
      have hfr := HB5.out.free x
      have hst := HB5.out.set x (.int .u8 (xorF v (rd L x)))
      rw [part_set (xorF v) L x (by rw [HLL.out]; exact hlt)] at hst
      have hw := Wrote.setCell wx (w.heap.size + 1) x (.int .u8 (xorF v (rd L x)))
      have HB4n := Aside0.mk (HB4.out.wrote hw (by omega))
      have HEn := Aside0.mk (hw.ext HE.out (Nat.le_succ _))
      unfold xorF at hst HB4n HEn
      have HST := Aside0.mk hst
      clear hst hw HB5 HB4 HE
      go_wp2_with fail
      go_roundw
      case rel => exact ⟨x + 1, by congr 1, ⟨HLT.out⟩, HST, HB4n, HEn⟩
      case measure => have := HLT.out; simp only [intOf]; omega
    · have hxe : x = 64 := by omega
      subst hxe
      rw [HBF.out] at HB5
      have HI := Aside0.mk (show (Tryd.prog.info? 59).map (·.size) = some (nums .u8 (blockF k v)).length by rw [nums_length, blockF_len]; kernel_rfl)
      have HSZ := Aside0.mk (show (nums .u8 (List.replicate 64 0)).toArray.size = (nums .u8 (blockF k v)).length by rw [nums_length, blockF_len]; rfl)
      clear hlt hx HX
      obtain ⟨D, hD⟩ : ∃ D, D = blockF k v := ⟨_, rfl⟩
      rw [← hD] at HB5 HI HSZ
      have HD := Aside0.mk hD
      clear hD
      go_wp2_with (first | ((with_reducible refine gate_load (ty := 59) rfl ?_); refine load_at rfl 59 _ rfl (w.heap.size + 1) 0 rfl (nums .u8 D) _ (HB5.out.range 0 _ [] (by simp)) Tryd.underlying59 rfl HI.out ?_) | ((with_reducible refine gate_store (ty := 59) rfl ?_); (refine store_at rfl 59 _ _ rfl w.heap.size (nums .u8 D) rfl rfl _ 59 HB4.out HSZ.out HI.out (one_cells _ _) ?_)) | fail)
      intro wf hWf hBf
      have HEF := Aside0.mk (hWf.ext HE.out (Nat.le_refl _))
      have HBf := Aside0.mk hBf
      clear hWf hBf HE HB4 HB5
      go_wp2_with fail
      (try simp only [Exit.inBlock, Exit.then])
      refine bodyPost_ret (results_cell_row rfl _ _ w.heap.size 59 (nums .u8 D).toArray (0, 0) _ rfl HBf.out.is Tryd.underlying59 rfl (by simpa using HI.out)) rfl ?_
      rw [← HD.out]
      exact ⟨rfl, HEF.out⟩

set_option maxRecDepth 100000 in
set_option maxHeartbeats 16000000 in
theorem blockof_long (w : World) (A : Option Addr) (c n : Nat) (k : List Int) (v : Int) (hT1 : Tab 1 w) (h2 : 2 ≤ w.heap.size) (hn : n = k.length) (hr : Kd.C kb w A n k) (hc : n ≤ c) (hs : 64 < n) (hl : n ≤ 1099511627776) :
    Calls Tryd.prog 39 #[.slice A n c, .int .u8 v] w fun e w' => e = .returned (.agg (nums .u8 (blockF k v)).toArray) ∧ Ext w w' := by
  have hs1 : (w.alloc (.cells #[Value.int .u8 0, Value.int .u8 0, Value.int .u8 0, Value.int .u8 0, Value.int .u8 0, Value.int .u8 0, Value.int .u8 0, Value.int .u8 0, Value.int .u8 0, Value.int .u8 0, Value.int .u8 0, Value.int .u8 0, Value.int .u8 0, Value.int .u8 0, Value.int .u8 0, Value.int .u8 0, Value.int .u8 0, Value.int .u8 0, Value.int .u8 0, Value.int .u8 0, Value.int .u8 0, Value.int .u8 0, Value.int .u8 0, Value.int .u8 0, Value.int .u8 0, Value.int .u8 0, Value.int .u8 0, Value.int .u8 0, Value.int .u8 0, Value.int .u8 0, Value.int .u8 0, Value.int .u8 0, Value.int .u8 0, Value.int .u8 0, Value.int .u8 0, Value.int .u8 0, Value.int .u8 0, Value.int .u8 0, Value.int .u8 0, Value.int .u8 0, Value.int .u8 0, Value.int .u8 0, Value.int .u8 0, Value.int .u8 0, Value.int .u8 0, Value.int .u8 0, Value.int .u8 0, Value.int .u8 0, Value.int .u8 0, Value.int .u8 0, Value.int .u8 0, Value.int .u8 0, Value.int .u8 0, Value.int .u8 0, Value.int .u8 0, Value.int .u8 0, Value.int .u8 0, Value.int .u8 0, Value.int .u8 0, Value.int .u8 0, Value.int .u8 0, Value.int .u8 0, Value.int .u8 0, Value.int .u8 0] 59)).heap.size = w.heap.size + 1 := size_alloc _ _
  have hk5 := Blk.new (w.alloc (.cells #[Value.int .u8 0, Value.int .u8 0, Value.int .u8 0, Value.int .u8 0, Value.int .u8 0, Value.int .u8 0, Value.int .u8 0, Value.int .u8 0, Value.int .u8 0, Value.int .u8 0, Value.int .u8 0, Value.int .u8 0, Value.int .u8 0, Value.int .u8 0, Value.int .u8 0, Value.int .u8 0, Value.int .u8 0, Value.int .u8 0, Value.int .u8 0, Value.int .u8 0, Value.int .u8 0, Value.int .u8 0, Value.int .u8 0, Value.int .u8 0, Value.int .u8 0, Value.int .u8 0, Value.int .u8 0, Value.int .u8 0, Value.int .u8 0, Value.int .u8 0, Value.int .u8 0, Value.int .u8 0, Value.int .u8 0, Value.int .u8 0, Value.int .u8 0, Value.int .u8 0, Value.int .u8 0, Value.int .u8 0, Value.int .u8 0, Value.int .u8 0, Value.int .u8 0, Value.int .u8 0, Value.int .u8 0, Value.int .u8 0, Value.int .u8 0, Value.int .u8 0, Value.int .u8 0, Value.int .u8 0, Value.int .u8 0, Value.int .u8 0, Value.int .u8 0, Value.int .u8 0, Value.int .u8 0, Value.int .u8 0, Value.int .u8 0, Value.int .u8 0, Value.int .u8 0, Value.int .u8 0, Value.int .u8 0, Value.int .u8 0, Value.int .u8 0, Value.int .u8 0, Value.int .u8 0, Value.int .u8 0] 59)) #[Value.int .u8 0, Value.int .u8 0, Value.int .u8 0, Value.int .u8 0, Value.int .u8 0, Value.int .u8 0, Value.int .u8 0, Value.int .u8 0, Value.int .u8 0, Value.int .u8 0, Value.int .u8 0, Value.int .u8 0, Value.int .u8 0, Value.int .u8 0, Value.int .u8 0, Value.int .u8 0, Value.int .u8 0, Value.int .u8 0, Value.int .u8 0, Value.int .u8 0, Value.int .u8 0, Value.int .u8 0, Value.int .u8 0, Value.int .u8 0, Value.int .u8 0, Value.int .u8 0, Value.int .u8 0, Value.int .u8 0, Value.int .u8 0, Value.int .u8 0, Value.int .u8 0, Value.int .u8 0, Value.int .u8 0, Value.int .u8 0, Value.int .u8 0, Value.int .u8 0, Value.int .u8 0, Value.int .u8 0, Value.int .u8 0, Value.int .u8 0, Value.int .u8 0, Value.int .u8 0, Value.int .u8 0, Value.int .u8 0, Value.int .u8 0, Value.int .u8 0, Value.int .u8 0, Value.int .u8 0, Value.int .u8 0, Value.int .u8 0, Value.int .u8 0, Value.int .u8 0, Value.int .u8 0, Value.int .u8 0, Value.int .u8 0, Value.int .u8 0, Value.int .u8 0, Value.int .u8 0, Value.int .u8 0, Value.int .u8 0, Value.int .u8 0, Value.int .u8 0, Value.int .u8 0, Value.int .u8 0] 59
  rw [hs1] at hk5
  have HB5 := Aside0.mk (show Blk ((w.alloc (.cells #[Value.int .u8 0, Value.int .u8 0, Value.int .u8 0, Value.int .u8 0, Value.int .u8 0, Value.int .u8 0, Value.int .u8 0, Value.int .u8 0, Value.int .u8 0, Value.int .u8 0, Value.int .u8 0, Value.int .u8 0, Value.int .u8 0, Value.int .u8 0, Value.int .u8 0, Value.int .u8 0, Value.int .u8 0, Value.int .u8 0, Value.int .u8 0, Value.int .u8 0, Value.int .u8 0, Value.int .u8 0, Value.int .u8 0, Value.int .u8 0, Value.int .u8 0, Value.int .u8 0, Value.int .u8 0, Value.int .u8 0, Value.int .u8 0, Value.int .u8 0, Value.int .u8 0, Value.int .u8 0, Value.int .u8 0, Value.int .u8 0, Value.int .u8 0, Value.int .u8 0, Value.int .u8 0, Value.int .u8 0, Value.int .u8 0, Value.int .u8 0, Value.int .u8 0, Value.int .u8 0, Value.int .u8 0, Value.int .u8 0, Value.int .u8 0, Value.int .u8 0, Value.int .u8 0, Value.int .u8 0, Value.int .u8 0, Value.int .u8 0, Value.int .u8 0, Value.int .u8 0, Value.int .u8 0, Value.int .u8 0, Value.int .u8 0, Value.int .u8 0, Value.int .u8 0, Value.int .u8 0, Value.int .u8 0, Value.int .u8 0, Value.int .u8 0, Value.int .u8 0, Value.int .u8 0, Value.int .u8 0] 59)).alloc (.cells #[Value.int .u8 0, Value.int .u8 0, Value.int .u8 0, Value.int .u8 0, Value.int .u8 0, Value.int .u8 0, Value.int .u8 0, Value.int .u8 0, Value.int .u8 0, Value.int .u8 0, Value.int .u8 0, Value.int .u8 0, Value.int .u8 0, Value.int .u8 0, Value.int .u8 0, Value.int .u8 0, Value.int .u8 0, Value.int .u8 0, Value.int .u8 0, Value.int .u8 0, Value.int .u8 0, Value.int .u8 0, Value.int .u8 0, Value.int .u8 0, Value.int .u8 0, Value.int .u8 0, Value.int .u8 0, Value.int .u8 0, Value.int .u8 0, Value.int .u8 0, Value.int .u8 0, Value.int .u8 0, Value.int .u8 0, Value.int .u8 0, Value.int .u8 0, Value.int .u8 0, Value.int .u8 0, Value.int .u8 0, Value.int .u8 0, Value.int .u8 0, Value.int .u8 0, Value.int .u8 0, Value.int .u8 0, Value.int .u8 0, Value.int .u8 0, Value.int .u8 0, Value.int .u8 0, Value.int .u8 0, Value.int .u8 0, Value.int .u8 0, Value.int .u8 0, Value.int .u8 0, Value.int .u8 0, Value.int .u8 0, Value.int .u8 0, Value.int .u8 0, Value.int .u8 0, Value.int .u8 0, Value.int .u8 0, Value.int .u8 0, Value.int .u8 0, Value.int .u8 0, Value.int .u8 0, Value.int .u8 0] 59)) (w.heap.size + 1) (nums .u8 (List.replicate 64 0)).toArray 59 from hk5)
  have HB4 := Aside0.mk (show Blk ((w.alloc (.cells #[Value.int .u8 0, Value.int .u8 0, Value.int .u8 0, Value.int .u8 0, Value.int .u8 0, Value.int .u8 0, Value.int .u8 0, Value.int .u8 0, Value.int .u8 0, Value.int .u8 0, Value.int .u8 0, Value.int .u8 0, Value.int .u8 0, Value.int .u8 0, Value.int .u8 0, Value.int .u8 0, Value.int .u8 0, Value.int .u8 0, Value.int .u8 0, Value.int .u8 0, Value.int .u8 0, Value.int .u8 0, Value.int .u8 0, Value.int .u8 0, Value.int .u8 0, Value.int .u8 0, Value.int .u8 0, Value.int .u8 0, Value.int .u8 0, Value.int .u8 0, Value.int .u8 0, Value.int .u8 0, Value.int .u8 0, Value.int .u8 0, Value.int .u8 0, Value.int .u8 0, Value.int .u8 0, Value.int .u8 0, Value.int .u8 0, Value.int .u8 0, Value.int .u8 0, Value.int .u8 0, Value.int .u8 0, Value.int .u8 0, Value.int .u8 0, Value.int .u8 0, Value.int .u8 0, Value.int .u8 0, Value.int .u8 0, Value.int .u8 0, Value.int .u8 0, Value.int .u8 0, Value.int .u8 0, Value.int .u8 0, Value.int .u8 0, Value.int .u8 0, Value.int .u8 0, Value.int .u8 0, Value.int .u8 0, Value.int .u8 0, Value.int .u8 0, Value.int .u8 0, Value.int .u8 0, Value.int .u8 0] 59)).alloc (.cells #[Value.int .u8 0, Value.int .u8 0, Value.int .u8 0, Value.int .u8 0, Value.int .u8 0, Value.int .u8 0, Value.int .u8 0, Value.int .u8 0, Value.int .u8 0, Value.int .u8 0, Value.int .u8 0, Value.int .u8 0, Value.int .u8 0, Value.int .u8 0, Value.int .u8 0, Value.int .u8 0, Value.int .u8 0, Value.int .u8 0, Value.int .u8 0, Value.int .u8 0, Value.int .u8 0, Value.int .u8 0, Value.int .u8 0, Value.int .u8 0, Value.int .u8 0, Value.int .u8 0, Value.int .u8 0, Value.int .u8 0, Value.int .u8 0, Value.int .u8 0, Value.int .u8 0, Value.int .u8 0, Value.int .u8 0, Value.int .u8 0, Value.int .u8 0, Value.int .u8 0, Value.int .u8 0, Value.int .u8 0, Value.int .u8 0, Value.int .u8 0, Value.int .u8 0, Value.int .u8 0, Value.int .u8 0, Value.int .u8 0, Value.int .u8 0, Value.int .u8 0, Value.int .u8 0, Value.int .u8 0, Value.int .u8 0, Value.int .u8 0, Value.int .u8 0, Value.int .u8 0, Value.int .u8 0, Value.int .u8 0, Value.int .u8 0, Value.int .u8 0, Value.int .u8 0, Value.int .u8 0, Value.int .u8 0, Value.int .u8 0, Value.int .u8 0, Value.int .u8 0, Value.int .u8 0, Value.int .u8 0] 59)) w.heap.size (nums .u8 (List.replicate 64 0)).toArray 59 from (Blk.new w _ 59).alloc _)
  have HE := Aside0.mk (((Ext.refl w).alloc (.cells #[Value.int .u8 0, Value.int .u8 0, Value.int .u8 0, Value.int .u8 0, Value.int .u8 0, Value.int .u8 0, Value.int .u8 0, Value.int .u8 0, Value.int .u8 0, Value.int .u8 0, Value.int .u8 0, Value.int .u8 0, Value.int .u8 0, Value.int .u8 0, Value.int .u8 0, Value.int .u8 0, Value.int .u8 0, Value.int .u8 0, Value.int .u8 0, Value.int .u8 0, Value.int .u8 0, Value.int .u8 0, Value.int .u8 0, Value.int .u8 0, Value.int .u8 0, Value.int .u8 0, Value.int .u8 0, Value.int .u8 0, Value.int .u8 0, Value.int .u8 0, Value.int .u8 0, Value.int .u8 0, Value.int .u8 0, Value.int .u8 0, Value.int .u8 0, Value.int .u8 0, Value.int .u8 0, Value.int .u8 0, Value.int .u8 0, Value.int .u8 0, Value.int .u8 0, Value.int .u8 0, Value.int .u8 0, Value.int .u8 0, Value.int .u8 0, Value.int .u8 0, Value.int .u8 0, Value.int .u8 0, Value.int .u8 0, Value.int .u8 0, Value.int .u8 0, Value.int .u8 0, Value.int .u8 0, Value.int .u8 0, Value.int .u8 0, Value.int .u8 0, Value.int .u8 0, Value.int .u8 0, Value.int .u8 0, Value.int .u8 0, Value.int .u8 0, Value.int .u8 0, Value.int .u8 0, Value.int .u8 0] 59)).alloc (.cells #[Value.int .u8 0, Value.int .u8 0, Value.int .u8 0, Value.int .u8 0, Value.int .u8 0, Value.int .u8 0, Value.int .u8 0, Value.int .u8 0, Value.int .u8 0, Value.int .u8 0, Value.int .u8 0, Value.int .u8 0, Value.int .u8 0, Value.int .u8 0, Value.int .u8 0, Value.int .u8 0, Value.int .u8 0, Value.int .u8 0, Value.int .u8 0, Value.int .u8 0, Value.int .u8 0, Value.int .u8 0, Value.int .u8 0, Value.int .u8 0, Value.int .u8 0, Value.int .u8 0, Value.int .u8 0, Value.int .u8 0, Value.int .u8 0, Value.int .u8 0, Value.int .u8 0, Value.int .u8 0, Value.int .u8 0, Value.int .u8 0, Value.int .u8 0, Value.int .u8 0, Value.int .u8 0, Value.int .u8 0, Value.int .u8 0, Value.int .u8 0, Value.int .u8 0, Value.int .u8 0, Value.int .u8 0, Value.int .u8 0, Value.int .u8 0, Value.int .u8 0, Value.int .u8 0, Value.int .u8 0, Value.int .u8 0, Value.int .u8 0, Value.int .u8 0, Value.int .u8 0, Value.int .u8 0, Value.int .u8 0, Value.int .u8 0, Value.int .u8 0, Value.int .u8 0, Value.int .u8 0, Value.int .u8 0, Value.int .u8 0, Value.int .u8 0, Value.int .u8 0, Value.int .u8 0, Value.int .u8 0] 59))
  have HC := Aside0.mk (Kd.C_below hr HE.out)
  have HN := Aside0.mk hn
  have hz : ((64 : Int) < (n : Int)) = True := eq_true (by omega)
  have HT := Aside0.mk (hT1.ext HE.out)
  have H2 := Aside0.mk (show 2 ≤ ((w.alloc (.cells #[Value.int .u8 0, Value.int .u8 0, Value.int .u8 0, Value.int .u8 0, Value.int .u8 0, Value.int .u8 0, Value.int .u8 0, Value.int .u8 0, Value.int .u8 0, Value.int .u8 0, Value.int .u8 0, Value.int .u8 0, Value.int .u8 0, Value.int .u8 0, Value.int .u8 0, Value.int .u8 0, Value.int .u8 0, Value.int .u8 0, Value.int .u8 0, Value.int .u8 0, Value.int .u8 0, Value.int .u8 0, Value.int .u8 0, Value.int .u8 0, Value.int .u8 0, Value.int .u8 0, Value.int .u8 0, Value.int .u8 0, Value.int .u8 0, Value.int .u8 0, Value.int .u8 0, Value.int .u8 0, Value.int .u8 0, Value.int .u8 0, Value.int .u8 0, Value.int .u8 0, Value.int .u8 0, Value.int .u8 0, Value.int .u8 0, Value.int .u8 0, Value.int .u8 0, Value.int .u8 0, Value.int .u8 0, Value.int .u8 0, Value.int .u8 0, Value.int .u8 0, Value.int .u8 0, Value.int .u8 0, Value.int .u8 0, Value.int .u8 0, Value.int .u8 0, Value.int .u8 0, Value.int .u8 0, Value.int .u8 0, Value.int .u8 0, Value.int .u8 0, Value.int .u8 0, Value.int .u8 0, Value.int .u8 0, Value.int .u8 0, Value.int .u8 0, Value.int .u8 0, Value.int .u8 0, Value.int .u8 0] 59)).alloc (.cells #[Value.int .u8 0, Value.int .u8 0, Value.int .u8 0, Value.int .u8 0, Value.int .u8 0, Value.int .u8 0, Value.int .u8 0, Value.int .u8 0, Value.int .u8 0, Value.int .u8 0, Value.int .u8 0, Value.int .u8 0, Value.int .u8 0, Value.int .u8 0, Value.int .u8 0, Value.int .u8 0, Value.int .u8 0, Value.int .u8 0, Value.int .u8 0, Value.int .u8 0, Value.int .u8 0, Value.int .u8 0, Value.int .u8 0, Value.int .u8 0, Value.int .u8 0, Value.int .u8 0, Value.int .u8 0, Value.int .u8 0, Value.int .u8 0, Value.int .u8 0, Value.int .u8 0, Value.int .u8 0, Value.int .u8 0, Value.int .u8 0, Value.int .u8 0, Value.int .u8 0, Value.int .u8 0, Value.int .u8 0, Value.int .u8 0, Value.int .u8 0, Value.int .u8 0, Value.int .u8 0, Value.int .u8 0, Value.int .u8 0, Value.int .u8 0, Value.int .u8 0, Value.int .u8 0, Value.int .u8 0, Value.int .u8 0, Value.int .u8 0, Value.int .u8 0, Value.int .u8 0, Value.int .u8 0, Value.int .u8 0, Value.int .u8 0, Value.int .u8 0, Value.int .u8 0, Value.int .u8 0, Value.int .u8 0, Value.int .u8 0, Value.int .u8 0, Value.int .u8 0, Value.int .u8 0, Value.int .u8 0] 59)).heap.size from Nat.le_trans h2 HE.out.size)
  obtain ⟨D, hD⟩ : ∃ D, D = shaF k := ⟨_, rfl⟩
  have HDS := Aside0.mk hD
  have HDL := Aside0.mk (show D.length = 32 by rw [hD, sha_len])
  clear hT1 h2 hD
  clear hs1 hk5 hr hn
  go_enter Tryd.func39, Tryd.ntmps39
  go_wp2_with fail
  refine (of_calls _ A c n k HN.out HT.out HC.out hc hl H2.out).mono ?_
  rintro e w1 ⟨rfl, hE1⟩
  rw [← HDS.out]
  have HB51 := Aside0.mk (HB5.out.ext hE1)
  have HB41 := Aside0.mk (HB4.out.ext hE1)
  have HE1 := Aside0.mk (HE.out.trans hE1)
  have HI26 := Aside0.mk (show (Tryd.prog.info? 26).map (·.size) = some (nums .u8 D).length by rw [nums_length, HDL.out]; kernel_rfl)
  have HSZ26 := Aside0.mk (show (nums .u8 zs).toArray.size = (nums .u8 D).length by rw [nums_length, HDL.out]; rfl)
  clear hE1 HB5 HB4 HE HC HT H2 hz
  go_wp2_with (first | ((with_reducible refine gate_store (ty := 26) rfl ?_); (refine store_at rfl 26 _ _ rfl w1.heap.size (nums .u8 D) rfl rfl _ 26 (Blk.new w1 #[Value.int .u8 0, Value.int .u8 0, Value.int .u8 0, Value.int .u8 0, Value.int .u8 0, Value.int .u8 0, Value.int .u8 0, Value.int .u8 0, Value.int .u8 0, Value.int .u8 0, Value.int .u8 0, Value.int .u8 0, Value.int .u8 0, Value.int .u8 0, Value.int .u8 0, Value.int .u8 0, Value.int .u8 0, Value.int .u8 0, Value.int .u8 0, Value.int .u8 0, Value.int .u8 0, Value.int .u8 0, Value.int .u8 0, Value.int .u8 0, Value.int .u8 0, Value.int .u8 0, Value.int .u8 0, Value.int .u8 0, Value.int .u8 0, Value.int .u8 0, Value.int .u8 0, Value.int .u8 0] 26) HSZ26.out HI26.out (one_cells _ _) ?_)) | fail)
  intro w2 hW2 hB2
  have hx2 := hW2.ext ((Ext.refl w1).alloc _) (Nat.le_refl _)
  have HB5 := Aside0.mk (HB51.out.ext hx2)
  have HB4 := Aside0.mk (HB41.out.ext hx2)
  have HE := Aside0.mk (HE1.out.trans hx2)
  have HCD := Aside0.mk (show Kd.C kb w2 (some ⟨w1.heap.size, 0, none⟩) 32 D by have h := C_of_blk hB2 (by rw [HDL.out]; decide); rwa [HDL.out] at h)
  clear hW2 hB2 hx2 HB51 HB41 HE1
  go_wp2_with fail
  apply wp_region_facts 2 [RF.val (.slice (some ⟨w.heap.size + 1, 0, none⟩) 64 64), RF.val (.slice (some ⟨w1.heap.size, 0, none⟩) 32 32)] (by kernel_rfl) (by kernel_rfl)
  simp only [List.take_succ_cons, List.take_zero, List.zip_cons_cons, List.zip_nil_left]
  (first | apply wpF_val rfl | apply wpF_valg (by rfl)); (intro w' hE hD; unfold Yld; go_simp; exact ⟨Ext.refl _, rfl⟩); (try simp only [Act.put, List.setIfInBounds_toArray, List.set_cons_zero, List.set_cons_succ])
  (first | apply wpF_val rfl | apply wpF_valg (by rfl)); (intro w' hE hD; unfold Yld; go_simp; exact ⟨Ext.refl _, rfl⟩); (try simp only [Act.put, List.setIfInBounds_toArray, List.set_cons_zero, List.set_cons_succ])
  refine wpF_nil fun w2b hEb hA => ?_
  have HB5 := Aside0.mk (HB5.out.ext hEb)
  have HB4 := Aside0.mk (HB4.out.ext hEb)
  have HE := Aside0.mk (HE.out.trans hEb)
  have HCD := Aside0.mk (Kd.C_below HCD.out hEb)
  clear hA hEb
  simp only [List.drop_succ_cons, List.drop_zero]
  go_wp2_with (first | ((with_reducible refine gate_builtin (b := .copy) (xs := #[.tmp 13, .tmp 14]) rfl ?_); go_loud (refine copy_at rfl (.tmp 13) (.tmp 14) rfl (w.heap.size + 1) 64 (some ⟨w1.heap.size, 0, none⟩) 32 32 D (List.replicate 64 0) 59 rfl rfl HB5.out HCD.out (by rw [List.length_replicate]; decide) (by rw [List.length_replicate]) ?_)) | fail)
  intro w3 hW3 hB3
  obtain ⟨L, hL⟩ : ∃ L, L = upto 64 (keyF k) := ⟨_, rfl⟩
  have hkk : keyF k = D := by unfold keyF; rw [if_pos (by rw [← HN.out]; omega), HDS.out]
  have hLe : D ++ (List.replicate 64 0).drop 32 = L := by
    rw [hL, hkk]; unfold upto; rw [List.drop_replicate, HDL.out]
  replace hB3 : Blk w3 (w.heap.size + 1) (nums .u8 (D ++ (List.replicate 64 0).drop 32)).toArray 59 := hB3
  rw [hLe] at hB3
  have HLL := Aside0.mk (show L.length = 64 by rw [hL, upto_length 64 _ (keyF_len k)])
  have HBF := Aside0.mk (show part (xorF v) L 64 = blockF k v by
    unfold part blockF; rw [List.take_of_length_le (by rw [HLL.out]; exact Nat.le_refl _), List.drop_eq_nil_of_le (by rw [HLL.out]; exact Nat.le_refl _), List.append_nil, hL])
  have HB5' := Aside0.mk (show Blk w3 (w.heap.size + 1) (nums .u8 (part (xorF v) L 0)).toArray 59 by unfold part; simpa using hB3)
  have HB4' := Aside0.mk (HB4.out.wrote hW3 (by omega))
  have HE' := Aside0.mk (hW3.ext HE.out (Nat.le_succ _))
  clear hW3 hB3 HB5 HB4 HE HCD hL hkk hLe
  go_wp2_with fail
  go_loopw [19] (fun i wr => ∃ x : Nat, i = .int .i64 x ∧ Aside0 (x ≤ 64) ∧ Aside0 (Blk wr (w.heap.size + 1) (nums .u8 (part (xorF v) L x)).toArray 59) ∧ Aside0 (Blk wr w.heap.size (nums .u8 (List.replicate 64 0)).toArray 59) ∧ Aside0 (Ext w wr)) (fun i _ => 64 - (intOf i).toNat)
  case atStart => exact ⟨0, rfl, ⟨Nat.zero_le _⟩, HB5', HB4', HE'⟩
  case round =>
    clear HB5' HB4' HE'
    obtain ⟨x, rfl, HX, HB5, HB4, HE⟩ := hrel
    have hx := HX.out
    obtain ⟨wx, hwx⟩ : ∃ wx : World, wx = wr := ⟨_, rfl⟩
    subst hwx
    by_cases hlt : x < 64
    · have hz : ((x : Int) < 64) = True := eq_true (by omega)
      have HLT := Aside0.mk hlt
      have hcl := HB5.out.cell x (part_at (xorF v) L x (by rw [HLL.out]; exact hlt))
      have hfr := HB5.out.free x
      have hst := HB5.out.set x (.int .u8 (xorF v (rd L x)))
      rw [part_set (xorF v) L x (by rw [HLL.out]; exact hlt)] at hst
      have hw := Wrote.setCell wx (w.heap.size + 1) x (.int .u8 (xorF v (rd L x)))
      have HB4n := Aside0.mk (HB4.out.wrote hw (by omega))
      have HEn := Aside0.mk (hw.ext HE.out (Nat.le_succ _))
      unfold xorF at hst HB4n HEn
      have HST := Aside0.mk hst
      clear hst hw HB5 HB4 HE
      go_wp2_with fail
      go_roundw
      case rel => exact ⟨x + 1, by congr 1, ⟨HLT.out⟩, HST, HB4n, HEn⟩
      case measure => have := HLT.out; simp only [intOf]; omega
    · have hxe : x = 64 := by omega
      subst hxe
      rw [HBF.out] at HB5
      have HI := Aside0.mk (show (Tryd.prog.info? 59).map (·.size) = some (nums .u8 (blockF k v)).length by rw [nums_length, blockF_len]; kernel_rfl)
      have HSZ := Aside0.mk (show (nums .u8 (List.replicate 64 0)).toArray.size = (nums .u8 (blockF k v)).length by rw [nums_length, blockF_len]; rfl)
      clear hlt hx HX
      obtain ⟨F, hF⟩ : ∃ F, F = blockF k v := ⟨_, rfl⟩
      rw [← hF] at HB5 HI HSZ
      have HD := Aside0.mk hF
      clear hF
      go_wp2_with (first | ((with_reducible refine gate_load (ty := 59) rfl ?_); refine load_at rfl 59 _ rfl (w.heap.size + 1) 0 rfl (nums .u8 F) _ (HB5.out.range 0 _ [] (by simp)) Tryd.underlying59 rfl HI.out ?_) | ((with_reducible refine gate_store (ty := 59) rfl ?_); (refine store_at rfl 59 _ _ rfl w.heap.size (nums .u8 F) rfl rfl _ 59 HB4.out HSZ.out HI.out (one_cells _ _) ?_)) | fail)
      intro wf hWf hBf
      have HEF := Aside0.mk (hWf.ext HE.out (Nat.le_refl _))
      have HBf := Aside0.mk hBf
      clear hWf hBf HE HB4 HB5
      go_wp2_with fail
      (try simp only [Exit.inBlock, Exit.then])
      refine bodyPost_ret (results_cell_row rfl _ _ w.heap.size 59 (nums .u8 F).toArray (0, 0) _ rfl HBf.out.is Tryd.underlying59 rfl (by simpa using HI.out)) rfl ?_
      rw [← HD.out]
      exact ⟨rfl, HEF.out⟩
theorem blockof_calls (w : World) (A : Option Addr) (c n : Nat) (k : List Int) (v : Int) (hT1 : Tab 1 w) (h2 : 2 ≤ w.heap.size) (hn : n = k.length) (hr : Kd.C kb w A n k) (hc : n ≤ c) (hl : n ≤ 1099511627776) :
    Calls Tryd.prog 39 #[.slice A n c, .int .u8 v] w fun e w' => e = .returned (.agg (nums .u8 (blockF k v)).toArray) ∧ Ext w w' := by
  rcases Nat.lt_or_ge 64 n with h | h
  · exact blockof_long w A c n k v hT1 h2 hn hr hc h hl
  · exact blockof_short w A c n k v hn hr hc h
end Go.Proofs.YtbnbncnmhhioeaaDoor.By

/- A sum under a key: mac.Of. -/
namespace Go.Proofs.YtbnbncnmhhioeaaDoor.By
open Go.RowKit Go.Proofs.YtbnbncnmhhioeaaDoor.Reg Go.Proofs.YtbnbncnmhhioeaaDoorW.PrintWords Go.Proofs.YtbnbncnmhhioeaaDoorW.PrintLast Go.Proofs.YtbnbncnmhhioeaaDoorW.PrintMore
set_option linter.unusedVariables false

set_option maxRecDepth 100000 in
set_option maxHeartbeats 16000000 in
theorem mac_calls (w : World) (A B : Option Addr) (c d n m : Nat) (k t : List Int) (hT1 : Tab 1 w) (h2 : 2 ≤ w.heap.size) (hn : n = k.length) (hr : Kd.C kb w A n k) (hc : n ≤ c) (hl : n ≤ 1000000) (hm : m = t.length) (hr' : Kd.C kb w B m t) (hc' : m ≤ d) (hl' : m ≤ 1000000) :
    Calls Tryd.prog 26 #[.slice A n c, .slice B m d] w fun e w' => e = .returned (sumV (macF k t)) ∧ Ext w w' := by
  have HK := Aside0.mk (show Blk (w.alloc (.cells #[Value.int .u8 0, Value.int .u8 0, Value.int .u8 0, Value.int .u8 0, Value.int .u8 0, Value.int .u8 0, Value.int .u8 0, Value.int .u8 0, Value.int .u8 0, Value.int .u8 0, Value.int .u8 0, Value.int .u8 0, Value.int .u8 0, Value.int .u8 0, Value.int .u8 0, Value.int .u8 0, Value.int .u8 0, Value.int .u8 0, Value.int .u8 0, Value.int .u8 0, Value.int .u8 0, Value.int .u8 0, Value.int .u8 0, Value.int .u8 0, Value.int .u8 0, Value.int .u8 0, Value.int .u8 0, Value.int .u8 0, Value.int .u8 0, Value.int .u8 0, Value.int .u8 0, Value.int .u8 0] 26)) w.heap.size (nums .u8 zs).toArray 26 from Blk.new w _ 26)
  have HE := Aside0.mk ((Ext.refl w).alloc (.cells #[Value.int .u8 0, Value.int .u8 0, Value.int .u8 0, Value.int .u8 0, Value.int .u8 0, Value.int .u8 0, Value.int .u8 0, Value.int .u8 0, Value.int .u8 0, Value.int .u8 0, Value.int .u8 0, Value.int .u8 0, Value.int .u8 0, Value.int .u8 0, Value.int .u8 0, Value.int .u8 0, Value.int .u8 0, Value.int .u8 0, Value.int .u8 0, Value.int .u8 0, Value.int .u8 0, Value.int .u8 0, Value.int .u8 0, Value.int .u8 0, Value.int .u8 0, Value.int .u8 0, Value.int .u8 0, Value.int .u8 0, Value.int .u8 0, Value.int .u8 0, Value.int .u8 0, Value.int .u8 0] 26))
  have HR := Aside0.mk hr
  have HR' := Aside0.mk hr'
  have HT := Aside0.mk hT1
  have H2 := Aside0.mk h2
  have HN := Aside0.mk hn
  have HM := Aside0.mk hm
  obtain ⟨K1, hK1⟩ : ∃ K1, K1 = blockF k 54 := ⟨_, rfl⟩
  obtain ⟨K2, hK2⟩ : ∃ K2, K2 = blockF k 92 := ⟨_, rfl⟩
  obtain ⟨I, hI⟩ : ∃ I, I = shaF (K1 ++ t) := ⟨_, rfl⟩
  obtain ⟨D, hD⟩ : ∃ D, D = shaF (K2 ++ I) := ⟨_, rfl⟩
  have HK1 := Aside0.mk hK1
  have HK2 := Aside0.mk hK2
  have HI := Aside0.mk hI
  have HD := Aside0.mk hD
  have HDM := Aside0.mk (show macF k t = D by rw [hD, hI, hK1, hK2]; rfl)
  have l1 : K1.length = 64 := by rw [hK1, blockF_len]
  have l2 : K2.length = 64 := by rw [hK2, blockF_len]
  have l3 : I.length = 32 := by rw [hI, sha_len]
  have l4 : D.length = 32 := by rw [hD, sha_len]
  have HL := Aside0.mk (And.intro l1 (And.intro l2 (And.intro l3 l4)))
  have HS1 := Aside0.mk (show (Tryd.prog.info? 59).map (·.size) = some (nums .u8 K1).length by rw [nums_length, l1]; kernel_rfl)
  have HS2 := Aside0.mk (show (Tryd.prog.info? 59).map (·.size) = some (nums .u8 K2).length by rw [nums_length, l2]; kernel_rfl)
  have HS3 := Aside0.mk (show (Tryd.prog.info? 26).map (·.size) = some (nums .u8 I).length by rw [nums_length, l3]; kernel_rfl)
  have HS4 := Aside0.mk (show (Tryd.prog.info? 26).map (·.size) = some (nums .u8 D).length by rw [nums_length, l4]; kernel_rfl)
  clear hr hr' hT1 h2 hn hm hK1 hK2 hI hD
  go_enter Tryd.func26, Tryd.ntmps26
  go_wp2_with fail
  refine (blockof_calls _ A c n k 54 (HT.out.ext HE.out) (Nat.le_trans H2.out HE.out.size) HN.out (Kd.C_below HR.out HE.out) hc (by omega)).mono ?_
  rintro e w1 ⟨rfl, hE1⟩
  rw [← HK1.out]
  have HE1 := Aside0.mk (HE.out.trans hE1)
  have HKa := Aside0.mk (HK.out.ext hE1)
  clear hE1 HE HK
  go_wp2_with fail
  refine (blockof_calls _ A c n k 92 (HT.out.ext HE1.out) (Nat.le_trans H2.out HE1.out.size) HN.out (Kd.C_below HR.out HE1.out) hc (by omega)).mono ?_
  rintro e w2 ⟨rfl, hE2⟩
  rw [← HK2.out]
  have HE2 := Aside0.mk (HE1.out.trans hE2)
  have HKb := Aside0.mk (HKa.out.ext hE2)
  clear hE2 HE1 HKa
  have hs1 : (w2.alloc (.cells #[Value.int .u8 0, Value.int .u8 0, Value.int .u8 0, Value.int .u8 0, Value.int .u8 0, Value.int .u8 0, Value.int .u8 0, Value.int .u8 0, Value.int .u8 0, Value.int .u8 0, Value.int .u8 0, Value.int .u8 0, Value.int .u8 0, Value.int .u8 0, Value.int .u8 0, Value.int .u8 0, Value.int .u8 0, Value.int .u8 0, Value.int .u8 0, Value.int .u8 0, Value.int .u8 0, Value.int .u8 0, Value.int .u8 0, Value.int .u8 0, Value.int .u8 0, Value.int .u8 0, Value.int .u8 0, Value.int .u8 0, Value.int .u8 0, Value.int .u8 0, Value.int .u8 0, Value.int .u8 0, Value.int .u8 0, Value.int .u8 0, Value.int .u8 0, Value.int .u8 0, Value.int .u8 0, Value.int .u8 0, Value.int .u8 0, Value.int .u8 0, Value.int .u8 0, Value.int .u8 0, Value.int .u8 0, Value.int .u8 0, Value.int .u8 0, Value.int .u8 0, Value.int .u8 0, Value.int .u8 0, Value.int .u8 0, Value.int .u8 0, Value.int .u8 0, Value.int .u8 0, Value.int .u8 0, Value.int .u8 0, Value.int .u8 0, Value.int .u8 0, Value.int .u8 0, Value.int .u8 0, Value.int .u8 0, Value.int .u8 0, Value.int .u8 0, Value.int .u8 0, Value.int .u8 0, Value.int .u8 0] 59)).heap.size = w2.heap.size + 1 := size_alloc _ _
  have hk6 := Blk.new (w2.alloc (.cells #[Value.int .u8 0, Value.int .u8 0, Value.int .u8 0, Value.int .u8 0, Value.int .u8 0, Value.int .u8 0, Value.int .u8 0, Value.int .u8 0, Value.int .u8 0, Value.int .u8 0, Value.int .u8 0, Value.int .u8 0, Value.int .u8 0, Value.int .u8 0, Value.int .u8 0, Value.int .u8 0, Value.int .u8 0, Value.int .u8 0, Value.int .u8 0, Value.int .u8 0, Value.int .u8 0, Value.int .u8 0, Value.int .u8 0, Value.int .u8 0, Value.int .u8 0, Value.int .u8 0, Value.int .u8 0, Value.int .u8 0, Value.int .u8 0, Value.int .u8 0, Value.int .u8 0, Value.int .u8 0, Value.int .u8 0, Value.int .u8 0, Value.int .u8 0, Value.int .u8 0, Value.int .u8 0, Value.int .u8 0, Value.int .u8 0, Value.int .u8 0, Value.int .u8 0, Value.int .u8 0, Value.int .u8 0, Value.int .u8 0, Value.int .u8 0, Value.int .u8 0, Value.int .u8 0, Value.int .u8 0, Value.int .u8 0, Value.int .u8 0, Value.int .u8 0, Value.int .u8 0, Value.int .u8 0, Value.int .u8 0, Value.int .u8 0, Value.int .u8 0, Value.int .u8 0, Value.int .u8 0, Value.int .u8 0, Value.int .u8 0, Value.int .u8 0, Value.int .u8 0, Value.int .u8 0, Value.int .u8 0] 59)) #[Value.int .u8 0, Value.int .u8 0, Value.int .u8 0, Value.int .u8 0, Value.int .u8 0, Value.int .u8 0, Value.int .u8 0, Value.int .u8 0, Value.int .u8 0, Value.int .u8 0, Value.int .u8 0, Value.int .u8 0, Value.int .u8 0, Value.int .u8 0, Value.int .u8 0, Value.int .u8 0, Value.int .u8 0, Value.int .u8 0, Value.int .u8 0, Value.int .u8 0, Value.int .u8 0, Value.int .u8 0, Value.int .u8 0, Value.int .u8 0, Value.int .u8 0, Value.int .u8 0, Value.int .u8 0, Value.int .u8 0, Value.int .u8 0, Value.int .u8 0, Value.int .u8 0, Value.int .u8 0, Value.int .u8 0, Value.int .u8 0, Value.int .u8 0, Value.int .u8 0, Value.int .u8 0, Value.int .u8 0, Value.int .u8 0, Value.int .u8 0, Value.int .u8 0, Value.int .u8 0, Value.int .u8 0, Value.int .u8 0, Value.int .u8 0, Value.int .u8 0, Value.int .u8 0, Value.int .u8 0, Value.int .u8 0, Value.int .u8 0, Value.int .u8 0, Value.int .u8 0, Value.int .u8 0, Value.int .u8 0, Value.int .u8 0, Value.int .u8 0, Value.int .u8 0, Value.int .u8 0, Value.int .u8 0, Value.int .u8 0, Value.int .u8 0, Value.int .u8 0, Value.int .u8 0, Value.int .u8 0] 59
  rw [hs1] at hk6
  have HB5 := Aside0.mk (show Blk ((w2.alloc (.cells #[Value.int .u8 0, Value.int .u8 0, Value.int .u8 0, Value.int .u8 0, Value.int .u8 0, Value.int .u8 0, Value.int .u8 0, Value.int .u8 0, Value.int .u8 0, Value.int .u8 0, Value.int .u8 0, Value.int .u8 0, Value.int .u8 0, Value.int .u8 0, Value.int .u8 0, Value.int .u8 0, Value.int .u8 0, Value.int .u8 0, Value.int .u8 0, Value.int .u8 0, Value.int .u8 0, Value.int .u8 0, Value.int .u8 0, Value.int .u8 0, Value.int .u8 0, Value.int .u8 0, Value.int .u8 0, Value.int .u8 0, Value.int .u8 0, Value.int .u8 0, Value.int .u8 0, Value.int .u8 0, Value.int .u8 0, Value.int .u8 0, Value.int .u8 0, Value.int .u8 0, Value.int .u8 0, Value.int .u8 0, Value.int .u8 0, Value.int .u8 0, Value.int .u8 0, Value.int .u8 0, Value.int .u8 0, Value.int .u8 0, Value.int .u8 0, Value.int .u8 0, Value.int .u8 0, Value.int .u8 0, Value.int .u8 0, Value.int .u8 0, Value.int .u8 0, Value.int .u8 0, Value.int .u8 0, Value.int .u8 0, Value.int .u8 0, Value.int .u8 0, Value.int .u8 0, Value.int .u8 0, Value.int .u8 0, Value.int .u8 0, Value.int .u8 0, Value.int .u8 0, Value.int .u8 0, Value.int .u8 0] 59)).alloc (.cells #[Value.int .u8 0, Value.int .u8 0, Value.int .u8 0, Value.int .u8 0, Value.int .u8 0, Value.int .u8 0, Value.int .u8 0, Value.int .u8 0, Value.int .u8 0, Value.int .u8 0, Value.int .u8 0, Value.int .u8 0, Value.int .u8 0, Value.int .u8 0, Value.int .u8 0, Value.int .u8 0, Value.int .u8 0, Value.int .u8 0, Value.int .u8 0, Value.int .u8 0, Value.int .u8 0, Value.int .u8 0, Value.int .u8 0, Value.int .u8 0, Value.int .u8 0, Value.int .u8 0, Value.int .u8 0, Value.int .u8 0, Value.int .u8 0, Value.int .u8 0, Value.int .u8 0, Value.int .u8 0, Value.int .u8 0, Value.int .u8 0, Value.int .u8 0, Value.int .u8 0, Value.int .u8 0, Value.int .u8 0, Value.int .u8 0, Value.int .u8 0, Value.int .u8 0, Value.int .u8 0, Value.int .u8 0, Value.int .u8 0, Value.int .u8 0, Value.int .u8 0, Value.int .u8 0, Value.int .u8 0, Value.int .u8 0, Value.int .u8 0, Value.int .u8 0, Value.int .u8 0, Value.int .u8 0, Value.int .u8 0, Value.int .u8 0, Value.int .u8 0, Value.int .u8 0, Value.int .u8 0, Value.int .u8 0, Value.int .u8 0, Value.int .u8 0, Value.int .u8 0, Value.int .u8 0, Value.int .u8 0] 59)) w2.heap.size (nums .u8 (List.replicate 64 0)).toArray 59 from (Blk.new w2 _ 59).alloc _)
  have HB6 := Aside0.mk (show Blk ((w2.alloc (.cells #[Value.int .u8 0, Value.int .u8 0, Value.int .u8 0, Value.int .u8 0, Value.int .u8 0, Value.int .u8 0, Value.int .u8 0, Value.int .u8 0, Value.int .u8 0, Value.int .u8 0, Value.int .u8 0, Value.int .u8 0, Value.int .u8 0, Value.int .u8 0, Value.int .u8 0, Value.int .u8 0, Value.int .u8 0, Value.int .u8 0, Value.int .u8 0, Value.int .u8 0, Value.int .u8 0, Value.int .u8 0, Value.int .u8 0, Value.int .u8 0, Value.int .u8 0, Value.int .u8 0, Value.int .u8 0, Value.int .u8 0, Value.int .u8 0, Value.int .u8 0, Value.int .u8 0, Value.int .u8 0, Value.int .u8 0, Value.int .u8 0, Value.int .u8 0, Value.int .u8 0, Value.int .u8 0, Value.int .u8 0, Value.int .u8 0, Value.int .u8 0, Value.int .u8 0, Value.int .u8 0, Value.int .u8 0, Value.int .u8 0, Value.int .u8 0, Value.int .u8 0, Value.int .u8 0, Value.int .u8 0, Value.int .u8 0, Value.int .u8 0, Value.int .u8 0, Value.int .u8 0, Value.int .u8 0, Value.int .u8 0, Value.int .u8 0, Value.int .u8 0, Value.int .u8 0, Value.int .u8 0, Value.int .u8 0, Value.int .u8 0, Value.int .u8 0, Value.int .u8 0, Value.int .u8 0, Value.int .u8 0] 59)).alloc (.cells #[Value.int .u8 0, Value.int .u8 0, Value.int .u8 0, Value.int .u8 0, Value.int .u8 0, Value.int .u8 0, Value.int .u8 0, Value.int .u8 0, Value.int .u8 0, Value.int .u8 0, Value.int .u8 0, Value.int .u8 0, Value.int .u8 0, Value.int .u8 0, Value.int .u8 0, Value.int .u8 0, Value.int .u8 0, Value.int .u8 0, Value.int .u8 0, Value.int .u8 0, Value.int .u8 0, Value.int .u8 0, Value.int .u8 0, Value.int .u8 0, Value.int .u8 0, Value.int .u8 0, Value.int .u8 0, Value.int .u8 0, Value.int .u8 0, Value.int .u8 0, Value.int .u8 0, Value.int .u8 0, Value.int .u8 0, Value.int .u8 0, Value.int .u8 0, Value.int .u8 0, Value.int .u8 0, Value.int .u8 0, Value.int .u8 0, Value.int .u8 0, Value.int .u8 0, Value.int .u8 0, Value.int .u8 0, Value.int .u8 0, Value.int .u8 0, Value.int .u8 0, Value.int .u8 0, Value.int .u8 0, Value.int .u8 0, Value.int .u8 0, Value.int .u8 0, Value.int .u8 0, Value.int .u8 0, Value.int .u8 0, Value.int .u8 0, Value.int .u8 0, Value.int .u8 0, Value.int .u8 0, Value.int .u8 0, Value.int .u8 0, Value.int .u8 0, Value.int .u8 0, Value.int .u8 0, Value.int .u8 0] 59)) (w2.heap.size + 1) (nums .u8 (List.replicate 64 0)).toArray 59 from hk6)
  have HX0 := Aside0.mk (((Ext.refl w2).alloc (.cells #[Value.int .u8 0, Value.int .u8 0, Value.int .u8 0, Value.int .u8 0, Value.int .u8 0, Value.int .u8 0, Value.int .u8 0, Value.int .u8 0, Value.int .u8 0, Value.int .u8 0, Value.int .u8 0, Value.int .u8 0, Value.int .u8 0, Value.int .u8 0, Value.int .u8 0, Value.int .u8 0, Value.int .u8 0, Value.int .u8 0, Value.int .u8 0, Value.int .u8 0, Value.int .u8 0, Value.int .u8 0, Value.int .u8 0, Value.int .u8 0, Value.int .u8 0, Value.int .u8 0, Value.int .u8 0, Value.int .u8 0, Value.int .u8 0, Value.int .u8 0, Value.int .u8 0, Value.int .u8 0, Value.int .u8 0, Value.int .u8 0, Value.int .u8 0, Value.int .u8 0, Value.int .u8 0, Value.int .u8 0, Value.int .u8 0, Value.int .u8 0, Value.int .u8 0, Value.int .u8 0, Value.int .u8 0, Value.int .u8 0, Value.int .u8 0, Value.int .u8 0, Value.int .u8 0, Value.int .u8 0, Value.int .u8 0, Value.int .u8 0, Value.int .u8 0, Value.int .u8 0, Value.int .u8 0, Value.int .u8 0, Value.int .u8 0, Value.int .u8 0, Value.int .u8 0, Value.int .u8 0, Value.int .u8 0, Value.int .u8 0, Value.int .u8 0, Value.int .u8 0, Value.int .u8 0, Value.int .u8 0] 59)).alloc (.cells #[Value.int .u8 0, Value.int .u8 0, Value.int .u8 0, Value.int .u8 0, Value.int .u8 0, Value.int .u8 0, Value.int .u8 0, Value.int .u8 0, Value.int .u8 0, Value.int .u8 0, Value.int .u8 0, Value.int .u8 0, Value.int .u8 0, Value.int .u8 0, Value.int .u8 0, Value.int .u8 0, Value.int .u8 0, Value.int .u8 0, Value.int .u8 0, Value.int .u8 0, Value.int .u8 0, Value.int .u8 0, Value.int .u8 0, Value.int .u8 0, Value.int .u8 0, Value.int .u8 0, Value.int .u8 0, Value.int .u8 0, Value.int .u8 0, Value.int .u8 0, Value.int .u8 0, Value.int .u8 0, Value.int .u8 0, Value.int .u8 0, Value.int .u8 0, Value.int .u8 0, Value.int .u8 0, Value.int .u8 0, Value.int .u8 0, Value.int .u8 0, Value.int .u8 0, Value.int .u8 0, Value.int .u8 0, Value.int .u8 0, Value.int .u8 0, Value.int .u8 0, Value.int .u8 0, Value.int .u8 0, Value.int .u8 0, Value.int .u8 0, Value.int .u8 0, Value.int .u8 0, Value.int .u8 0, Value.int .u8 0, Value.int .u8 0, Value.int .u8 0, Value.int .u8 0, Value.int .u8 0, Value.int .u8 0, Value.int .u8 0, Value.int .u8 0, Value.int .u8 0, Value.int .u8 0, Value.int .u8 0] 59))
  have HZ1 := Aside0.mk (show (nums .u8 (List.replicate 64 0)).toArray.size = (nums .u8 K1).length by rw [nums_length, l1]; rfl)
  have HZ2 := Aside0.mk (show (nums .u8 (List.replicate 64 0)).toArray.size = (nums .u8 K2).length by rw [nums_length, l2]; rfl)
  clear hs1 hk6
  go_wp2_with (first | ((with_reducible refine gate_store (ty := 59) rfl ?_); (refine store_at rfl 59 _ _ rfl w2.heap.size (nums .u8 K1) rfl rfl _ 59 HB5.out HZ1.out HS1.out (one_cells _ _) ?_)) | fail)
  intro w3 hW3 hB3
  have HB63 := Aside0.mk (HB6.out.wrote hW3 (by omega))
  have HX3 := Aside0.mk (hW3.ext HX0.out (Nat.le_refl _))
  have HB53 := Aside0.mk hB3
  clear hW3 hB3 HB5 HB6 HX0
  go_wp2_with (first | ((with_reducible refine gate_store (ty := 59) rfl ?_); (refine store_at rfl 59 _ _ rfl (w2.heap.size + 1) (nums .u8 K2) rfl rfl _ 59 HB63.out HZ2.out HS2.out (one_cells _ _) ?_)) | fail)
  intro w4 hW4 hB4
  have HB5 := Aside0.mk (HB53.out.wrote hW4 (by omega))
  have HB6 := Aside0.mk hB4
  have HX4 := Aside0.mk (hW4.ext HX3.out (Nat.le_succ _))
  have HE4 := Aside0.mk (HE2.out.trans HX4.out)
  have HKc := Aside0.mk (HKb.out.ext HX4.out)
  clear hW4 hB4 HB53 HB63 HX3
  go_wp2_with fail
  refine (new_calls w4).mono ?_
  rintro e w5 ⟨rfl, hH5, hE5⟩
  have H24 : 2 ≤ w4.heap.size := Nat.le_trans H2.out HE4.out.size
  have HH5 := Aside0.mk hH5
  have HX5 := Aside0.mk hE5
  have HT4 := Aside0.mk (HT.out.ext HE4.out)
  have HC5 := Aside0.mk (show Kd.C kb w4 (some ⟨w2.heap.size, 0, none⟩) 64 K1 by have h := C_of_blk HB5.out (by rw [l1]; decide); rwa [l1] at h)
  have HC6 := Aside0.mk (show Kd.C kb w4 (some ⟨w2.heap.size + 1, 0, none⟩) 64 K2 by have h := C_of_blk HB6.out (by rw [l2]; decide); rwa [l2] at h)
  have HCT := Aside0.mk (Kd.C_below HR'.out HE4.out)
  clear hH5 hE5
  go_wp2_with fail
  refine (add_old w4 w5 w4.heap.size w4.heap.size [] K1 _ (some ⟨w2.heap.size, 0, none⟩) 64 64 H24 (Nat.le_refl _) l1.symm HH5.out HX5.out HT4.out HC5.out (Nat.le_refl _) (by decide)).mono ?_
  rintro e w6 ⟨rfl, V6, hH6, hE6, _, _⟩
  rw [List.nil_append] at hH6
  have HH6 := Aside0.mk hH6
  have HX6 := Aside0.mk hE6
  clear hH6 hE6 HH5 HX5
  go_wp2_with fail
  refine (add_old w4 w6 w4.heap.size w4.heap.size K1 t V6 B d m H24 (Nat.le_refl _) HM.out HH6.out HX6.out HT4.out HCT.out hc' (by rw [l1]; omega)).mono ?_
  rintro e w7 ⟨rfl, V7, hH7, hE7, _, _⟩
  have HH7 := Aside0.mk hH7
  have HX7 := Aside0.mk hE7
  clear hH7 hE7 HH6 HX6
  go_wp2_with fail
  refine (hsum_calls w7 w4.heap.size w4.heap.size (K1 ++ t) V7 HH7.out (HT4.out.ext HX7.out) (by rw [List.length_append, l1, ← HM.out]; omega)).mono ?_
  rintro e w8 ⟨rfl, hE8⟩
  rw [← HI.out]
  have HX8 := Aside0.mk (HX7.out.trans hE8)
  have HSI := Aside0.mk (show (nums .u8 zs).toArray.size = (nums .u8 I).length by rw [nums_length, l3]; rfl)
  have HSD := Aside0.mk (show (nums .u8 zs).toArray.size = (nums .u8 D).length by rw [nums_length, l4]; rfl)
  clear hE8 HH7 HX7
  go_wp2_with (first | ((with_reducible refine gate_store (ty := 26) rfl ?_); (refine store_at rfl 26 _ _ rfl w8.heap.size (nums .u8 I) rfl rfl _ 26 (Blk.new w8 #[Value.int .u8 0, Value.int .u8 0, Value.int .u8 0, Value.int .u8 0, Value.int .u8 0, Value.int .u8 0, Value.int .u8 0, Value.int .u8 0, Value.int .u8 0, Value.int .u8 0, Value.int .u8 0, Value.int .u8 0, Value.int .u8 0, Value.int .u8 0, Value.int .u8 0, Value.int .u8 0, Value.int .u8 0, Value.int .u8 0, Value.int .u8 0, Value.int .u8 0, Value.int .u8 0, Value.int .u8 0, Value.int .u8 0, Value.int .u8 0, Value.int .u8 0, Value.int .u8 0, Value.int .u8 0, Value.int .u8 0, Value.int .u8 0, Value.int .u8 0, Value.int .u8 0, Value.int .u8 0] 26) HSI.out HS3.out (one_cells _ _) ?_)) | fail)
  intro w9 hW9 hB9
  have hx9 := hW9.ext ((Ext.refl w8).alloc _) (Nat.le_refl _)
  have HX9 := Aside0.mk (HX8.out.trans hx9)
  have HCI := Aside0.mk (show Kd.C kb w9 (some ⟨w8.heap.size, 0, none⟩) 32 I by have h := C_of_blk hB9 (by rw [l3]; decide); rwa [l3] at h)
  clear hW9 hB9 hx9 HX8
  go_wp2_with fail
  refine (new_calls w9).mono ?_
  rintro e wa ⟨rfl, hHa, hEa⟩
  have H29 : 2 ≤ w9.heap.size := Nat.le_trans H24 HX9.out.size
  have HHa := Aside0.mk hHa
  have HXa := Aside0.mk hEa
  have HT9 := Aside0.mk (HT4.out.ext HX9.out)
  have HC9 := Aside0.mk (Kd.C_below HC6.out HX9.out)
  clear hHa hEa
  go_wp2_with fail
  refine (add_old w9 wa w9.heap.size w9.heap.size [] K2 _ (some ⟨w2.heap.size + 1, 0, none⟩) 64 64 H29 (Nat.le_refl _) l2.symm HHa.out HXa.out HT9.out HC9.out (Nat.le_refl _) (by decide)).mono ?_
  rintro e wb ⟨rfl, Vb, hHb, hEb, _, _⟩
  rw [List.nil_append] at hHb
  have HHb := Aside0.mk hHb
  have HXb := Aside0.mk hEb
  clear hHb hEb HHa HXa
  go_wp2_with fail
  refine (add_old w9 wb w9.heap.size w9.heap.size K2 I Vb (some ⟨w8.heap.size, 0, none⟩) 32 32 H29 (Nat.le_refl _) l3.symm HHb.out HXb.out HT9.out HCI.out (Nat.le_refl _) (by rw [l2]; decide)).mono ?_
  rintro e wc ⟨rfl, Vc, hHc, hEc, _, _⟩
  have HHc := Aside0.mk hHc
  have HXc := Aside0.mk hEc
  clear hHc hEc HHb HXb
  go_wp2_with fail
  refine (hsum_calls wc w9.heap.size w9.heap.size (K2 ++ I) Vc HHc.out (HT9.out.ext HXc.out) (by rw [List.length_append, l2, l3]; decide)).mono ?_
  rintro e wd ⟨rfl, hEd⟩
  rw [← HD.out]
  have HXd := Aside0.mk (HX9.out.trans (HXc.out.trans hEd))
  have HKd := Aside0.mk (HKc.out.ext HXd.out)
  have HEd := Aside0.mk (HE4.out.trans HXd.out)
  clear hEd HHc HXc
  go_wp2_with (first | ((with_reducible refine gate_store (ty := 26) rfl ?_); (refine store_at rfl 26 _ _ rfl w.heap.size (nums .u8 D) rfl rfl _ 26 HKd.out HSD.out HS4.out (one_cells _ _) ?_)) | fail)
  intro wf hWf hBf
  have HEF := Aside0.mk (hWf.ext HEd.out (Nat.le_refl _))
  have HBf := Aside0.mk hBf
  clear hWf hBf HEd HKd
  go_wp2_with fail
  (try simp only [Exit.inBlock, Exit.then])
  refine bodyPost_ret (results_cell_row rfl _ _ w.heap.size 26 (nums .u8 D).toArray (0, 0) _ rfl HBf.out.is Tryd.underlying26 rfl (by simpa using HS4.out)) rfl ?_
  rw [HDM.out]
  exact ⟨rfl, HEF.out⟩
end Go.Proofs.YtbnbncnmhhioeaaDoor.By
