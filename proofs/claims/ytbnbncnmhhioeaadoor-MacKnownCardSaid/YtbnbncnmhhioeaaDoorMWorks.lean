/- A key's block as the document puts it: rillref02.Block. -/
import Derived.Test.YtbnbncnmhhioeaaDoorMac
import Derived.Lib.ConvBytes
import Derived.Lib.SlBytesConst
import Derived.Laws.BitsAllLaws
namespace Go.Proofs.YtbnbncnmhhioeaaDoor.By
open Go.RowKit Go.Proofs.YtbnbncnmhhioeaaDoor.Reg Go.Proofs.YtbnbncnmhhioeaaDoorW.PrintWords Go.Proofs.YtbnbncnmhhioeaaDoorW.PrintLast Go.Proofs.YtbnbncnmhhioeaaDoorW.PrintMore
set_option linter.unusedVariables false

theorem part_setL (f : Int → Int) (L : List Int) (x : Nat) (h : x < L.length) : (part f L x).set x (f (rd L x)) = part f L (x + 1) := by
  unfold part
  have hl : ((L.take x).map f).length = x := by rw [List.length_map, List.length_take]; omega
  have hr : rd L x = L[x] := by simp [rd, h]
  rw [List.set_append_right _ _ (by rw [hl]; exact Nat.le_refl _), hl, Nat.sub_self, List.drop_eq_getElem_cons h, List.set_cons_zero, List.take_succ_eq_append_getElem h, hr]
  simp only [List.map_append, List.map_cons, List.map_nil, List.append_assoc, List.cons_append, List.nil_append]
theorem part_rd (f : Int → Int) (L : List Int) (x : Nat) (h : x < L.length) : rd (part f L x) x = rd L x := by
  have hl : ((L.take x).map f).length = x := by rw [List.length_map, List.length_take]; omega
  unfold rd part
  rw [List.getD_eq_getElem?_getD, List.getD_eq_getElem?_getD, Int.toNat_natCast, List.getElem?_append_right (by rw [hl]; exact Nat.le_refl _), hl, Nat.sub_self, List.getElem?_drop, Nat.add_zero]
theorem NB_nil (w : World) (B : Nat) : NB w B (.slice none 0 0) [] := Kd.R_nil kb 5 w B (fun _ => True)
theorem upto_rep (L : List Int) (j : Nat) (h : L.length + j = 64) : L ++ List.replicate j 0 = upto 64 L := by unfold upto; congr 2; omega
theorem take_rd (k : List Int) (x : Nat) (h : x < k.length) : k.take x ++ [rd k x] = k.take (x + 1) := by
  have hr : rd k x = k[x] := by simp [rd, h]
  rw [List.take_succ_eq_append_getElem h, hr]

theorem _root_.Go.Proofs.YtbnbncnmhhioeaaDoor.Reg.Ext.trans4 {a b c : World} (h : Ext a b) (k : Below a.heap.size b c) : Ext a c := Below.trans h k

set_option maxRecDepth 100000 in
set_option maxHeartbeats 16000000 in
theorem rblock_short (w : World) (A : Option Addr) (c n : Nat) (k : List Int) (v : Int) (hn : n = k.length) (hr : Kd.C kb w A n k) (hc : n ≤ c) (hs : n ≤ 64) :
    Calls Tryd.prog 40 #[.slice A n c, .int .u8 v] w fun e w' => ∃ A2 c2, e = .returned (.slice A2 64 c2) ∧ NB w' w.heap.size (.slice A2 64 c2) (blockF k v) ∧ Ext w w' := by
  have HR := Aside0.mk hr
  have HNN := Aside0.mk hn
  have HKEY := Aside0.mk (show keyF k = k by unfold keyF; rw [if_neg (by omega)])
  have hz1 : ((n : Int) ≤ 64) = True := eq_true (by omega)
  have hz2 : ((64 : Int) < (n : Int)) = False := eq_false (by omega)
  clear hr hn
  go_enter Tryd.func40, Tryd.ntmps40
  go_wp2_with fail
  go_loopw [5, 6] (fun u i wr => ∃ x : Int, i = .int .i64 x ∧ Aside0 (0 ≤ x ∧ x ≤ n) ∧ Aside0 (NB wr w.heap.size u (k.take x.toNat)) ∧ Aside0 (Ext w wr)) (fun _ i _ => n - (intOf i).toNat)
  case atStart => exact ⟨0, rfl, ⟨by omega⟩, ⟨NB_nil _ _⟩, ⟨Ext.refl _⟩⟩
  case round =>
    obtain ⟨x, rfl, HXR, HN, HE⟩ := hrel
    obtain ⟨g0, g1⟩ := HXR.out
    obtain ⟨wx, hwx⟩ : ∃ wx : World, wx = wr := ⟨_, rfl⟩
    subst hwx
    by_cases hlt : x < n
    · have HLT := Aside0.mk (And.intro g0 hlt)
      obtain ⟨adx, eax, hcell⟩ := at_k (Kd.C_below HR.out HE.out) x g0 hlt
      subst eax
      have HTK := Aside0.mk (show k.take x.toNat ++ [rd k x] = k.take (x + 1).toNat by
        have h := take_rd k x.toNat (by rw [← HNN.out]; omega)
        rw [Int.toNat_of_nonneg g0] at h
        rw [h, show (x + 1).toNat = x.toNat + 1 by omega])
      have HTL := Aside0.mk (show (k.take x.toNat).length ≤ 64 by rw [List.length_take]; omega)
      obtain ⟨A3, c3, hu3, _, _⟩ := HN.out.reads
      obtain ⟨L3, hL3⟩ : ∃ L3, L3 = (k.take x.toNat).length := ⟨_, rfl⟩
      rw [← hL3] at hu3
      subst hu3
      clear hL3
      go_wp2_with (at_builtin; go_loud (refine Kd.R_append kb (w0 := wx) (w.heap.size) rfl (.tmp 21) (.tmp 26) 22 5 _ 1 rfl Tryd.underlying22 PShaAdds.info5 rfl (by decide) (by decide) (.slice A3 L3 c3) (k.take x.toNat) (rd k x) [.int .u8 (rd k x)] (fun _ => True) (fun _ => False) rfl rfl ?c1 (fun _ h => h.elim) (fun _ _ => trivial) HN.out ?c2 ?c3 ?c4 ?_))
      case c1 => exact rfl
      case c2 => exact Below.refl _ _
      case c3 => exact HE.out.size
      case c4 => have := HTL.out; omega
      intro v4 w4 hR4 hB4 hg4 hat4
      have HE4 := Aside0.mk (show Ext w w4 from HE.out.trans4 hB4)
      replace hR4 : NB w4 w.heap.size v4 (k.take x.toNat ++ [rd k x]) := hR4
      rw [HTK.out] at hR4
      have HN4 := Aside0.mk hR4
      clear hR4 hB4 hg4 hat4 HN HE
      go_wp2_with fail
      go_roundw
      case rel => exact ⟨x + 1, rfl, ⟨by have := HLT.out; omega⟩, HN4, HE4⟩
      case measure => have := HLT.out; simp only [intOf]; omega
    · have hxe : x = n := by omega
      subst hxe
      have hL0e : k.take ((n : Int)).toNat = k := by rw [Int.toNat_natCast, HNN.out]; exact List.take_length
      rw [hL0e] at HN
      have HL0 := Aside0.mk (show k.length ≤ 64 by rw [← HNN.out]; exact hs)
      have HN0 := HN
      have HE0 := HE
      obtain ⟨wq, hwq⟩ : ∃ wq : World, wq = wx := ⟨_, rfl⟩
      subst hwq
      obtain ⟨A3, c3, hu3, _, _⟩ := HN.out.reads
      subst hu3
      clear hL0e hlt g0 g1 HN HE HXR
      go_wp2_with fail
      -- the noughts behind; k: what stands, V0, W0
      go_loopw [5] (fun v wr => ∃ j : Nat, Aside0 (k.length + j ≤ 64) ∧ Aside0 (NB wr w.heap.size v (k ++ List.replicate j 0)) ∧ Aside0 (Ext w wr)) (fun v _ => 200 - (match v with | .slice _ n _ => n | _ => 0))
      case atStart => exact ⟨0, ⟨by have := HL0.out; omega⟩, ⟨by rw [List.replicate_zero, List.append_nil]; exact HN0.out⟩, HE0⟩
      case round =>
        clear HN0 HE0
        obtain ⟨j, HJ, HN, HE⟩ := hrel
        obtain ⟨A3, c3, hu3, hc3, hC3⟩ := HN.out.reads
        obtain ⟨L3, hL3⟩ : ∃ L3, L3 = (k ++ List.replicate j 0).length := ⟨_, rfl⟩
        rw [← hL3] at hu3 hc3 hC3
        subst hu3
        have hLj : L3 = k.length + j := by rw [hL3]; simp
        have HL3 := Aside0.mk hL3
        have HLJ := Aside0.mk hLj
        have HC3 := Aside0.mk hC3
        obtain ⟨wx, hwx⟩ : ∃ wx : World, wx = wr := ⟨_, rfl⟩
        subst hwx
        have hjz := HJ.out
        by_cases hj : L3 < 64
        · have hz : ((L3 : Int) < 64) = True := eq_true (by omega)
          have HJL := Aside0.mk hj
          clear hL3 hLj hC3 hjz
          go_wp2_with (at_builtin; go_loud (refine Kd.R_append kb (w0 := wx) (w.heap.size) rfl (.tmp 46) (.tmp 47) 22 5 _ 1 rfl Tryd.underlying22 PShaAdds.info5 rfl (by decide) (by decide) (.slice A3 L3 c3) (k ++ List.replicate j 0) 0 [.int .u8 0] (fun _ => True) (fun _ => False) rfl rfl ?c1 (fun _ h => h.elim) (fun _ _ => trivial) HN.out ?c2 ?c3 ?c4 ?_))
          case c1 => exact rfl
          case c2 => exact Below.refl _ _
          case c3 => exact HE.out.size
          case c4 => rw [← HL3.out]; have := HJL.out; omega
          intro v4 w4 hR4 hB4 hg4 hat4
          have HE4 := Aside0.mk (show Ext w w4 from HE.out.trans4 hB4)
          replace hR4 : NB w4 w.heap.size v4 (k ++ (List.replicate j 0 ++ [0])) := hR4
          rw [← List.replicate_succ'] at hR4
          obtain ⟨A4, c4, rfl, _, _⟩ := hR4.reads
          have HN4 := Aside0.mk hR4
          have HLM := Aside0.mk (show (k ++ List.replicate (j + 1) 0).length = L3 + 1 by rw [HL3.out]; simp; omega)
          have HJ' := Aside0.mk (show k.length + (j + 1) ≤ 64 by have := HLJ.out; have := HJL.out; omega)
          clear hR4 hB4 hg4 hat4 HN HE HC3
          go_wp2_with fail
          go_roundw
          case rel => exact ⟨j + 1, HJ', HN4, HE4⟩
          case measure => have h1 := HLM.out; have h2 := HJL.out; simp only []; omega
        · have hz : ((L3 : Int) < 64) = False := eq_false (by omega)
          have h64 : L3 = 64 := by omega
          subst h64
          have HX := Aside0.mk (show k ++ List.replicate j 0 = upto 64 k from upto_rep k j (by omega))
          have HXL := Aside0.mk (show (upto 64 k).length = 64 from upto_length 64 k HL0.out)
          obtain ⟨X, hX⟩ : ∃ X, X = upto 64 k := ⟨_, rfl⟩
          rw [← hX] at HX HXL
          have HXX := Aside0.mk hX
          have HN5 := Aside0.mk (show NB wx w.heap.size (.slice A3 64 c3) (part (xorF v) X 0) by unfold part; rw [List.take_zero, List.map_nil, List.nil_append, List.drop_zero, ← HX.out]; exact HN.out)
          have HE5 := HE
          obtain ⟨g3, cg, eg, hg1, hg2, cl, hg3⟩ := Kd.R_form HN5.out (by rw [part_len, HXL.out]; decide)
          rw [part_len, HXL.out] at eg
          injection eg with ea en ec
          subst ea
          subst ec
          clear hj hjz hX HJ HN HE hL3 hLj hC3 HL3 HLJ HC3 hg1 hg2 hg3 en hz
          go_wp2_with fail
          go_loopw [9] (fun i wr => ∃ x : Int, i = .int .i64 x ∧ Aside0 (0 ≤ x ∧ x ≤ 64) ∧ Aside0 (NB wr w.heap.size (.slice (some ⟨g3, 0, none⟩) 64 c3) (part (xorF v) X x.toNat)) ∧ Aside0 (Ext w wr)) (fun i _ => 64 - (intOf i).toNat)
          case atStart => exact ⟨0, rfl, ⟨by decide⟩, HN5, HE5⟩
          case round =>
            clear HN5 HE5
            obtain ⟨x, rfl, HXR, HN, HE⟩ := hrel
            obtain ⟨g0, g1⟩ := HXR.out
            obtain ⟨wy, hwy⟩ : ∃ wy : World, wy = wr := ⟨_, rfl⟩
            subst hwy
            by_cases hlt : x < 64
            · have HLT := Aside0.mk (And.intro g0 hlt)
              obtain ⟨hcl, hfr⟩ := Kd.R_celln 0 HN.out x g0 hlt
              have hrd : rdOf 0 (part (xorF v) X x.toNat) x = rd X x := by
                have h := part_rd (xorF v) X x.toNat (by rw [HXL.out]; omega)
                rw [Int.toNat_of_nonneg g0] at h
                exact h
              rw [hrd] at hcl
              have hput := (Kd.R_putg HN.out x (xorF v (rd X x))).1
              have hset := part_setL (xorF v) X x.toNat (by rw [HXL.out]; omega)
              rw [Int.toNat_of_nonneg g0] at hset
              rw [hset] at hput
              have hw := Wrote.setCell wy g3 x.toNat (.int .u8 (xorF v (rd X x)))
              have HEn := Aside0.mk (hw.ext HE.out (Kd.R_base HN.out g3 rfl))
              unfold xorF at hput HEn
              have HPUT := Aside0.mk (show NB _ w.heap.size _ (part (xorF v) X (x + 1).toNat) by rw [show (x + 1).toNat = x.toNat + 1 by omega]; exact hput)
              clear hrd hput hset hw HN HE
              go_wp2_with fail
              go_roundw
              case rel => exact ⟨x + 1, rfl, ⟨by have := HLT.out; omega⟩, HPUT, HEn⟩
              case measure => have := HLT.out; simp only [intOf]; omega
            · have hxe : x = 64 := by omega
              subst hxe
              have HBF := Aside0.mk (show NB wy w.heap.size (.slice (some ⟨g3, 0, none⟩) 64 c3) (blockF k v) by
                have h : part (xorF v) X 64 = blockF k v := by
                  unfold part blockF; rw [List.take_of_length_le (by rw [HXL.out]; exact Nat.le_refl _), List.drop_eq_nil_of_le (by rw [HXL.out]; exact Nat.le_refl _), List.append_nil, HXX.out, HKEY.out]
                rw [← h]; exact HN.out)
              clear HN hlt g0 g1
              go_wp2_with fail
              go_ret
              exact ⟨_, _, rfl, HBF.out, HE.out⟩

set_option maxRecDepth 100000 in
set_option maxHeartbeats 16000000 in
theorem rblock_long (w : World) (A : Option Addr) (c n : Nat) (k : List Int) (v : Int) (hT : Tab 0 w) (hn : n = k.length) (hr : Kd.C kb w A n k) (hc : n ≤ c) (hs : 64 < n) (hl : n ≤ 1099511627776) :
    Calls Tryd.prog 40 #[.slice A n c, .int .u8 v] w fun e w' => ∃ A2 c2, e = .returned (.slice A2 64 c2) ∧ NB w' w.heap.size (.slice A2 64 c2) (blockF k v) ∧ Ext w w' := by
  have HR := Aside0.mk hr
  have HT := Aside0.mk hT
  have HNN := Aside0.mk hn
  obtain ⟨D, hD⟩ : ∃ D, D = shaF k := ⟨_, rfl⟩
  have HDS := Aside0.mk hD
  have HDL := Aside0.mk (show D.length = 32 by rw [hD, sha_len])
  have HKEY := Aside0.mk (show keyF k = D by unfold keyF; rw [if_pos (by omega), hD])
  have hz0 : ((0 : Int) < (n : Int)) = True := eq_true (by omega)
  have hz1 : ((n : Int) ≤ 64) = False := eq_false (by omega)
  have hz2 : ((64 : Int) < (n : Int)) = True := eq_true (by omega)
  clear hr hn hT hD
  go_enter Tryd.func40, Tryd.ntmps40
  go_wp2_with fail
  go_loopw [5, 6] (fun u i wr => u = .slice none 0 0 ∧ i = .int .i64 0 ∧ Aside0 (w = wr)) (fun _ i _ => n - (intOf i).toNat)
  case atStart => exact ⟨rfl, rfl, ⟨rfl⟩⟩
  case round =>
    obtain ⟨rfl, rfl, HW⟩ := hrel
    obtain rfl := HW.out
    clear HW
    go_wp2_with fail
    refine (rof_calls _ A c n k HNN.out HT.out HR.out hc hl).mono ?_
    rintro e w1 ⟨rfl, hE1⟩
    rw [← HDS.out]
    have HI26 := Aside0.mk (show (Tryd.prog.info? 26).map (·.size) = some (nums .u8 D).length by rw [nums_length, HDL.out]; kernel_rfl)
    have HSZ26 := Aside0.mk (show (nums .u8 zs).toArray.size = (nums .u8 D).length by rw [nums_length, HDL.out]; rfl)
    have HE1 := Aside0.mk hE1
    clear hE1
    go_wp2_with (first | ((with_reducible refine gate_store (ty := 26) rfl ?_); (refine store_at rfl 26 _ _ rfl w1.heap.size (nums .u8 D) rfl rfl _ 26 (Blk.new w1 #[Value.int .u8 0, Value.int .u8 0, Value.int .u8 0, Value.int .u8 0, Value.int .u8 0, Value.int .u8 0, Value.int .u8 0, Value.int .u8 0, Value.int .u8 0, Value.int .u8 0, Value.int .u8 0, Value.int .u8 0, Value.int .u8 0, Value.int .u8 0, Value.int .u8 0, Value.int .u8 0, Value.int .u8 0, Value.int .u8 0, Value.int .u8 0, Value.int .u8 0, Value.int .u8 0, Value.int .u8 0, Value.int .u8 0, Value.int .u8 0, Value.int .u8 0, Value.int .u8 0, Value.int .u8 0, Value.int .u8 0, Value.int .u8 0, Value.int .u8 0, Value.int .u8 0, Value.int .u8 0] 26) HSZ26.out HI26.out (one_cells _ _) ?_)) | fail)
    intro w2 hW2 hB2
    have hx2 := hW2.ext ((Ext.refl w1).alloc _) (Nat.le_refl _)
    have HE2 := Aside0.mk (HE1.out.trans hx2)
    have HCD := Aside0.mk (show Kd.C kb w2 (some ⟨w1.heap.size, 0, none⟩) 32 D by have h := C_of_blk hB2 (by rw [HDL.out]; decide); rwa [HDL.out] at h)
    have HBD := Aside0.mk hB2
    clear hW2 hB2 hx2 HE1
    go_wp2_with fail
    go_loopw [5, 8] (fun u i wr => ∃ x : Int, i = .int .i64 x ∧ Aside0 (0 ≤ x ∧ x ≤ 32) ∧ Aside0 (NB wr w2.heap.size u (D.take x.toNat)) ∧ Aside0 (Ext w2 wr)) (fun _ i _ => 32 - (intOf i).toNat)
    case atStart => exact ⟨0, rfl, ⟨by decide⟩, ⟨NB_nil _ _⟩, ⟨Ext.refl _⟩⟩
    case round =>
      obtain ⟨x, rfl, HXR, HN, HE⟩ := hrel
      obtain ⟨g0, g1⟩ := HXR.out
      obtain ⟨wx, hwx⟩ : ∃ wx : World, wx = wr := ⟨_, rfl⟩
      subst hwx
      by_cases hlt : x < 32
      · have HLT := Aside0.mk (And.intro g0 hlt)
        have hcell := (HBD.out.ext HE.out).cell x.toNat (v := .int .u8 (rd D x)) (by
          have h := nums_cell D x.toNat (by rw [HDL.out]; omega)
          rwa [Int.toNat_of_nonneg g0] at h)
        have HTK := Aside0.mk (show D.take x.toNat ++ [rd D x] = D.take (x + 1).toNat by
          have h := take_rd D x.toNat (by rw [HDL.out]; omega)
          rw [Int.toNat_of_nonneg g0] at h
          rw [h, show (x + 1).toNat = x.toNat + 1 by omega])
        have HTL := Aside0.mk (show (D.take x.toNat).length ≤ 64 by rw [List.length_take]; omega)
        obtain ⟨A3, c3, hu3, _, _⟩ := HN.out.reads
        obtain ⟨L3, hL3⟩ : ∃ L3, L3 = (D.take x.toNat).length := ⟨_, rfl⟩
        rw [← hL3] at hu3
        subst hu3
        clear hL3
        go_wp2_with (at_builtin; go_loud (refine Kd.R_append kb (w0 := wx) (w2.heap.size) rfl (.tmp 37) (.tmp 41) 22 5 _ 1 rfl Tryd.underlying22 PShaAdds.info5 rfl (by decide) (by decide) (.slice A3 L3 c3) (D.take x.toNat) (rd D x) [.int .u8 (rd D x)] (fun _ => True) (fun _ => False) rfl rfl ?c1 (fun _ h => h.elim) (fun _ _ => trivial) HN.out ?c2 ?c3 ?c4 ?_))
        case c1 => exact rfl
        case c2 => exact Below.refl _ _
        case c3 => exact HE.out.size
        case c4 => have := HTL.out; omega
        intro v4 w4 hR4 hB4 hg4 hat4
        have HE4 := Aside0.mk (show Ext w2 w4 from HE.out.trans4 hB4)
        replace hR4 : NB w4 w2.heap.size v4 (D.take x.toNat ++ [rd D x]) := hR4
        rw [HTK.out] at hR4
        have HN4 := Aside0.mk hR4
        clear hR4 hB4 hg4 hat4 HN HE
        go_wp2_with fail
        go_roundw
        case rel => exact ⟨x + 1, rfl, ⟨by have := HLT.out; omega⟩, HN4, HE4⟩
        case measure => have := HLT.out; simp only [intOf]; omega
      · have hxe : x = 32 := by omega
        subst hxe
        have hL0e : D.take ((32 : Int)).toNat = D := by
          show D.take 32 = D
          exact List.take_of_length_le (by rw [HDL.out]; decide)
        rw [hL0e] at HN
        have HL0 := Aside0.mk (show D.length ≤ 64 by rw [HDL.out]; decide)
        have HN0 := Aside0.mk (Kd.R_lower HN.out HE2.out.size)
        have HE0 := Aside0.mk (HE2.out.trans HE.out)
        obtain ⟨A3, c3, hu3, _, _⟩ := HN.out.reads
        subst hu3
        clear hL0e hlt g0 g1 HN HE HXR
        go_wp2_with fail
        -- the noughts behind; D: what stands, V0, W0
        go_loopw [5] (fun v wr => ∃ j : Nat, Aside0 (D.length + j ≤ 64) ∧ Aside0 (NB wr w.heap.size v (D ++ List.replicate j 0)) ∧ Aside0 (Ext w wr)) (fun v _ => 200 - (match v with | .slice _ n _ => n | _ => 0))
        case atStart => exact ⟨0, ⟨by have := HL0.out; omega⟩, ⟨by rw [List.replicate_zero, List.append_nil]; exact HN0.out⟩, HE0⟩
        case round =>
          clear HN0 HE0
          obtain ⟨j, HJ, HN, HE⟩ := hrel
          obtain ⟨A3, c3, hu3, hc3, hC3⟩ := HN.out.reads
          obtain ⟨L3, hL3⟩ : ∃ L3, L3 = (D ++ List.replicate j 0).length := ⟨_, rfl⟩
          rw [← hL3] at hu3 hc3 hC3
          subst hu3
          have hLj : L3 = D.length + j := by rw [hL3]; simp
          have HL3 := Aside0.mk hL3
          have HLJ := Aside0.mk hLj
          have HC3 := Aside0.mk hC3
          obtain ⟨wx, hwx⟩ : ∃ wx : World, wx = wr := ⟨_, rfl⟩
          subst hwx
          have hjz := HJ.out
          by_cases hj : L3 < 64
          · have hz : ((L3 : Int) < 64) = True := eq_true (by omega)
            have HJL := Aside0.mk hj
            clear hL3 hLj hC3 hjz
            go_wp2_with (at_builtin; go_loud (refine Kd.R_append kb (w0 := wx) (w.heap.size) rfl (.tmp 46) (.tmp 47) 22 5 _ 1 rfl Tryd.underlying22 PShaAdds.info5 rfl (by decide) (by decide) (.slice A3 L3 c3) (D ++ List.replicate j 0) 0 [.int .u8 0] (fun _ => True) (fun _ => False) rfl rfl ?c1 (fun _ h => h.elim) (fun _ _ => trivial) HN.out ?c2 ?c3 ?c4 ?_))
            case c1 => exact rfl
            case c2 => exact Below.refl _ _
            case c3 => exact HE.out.size
            case c4 => rw [← HL3.out]; have := HJL.out; omega
            intro v4 w4 hR4 hB4 hg4 hat4
            have HE4 := Aside0.mk (show Ext w w4 from HE.out.trans4 hB4)
            replace hR4 : NB w4 w.heap.size v4 (D ++ (List.replicate j 0 ++ [0])) := hR4
            rw [← List.replicate_succ'] at hR4
            obtain ⟨A4, c4, rfl, _, _⟩ := hR4.reads
            have HN4 := Aside0.mk hR4
            have HLM := Aside0.mk (show (D ++ List.replicate (j + 1) 0).length = L3 + 1 by rw [HL3.out]; simp; omega)
            have HJ' := Aside0.mk (show D.length + (j + 1) ≤ 64 by have := HLJ.out; have := HJL.out; omega)
            clear hR4 hB4 hg4 hat4 HN HE HC3
            go_wp2_with fail
            go_roundw
            case rel => exact ⟨j + 1, HJ', HN4, HE4⟩
            case measure => have h1 := HLM.out; have h2 := HJL.out; simp only []; omega
          · have hz : ((L3 : Int) < 64) = False := eq_false (by omega)
            have h64 : L3 = 64 := by omega
            subst h64
            have HX := Aside0.mk (show D ++ List.replicate j 0 = upto 64 D from upto_rep D j (by omega))
            have HXL := Aside0.mk (show (upto 64 D).length = 64 from upto_length 64 D HL0.out)
            obtain ⟨X, hX⟩ : ∃ X, X = upto 64 D := ⟨_, rfl⟩
            rw [← hX] at HX HXL
            have HXX := Aside0.mk hX
            have HN5 := Aside0.mk (show NB wx w.heap.size (.slice A3 64 c3) (part (xorF v) X 0) by unfold part; rw [List.take_zero, List.map_nil, List.nil_append, List.drop_zero, ← HX.out]; exact HN.out)
            have HE5 := HE
            obtain ⟨g3, cg, eg, hg1, hg2, cl, hg3⟩ := Kd.R_form HN5.out (by rw [part_len, HXL.out]; decide)
            rw [part_len, HXL.out] at eg
            injection eg with ea en ec
            subst ea
            subst ec
            clear hj hjz hX HJ HN HE hL3 hLj hC3 HL3 HLJ HC3 hg1 hg2 hg3 en hz
            go_wp2_with fail
            go_loopw [9] (fun i wr => ∃ x : Int, i = .int .i64 x ∧ Aside0 (0 ≤ x ∧ x ≤ 64) ∧ Aside0 (NB wr w.heap.size (.slice (some ⟨g3, 0, none⟩) 64 c3) (part (xorF v) X x.toNat)) ∧ Aside0 (Ext w wr)) (fun i _ => 64 - (intOf i).toNat)
            case atStart => exact ⟨0, rfl, ⟨by decide⟩, HN5, HE5⟩
            case round =>
              clear HN5 HE5
              obtain ⟨x, rfl, HXR, HN, HE⟩ := hrel
              obtain ⟨g0, g1⟩ := HXR.out
              obtain ⟨wy, hwy⟩ : ∃ wy : World, wy = wr := ⟨_, rfl⟩
              subst hwy
              by_cases hlt : x < 64
              · have HLT := Aside0.mk (And.intro g0 hlt)
                obtain ⟨hcl, hfr⟩ := Kd.R_celln 0 HN.out x g0 hlt
                have hrd : rdOf 0 (part (xorF v) X x.toNat) x = rd X x := by
                  have h := part_rd (xorF v) X x.toNat (by rw [HXL.out]; omega)
                  rw [Int.toNat_of_nonneg g0] at h
                  exact h
                rw [hrd] at hcl
                have hput := (Kd.R_putg HN.out x (xorF v (rd X x))).1
                have hset := part_setL (xorF v) X x.toNat (by rw [HXL.out]; omega)
                rw [Int.toNat_of_nonneg g0] at hset
                rw [hset] at hput
                have hw := Wrote.setCell wy g3 x.toNat (.int .u8 (xorF v (rd X x)))
                have HEn := Aside0.mk (hw.ext HE.out (Kd.R_base HN.out g3 rfl))
                unfold xorF at hput HEn
                have HPUT := Aside0.mk (show NB _ w.heap.size _ (part (xorF v) X (x + 1).toNat) by rw [show (x + 1).toNat = x.toNat + 1 by omega]; exact hput)
                clear hrd hput hset hw HN HE
                go_wp2_with fail
                go_roundw
                case rel => exact ⟨x + 1, rfl, ⟨by have := HLT.out; omega⟩, HPUT, HEn⟩
                case measure => have := HLT.out; simp only [intOf]; omega
              · have hxe : x = 64 := by omega
                subst hxe
                have HBF := Aside0.mk (show NB wy w.heap.size (.slice (some ⟨g3, 0, none⟩) 64 c3) (blockF k v) by
                  have h : part (xorF v) X 64 = blockF k v := by
                    unfold part blockF; rw [List.take_of_length_le (by rw [HXL.out]; exact Nat.le_refl _), List.drop_eq_nil_of_le (by rw [HXL.out]; exact Nat.le_refl _), List.append_nil, HXX.out, HKEY.out]
                  rw [← h]; exact HN.out)
                clear HN hlt g0 g1
                go_wp2_with fail
                go_ret
                exact ⟨_, _, rfl, HBF.out, HE.out⟩

theorem rblock_calls (w : World) (A : Option Addr) (c n : Nat) (k : List Int) (v : Int) (hT : Tab 0 w) (hn : n = k.length) (hr : Kd.C kb w A n k) (hc : n ≤ c) (hl : n ≤ 1099511627776) :
    Calls Tryd.prog 40 #[.slice A n c, .int .u8 v] w fun e w' => ∃ A2 c2, e = .returned (.slice A2 64 c2) ∧ NB w' w.heap.size (.slice A2 64 c2) (blockF k v) ∧ Ext w w' := by
  rcases Nat.lt_or_ge 64 n with h | h
  · exact rblock_long w A c n k v hT hn hr hc h hl
  · exact rblock_short w A c n k v hn hr hc h
end Go.Proofs.YtbnbncnmhhioeaaDoor.By

/- A sum under a key as the document puts it: rillref02.Of. -/
namespace Go.Proofs.YtbnbncnmhhioeaaDoor.By
open Go.RowKit Go.Proofs.YtbnbncnmhhioeaaDoor.Reg Go.Proofs.YtbnbncnmhhioeaaDoorW.PrintWords Go.Proofs.YtbnbncnmhhioeaaDoorW.PrintLast Go.Proofs.YtbnbncnmhhioeaaDoorW.PrintMore
set_option linter.unusedVariables false

set_option maxRecDepth 100000 in
set_option maxHeartbeats 16000000 in
theorem rmac_calls (w : World) (A B : Option Addr) (c d n m : Nat) (k t : List Int) (hT0 : Tab 0 w) (hn : n = k.length) (hr : Kd.C kb w A n k) (hc : n ≤ c) (hl : n ≤ 1000000) (hm : m = t.length) (hr' : Kd.C kb w B m t) (hc' : m ≤ d) (hl' : m ≤ 1000000) :
    Calls Tryd.prog 27 #[.slice A n c, .slice B m d] w fun e w' => e = .returned (sumV (macF k t)) ∧ Ext w w' := by
  have HK := Aside0.mk (show Blk (w.alloc (.cells #[Value.int .u8 0, Value.int .u8 0, Value.int .u8 0, Value.int .u8 0, Value.int .u8 0, Value.int .u8 0, Value.int .u8 0, Value.int .u8 0, Value.int .u8 0, Value.int .u8 0, Value.int .u8 0, Value.int .u8 0, Value.int .u8 0, Value.int .u8 0, Value.int .u8 0, Value.int .u8 0, Value.int .u8 0, Value.int .u8 0, Value.int .u8 0, Value.int .u8 0, Value.int .u8 0, Value.int .u8 0, Value.int .u8 0, Value.int .u8 0, Value.int .u8 0, Value.int .u8 0, Value.int .u8 0, Value.int .u8 0, Value.int .u8 0, Value.int .u8 0, Value.int .u8 0, Value.int .u8 0] 26)) w.heap.size (nums .u8 zs).toArray 26 from Blk.new w _ 26)
  have HE := Aside0.mk ((Ext.refl w).alloc (.cells #[Value.int .u8 0, Value.int .u8 0, Value.int .u8 0, Value.int .u8 0, Value.int .u8 0, Value.int .u8 0, Value.int .u8 0, Value.int .u8 0, Value.int .u8 0, Value.int .u8 0, Value.int .u8 0, Value.int .u8 0, Value.int .u8 0, Value.int .u8 0, Value.int .u8 0, Value.int .u8 0, Value.int .u8 0, Value.int .u8 0, Value.int .u8 0, Value.int .u8 0, Value.int .u8 0, Value.int .u8 0, Value.int .u8 0, Value.int .u8 0, Value.int .u8 0, Value.int .u8 0, Value.int .u8 0, Value.int .u8 0, Value.int .u8 0, Value.int .u8 0, Value.int .u8 0, Value.int .u8 0] 26))
  have HR := Aside0.mk (Kd.C_below hr HE.out)
  have HR' := Aside0.mk (Kd.C_below hr' HE.out)
  have HT := Aside0.mk (hT0.ext HE.out)
  have HNN := Aside0.mk hn
  have HM := Aside0.mk hm
  obtain ⟨K1, hK1⟩ : ∃ K1, K1 = blockF k 54 := ⟨_, rfl⟩
  obtain ⟨K2, hK2⟩ : ∃ K2, K2 = blockF k 92 := ⟨_, rfl⟩
  obtain ⟨I, hI⟩ : ∃ I, I = shaF (K1 ++ t) := ⟨_, rfl⟩
  obtain ⟨D, hD⟩ : ∃ D, D = shaF (K2 ++ I) := ⟨_, rfl⟩
  have HK1 := Aside0.mk hK1
  have HK2 := Aside0.mk hK2
  have HI := Aside0.mk hI
  have HD := Aside0.mk hD
  have HDM := Aside0.mk (show macF k t = D by rw [hD, hI, hK1, hK2]; rfl)
  have HL1 := Aside0.mk (show K1.length = 64 by rw [hK1, blockF_len])
  have HL2 := Aside0.mk (show K2.length = 64 by rw [hK2, blockF_len])
  have HL3 := Aside0.mk (show I.length = 32 by rw [hI, sha_len])
  have HL4 := Aside0.mk (show D.length = 32 by rw [hD, sha_len])
  have HS3 := Aside0.mk (show (Tryd.prog.info? 26).map (·.size) = some (nums .u8 I).length by rw [nums_length, HL3.out]; kernel_rfl)
  have HS4 := Aside0.mk (show (Tryd.prog.info? 26).map (·.size) = some (nums .u8 D).length by rw [nums_length, HL4.out]; kernel_rfl)
  clear hr hr' hT0 hn hm hK1 hK2 hI hD
  go_enter Tryd.func27, Tryd.ntmps27
  go_wp2_with fail
  obtain ⟨W0, hW0⟩ : ∃ W0, W0 = w.alloc (.cells #[Value.int .u8 0, Value.int .u8 0, Value.int .u8 0, Value.int .u8 0, Value.int .u8 0, Value.int .u8 0, Value.int .u8 0, Value.int .u8 0, Value.int .u8 0, Value.int .u8 0, Value.int .u8 0, Value.int .u8 0, Value.int .u8 0, Value.int .u8 0, Value.int .u8 0, Value.int .u8 0, Value.int .u8 0, Value.int .u8 0, Value.int .u8 0, Value.int .u8 0, Value.int .u8 0, Value.int .u8 0, Value.int .u8 0, Value.int .u8 0, Value.int .u8 0, Value.int .u8 0, Value.int .u8 0, Value.int .u8 0, Value.int .u8 0, Value.int .u8 0, Value.int .u8 0, Value.int .u8 0] 26) := ⟨_, rfl⟩
  rw [← hW0] at HK HE HR HR' HT ⊢
  clear hW0
  refine (rblock_calls W0 A c n k 54 HT.out HNN.out HR.out hc (by omega)).mono ?_
  rintro e w1 ⟨A2, c2, rfl, hNB, hE1⟩
  rw [← HK1.out] at hNB
  have HN0 := Aside0.mk (show NB w1 W0.heap.size (.slice A2 64 c2) (K1 ++ t.take 0) by rw [List.take_zero, List.append_nil]; exact hNB)
  have HE0 := Aside0.mk hE1
  clear hNB hE1
  go_wp2_with fail
  go_loopw [5, 6] (fun u i wr => ∃ x : Int, i = .int .i64 x ∧ Aside0 (0 ≤ x ∧ x ≤ m) ∧ Aside0 (NB wr W0.heap.size u (K1 ++ t.take x.toNat)) ∧ Aside0 (Ext W0 wr)) (fun _ i _ => m - (intOf i).toNat)
  case atStart => exact ⟨0, rfl, ⟨by omega⟩, HN0, HE0⟩
  case round =>
    clear HN0 HE0
    obtain ⟨x, rfl, HXR, HN, HEX⟩ := hrel
    obtain ⟨g0, g1⟩ := HXR.out
    have HE' := HE
    clear HE
    have HE := HEX
    clear HEX
    obtain ⟨wx, hwx⟩ : ∃ wx : World, wx = wr := ⟨_, rfl⟩
    subst hwx
    by_cases hlt : x < m
    · have HLT := Aside0.mk (And.intro g0 hlt)
      obtain ⟨adx, eax, hcell⟩ := at_k (Kd.C_below HR'.out HE.out) x g0 hlt
      subst eax
      have HTK := Aside0.mk (show (K1 ++ t.take x.toNat) ++ [rd t x] = K1 ++ t.take (x + 1).toNat by
        have h := take_rd t x.toNat (by rw [← HM.out]; omega)
        rw [Int.toNat_of_nonneg g0] at h
        rw [List.append_assoc, h, show (x + 1).toNat = x.toNat + 1 by omega])
      have HTL := Aside0.mk (show (K1 ++ t.take x.toNat).length ≤ 1000064 by rw [List.length_append, HL1.out, List.length_take]; omega)
      obtain ⟨A3, c3, hu3, _, _⟩ := HN.out.reads
      obtain ⟨L3, hL3⟩ : ∃ L3, L3 = (K1 ++ t.take x.toNat).length := ⟨_, rfl⟩
      rw [← hL3] at hu3
      subst hu3
      clear hL3
      obtain ⟨P3, hP3⟩ : ∃ P3, P3 = K1 ++ t.take x.toNat := ⟨_, rfl⟩
      rw [← hP3] at HN HTK HTL
      clear hP3
      go_wp2_with (at_builtin; go_loud (refine Kd.R_append kb (w0 := wx) (W0.heap.size) rfl (.tmp 17) (.tmp 22) 22 5 _ 1 rfl Tryd.underlying22 PShaAdds.info5 rfl (by decide) (by decide) (.slice A3 L3 c3) P3 (rd t x) [.int .u8 (rd t x)] (fun _ => True) (fun _ => False) rfl rfl ?c1 (fun _ h => h.elim) (fun _ _ => trivial) HN.out ?c2 ?c3 ?c4 ?_))
      case c1 => exact rfl
      case c2 => exact Below.refl _ _
      case c3 => exact HE.out.size
      case c4 => have := HTL.out; omega
      intro v4 w4 hR4 hB4 hg4 hat4
      have HE4 := Aside0.mk (show Ext W0 w4 from HE.out.trans4 hB4)
      replace hR4 : NB w4 W0.heap.size v4 (P3 ++ [rd t x]) := hR4
      rw [HTK.out] at hR4
      have HN4 := Aside0.mk hR4
      clear hR4 hB4 hg4 hat4 HN HE
      go_wp2_with fail
      go_roundw
      case rel => exact ⟨x + 1, rfl, ⟨by have := HLT.out; omega⟩, HN4, HE4⟩
      case measure => have := HLT.out; simp only [intOf]; omega
    · have hxe : x = m := by omega
      subst hxe
      have hL0e : t.take ((m : Int)).toNat = t := by rw [Int.toNat_natCast, HM.out]; exact List.take_length
      rw [hL0e] at HN
      obtain ⟨P, hP⟩ : ∃ P, P = K1 ++ t := ⟨_, rfl⟩
      rw [← hP] at HN HI
      have HPL := Aside0.mk (show P.length = 64 + m by rw [hP, List.length_append, HL1.out, HM.out])
      obtain ⟨A3, c3, hu3, hc3, hC3⟩ := HN.out.reads
      obtain ⟨L3, hL3⟩ : ∃ L3, L3 = P.length := ⟨_, rfl⟩
      rw [← hL3] at hu3 hc3 hC3
      subst hu3
      have HP3 := Aside0.mk (And.intro hL3 hC3)
      have hL3b : L3 ≤ 1099511627776 := by rw [hL3, HPL.out]; omega
      have HX1 := HE
      clear hL0e hlt g0 g1 HXR hP HN HE hL3 hC3
      go_wp2_with fail
      refine (rof_calls _ A3 c3 L3 P HP3.out.1 (HT.out.ext HX1.out) HP3.out.2 hc3 hL3b).mono ?_
      rintro e w2 ⟨rfl, hE2⟩
      rw [← HI.out]
      have HX2 := Aside0.mk (HX1.out.trans hE2)
      have HSI := Aside0.mk (show (nums .u8 zs).toArray.size = (nums .u8 I).length by rw [nums_length, HL3.out]; rfl)
      have HSD := Aside0.mk (show (nums .u8 zs).toArray.size = (nums .u8 D).length by rw [nums_length, HL4.out]; rfl)
      clear hE2 HX1 HP3 hc3 hL3b
      go_wp2_with (first | ((with_reducible refine gate_store (ty := 26) rfl ?_); (refine store_at rfl 26 _ _ rfl w2.heap.size (nums .u8 I) rfl rfl _ 26 (Blk.new w2 #[Value.int .u8 0, Value.int .u8 0, Value.int .u8 0, Value.int .u8 0, Value.int .u8 0, Value.int .u8 0, Value.int .u8 0, Value.int .u8 0, Value.int .u8 0, Value.int .u8 0, Value.int .u8 0, Value.int .u8 0, Value.int .u8 0, Value.int .u8 0, Value.int .u8 0, Value.int .u8 0, Value.int .u8 0, Value.int .u8 0, Value.int .u8 0, Value.int .u8 0, Value.int .u8 0, Value.int .u8 0, Value.int .u8 0, Value.int .u8 0, Value.int .u8 0, Value.int .u8 0, Value.int .u8 0, Value.int .u8 0, Value.int .u8 0, Value.int .u8 0, Value.int .u8 0, Value.int .u8 0] 26) HSI.out HS3.out (one_cells _ _) ?_)) | fail)
      intro w3 hW3 hB3
      have hx3 := hW3.ext ((Ext.refl w2).alloc _) (Nat.le_refl _)
      have HX3 := Aside0.mk (HX2.out.trans hx3)
      have HBI := Aside0.mk hB3
      clear hW3 hB3 hx3 HX2
      go_wp2_with fail
      refine (rblock_calls w3 A c n k 92 (HT.out.ext HX3.out) HNN.out (Kd.C_below HR.out HX3.out) hc (by omega)).mono ?_
      rintro e w5 ⟨A5, c5, rfl, hNB, hE5⟩
      rw [← HK2.out] at hNB
      have HN0 := Aside0.mk (show NB w5 w3.heap.size (.slice A5 64 c5) (K2 ++ I.take 0) by rw [List.take_zero, List.append_nil]; exact hNB)
      have HE0 := Aside0.mk hE5
      clear hNB hE5
      go_wp2_with fail
      go_loopw [5, 8] (fun u i wr => ∃ x : Int, i = .int .i64 x ∧ Aside0 (0 ≤ x ∧ x ≤ 32) ∧ Aside0 (NB wr w3.heap.size u (K2 ++ I.take x.toNat)) ∧ Aside0 (Ext w3 wr)) (fun _ i _ => 32 - (intOf i).toNat)
      case atStart => exact ⟨0, rfl, ⟨by decide⟩, HN0, HE0⟩
      case round =>
        clear HN0 HE0
        obtain ⟨x, rfl, HXR, HN, HE⟩ := hrel
        obtain ⟨g0, g1⟩ := HXR.out
        obtain ⟨wx, hwx⟩ : ∃ wx : World, wx = wr := ⟨_, rfl⟩
        subst hwx
        by_cases hlt : x < 32
        · have HLT := Aside0.mk (And.intro g0 hlt)
          have hcell := (HBI.out.ext HE.out).cell x.toNat (v := .int .u8 (rd I x)) (by
            have h := nums_cell I x.toNat (by rw [HL3.out]; omega)
            rwa [Int.toNat_of_nonneg g0] at h)
          have HTK := Aside0.mk (show (K2 ++ I.take x.toNat) ++ [rd I x] = K2 ++ I.take (x + 1).toNat by
            have h := take_rd I x.toNat (by rw [HL3.out]; omega)
            rw [Int.toNat_of_nonneg g0] at h
            rw [List.append_assoc, h, show (x + 1).toNat = x.toNat + 1 by omega])
          have HTL := Aside0.mk (show (K2 ++ I.take x.toNat).length ≤ 200 by rw [List.length_append, HL2.out, List.length_take]; omega)
          obtain ⟨A3, c3, hu3, _, _⟩ := HN.out.reads
          obtain ⟨L3, hL3⟩ : ∃ L3, L3 = (K2 ++ I.take x.toNat).length := ⟨_, rfl⟩
          rw [← hL3] at hu3
          subst hu3
          clear hL3
          obtain ⟨P3, hP3⟩ : ∃ P3, P3 = K2 ++ I.take x.toNat := ⟨_, rfl⟩
          rw [← hP3] at HN HTK HTL
          clear hP3
          go_wp2_with (at_builtin; go_loud (refine Kd.R_append kb (w0 := wx) (w3.heap.size) rfl (.tmp 32) (.tmp 36) 22 5 _ 1 rfl Tryd.underlying22 PShaAdds.info5 rfl (by decide) (by decide) (.slice A3 L3 c3) P3 (rd I x) [.int .u8 (rd I x)] (fun _ => True) (fun _ => False) rfl rfl ?c1 (fun _ h => h.elim) (fun _ _ => trivial) HN.out ?c2 ?c3 ?c4 ?_))
          case c1 => exact rfl
          case c2 => exact Below.refl _ _
          case c3 => exact HE.out.size
          case c4 => have := HTL.out; omega
          intro v4 w4 hR4 hB4 hg4 hat4
          have HE4 := Aside0.mk (show Ext w3 w4 from HE.out.trans4 hB4)
          replace hR4 : NB w4 w3.heap.size v4 (P3 ++ [rd I x]) := hR4
          rw [HTK.out] at hR4
          have HN4 := Aside0.mk hR4
          clear hR4 hB4 hg4 hat4 HN HE
          go_wp2_with fail
          go_roundw
          case rel => exact ⟨x + 1, rfl, ⟨by have := HLT.out; omega⟩, HN4, HE4⟩
          case measure => have := HLT.out; simp only [intOf]; omega
        · have hxe : x = 32 := by omega
          subst hxe
          have hL0e : I.take ((32 : Int)).toNat = I := by
            show I.take 32 = I
            exact List.take_of_length_le (by rw [HL3.out]; decide)
          rw [hL0e] at HN
          obtain ⟨P, hP⟩ : ∃ P, P = K2 ++ I := ⟨_, rfl⟩
          rw [← hP] at HN HD
          have HPL := Aside0.mk (show P.length = 96 by rw [hP, List.length_append, HL2.out, HL3.out])
          obtain ⟨A3, c3, hu3, hc3, hC3⟩ := HN.out.reads
          obtain ⟨L3, hL3⟩ : ∃ L3, L3 = P.length := ⟨_, rfl⟩
          rw [← hL3] at hu3 hc3 hC3
          subst hu3
          have HP3 := Aside0.mk (And.intro hL3 hC3)
          have hL3b : L3 ≤ 1099511627776 := by rw [hL3, HPL.out]; decide
          have HX1 := Aside0.mk (HX3.out.trans HE.out)
          clear hL0e hlt g0 g1 HXR hP HN HE hL3 hC3
          go_wp2_with fail
          refine (rof_calls _ A3 c3 L3 P HP3.out.1 (HT.out.ext HX1.out) HP3.out.2 hc3 hL3b).mono ?_
          rintro e w6 ⟨rfl, hE6⟩
          rw [← HD.out]
          have HX6 := Aside0.mk (HX1.out.trans hE6)
          have HK6 := Aside0.mk (HK.out.ext HX6.out)
          have HE6 := Aside0.mk (HE'.out.trans HX6.out)
          clear hE6 HX1 HP3 hc3 hL3b
          go_wp2_with (first | ((with_reducible refine gate_store (ty := 26) rfl ?_); (refine store_at rfl 26 _ _ rfl w.heap.size (nums .u8 D) rfl rfl _ 26 HK6.out HSD.out HS4.out (one_cells _ _) ?_)) | fail)
          intro wf hWf hBf
          have HEF := Aside0.mk (hWf.ext HE6.out (Nat.le_refl _))
          have HBf := Aside0.mk hBf
          clear hWf hBf HE6 HK6
          go_wp2_with fail
          (try simp only [Exit.inBlock, Exit.then])
          refine bodyPost_ret (results_cell_row rfl _ _ w.heap.size 26 (nums .u8 D).toArray (0, 0) _ rfl HBf.out.is Tryd.underlying26 rfl (by simpa using HS4.out)) rfl ?_
          rw [HDM.out]
          exact ⟨rfl, HEF.out⟩
end Go.Proofs.YtbnbncnmhhioeaaDoor.By

/- Small functions of layer 2: a row of bytes; a string as bytes; keys by a label; sums of the same bytes. -/
namespace Go.Proofs.YtbnbncnmhhioeaaDoor.By
open Go.RowKit Go.Proofs.YtbnbncnmhhioeaaDoor.Reg Go.Proofs.YtbnbncnmhhioeaaDoorW.PrintWords Go.Proofs.YtbnbncnmhhioeaaDoorW.PrintLast Go.Proofs.YtbnbncnmhhioeaaDoorW.PrintMore
set_option linter.unusedVariables false

/-! bytes of a string -/
def bytesS (s : ByteArray) : List Int := s.data.toList.map fun b => (b.toNat : Int)
theorem bytesS_len (s : ByteArray) : (bytesS s).length = s.size := by unfold bytesS; rw [List.length_map]; exact Array.length_toList
theorem bytesS_isB (s : ByteArray) : isB (bytesS s) := fun x hx => by
  obtain ⟨b, _, rfl⟩ := List.mem_map.1 hx
  have := b.toNat_lt
  omega
theorem bytesWorld_ext (w : World) (s : ByteArray) : Ext w (Lib.bytesWorld w 5 s) :=
  ⟨rfl, rfl, rfl, by rw [Lib.bytesWorld_size]; omega, fun k hk => Lib.bytesWorld_at_old w 5 s k hk⟩
theorem bytesWorld_C (w : World) (s : ByteArray) (hs : s.size ≤ 140737488355327) : Kd.C kb (Lib.bytesWorld w 5 s) (some ⟨w.heap.size, 0, none⟩) s.size (bytesS s) := by
  refine ⟨bytesS_len s, by omega, fun _ => ⟨⟨w.heap.size, 0, none⟩, rfl, fun j p hj => ⟨[.int .u8 p], rfl, rfl, fun i u hu => ?_⟩⟩⟩
  have hi : i = 0 := by have := (List.getElem?_eq_some_iff.1 hu).1; simpa using this
  subst hi
  rw [show u = .int .u8 p from (Option.some.inj hu).symm]
  have e : (⟨w.heap.size, 0, none⟩ : Addr).add (j * kb.sz + 0) = ⟨w.heap.size, j, none⟩ := by
    show (⟨w.heap.size, 0, none⟩ : Addr).add (j * 1 + 0) = _
    rw [Nat.mul_one, Nat.add_zero]; unfold Addr.add; split
    · rename_i h; rw [h]
    · simp
  rw [e]
  have hlt : j < s.size := by have := (List.getElem?_eq_some_iff.1 hj).1; rwa [bytesS_len] at this
  rw [Lib.bytesWorld_cell w 5 s j hlt]
  unfold bytesS at hj
  rw [List.getElem?_map] at hj
  obtain ⟨b, hb, rfl⟩ := Option.map_eq_some_iff.1 hj
  rw [List.getD_eq_getElem?_getD, hb]
  rfl
section
variable {W : World} {ops : Array Oper} {rest : List Oper} {o : Oper} {a : Act} {Q : Exit → Act → World → Prop}
theorem gate_conv {s d : TypeId} {x : Operand} (_ho : o.op = .convert s d x) (h : wpList Tryd.prog ops Q (o :: rest) a W) : wpList Tryd.prog ops Q (o :: rest) a W := h
theorem conv_at (hw : Region.wanted o (yielded ops a.tmps) = true) (x : Operand) (ho : o.op = .convert 9 22 x) (s : ByteArray) (hx : a.eval x = .string s) (hs : s.size ≤ 140737488355327)
    (h : ∀ A c w', Ext W w' → Kd.C kb w' A s.size (bytesS s) → s.size ≤ c → wpList Tryd.prog ops Q rest (a.put o.dst (.slice A s.size c)) w') : wpList Tryd.prog ops Q (o :: rest) a W :=
  BigFrame.wpList_want hw fun K hK => by
    have hr := Lib.run_convert_string_bytes (P := Tryd.prog) W 9 22 5 s Tryd.underlying9 Tryd.underlying22 Tryd.underlying5
    unfold Oper.wp execOp
    simp only [ho, hx, Sem.run_bind, hr, Result.andThen_ok, Sem.run_pure]
    exact hK _ _ (h _ _ _ (bytesWorld_ext W s) (bytesWorld_C W s hs) (grownCap_ge _ _ _ _))
end

/-! a row -/
set_option maxHeartbeats 4000000 in
theorem row_calls (w : World) (n v : Int) (h0 : 0 ≤ n) (h1 : n ≤ 1000) :
    Calls Tryd.prog 32 #[.int .i64 n, .int .u8 v] w fun e w' => ∃ A c, e = .returned (.slice A n.toNat c) ∧ n.toNat ≤ c ∧ Kd.C kb w' A n.toNat (List.replicate n.toNat v) ∧ Ext w w' := by
  go_enter Tryd.func32, Tryd.ntmps32
  go_wp2_with fail
  go_loopw [5, 6] (fun u i wr => ∃ x : Int, i = .int .i64 x ∧ Aside0 (0 ≤ x ∧ x ≤ n) ∧ Aside0 (NB wr w.heap.size u (List.replicate x.toNat v)) ∧ Aside0 (Ext w wr)) (fun _ i _ => (n - intOf i).toNat)
  case atStart => exact ⟨0, rfl, ⟨by omega⟩, ⟨NB_nil _ _⟩, ⟨Ext.refl _⟩⟩
  case round =>
    obtain ⟨x, rfl, HXR, HN, HE⟩ := hrel
    obtain ⟨g0, g1⟩ := HXR.out
    obtain ⟨wx, hwx⟩ : ∃ wx : World, wx = wr := ⟨_, rfl⟩
    subst hwx
    by_cases hlt : x < n
    · have HLT := Aside0.mk (And.intro g0 hlt)
      have HTK := Aside0.mk (show List.replicate x.toNat v ++ [v] = List.replicate (x + 1).toNat v by
        rw [show (x + 1).toNat = x.toNat + 1 by omega, List.replicate_succ'])
      have HTL := Aside0.mk (show (List.replicate x.toNat v).length ≤ 1000 by rw [List.length_replicate]; omega)
      obtain ⟨A3, c3, hu3, _, _⟩ := HN.out.reads
      obtain ⟨L3, hL3⟩ : ∃ L3, L3 = (List.replicate x.toNat v).length := ⟨_, rfl⟩
      rw [← hL3] at hu3
      subst hu3
      clear hL3
      obtain ⟨P3, hP3⟩ : ∃ P3, P3 = List.replicate x.toNat v := ⟨_, rfl⟩
      rw [← hP3] at HN HTK HTL
      clear hP3
      go_wp2_with (at_builtin; go_loud (refine Kd.R_append kb (w0 := wx) (w.heap.size) rfl (.tmp 12) (.tmp 14) 22 5 _ 1 rfl Tryd.underlying22 PShaAdds.info5 rfl (by decide) (by decide) (.slice A3 L3 c3) P3 v [.int .u8 v] (fun _ => True) (fun _ => False) rfl rfl ?c1 (fun _ h => h.elim) (fun _ _ => trivial) HN.out ?c2 ?c3 ?c4 ?_))
      case c1 => exact rfl
      case c2 => exact Below.refl _ _
      case c3 => exact HE.out.size
      case c4 => have := HTL.out; omega
      intro v4 w4 hR4 hB4 hg4 hat4
      have HE4 := Aside0.mk (show Ext w w4 from HE.out.trans4 hB4)
      replace hR4 : NB w4 w.heap.size v4 (P3 ++ [v]) := hR4
      rw [HTK.out] at hR4
      have HN4 := Aside0.mk hR4
      clear hR4 hB4 hg4 hat4 HN HE
      go_wp2_with fail
      go_roundw
      case rel => exact ⟨x + 1, rfl, ⟨by have := HLT.out; omega⟩, HN4, HE4⟩
      case measure => have := HLT.out; simp only [intOf]; omega
    · have hxe : x = n := by omega
      subst hxe
      obtain ⟨A3, c3, hu3, hc3, hC3⟩ := HN.out.reads
      obtain ⟨L3, hL3⟩ : ∃ L3, L3 = (List.replicate x.toNat v).length := ⟨_, rfl⟩
      rw [← hL3] at hu3 hc3 hC3
      subst hu3
      have HLL := Aside0.mk (show L3 = x.toNat by rw [hL3, List.length_replicate])
      have HC3 := Aside0.mk hC3
      clear hL3 hC3 HN
      go_wp2_with fail
      go_ret
      have e := HLL.out
      subst e
      exact ⟨_, _, rfl, by omega, HC3.out, HE.out⟩

/-! keys by a label -/

set_option maxRecDepth 100000 in
set_option maxHeartbeats 8000000 in
theorem derive_calls (w : World) (A : Option Addr) (c n : Nat) (k : List Int) (s : ByteArray) (hT : Tab 1 w) (h2 : 2 ≤ w.heap.size) (hn : n = k.length) (hr : Kd.C kb w A n k) (hc : n ≤ c) (hl : n ≤ 1000000) (hs : s.size ≤ 1000000) :
    Calls Tryd.prog 29 #[.slice A n c, .string s] w fun e w' => e = .returned (sumV (macF k (bytesS s))) ∧ Ext w w' := by
  have HK := Aside0.mk (show Blk (w.alloc (.cells #[Value.int .u8 0, Value.int .u8 0, Value.int .u8 0, Value.int .u8 0, Value.int .u8 0, Value.int .u8 0, Value.int .u8 0, Value.int .u8 0, Value.int .u8 0, Value.int .u8 0, Value.int .u8 0, Value.int .u8 0, Value.int .u8 0, Value.int .u8 0, Value.int .u8 0, Value.int .u8 0, Value.int .u8 0, Value.int .u8 0, Value.int .u8 0, Value.int .u8 0, Value.int .u8 0, Value.int .u8 0, Value.int .u8 0, Value.int .u8 0, Value.int .u8 0, Value.int .u8 0, Value.int .u8 0, Value.int .u8 0, Value.int .u8 0, Value.int .u8 0, Value.int .u8 0, Value.int .u8 0] 26)) w.heap.size (nums .u8 zs).toArray 26 from Blk.new w _ 26)
  have HE := Aside0.mk ((Ext.refl w).alloc (.cells #[Value.int .u8 0, Value.int .u8 0, Value.int .u8 0, Value.int .u8 0, Value.int .u8 0, Value.int .u8 0, Value.int .u8 0, Value.int .u8 0, Value.int .u8 0, Value.int .u8 0, Value.int .u8 0, Value.int .u8 0, Value.int .u8 0, Value.int .u8 0, Value.int .u8 0, Value.int .u8 0, Value.int .u8 0, Value.int .u8 0, Value.int .u8 0, Value.int .u8 0, Value.int .u8 0, Value.int .u8 0, Value.int .u8 0, Value.int .u8 0, Value.int .u8 0, Value.int .u8 0, Value.int .u8 0, Value.int .u8 0, Value.int .u8 0, Value.int .u8 0, Value.int .u8 0, Value.int .u8 0] 26))
  have HR := Aside0.mk (Kd.C_below hr HE.out)
  have HT := Aside0.mk (hT.ext HE.out)
  have HNN := Aside0.mk hn
  have H2 := Aside0.mk h2
  obtain ⟨D, hD⟩ : ∃ D, D = macF k (bytesS s) := ⟨_, rfl⟩
  have HDM := Aside0.mk hD
  have HS4 := Aside0.mk (show (Tryd.prog.info? 26).map (·.size) = some (nums .u8 D).length by rw [nums_length, hD, mac_len]; kernel_rfl)
  have HSD := Aside0.mk (show (nums .u8 zs).toArray.size = (nums .u8 D).length by rw [nums_length, hD, mac_len]; rfl)
  clear hr hT hn h2 hD
  go_enter Tryd.func29, Tryd.ntmps29
  go_wp2_with (first | ((with_reducible refine gate_conv (s := 9) (d := 22) rfl ?_); refine conv_at rfl (.tmp 6) rfl s rfl (by omega) ?_) | fail)
  intro B d w1 hE1 hC1 hd
  have HE1 := Aside0.mk (HE.out.trans hE1)
  have HX1 := Aside0.mk hE1
  have HC1 := Aside0.mk hC1
  clear hE1 hC1
  go_wp2_with fail
  refine (mac_calls _ A B c d n s.size k (bytesS s) (HT.out.ext HX1.out) (Nat.le_trans H2.out HE1.out.size) HNN.out (Kd.C_below HR.out HX1.out) hc hl (bytesS_len s).symm HC1.out hd hs).mono ?_
  rintro e w2 ⟨rfl, hE2⟩
  rw [← HDM.out]
  have HE2 := Aside0.mk (HE1.out.trans hE2)
  have HK2 := Aside0.mk ((HK.out.ext HX1.out).ext hE2)
  clear hE2 HE1 HK
  go_wp2_with (first | ((with_reducible refine gate_store (ty := 26) rfl ?_); (refine store_at rfl 26 _ _ rfl w.heap.size (nums .u8 D) rfl rfl _ 26 HK2.out HSD.out HS4.out (one_cells _ _) ?_)) | fail)
  intro wf hWf hBf
  have HEF := Aside0.mk (hWf.ext HE2.out (Nat.le_refl _))
  have HBf := Aside0.mk hBf
  clear hWf hBf HE2 HK2
  go_wp2_with fail
  (try simp only [Exit.inBlock, Exit.then])
  refine bodyPost_ret (results_cell_row rfl _ _ w.heap.size 26 (nums .u8 D).toArray (0, 0) _ rfl HBf.out.is Tryd.underlying26 rfl (by simpa using HS4.out)) rfl ?_
  rw [← HDM.out]
  exact ⟨rfl, HEF.out⟩

set_option maxRecDepth 100000 in
set_option maxHeartbeats 8000000 in
theorem rderive_calls (w : World) (A : Option Addr) (c n : Nat) (k : List Int) (s : ByteArray) (hT : Tab 0 w) (h2 : 2 ≤ w.heap.size) (hn : n = k.length) (hr : Kd.C kb w A n k) (hc : n ≤ c) (hl : n ≤ 1000000) (hs : s.size ≤ 1000000) :
    Calls Tryd.prog 30 #[.slice A n c, .string s] w fun e w' => e = .returned (sumV (macF k (bytesS s))) ∧ Ext w w' := by
  have HK := Aside0.mk (show Blk (w.alloc (.cells #[Value.int .u8 0, Value.int .u8 0, Value.int .u8 0, Value.int .u8 0, Value.int .u8 0, Value.int .u8 0, Value.int .u8 0, Value.int .u8 0, Value.int .u8 0, Value.int .u8 0, Value.int .u8 0, Value.int .u8 0, Value.int .u8 0, Value.int .u8 0, Value.int .u8 0, Value.int .u8 0, Value.int .u8 0, Value.int .u8 0, Value.int .u8 0, Value.int .u8 0, Value.int .u8 0, Value.int .u8 0, Value.int .u8 0, Value.int .u8 0, Value.int .u8 0, Value.int .u8 0, Value.int .u8 0, Value.int .u8 0, Value.int .u8 0, Value.int .u8 0, Value.int .u8 0, Value.int .u8 0] 26)) w.heap.size (nums .u8 zs).toArray 26 from Blk.new w _ 26)
  have HE := Aside0.mk ((Ext.refl w).alloc (.cells #[Value.int .u8 0, Value.int .u8 0, Value.int .u8 0, Value.int .u8 0, Value.int .u8 0, Value.int .u8 0, Value.int .u8 0, Value.int .u8 0, Value.int .u8 0, Value.int .u8 0, Value.int .u8 0, Value.int .u8 0, Value.int .u8 0, Value.int .u8 0, Value.int .u8 0, Value.int .u8 0, Value.int .u8 0, Value.int .u8 0, Value.int .u8 0, Value.int .u8 0, Value.int .u8 0, Value.int .u8 0, Value.int .u8 0, Value.int .u8 0, Value.int .u8 0, Value.int .u8 0, Value.int .u8 0, Value.int .u8 0, Value.int .u8 0, Value.int .u8 0, Value.int .u8 0, Value.int .u8 0] 26))
  have HR := Aside0.mk (Kd.C_below hr HE.out)
  have HT := Aside0.mk (hT.ext HE.out)
  have HNN := Aside0.mk hn
  have H2 := Aside0.mk h2
  obtain ⟨D, hD⟩ : ∃ D, D = macF k (bytesS s) := ⟨_, rfl⟩
  have HDM := Aside0.mk hD
  have HS4 := Aside0.mk (show (Tryd.prog.info? 26).map (·.size) = some (nums .u8 D).length by rw [nums_length, hD, mac_len]; kernel_rfl)
  have HSD := Aside0.mk (show (nums .u8 zs).toArray.size = (nums .u8 D).length by rw [nums_length, hD, mac_len]; rfl)
  clear hr hT hn h2 hD
  go_enter Tryd.func30, Tryd.ntmps30
  go_wp2_with (first | ((with_reducible refine gate_conv (s := 9) (d := 22) rfl ?_); refine conv_at rfl (.tmp 6) rfl s rfl (by omega) ?_) | fail)
  intro B d w1 hE1 hC1 hd
  have HE1 := Aside0.mk (HE.out.trans hE1)
  have HX1 := Aside0.mk hE1
  have HC1 := Aside0.mk hC1
  clear hE1 hC1
  go_wp2_with fail
  refine (rmac_calls _ A B c d n s.size k (bytesS s) (HT.out.ext HX1.out) HNN.out (Kd.C_below HR.out HX1.out) hc hl (bytesS_len s).symm HC1.out hd hs).mono ?_
  rintro e w2 ⟨rfl, hE2⟩
  rw [← HDM.out]
  have HE2 := Aside0.mk (HE1.out.trans hE2)
  have HK2 := Aside0.mk ((HK.out.ext HX1.out).ext hE2)
  clear hE2 HE1 HK
  go_wp2_with (first | ((with_reducible refine gate_store (ty := 26) rfl ?_); (refine store_at rfl 26 _ _ rfl w.heap.size (nums .u8 D) rfl rfl _ 26 HK2.out HSD.out HS4.out (one_cells _ _) ?_)) | fail)
  intro wf hWf hBf
  have HEF := Aside0.mk (hWf.ext HE2.out (Nat.le_refl _))
  have HBf := Aside0.mk hBf
  clear hWf hBf HE2 HK2
  go_wp2_with fail
  (try simp only [Exit.inBlock, Exit.then])
  refine bodyPost_ret (results_cell_row rfl _ _ w.heap.size 26 (nums .u8 D).toArray (0, 0) _ rfl HBf.out.is Tryd.underlying26 rfl (by simpa using HS4.out)) rfl ?_
  rw [← HDM.out]
  exact ⟨rfl, HEF.out⟩

/-! two sums of the same bytes -/
def uF (a b : List Int) : Nat → Int
  | 0 => 0
  | n + 1 => Go.bits .or .u8 (uF a b n) (Go.bits .xor .u8 (rd a n) (rd b n))
set_option maxRecDepth 100000 in
set_option maxHeartbeats 8000000 in
theorem same31_calls (w : World) (a b : List Int) (ha : a.length = 32) (hb : b.length = 32) :
    Calls Tryd.prog 31 #[sumV a, sumV b] w fun e w' => e = .returned (.bool (uF a b 32 == 0)) ∧ Ext w w' := by
  have hs1 : (w.alloc (.cells (nums .u8 a).toArray 26)).heap.size = w.heap.size + 1 := size_alloc _ _
  have hk := Blk.new (w.alloc (.cells (nums .u8 a).toArray 26)) (nums .u8 b).toArray 26
  rw [hs1] at hk
  have HB := Aside0.mk hk
  have HA := Aside0.mk ((Blk.new w (nums .u8 a).toArray 26).alloc (.cells (nums .u8 b).toArray 26))
  have HE := Aside0.mk (((Ext.refl w).alloc (.cells (nums .u8 a).toArray 26)).alloc (.cells (nums .u8 b).toArray 26))
  have HLA := Aside0.mk ha
  have HLB := Aside0.mk hb
  clear hk hs1 ha hb
  unfold sumV
  go_enter Tryd.func31, Tryd.ntmps31
  go_wp2_with fail
  obtain ⟨W0, hW0⟩ : ∃ W0, W0 = (w.alloc (.cells (nums .u8 a).toArray 26)).alloc (.cells (nums .u8 b).toArray 26) := ⟨_, rfl⟩
  rw [← hW0] at HA HB HE ⊢
  clear hW0
  go_loopw [5, 7] (fun u i wr => ∃ x : Int, i = .int .i64 x ∧ u = .int .u8 (uF a b x.toNat) ∧ Aside0 (0 ≤ x ∧ x ≤ 32) ∧ Aside0 (Ext W0 wr)) (fun _ i _ => 32 - (intOf i).toNat)
  case atStart => exact ⟨0, rfl, rfl, ⟨by decide⟩, ⟨Ext.refl _⟩⟩
  case round =>
    obtain ⟨x, rfl, rfl, HXR, HX⟩ := hrel
    obtain ⟨g0, g1⟩ := HXR.out
    obtain ⟨wx, hwx⟩ : ∃ wx : World, wx = wr := ⟨_, rfl⟩
    subst hwx
    by_cases hlt : x < 32
    · have HLT := Aside0.mk (And.intro g0 hlt)
      obtain ⟨u, hu⟩ : ∃ u, u = uF a b x.toNat := ⟨_, rfl⟩
      rw [← hu]
      have HU := Aside0.mk (show uF a b (x + 1).toNat = Go.bits .or .u8 u (Go.bits .xor .u8 (rd a x) (rd b x)) by
        rw [show (x + 1).toNat = x.toNat + 1 by omega, uF, ← hu, Int.toNat_of_nonneg g0])
      have hca := (HA.out.ext HX.out).cell x.toNat (v := .int .u8 (rd a x)) (by
        have h := nums_cell a x.toNat (by rw [HLA.out]; omega)
        rwa [Int.toNat_of_nonneg g0] at h)
      have hcb := (HB.out.ext HX.out).cell x.toNat (v := .int .u8 (rd b x)) (by
        have h := nums_cell b x.toNat (by rw [HLB.out]; omega)
        rwa [Int.toNat_of_nonneg g0] at h)
      have HCA := Aside0.mk hca
      have HCB := Aside0.mk hcb
      clear hu hca hcb
      go_wp2_with fail
      apply wp_region_facts 9 [RF.val _, RF.val _, RF.val _, RF.val _, RF.val _, RF.val _, RF.val _, RF.val _, RF.val _]
      case hm => kernel_rfl
      case hB => kernel_rfl
      case h =>
        simp only [List.take_succ_cons, List.take_zero, List.zip_cons_cons, List.zip_nil_left]
        refine wpF_val rfl (fun w' hE hD => by unfold Yld; go_simp; exact ⟨Ext.refl _, rfl⟩) ?_
        (try simp only [Act.put, List.setIfInBounds_toArray, List.set_cons_zero, List.set_cons_succ])
        refine wpF_val rfl (fun w' hE hD => by unfold Yld; go_simp; exact ⟨Ext.refl _, rfl⟩) ?_
        (try simp only [Act.put, List.setIfInBounds_toArray, List.set_cons_zero, List.set_cons_succ])
        refine wpF_val rfl (fun w' hE hD => by unfold Yld; go_simp; exact ⟨Ext.refl _, rfl⟩) ?_
        (try simp only [Act.put, List.setIfInBounds_toArray, List.set_cons_zero, List.set_cons_succ])
        refine wpF_val rfl (fun w' hE hD => by have hcx := Ext.cell hE HCA.out; unfold Yld; go_simp; exact ⟨Ext.refl _, rfl⟩) ?_
        (try simp only [Act.put, List.setIfInBounds_toArray, List.set_cons_zero, List.set_cons_succ])
        refine wpF_val rfl (fun w' hE hD => by unfold Yld; go_simp; exact ⟨Ext.refl _, rfl⟩) ?_
        (try simp only [Act.put, List.setIfInBounds_toArray, List.set_cons_zero, List.set_cons_succ])
        refine wpF_val rfl (fun w' hE hD => by unfold Yld; go_simp; exact ⟨Ext.refl _, rfl⟩) ?_
        (try simp only [Act.put, List.setIfInBounds_toArray, List.set_cons_zero, List.set_cons_succ])
        refine wpF_val rfl (fun w' hE hD => by have hcx := Ext.cell hE HCB.out; unfold Yld; go_simp; exact ⟨Ext.refl _, rfl⟩) ?_
        (try simp only [Act.put, List.setIfInBounds_toArray, List.set_cons_zero, List.set_cons_succ])
        refine wpF_val rfl (fun w' hE hD => by unfold Yld; go_simp; exact ⟨Ext.refl _, rfl⟩) ?_
        (try simp only [Act.put, List.setIfInBounds_toArray, List.set_cons_zero, List.set_cons_succ])
        refine wpF_val rfl (fun w' hE hD => by unfold Yld; go_simp; exact ⟨Ext.refl _, rfl⟩) ?_
        (try simp only [Act.put, List.setIfInBounds_toArray, List.set_cons_zero, List.set_cons_succ])
        refine wpF_nil fun w8 hE hA => ?_
        have HX8 := Aside0.mk (HX.out.trans hE)
        simp only [List.drop_succ_cons, List.drop_zero]
        clear hA hE HX
        go_wp2_with fail
        go_roundw
        case rel => exact ⟨x + 1, rfl, by rw [HU.out], ⟨by have := HLT.out; omega⟩, HX8⟩
        case measure => have := HLT.out; simp only [intOf]; omega
    · have hxe : x = 32 := by omega
      subst hxe
      obtain ⟨u, hu⟩ : ∃ u, u = uF a b 32 := ⟨_, rfl⟩
      rw [show uF a b (32 : Int).toNat = u from hu.symm]
      have HFE := Aside0.mk (HE.out.trans HX.out)
      have HUE := Aside0.mk hu
      clear hu
      go_wp2_with fail
      go_ret
      have e := HUE.out
      subst e
      exact ⟨rfl, HFE.out⟩


/-! a text of digits -/
def digF (c : Int) : Int := if 97 ≤ c then c - 97 + 10 else c - 48
def hexS (t : List Int) : Nat → List Int
  | 0 => zs
  | n + 1 => (hexS t n).set (n / 2) ((rd (hexS t n) ((n : Int) / 2) * 16 + digF (rd t n)) % 256)
theorem hexS_len (t : List Int) : ∀ n, (hexS t n).length = 32
  | 0 => rfl
  | n + 1 => by rw [hexS, List.length_set]; exact hexS_len t n
theorem isB_set {l : List Int} (h : isB l) (i : Nat) (v : Int) (hv : 0 ≤ v ∧ v < 256) : isB (l.set i v) := fun x hx => by
  rcases List.mem_or_eq_of_mem_set hx with h1 | h1
  · exact h x h1
  · rw [h1]; exact hv
theorem hexS_isB (t : List Int) : ∀ n, isB (hexS t n)
  | 0 => fun x hx => by rw [hexS, zs] at hx; rw [List.eq_of_mem_replicate hx]; decide
  | n + 1 => by rw [hexS]; exact isB_set (hexS_isB t n) _ _ (by omega)
theorem nums_set (P : List Int) (i : Nat) (v : Int) : (nums .u8 P).toArray.setIfInBounds i (.int .u8 v) = (nums .u8 (P.set i v)).toArray := by
  rw [List.setIfInBounds_toArray]
  unfold nums
  rw [List.map_set]
theorem bytesS_rd (s : ByteArray) (x : Nat) (h : x < s.size) : rd (bytesS s) x = (s[x].toNat : Int) := by
  unfold rd bytesS
  rw [Int.toNat_natCast, List.getD_eq_getElem?_getD, List.getElem?_map, List.getElem?_eq_getElem (by simpa using h)]
  rfl
set_option maxRecDepth 100000 in
set_option maxHeartbeats 8000000 in
theorem hex_calls (w : World) (s : ByteArray) (hs : s.size ≤ 64) :
    Calls Tryd.prog 33 #[.string s] w fun e w' => e = .returned (sumV (hexS (bytesS s) s.size)) ∧ Ext w w' := by
  have hs1 : (w.alloc (.cells #[Value.int .u8 0, Value.int .u8 0, Value.int .u8 0, Value.int .u8 0, Value.int .u8 0, Value.int .u8 0, Value.int .u8 0, Value.int .u8 0, Value.int .u8 0, Value.int .u8 0, Value.int .u8 0, Value.int .u8 0, Value.int .u8 0, Value.int .u8 0, Value.int .u8 0, Value.int .u8 0, Value.int .u8 0, Value.int .u8 0, Value.int .u8 0, Value.int .u8 0, Value.int .u8 0, Value.int .u8 0, Value.int .u8 0, Value.int .u8 0, Value.int .u8 0, Value.int .u8 0, Value.int .u8 0, Value.int .u8 0, Value.int .u8 0, Value.int .u8 0, Value.int .u8 0, Value.int .u8 0] 26)).heap.size = w.heap.size + 1 := size_alloc _ _
  have hk := Blk.new (w.alloc (.cells #[Value.int .u8 0, Value.int .u8 0, Value.int .u8 0, Value.int .u8 0, Value.int .u8 0, Value.int .u8 0, Value.int .u8 0, Value.int .u8 0, Value.int .u8 0, Value.int .u8 0, Value.int .u8 0, Value.int .u8 0, Value.int .u8 0, Value.int .u8 0, Value.int .u8 0, Value.int .u8 0, Value.int .u8 0, Value.int .u8 0, Value.int .u8 0, Value.int .u8 0, Value.int .u8 0, Value.int .u8 0, Value.int .u8 0, Value.int .u8 0, Value.int .u8 0, Value.int .u8 0, Value.int .u8 0, Value.int .u8 0, Value.int .u8 0, Value.int .u8 0, Value.int .u8 0, Value.int .u8 0] 26)) #[Value.int .u8 0, Value.int .u8 0, Value.int .u8 0, Value.int .u8 0, Value.int .u8 0, Value.int .u8 0, Value.int .u8 0, Value.int .u8 0, Value.int .u8 0, Value.int .u8 0, Value.int .u8 0, Value.int .u8 0, Value.int .u8 0, Value.int .u8 0, Value.int .u8 0, Value.int .u8 0, Value.int .u8 0, Value.int .u8 0, Value.int .u8 0, Value.int .u8 0, Value.int .u8 0, Value.int .u8 0, Value.int .u8 0, Value.int .u8 0, Value.int .u8 0, Value.int .u8 0, Value.int .u8 0, Value.int .u8 0, Value.int .u8 0, Value.int .u8 0, Value.int .u8 0, Value.int .u8 0] 26
  rw [hs1] at hk
  have HB := Aside0.mk (show Blk ((w.alloc (.cells #[Value.int .u8 0, Value.int .u8 0, Value.int .u8 0, Value.int .u8 0, Value.int .u8 0, Value.int .u8 0, Value.int .u8 0, Value.int .u8 0, Value.int .u8 0, Value.int .u8 0, Value.int .u8 0, Value.int .u8 0, Value.int .u8 0, Value.int .u8 0, Value.int .u8 0, Value.int .u8 0, Value.int .u8 0, Value.int .u8 0, Value.int .u8 0, Value.int .u8 0, Value.int .u8 0, Value.int .u8 0, Value.int .u8 0, Value.int .u8 0, Value.int .u8 0, Value.int .u8 0, Value.int .u8 0, Value.int .u8 0, Value.int .u8 0, Value.int .u8 0, Value.int .u8 0, Value.int .u8 0] 26)).alloc (.cells #[Value.int .u8 0, Value.int .u8 0, Value.int .u8 0, Value.int .u8 0, Value.int .u8 0, Value.int .u8 0, Value.int .u8 0, Value.int .u8 0, Value.int .u8 0, Value.int .u8 0, Value.int .u8 0, Value.int .u8 0, Value.int .u8 0, Value.int .u8 0, Value.int .u8 0, Value.int .u8 0, Value.int .u8 0, Value.int .u8 0, Value.int .u8 0, Value.int .u8 0, Value.int .u8 0, Value.int .u8 0, Value.int .u8 0, Value.int .u8 0, Value.int .u8 0, Value.int .u8 0, Value.int .u8 0, Value.int .u8 0, Value.int .u8 0, Value.int .u8 0, Value.int .u8 0, Value.int .u8 0] 26)) (w.heap.size + 1) (nums .u8 (hexS (bytesS s) 0)).toArray 26 from hk)
  have HA := Aside0.mk (show Blk ((w.alloc (.cells #[Value.int .u8 0, Value.int .u8 0, Value.int .u8 0, Value.int .u8 0, Value.int .u8 0, Value.int .u8 0, Value.int .u8 0, Value.int .u8 0, Value.int .u8 0, Value.int .u8 0, Value.int .u8 0, Value.int .u8 0, Value.int .u8 0, Value.int .u8 0, Value.int .u8 0, Value.int .u8 0, Value.int .u8 0, Value.int .u8 0, Value.int .u8 0, Value.int .u8 0, Value.int .u8 0, Value.int .u8 0, Value.int .u8 0, Value.int .u8 0, Value.int .u8 0, Value.int .u8 0, Value.int .u8 0, Value.int .u8 0, Value.int .u8 0, Value.int .u8 0, Value.int .u8 0, Value.int .u8 0] 26)).alloc (.cells #[Value.int .u8 0, Value.int .u8 0, Value.int .u8 0, Value.int .u8 0, Value.int .u8 0, Value.int .u8 0, Value.int .u8 0, Value.int .u8 0, Value.int .u8 0, Value.int .u8 0, Value.int .u8 0, Value.int .u8 0, Value.int .u8 0, Value.int .u8 0, Value.int .u8 0, Value.int .u8 0, Value.int .u8 0, Value.int .u8 0, Value.int .u8 0, Value.int .u8 0, Value.int .u8 0, Value.int .u8 0, Value.int .u8 0, Value.int .u8 0, Value.int .u8 0, Value.int .u8 0, Value.int .u8 0, Value.int .u8 0, Value.int .u8 0, Value.int .u8 0, Value.int .u8 0, Value.int .u8 0] 26)) w.heap.size (nums .u8 zs).toArray 26 from (Blk.new w #[Value.int .u8 0, Value.int .u8 0, Value.int .u8 0, Value.int .u8 0, Value.int .u8 0, Value.int .u8 0, Value.int .u8 0, Value.int .u8 0, Value.int .u8 0, Value.int .u8 0, Value.int .u8 0, Value.int .u8 0, Value.int .u8 0, Value.int .u8 0, Value.int .u8 0, Value.int .u8 0, Value.int .u8 0, Value.int .u8 0, Value.int .u8 0, Value.int .u8 0, Value.int .u8 0, Value.int .u8 0, Value.int .u8 0, Value.int .u8 0, Value.int .u8 0, Value.int .u8 0, Value.int .u8 0, Value.int .u8 0, Value.int .u8 0, Value.int .u8 0, Value.int .u8 0, Value.int .u8 0] 26).alloc (.cells #[Value.int .u8 0, Value.int .u8 0, Value.int .u8 0, Value.int .u8 0, Value.int .u8 0, Value.int .u8 0, Value.int .u8 0, Value.int .u8 0, Value.int .u8 0, Value.int .u8 0, Value.int .u8 0, Value.int .u8 0, Value.int .u8 0, Value.int .u8 0, Value.int .u8 0, Value.int .u8 0, Value.int .u8 0, Value.int .u8 0, Value.int .u8 0, Value.int .u8 0, Value.int .u8 0, Value.int .u8 0, Value.int .u8 0, Value.int .u8 0, Value.int .u8 0, Value.int .u8 0, Value.int .u8 0, Value.int .u8 0, Value.int .u8 0, Value.int .u8 0, Value.int .u8 0, Value.int .u8 0] 26))
  have HE := Aside0.mk (((Ext.refl w).alloc (.cells #[Value.int .u8 0, Value.int .u8 0, Value.int .u8 0, Value.int .u8 0, Value.int .u8 0, Value.int .u8 0, Value.int .u8 0, Value.int .u8 0, Value.int .u8 0, Value.int .u8 0, Value.int .u8 0, Value.int .u8 0, Value.int .u8 0, Value.int .u8 0, Value.int .u8 0, Value.int .u8 0, Value.int .u8 0, Value.int .u8 0, Value.int .u8 0, Value.int .u8 0, Value.int .u8 0, Value.int .u8 0, Value.int .u8 0, Value.int .u8 0, Value.int .u8 0, Value.int .u8 0, Value.int .u8 0, Value.int .u8 0, Value.int .u8 0, Value.int .u8 0, Value.int .u8 0, Value.int .u8 0] 26)).alloc (.cells #[Value.int .u8 0, Value.int .u8 0, Value.int .u8 0, Value.int .u8 0, Value.int .u8 0, Value.int .u8 0, Value.int .u8 0, Value.int .u8 0, Value.int .u8 0, Value.int .u8 0, Value.int .u8 0, Value.int .u8 0, Value.int .u8 0, Value.int .u8 0, Value.int .u8 0, Value.int .u8 0, Value.int .u8 0, Value.int .u8 0, Value.int .u8 0, Value.int .u8 0, Value.int .u8 0, Value.int .u8 0, Value.int .u8 0, Value.int .u8 0, Value.int .u8 0, Value.int .u8 0, Value.int .u8 0, Value.int .u8 0, Value.int .u8 0, Value.int .u8 0, Value.int .u8 0, Value.int .u8 0] 26))
  clear hk hs1
  go_enter Tryd.func33, Tryd.ntmps33
  go_wp2_with fail
  obtain ⟨W0, hW0⟩ : ∃ W0, W0 = (w.alloc (.cells #[Value.int .u8 0, Value.int .u8 0, Value.int .u8 0, Value.int .u8 0, Value.int .u8 0, Value.int .u8 0, Value.int .u8 0, Value.int .u8 0, Value.int .u8 0, Value.int .u8 0, Value.int .u8 0, Value.int .u8 0, Value.int .u8 0, Value.int .u8 0, Value.int .u8 0, Value.int .u8 0, Value.int .u8 0, Value.int .u8 0, Value.int .u8 0, Value.int .u8 0, Value.int .u8 0, Value.int .u8 0, Value.int .u8 0, Value.int .u8 0, Value.int .u8 0, Value.int .u8 0, Value.int .u8 0, Value.int .u8 0, Value.int .u8 0, Value.int .u8 0, Value.int .u8 0, Value.int .u8 0] 26)).alloc (.cells #[Value.int .u8 0, Value.int .u8 0, Value.int .u8 0, Value.int .u8 0, Value.int .u8 0, Value.int .u8 0, Value.int .u8 0, Value.int .u8 0, Value.int .u8 0, Value.int .u8 0, Value.int .u8 0, Value.int .u8 0, Value.int .u8 0, Value.int .u8 0, Value.int .u8 0, Value.int .u8 0, Value.int .u8 0, Value.int .u8 0, Value.int .u8 0, Value.int .u8 0, Value.int .u8 0, Value.int .u8 0, Value.int .u8 0, Value.int .u8 0, Value.int .u8 0, Value.int .u8 0, Value.int .u8 0, Value.int .u8 0, Value.int .u8 0, Value.int .u8 0, Value.int .u8 0, Value.int .u8 0] 26) := ⟨_, rfl⟩
  rw [← hW0] at HA HB HE ⊢
  clear hW0
  go_loopw [4] (fun i wr => ∃ x : Nat, i = .int .i64 x ∧ Aside0 (x ≤ s.size) ∧ Aside0 (Blk wr (w.heap.size + 1) (nums .u8 (hexS (bytesS s) x)).toArray 26) ∧ Aside0 (Blk wr w.heap.size (nums .u8 zs).toArray 26) ∧ Aside0 (Ext w wr)) (fun i _ => 64 - (intOf i).toNat)
  case atStart => exact ⟨0, rfl, ⟨Nat.zero_le _⟩, HB, HA, HE⟩
  case round =>
    clear HB HA HE
    obtain ⟨x, rfl, HXR, HB, HA, HE⟩ := hrel
    have hx := HXR.out
    obtain ⟨wx, hwx⟩ : ∃ wx : World, wx = wr := ⟨_, rfl⟩
    subst hwx
    by_cases hlt : x < s.size
    · have g1 : ((x : Int) < 64) = True := eq_true (by omega)
      have g2 : (x : Int) / 2 < 32 := by omega
      have g3 : x / 2 < 32 := by omega
      have HLT := Aside0.mk hlt
      have HSTEP := Aside0.mk (show hexS (bytesS s) (x + 1) = (hexS (bytesS s) x).set (x / 2) ((rd (hexS (bytesS s) x) ((x : Int) / 2) * 16 + digF (s[x].toNat : Int)) % 256) by rw [hexS, bytesS_rd s x hlt])
      have HPL := Aside0.mk (hexS_len (bytesS s) x)
      obtain ⟨P, hP⟩ : ∃ P, P = hexS (bytesS s) x := ⟨_, rfl⟩
      rw [← hP] at HB HSTEP HPL
      clear hP
      have hcl := HB.out.cell (x / 2) (v := .int .u8 (rd P ((x : Int) / 2))) (by
        have h := nums_cell P (x / 2) (by rw [HPL.out]; omega)
        rwa [show ((x / 2 : Nat) : Int) = (x : Int) / 2 by omega] at h)
      have hfr := HB.out.free (x / 2)
      by_cases h97 : 97 ≤ s[x].toNat
      · have hv : digF (s[x].toNat : Int) = (s[x].toNat : Int) - 97 + 10 := by unfold digF; rw [if_pos (by omega)]
        rw [hv] at HSTEP
        have hst := HB.out.set (x / 2) (.int .u8 ((rd P ((x : Int) / 2) * 16 + ((s[x].toNat : Int) - 97 + 10)) % 256))
        rw [nums_set, ← HSTEP.out] at hst
        have HST := Aside0.mk hst
        have hw := Wrote.setCell wx (w.heap.size + 1) (x / 2) (.int .u8 ((rd P ((x : Int) / 2) * 16 + ((s[x].toNat : Int) - 97 + 10)) % 256))
        have HAn := Aside0.mk (HA.out.wrote hw (by omega))
        have HEn := Aside0.mk (hw.ext HE.out (Nat.le_succ _))
        clear hst hw hv HB HA HE
        go_wp2_with fail
        go_roundw
        case rel => exact ⟨x + 1, by congr 1, ⟨HLT.out⟩, HST, HAn, HEn⟩
        case measure => have := HLT.out; simp only [intOf]; omega
      · have hv : digF (s[x].toNat : Int) = (s[x].toNat : Int) - 48 := by unfold digF; rw [if_neg (by omega)]
        rw [hv] at HSTEP
        have hst := HB.out.set (x / 2) (.int .u8 ((rd P ((x : Int) / 2) * 16 + ((s[x].toNat : Int) - 48)) % 256))
        rw [nums_set, ← HSTEP.out] at hst
        have HST := Aside0.mk hst
        have hw := Wrote.setCell wx (w.heap.size + 1) (x / 2) (.int .u8 ((rd P ((x : Int) / 2) * 16 + ((s[x].toNat : Int) - 48)) % 256))
        have HAn := Aside0.mk (HA.out.wrote hw (by omega))
        have HEn := Aside0.mk (hw.ext HE.out (Nat.le_succ _))
        clear hst hw hv HB HA HE
        go_wp2_with fail
        go_roundw
        case rel => exact ⟨x + 1, by congr 1, ⟨HLT.out⟩, HST, HAn, HEn⟩
        case measure => have := HLT.out; simp only [intOf]; omega
    · have hxe : x = s.size := by omega
      subst hxe
      obtain ⟨P, hP⟩ : ∃ P, P = hexS (bytesS s) s.size := ⟨_, rfl⟩
      have HPE := Aside0.mk hP
      have HPL := Aside0.mk (show P.length = 32 by rw [hP]; exact hexS_len _ _)
      rw [← hP] at HB
      have HI := Aside0.mk (show (Tryd.prog.info? 26).map (·.size) = some (nums .u8 P).length by rw [nums_length, HPL.out]; kernel_rfl)
      have HSZ := Aside0.mk (show (nums .u8 zs).toArray.size = (nums .u8 P).length by rw [nums_length, HPL.out]; rfl)
      clear hlt hx HXR hP
      go_wp2_with (first | ((with_reducible refine gate_load (ty := 26) rfl ?_); refine load_at rfl 26 _ rfl (w.heap.size + 1) 0 rfl (nums .u8 P) _ (HB.out.range 0 _ [] (by simp)) Tryd.underlying26 rfl HI.out ?_) | ((with_reducible refine gate_store (ty := 26) rfl ?_); (refine store_at rfl 26 _ _ rfl w.heap.size (nums .u8 P) rfl rfl _ 26 HA.out HSZ.out HI.out (one_cells _ _) ?_)) | fail)
      intro wf hWf hBf
      have HEF := Aside0.mk (hWf.ext HE.out (Nat.le_refl _))
      have HBf := Aside0.mk hBf
      clear hWf hBf HE HB HA
      go_wp2_with fail
      (try simp only [Exit.inBlock, Exit.then])
      refine bodyPost_ret (results_cell_row rfl _ _ w.heap.size 26 (nums .u8 P).toArray (0, 0) _ rfl HBf.out.is Tryd.underlying26 rfl (by simpa using HI.out)) rfl ?_
      rw [← HPE.out]
      exact ⟨rfl, HEF.out⟩
end Go.Proofs.YtbnbncnmhhioeaaDoor.By

/- The published sum; two sums of the same bytes are one. -/
namespace Go.Proofs.YtbnbncnmhhioeaaDoor.By
open Go.RowKit Go.Proofs.YtbnbncnmhhioeaaDoor.Reg Go.Proofs.YtbnbncnmhhioeaaDoorW.PrintWords Go.Proofs.YtbnbncnmhhioeaaDoorW.PrintLast Go.Proofs.YtbnbncnmhhioeaaDoorW.PrintMore
set_option linter.unusedVariables false

/-- A row that is a constant's bytes. -/
theorem const_C (w : World) (l : List Int) (m : Nat × Nat) (hl : l.length ≤ 1000000) : Kd.C kb (w.alloc (.cells (nums .u8 l).toArray 5 m)) (some ⟨w.heap.size, 0, none⟩) l.length l :=
  C_of_cells (k := .u8) (fun j p hj => by
    have hb := heap_alloc_new w (.cells (nums .u8 l).toArray 5 m)
    rw [cell_of_cells hb, List.getElem?_toArray]
    simp [nums, hj]) hl
theorem sum_self (D : List Int) (h : D.length = 32) (hb : isB D) (W : World) : (Op.equal 26 (sumV D) (sumV D)).run Tryd.prog W = .ok true W := by
  have := equal_sum D D h h hb hb W
  rwa [show decide (D = D) = true by simp] at this
theorem kconv (w : World) (C : Array Value) (n c : Nat) : (convert 22 22 (.slice (some ⟨w.heap.size, 0, none⟩) n c)).run Tryd.prog (w.alloc (.cells C 5)) = .ok (.slice (some ⟨w.heap.size, 0, none⟩) n c) (w.alloc (.cells C 5 (C.size, C.size + 1))) :=
  Lib.run_convert_bytes_const (P := Tryd.prog) w 22 5 C n c Tryd.underlying22 Tryd.underlying5

theorem hi_is : macF (List.replicate 20 11) [72, 105, 32, 84, 104, 101, 114, 101] = hexS (bytesS ⟨#[98, 48, 51, 52, 52, 99, 54, 49, 100, 56, 100, 98, 51, 56, 53, 51, 53, 99, 97, 56, 97, 102, 99, 101, 97, 102, 48, 98, 102, 49, 50, 98, 56, 56, 49, 100, 99, 50, 48, 48, 99, 57, 56, 51, 51, 100, 97, 55, 50, 54, 101, 57, 51, 55, 54, 99, 50, 101, 51, 50, 99, 102, 102, 55]⟩) 64 := by decide +kernel
set_option maxRecDepth 100000 in
set_option maxHeartbeats 8000000 in
theorem works_calls (w : World) (hT : Tab 1 w) (h2 : 2 ≤ w.heap.size) : Calls Tryd.prog 25 #[] w fun e w' => e = .returned (.bool true) ∧ Ext w w' := by
  have HT := Aside0.mk hT
  have H2 := Aside0.mk h2
  obtain ⟨D, hD⟩ : ∃ D, D = macF (List.replicate 20 11) [72, 105, 32, 84, 104, 101, 114, 101] := ⟨_, rfl⟩
  have HD := Aside0.mk hD
  have HQ := Aside0.mk (sum_self D (by rw [hD, mac_len]) (by rw [hD]; exact mac_isB _ _))
  have kc := kconv
  clear hD hT h2
  go_enter Tryd.func25, Tryd.ntmps25
  go_wp2_with fail
  refine (row_calls w 20 11 (by decide) (by decide)).mono ?_
  rintro e w1 ⟨A, c, rfl, hc, hC, hE⟩
  have HE1 := Aside0.mk hE
  have HC1 := Aside0.mk hC
  have hc' : 20 ≤ c := hc
  clear hE hC hc
  have HX := Aside0.mk ((Ext.refl w1).alloc (.cells #[Value.int .u8 72, Value.int .u8 105, Value.int .u8 32, Value.int .u8 84, Value.int .u8 104, Value.int .u8 101, Value.int .u8 114, Value.int .u8 101] 5 (8, 9)))
  have HCT := Aside0.mk (show Kd.C kb (w1.alloc (.cells #[Value.int .u8 72, Value.int .u8 105, Value.int .u8 32, Value.int .u8 84, Value.int .u8 104, Value.int .u8 101, Value.int .u8 114, Value.int .u8 101] 5 (8, 9))) (some ⟨w1.heap.size, 0, none⟩) 8 [72, 105, 32, 84, 104, 101, 114, 101] from const_C w1 [72, 105, 32, 84, 104, 101, 114, 101] (8, 9) (by decide))
  have HCK := Aside0.mk (Kd.C_below HC1.out HX.out)
  have HE2 := Aside0.mk (HE1.out.trans HX.out)
  go_wp2_with fail
  refine (mac_calls _ A (some ⟨w1.heap.size, 0, none⟩) c 8 20 8 (List.replicate 20 11) [72, 105, 32, 84, 104, 101, 114, 101] (HT.out.ext HE2.out) (Nat.le_trans H2.out HE2.out.size) (by rw [List.length_replicate]) HCK.out hc' (by decide) rfl HCT.out (by decide) (by decide)).mono ?_
  rintro e w2 ⟨rfl, hE2⟩
  have HE3 := Aside0.mk (HE2.out.trans hE2)
  rw [← HD.out]
  clear hE2 HX HCT HCK HE2 kc
  go_wp2_with fail
  refine (hex_calls w2 ⟨#[98, 48, 51, 52, 52, 99, 54, 49, 100, 56, 100, 98, 51, 56, 53, 51, 53, 99, 97, 56, 97, 102, 99, 101, 97, 102, 48, 98, 102, 49, 50, 98, 56, 56, 49, 100, 99, 50, 48, 48, 99, 57, 56, 51, 51, 100, 97, 55, 50, 54, 101, 57, 51, 55, 54, 99, 50, 101, 51, 50, 99, 102, 102, 55]⟩ (by decide)).mono ?_
  rintro e w3 ⟨rfl, hE3⟩
  have HE4 := Aside0.mk (HE3.out.trans hE3)
  have he : hexS (bytesS ⟨#[98, 48, 51, 52, 52, 99, 54, 49, 100, 56, 100, 98, 51, 56, 53, 51, 53, 99, 97, 56, 97, 102, 99, 101, 97, 102, 48, 98, 102, 49, 50, 98, 56, 56, 49, 100, 99, 50, 48, 48, 99, 57, 56, 51, 51, 100, 97, 55, 50, 54, 101, 57, 51, 55, 54, 99, 50, 101, 51, 50, 99, 102, 102, 55]⟩) (ByteArray.size ⟨#[98, 48, 51, 52, 52, 99, 54, 49, 100, 56, 100, 98, 51, 56, 53, 51, 53, 99, 97, 56, 97, 102, 99, 101, 97, 102, 48, 98, 102, 49, 50, 98, 56, 56, 49, 100, 99, 50, 48, 48, 99, 57, 56, 51, 51, 100, 97, 55, 50, 54, 101, 57, 51, 55, 54, 99, 50, 101, 51, 50, 99, 102, 102, 55]⟩) = D := by rw [HD.out, hi_is]; rfl
  rw [he]
  clear hE3 HE3 he
  go_wp2_with (first | ((with_reducible refine gate_eql (ty := 26) rfl ?_); (refine eql_at rfl 26 26 _ _ rfl (nums .u8 D).toArray (nums .u8 D).toArray rfl rfl (by kernel_rfl) true (HQ.out _) ?_)) | fail)
  go_ret
  exact ⟨rfl, HE4.out⟩

/-! the sums' law -/
theorem u8_or0 (x y : Int) (h1 : 0 ≤ x) (h2 : x < 256) (h3 : 0 ≤ y) (h4 : y < 256) : (Go.bits .or .u8 x y = 0 ↔ x = 0 ∧ y = 0) ∧ 0 ≤ Go.bits .or .u8 x y ∧ Go.bits .or .u8 x y < 256 := by
  rw [u8_or x y h1 h2 h3 h4]
  have hb : x.toNat ||| y.toNat < 256 := Nat.or_lt_two_pow (n := 8) (by omega) (by omega)
  refine ⟨⟨fun h => ?_, fun h => ?_⟩, by omega, by omega⟩
  · have h0 : x.toNat ||| y.toNat = 0 := by omega
    have := Nat.or_eq_zero_iff.1 h0
    omega
  · rw [h.1, h.2]; rfl
theorem u8_xor0 (x y : Int) (h1 : 0 ≤ x) (h2 : x < 256) (h3 : 0 ≤ y) (h4 : y < 256) : (Go.bits .xor .u8 x y = 0 ↔ x = y) ∧ 0 ≤ Go.bits .xor .u8 x y ∧ Go.bits .xor .u8 x y < 256 := by
  rw [u8_xor x y h1 h2 h3 h4]
  have hb : x.toNat ^^^ y.toNat < 256 := Nat.xor_lt_two_pow (n := 8) (by omega) (by omega)
  refine ⟨⟨fun h => ?_, fun h => ?_⟩, by omega, by omega⟩
  · have h0 : x.toNat ^^^ y.toNat = 0 := by omega
    have h5 := congrArg (· ^^^ y.toNat) h0
    simp only [Nat.xor_assoc, Nat.xor_self, Nat.xor_zero, Nat.zero_xor] at h5
    omega
  · rw [h, Nat.xor_self]; rfl
theorem uF_law (a b : List Int) (ha : isB a) (hb : isB b) : ∀ n, (uF a b n = 0 ↔ ∀ i : Nat, i < n → rd a i = rd b i) ∧ 0 ≤ uF a b n ∧ uF a b n < 256
  | 0 => ⟨⟨fun _ i hi => absurd hi (by omega), fun _ => rfl⟩, by rw [uF]; decide, by rw [uF]; decide⟩
  | n + 1 => by
    obtain ⟨h1, h2, h3⟩ := uF_law a b ha hb n
    obtain ⟨x1, x2, x3⟩ := u8_xor0 (rd a n) (rd b n) (isB_rd ha _).1 (isB_rd ha _).2 (isB_rd hb _).1 (isB_rd hb _).2
    obtain ⟨o1, o2, o3⟩ := u8_or0 (uF a b n) _ h2 h3 x2 x3
    rw [uF]
    refine ⟨?_, o2, o3⟩
    rw [o1, x1, h1]
    refine ⟨fun h i hi => ?_, fun h => ⟨fun i hi => h i (by omega), h n (by omega)⟩⟩
    rcases Nat.lt_or_ge i n with hin | hin
    · exact h.1 i hin
    · rw [show i = n by omega]; exact h.2
theorem rd_ext {a b : List Int} (ha : a.length = 32) (hb : b.length = 32) (h : ∀ i : Nat, i < 32 → rd a i = rd b i) : a = b := by
  apply List.ext_getElem (by rw [ha, hb])
  intro i h1 h2
  have := h i (by omega)
  unfold rd at this
  rw [Int.toNat_natCast, List.getD_eq_getElem?_getD, List.getD_eq_getElem?_getD, List.getElem?_eq_getElem h1, List.getElem?_eq_getElem h2] at this
  exact this
theorem uF_eq (a b : List Int) (la : a.length = 32) (lb : b.length = 32) (ha : isB a) (hb : isB b) : (uF a b 32 == 0) = decide (a = b) := by
  have h := (uF_law a b ha hb 32).1
  rw [Bool.eq_iff_iff, beq_iff_eq, decide_eq_true_eq, h]
  exact ⟨fun h => rd_ext la lb h, fun h i _ => by rw [h]⟩
theorem same_sum (w : World) (a b : List Int) (r : Bool) (la : a.length = 32) (lb : b.length = 32) (ha : isB a) (hb : isB b) (hr : r = decide (a = b)) :
    Calls Tryd.prog 31 #[sumV a, sumV b] w fun e w' => e = .returned (.bool r) ∧ Ext w w' := by
  rw [hr, ← uF_eq a b la lb ha hb]
  exact same31_calls w a b la lb
end Go.Proofs.YtbnbncnmhhioeaaDoor.By
