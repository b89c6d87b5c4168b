/- PageBack. -/
import Derived.Test.YtkjjkahdmlfflaaPlaw
namespace Go.Proofs.Ytkjjkahdmlfflaa.By
open Go.RowKit Go.Proofs.Ytkjjkahdmlfflaa.Reg Go.Proofs.YtkjjkahdmlfflaaW.PrintWords Go.Proofs.YtkjjkahdmlfflaaW.PrintLast Go.Proofs.YtkjjkahdmlfflaaW.PrintMore
set_option linter.unusedVariables false

def fineX (i : Int) (p : List Rf) (n : Nat) : Bool := (decide (0 ≤ i) && decide (i ≤ 8)) && (p.take n).all refR
theorem fineX_step (i : Int) (p : List Rf) (n : Nat) (h : n < p.length) : fineX i p (n + 1) = (fineX i p n && refR p[n]) := by
  unfold fineX
  rw [List.take_succ_eq_append_getElem h, List.all_append, ← Bool.and_assoc]
  simp
theorem fineX_last (i : Int) (p : List Rf) (hp : Pok p) : fineX i p 8 = mayB i p := by
  unfold fineX mayB
  rw [List.take_of_length_le (by rw [hp.1]; exact Nat.le_refl _), Bool.and_comm]

set_option maxRecDepth 100000 in
set_option maxHeartbeats 16000000 in
theorem pback_calls (w : World) (index m : Int) (p : List Rf) (hp : Pok p) (S : Value) (hS : S = pageV p) (hm : 0 ≤ m ∧ m < 256) :
    Calls Try.prog 10 #[.int .i64 index, S, .int .u8 m] w fun e w' => e = .returned (.bool true) ∧ Ext w w' := by
  subst hS
  have HP := Aside0.mk hp
  have HM := Aside0.mk hm
  have HK0 := Aside0.mk (Blk.new w (pageC p).toArray 58)
  have HE0 := Aside0.mk ((Ext.refl w).alloc (.cells (pageC p).toArray 58))
  have HIP := Aside0.mk (wf_page hp).1
  unfold pageV
  clear hp hm
  by_cases hneg : index < 0
  · have hz : (index < 0) = True := eq_true hneg
    go_enter Try.func10, Try.ntmps10
    go_wp2_with fail
    go_loopw [7, 8] (fun f i wr => ∃ x : Int, i = .int .i64 x ∧ Aside0 (0 ≤ x ∧ x ≤ 8) ∧ Aside0 (f = .bool (fineX index p x.toNat)) ∧ Aside0 (Blk wr w.heap.size (pageC p).toArray 58) ∧ Aside0 (Ext w wr)) (fun _ i _ => 8 - (intOf i).toNat)
    case atStart => exact ⟨0, rfl, ⟨by decide⟩, ⟨by rw [show fineX index p (0 : Int).toNat = false by unfold fineX; rw [decide_eq_false (by omega)]; rfl]⟩, HK0, HE0⟩
    case round =>
      clear HK0 HE0
      obtain ⟨x, rfl, HX, HF, HBK, HE⟩ := hrel
      obtain ⟨g0, g1⟩ := HX.out
      have hF := HF.out
      subst hF
      clear HF
      by_cases hlt : x < 8
      · have HLT := Aside0.mk hlt
        have hxl : x.toNat < p.length := by rw [HP.out.1]; omega
        have hok := HP.out.2 _ (List.getElem_mem hxl)
        have hrg := page_range HP.out.2 (HBK.out.range 0 (pageC p) [] (by simp)) x.toNat hxl
        rw [Nat.zero_add] at hrg
        have hst := fineX_step index p x.toNat hxl
        generalize hr : p[x.toNat] = r at hok hrg hst
        rw [show x.toNat + 1 = (x + 1).toNat by omega] at hst
        generalize hF : fineX index p x.toNat = F at hst ⊢
        have HN := Aside0.mk hst
        have HRG := Aside0.mk hrg
        have HQ := Aside0.mk (fun W => refEq hok W)
        have HI := Aside0.mk (show (Try.prog.info? 26).map (·.size) = some (refC r.1 r.2).length by rw [refC_length hok]; kernel_rfl)
        have HSZ := Aside0.mk (show 33 = (refC r.1 r.2).length from (refC_length hok).symm)
        clear hok hrg hst hr hxl hF
        obtain ⟨wx, hwx⟩ : ∃ wx : World, wx = wr := ⟨_, rfl⟩
        subst hwx
        go_wp2_with (first | ((with_reducible refine gate_load (ty := 26) rfl ?_); refine load_at rfl 26 _ rfl w.heap.size (x.toNat * 33) rfl (refC r.1 r.2) _ HRG.out Try.underlying26 rfl HI.out ?_) | ((with_reducible refine gate_store (ty := 26) rfl ?_); (refine store_at rfl 26 _ _ rfl wx.heap.size (refC r.1 r.2) rfl rfl _ 26 (Blk.new wx #[Value.int .i64 0, Value.int .u8 0, Value.int .u8 0, Value.int .u8 0, Value.int .u8 0, Value.int .u8 0, Value.int .u8 0, Value.int .u8 0, Value.int .u8 0, Value.int .u8 0, Value.int .u8 0, Value.int .u8 0, Value.int .u8 0, Value.int .u8 0, Value.int .u8 0, Value.int .u8 0, Value.int .u8 0, Value.int .u8 0, Value.int .u8 0, Value.int .u8 0, Value.int .u8 0, Value.int .u8 0, Value.int .u8 0, Value.int .u8 0, Value.int .u8 0, Value.int .u8 0, Value.int .u8 0, Value.int .u8 0, Value.int .u8 0, Value.int .u8 0, Value.int .u8 0, Value.int .u8 0, Value.int .u8 0] 26) HSZ.out HI.out (one_ref _ _) ?_)) | fail)
        intro w5 hW5 hB5
        have hx5 := hW5.ext ((Ext.refl wx).alloc _) (Nat.le_refl _)
        have HB5 := Aside0.mk hB5
        have HE5 := Aside0.mk (HE.out.trans hx5)
        have HB5' := Aside0.mk (HBK.out.ext hx5)
        have c0 := hB5.cell 0 (v := .int .i64 r.1) (by simp [refC])
        clear hW5 hB5 HE hx5 HBK HRG
        cases F with
        | false =>
          have HN' := Aside0.mk (show Value.bool false = .bool (fineX index p (x + 1).toNat) by rw [HN.out]; rfl)
          go_wp2_with fail
          go_roundw
          case rel => exact ⟨x + 1, rfl, ⟨by omega, by have := HLT.out; omega⟩, HN', HB5', HE5⟩
          case measure => have := HLT.out; simp only [intOf]; omega
        | true =>
          by_cases hz : r = zeroR
          · have HZ := Aside0.mk (decide_eq_true hz)
            have HN' := Aside0.mk (show Value.bool true = .bool (fineX index p (x + 1).toNat) by rw [HN.out]; unfold refR; rw [HZ.out]; rfl)
            clear hz
            go_wp2_with (first | ((with_reducible refine gate_load (ty := 26) rfl ?_); refine load_at rfl 26 _ rfl wx.heap.size 0 rfl (refC r.1 r.2) _ (refBlk0 HB5.out) Try.underlying26 rfl HI.out ?_) | ((with_reducible refine gate_build (ty := 26) rfl ?_); (refine build_at rfl 26 #[] rfl (refC 0 zero32).toArray [] rfl built_zero ?_)) | ((with_reducible refine gate_eql (ty := 26) rfl ?_); (refine eql_at rfl 26 26 _ _ rfl (refC r.1 r.2).toArray (refC 0 zero32).toArray rfl rfl (by kernel_rfl) true (by have := HQ.out w5; rwa [HZ.out] at this) ?_)) | fail)
            go_roundw
            case rel => exact ⟨x + 1, rfl, ⟨by omega, by have := HLT.out; omega⟩, HN', HB5', HE5⟩
            case measure => have := HLT.out; simp only [intOf]; omega
          · have HZ := Aside0.mk (decide_eq_false hz)
            clear hz
            by_cases h3 : 3 ≤ r.1
            · have h3' : (r.1 < 3) = False := eq_false (by omega)
              by_cases h4 : r.1 ≤ 4095
              · have h4' : (4096 ≤ r.1) = False := eq_false (by omega)
                have h4d : decide (r.1 ≤ 4095) = true := decide_eq_true h4
                have HN' := Aside0.mk (show Value.bool true = .bool (fineX index p (x + 1).toNat) by rw [HN.out]; unfold refR; rw [HZ.out, decide_eq_true h3, decide_eq_true h4]; rfl)
                go_wp2_with (first | ((with_reducible refine gate_load (ty := 26) rfl ?_); refine load_at rfl 26 _ rfl wx.heap.size 0 rfl (refC r.1 r.2) _ (refBlk0 HB5.out) Try.underlying26 rfl HI.out ?_) | ((with_reducible refine gate_build (ty := 26) rfl ?_); (refine build_at rfl 26 #[] rfl (refC 0 zero32).toArray [] rfl built_zero ?_)) | ((with_reducible refine gate_eql (ty := 26) rfl ?_); (refine eql_at rfl 26 26 _ _ rfl (refC r.1 r.2).toArray (refC 0 zero32).toArray rfl rfl (by kernel_rfl) false (by have := HQ.out w5; rwa [HZ.out] at this) ?_)) | fail)
                go_roundw
                case rel => exact ⟨x + 1, rfl, ⟨by omega, by have := HLT.out; omega⟩, HN', HB5', HE5⟩
                case measure => have := HLT.out; simp only [intOf]; omega
              · have h4' : (4096 ≤ r.1) = True := eq_true (by omega)
                have h4d : decide (r.1 ≤ 4095) = false := decide_eq_false h4
                have HN' := Aside0.mk (show Value.bool false = .bool (fineX index p (x + 1).toNat) by rw [HN.out]; unfold refR; rw [HZ.out, decide_eq_true h3, decide_eq_false h4]; rfl)
                go_wp2_with (first | ((with_reducible refine gate_load (ty := 26) rfl ?_); refine load_at rfl 26 _ rfl wx.heap.size 0 rfl (refC r.1 r.2) _ (refBlk0 HB5.out) Try.underlying26 rfl HI.out ?_) | ((with_reducible refine gate_build (ty := 26) rfl ?_); (refine build_at rfl 26 #[] rfl (refC 0 zero32).toArray [] rfl built_zero ?_)) | ((with_reducible refine gate_eql (ty := 26) rfl ?_); (refine eql_at rfl 26 26 _ _ rfl (refC r.1 r.2).toArray (refC 0 zero32).toArray rfl rfl (by kernel_rfl) false (by have := HQ.out w5; rwa [HZ.out] at this) ?_)) | fail)
                go_roundw
                case rel => exact ⟨x + 1, rfl, ⟨by omega, by have := HLT.out; omega⟩, HN', HB5', HE5⟩
                case measure => have := HLT.out; simp only [intOf]; omega
            · have h3' : (r.1 < 3) = True := eq_true (by omega)
              have h3d : decide (3 ≤ r.1) = false := decide_eq_false h3
              have HN' := Aside0.mk (show Value.bool false = .bool (fineX index p (x + 1).toNat) by rw [HN.out]; unfold refR; rw [HZ.out, decide_eq_false h3]; rfl)
              go_wp2_with (first | ((with_reducible refine gate_load (ty := 26) rfl ?_); refine load_at rfl 26 _ rfl wx.heap.size 0 rfl (refC r.1 r.2) _ (refBlk0 HB5.out) Try.underlying26 rfl HI.out ?_) | ((with_reducible refine gate_build (ty := 26) rfl ?_); (refine build_at rfl 26 #[] rfl (refC 0 zero32).toArray [] rfl built_zero ?_)) | ((with_reducible refine gate_eql (ty := 26) rfl ?_); (refine eql_at rfl 26 26 _ _ rfl (refC r.1 r.2).toArray (refC 0 zero32).toArray rfl rfl (by kernel_rfl) false (by have := HQ.out w5; rwa [HZ.out] at this) ?_)) | fail)
              go_roundw
              case rel => exact ⟨x + 1, rfl, ⟨by omega, by have := HLT.out; omega⟩, HN', HB5', HE5⟩
              case measure => have := HLT.out; simp only [intOf]; omega
      · have hx8 : x = 8 := by omega
        subst hx8
        rw [show (8 : Int).toNat = 8 from rfl, fineX_last index p HP.out]
        have HK0 := HBK
        have HE0 := HE
        clear HBK HE HX g0 g1 hlt
        obtain ⟨wx, hwx⟩ : ∃ wx : World, wx = wr := ⟨_, rfl⟩
        subst hwx
        go_wp2_with (first | ((with_reducible refine gate_load (ty := 58) rfl ?_); refine load_at rfl 58 _ rfl w.heap.size 0 rfl (pageC p) _ (HK0.out.range 0 (pageC p) [] (by simp)) Try.underlying58 rfl HIP.out ?_) | fail)
        refine (put_calls wx index p HP.out _ rfl).mono ?_
        rintro e w1 ⟨V, cV, rfl, hcV, ⟨X, k, c, rfl, hk, hkc, hC⟩, hE1⟩
        have HE1 := Aside0.mk (HE0.out.trans hE1)
        have HK1 := Aside0.mk (HK0.out.ext hE1)
        clear hE1 HE0 HK0
        cases hmay : mayB index p with
        | false =>
          rw [(put_no hmay).1] at hcV
          subst hcV
          rw [(put_no hmay).2] at hk
          have hk0 : k = 0 := hk
          subst hk0
          clear hk hC
          go_wp2_with fail
          refine (known13_calls _).mono ?_
          rintro e w2 ⟨rfl, hE⟩
          have HE2 := Aside0.mk (HE1.out.trans hE)
          clear hE HE1
          go_wp2
          go_ret
          exact ⟨rfl, HE2.out⟩
        | true =>
          rw [(put_yes hmay).1] at hcV
          subst hcV
          rw [(put_yes hmay).2] at hk hC
          have hk0 : k = 328 := by rw [hk, node_len index p HP.out]
          subst hk0
          have HC1 := Aside0.mk hC
          have HN1 := Aside0.mk hk
          have HBB := Aside0.mk (node_isB index p HP.out)
          have hmr := may_range hmay
          have HGP := Aside0.mk (get_put index p HP.out (by omega) (by omega) hmay)
          have HG3 := Aside0.mk (get_more index p HP.out hmay m)
          have HG4 := Aside0.mk (get_less index p HP.out hmay)
          have HNO3 := Aside0.mk (get_no (nodeB index p ++ [m]) (by rw [HG3.out]; decide))
          have HNO4 := Aside0.mk (get_no ((nodeB index p).take 327) (by rw [HG4.out]; decide))
          have HSP := Aside0.mk (show (pageC zeroP).toArray.size = (pageC p).length by rw [show (pageC zeroP).toArray.size = (pageC zeroP).length from rfl, pageC_length _ HP.out.2, HP.out.1, pageC_length zeroP zeroP_ok.2]; rfl)
          have HIZ := Aside0.mk (wf_page zeroP_ok).1
          have HQ := Aside0.mk (fun W => by have := equal_page p p HP.out HP.out W; rwa [show decide (p = p) = true by simp] at this : ∀ W : World, (Op.equal 58 (pageV p) (pageV p)).run Try.prog W = .ok true W)
          obtain ⟨i0, hi0, _, hsz, _⟩ := info_parts PPackPuts.info5
          have hcut := cut_to (P := Try.prog) 22 5 .i64 Try.underlying22 hi0 X 328 c 327 (by decide) (by decide) hkc
          rw [show (327 : Int).toNat = 327 from rfl] at hcut
          have HCT := Aside0.mk (show Kd.C kb w1 X 327 ((nodeB index p).take 327) by
            have := Kd.C_take (m := 327) (HN1.out ▸ HC1.out) (by rw [← HN1.out]; decide)
            rwa [show ((nodeB index p).take 327).length = 327 by rw [List.length_take, ← HN1.out]; rfl] at this)
          have HCC := Aside0.mk (show 327 ≤ c by omega)
          have HM8 := HM
          clear hmay hk hC hmr hi0 hsz
          go_wp2_with fail
          refine (get_calls w1 X c 328 (nodeB index p) HN1.out HC1.out hkc HBB.out (by decide)).mono ?_
          rintro e w2 ⟨rfl, hE2⟩
          rw [HGP.out.1, HGP.out.2.1, HGP.out.2.2]
          have HE2 := Aside0.mk (HE1.out.trans hE2)
          have HK2 := Aside0.mk (HK1.out.ext hE2)
          have HC2 := Aside0.mk (Kd.C_below HC1.out hE2)
          have HT2 := Aside0.mk (Kd.C_below HCT.out hE2)
          clear hE2 HE1 HK1 HC1 HCT HGP
          go_wp2_with (first | ((with_reducible refine gate_store (ty := 58) rfl ?_); (refine store_at rfl 58 _ _ rfl w2.heap.size (pageC p) rfl rfl _ 58 (Blk.new w2 (pageC zeroP).toArray 58) HSP.out HIP.out (one_page _) ?_)) | fail)
          intro w3 hW hB3
          have hx3 := hW.ext ((Ext.refl w2).alloc _) (Nat.le_refl _)
          have HB3 := Aside0.mk hB3
          have HE3 := Aside0.mk (HE2.out.trans hx3)
          have HK3 := Aside0.mk (HK2.out.ext hx3)
          have HC3 := Aside0.mk (Kd.C_below HC2.out hx3)
          have HT3 := Aside0.mk (Kd.C_below HT2.out hx3)
          clear hW hB3 hx3 HE2 HK2 HC2 HT2
          go_wp2_with fail
          refine (get_calls w3 X c 327 ((nodeB index p).take 327) (by rw [List.length_take, ← HN1.out]; rfl) HT3.out HCC.out (HBB.out.take 327) (by decide)).mono ?_
          rintro e w4 ⟨rfl, hE4⟩
          rw [HG4.out, HNO4.out.1, HNO4.out.2]
          have HE4 := Aside0.mk (HE3.out.trans hE4)
          have HK4 := Aside0.mk (HK3.out.ext hE4)
          have HB4 := Aside0.mk (HB3.out.ext hE4)
          have HC4 := Aside0.mk (Kd.C_below HC3.out hE4)
          clear hE4 HE3 HK3 HB3 HC3 HT3 HG4 HNO4 hcut
          go_wp2_with (first | ((with_reducible refine gate_store (ty := 58) rfl ?_); (refine store_at rfl 58 _ _ rfl w4.heap.size (pageC zeroP) rfl rfl _ 58 (Blk.new w4 (pageC zeroP).toArray 58) rfl HIZ.out (one_page _) ?_)) | fail)
          intro w5 hW hB5
          have hx5 := hW.ext ((Ext.refl w4).alloc _) (Nat.le_refl _)
          have HE5 := Aside0.mk (HE4.out.trans hx5)
          have HK5 := Aside0.mk (HK4.out.ext hx5)
          have HB5 := Aside0.mk (HB4.out.ext hx5)
          have HC5 := Aside0.mk (Kd.C_below HC4.out hx5)
          clear hW hB5 hx5 HE4 HK4 HB4 HC4
          go_wp2_with fail
          refine ((HN1.out ▸ copy_calls w5 X c (nodeB index p) (HN1.out ▸ HC5.out) (by rw [← HN1.out]; exact hkc) (by rw [← HN1.out]; decide) : Calls Try.prog 42 #[.slice X 328 c] w5 fun e w' => ∃ V, e = .returned V ∧ NB w' w5.heap.size V (nodeB index p) ∧ Ext w5 w')).mono ?_
          rintro e w6 ⟨V6, rfl, hV6, hE6⟩
          have HV6 := Aside0.mk hV6
          have HX6 := Aside0.mk hE6
          have HL6 := Aside0.mk (show (nodeB index p).length = 328 from HN1.out.symm)
          clear hV6 hE6 HC5
          go_wp2_with (at_builtin; go_loud (refine Kd.R_append kb (w0 := w5) w5.heap.size rfl (.tmp 87) (.tmp 89) 22 5 _ 1 rfl Try.underlying22 PPackPuts.info5 rfl (by decide) (by decide) V6 (nodeB index p) m [.int .u8 m] (fun _ => True) (fun _ => False) rfl rfl ?c1 (fun _ h => h.elim) (fun _ _ => trivial) HV6.out HX6.out ?c3 ?c4 ?_))
          case c1 => exact rfl
          case c3 => exact HX6.out.size
          case c4 => rw [HL6.out]; decide
          intro v7 w7 hR7 hB7 hg7 hat7
          replace hR7 : NB w7 w5.heap.size v7 (nodeB index p ++ [m]) := hR7
          obtain ⟨Y, d, rfl, hd, hCY⟩ := hR7.reads
          have h7 : Ext w5 w7 := hB7
          have hy : (nodeB index p ++ [m]).length = 329 := by rw [List.length_append, HL6.out]; rfl
          rw [hy] at hd hCY
          rw [hy]
          have HY := Aside0.mk hy
          have HCY := Aside0.mk hCY
          have HE7 := Aside0.mk (HE5.out.trans h7)
          have HK7 := Aside0.mk (HK5.out.ext h7)
          have HB7 := Aside0.mk (HB5.out.ext h7)
          clear hR7 hB7 hg7 hat7 hCY h7 hy HE5 HK5 HB5 HV6 HX6
          go_wp2_with fail
          refine (get_calls w7 Y d 329 (nodeB index p ++ [m]) HY.out.symm HCY.out hd (HBB.out.app (fun x hx => by rw [List.mem_singleton.1 hx]; exact HM.out)) (by decide)).mono ?_
          rintro e w8 ⟨rfl, hE8⟩
          rw [HG3.out, HNO3.out.1, HNO3.out.2]
          have HE8 := Aside0.mk (HE7.out.trans hE8)
          have HK8 := Aside0.mk (HK7.out.ext hE8)
          have HB8 := Aside0.mk (HB7.out.ext hE8)
          clear hE8 HE7 HK7 HB7 HCY
          go_wp2_with (first | ((with_reducible refine gate_store (ty := 58) rfl ?_); (refine store_at rfl 58 _ _ rfl w8.heap.size (pageC zeroP) rfl rfl _ 58 (Blk.new w8 (pageC zeroP).toArray 58) rfl HIZ.out (one_page _) ?_)) | fail)
          intro w9 hW hB9
          have hx9 := hW.ext ((Ext.refl w8).alloc _) (Nat.le_refl _)
          have HE9 := Aside0.mk (HE8.out.trans hx9)
          have HK9 := Aside0.mk (HK8.out.ext hx9)
          have HB9 := Aside0.mk (HB8.out.ext hx9)
          clear hW hB9 hx9 HE8 HK8 HB8
          go_wp2_with (first | ((with_reducible refine gate_load (ty := 58) rfl ?_); first | refine load_at rfl 58 _ rfl w.heap.size 0 rfl (pageC p) _ (HK9.out.range 0 (pageC p) [] (by simp)) Try.underlying58 rfl HIP.out ?_ | refine load_at rfl 58 _ rfl w2.heap.size 0 rfl (pageC p) _ (HB9.out.range 0 (pageC p) [] (by simp)) Try.underlying58 rfl HIP.out ?_) | ((with_reducible refine gate_eql (ty := 58) rfl ?_); (refine eql_at rfl 58 58 _ _ rfl (pageC p).toArray (pageC p).toArray rfl rfl (by kernel_rfl) true (HQ.out _) ?_)) | fail)
          refine (known13_calls _).mono ?_
          rintro e w10 ⟨rfl, hE⟩
          have HE10 := Aside0.mk (HE9.out.trans hE)
          clear hE HE9
          go_wp2
          go_ret
          exact ⟨rfl, HE10.out⟩
  · have hz : (index < 0) = False := eq_false hneg
    go_enter Try.func10, Try.ntmps10
    go_wp2_with fail
    go_loopw [7, 8] (fun f i wr => ∃ x : Int, i = .int .i64 x ∧ Aside0 (0 ≤ x ∧ x ≤ 8) ∧ Aside0 (f = .bool (fineX index p x.toNat)) ∧ Aside0 (Blk wr w.heap.size (pageC p).toArray 58) ∧ Aside0 (Ext w wr)) (fun _ i _ => 8 - (intOf i).toNat)
    case atStart => exact ⟨0, rfl, ⟨by decide⟩, ⟨by rw [show fineX index p (0 : Int).toNat = decide (index ≤ 8) by unfold fineX; rw [decide_eq_true (by omega)]; simp]⟩, HK0, HE0⟩
    case round =>
      clear HK0 HE0
      obtain ⟨x, rfl, HX, HF, HBK, HE⟩ := hrel
      obtain ⟨g0, g1⟩ := HX.out
      have hF := HF.out
      subst hF
      clear HF
      by_cases hlt : x < 8
      · have HLT := Aside0.mk hlt
        have hxl : x.toNat < p.length := by rw [HP.out.1]; omega
        have hok := HP.out.2 _ (List.getElem_mem hxl)
        have hrg := page_range HP.out.2 (HBK.out.range 0 (pageC p) [] (by simp)) x.toNat hxl
        rw [Nat.zero_add] at hrg
        have hst := fineX_step index p x.toNat hxl
        generalize hr : p[x.toNat] = r at hok hrg hst
        rw [show x.toNat + 1 = (x + 1).toNat by omega] at hst
        generalize hF : fineX index p x.toNat = F at hst ⊢
        have HN := Aside0.mk hst
        have HRG := Aside0.mk hrg
        have HQ := Aside0.mk (fun W => refEq hok W)
        have HI := Aside0.mk (show (Try.prog.info? 26).map (·.size) = some (refC r.1 r.2).length by rw [refC_length hok]; kernel_rfl)
        have HSZ := Aside0.mk (show 33 = (refC r.1 r.2).length from (refC_length hok).symm)
        clear hok hrg hst hr hxl hF
        obtain ⟨wx, hwx⟩ : ∃ wx : World, wx = wr := ⟨_, rfl⟩
        subst hwx
        go_wp2_with (first | ((with_reducible refine gate_load (ty := 26) rfl ?_); refine load_at rfl 26 _ rfl w.heap.size (x.toNat * 33) rfl (refC r.1 r.2) _ HRG.out Try.underlying26 rfl HI.out ?_) | ((with_reducible refine gate_store (ty := 26) rfl ?_); (refine store_at rfl 26 _ _ rfl wx.heap.size (refC r.1 r.2) rfl rfl _ 26 (Blk.new wx #[Value.int .i64 0, Value.int .u8 0, Value.int .u8 0, Value.int .u8 0, Value.int .u8 0, Value.int .u8 0, Value.int .u8 0, Value.int .u8 0, Value.int .u8 0, Value.int .u8 0, Value.int .u8 0, Value.int .u8 0, Value.int .u8 0, Value.int .u8 0, Value.int .u8 0, Value.int .u8 0, Value.int .u8 0, Value.int .u8 0, Value.int .u8 0, Value.int .u8 0, Value.int .u8 0, Value.int .u8 0, Value.int .u8 0, Value.int .u8 0, Value.int .u8 0, Value.int .u8 0, Value.int .u8 0, Value.int .u8 0, Value.int .u8 0, Value.int .u8 0, Value.int .u8 0, Value.int .u8 0, Value.int .u8 0] 26) HSZ.out HI.out (one_ref _ _) ?_)) | fail)
        intro w5 hW5 hB5
        have hx5 := hW5.ext ((Ext.refl wx).alloc _) (Nat.le_refl _)
        have HB5 := Aside0.mk hB5
        have HE5 := Aside0.mk (HE.out.trans hx5)
        have HB5' := Aside0.mk (HBK.out.ext hx5)
        have c0 := hB5.cell 0 (v := .int .i64 r.1) (by simp [refC])
        clear hW5 hB5 HE hx5 HBK HRG
        cases F with
        | false =>
          have HN' := Aside0.mk (show Value.bool false = .bool (fineX index p (x + 1).toNat) by rw [HN.out]; rfl)
          go_wp2_with fail
          go_roundw
          case rel => exact ⟨x + 1, rfl, ⟨by omega, by have := HLT.out; omega⟩, HN', HB5', HE5⟩
          case measure => have := HLT.out; simp only [intOf]; omega
        | true =>
          by_cases hz : r = zeroR
          · have HZ := Aside0.mk (decide_eq_true hz)
            have HN' := Aside0.mk (show Value.bool true = .bool (fineX index p (x + 1).toNat) by rw [HN.out]; unfold refR; rw [HZ.out]; rfl)
            clear hz
            go_wp2_with (first | ((with_reducible refine gate_load (ty := 26) rfl ?_); refine load_at rfl 26 _ rfl wx.heap.size 0 rfl (refC r.1 r.2) _ (refBlk0 HB5.out) Try.underlying26 rfl HI.out ?_) | ((with_reducible refine gate_build (ty := 26) rfl ?_); (refine build_at rfl 26 #[] rfl (refC 0 zero32).toArray [] rfl built_zero ?_)) | ((with_reducible refine gate_eql (ty := 26) rfl ?_); (refine eql_at rfl 26 26 _ _ rfl (refC r.1 r.2).toArray (refC 0 zero32).toArray rfl rfl (by kernel_rfl) true (by have := HQ.out w5; rwa [HZ.out] at this) ?_)) | fail)
            go_roundw
            case rel => exact ⟨x + 1, rfl, ⟨by omega, by have := HLT.out; omega⟩, HN', HB5', HE5⟩
            case measure => have := HLT.out; simp only [intOf]; omega
          · have HZ := Aside0.mk (decide_eq_false hz)
            clear hz
            by_cases h3 : 3 ≤ r.1
            · have h3' : (r.1 < 3) = False := eq_false (by omega)
              by_cases h4 : r.1 ≤ 4095
              · have h4' : (4096 ≤ r.1) = False := eq_false (by omega)
                have h4d : decide (r.1 ≤ 4095) = true := decide_eq_true h4
                have HN' := Aside0.mk (show Value.bool true = .bool (fineX index p (x + 1).toNat) by rw [HN.out]; unfold refR; rw [HZ.out, decide_eq_true h3, decide_eq_true h4]; rfl)
                go_wp2_with (first | ((with_reducible refine gate_load (ty := 26) rfl ?_); refine load_at rfl 26 _ rfl wx.heap.size 0 rfl (refC r.1 r.2) _ (refBlk0 HB5.out) Try.underlying26 rfl HI.out ?_) | ((with_reducible refine gate_build (ty := 26) rfl ?_); (refine build_at rfl 26 #[] rfl (refC 0 zero32).toArray [] rfl built_zero ?_)) | ((with_reducible refine gate_eql (ty := 26) rfl ?_); (refine eql_at rfl 26 26 _ _ rfl (refC r.1 r.2).toArray (refC 0 zero32).toArray rfl rfl (by kernel_rfl) false (by have := HQ.out w5; rwa [HZ.out] at this) ?_)) | fail)
                go_roundw
                case rel => exact ⟨x + 1, rfl, ⟨by omega, by have := HLT.out; omega⟩, HN', HB5', HE5⟩
                case measure => have := HLT.out; simp only [intOf]; omega
              · have h4' : (4096 ≤ r.1) = True := eq_true (by omega)
                have h4d : decide (r.1 ≤ 4095) = false := decide_eq_false h4
                have HN' := Aside0.mk (show Value.bool false = .bool (fineX index p (x + 1).toNat) by rw [HN.out]; unfold refR; rw [HZ.out, decide_eq_true h3, decide_eq_false h4]; rfl)
                go_wp2_with (first | ((with_reducible refine gate_load (ty := 26) rfl ?_); refine load_at rfl 26 _ rfl wx.heap.size 0 rfl (refC r.1 r.2) _ (refBlk0 HB5.out) Try.underlying26 rfl HI.out ?_) | ((with_reducible refine gate_build (ty := 26) rfl ?_); (refine build_at rfl 26 #[] rfl (refC 0 zero32).toArray [] rfl built_zero ?_)) | ((with_reducible refine gate_eql (ty := 26) rfl ?_); (refine eql_at rfl 26 26 _ _ rfl (refC r.1 r.2).toArray (refC 0 zero32).toArray rfl rfl (by kernel_rfl) false (by have := HQ.out w5; rwa [HZ.out] at this) ?_)) | fail)
                go_roundw
                case rel => exact ⟨x + 1, rfl, ⟨by omega, by have := HLT.out; omega⟩, HN', HB5', HE5⟩
                case measure => have := HLT.out; simp only [intOf]; omega
            · have h3' : (r.1 < 3) = True := eq_true (by omega)
              have h3d : decide (3 ≤ r.1) = false := decide_eq_false h3
              have HN' := Aside0.mk (show Value.bool false = .bool (fineX index p (x + 1).toNat) by rw [HN.out]; unfold refR; rw [HZ.out, decide_eq_false h3]; rfl)
              go_wp2_with (first | ((with_reducible refine gate_load (ty := 26) rfl ?_); refine load_at rfl 26 _ rfl wx.heap.size 0 rfl (refC r.1 r.2) _ (refBlk0 HB5.out) Try.underlying26 rfl HI.out ?_) | ((with_reducible refine gate_build (ty := 26) rfl ?_); (refine build_at rfl 26 #[] rfl (refC 0 zero32).toArray [] rfl built_zero ?_)) | ((with_reducible refine gate_eql (ty := 26) rfl ?_); (refine eql_at rfl 26 26 _ _ rfl (refC r.1 r.2).toArray (refC 0 zero32).toArray rfl rfl (by kernel_rfl) false (by have := HQ.out w5; rwa [HZ.out] at this) ?_)) | fail)
              go_roundw
              case rel => exact ⟨x + 1, rfl, ⟨by omega, by have := HLT.out; omega⟩, HN', HB5', HE5⟩
              case measure => have := HLT.out; simp only [intOf]; omega
      · have hx8 : x = 8 := by omega
        subst hx8
        rw [show (8 : Int).toNat = 8 from rfl, fineX_last index p HP.out]
        have HK0 := HBK
        have HE0 := HE
        clear HBK HE HX g0 g1 hlt
        obtain ⟨wx, hwx⟩ : ∃ wx : World, wx = wr := ⟨_, rfl⟩
        subst hwx
        go_wp2_with (first | ((with_reducible refine gate_load (ty := 58) rfl ?_); refine load_at rfl 58 _ rfl w.heap.size 0 rfl (pageC p) _ (HK0.out.range 0 (pageC p) [] (by simp)) Try.underlying58 rfl HIP.out ?_) | fail)
        refine (put_calls wx index p HP.out _ rfl).mono ?_
        rintro e w1 ⟨V, cV, rfl, hcV, ⟨X, k, c, rfl, hk, hkc, hC⟩, hE1⟩
        have HE1 := Aside0.mk (HE0.out.trans hE1)
        have HK1 := Aside0.mk (HK0.out.ext hE1)
        clear hE1 HE0 HK0
        cases hmay : mayB index p with
        | false =>
          rw [(put_no hmay).1] at hcV
          subst hcV
          rw [(put_no hmay).2] at hk
          have hk0 : k = 0 := hk
          subst hk0
          clear hk hC
          go_wp2_with fail
          refine (known13_calls _).mono ?_
          rintro e w2 ⟨rfl, hE⟩
          have HE2 := Aside0.mk (HE1.out.trans hE)
          clear hE HE1
          go_wp2
          go_ret
          exact ⟨rfl, HE2.out⟩
        | true =>
          rw [(put_yes hmay).1] at hcV
          subst hcV
          rw [(put_yes hmay).2] at hk hC
          have hk0 : k = 328 := by rw [hk, node_len index p HP.out]
          subst hk0
          have HC1 := Aside0.mk hC
          have HN1 := Aside0.mk hk
          have HBB := Aside0.mk (node_isB index p HP.out)
          have hmr := may_range hmay
          have HGP := Aside0.mk (get_put index p HP.out (by omega) (by omega) hmay)
          have HG3 := Aside0.mk (get_more index p HP.out hmay m)
          have HG4 := Aside0.mk (get_less index p HP.out hmay)
          have HNO3 := Aside0.mk (get_no (nodeB index p ++ [m]) (by rw [HG3.out]; decide))
          have HNO4 := Aside0.mk (get_no ((nodeB index p).take 327) (by rw [HG4.out]; decide))
          have HSP := Aside0.mk (show (pageC zeroP).toArray.size = (pageC p).length by rw [show (pageC zeroP).toArray.size = (pageC zeroP).length from rfl, pageC_length _ HP.out.2, HP.out.1, pageC_length zeroP zeroP_ok.2]; rfl)
          have HIZ := Aside0.mk (wf_page zeroP_ok).1
          have HQ := Aside0.mk (fun W => by have := equal_page p p HP.out HP.out W; rwa [show decide (p = p) = true by simp] at this : ∀ W : World, (Op.equal 58 (pageV p) (pageV p)).run Try.prog W = .ok true W)
          obtain ⟨i0, hi0, _, hsz, _⟩ := info_parts PPackPuts.info5
          have hcut := cut_to (P := Try.prog) 22 5 .i64 Try.underlying22 hi0 X 328 c 327 (by decide) (by decide) hkc
          rw [show (327 : Int).toNat = 327 from rfl] at hcut
          have HCT := Aside0.mk (show Kd.C kb w1 X 327 ((nodeB index p).take 327) by
            have := Kd.C_take (m := 327) (HN1.out ▸ HC1.out) (by rw [← HN1.out]; decide)
            rwa [show ((nodeB index p).take 327).length = 327 by rw [List.length_take, ← HN1.out]; rfl] at this)
          have HCC := Aside0.mk (show 327 ≤ c by omega)
          have HM8 := HM
          clear hmay hk hC hmr hi0 hsz
          go_wp2_with fail
          refine (get_calls w1 X c 328 (nodeB index p) HN1.out HC1.out hkc HBB.out (by decide)).mono ?_
          rintro e w2 ⟨rfl, hE2⟩
          rw [HGP.out.1, HGP.out.2.1, HGP.out.2.2]
          have HE2 := Aside0.mk (HE1.out.trans hE2)
          have HK2 := Aside0.mk (HK1.out.ext hE2)
          have HC2 := Aside0.mk (Kd.C_below HC1.out hE2)
          have HT2 := Aside0.mk (Kd.C_below HCT.out hE2)
          clear hE2 HE1 HK1 HC1 HCT HGP
          go_wp2_with (first | ((with_reducible refine gate_store (ty := 58) rfl ?_); (refine store_at rfl 58 _ _ rfl w2.heap.size (pageC p) rfl rfl _ 58 (Blk.new w2 (pageC zeroP).toArray 58) HSP.out HIP.out (one_page _) ?_)) | fail)
          intro w3 hW hB3
          have hx3 := hW.ext ((Ext.refl w2).alloc _) (Nat.le_refl _)
          have HB3 := Aside0.mk hB3
          have HE3 := Aside0.mk (HE2.out.trans hx3)
          have HK3 := Aside0.mk (HK2.out.ext hx3)
          have HC3 := Aside0.mk (Kd.C_below HC2.out hx3)
          have HT3 := Aside0.mk (Kd.C_below HT2.out hx3)
          clear hW hB3 hx3 HE2 HK2 HC2 HT2
          go_wp2_with fail
          refine (get_calls w3 X c 327 ((nodeB index p).take 327) (by rw [List.length_take, ← HN1.out]; rfl) HT3.out HCC.out (HBB.out.take 327) (by decide)).mono ?_
          rintro e w4 ⟨rfl, hE4⟩
          rw [HG4.out, HNO4.out.1, HNO4.out.2]
          have HE4 := Aside0.mk (HE3.out.trans hE4)
          have HK4 := Aside0.mk (HK3.out.ext hE4)
          have HB4 := Aside0.mk (HB3.out.ext hE4)
          have HC4 := Aside0.mk (Kd.C_below HC3.out hE4)
          clear hE4 HE3 HK3 HB3 HC3 HT3 HG4 HNO4 hcut
          go_wp2_with (first | ((with_reducible refine gate_store (ty := 58) rfl ?_); (refine store_at rfl 58 _ _ rfl w4.heap.size (pageC zeroP) rfl rfl _ 58 (Blk.new w4 (pageC zeroP).toArray 58) rfl HIZ.out (one_page _) ?_)) | fail)
          intro w5 hW hB5
          have hx5 := hW.ext ((Ext.refl w4).alloc _) (Nat.le_refl _)
          have HE5 := Aside0.mk (HE4.out.trans hx5)
          have HK5 := Aside0.mk (HK4.out.ext hx5)
          have HB5 := Aside0.mk (HB4.out.ext hx5)
          have HC5 := Aside0.mk (Kd.C_below HC4.out hx5)
          clear hW hB5 hx5 HE4 HK4 HB4 HC4
          go_wp2_with fail
          refine ((HN1.out ▸ copy_calls w5 X c (nodeB index p) (HN1.out ▸ HC5.out) (by rw [← HN1.out]; exact hkc) (by rw [← HN1.out]; decide) : Calls Try.prog 42 #[.slice X 328 c] w5 fun e w' => ∃ V, e = .returned V ∧ NB w' w5.heap.size V (nodeB index p) ∧ Ext w5 w')).mono ?_
          rintro e w6 ⟨V6, rfl, hV6, hE6⟩
          have HV6 := Aside0.mk hV6
          have HX6 := Aside0.mk hE6
          have HL6 := Aside0.mk (show (nodeB index p).length = 328 from HN1.out.symm)
          clear hV6 hE6 HC5
          go_wp2_with (at_builtin; go_loud (refine Kd.R_append kb (w0 := w5) w5.heap.size rfl (.tmp 87) (.tmp 89) 22 5 _ 1 rfl Try.underlying22 PPackPuts.info5 rfl (by decide) (by decide) V6 (nodeB index p) m [.int .u8 m] (fun _ => True) (fun _ => False) rfl rfl ?c1 (fun _ h => h.elim) (fun _ _ => trivial) HV6.out HX6.out ?c3 ?c4 ?_))
          case c1 => exact rfl
          case c3 => exact HX6.out.size
          case c4 => rw [HL6.out]; decide
          intro v7 w7 hR7 hB7 hg7 hat7
          replace hR7 : NB w7 w5.heap.size v7 (nodeB index p ++ [m]) := hR7
          obtain ⟨Y, d, rfl, hd, hCY⟩ := hR7.reads
          have h7 : Ext w5 w7 := hB7
          have hy : (nodeB index p ++ [m]).length = 329 := by rw [List.length_append, HL6.out]; rfl
          rw [hy] at hd hCY
          rw [hy]
          have HY := Aside0.mk hy
          have HCY := Aside0.mk hCY
          have HE7 := Aside0.mk (HE5.out.trans h7)
          have HK7 := Aside0.mk (HK5.out.ext h7)
          have HB7 := Aside0.mk (HB5.out.ext h7)
          clear hR7 hB7 hg7 hat7 hCY h7 hy HE5 HK5 HB5 HV6 HX6
          go_wp2_with fail
          refine (get_calls w7 Y d 329 (nodeB index p ++ [m]) HY.out.symm HCY.out hd (HBB.out.app (fun x hx => by rw [List.mem_singleton.1 hx]; exact HM.out)) (by decide)).mono ?_
          rintro e w8 ⟨rfl, hE8⟩
          rw [HG3.out, HNO3.out.1, HNO3.out.2]
          have HE8 := Aside0.mk (HE7.out.trans hE8)
          have HK8 := Aside0.mk (HK7.out.ext hE8)
          have HB8 := Aside0.mk (HB7.out.ext hE8)
          clear hE8 HE7 HK7 HB7 HCY
          go_wp2_with (first | ((with_reducible refine gate_store (ty := 58) rfl ?_); (refine store_at rfl 58 _ _ rfl w8.heap.size (pageC zeroP) rfl rfl _ 58 (Blk.new w8 (pageC zeroP).toArray 58) rfl HIZ.out (one_page _) ?_)) | fail)
          intro w9 hW hB9
          have hx9 := hW.ext ((Ext.refl w8).alloc _) (Nat.le_refl _)
          have HE9 := Aside0.mk (HE8.out.trans hx9)
          have HK9 := Aside0.mk (HK8.out.ext hx9)
          have HB9 := Aside0.mk (HB8.out.ext hx9)
          clear hW hB9 hx9 HE8 HK8 HB8
          go_wp2_with (first | ((with_reducible refine gate_load (ty := 58) rfl ?_); first | refine load_at rfl 58 _ rfl w.heap.size 0 rfl (pageC p) _ (HK9.out.range 0 (pageC p) [] (by simp)) Try.underlying58 rfl HIP.out ?_ | refine load_at rfl 58 _ rfl w2.heap.size 0 rfl (pageC p) _ (HB9.out.range 0 (pageC p) [] (by simp)) Try.underlying58 rfl HIP.out ?_) | ((with_reducible refine gate_eql (ty := 58) rfl ?_); (refine eql_at rfl 58 58 _ _ rfl (pageC p).toArray (pageC p).toArray rfl rfl (by kernel_rfl) true (HQ.out _) ?_)) | fail)
          refine (known13_calls _).mono ?_
          rintro e w10 ⟨rfl, hE⟩
          have HE10 := Aside0.mk (HE9.out.trans hE)
          clear hE HE9
          go_wp2
          go_ret
          exact ⟨rfl, HE10.out⟩
end Go.Proofs.Ytkjjkahdmlfflaa.By
