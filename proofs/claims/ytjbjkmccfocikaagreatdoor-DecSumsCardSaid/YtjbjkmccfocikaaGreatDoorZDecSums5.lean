/- DecSums: part 6 of 6: the texts B132 PLaw2 PAlive RDec RDecSums of this claim, one behind the other. -/
import Derived.Test.YtjbjkmccfocikaaGreatDoorZDecSums4
import Derived.KernelRfl
import Derived.ChangeSlices
import Derived.ChangeArms
import Derived.Lib.SmallJoins
import Derived.Carry
import Derived.SizedLaws
set_option linter.unusedVariables false
set_option linter.unusedSimpArgs false
set_option maxRecDepth 100000
set_option maxHeartbeats 8000000
namespace Go.Proofs
section
namespace YtjbjkmccfocikaaGreatDoor.B
open Go.RowKit YtjbjkmccfocikaaGreatDoorW.PrintWords YtjbjkmccfocikaaGreatDoorW.PrintLast YtjbjkmccfocikaaGreatDoorW.PrintMore
attribute [local go_sem] max2_int min2_int max_two min_two max_three min_three max_four min_four
def bolterlaw02_DecSums.j0 : Nat -> Int -> Bool -> Bool -> List Int -> Int -> Bool -> List Int -> Int -> Bool -> List Int -> Int -> Option (Bool)
 | 0, _, _, _, _, _, _, _, _, _, _, _ => none
 | k + 1, x6, x60, x1776000, x1776001, x1776002, x1777000, x1777001, x1777002, x1785000, x1785001, x1785002 => if x60 = true then (some false) else ((dec_Sub.f k x1785000 x1785001 x1785002 x1777000 x1777001 x1777002).bind fun bt1808 => ((bolterlaw02_num.f x6).bind fun t1815 => (if t1815 = 0 then ((bolterlaw02_num.f bt1808.2.2.2).bind fun t1816 => (if t1816 = 0 then ((bolterref02_Same.f k bt1808.1 bt1808.2.1 bt1808.2.2.1 x1776000 x1776001 x1776002).bind fun t1817 => (some t1817)) else (some false))) else (some true))))
def bolterlaw02_DecSums.f (k : Nat) (a0_0 : Bool) (l0_1 : List Int) (a0_2 : Int) (a1_0 : Bool) (l1_1 : List Int) (a1_2 : Int) : Option (Bool) := (bolterlaw02_alive.f k).bind fun t1777 => (if t1777 = true then ((dec_Add.f k a0_0 l0_1 a0_2 a1_0 l1_1 a1_2).bind fun bt1778 => ((dec_Add.f k a1_0 l1_1 a1_2 a0_0 l0_1 a0_2).bind fun bt1785 => ((dec_Mul.f k a0_0 l0_1 a0_2 a1_0 l1_1 a1_2).bind fun bt1792 => ((dec_Mul.f k a1_0 l1_1 a1_2 a0_0 l0_1 a0_2).bind fun bt1799 => (if bt1778.2.2.2 = bt1785.2.2.2 then (if bt1792.2.2.2 = bt1799.2.2.2 then ((bolterref02_Same.f k bt1778.1 bt1778.2.1 bt1778.2.2.1 bt1785.1 bt1785.2.1 bt1785.2.2.1).bind fun t1806 => (if t1806 = true then ((bolterref02_Same.f k bt1792.1 bt1792.2.1 bt1792.2.2.1 bt1799.1 bt1799.2.1 bt1799.2.2.1).bind fun t1807 => (bolterlaw02_DecSums.j0 k bt1778.2.2.2 (!t1807) a0_0 l0_1 a0_2 a1_0 l1_1 a1_2 bt1778.1 bt1778.2.1 bt1778.2.2.1)) else (bolterlaw02_DecSums.j0 k bt1778.2.2.2 true a0_0 l0_1 a0_2 a1_0 l1_1 a1_2 bt1778.1 bt1778.2.1 bt1778.2.2.1))) else (bolterlaw02_DecSums.j0 k bt1778.2.2.2 true a0_0 l0_1 a0_2 a1_0 l1_1 a1_2 bt1778.1 bt1778.2.1 bt1778.2.2.1)) else (bolterlaw02_DecSums.j0 k bt1778.2.2.2 true a0_0 l0_1 a0_2 a1_0 l1_1 a1_2 bt1778.1 bt1778.2.1 bt1778.2.2.1)))))) else (some false))
theorem bolterlaw02_DecSums.calls (k : Nat) (a0_0 : Bool) (A0_1 : Option Addr) (c0_1 : Nat) (l0_1 : List Int) (a0_2 : Int) (a1_0 : Bool) (A1_1 : Option Addr) (c1_1 : Nat) (l1_1 : List Int) (a1_2 : Int) (r : Bool) (w : World) (hr0_1 : Kd.C (Kd.int .u32) w A0_1 l0_1.length l0_1) (hc0_1 : l0_1.length <= c0_1) (hr1_1 : Kd.C (Kd.int .u32) w A1_1 l1_1.length l1_1) (hc1_1 : l1_1.length <= c1_1) (h : bolterlaw02_DecSums.f k a0_0 l0_1 a0_2 a1_0 l1_1 a1_2 = some r) (hr : r = true) :
  Calls Tryz.prog 11 #[.agg #[.bool a0_0, .slice A0_1 l0_1.length c0_1, .int .i64 a0_2], .agg #[.bool a1_0, .slice A1_1 l1_1.length c1_1, .int .i64 a1_2]] w fun e w' => e = .returned (.bool r) /\ Below w.heap.size w w' := by
 have hu24 := Tryz.underlying24
 have HR0_1 := am hr0_1
 have HC0_1 := am hc0_1
 clear hr0_1 hc0_1
 have HR1_1 := am hr1_1
 have HC1_1 := am hc1_1
 clear hr1_1 hc1_1
 have HB := am (Below.refl w.heap.size w)
 have H : ((bolterlaw02_alive.f k).bind fun t1777 => (if t1777 = true then ((dec_Add.f k a0_0 l0_1 a0_2 a1_0 l1_1 a1_2).bind fun bt1778 => ((dec_Add.f k a1_0 l1_1 a1_2 a0_0 l0_1 a0_2).bind fun bt1785 => ((dec_Mul.f k a0_0 l0_1 a0_2 a1_0 l1_1 a1_2).bind fun bt1792 => ((dec_Mul.f k a1_0 l1_1 a1_2 a0_0 l0_1 a0_2).bind fun bt1799 => (if bt1778.2.2.2 = bt1785.2.2.2 then (if bt1792.2.2.2 = bt1799.2.2.2 then ((bolterref02_Same.f k bt1778.1 bt1778.2.1 bt1778.2.2.1 bt1785.1 bt1785.2.1 bt1785.2.2.1).bind fun t1806 => (if t1806 = true then ((bolterref02_Same.f k bt1792.1 bt1792.2.1 bt1792.2.2.1 bt1799.1 bt1799.2.1 bt1799.2.2.1).bind fun t1807 => (bolterlaw02_DecSums.j0 k bt1778.2.2.2 (!t1807) a0_0 l0_1 a0_2 a1_0 l1_1 a1_2 bt1778.1 bt1778.2.1 bt1778.2.2.1)) else (bolterlaw02_DecSums.j0 k bt1778.2.2.2 true a0_0 l0_1 a0_2 a1_0 l1_1 a1_2 bt1778.1 bt1778.2.1 bt1778.2.2.1))) else (bolterlaw02_DecSums.j0 k bt1778.2.2.2 true a0_0 l0_1 a0_2 a1_0 l1_1 a1_2 bt1778.1 bt1778.2.1 bt1778.2.2.1)) else (bolterlaw02_DecSums.j0 k bt1778.2.2.2 true a0_0 l0_1 a0_2 a1_0 l1_1 a1_2 bt1778.1 bt1778.2.1 bt1778.2.2.1)))))) else (some false))) = some r := h
 clear h
 obtain ⟨t1777, A3, H⟩ := ob H
 by_cases c4 : t1777 = true
 ·subst c4
  rw [if_pos rfl] at H
  obtain ⟨⟨t1778, t1779, t1782, t1783⟩, A5, H⟩ := ob H; (try dsimp only at H)
  obtain ⟨⟨t1785, t1786, t1789, t1790⟩, A6, H⟩ := ob H; (try dsimp only at H)
  obtain ⟨⟨t1792, t1793, t1796, t1797⟩, A7, H⟩ := ob H; (try dsimp only at H)
  obtain ⟨⟨t1799, t1800, t1803, t1804⟩, A8, H⟩ := ob H; (try dsimp only at H)
  have HC9 := am H
  clear H
  go_enter Tryz.func11, Tryz.ntmps11
  go_upto_region 7 with (first | ((with_reducible refine gate_dst (N := 2) rfl ?_); refine box_event ?hg (N := 2) ?hd (cs := #[.bool a0_0, .slice A0_1 l0_1.length c0_1, .int .i64 a0_2]) (t := 24) ?hr ?_; (case hd => rfl); (case hg => rfl); (case hr => first | (go_simp; done) | (go_simp; rfl)); intro gb1775 hg w10 hbox hb; have n0_ := am (below_step pB hb); have n1_ := am (hbox); have n2_ := am ((gw hg pB : w.heap.size <= gb1775)); have n3_ := am ((gw hg pB : w.heap.size <= gb1775)); clear HB; have HB := n0_; have BK1775 := n1_; have GW1775 := n2_; have GE1775 := n3_; clear n0_ n1_ n2_ n3_ hb hbox hg) | ((with_reducible refine gate_dst (N := 3) rfl ?_); refine box_event ?hg (N := 3) ?hd (cs := #[.bool a1_0, .slice A1_1 l1_1.length c1_1, .int .i64 a1_2]) (t := 24) ?hr ?_; (case hd => rfl); (case hg => rfl); (case hr => first | (go_simp; done) | (go_simp; rfl)); intro gb1776 hg w11 hbox hb; have n0_ := am (blk_below (blk_below BK1775.out pl) hb); have n1_ := am (below_step pB hb); have n2_ := am (hbox); have n3_ := am ((gw hg pB : w.heap.size <= gb1776)); have n4_ := am ((gw hg pB : w.heap.size <= gb1776)); have n5_ := am ((nl hg (blk_below BK1775.out pl) : gb1775 ≠ gb1776)); have n6_ := am ((ng hg (blk_below BK1775.out pl) : gb1776 ≠ gb1775)); clear BK1775 HB; have BK1775 := n0_; have HB := n1_; have BK1776 := n2_; have GW1776 := n3_; have GE1776 := n4_; have NB1775_1776 := n5_; have NB1776_1775 := n6_; clear n0_ n1_ n2_ n3_ n4_ n5_ n6_ hb hbox hg) | (refine gL (some 15) Tryz.func41 #[] (h := ?_); (with_reducible refine (bolterlaw02_alive.calls k  true _ A3.out).mono ?_); rintro e w12 ⟨rfl, hb⟩; refine ⟨_, rfl, ?_⟩; replace BK1775 := am (blk_below (blk_below BK1775.out pl) hb); replace BK1776 := am (blk_below (blk_below BK1776.out pl) hb); replace HB := am (below_step pB hb); (try clear hb); (try clear hb2); (try clear hk); (try clear hi); have hnb13 := NB1775_1776.out; have hnc13 := NB1776_1775.out; obtain ⟨hcz14_0, hcz14_1, hcz14_2, hfz14_0, hfz14_1, hfz14_2⟩ := cEc BK1775.out; obtain ⟨hcz15_0, hcz15_1, hcz15_2, hfz15_0, hfz15_1, hfz15_2⟩ := cEc BK1776.out) | (refine gL (some 20) Tryz.func43 #[.agg #[.bool a0_0, .slice A0_1 l0_1.length c0_1, .int .i64 a0_2], .agg #[.bool a1_0, .slice A1_1 l1_1.length c1_1, .int .i64 a1_2]] (h := ?_); (with_reducible refine (dec_Add.calls k a0_0 (fun k_ => k_ < w.heap.size) _ _ l0_1 a0_2 a1_0 (fun k_ => k_ < w.heap.size) _ _ l1_1 a1_2 t1778 t1779 t1782 t1783 _ ?side1 ?side2 A5.out).mono ?_); (case side1 => exact Kd.V_mk HC0_1.out (Kd.F_below (Kd.C_F (Kd.heap_int .u32) HR0_1.out) pB)); (case side2 => exact Kd.V_mk HC1_1.out (Kd.F_below (Kd.C_F (Kd.heap_int .u32) HR1_1.out) pB)); rintro e w16 ⟨v1780, rfl, ho0, hb⟩; refine ⟨_, rfl, ?_⟩; have HO1781 := am (Kd.R_lower (Kd.R_mono (ok' := fun k_ => True) ho0 (fun _ hk_ => trivial)) (below_size pB)); replace BK1775 := am (blk_below (blk_below BK1775.out pl) hb); replace BK1776 := am (blk_below (blk_below BK1776.out pl) hb); replace HB := am (below_step pB hb); (try clear hb); (try clear hb2); (try clear hk); (try clear hi); (try clear ho0)) | ((with_reducible refine gate_dst (N := 5) rfl ?_); refine box_event ?hg (N := 5) ?hd (cs := #[.bool false, .slice none 0 0, .int .i64 0]) (t := 24) ?hr ?_; (case hd => rfl); (case hg => rfl); (case hr => first | (go_simp; done) | (go_simp; rfl)); intro gb1784 hg w17 hbox hb; have n0_ := am (Kd.R_below (Kd.R_below HO1781.out pl) hb); have n1_ := am (blk_below (blk_below BK1775.out pl) hb); have n2_ := am (blk_below (blk_below BK1776.out pl) hb); have n3_ := am (below_step pB hb); have n4_ := am (hbox); have n5_ := am ((gw hg pB : w.heap.size <= gb1784)); have n6_ := am ((gw hg pB : w.heap.size <= gb1784)); have n7_ := am ((nl hg (blk_below BK1775.out pl) : gb1775 ≠ gb1784)); have n8_ := am ((ng hg (blk_below BK1775.out pl) : gb1784 ≠ gb1775)); have n9_ := am ((nl hg (blk_below BK1776.out pl) : gb1776 ≠ gb1784)); have n10_ := am ((ng hg (blk_below BK1776.out pl) : gb1784 ≠ gb1776)); clear HO1781 BK1775 BK1776 HB; have HO1781 := n0_; have BK1775 := n1_; have BK1776 := n2_; have HB := n3_; have BK1784 := n4_; have GW1784 := n5_; have GE1784 := n6_; have NB1775_1784 := n7_; have NB1784_1775 := n8_; have NB1776_1784 := n9_; have NB1784_1776 := n10_; clear n0_ n1_ n2_ n3_ n4_ n5_ n6_ n7_ n8_ n9_ n10_ hb hbox hg; have hnb18 := NB1784_1775.out; have hnc18 := NB1775_1784.out; have hnb19 := NB1784_1776.out; have hnc19 := NB1776_1784.out; obtain ⟨hcz20_0, hcz20_1, hcz20_2, hfz20_0, hfz20_1, hfz20_2⟩ := cEc BK1784.out; obtain ⟨Ao21, co21, eo21⟩ := Kd.R_slice HO1781.out; subst eo21) | ((with_reducible refine gate_store (t := 24) (p := 5) rfl ?_); refine store_event (t := 24) (p := 5) (v := ?vo_w22) (w1 := (((w17.setCell ⟨gb1784, 0, none⟩ (.bool t1778)).setCell ⟨gb1784, 1, none⟩ (.slice Ao21 t1779.length co21)).setCell ⟨gb1784, 2, none⟩ (.int .i64 t1782))) ?hg ?ho ?hn ?hr ?_; (case ho => rfl); (case hg => rfl); (case hn => rfl); (case hr => first | (go_simp; done) | (go_simp; rfl)); intro w22 hw; have n0_ : Aside0 (Kd.R (Kd.int .u32) 85 w22 w.heap.size (fun _ => True) (.slice Ao21 t1779.length co21) t1779) := ⟨(by rw [hw]; exact (Kd.R_below (Kd.R_mono (Kd.R_far (p := ⟨gb1784, 2, none⟩) (Kd.R_far (p := ⟨gb1784, 1, none⟩) (Kd.R_far (p := ⟨gb1784, 0, none⟩) (Kd.R_types HO1781.out BK1784.out (by decide)) (fun _ hk => hk.2) (.bool t1778)) (fun _ hk => hk.2) (.slice Ao21 t1779.length co21)) (fun _ hk => hk.2) (.int .i64 t1782)) (fun _ hk => trivial)) pl))⟩; have n1_ : Aside0 (w22.heap[gb1775]? = some (.cells #[.bool a0_0, .slice A0_1 l0_1.length c0_1, .int .i64 a0_2] 24 (0, 0))) := ⟨(by rw [hw]; exact (bf NB1775_1784.out BK1775.out))⟩; have n2_ : Aside0 (w22.heap[gb1776]? = some (.cells #[.bool a1_0, .slice A1_1 l1_1.length c1_1, .int .i64 a1_2] 24 (0, 0))) := ⟨(by rw [hw]; exact (bf NB1776_1784.out BK1776.out))⟩; have n3_ : Aside0 (w22.heap[gb1784]? = some (.cells #[.bool t1778, .slice Ao21 t1779.length co21, .int .i64 t1782] 24 (0, 0))) := ⟨(by rw [hw]; exact (by refine bp ?_; refine blk_put (cs := #[.bool t1778, .slice Ao21 t1779.length co21, .int .i64 0]) ?_ 2 _ rfl; refine bp ?_; refine blk_put (cs := #[.bool t1778, .slice none 0 0, .int .i64 0]) ?_ 1 _ rfl; refine bp ?_; refine blk_put (cs := #[.bool false, .slice none 0 0, .int .i64 0]) ?_ 0 _ rfl; exact bp BK1784.out))⟩; have n4_ : Aside0 (Below w.heap.size w w22) := ⟨(by rw [hw]; exact pB)⟩; clear hw HO1781 BK1775 BK1776 BK1784 HB; have HO1781 := n0_; have BK1775 := n1_; have BK1776 := n2_; have BK1784 := n3_; have HB := n4_; clear n0_ n1_ n2_ n3_ n4_; obtain ⟨hcz23_0, hcz23_1, hcz23_2, hfz23_0, hfz23_1, hfz23_2⟩ := cEc BK1776.out; obtain ⟨hcz24_0, hcz24_1, hcz24_2, hfz24_0, hfz24_1, hfz24_2⟩ := cEc BK1775.out) | (refine gL (some 26) Tryz.func43 #[.agg #[.bool a1_0, .slice A1_1 l1_1.length c1_1, .int .i64 a1_2], .agg #[.bool a0_0, .slice A0_1 l0_1.length c0_1, .int .i64 a0_2]] (h := ?_); (with_reducible refine (dec_Add.calls k a1_0 (fun k_ => k_ < w.heap.size) _ _ l1_1 a1_2 a0_0 (fun k_ => k_ < w.heap.size) _ _ l0_1 a0_2 t1785 t1786 t1789 t1790 _ ?side1 ?side2 A6.out).mono ?_); (case side1 => exact Kd.V_mk HC1_1.out (Kd.F_below (Kd.C_F (Kd.heap_int .u32) HR1_1.out) pB)); (case side2 => exact Kd.V_mk HC0_1.out (Kd.F_below (Kd.C_F (Kd.heap_int .u32) HR0_1.out) pB)); rintro e w25 ⟨v1787, rfl, ho0, hb⟩; refine ⟨_, rfl, ?_⟩; have n0_ := am (Kd.R_elder' (Kd.R_below HO1781.out pl) (Kd.R_base ho0) hb); have n1_ := am (Kd.R_lower (Kd.R_new' (Kd.R_mono (ok' := fun k_ => True) ho0 (fun _ hk_ => trivial)) (Kd.R_lt (Kd.R_below HO1781.out pl))) (below_size pB)); have n2_ := am (blk_below (blk_below BK1775.out pl) hb); have n3_ := am (blk_below (blk_below BK1776.out pl) hb); have n4_ := am (blk_below (blk_below BK1784.out pl) hb); have n5_ := am (below_step pB hb); clear HO1781 BK1775 BK1776 BK1784 HB; have HO1781 := n0_; have HO1788 := n1_; have BK1775 := n2_; have BK1776 := n3_; have BK1784 := n4_; have HB := n5_; clear n0_ n1_ n2_ n3_ n4_ n5_; (try clear hb); (try clear hb2); (try clear hk); (try clear hi); (try clear ho0)) | ((with_reducible refine gate_dst (N := 7) rfl ?_); refine box_event ?hg (N := 7) ?hd (cs := #[.bool false, .slice none 0 0, .int .i64 0]) (t := 24) ?hr ?_; (case hd => rfl); (case hg => rfl); (case hr => first | (go_simp; done) | (go_simp; rfl)); intro gb1791 hg w26 hbox hb; have n0_ := am (Kd.R_below (Kd.R_below HO1781.out pl) hb); have n1_ := am (Kd.R_below (Kd.R_below HO1788.out pl) hb); have n2_ := am (blk_below (blk_below BK1775.out pl) hb); have n3_ := am (blk_below (blk_below BK1776.out pl) hb); have n4_ := am (blk_below (blk_below BK1784.out pl) hb); have n5_ := am (below_step pB hb); have n6_ := am (hbox); have n7_ := am ((gw hg pB : w.heap.size <= gb1791)); have n8_ := am ((gw hg pB : w.heap.size <= gb1791)); have n9_ := am ((nl hg (blk_below BK1775.out pl) : gb1775 ≠ gb1791)); have n10_ := am ((ng hg (blk_below BK1775.out pl) : gb1791 ≠ gb1775)); have n11_ := am ((nl hg (blk_below BK1776.out pl) : gb1776 ≠ gb1791)); have n12_ := am ((ng hg (blk_below BK1776.out pl) : gb1791 ≠ gb1776)); have n13_ := am ((nl hg (blk_below BK1784.out pl) : gb1784 ≠ gb1791)); have n14_ := am ((ng hg (blk_below BK1784.out pl) : gb1791 ≠ gb1784)); clear HO1781 HO1788 BK1775 BK1776 BK1784 HB; have HO1781 := n0_; have HO1788 := n1_; have BK1775 := n2_; have BK1776 := n3_; have BK1784 := n4_; have HB := n5_; have BK1791 := n6_; have GW1791 := n7_; have GE1791 := n8_; have NB1775_1791 := n9_; have NB1791_1775 := n10_; have NB1776_1791 := n11_; have NB1791_1776 := n12_; have NB1784_1791 := n13_; have NB1791_1784 := n14_; clear n0_ n1_ n2_ n3_ n4_ n5_ n6_ n7_ n8_ n9_ n10_ n11_ n12_ n13_ n14_ hb hbox hg; have hnb27 := NB1791_1775.out; have hnc27 := NB1775_1791.out; have hnb28 := NB1791_1776.out; have hnc28 := NB1776_1791.out; have hnb29 := NB1791_1784.out; have hnc29 := NB1784_1791.out; obtain ⟨hcz30_0, hcz30_1, hcz30_2, hfz30_0, hfz30_1, hfz30_2⟩ := cEc BK1791.out; obtain ⟨Ao31, co31, eo31⟩ := Kd.R_slice HO1788.out; subst eo31) | ((with_reducible refine gate_store (t := 24) (p := 7) rfl ?_); refine store_event (t := 24) (p := 7) (v := ?vo_w32) (w1 := (((w26.setCell ⟨gb1791, 0, none⟩ (.bool t1785)).setCell ⟨gb1791, 1, none⟩ (.slice Ao31 t1786.length co31)).setCell ⟨gb1791, 2, none⟩ (.int .i64 t1789))) ?hg ?ho ?hn ?hr ?_; (case ho => rfl); (case hg => rfl); (case hn => rfl); (case hr => first | (go_simp; done) | (go_simp; rfl)); intro w32 hw; have n0_ : Aside0 (Kd.R (Kd.int .u32) 85 w32 w.heap.size (fun k_ => some k_ ≠ (.slice Ao31 t1786.length co31 : Value).ownBlock) (.slice Ao21 t1779.length co21) t1779) := ⟨(by rw [hw]; exact (Kd.R_below (Kd.R_mono (Kd.R_far (p := ⟨gb1791, 2, none⟩) (Kd.R_far (p := ⟨gb1791, 1, none⟩) (Kd.R_far (p := ⟨gb1791, 0, none⟩) (Kd.R_types HO1781.out BK1791.out (by decide)) (fun _ hk => hk.2) (.bool t1785)) (fun _ hk => hk.2) (.slice Ao31 t1786.length co31)) (fun _ hk => hk.2) (.int .i64 t1789)) (fun _ hk => hk.1.2)) pl))⟩; have n1_ : Aside0 (Kd.R (Kd.int .u32) 85 w32 w.heap.size (fun k_ => some k_ ≠ (.slice Ao21 t1779.length co21 : Value).ownBlock) (.slice Ao31 t1786.length co31) t1786) := ⟨(by rw [hw]; exact (Kd.R_below (Kd.R_mono (Kd.R_far (p := ⟨gb1791, 2, none⟩) (Kd.R_far (p := ⟨gb1791, 1, none⟩) (Kd.R_far (p := ⟨gb1791, 0, none⟩) (Kd.R_types HO1788.out BK1791.out (by decide)) (fun _ hk => hk.2) (.bool t1785)) (fun _ hk => hk.2) (.slice Ao31 t1786.length co31)) (fun _ hk => hk.2) (.int .i64 t1789)) (fun _ hk => hk.1.2)) pl))⟩; have n2_ : Aside0 (w32.heap[gb1775]? = some (.cells #[.bool a0_0, .slice A0_1 l0_1.length c0_1, .int .i64 a0_2] 24 (0, 0))) := ⟨(by rw [hw]; exact (bf NB1775_1791.out BK1775.out))⟩; have n3_ : Aside0 (w32.heap[gb1776]? = some (.cells #[.bool a1_0, .slice A1_1 l1_1.length c1_1, .int .i64 a1_2] 24 (0, 0))) := ⟨(by rw [hw]; exact (bf NB1776_1791.out BK1776.out))⟩; have n4_ : Aside0 (w32.heap[gb1784]? = some (.cells #[.bool t1778, .slice Ao21 t1779.length co21, .int .i64 t1782] 24 (0, 0))) := ⟨(by rw [hw]; exact (bf NB1784_1791.out BK1784.out))⟩; have n5_ : Aside0 (w32.heap[gb1791]? = some (.cells #[.bool t1785, .slice Ao31 t1786.length co31, .int .i64 t1789] 24 (0, 0))) := ⟨(by rw [hw]; exact (by refine bp ?_; refine blk_put (cs := #[.bool t1785, .slice Ao31 t1786.length co31, .int .i64 0]) ?_ 2 _ rfl; refine bp ?_; refine blk_put (cs := #[.bool t1785, .slice none 0 0, .int .i64 0]) ?_ 1 _ rfl; refine bp ?_; refine blk_put (cs := #[.bool false, .slice none 0 0, .int .i64 0]) ?_ 0 _ rfl; exact bp BK1791.out))⟩; have n6_ : Aside0 (Below w.heap.size w w32) := ⟨(by rw [hw]; exact pB)⟩; clear hw HO1781 HO1788 BK1775 BK1776 BK1784 BK1791 HB; have HO1781 := n0_; have HO1788 := n1_; have BK1775 := n2_; have BK1776 := n3_; have BK1784 := n4_; have BK1791 := n5_; have HB := n6_; clear n0_ n1_ n2_ n3_ n4_ n5_ n6_; obtain ⟨hcz33_0, hcz33_1, hcz33_2, hfz33_0, hfz33_1, hfz33_2⟩ := cEc BK1775.out; obtain ⟨hcz34_0, hcz34_1, hcz34_2, hfz34_0, hfz34_1, hfz34_2⟩ := cEc BK1776.out) | (refine gL (some 32) Tryz.func49 #[.agg #[.bool a0_0, .slice A0_1 l0_1.length c0_1, .int .i64 a0_2], .agg #[.bool a1_0, .slice A1_1 l1_1.length c1_1, .int .i64 a1_2]] (h := ?_); (with_reducible refine (dec_Mul.calls k a0_0 (fun k_ => k_ < w.heap.size) _ _ l0_1 a0_2 a1_0 (fun k_ => k_ < w.heap.size) _ _ l1_1 a1_2 t1792 t1793 t1796 t1797 _ ?side1 ?side2 A7.out).mono ?_); (case side1 => exact Kd.V_mk HC0_1.out (Kd.F_below (Kd.C_F (Kd.heap_int .u32) HR0_1.out) pB)); (case side2 => exact Kd.V_mk HC1_1.out (Kd.F_below (Kd.C_F (Kd.heap_int .u32) HR1_1.out) pB)); rintro e w35 ⟨v1794, rfl, ho0, hb⟩; refine ⟨_, rfl, ?_⟩; have n0_ := am (Kd.R_elder' (Kd.R_below HO1781.out pl) (Kd.R_base ho0) hb); have n1_ := am (Kd.R_elder' (Kd.R_below HO1788.out pl) (Kd.R_base ho0) hb); have n2_ := am (Kd.R_lower (Kd.R_new' (Kd.R_new' (Kd.R_mono (ok' := fun k_ => True) ho0 (fun _ hk_ => trivial)) (Kd.R_lt (Kd.R_below HO1781.out pl))) (Kd.R_lt (Kd.R_below HO1788.out pl))) (below_size pB)); have n3_ := am (blk_below (blk_below BK1775.out pl) hb); have n4_ := am (blk_below (blk_below BK1776.out pl) hb); have n5_ := am (blk_below (blk_below BK1784.out pl) hb); have n6_ := am (blk_below (blk_below BK1791.out pl) hb); have n7_ := am (below_step pB hb); clear HO1781 HO1788 BK1775 BK1776 BK1784 BK1791 HB; have HO1781 := n0_; have HO1788 := n1_; have HO1795 := n2_; have BK1775 := n3_; have BK1776 := n4_; have BK1784 := n5_; have BK1791 := n6_; have HB := n7_; clear n0_ n1_ n2_ n3_ n4_ n5_ n6_ n7_; (try clear hb); (try clear hb2); (try clear hk); (try clear hi); (try clear ho0)) | ((with_reducible refine gate_dst (N := 9) rfl ?_); refine box_event ?hg (N := 9) ?hd (cs := #[.bool false, .slice none 0 0, .int .i64 0]) (t := 24) ?hr ?_; (case hd => rfl); (case hg => rfl); (case hr => first | (go_simp; done) | (go_simp; rfl)); intro gb1798 hg w36 hbox hb; have n0_ := am (Kd.R_below (Kd.R_below HO1781.out pl) hb); have n1_ := am (Kd.R_below (Kd.R_below HO1788.out pl) hb); have n2_ := am (Kd.R_below (Kd.R_below HO1795.out pl) hb); have n3_ := am (blk_below (blk_below BK1775.out pl) hb); have n4_ := am (blk_below (blk_below BK1776.out pl) hb); have n5_ := am (blk_below (blk_below BK1784.out pl) hb); have n6_ := am (blk_below (blk_below BK1791.out pl) hb); have n7_ := am (below_step pB hb); have n8_ := am (hbox); have n9_ := am ((gw hg pB : w.heap.size <= gb1798)); have n10_ := am ((gw hg pB : w.heap.size <= gb1798)); have n11_ := am ((nl hg (blk_below BK1775.out pl) : gb1775 ≠ gb1798)); have n12_ := am ((ng hg (blk_below BK1775.out pl) : gb1798 ≠ gb1775)); have n13_ := am ((nl hg (blk_below BK1776.out pl) : gb1776 ≠ gb1798)); have n14_ := am ((ng hg (blk_below BK1776.out pl) : gb1798 ≠ gb1776)); have n15_ := am ((nl hg (blk_below BK1784.out pl) : gb1784 ≠ gb1798)); have n16_ := am ((ng hg (blk_below BK1784.out pl) : gb1798 ≠ gb1784)); have n17_ := am ((nl hg (blk_below BK1791.out pl) : gb1791 ≠ gb1798)); have n18_ := am ((ng hg (blk_below BK1791.out pl) : gb1798 ≠ gb1791)); clear HO1781 HO1788 HO1795 BK1775 BK1776 BK1784 BK1791 HB; have HO1781 := n0_; have HO1788 := n1_; have HO1795 := n2_; have BK1775 := n3_; have BK1776 := n4_; have BK1784 := n5_; have BK1791 := n6_; have HB := n7_; have BK1798 := n8_; have GW1798 := n9_; have GE1798 := n10_; have NB1775_1798 := n11_; have NB1798_1775 := n12_; have NB1776_1798 := n13_; have NB1798_1776 := n14_; have NB1784_1798 := n15_; have NB1798_1784 := n16_; have NB1791_1798 := n17_; have NB1798_1791 := n18_; clear n0_ n1_ n2_ n3_ n4_ n5_ n6_ n7_ n8_ n9_ n10_ n11_ n12_ n13_ n14_ n15_ n16_ n17_ n18_ hb hbox hg; have hnb37 := NB1798_1775.out; have hnc37 := NB1775_1798.out; have hnb38 := NB1798_1776.out; have hnc38 := NB1776_1798.out; have hnb39 := NB1798_1784.out; have hnc39 := NB1784_1798.out; have hnb40 := NB1798_1791.out; have hnc40 := NB1791_1798.out; obtain ⟨hcz41_0, hcz41_1, hcz41_2, hfz41_0, hfz41_1, hfz41_2⟩ := cEc BK1798.out; obtain ⟨Ao42, co42, eo42⟩ := Kd.R_slice HO1795.out; subst eo42) | ((with_reducible refine gate_store (t := 24) (p := 9) rfl ?_); refine store_event (t := 24) (p := 9) (v := ?vo_w43) (w1 := (((w36.setCell ⟨gb1798, 0, none⟩ (.bool t1792)).setCell ⟨gb1798, 1, none⟩ (.slice Ao42 t1793.length co42)).setCell ⟨gb1798, 2, none⟩ (.int .i64 t1796))) ?hg ?ho ?hn ?hr ?_; (case ho => rfl); (case hg => rfl); (case hn => rfl); (case hr => first | (go_simp; done) | (go_simp; rfl)); intro w43 hw; have n0_ : Aside0 (Kd.R (Kd.int .u32) 85 w43 w.heap.size (fun k_ => some k_ ≠ (.slice Ao31 t1786.length co31 : Value).ownBlock /\ some k_ ≠ (.slice Ao42 t1793.length co42 : Value).ownBlock) (.slice Ao21 t1779.length co21) t1779) := ⟨(by rw [hw]; exact (Kd.R_below (Kd.R_mono (Kd.R_far (p := ⟨gb1798, 2, none⟩) (Kd.R_far (p := ⟨gb1798, 1, none⟩) (Kd.R_far (p := ⟨gb1798, 0, none⟩) (Kd.R_types HO1781.out BK1798.out (by decide)) (fun _ hk => hk.2) (.bool t1792)) (fun _ hk => hk.2) (.slice Ao42 t1793.length co42)) (fun _ hk => hk.2) (.int .i64 t1796)) (fun _ hk => ⟨hk.1.1, hk.1.2⟩)) pl))⟩; have n1_ : Aside0 (Kd.R (Kd.int .u32) 85 w43 w.heap.size (fun k_ => some k_ ≠ (.slice Ao21 t1779.length co21 : Value).ownBlock /\ some k_ ≠ (.slice Ao42 t1793.length co42 : Value).ownBlock) (.slice Ao31 t1786.length co31) t1786) := ⟨(by rw [hw]; exact (Kd.R_below (Kd.R_mono (Kd.R_far (p := ⟨gb1798, 2, none⟩) (Kd.R_far (p := ⟨gb1798, 1, none⟩) (Kd.R_far (p := ⟨gb1798, 0, none⟩) (Kd.R_types HO1788.out BK1798.out (by decide)) (fun _ hk => hk.2) (.bool t1792)) (fun _ hk => hk.2) (.slice Ao42 t1793.length co42)) (fun _ hk => hk.2) (.int .i64 t1796)) (fun _ hk => ⟨hk.1.1, hk.1.2⟩)) pl))⟩; have n2_ : Aside0 (Kd.R (Kd.int .u32) 85 w43 w.heap.size (fun k_ => some k_ ≠ (.slice Ao21 t1779.length co21 : Value).ownBlock /\ some k_ ≠ (.slice Ao31 t1786.length co31 : Value).ownBlock) (.slice Ao42 t1793.length co42) t1793) := ⟨(by rw [hw]; exact (Kd.R_below (Kd.R_mono (Kd.R_far (p := ⟨gb1798, 2, none⟩) (Kd.R_far (p := ⟨gb1798, 1, none⟩) (Kd.R_far (p := ⟨gb1798, 0, none⟩) (Kd.R_types HO1795.out BK1798.out (by decide)) (fun _ hk => hk.2) (.bool t1792)) (fun _ hk => hk.2) (.slice Ao42 t1793.length co42)) (fun _ hk => hk.2) (.int .i64 t1796)) (fun _ hk => ⟨hk.1.1.2, hk.1.2⟩)) pl))⟩; have n3_ : Aside0 (w43.heap[gb1775]? = some (.cells #[.bool a0_0, .slice A0_1 l0_1.length c0_1, .int .i64 a0_2] 24 (0, 0))) := ⟨(by rw [hw]; exact (bf NB1775_1798.out BK1775.out))⟩; have n4_ : Aside0 (w43.heap[gb1776]? = some (.cells #[.bool a1_0, .slice A1_1 l1_1.length c1_1, .int .i64 a1_2] 24 (0, 0))) := ⟨(by rw [hw]; exact (bf NB1776_1798.out BK1776.out))⟩; have n5_ : Aside0 (w43.heap[gb1784]? = some (.cells #[.bool t1778, .slice Ao21 t1779.length co21, .int .i64 t1782] 24 (0, 0))) := ⟨(by rw [hw]; exact (bf NB1784_1798.out BK1784.out))⟩; have n6_ : Aside0 (w43.heap[gb1791]? = some (.cells #[.bool t1785, .slice Ao31 t1786.length co31, .int .i64 t1789] 24 (0, 0))) := ⟨(by rw [hw]; exact (bf NB1791_1798.out BK1791.out))⟩; have n7_ : Aside0 (w43.heap[gb1798]? = some (.cells #[.bool t1792, .slice Ao42 t1793.length co42, .int .i64 t1796] 24 (0, 0))) := ⟨(by rw [hw]; exact (by refine bp ?_; refine blk_put (cs := #[.bool t1792, .slice Ao42 t1793.length co42, .int .i64 0]) ?_ 2 _ rfl; refine bp ?_; refine blk_put (cs := #[.bool t1792, .slice none 0 0, .int .i64 0]) ?_ 1 _ rfl; refine bp ?_; refine blk_put (cs := #[.bool false, .slice none 0 0, .int .i64 0]) ?_ 0 _ rfl; exact bp BK1798.out))⟩; have n8_ : Aside0 (Below w.heap.size w w43) := ⟨(by rw [hw]; exact pB)⟩; clear hw HO1781 HO1788 HO1795 BK1775 BK1776 BK1784 BK1791 BK1798 HB; have HO1781 := n0_; have HO1788 := n1_; have HO1795 := n2_; have BK1775 := n3_; have BK1776 := n4_; have BK1784 := n5_; have BK1791 := n6_; have BK1798 := n7_; have HB := n8_; clear n0_ n1_ n2_ n3_ n4_ n5_ n6_ n7_ n8_; obtain ⟨hcz44_0, hcz44_1, hcz44_2, hfz44_0, hfz44_1, hfz44_2⟩ := cEc BK1776.out; obtain ⟨hcz45_0, hcz45_1, hcz45_2, hfz45_0, hfz45_1, hfz45_2⟩ := cEc BK1775.out) | (refine gL (some 38) Tryz.func49 #[.agg #[.bool a1_0, .slice A1_1 l1_1.length c1_1, .int .i64 a1_2], .agg #[.bool a0_0, .slice A0_1 l0_1.length c0_1, .int .i64 a0_2]] (h := ?_); (with_reducible refine (dec_Mul.calls k a1_0 (fun k_ => k_ < w.heap.size) _ _ l1_1 a1_2 a0_0 (fun k_ => k_ < w.heap.size) _ _ l0_1 a0_2 t1799 t1800 t1803 t1804 _ ?side1 ?side2 A8.out).mono ?_); (case side1 => exact Kd.V_mk HC1_1.out (Kd.F_below (Kd.C_F (Kd.heap_int .u32) HR1_1.out) pB)); (case side2 => exact Kd.V_mk HC0_1.out (Kd.F_below (Kd.C_F (Kd.heap_int .u32) HR0_1.out) pB)); rintro e w46 ⟨v1801, rfl, ho0, hb⟩; refine ⟨_, rfl, ?_⟩; have n0_ := am (Kd.R_elder' (Kd.R_below HO1781.out pl) (Kd.R_base ho0) hb); have n1_ := am (Kd.R_elder' (Kd.R_below HO1788.out pl) (Kd.R_base ho0) hb); have n2_ := am (Kd.R_elder' (Kd.R_below HO1795.out pl) (Kd.R_base ho0) hb); have n3_ := am (Kd.R_lower (Kd.R_new' (Kd.R_new' (Kd.R_new' (Kd.R_mono (ok' := fun k_ => True) ho0 (fun _ hk_ => trivial)) (Kd.R_lt (Kd.R_below HO1781.out pl))) (Kd.R_lt (Kd.R_below HO1788.out pl))) (Kd.R_lt (Kd.R_below HO1795.out pl))) (below_size pB)); have n4_ := am (blk_below (blk_below BK1775.out pl) hb); have n5_ := am (blk_below (blk_below BK1776.out pl) hb); have n6_ := am (blk_below (blk_below BK1784.out pl) hb); have n7_ := am (blk_below (blk_below BK1791.out pl) hb); have n8_ := am (blk_below (blk_below BK1798.out pl) hb); have n9_ := am (below_step pB hb); clear HO1781 HO1788 HO1795 BK1775 BK1776 BK1784 BK1791 BK1798 HB; have HO1781 := n0_; have HO1788 := n1_; have HO1795 := n2_; have HO1802 := n3_; have BK1775 := n4_; have BK1776 := n5_; have BK1784 := n6_; have BK1791 := n7_; have BK1798 := n8_; have HB := n9_; clear n0_ n1_ n2_ n3_ n4_ n5_ n6_ n7_ n8_ n9_; (try clear hb); (try clear hb2); (try clear hk); (try clear hi); (try clear ho0)) | ((with_reducible refine gate_dst (N := 11) rfl ?_); refine box_event ?hg (N := 11) ?hd (cs := #[.bool false, .slice none 0 0, .int .i64 0]) (t := 24) ?hr ?_; (case hd => rfl); (case hg => rfl); (case hr => first | (go_simp; done) | (go_simp; rfl)); intro gb1805 hg w47 hbox hb; have n0_ := am (Kd.R_below (Kd.R_below HO1781.out pl) hb); have n1_ := am (Kd.R_below (Kd.R_below HO1788.out pl) hb); have n2_ := am (Kd.R_below (Kd.R_below HO1795.out pl) hb); have n3_ := am (Kd.R_below (Kd.R_below HO1802.out pl) hb); have n4_ := am (blk_below (blk_below BK1775.out pl) hb); have n5_ := am (blk_below (blk_below BK1776.out pl) hb); have n6_ := am (blk_below (blk_below BK1784.out pl) hb); have n7_ := am (blk_below (blk_below BK1791.out pl) hb); have n8_ := am (blk_below (blk_below BK1798.out pl) hb); have n9_ := am (below_step pB hb); have n10_ := am (hbox); have n11_ := am ((gw hg pB : w.heap.size <= gb1805)); have n12_ := am ((gw hg pB : w.heap.size <= gb1805)); have n13_ := am ((nl hg (blk_below BK1775.out pl) : gb1775 ≠ gb1805)); have n14_ := am ((ng hg (blk_below BK1775.out pl) : gb1805 ≠ gb1775)); have n15_ := am ((nl hg (blk_below BK1776.out pl) : gb1776 ≠ gb1805)); have n16_ := am ((ng hg (blk_below BK1776.out pl) : gb1805 ≠ gb1776)); have n17_ := am ((nl hg (blk_below BK1784.out pl) : gb1784 ≠ gb1805)); have n18_ := am ((ng hg (blk_below BK1784.out pl) : gb1805 ≠ gb1784)); have n19_ := am ((nl hg (blk_below BK1791.out pl) : gb1791 ≠ gb1805)); have n20_ := am ((ng hg (blk_below BK1791.out pl) : gb1805 ≠ gb1791)); have n21_ := am ((nl hg (blk_below BK1798.out pl) : gb1798 ≠ gb1805)); have n22_ := am ((ng hg (blk_below BK1798.out pl) : gb1805 ≠ gb1798)); clear HO1781 HO1788 HO1795 HO1802 BK1775 BK1776 BK1784 BK1791 BK1798 HB; have HO1781 := n0_; have HO1788 := n1_; have HO1795 := n2_; have HO1802 := n3_; have BK1775 := n4_; have BK1776 := n5_; have BK1784 := n6_; have BK1791 := n7_; have BK1798 := n8_; have HB := n9_; have BK1805 := n10_; have GW1805 := n11_; have GE1805 := n12_; have NB1775_1805 := n13_; have NB1805_1775 := n14_; have NB1776_1805 := n15_; have NB1805_1776 := n16_; have NB1784_1805 := n17_; have NB1805_1784 := n18_; have NB1791_1805 := n19_; have NB1805_1791 := n20_; have NB1798_1805 := n21_; have NB1805_1798 := n22_; clear n0_ n1_ n2_ n3_ n4_ n5_ n6_ n7_ n8_ n9_ n10_ n11_ n12_ n13_ n14_ n15_ n16_ n17_ n18_ n19_ n20_ n21_ n22_ hb hbox hg; have hnb48 := NB1805_1775.out; have hnc48 := NB1775_1805.out; have hnb49 := NB1805_1776.out; have hnc49 := NB1776_1805.out; have hnb50 := NB1805_1784.out; have hnc50 := NB1784_1805.out; have hnb51 := NB1805_1791.out; have hnc51 := NB1791_1805.out; have hnb52 := NB1805_1798.out; have hnc52 := NB1798_1805.out; obtain ⟨hcz53_0, hcz53_1, hcz53_2, hfz53_0, hfz53_1, hfz53_2⟩ := cEc BK1805.out; obtain ⟨Ao54, co54, eo54⟩ := Kd.R_slice HO1802.out; subst eo54))
  (try simp only [Act.put, List.setIfInBounds_toArray, List.set_cons_zero, List.set_cons_succ])
  go_cut [60] (fun v60 wc => ∃ (kq : Nat) (x60_8 : Bool), v60 = .bool x60_8 /\ Aside0 (bolterlaw02_DecSums.j0 kq t1783 x60_8 a0_0 l0_1 a0_2 a1_0 l1_1 a1_2 t1778 t1779 t1782 = some r) /\ Aside0 (kq <= k) /\ Aside0 (Kd.R (Kd.int .u32) 85 wc w.heap.size (fun k_ => some k_ ≠ ((.slice Ao31 t1786.length co31) : Value).ownBlock /\ some k_ ≠ ((.slice Ao42 t1793.length co42) : Value).ownBlock /\ some k_ ≠ ((.slice Ao54 t1800.length co54) : Value).ownBlock) (.slice Ao21 t1779.length co21) t1779) /\ Aside0 (Kd.R (Kd.int .u32) 85 wc w.heap.size (fun k_ => some k_ ≠ ((.slice Ao21 t1779.length co21) : Value).ownBlock /\ some k_ ≠ ((.slice Ao42 t1793.length co42) : Value).ownBlock /\ some k_ ≠ ((.slice Ao54 t1800.length co54) : Value).ownBlock) (.slice Ao31 t1786.length co31) t1786) /\ Aside0 (Kd.R (Kd.int .u32) 85 wc w.heap.size (fun k_ => some k_ ≠ ((.slice Ao21 t1779.length co21) : Value).ownBlock /\ some k_ ≠ ((.slice Ao31 t1786.length co31) : Value).ownBlock /\ some k_ ≠ ((.slice Ao54 t1800.length co54) : Value).ownBlock) (.slice Ao42 t1793.length co42) t1793) /\ Aside0 (Kd.R (Kd.int .u32) 85 wc w.heap.size (fun k_ => some k_ ≠ ((.slice Ao21 t1779.length co21) : Value).ownBlock /\ some k_ ≠ ((.slice Ao31 t1786.length co31) : Value).ownBlock /\ some k_ ≠ ((.slice Ao42 t1793.length co42) : Value).ownBlock) (.slice Ao54 t1800.length co54) t1800) /\ Aside0 (wc.heap[gb1775]? = some (.cells #[.bool a0_0, (.slice A0_1 l0_1.length c0_1), .int .i64 a0_2] 24 (0, 0))) /\ Aside0 (wc.heap[gb1776]? = some (.cells #[.bool a1_0, (.slice A1_1 l1_1.length c1_1), .int .i64 a1_2] 24 (0, 0))) /\ Aside0 (wc.heap[gb1784]? = some (.cells #[.bool t1778, (.slice Ao21 t1779.length co21), .int .i64 t1782] 24 (0, 0))) /\ Aside0 (wc.heap[gb1791]? = some (.cells #[.bool t1785, (.slice Ao31 t1786.length co31), .int .i64 t1789] 24 (0, 0))) /\ Aside0 (wc.heap[gb1798]? = some (.cells #[.bool t1792, (.slice Ao42 t1793.length co42), .int .i64 t1796] 24 (0, 0))) /\ Aside0 (wc.heap[gb1805]? = some (.cells #[.bool t1799, (.slice Ao54 t1800.length co54), .int .i64 t1803] 24 (0, 0))) /\ Aside0 (Below w.heap.size w wc))
  case first =>
   have H := HC9.out
   clear HC9
   by_cases c55 : t1783 = t1790
   ·rw [if_pos c55] at H
    have c55b0 : (t1783 == t1790) = true := beq_iff_eq.mpr c55
    have c55b1 : (t1783 != t1790) = false := bne_eq_false_iff_eq.mpr c55
    clear c55
    (first | rw [c55b0] | (simp only [i64_w, i32_w]; rw [c55b0]) | skip)
    by_cases c56 : t1797 = t1804
    ·rw [if_pos c56] at H
     have c56b0 : (t1797 == t1804) = true := beq_iff_eq.mpr c56
     have c56b1 : (t1797 != t1804) = false := bne_eq_false_iff_eq.mpr c56
     clear c56
     obtain ⟨t1806, A57, H⟩ := ob H
     by_cases c58 : t1806 = true
     ·subst c58
      rw [if_pos rfl] at H
      obtain ⟨t1807, A59, H⟩ := ob H
      have H' := am H
      clear H
      have hnb60 := NB1784_1775.out
      have hnc60 := NB1775_1784.out
      have hnb61 := NB1784_1776.out
      have hnc61 := NB1776_1784.out
      have hnb62 := NB1784_1791.out
      have hnc62 := NB1791_1784.out
      have hnb63 := NB1784_1798.out
      have hnc63 := NB1798_1784.out
      have hnb64 := NB1784_1805.out
      have hnc64 := NB1805_1784.out
      obtain ⟨hcz65_0, hcz65_1, hcz65_2, hfz65_0, hfz65_1, hfz65_2⟩ := cEc BK1784.out
      have hnb66 := NB1791_1775.out
      have hnc66 := NB1775_1791.out
      have hnb67 := NB1791_1776.out
      have hnc67 := NB1776_1791.out
      have hnb68 := NB1791_1798.out
      have hnc68 := NB1798_1791.out
      have hnb69 := NB1791_1805.out
      have hnc69 := NB1805_1791.out
      obtain ⟨hcz70_0, hcz70_1, hcz70_2, hfz70_0, hfz70_1, hfz70_2⟩ := cEc BK1791.out
      go_wp2_with (first | (go_at_call 21; (with_reducible refine (bolterref02_Same.calls k t1778 _ _ t1779 t1782 t1785 _ _ t1786 t1789 true _ ?side1 ?side2 ?side3 ?side4 A57.out).mono ?_); (case side1 => refine (Kd.R_reads' (e := 85) (base := w.heap.size) (ok := fun k_ => ((some k_ ≠ (.slice Ao31 t1786.length co31 : Value).ownBlock /\ some k_ ≠ (.slice Ao42 t1793.length co42 : Value).ownBlock) /\ some k_ ≠ (.slice Ao54 t1800.length co54 : Value).ownBlock)) (n := t1779.length) (c := co21) ?_).2.2; exact (Kd.R_below (z3 HO1781.out BK1805.out (by decide) (.bool t1799) (.slice Ao54 t1800.length co54) (.int .i64 t1803)) pl)); (case side2 => exact (Kd.R_reads' HO1781.out).2.1); (case side3 => refine (Kd.R_reads' (e := 85) (base := w.heap.size) (ok := fun k_ => ((some k_ ≠ (.slice Ao21 t1779.length co21 : Value).ownBlock /\ some k_ ≠ (.slice Ao42 t1793.length co42 : Value).ownBlock) /\ some k_ ≠ (.slice Ao54 t1800.length co54 : Value).ownBlock)) (n := t1786.length) (c := co31) ?_).2.2; exact (Kd.R_below (z3 HO1788.out BK1805.out (by decide) (.bool t1799) (.slice Ao54 t1800.length co54) (.int .i64 t1803)) pl)); (case side4 => exact (Kd.R_reads' HO1788.out).2.1); rintro e w71 ⟨rfl, hb⟩; replace HO1781 := am (Kd.R_below (Kd.R_below (z3 HO1781.out BK1805.out (by decide) (.bool t1799) (.slice Ao54 t1800.length co54) (.int .i64 t1803)) pl) hb); replace HO1788 := am (Kd.R_below (Kd.R_below (z3 HO1788.out BK1805.out (by decide) (.bool t1799) (.slice Ao54 t1800.length co54) (.int .i64 t1803)) pl) hb); replace HO1795 := am (Kd.R_below (Kd.R_below (z3 HO1795.out BK1805.out (by decide) (.bool t1799) (.slice Ao54 t1800.length co54) (.int .i64 t1803)) pl) hb); replace HO1802 := am (Kd.R_below (Kd.R_below (z3 HO1802.out BK1805.out (by decide) (.bool t1799) (.slice Ao54 t1800.length co54) (.int .i64 t1803)) pl) hb); replace BK1775 := am (blk_below (bf NB1775_1805.out BK1775.out) hb); replace BK1776 := am (blk_below (bf NB1776_1805.out BK1776.out) hb); replace BK1784 := am (blk_below (bf NB1784_1805.out BK1784.out) hb); replace BK1791 := am (blk_below (bf NB1791_1805.out BK1791.out) hb); replace BK1798 := am (blk_below (bf NB1798_1805.out BK1798.out) hb); replace BK1805 := am (blk_below (g := gb1805) (o := .cells #[.bool t1799, .slice Ao54 t1800.length co54, .int .i64 t1803] 24 (0, 0)) (by refine bp ?_; refine blk_put (cs := #[.bool t1799, .slice Ao54 t1800.length co54, .int .i64 0]) ?_ 2 _ rfl; refine bp ?_; refine blk_put (cs := #[.bool t1799, .slice none 0 0, .int .i64 0]) ?_ 1 _ rfl; refine bp ?_; refine blk_put (cs := #[.bool false, .slice none 0 0, .int .i64 0]) ?_ 0 _ rfl; exact bp BK1805.out) hb); replace HB := am (below_step pB hb); (try clear hb); (try clear hb2); (try clear hk); (try clear hi); have hnb72 := NB1798_1775.out; have hnc72 := NB1775_1798.out; have hnb73 := NB1798_1776.out; have hnc73 := NB1776_1798.out; have hnb74 := NB1798_1805.out; have hnc74 := NB1805_1798.out; obtain ⟨hcz75_0, hcz75_1, hcz75_2, hfz75_0, hfz75_1, hfz75_2⟩ := cEc BK1798.out; have hnb76 := NB1805_1775.out; have hnc76 := NB1775_1805.out; have hnb77 := NB1805_1776.out; have hnc77 := NB1776_1805.out; obtain ⟨hcz78_0, hcz78_1, hcz78_2, hfz78_0, hfz78_1, hfz78_2⟩ := cEc BK1805.out) | (go_at_call 21; (with_reducible refine (bolterref02_Same.calls k t1792 _ _ t1793 t1796 t1799 _ _ t1800 t1803 t1807 _ ?side1 ?side2 ?side3 ?side4 A59.out).mono ?_); (case side1 => exact Kd.C_below (Kd.R_reads' HO1795.out).2.2 pl); (case side2 => exact (Kd.R_reads' HO1795.out).2.1); (case side3 => exact Kd.C_below (Kd.R_reads' HO1802.out).2.2 pl); (case side4 => exact (Kd.R_reads' HO1802.out).2.1); rintro e w79 ⟨rfl, hb⟩; replace HO1781 := am (Kd.R_below (Kd.R_below HO1781.out pl) hb); replace HO1788 := am (Kd.R_below (Kd.R_below HO1788.out pl) hb); replace HO1795 := am (Kd.R_below (Kd.R_below HO1795.out pl) hb); replace HO1802 := am (Kd.R_below (Kd.R_below HO1802.out pl) hb); replace BK1775 := am (blk_below (blk_below BK1775.out pl) hb); replace BK1776 := am (blk_below (blk_below BK1776.out pl) hb); replace BK1784 := am (blk_below (blk_below BK1784.out pl) hb); replace BK1791 := am (blk_below (blk_below BK1791.out pl) hb); replace BK1798 := am (blk_below (blk_below BK1798.out pl) hb); replace BK1805 := am (blk_below (blk_below BK1805.out pl) hb); replace HB := am (below_step pB hb); (try clear hb); (try clear hb2); (try clear hk); (try clear hi)))
      go_meet
      case rel => exact ⟨_, (!t1807), (by first | rfl | (simp; done) | (simp [*]; done)), H', ⟨by first | omega | exact Nat.le_refl _⟩, ⟨by refine rp ?_; exact Kd.R_mono HO1781.out (fun _ hk => ⟨hk.1.1, ⟨hk.1.2, hk.2⟩⟩)⟩, ⟨by refine rp ?_; exact Kd.R_mono HO1788.out (fun _ hk => ⟨hk.1.1, ⟨hk.1.2, hk.2⟩⟩)⟩, ⟨by refine rp ?_; exact Kd.R_mono HO1795.out (fun _ hk => ⟨hk.1.1, ⟨hk.1.2, hk.2⟩⟩)⟩, ⟨by refine rp ?_; exact Kd.R_mono HO1802.out (fun _ hk => ⟨hk.1.1.2, ⟨hk.1.2, hk.2⟩⟩)⟩, ⟨blk_below BK1775.out pl⟩, ⟨blk_below BK1776.out pl⟩, ⟨blk_below BK1784.out pl⟩, ⟨blk_below BK1791.out pl⟩, ⟨blk_below BK1798.out pl⟩, ⟨blk_below BK1805.out pl⟩, ⟨pB⟩⟩
     ·replace c58 := Bool.eq_false_iff.mpr c58
      subst c58
      rw [if_neg (show ¬ (false = true) by decide)] at H
      have H' := am H
      clear H
      have hnb80 := NB1784_1775.out
      have hnc80 := NB1775_1784.out
      have hnb81 := NB1784_1776.out
      have hnc81 := NB1776_1784.out
      have hnb82 := NB1784_1791.out
      have hnc82 := NB1791_1784.out
      have hnb83 := NB1784_1798.out
      have hnc83 := NB1798_1784.out
      have hnb84 := NB1784_1805.out
      have hnc84 := NB1805_1784.out
      obtain ⟨hcz85_0, hcz85_1, hcz85_2, hfz85_0, hfz85_1, hfz85_2⟩ := cEc BK1784.out
      have hnb86 := NB1791_1775.out
      have hnc86 := NB1775_1791.out
      have hnb87 := NB1791_1776.out
      have hnc87 := NB1776_1791.out
      have hnb88 := NB1791_1798.out
      have hnc88 := NB1798_1791.out
      have hnb89 := NB1791_1805.out
      have hnc89 := NB1805_1791.out
      obtain ⟨hcz90_0, hcz90_1, hcz90_2, hfz90_0, hfz90_1, hfz90_2⟩ := cEc BK1791.out
      go_wp2_with (first | (go_at_call 21; (with_reducible refine (bolterref02_Same.calls k t1778 _ _ t1779 t1782 t1785 _ _ t1786 t1789 false _ ?side1 ?side2 ?side3 ?side4 A57.out).mono ?_); (case side1 => refine (Kd.R_reads' (e := 85) (base := w.heap.size) (ok := fun k_ => ((some k_ ≠ (.slice Ao31 t1786.length co31 : Value).ownBlock /\ some k_ ≠ (.slice Ao42 t1793.length co42 : Value).ownBlock) /\ some k_ ≠ (.slice Ao54 t1800.length co54 : Value).ownBlock)) (n := t1779.length) (c := co21) ?_).2.2; exact (Kd.R_below (z3 HO1781.out BK1805.out (by decide) (.bool t1799) (.slice Ao54 t1800.length co54) (.int .i64 t1803)) pl)); (case side2 => exact (Kd.R_reads' HO1781.out).2.1); (case side3 => refine (Kd.R_reads' (e := 85) (base := w.heap.size) (ok := fun k_ => ((some k_ ≠ (.slice Ao21 t1779.length co21 : Value).ownBlock /\ some k_ ≠ (.slice Ao42 t1793.length co42 : Value).ownBlock) /\ some k_ ≠ (.slice Ao54 t1800.length co54 : Value).ownBlock)) (n := t1786.length) (c := co31) ?_).2.2; exact (Kd.R_below (z3 HO1788.out BK1805.out (by decide) (.bool t1799) (.slice Ao54 t1800.length co54) (.int .i64 t1803)) pl)); (case side4 => exact (Kd.R_reads' HO1788.out).2.1); rintro e w91 ⟨rfl, hb⟩; replace HO1781 := am (Kd.R_below (Kd.R_below (z3 HO1781.out BK1805.out (by decide) (.bool t1799) (.slice Ao54 t1800.length co54) (.int .i64 t1803)) pl) hb); replace HO1788 := am (Kd.R_below (Kd.R_below (z3 HO1788.out BK1805.out (by decide) (.bool t1799) (.slice Ao54 t1800.length co54) (.int .i64 t1803)) pl) hb); replace HO1795 := am (Kd.R_below (Kd.R_below (z3 HO1795.out BK1805.out (by decide) (.bool t1799) (.slice Ao54 t1800.length co54) (.int .i64 t1803)) pl) hb); replace HO1802 := am (Kd.R_below (Kd.R_below (z3 HO1802.out BK1805.out (by decide) (.bool t1799) (.slice Ao54 t1800.length co54) (.int .i64 t1803)) pl) hb); replace BK1775 := am (blk_below (bf NB1775_1805.out BK1775.out) hb); replace BK1776 := am (blk_below (bf NB1776_1805.out BK1776.out) hb); replace BK1784 := am (blk_below (bf NB1784_1805.out BK1784.out) hb); replace BK1791 := am (blk_below (bf NB1791_1805.out BK1791.out) hb); replace BK1798 := am (blk_below (bf NB1798_1805.out BK1798.out) hb); replace BK1805 := am (blk_below (g := gb1805) (o := .cells #[.bool t1799, .slice Ao54 t1800.length co54, .int .i64 t1803] 24 (0, 0)) (by refine bp ?_; refine blk_put (cs := #[.bool t1799, .slice Ao54 t1800.length co54, .int .i64 0]) ?_ 2 _ rfl; refine bp ?_; refine blk_put (cs := #[.bool t1799, .slice none 0 0, .int .i64 0]) ?_ 1 _ rfl; refine bp ?_; refine blk_put (cs := #[.bool false, .slice none 0 0, .int .i64 0]) ?_ 0 _ rfl; exact bp BK1805.out) hb); replace HB := am (below_step pB hb); (try clear hb); (try clear hb2); (try clear hk); (try clear hi)))
      go_meet
      case rel => exact ⟨_, (true), (by first | rfl | (simp; done) | (simp [*]; done)), H', ⟨by first | omega | exact Nat.le_refl _⟩, ⟨by refine rp ?_; exact Kd.R_mono HO1781.out (fun _ hk => ⟨hk.1.1, ⟨hk.1.2, hk.2⟩⟩)⟩, ⟨by refine rp ?_; exact Kd.R_mono HO1788.out (fun _ hk => ⟨hk.1.1, ⟨hk.1.2, hk.2⟩⟩)⟩, ⟨by refine rp ?_; exact Kd.R_mono HO1795.out (fun _ hk => ⟨hk.1.1, ⟨hk.1.2, hk.2⟩⟩)⟩, ⟨by refine rp ?_; exact Kd.R_mono HO1802.out (fun _ hk => ⟨hk.1.1.2, ⟨hk.1.2, hk.2⟩⟩)⟩, ⟨blk_below BK1775.out pl⟩, ⟨blk_below BK1776.out pl⟩, ⟨blk_below BK1784.out pl⟩, ⟨blk_below BK1791.out pl⟩, ⟨blk_below BK1798.out pl⟩, ⟨blk_below BK1805.out pl⟩, ⟨pB⟩⟩
    ·rw [if_neg c56] at H
     have c56b0 : (t1797 == t1804) = false := beq_eq_false_iff_ne.mpr c56
     have c56b1 : (t1797 != t1804) = true := bne_iff_ne.mpr c56
     have H' := am H
     clear H
     go_wp2
     go_meet
     case rel => exact ⟨_, (true), (by first | rfl | (simp; done) | (simp [*]; done)), H', ⟨by first | omega | exact Nat.le_refl _⟩, ⟨by refine rp ?_; exact Kd.R_mono (Kd.R_far (p := ⟨gb1805, 2, none⟩) (Kd.R_far (p := ⟨gb1805, 1, none⟩) (Kd.R_far (p := ⟨gb1805, 0, none⟩) (Kd.R_types HO1781.out BK1805.out (by decide)) (fun _ hk => hk.2) (.bool t1799)) (fun _ hk => hk.2) (.slice Ao54 t1800.length co54)) (fun _ hk => hk.2) (.int .i64 t1803)) (fun _ hk => ⟨hk.1.1.1, ⟨hk.1.1.2, hk.1.2⟩⟩)⟩, ⟨by refine rp ?_; exact Kd.R_mono (Kd.R_far (p := ⟨gb1805, 2, none⟩) (Kd.R_far (p := ⟨gb1805, 1, none⟩) (Kd.R_far (p := ⟨gb1805, 0, none⟩) (Kd.R_types HO1788.out BK1805.out (by decide)) (fun _ hk => hk.2) (.bool t1799)) (fun _ hk => hk.2) (.slice Ao54 t1800.length co54)) (fun _ hk => hk.2) (.int .i64 t1803)) (fun _ hk => ⟨hk.1.1.1, ⟨hk.1.1.2, hk.1.2⟩⟩)⟩, ⟨by refine rp ?_; exact Kd.R_mono (Kd.R_far (p := ⟨gb1805, 2, none⟩) (Kd.R_far (p := ⟨gb1805, 1, none⟩) (Kd.R_far (p := ⟨gb1805, 0, none⟩) (Kd.R_types HO1795.out BK1805.out (by decide)) (fun _ hk => hk.2) (.bool t1799)) (fun _ hk => hk.2) (.slice Ao54 t1800.length co54)) (fun _ hk => hk.2) (.int .i64 t1803)) (fun _ hk => ⟨hk.1.1.1, ⟨hk.1.1.2, hk.1.2⟩⟩)⟩, ⟨by refine rp ?_; exact Kd.R_mono (Kd.R_far (p := ⟨gb1805, 2, none⟩) (Kd.R_far (p := ⟨gb1805, 1, none⟩) (Kd.R_far (p := ⟨gb1805, 0, none⟩) (Kd.R_types HO1802.out BK1805.out (by decide)) (fun _ hk => hk.2) (.bool t1799)) (fun _ hk => hk.2) (.slice Ao54 t1800.length co54)) (fun _ hk => hk.2) (.int .i64 t1803)) (fun _ hk => ⟨hk.1.1.1.2, ⟨hk.1.1.2, hk.1.2⟩⟩)⟩, ⟨bf NB1775_1805.out BK1775.out⟩, ⟨bf NB1776_1805.out BK1776.out⟩, ⟨bf NB1784_1805.out BK1784.out⟩, ⟨bf NB1791_1805.out BK1791.out⟩, ⟨bf NB1798_1805.out BK1798.out⟩, ⟨by refine bp ?_; refine blk_put (cs := #[.bool t1799, .slice Ao54 t1800.length co54, .int .i64 0]) ?_ 2 _ rfl; refine bp ?_; refine blk_put (cs := #[.bool t1799, .slice none 0 0, .int .i64 0]) ?_ 1 _ rfl; refine bp ?_; refine blk_put (cs := #[.bool false, .slice none 0 0, .int .i64 0]) ?_ 0 _ rfl; exact bp BK1805.out⟩, ⟨pB⟩⟩
   ·rw [if_neg c55] at H
    have c55b0 : (t1783 == t1790) = false := beq_eq_false_iff_ne.mpr c55
    have c55b1 : (t1783 != t1790) = true := bne_iff_ne.mpr c55
    (first | rw [c55b0] | (simp only [i64_w, i32_w]; rw [c55b0]) | skip)
    have H' := am H
    clear H
    go_wp2
    go_meet
    case rel => exact ⟨_, (true), (by first | rfl | (simp; done) | (simp [*]; done)), H', ⟨by first | omega | exact Nat.le_refl _⟩, ⟨by refine rp ?_; exact Kd.R_mono (Kd.R_far (p := ⟨gb1805, 2, none⟩) (Kd.R_far (p := ⟨gb1805, 1, none⟩) (Kd.R_far (p := ⟨gb1805, 0, none⟩) (Kd.R_types HO1781.out BK1805.out (by decide)) (fun _ hk => hk.2) (.bool t1799)) (fun _ hk => hk.2) (.slice Ao54 t1800.length co54)) (fun _ hk => hk.2) (.int .i64 t1803)) (fun _ hk => ⟨hk.1.1.1, ⟨hk.1.1.2, hk.1.2⟩⟩)⟩, ⟨by refine rp ?_; exact Kd.R_mono (Kd.R_far (p := ⟨gb1805, 2, none⟩) (Kd.R_far (p := ⟨gb1805, 1, none⟩) (Kd.R_far (p := ⟨gb1805, 0, none⟩) (Kd.R_types HO1788.out BK1805.out (by decide)) (fun _ hk => hk.2) (.bool t1799)) (fun _ hk => hk.2) (.slice Ao54 t1800.length co54)) (fun _ hk => hk.2) (.int .i64 t1803)) (fun _ hk => ⟨hk.1.1.1, ⟨hk.1.1.2, hk.1.2⟩⟩)⟩, ⟨by refine rp ?_; exact Kd.R_mono (Kd.R_far (p := ⟨gb1805, 2, none⟩) (Kd.R_far (p := ⟨gb1805, 1, none⟩) (Kd.R_far (p := ⟨gb1805, 0, none⟩) (Kd.R_types HO1795.out BK1805.out (by decide)) (fun _ hk => hk.2) (.bool t1799)) (fun _ hk => hk.2) (.slice Ao54 t1800.length co54)) (fun _ hk => hk.2) (.int .i64 t1803)) (fun _ hk => ⟨hk.1.1.1, ⟨hk.1.1.2, hk.1.2⟩⟩)⟩, ⟨by refine rp ?_; exact Kd.R_mono (Kd.R_far (p := ⟨gb1805, 2, none⟩) (Kd.R_far (p := ⟨gb1805, 1, none⟩) (Kd.R_far (p := ⟨gb1805, 0, none⟩) (Kd.R_types HO1802.out BK1805.out (by decide)) (fun _ hk => hk.2) (.bool t1799)) (fun _ hk => hk.2) (.slice Ao54 t1800.length co54)) (fun _ hk => hk.2) (.int .i64 t1803)) (fun _ hk => ⟨hk.1.1.1.2, ⟨hk.1.1.2, hk.1.2⟩⟩)⟩, ⟨bf NB1775_1805.out BK1775.out⟩, ⟨bf NB1776_1805.out BK1776.out⟩, ⟨bf NB1784_1805.out BK1784.out⟩, ⟨bf NB1791_1805.out BK1791.out⟩, ⟨bf NB1798_1805.out BK1798.out⟩, ⟨by refine bp ?_; refine blk_put (cs := #[.bool t1799, .slice Ao54 t1800.length co54, .int .i64 0]) ?_ 2 _ rfl; refine bp ?_; refine blk_put (cs := #[.bool t1799, .slice none 0 0, .int .i64 0]) ?_ 1 _ rfl; refine bp ?_; refine blk_put (cs := #[.bool false, .slice none 0 0, .int .i64 0]) ?_ 0 _ rfl; exact bp BK1805.out⟩, ⟨pB⟩⟩
  case rest =>
   clear HC9
   (try clear c4); (try clear hcz14_0); (try clear hcz14_1); (try clear hcz14_2); (try clear hcz15_0); (try clear hcz15_1); (try clear hcz15_2); (try clear hcz20_0); (try clear hcz20_1); (try clear hcz20_2); (try clear hcz23_0); (try clear hcz23_1); (try clear hcz23_2); (try clear hcz24_0); (try clear hcz24_1); (try clear hcz24_2); (try clear hcz30_0); (try clear hcz30_1); (try clear hcz30_2); (try clear hcz33_0); (try clear hcz33_1); (try clear hcz33_2); (try clear hcz34_0); (try clear hcz34_1); (try clear hcz34_2); (try clear hcz41_0); (try clear hcz41_1); (try clear hcz41_2); (try clear hcz44_0); (try clear hcz44_1); (try clear hcz44_2); (try clear hcz45_0); (try clear hcz45_1); (try clear hcz45_2); (try clear hcz53_0); (try clear hcz53_1); (try clear hcz53_2); (try clear hfz14_0); (try clear hfz14_1); (try clear hfz14_2); (try clear hfz15_0); (try clear hfz15_1); (try clear hfz15_2); (try clear hfz20_0); (try clear hfz20_1); (try clear hfz20_2); (try clear hfz23_0); (try clear hfz23_1); (try clear hfz23_2); (try clear hfz24_0); (try clear hfz24_1); (try clear hfz24_2); (try clear hfz30_0); (try clear hfz30_1); (try clear hfz30_2); (try clear hfz33_0); (try clear hfz33_1); (try clear hfz33_2); (try clear hfz34_0); (try clear hfz34_1); (try clear hfz34_2); (try clear hfz41_0); (try clear hfz41_1); (try clear hfz41_2); (try clear hfz44_0); (try clear hfz44_1); (try clear hfz44_2); (try clear hfz45_0); (try clear hfz45_1); (try clear hfz45_2); (try clear hfz53_0); (try clear hfz53_1); (try clear hfz53_2)
   obtain ⟨kq, x60_8, rfl, HA, HJ8, HO_1785001, HO_1792001, HO_1799001, HO_1806001, BK1775, BK1776, BK1784, BK1791, BK1798, BK1805, HB⟩ := hcut
   cases kq with
   | zero => exact absurd HA.out (by simp [bolterlaw02_DecSums.j0])
   | succ kj8 =>
    have H := HA.out
    clear HA
    simp only [bolterlaw02_DecSums.j0] at H
    by_cases c92 : x60_8 = true
    ·subst c92
     rw [if_pos rfl] at H
     exact absurd ((Option.some.inj H).trans hr) Bool.false_ne_true
    ·replace c92 := Bool.eq_false_iff.mpr c92
     subst c92
     rw [if_neg (show ¬ (false = true) by decide)] at H
     obtain ⟨⟨t1808, t1809, t1812, t1813⟩, A93, H⟩ := ob H; (try dsimp only at H)
     obtain ⟨t1815, A94, H⟩ := ob H
     by_cases c95 : t1815 = 0
     ·rw [if_pos c95] at H
      have c95b0 : (t1815 == 0) = true := beq_iff_eq.mpr c95
      have c95b1 : (t1815 != 0) = false := bne_eq_false_iff_eq.mpr c95
      clear c95
      obtain ⟨t1816, A96, H⟩ := ob H
      by_cases c97 : t1816 = 0
      ·rw [if_pos c97] at H
       have c97b0 : (t1816 == 0) = true := beq_iff_eq.mpr c97
       have c97b1 : (t1816 != 0) = false := bne_eq_false_iff_eq.mpr c97
       clear c97
       obtain ⟨t1817, A98, H⟩ := ob H
       obtain rfl := Option.some.inj H
       have hnb99 := NB1784_1775.out
       have hnc99 := NB1775_1784.out
       have hnb100 := NB1784_1776.out
       have hnc100 := NB1776_1784.out
       have hnb101 := NB1784_1791.out
       have hnc101 := NB1791_1784.out
       have hnb102 := NB1784_1798.out
       have hnc102 := NB1798_1784.out
       have hnb103 := NB1784_1805.out
       have hnc103 := NB1805_1784.out
       obtain ⟨hcz104_0, hcz104_1, hcz104_2, hfz104_0, hfz104_1, hfz104_2⟩ := cEc BK1784.out
       have hnb105 := NB1776_1775.out
       have hnc105 := NB1775_1776.out
       have hnb106 := NB1776_1791.out
       have hnc106 := NB1791_1776.out
       have hnb107 := NB1776_1798.out
       have hnc107 := NB1798_1776.out
       have hnb108 := NB1776_1805.out
       have hnc108 := NB1805_1776.out
       obtain ⟨hcz109_0, hcz109_1, hcz109_2, hfz109_0, hfz109_1, hfz109_2⟩ := cEc BK1776.out
       go_wp2_with (first | (refine gL (some 64) Tryz.func50 #[.agg #[.bool t1778, .slice Ao21 t1779.length co21, .int .i64 t1782], .agg #[.bool a1_0, .slice A1_1 l1_1.length c1_1, .int .i64 a1_2]] (h := ?_); (with_reducible refine (dec_Sub.calls kj8 t1778 (fun k_ => some k_ = (.slice Ao21 t1779.length co21 : Value).ownBlock) _ _ t1779 t1782 a1_0 (fun k_ => k_ < w.heap.size) _ _ l1_1 a1_2 t1808 t1809 t1812 t1813 _ ?side1 ?side2 A93.out).mono ?_); (case side1 => exact Kd.R_V (Kd.R_tight rfl (Kd.R_types (Kd.R_types (Kd.R_types (Kd.R_types (Kd.R_types (Kd.R_types (HO_1785001.out) BK1775.out (by decide)) BK1776.out (by decide)) BK1784.out (by decide)) BK1791.out (by decide)) BK1798.out (by decide)) BK1805.out (by decide)))); (case side2 => exact Kd.V_mk HC1_1.out (Kd.F_below (Kd.C_F (Kd.heap_int .u32) HR1_1.out) pB)); rintro e w110 ⟨v1810, rfl, ho0, hb⟩; refine ⟨_, rfl, ?_⟩; have n0_ := am (Kd.R_elder' (Kd.R_below HO_1785001.out pl) (Kd.R_base ho0) hb); have n1_ := am (Kd.R_elder' (Kd.R_below HO_1792001.out pl) (Kd.R_base ho0) hb); have n2_ := am (Kd.R_elder' (Kd.R_below HO_1799001.out pl) (Kd.R_base ho0) hb); have n3_ := am (Kd.R_elder' (Kd.R_below HO_1806001.out pl) (Kd.R_base ho0) hb); have n4_ := am (Kd.R_lower (Kd.R_new' (Kd.R_new' (Kd.R_new' (Kd.R_new' (Kd.R_mono (ok' := fun k_ => True) ho0 (fun _ hk_ => trivial)) (Kd.R_lt (Kd.R_below HO_1785001.out pl))) (Kd.R_lt (Kd.R_below HO_1792001.out pl))) (Kd.R_lt (Kd.R_below HO_1799001.out pl))) (Kd.R_lt (Kd.R_below HO_1806001.out pl))) (below_size pB)); have n5_ := am (blk_below (blk_below BK1775.out pl) hb); have n6_ := am (blk_below (blk_below BK1776.out pl) hb); have n7_ := am (blk_below (blk_below BK1784.out pl) hb); have n8_ := am (blk_below (blk_below BK1791.out pl) hb); have n9_ := am (blk_below (blk_below BK1798.out pl) hb); have n10_ := am (blk_below (blk_below BK1805.out pl) hb); have n11_ := am (below_step pB hb); clear HO_1785001 HO_1792001 HO_1799001 HO_1806001 BK1775 BK1776 BK1784 BK1791 BK1798 BK1805 HB; have HO_1785001 := n0_; have HO_1792001 := n1_; have HO_1799001 := n2_; have HO_1806001 := n3_; have HO1811 := n4_; have BK1775 := n5_; have BK1776 := n6_; have BK1784 := n7_; have BK1791 := n8_; have BK1798 := n9_; have BK1805 := n10_; have HB := n11_; clear n0_ n1_ n2_ n3_ n4_ n5_ n6_ n7_ n8_ n9_ n10_ n11_; (try clear hb); (try clear hb2); (try clear hk); (try clear hi); (try clear ho0)) | ((with_reducible refine gate_dst (N := 13) rfl ?_); refine box_event ?hg (N := 13) ?hd (cs := #[.bool false, .slice none 0 0, .int .i64 0]) (t := 24) ?hr ?_; (case hd => rfl); (case hg => rfl); (case hr => first | (go_simp; done) | (go_simp; rfl)); intro gb1814 hg w111 hbox hb; have n0_ := am (Kd.R_below (Kd.R_below HO_1785001.out pl) hb); have n1_ := am (Kd.R_below (Kd.R_below HO_1792001.out pl) hb); have n2_ := am (Kd.R_below (Kd.R_below HO_1799001.out pl) hb); have n3_ := am (Kd.R_below (Kd.R_below HO_1806001.out pl) hb); have n4_ := am (Kd.R_below (Kd.R_below HO1811.out pl) hb); have n5_ := am (blk_below (blk_below BK1775.out pl) hb); have n6_ := am (blk_below (blk_below BK1776.out pl) hb); have n7_ := am (blk_below (blk_below BK1784.out pl) hb); have n8_ := am (blk_below (blk_below BK1791.out pl) hb); have n9_ := am (blk_below (blk_below BK1798.out pl) hb); have n10_ := am (blk_below (blk_below BK1805.out pl) hb); have n11_ := am (below_step pB hb); have n12_ := am (hbox); have n13_ := am ((gw hg pB : w.heap.size <= gb1814)); have n14_ := am ((gw hg pB : w.heap.size <= gb1814)); have n15_ := am ((nl hg (blk_below BK1775.out pl) : gb1775 ≠ gb1814)); have n16_ := am ((ng hg (blk_below BK1775.out pl) : gb1814 ≠ gb1775)); have n17_ := am ((nl hg (blk_below BK1776.out pl) : gb1776 ≠ gb1814)); have n18_ := am ((ng hg (blk_below BK1776.out pl) : gb1814 ≠ gb1776)); have n19_ := am ((nl hg (blk_below BK1784.out pl) : gb1784 ≠ gb1814)); have n20_ := am ((ng hg (blk_below BK1784.out pl) : gb1814 ≠ gb1784)); have n21_ := am ((nl hg (blk_below BK1791.out pl) : gb1791 ≠ gb1814)); have n22_ := am ((ng hg (blk_below BK1791.out pl) : gb1814 ≠ gb1791)); have n23_ := am ((nl hg (blk_below BK1798.out pl) : gb1798 ≠ gb1814)); have n24_ := am ((ng hg (blk_below BK1798.out pl) : gb1814 ≠ gb1798)); have n25_ := am ((nl hg (blk_below BK1805.out pl) : gb1805 ≠ gb1814)); have n26_ := am ((ng hg (blk_below BK1805.out pl) : gb1814 ≠ gb1805)); clear HO_1785001 HO_1792001 HO_1799001 HO_1806001 HO1811 BK1775 BK1776 BK1784 BK1791 BK1798 BK1805 HB; have HO_1785001 := n0_; have HO_1792001 := n1_; have HO_1799001 := n2_; have HO_1806001 := n3_; have HO1811 := n4_; have BK1775 := n5_; have BK1776 := n6_; have BK1784 := n7_; have BK1791 := n8_; have BK1798 := n9_; have BK1805 := n10_; have HB := n11_; have BK1814 := n12_; have GW1814 := n13_; have GE1814 := n14_; have NB1775_1814 := n15_; have NB1814_1775 := n16_; have NB1776_1814 := n17_; have NB1814_1776 := n18_; have NB1784_1814 := n19_; have NB1814_1784 := n20_; have NB1791_1814 := n21_; have NB1814_1791 := n22_; have NB1798_1814 := n23_; have NB1814_1798 := n24_; have NB1805_1814 := n25_; have NB1814_1805 := n26_; clear n0_ n1_ n2_ n3_ n4_ n5_ n6_ n7_ n8_ n9_ n10_ n11_ n12_ n13_ n14_ n15_ n16_ n17_ n18_ n19_ n20_ n21_ n22_ n23_ n24_ n25_ n26_ hb hbox hg; have hnb112 := NB1814_1775.out; have hnc112 := NB1775_1814.out; have hnb113 := NB1814_1776.out; have hnc113 := NB1776_1814.out; have hnb114 := NB1814_1784.out; have hnc114 := NB1784_1814.out; have hnb115 := NB1814_1791.out; have hnc115 := NB1791_1814.out; have hnb116 := NB1814_1798.out; have hnc116 := NB1798_1814.out; have hnb117 := NB1814_1805.out; have hnc117 := NB1805_1814.out; obtain ⟨hcz118_0, hcz118_1, hcz118_2, hfz118_0, hfz118_1, hfz118_2⟩ := cEc BK1814.out; obtain ⟨Ao119, co119, eo119⟩ := Kd.R_slice HO1811.out; subst eo119) | (refine gL (some 68) Tryz.func47 #[.int .i64 t1783] (h := ?_); (with_reducible refine (bolterlaw02_num.calls t1783 t1815 _ A94.out).mono ?_); rintro e w' ⟨rfl, ⟨nd, rfl⟩⟩; refine ⟨_, rfl, ?_⟩) | (go_at_call 47; (with_reducible refine (bolterlaw02_num.calls t1813 t1816 _ A96.out).mono ?_); rintro e w' ⟨rfl, ⟨nd, rfl⟩⟩; have hnb120 := NB1775_1791.out; have hnc120 := NB1791_1775.out; have hnb121 := NB1775_1798.out; have hnc121 := NB1798_1775.out; have hnb122 := NB1775_1805.out; have hnc122 := NB1805_1775.out; obtain ⟨hcz123_0, hcz123_1, hcz123_2, hfz123_0, hfz123_1, hfz123_2⟩ := cEc BK1775.out) | (go_at_call 21; (with_reducible refine (bolterref02_Same.calls kj8 t1808 _ _ t1809 t1812 a0_0 _ _ l0_1 a0_2 t1817 _ ?side1 ?side2 ?side3 ?side4 A98.out).mono ?_); (case side1 => refine (Kd.R_reads' (e := 85) (base := w.heap.size) (ok := fun k_ => ((((True /\ some k_ ≠ (.slice Ao21 t1779.length co21 : Value).ownBlock) /\ some k_ ≠ (.slice Ao31 t1786.length co31 : Value).ownBlock) /\ some k_ ≠ (.slice Ao42 t1793.length co42 : Value).ownBlock) /\ some k_ ≠ (.slice Ao54 t1800.length co54 : Value).ownBlock)) (n := t1809.length) (c := co119) ?_).2.2; exact (Kd.R_below (z3 HO1811.out BK1814.out (by decide) (.bool t1808) (.slice Ao119 t1809.length co119) (.int .i64 t1812)) pl)); (case side2 => exact (Kd.R_reads' HO1811.out).2.1); (case side3 => exact Kd.C_below HR0_1.out pB); (case side4 => exact HC0_1.out); rintro e w124 ⟨rfl, hb⟩; replace HO_1785001 := am (Kd.R_below (Kd.R_below (z3 HO_1785001.out BK1814.out (by decide) (.bool t1808) (.slice Ao119 t1809.length co119) (.int .i64 t1812)) pl) hb); replace HO_1792001 := am (Kd.R_below (Kd.R_below (z3 HO_1792001.out BK1814.out (by decide) (.bool t1808) (.slice Ao119 t1809.length co119) (.int .i64 t1812)) pl) hb); replace HO_1799001 := am (Kd.R_below (Kd.R_below (z3 HO_1799001.out BK1814.out (by decide) (.bool t1808) (.slice Ao119 t1809.length co119) (.int .i64 t1812)) pl) hb); replace HO_1806001 := am (Kd.R_below (Kd.R_below (z3 HO_1806001.out BK1814.out (by decide) (.bool t1808) (.slice Ao119 t1809.length co119) (.int .i64 t1812)) pl) hb); replace HO1811 := am (Kd.R_below (Kd.R_below (z3 HO1811.out BK1814.out (by decide) (.bool t1808) (.slice Ao119 t1809.length co119) (.int .i64 t1812)) pl) hb); replace BK1775 := am (blk_below (bf NB1775_1814.out BK1775.out) hb); replace BK1776 := am (blk_below (bf NB1776_1814.out BK1776.out) hb); replace BK1784 := am (blk_below (bf NB1784_1814.out BK1784.out) hb); replace BK1791 := am (blk_below (bf NB1791_1814.out BK1791.out) hb); replace BK1798 := am (blk_below (bf NB1798_1814.out BK1798.out) hb); replace BK1805 := am (blk_below (bf NB1805_1814.out BK1805.out) hb); replace BK1814 := am (blk_below (g := gb1814) (o := .cells #[.bool t1808, .slice Ao119 t1809.length co119, .int .i64 t1812] 24 (0, 0)) (by refine bp ?_; refine blk_put (cs := #[.bool t1808, .slice Ao119 t1809.length co119, .int .i64 0]) ?_ 2 _ rfl; refine bp ?_; refine blk_put (cs := #[.bool t1808, .slice none 0 0, .int .i64 0]) ?_ 1 _ rfl; refine bp ?_; refine blk_put (cs := #[.bool false, .slice none 0 0, .int .i64 0]) ?_ 0 _ rfl; exact bp BK1814.out) hb); replace HB := am (below_step pB hb); (try clear hb); (try clear hb2); (try clear hk); (try clear hi)))
       go_ret
       exact ⟨pE, pB⟩
      ·rw [if_neg c97] at H
       have c97b0 : (t1816 == 0) = false := beq_eq_false_iff_ne.mpr c97
       have c97b1 : (t1816 != 0) = true := bne_iff_ne.mpr c97
       exact absurd ((Option.some.inj H).trans hr) Bool.false_ne_true
     ·rw [if_neg c95] at H
      have c95b0 : (t1815 == 0) = false := beq_eq_false_iff_ne.mpr c95
      have c95b1 : (t1815 != 0) = true := bne_iff_ne.mpr c95
      obtain rfl := Option.some.inj H
      have hnb146 := NB1784_1775.out
      have hnc146 := NB1775_1784.out
      have hnb147 := NB1784_1776.out
      have hnc147 := NB1776_1784.out
      have hnb148 := NB1784_1791.out
      have hnc148 := NB1791_1784.out
      have hnb149 := NB1784_1798.out
      have hnc149 := NB1798_1784.out
      have hnb150 := NB1784_1805.out
      have hnc150 := NB1805_1784.out
      obtain ⟨hcz151_0, hcz151_1, hcz151_2, hfz151_0, hfz151_1, hfz151_2⟩ := cEc BK1784.out
      have hnb152 := NB1776_1775.out
      have hnc152 := NB1775_1776.out
      have hnb153 := NB1776_1791.out
      have hnc153 := NB1791_1776.out
      have hnb154 := NB1776_1798.out
      have hnc154 := NB1798_1776.out
      have hnb155 := NB1776_1805.out
      have hnc155 := NB1805_1776.out
      obtain ⟨hcz156_0, hcz156_1, hcz156_2, hfz156_0, hfz156_1, hfz156_2⟩ := cEc BK1776.out
      go_wp2_with (first | (refine gL (some 64) Tryz.func50 #[.agg #[.bool t1778, .slice Ao21 t1779.length co21, .int .i64 t1782], .agg #[.bool a1_0, .slice A1_1 l1_1.length c1_1, .int .i64 a1_2]] (h := ?_); (with_reducible refine (dec_Sub.calls kj8 t1778 (fun k_ => some k_ = (.slice Ao21 t1779.length co21 : Value).ownBlock) _ _ t1779 t1782 a1_0 (fun k_ => k_ < w.heap.size) _ _ l1_1 a1_2 t1808 t1809 t1812 t1813 _ ?side1 ?side2 A93.out).mono ?_); (case side1 => exact Kd.R_V (Kd.R_tight rfl (Kd.R_types (Kd.R_types (Kd.R_types (Kd.R_types (Kd.R_types (Kd.R_types (HO_1785001.out) BK1775.out (by decide)) BK1776.out (by decide)) BK1784.out (by decide)) BK1791.out (by decide)) BK1798.out (by decide)) BK1805.out (by decide)))); (case side2 => exact Kd.V_mk HC1_1.out (Kd.F_below (Kd.C_F (Kd.heap_int .u32) HR1_1.out) pB)); rintro e w157 ⟨v1810, rfl, ho0, hb⟩; refine ⟨_, rfl, ?_⟩; have n0_ := am (Kd.R_elder' (Kd.R_below HO_1785001.out pl) (Kd.R_base ho0) hb); have n1_ := am (Kd.R_elder' (Kd.R_below HO_1792001.out pl) (Kd.R_base ho0) hb); have n2_ := am (Kd.R_elder' (Kd.R_below HO_1799001.out pl) (Kd.R_base ho0) hb); have n3_ := am (Kd.R_elder' (Kd.R_below HO_1806001.out pl) (Kd.R_base ho0) hb); have n4_ := am (Kd.R_lower (Kd.R_new' (Kd.R_new' (Kd.R_new' (Kd.R_new' (Kd.R_mono (ok' := fun k_ => True) ho0 (fun _ hk_ => trivial)) (Kd.R_lt (Kd.R_below HO_1785001.out pl))) (Kd.R_lt (Kd.R_below HO_1792001.out pl))) (Kd.R_lt (Kd.R_below HO_1799001.out pl))) (Kd.R_lt (Kd.R_below HO_1806001.out pl))) (below_size pB)); have n5_ := am (blk_below (blk_below BK1775.out pl) hb); have n6_ := am (blk_below (blk_below BK1776.out pl) hb); have n7_ := am (blk_below (blk_below BK1784.out pl) hb); have n8_ := am (blk_below (blk_below BK1791.out pl) hb); have n9_ := am (blk_below (blk_below BK1798.out pl) hb); have n10_ := am (blk_below (blk_below BK1805.out pl) hb); have n11_ := am (below_step pB hb); clear HO_1785001 HO_1792001 HO_1799001 HO_1806001 BK1775 BK1776 BK1784 BK1791 BK1798 BK1805 HB; have HO_1785001 := n0_; have HO_1792001 := n1_; have HO_1799001 := n2_; have HO_1806001 := n3_; have HO1811 := n4_; have BK1775 := n5_; have BK1776 := n6_; have BK1784 := n7_; have BK1791 := n8_; have BK1798 := n9_; have BK1805 := n10_; have HB := n11_; clear n0_ n1_ n2_ n3_ n4_ n5_ n6_ n7_ n8_ n9_ n10_ n11_; (try clear hb); (try clear hb2); (try clear hk); (try clear hi); (try clear ho0)) | ((with_reducible refine gate_dst (N := 13) rfl ?_); refine box_event ?hg (N := 13) ?hd (cs := #[.bool false, .slice none 0 0, .int .i64 0]) (t := 24) ?hr ?_; (case hd => rfl); (case hg => rfl); (case hr => first | (go_simp; done) | (go_simp; rfl)); intro gb1814 hg w158 hbox hb; have n0_ := am (Kd.R_below (Kd.R_below HO_1785001.out pl) hb); have n1_ := am (Kd.R_below (Kd.R_below HO_1792001.out pl) hb); have n2_ := am (Kd.R_below (Kd.R_below HO_1799001.out pl) hb); have n3_ := am (Kd.R_below (Kd.R_below HO_1806001.out pl) hb); have n4_ := am (Kd.R_below (Kd.R_below HO1811.out pl) hb); have n5_ := am (blk_below (blk_below BK1775.out pl) hb); have n6_ := am (blk_below (blk_below BK1776.out pl) hb); have n7_ := am (blk_below (blk_below BK1784.out pl) hb); have n8_ := am (blk_below (blk_below BK1791.out pl) hb); have n9_ := am (blk_below (blk_below BK1798.out pl) hb); have n10_ := am (blk_below (blk_below BK1805.out pl) hb); have n11_ := am (below_step pB hb); have n12_ := am (hbox); have n13_ := am ((gw hg pB : w.heap.size <= gb1814)); have n14_ := am ((gw hg pB : w.heap.size <= gb1814)); have n15_ := am ((nl hg (blk_below BK1775.out pl) : gb1775 ≠ gb1814)); have n16_ := am ((ng hg (blk_below BK1775.out pl) : gb1814 ≠ gb1775)); have n17_ := am ((nl hg (blk_below BK1776.out pl) : gb1776 ≠ gb1814)); have n18_ := am ((ng hg (blk_below BK1776.out pl) : gb1814 ≠ gb1776)); have n19_ := am ((nl hg (blk_below BK1784.out pl) : gb1784 ≠ gb1814)); have n20_ := am ((ng hg (blk_below BK1784.out pl) : gb1814 ≠ gb1784)); have n21_ := am ((nl hg (blk_below BK1791.out pl) : gb1791 ≠ gb1814)); have n22_ := am ((ng hg (blk_below BK1791.out pl) : gb1814 ≠ gb1791)); have n23_ := am ((nl hg (blk_below BK1798.out pl) : gb1798 ≠ gb1814)); have n24_ := am ((ng hg (blk_below BK1798.out pl) : gb1814 ≠ gb1798)); have n25_ := am ((nl hg (blk_below BK1805.out pl) : gb1805 ≠ gb1814)); have n26_ := am ((ng hg (blk_below BK1805.out pl) : gb1814 ≠ gb1805)); clear HO_1785001 HO_1792001 HO_1799001 HO_1806001 HO1811 BK1775 BK1776 BK1784 BK1791 BK1798 BK1805 HB; have HO_1785001 := n0_; have HO_1792001 := n1_; have HO_1799001 := n2_; have HO_1806001 := n3_; have HO1811 := n4_; have BK1775 := n5_; have BK1776 := n6_; have BK1784 := n7_; have BK1791 := n8_; have BK1798 := n9_; have BK1805 := n10_; have HB := n11_; have BK1814 := n12_; have GW1814 := n13_; have GE1814 := n14_; have NB1775_1814 := n15_; have NB1814_1775 := n16_; have NB1776_1814 := n17_; have NB1814_1776 := n18_; have NB1784_1814 := n19_; have NB1814_1784 := n20_; have NB1791_1814 := n21_; have NB1814_1791 := n22_; have NB1798_1814 := n23_; have NB1814_1798 := n24_; have NB1805_1814 := n25_; have NB1814_1805 := n26_; clear n0_ n1_ n2_ n3_ n4_ n5_ n6_ n7_ n8_ n9_ n10_ n11_ n12_ n13_ n14_ n15_ n16_ n17_ n18_ n19_ n20_ n21_ n22_ n23_ n24_ n25_ n26_ hb hbox hg; have hnb159 := NB1814_1775.out; have hnc159 := NB1775_1814.out; have hnb160 := NB1814_1776.out; have hnc160 := NB1776_1814.out; have hnb161 := NB1814_1784.out; have hnc161 := NB1784_1814.out; have hnb162 := NB1814_1791.out; have hnc162 := NB1791_1814.out; have hnb163 := NB1814_1798.out; have hnc163 := NB1798_1814.out; have hnb164 := NB1814_1805.out; have hnc164 := NB1805_1814.out; obtain ⟨hcz165_0, hcz165_1, hcz165_2, hfz165_0, hfz165_1, hfz165_2⟩ := cEc BK1814.out; obtain ⟨Ao166, co166, eo166⟩ := Kd.R_slice HO1811.out; subst eo166) | (refine gL (some 68) Tryz.func47 #[.int .i64 t1783] (h := ?_); (with_reducible refine (bolterlaw02_num.calls t1783 t1815 _ A94.out).mono ?_); rintro e w' ⟨rfl, ⟨nd, rfl⟩⟩; refine ⟨_, rfl, ?_⟩))
      go_ret
      exact ⟨pE, pB⟩
 ·replace c4 := Bool.eq_false_iff.mpr c4
  subst c4
  rw [if_neg (show ¬ (false = true) by decide)] at H
  exact absurd ((Option.some.inj H).trans hr) Bool.false_ne_true
end YtjbjkmccfocikaaGreatDoor.B
end
section
namespace YtjbjkmccfocikaaGreatDoor.P.Nm
open Go.RowKit YtjbjkmccfocikaaGreatDoorW.PrintWords YtjbjkmccfocikaaGreatDoor.B YtjbjkmccfocikaaGreatDoor.P
structure RawD (l : List Int) : Prop where
 dg : Dg 4294967296 l
 len : l.length <= 9223372036854775807
theorem addD_comm {D E : Dm} (hD : OkD D) (hE : OkD E) : addD D E = addD E D := by
 have d := hD.low; have e := hE.low
 unfold addD
 refine settle_sc (K := 1000) (by rw [plusD_e]; omega) (by rw [plusD_e]; omega) ?_
 rw [sc_plusD (by omega) (by omega), sc_plusD (by omega) (by omega), Int.add_comm]
theorem timesD_comm {D E : Dm} (hD : OkD D) (hE : OkD E) : timesD D E = timesD E D := by
 have d := hD.low; have e := hE.low
 unfold timesD
 refine settle_sc (K := 1000 + 1000) (by show -(1000 + 1000) <= D.e + E.e; omega) (by show -(1000 + 1000) <= E.e + D.e; omega) ?_
 rw [sc_mulD (by omega) (by omega), sc_mulD (by omega) (by omega), Int.mul_comm]
theorem sub_back {D E : Dm} (hD : OkD D) (hE : OkD E) (h : (addD D E).2 = 0) : subD (addD D E).1 E = (D, 0) := by
 have d := hD.low; have e := hE.low
 have hs := settle_ok (plusD D E)
 have hsl := hs.low
 have h1 : settleD (plusD D E) = ((addD D E).1, 0) := by
  rw [<- h]; rfl
 have h2 := sc_settle (K := 1000) (a := plusD D E) (by rw [plusD_e]; omega) h1
 have h3 : settleD (plusD (addD D E).1 (negD E)) = settleD D := by
  refine settle_sc (K := 1000) (by rw [plusD_e]; show -1000 <= min _ E.e; unfold addD; omega) d ?_
  have h4 := sc_plusD (K := 1000) (a := (addD D E).1) (b := negD E) hsl (show -1000 <= E.e by omega)
  rw [h4, sc_negD, h2, sc_plusD (by omega) (by omega)]
  omega
 unfold subD
 rw [h3, settle_of hD]
theorem Add_bad {a b : Bool} {l m : List Int} {e g : Int} (hl : RawD l) (hm : RawD m) (h : ¬ (chk a l e = 0 /\ chk b m g = 0)) : Tells (fun k => dec_Add.f k a l e b m g) (false, [], 0, 9) := by
 unfold dec_Add.f
 have := ask_tells a l e b m g hl.dg hl.len hm.dg hm.len
 rw [if_neg h] at this
 exact this.bind (Tells.ifn (by decide) (Tells.pure _))
theorem Sub_bad {a b : Bool} {l m : List Int} {e g : Int} (hl : RawD l) (hm : RawD m) (h : ¬ (chk a l e = 0 /\ chk b m g = 0)) : Tells (fun k => dec_Sub.f k a l e b m g) (false, [], 0, 9) := by
 unfold dec_Sub.f
 have := ask_tells a l e b m g hl.dg hl.len hm.dg hm.len
 rw [if_neg h] at this
 exact this.bind (Tells.ifn (by decide) (Tells.pure _))
theorem Mul_bad {a b : Bool} {l m : List Int} {e g : Int} (hl : RawD l) (hm : RawD m) (h : ¬ (chk a l e = 0 /\ chk b m g = 0)) : Tells (fun k => dec_Mul.f k a l e b m g) (false, [], 0, 9) := by
 unfold dec_Mul.f
 have := ask_tells a l e b m g hl.dg hl.len hm.dg hm.len
 rw [if_neg h] at this
 exact this.bind (Tells.ifn (by decide) (Tells.pure _))
theorem SubX {a b : Bool} {l m : List Int} {e g : Int} (hl : RawD l) (hm : RawD m) : ∃ y, Tells (fun k => dec_Sub.f k a l e b m g) y := by
 by_cases h : chk a l e = 0 /\ chk b m g = 0
 ·obtain ⟨D, hD, rfl, rfl, rfl⟩ := of_chk hl.dg h.1
  obtain ⟨E, hE, rfl, rfl, rfl⟩ := of_chk hm.dg h.2
  exact ⟨_, DSub D E hD hE⟩
 ·exact ⟨_, Sub_bad hl hm h⟩
theorem RawD.nil : RawD [] := ⟨(fun x h => absurd h (by simp)), (by simp)⟩
theorem Same_self (D : Dm) (h : nd D.n <= 1000000) : Tells (fun k => bolterref02_Same.f k D.neg (limbs D.n) D.e D.neg (limbs D.n) D.e) true := (Same_D D D h).val (decide_eq_true rfl)
theorem DecSums_plain {a b : Bool} {l m : List Int} {e f : Int} (ha : Tells (fun k => bolterlaw02_alive.f k) true) (hl : RawD l) (hm : RawD m) :
  Tells (fun k => bolterlaw02_DecSums.f k a l e b m f) true := by
 unfold bolterlaw02_DecSums.f
 refine ha.bind (Tells.ifp rfl ?_)
 by_cases hab : chk a l e = 0 /\ chk b m f = 0
 ·obtain ⟨D, hD, rfl, rfl, rfl⟩ := of_chk hl.dg hab.1
  obtain ⟨E, hE, rfl, rfl, rfl⟩ := of_chk hm.dg hab.2
  have hs := settle_ok (plusD D E)
  have ht := settle_ok (mulD D E)
  have hA := DAdd E D hE hD
  rw [<- addD_comm hD hE] at hA
  have hM := DMul E D hE hD
  rw [<- timesD_comm hD hE] at hM
  refine (DAdd D E hD hE).bind (hA.bind ((DMul D E hD hE).bind (hM.bind ?_)))
  refine Tells.ifp rfl (Tells.ifp rfl ?_)
  refine (Same_self (addD D E).1 (by have := hs.len; unfold addD; omega)).bind (Tells.ifp rfl ?_)
  refine (Same_self (timesD D E).1 (by have := ht.len; unfold timesD; omega)).bind ?_
  refine Tells.succ ?_
  simp only [bolterlaw02_DecSums.j0]
  refine Tells.ifn (by decide) ?_
  refine (DSub (addD D E).1 E hs hE).bind ?_
  unfold bolterlaw02_num.f
  refine (Tells.pure _).bind ?_
  by_cases h : (addD D E).2 = 0
  ·refine Tells.ifp h ((Tells.pure _).bind ?_)
   rw [sub_back hD hE h]
   refine Tells.ifp rfl ((Same_self D (by have := hD.len; omega)).bind (Tells.pure _))
  ·exact Tells.ifn h (Tells.pure _)
 ·have hba : ¬ (chk b m f = 0 /\ chk a l e = 0) := fun h => hab ⟨h.2, h.1⟩
  obtain ⟨y, hy⟩ := SubX (a := false) (b := b) (e := 0) (g := f) RawD.nil hm
  refine (Add_bad hl hm hab).bind ((Add_bad hm hl hba).bind ((Mul_bad hl hm hab).bind ((Mul_bad hm hl hba).bind ?_)))
  have hz := Same_self zeroD (by decide)
  refine Tells.ifp rfl (Tells.ifp rfl ?_)
  refine hz.bind (Tells.ifp rfl (hz.bind ?_))
  refine Tells.succ ?_
  simp only [bolterlaw02_DecSums.j0]
  refine Tells.ifn (by decide) ?_
  refine hy.bind ?_
  unfold bolterlaw02_num.f
  exact (Tells.pure _).bind (Tells.ifn (by decide) (Tells.pure _))
theorem Tells.at {α : Type} {f : Nat -> Option α} {v : α} (n : Nat) (h : ∀ k, f (k + n) = some v) : Tells f v := ⟨n, fun k hk => by
 obtain ⟨j, rfl⟩ : ∃ j, k = j + n := ⟨k - n, by omega⟩
 exact h j⟩
theorem alive02 : Tells (fun k => bolterlaw02_alive.f k) true := Tells.at 40 fun k => by kernel_rfl
end YtjbjkmccfocikaaGreatDoor.P.Nm
end
section
namespace YtjbjkmccfocikaaGreatDoor.R
open Go.ChangeShapes Go.WideShapes Go.ChangeAt Go.RowKit Go.Joins YtjbjkmccfocikaaGreatDoorW.PrintWords YtjbjkmccfocikaaGreatDoor.P.Nm
theorem laidOut : laidOutB Tryz.prog = true := by kernel_rfl
theorem cellsD : Tryz.prog.cellsOf 24 = 3 := by kernel_rfl
theorem cellsU : Tryz.prog.cellsOf 85 = 1 := by kernel_rfl
theorem wf32 {n : Int} (h : (Lit.int .u32 n).wf = true) : 0 <= n /\ n < 4294967296 := by
 have e1 : IntKind.u32.min = 0 := by decide
 have e2 : IntKind.u32.max = 4294967295 := by decide
 simp only [Lit.wf, e1, e2, Bool.and_eq_true, decide_eq_true_eq] at h
 omega
theorem open_limbs {H : Type} {enc : TypeId × Value -> H} {W : World} {v : Value} {fuel : Nat} {x : DataW H × List MemPlace}
  (hf : DataW.trod enc Tryz.prog W 0 (fun _ => true) true fuel 22 [v] = some x) :
  ∃ (A : Option Addr) (c : Nat) (l : List Int), v = .slice A l.length c /\ l.length <= c /\ Kd.C (Kd.int .u32) W A l.length l /\ RawD l /\ ((x.1 = .nil /\ l = []) \/ ∃ spare, x.1 = .slice (lits .u32 l) spare) := by
 rcases open_ints Tryz.underlying22 Tryz.underlying85 cellsU hf with ⟨hcs, hx⟩ | ⟨a, len, cap, zs, hcs, _, hl, hm, hz, hx, hcell, hwf⟩
 ·simp at hcs
  subst hcs hx
  exact ⟨none, 0, [], rfl, Nat.le_refl _, Kd.C_of_reads (enc := Value.int .u32) (d := 0) ⟨rfl, by simp, fun h => absurd h (by simp)⟩, RawD.nil, .inl ⟨rfl, rfl⟩⟩
 ·simp at hcs
  subst hcs hx
  simp only [if_true] at hz
  have hlen : (zs.take len).length = len := by simp; omega
  refine ⟨some a, cap, zs.take len, by rw [hlen], by omega, Kd.C_of_reads (enc := Value.int .u32) (d := 0) ⟨rfl, by unfold maxLen at hm; simp; omega, fun _ => ⟨a, rfl, fun j hj => ?_⟩⟩, ⟨fun y hy => wf32 (hwf y (List.mem_of_mem_take hy)), by unfold maxLen at hm; omega⟩, .inr ⟨_, rfl⟩⟩
  have hj' : j < len := by simp at hj; omega
  rw [hcell j (by omega)]
  simp [List.getD, List.getElem?_take_of_lt hj']
theorem bytesU : Tryz.prog.bytesOf 85 = 4 := by kernel_rfl
theorem limbs_sized {H : Type} {x : DataW H} {l : List Int} (h : (x = .nil /\ l = []) \/ ∃ spare, x = .slice (lits .u32 l) spare) (hw : (x.weights Tryz.prog 22).all (· <= reachBytes) = true) : l.length <= 35184372087808 := by
 rcases h with ⟨rfl, rfl⟩ | ⟨sp, rfl⟩
 ·simp
 ·have := List.all_eq_true.1 hw (((lits .u32 l : List (DataW H)).length + sp.length) * Tryz.prog.bytesOf 85) (by simp [DataW.weights, Tryz.underlying22])
  rw [bytesU] at this
  have hl : (lits .u32 l : List (DataW H)).length = l.length := by simp [lits]
  rw [hl] at this
  have hb : reachBytes = 140737488351232 := by decide
  rw [decide_eq_true_eq, hb] at this
  omega
theorem open_dec {H : Type} {enc : TypeId × Value -> H} {W : World} {base : Nat} {v : Value} {d : DataW H} {p : List MemPlace} (hv : Value.okWide Tryz.prog W .any base 24 v)
  (h : DataW.Trod enc Tryz.prog W 0 (fun _ => true) true 24 v d p) :
  ∃ (n : Bool) (A : Option Addr) (c : Nat) (l : List Int) (e : Int), v = .agg #[.bool n, .slice A l.length c, .int .i64 e] /\ l.length <= c /\ Kd.C (Kd.int .u32) W A l.length l /\ RawD l /\ (Lit.int .i64 e).wf = true /\
   ((d.weights Tryz.prog 24).all (· <= reachBytes) = true -> l.length <= 35184372087808) := by
 obtain ⟨c0, c1, c2, y0, y1, y2, m, rfl, rfl, rfl, hy0, hy1, hy2⟩ := open_agg3 Tryz.underlying24 (by kernel_rfl) cellsD hv h
 obtain ⟨n, e0, _⟩ := DataW.trod_bool Tryz.underlying4 hy0
 obtain ⟨A, c, l, e1, h1, h2, h3, h4⟩ := open_limbs hy1
 obtain ⟨e, e2, _, we⟩ := DataW.trod_int Tryz.underlying3 hy2
 simp at e0 e2
 subst e0 e1 e2
 refine ⟨n, A, c, l, e, rfl, h1, h2, h3, we, fun hw => limbs_sized h4 (List.all_eq_true.2 fun z hz => List.all_eq_true.1 hw z ?_)⟩
 simp only [DataW.weights, Tryz.underlying24, List.map_cons, List.map_nil, DataW.weightsEach, List.mem_append]
 exact .inr (.inl hz)
end YtjbjkmccfocikaaGreatDoor.R
end
section
namespace YtjbjkmccfocikaaGreatDoor.R.decSums
open Go.ChangeShapes Go.WideShapes Go.ChangeAt Go.RowKit
open Go.ChangeMaps (open_string shut_string)
theorem reads (os : Os) {H : Type} (enc : TypeId × Value -> H) : ∃ places, DataW.whole enc Tryz.prog ((laidWorld os).forCall (fun _ _ => 0) ⟨#[], #[Value.agg #[.bool false, .slice none 0 0, .int .i64 0], Value.agg #[.bool false, .slice none 0 0, .int .i64 0]], []⟩).memory Tryz.f11.params.toList Rows.decSumsSpec.vars false (#[Value.agg #[.bool false, .slice none 0 0, .int .i64 0], Value.agg #[.bool false, .slice none 0 0, .int .i64 0]] : Array Value).toList 8 = some ([.agg [.lit (.bool false), .nil, .lit (.int .i64 0)], .agg [.lit (.bool false), .nil, .lit (.int .i64 0)]], [], places) :=
 ⟨[], by kernel_rfl⟩
theorem contract (H : Type) (enc : TypeId × Value -> H) (W : World) (base : Nat) (args : Array Value) (ds gs : List (DataW H)) (before : List MemPlace)
  (hval : ∀ (j : Nat) t v, Tryz.f11.params[j]? = some t -> args[j]? = some v -> Value.okWide Tryz.prog W .any base t v)
  (hW : DataW.Whole enc Tryz.prog Tryz.f11.params.toList Rows.decSumsSpec.vars false W args.toList ds gs before) (hk : (DataW.weightsEach Tryz.prog (Tryz.f11.params.toList ++ (OpenSpec.ofChange Rows.decSumsSpec).bare.plain.varTypes Tryz.prog) (ds ++ gs)).all (· <= reachBytes) = true) (hL : laidMetH Tryz.prog laidL W) (hsh : W.ShapedOpen Tryz.prog) :
  Calls Tryz.prog 11 args W fun e W' => ∃ v, e = .returned v /\ Rows.decSumsSpec.post enc Tryz.prog Tryz.f11 false true false false W args v W' := by
 have hG := glob hL hsh
 have hW' := hW
 obtain ⟨p, q, hA0, hV, rfl, hfz, hnd⟩ := hW
 have hA : DataW.TrodAll enc Tryz.prog W 0 (fun _ => true) true Tryz.f11.params.toList args.toList ds p := hA0
 rw [Tryz.params11] at hA hval hk
 obtain ⟨v0, vs0, d0, ds0, p0, q0, hargs, rfl, rfl, h0, r0⟩ := trodAll_cons hA
 obtain ⟨v1, vs1, d1, ds1, p1, q1, rfl, rfl, rfl, h1, r1⟩ := trodAll_cons r0
 obtain ⟨rfl, rfl, rfl⟩ := trodAll_nil r1
 obtain rfl : args = #[v0, v1] := by cases args; simp_all
 obtain ⟨rfl, rfl⟩ := trodVars_none hV
 have h0k := h0
 obtain ⟨n0, A0, c0, l0, e0, rfl, hc0, hC0, hR0, we0, hs0⟩ := open_dec (hval 0 24 v0 rfl rfl) h0
 have h1k := h1
 obtain ⟨n1, A1, c1, l1, e1, rfl, hc1, hC1, hR1, we1, hs1⟩ := open_dec (hval 1 24 v1 rfl rfl) h1
 simp only [List.append_nil] at hW'
 have hlt : ∀ x ∈ p0 ++ p1, x.block < W.heap.size := fun x hx => hW'.lt x (by simpa using hx)
 clear hA0 hA hk hL
 obtain ⟨k, hp⟩ := (P.Nm.DecSums_plain P.Nm.alive02 hR0 hR1).ex
 refine (B.bolterlaw02_DecSums.calls k n0 A0 c0 l0 e0 n1 A1 c1 l1 e1 true W hC0 hc0 hC1 hc1 hp rfl).mono fun e W' ⟨he, bel⟩ => ?_
 subst he
 exact ⟨_, rfl, _, _, _, [], _, [], hW', trodAll_mk1 (shut_bool Tryz.underlying4 _), (trodAll_cons_mk (Below.trod laidOut (by kernel_rfl) (of_decide_eq_true (by kernel_rfl)) h0k bel (fun x hx => hlt x (by simp [hx]))) (trodAll_cons_mk (Below.trod laidOut (by kernel_rfl) (of_decide_eq_true (by kernel_rfl)) h1k bel (fun x hx => hlt x (by simp [hx]))) trodAll_mk0)), rfl, bel.frame _, fun h => by cases h⟩
theorem lifted (os : Os) (started : os.Started) (H : Type) (enc : TypeId × Value -> H) (F : Stop.Interp) :
  ReturnsInHanded {} Tryz.checked os 11 .any ((OpenSpec.ofChange Rows.decSumsSpec).preRow enc Tryz.prog Tryz.f11 Rows.decSumsRow.domain false Rows.decSumsRow.laid) (((OpenSpec.ofChange Rows.decSumsSpec).at F).post enc Tryz.prog Tryz.f11 false true false false) := by
 obtain ⟨places, hx⟩ := reads os enc
 refine returnsInHanded_of_row (C := Tryz.checked) (s := OpenSpec.ofChange Rows.decSumsSpec) own started (by kernel_rfl) Tryz.func11
  (witness_row_at (enc := enc) (C := Tryz.checked) false (laidWorld os) #[Value.agg #[.bool false, .slice none 0 0, .int .i64 0], Value.agg #[.bool false, .slice none 0 0, .int .i64 0]] rfl (by kernel_rfl) (by kernel_rfl) (by kernel_rfl)
   (OpenSpec.preRow_of_cond 8 hx (by kernel_rfl) (fun k hk => by cases hk) (by kernel_rfl) (laid_met os _))) ?_
 intro W base args ds gs before hval hW _ _ hk hL hsh _
 exact contract H enc W base args ds gs before hval hW hk hL hsh
theorem said : Rows.DecSumsSaid :=
 OpenClaim.holds_of_cond 11 Tryz.f11 rfl rfl rfl rfl rfl rfl rfl ⟨rfl, rfl, rfl, rfl, rfl⟩ rfl rfl rfl rfl rfl (by kernel_rfl) Tryz.func11 (by kernel_rfl)
  (of_decide_eq_true (by kernel_rfl)) (by unfold Func.isWrapper; first | (rw [if_pos (by decide +kernel)]; kernel_rfl) | (rw [if_neg (by decide +kernel)]; exact ⟨rfl, rfl⟩))
  (fun os started H enc _ F => by rw [OpenClaim.pre_eq_preRow]; exact lifted os started H enc F)
theorem plain (f : FuncId) (fn : Func) (hf : Tryz.pinned.checked.prog.funcNamed "bolter/bolterlaw02.DecSums" = some f) (hfn : Tryz.pinned.checked.prog.funcs[f]? = some fn) :
  false = Tryz.pinned.checked.prog.looks [] /\ ∀ (j : Nat) t, fn.params[j]? = some t -> Tryz.pinned.checked.prog.wantsStandIn t = false := by
 obtain rfl : f = 11 := Option.some.inj ((show Tryz.prog.funcNamed "bolter/bolterlaw02.DecSums" = some 11 by kernel_rfl).symm.trans hf) |>.symm
 obtain rfl : fn = Tryz.f11 := (Option.some.inj (Tryz.func11.symm.trans hfn)).symm
 refine ⟨by kernel_rfl, fun j t ht => ?_⟩
 rw [Tryz.params11] at ht
 have hm : t ∈ (#[24, 24] : Array TypeId) := Array.mem_of_getElem? ht
 have hall : ∀ t ∈ [24, 24], Tryz.prog.wantsStandIn t = false := by
  intro t h
  simp only [List.mem_cons, List.mem_nil_iff, or_false] at h
  rcases h with rfl | rfl <;> kernel_rfl
 exact hall t (by simpa using hm)
theorem card : Rows.DecSumsCardSaid :=
 Claim7.holds_tied_plain_at .later [] _ _ _ _ said (fun _ h => by cases h) (by kernel_rfl) (fun _ h => by cases h) decSums_row_tie rfl ⟨rfl, rfl⟩ (by kernel_rfl) rfl plain (by kernel_rfl)
#print axioms card
end YtjbjkmccfocikaaGreatDoor.R.decSums
end
end Go.Proofs
