/- QuotRests: part 4 of 6: the texts B77 B96 B97 PR2 PAny B10 B14 B15 B17 HAsk B19 B20 B21 B27 B18 HNParse B28 HLibT B29 B30 B31 PDecF HLib B60 B61 of this claim, one behind the other. -/
import Derived.Test.YtjbjkmccfocikaaGreatDoorZQuotRests2
import Derived.WalkKit
import Derived.Lib.Hide
import Derived.Outline
import Derived.Deep.DeepFit
import Derived.Laws.Rows
import Derived.Lib.TrimByte
import Derived.Shelf.Strings.MapAny
import Derived.Shelf.Strings.SlTrimAscii
set_option linter.unusedVariables false
set_option linter.unusedSimpArgs false
set_option maxRecDepth 100000
set_option maxHeartbeats 8000000
namespace Go.Proofs
section
namespace YtjbjkmccfocikaaGreatDoor.B
open Go.RowKit YtjbjkmccfocikaaGreatDoorW.PrintWords YtjbjkmccfocikaaGreatDoorW.PrintLast YtjbjkmccfocikaaGreatDoorW.PrintMore
attribute [local go_sem] max2_int min2_int max_two min_two max_three min_three max_four min_four
mutual
def bolterref02_Same.j0 : Nat -> Bool -> Bool -> List Int -> Int -> Bool -> List Int -> Int -> Option (Bool)
 | 0, _, _, _, _, _, _, _ => none
 | k + 1, x26, x696000, x696001, x696002, x697000, x697001, x697002 => if x26 = true then (some false) else (bolterref02_Same.l0 k 0 x696000 x696001 x696002 x697000 x697001 x697002)
def bolterref02_Same.l0 : Nat -> Int -> Bool -> List Int -> Int -> Bool -> List Int -> Int -> Option (Bool)
 | 0, _, _, _, _, _, _, _ => none
 | k + 1, x5, x696000, x696001, x696002, x697000, x697001, x697002 => if x5 < (x696001.length : Int) then (if 0 <= x5 then (if x5 < (x697001.length : Int) then (if (rd x696001 x5) = (rd x697001 x5) then (bolterref02_Same.l0 k (wrap64 (x5 + 1)) x696000 x696001 x696002 x697000 x697001 x697002) else (some false)) else (none)) else (none)) else (some true)
end
def bolterref02_Same.f (k : Nat) (a0_0 : Bool) (l0_1 : List Int) (a0_2 : Int) (a1_0 : Bool) (l1_1 : List Int) (a1_2 : Int) : Option (Bool) := if (a0_0 != a1_0) = true then (bolterref02_Same.j0 k true a0_0 l0_1 a0_2 a1_0 l1_1 a1_2) else (if a0_2 = a1_2 then (bolterref02_Same.j0 k ((l0_1.length : Int) != (l1_1.length : Int)) a0_0 l0_1 a0_2 a1_0 l1_1 a1_2) else (bolterref02_Same.j0 k true a0_0 l0_1 a0_2 a1_0 l1_1 a1_2))
theorem bolterref02_Same.calls (k : Nat) (a0_0 : Bool) (A0_1 : Option Addr) (c0_1 : Nat) (l0_1 : List Int) (a0_2 : Int) (a1_0 : Bool) (A1_1 : Option Addr) (c1_1 : Nat) (l1_1 : List Int) (a1_2 : Int) (r : Bool) (w : World) (hr0_1 : Kd.C (Kd.int .u32) w A0_1 l0_1.length l0_1) (hc0_1 : l0_1.length <= c0_1) (hr1_1 : Kd.C (Kd.int .u32) w A1_1 l1_1.length l1_1) (hc1_1 : l1_1.length <= c1_1) (h : bolterref02_Same.f k a0_0 l0_1 a0_2 a1_0 l1_1 a1_2 = some r) :
  Calls Tryz.prog 21 #[.agg #[.bool a0_0, .slice A0_1 l0_1.length c0_1, .int .i64 a0_2], .agg #[.bool a1_0, .slice A1_1 l1_1.length c1_1, .int .i64 a1_2]] w fun e w' => e = .returned (.bool r) /\ Below w.heap.size w w' := by
 have hu24 := Tryz.underlying24
 have HR0_1 := am hr0_1
 have HC0_1 := am hc0_1
 clear hr0_1 hc0_1
 have HR1_1 := am hr1_1
 have HC1_1 := am hc1_1
 clear hr1_1 hc1_1
 have HB := am (Below.refl w.heap.size w)
 have H : (if (a0_0 != a1_0) = true then (bolterref02_Same.j0 k true a0_0 l0_1 a0_2 a1_0 l1_1 a1_2) else (if a0_2 = a1_2 then (bolterref02_Same.j0 k ((l0_1.length : Int) != (l1_1.length : Int)) a0_0 l0_1 a0_2 a1_0 l1_1 a1_2) else (bolterref02_Same.j0 k true a0_0 l0_1 a0_2 a1_0 l1_1 a1_2))) = some r := h
 clear h
 have HC3 := am H
 clear H
 go_enter Tryz.func21, Tryz.ntmps21
 go_upto_region 1 with (first | ((with_reducible refine gd 2 ?_); (try (refine gate_guard (by rfl) ?_; dsimp only)); refine bx 2 #[.bool a0_0, .slice A0_1 l0_1.length c0_1, .int .i64 a0_2] 24 (h := ?_); intro gb695 hg w4 hbox hb; have BK695 := am hbox; have GW695 := gW hg; have GE695 := gW hg; replace HB := bS hb; clear hb hbox hg) | ((with_reducible refine gd 3 ?_); (try (refine gate_guard (by rfl) ?_; dsimp only)); refine bx 3 #[.bool a1_0, .slice A1_1 l1_1.length c1_1, .int .i64 a1_2] 24 (h := ?_); intro gb696 hg w5 hbox hb; have BK696 := am hbox; have GW696 := gW hg; have GE696 := gW hg; have NB695_696 := nL hg BK695; have NB696_695 := nG hg BK695; replace BK695 := bb BK695 hb; replace HB := bS hb; clear hb hbox hg))
 repeat (go_quiet (first | ((with_reducible refine gd 2 ?_); (try (refine gate_guard (by rfl) ?_; dsimp only)); refine bx 2 #[.bool a0_0, .slice A0_1 l0_1.length c0_1, .int .i64 a0_2] 24 (h := ?_); intro gb695 hg w4 hbox hb; have BK695 := am hbox; have GW695 := gW hg; have GE695 := gW hg; replace HB := bS hb; clear hb hbox hg) | ((with_reducible refine gd 3 ?_); (try (refine gate_guard (by rfl) ?_; dsimp only)); refine bx 3 #[.bool a1_0, .slice A1_1 l1_1.length c1_1, .int .i64 a1_2] 24 (h := ?_); intro gb696 hg w5 hbox hb; have BK696 := am hbox; have GW696 := gW hg; have GE696 := gW hg; have NB695_696 := nL hg BK695; have NB696_695 := nG hg BK695; replace BK695 := bb BK695 hb; replace HB := bS hb; clear hb hbox hg)); go_upto_region 1 with (first | ((with_reducible refine gd 2 ?_); (try (refine gate_guard (by rfl) ?_; dsimp only)); refine bx 2 #[.bool a0_0, .slice A0_1 l0_1.length c0_1, .int .i64 a0_2] 24 (h := ?_); intro gb695 hg w4 hbox hb; have BK695 := am hbox; have GW695 := gW hg; have GE695 := gW hg; replace HB := bS hb; clear hb hbox hg) | ((with_reducible refine gd 3 ?_); (try (refine gate_guard (by rfl) ?_; dsimp only)); refine bx 3 #[.bool a1_0, .slice A1_1 l1_1.length c1_1, .int .i64 a1_2] 24 (h := ?_); intro gb696 hg w5 hbox hb; have BK696 := am hbox; have GW696 := gW hg; have GE696 := gW hg; have NB695_696 := nL hg BK695; have NB696_695 := nG hg BK695; replace BK695 := bb BK695 hb; replace HB := bS hb; clear hb hbox hg)))
 (try simp only [Act.put, List.setIfInBounds_toArray, List.set_cons_zero, List.set_cons_succ])
 go_cut [26] (fun v26 wc => ∃ (kq : Nat) (x26_2 : Bool), v26 = .bool x26_2 /\ Aside0 (bolterref02_Same.j0 kq x26_2 a0_0 l0_1 a0_2 a1_0 l1_1 a1_2 = some r) /\ Aside0 (kq <= k) /\ Aside0 (wc.heap[gb695]? = some (.cells #[.bool a0_0, (.slice A0_1 l0_1.length c0_1), .int .i64 a0_2] 24 (0, 0))) /\ Aside0 (wc.heap[gb696]? = some (.cells #[.bool a1_0, (.slice A1_1 l1_1.length c1_1), .int .i64 a1_2] 24 (0, 0))) /\ Aside0 (Below w.heap.size w wc))
 case first =>
  have H := HC3.out
  clear HC3
  by_cases c6 : (a0_0 != a1_0) = true
  ·rw [if_pos c6] at H
   have c6b0 : (a0_0 != a1_0) = true := c6
   (try (have c6b1 : decide (a0_0 = a1_0) = false := by simpa using c6))
   (try (have c6b2 : (a0_0 == a1_0) = false := by simpa using c6))
   (try (have c6b3 : ¬ (a0_0 = a1_0) := by simpa using c6))
   clear c6
   (first | rw [c6b0] | (simp only [i64_w, i32_w]; rw [c6b0]) | skip)
   have H' := am H
   clear H
   have hnb7 := NB695_696.out
   have hnc7 := NB696_695.out
   obtain ⟨hcz8_0, hcz8_1, hcz8_2, hfz8_0, hfz8_1, hfz8_2⟩ := cEc BK695.out
   obtain ⟨hcz9_0, hcz9_1, hcz9_2, hfz9_0, hfz9_1, hfz9_2⟩ := cEc BK696.out
   go_wp2
   repeat (go_quiet (fail); try go_wp2)
   go_meet
   case rel => exact ⟨_, (true), pR, H', ⟨by first | omega | exact Nat.le_refl _⟩, ⟨blk_below BK695.out pl⟩, ⟨blk_below BK696.out pl⟩, ⟨pB⟩⟩
  ·rw [if_neg c6] at H
   have c6b0 : (a0_0 != a1_0) = false := by simpa using c6
   (try (have c6b1 : decide (a0_0 = a1_0) = true := by simpa using c6))
   (try (have c6b2 : (a0_0 == a1_0) = true := by simpa using c6))
   clear c6
   (first | rw [c6b0] | (simp only [i64_w, i32_w]; rw [c6b0]) | skip)
   by_cases c10 : a0_2 = a1_2
   ·rw [if_pos c10] at H
    have c10b0 : (a0_2 == a1_2) = true := beq_iff_eq.mpr c10
    have c10b1 : (a0_2 != a1_2) = false := bne_eq_false_iff_eq.mpr c10
    clear c10
    have H' := am H
    clear H
    have hnb11 := NB695_696.out
    have hnc11 := NB696_695.out
    obtain ⟨hcz12_0, hcz12_1, hcz12_2, hfz12_0, hfz12_1, hfz12_2⟩ := cEc BK695.out
    obtain ⟨hcz13_0, hcz13_1, hcz13_2, hfz13_0, hfz13_1, hfz13_2⟩ := cEc BK696.out
    go_wp2
    repeat (go_quiet (fail); try go_wp2)
    go_meet
    case rel => exact ⟨_, (((l0_1.length : Int) != (l1_1.length : Int))), pR, H', ⟨by first | omega | exact Nat.le_refl _⟩, ⟨blk_below BK695.out pl⟩, ⟨blk_below BK696.out pl⟩, ⟨pB⟩⟩
   ·rw [if_neg c10] at H
    have c10b0 : (a0_2 == a1_2) = false := beq_eq_false_iff_ne.mpr c10
    have c10b1 : (a0_2 != a1_2) = true := bne_iff_ne.mpr c10
    have H' := am H
    clear H
    have hnb14 := NB695_696.out
    have hnc14 := NB696_695.out
    obtain ⟨hcz15_0, hcz15_1, hcz15_2, hfz15_0, hfz15_1, hfz15_2⟩ := cEc BK695.out
    obtain ⟨hcz16_0, hcz16_1, hcz16_2, hfz16_0, hfz16_1, hfz16_2⟩ := cEc BK696.out
    go_wp2
    repeat (go_quiet (fail); try go_wp2)
    go_meet
    case rel => exact ⟨_, (true), pR, H', ⟨by first | omega | exact Nat.le_refl _⟩, ⟨blk_below BK695.out pl⟩, ⟨blk_below BK696.out pl⟩, ⟨pB⟩⟩
 case rest =>
  clear HC3
  obtain ⟨kq, x26_2, rfl, HA, HJ2, BK695, BK696, HB⟩ := hcut
  cases kq with
  | zero => exact absurd HA.out (by simp [bolterref02_Same.j0])
  | succ kj2 =>
   have H := HA.out
   clear HA
   simp only [bolterref02_Same.j0] at H
   by_cases c17 : x26_2 = true
   ·subst c17
    rw [if_pos rfl] at H
    obtain rfl := Option.some.inj H
    go_wp2
    repeat (go_quiet (fail); try go_wp2)
    go_ret
    exact ⟨pE, pB⟩
   ·replace c17 := Bool.eq_false_iff.mpr c17
    subst c17
    rw [if_neg (show ¬ (false = true) by decide)] at H
    have H' := am H
    clear H
    go_wp2
    repeat (go_quiet (fail); try go_wp2)
    go_loopg [5] kj2 (fun kq v5 w' => ∃ (x5_2 : Int), v5 = .int .i64 x5_2 /\ Aside0 (bolterref02_Same.l0 kq x5_2 a0_0 l0_1 a0_2 a1_0 l1_1 a1_2 = some r) /\ Aside0 (kq <= kj2) /\ Aside0 (w'.heap[gb695]? = some (.cells #[.bool a0_0, (.slice A0_1 l0_1.length c0_1), .int .i64 a0_2] 24 (0, 0))) /\ Aside0 (w'.heap[gb696]? = some (.cells #[.bool a1_0, (.slice A1_1 l1_1.length c1_1), .int .i64 a1_2] 24 (0, 0))) /\ Aside0 (Below w.heap.size w w'))
    case atStart => exact ⟨(0), pR, H', ⟨Nat.le_refl _⟩, ⟨blk_below BK695.out pl⟩, ⟨blk_below BK696.out pl⟩, ⟨pB⟩⟩
    case round =>
     clear H'
     (try clear c17)
     obtain ⟨x5_2, rfl, HA, HK2, BK695, BK696, HB⟩ := hrel
     cases gk with
     | zero => exact absurd HA.out (by simp [bolterref02_Same.l0])
     | succ k2 =>
      have H := HA.out
      clear HA
      simp only [bolterref02_Same.l0] at H
      by_cases c18 : x5_2 < (l0_1.length : Int)
      ·rw [if_pos c18] at H
       have c18b0 : decide (x5_2 < (l0_1.length : Int)) = true := decide_eq_true c18
       clear c18
       by_cases c19 : 0 <= x5_2
       ·rw [if_pos c19] at H
        have c19b0 : decide (0 <= x5_2) = true := decide_eq_true c19
        clear c19
        by_cases c20 : x5_2 < (l1_1.length : Int)
        ·rw [if_pos c20] at H
         have c20b0 : decide (x5_2 < (l1_1.length : Int)) = true := decide_eq_true c20
         clear c20
         by_cases c21 : (rd l0_1 x5_2) = (rd l1_1 x5_2)
         ·rw [if_pos c21] at H
          have c21b0 : ((rd l0_1 x5_2) == (rd l1_1 x5_2)) = true := beq_iff_eq.mpr c21
          have c21b1 : ((rd l0_1 x5_2) != (rd l1_1 x5_2)) = false := bne_eq_false_iff_eq.mpr c21
          clear c21
          have H' := am H
          clear H
          have hnb22 := NB695_696.out
          have hnc22 := NB696_695.out
          obtain ⟨hcz23_0, hcz23_1, hcz23_2, hfz23_0, hfz23_1, hfz23_2⟩ := cEc BK695.out
          have p697 : 0 <= (x5_2 : Int) := of_decide_eq_true pQ
          have q697 : x5_2 < (l0_1.length : Int) := of_decide_eq_true pQ
          obtain ⟨ad697, e697, hx697_0⟩ := Kd.at_int HR0_1.out x5_2 p697 q697
          cases e697
          replace hx697_0 := (HB.out.cell (World.block_lt_of_cell? w _ hx697_0)).trans hx697_0
          replace p697 := eq_true p697
          replace q697 := eq_true q697
          obtain ⟨hcz24_0, hcz24_1, hcz24_2, hfz24_0, hfz24_1, hfz24_2⟩ := cEc BK696.out
          have p698 : 0 <= (x5_2 : Int) := of_decide_eq_true pQ
          have q698 : x5_2 < (l1_1.length : Int) := of_decide_eq_true pQ
          obtain ⟨ad698, e698, hx698_0⟩ := Kd.at_int HR1_1.out x5_2 p698 q698
          cases e698
          replace hx698_0 := (HB.out.cell (World.block_lt_of_cell? w _ hx698_0)).trans hx698_0
          replace p698 := eq_true p698
          replace q698 := eq_true q698
          go_wp2
          repeat (go_quiet (fail); try go_wp2)
          go_roundg k2
          case measure => have := HJ2.out; have := HK2.out; omega
          case rel => exact ⟨(wrap64 (x5_2 + 1)), pR, H', ⟨by have := HJ2.out; have := HK2.out; omega⟩, ⟨blk_below BK695.out pl⟩, ⟨blk_below BK696.out pl⟩, ⟨pB⟩⟩
         ·rw [if_neg c21] at H
          have c21b0 : ((rd l0_1 x5_2) == (rd l1_1 x5_2)) = false := beq_eq_false_iff_ne.mpr c21
          have c21b1 : ((rd l0_1 x5_2) != (rd l1_1 x5_2)) = true := bne_iff_ne.mpr c21
          obtain rfl := Option.some.inj H
          have hnb25 := NB695_696.out
          have hnc25 := NB696_695.out
          obtain ⟨hcz26_0, hcz26_1, hcz26_2, hfz26_0, hfz26_1, hfz26_2⟩ := cEc BK695.out
          have p697 : 0 <= (x5_2 : Int) := of_decide_eq_true pQ
          have q697 : x5_2 < (l0_1.length : Int) := of_decide_eq_true pQ
          obtain ⟨ad697, e697, hx697_0⟩ := Kd.at_int HR0_1.out x5_2 p697 q697
          cases e697
          replace hx697_0 := (HB.out.cell (World.block_lt_of_cell? w _ hx697_0)).trans hx697_0
          replace p697 := eq_true p697
          replace q697 := eq_true q697
          obtain ⟨hcz27_0, hcz27_1, hcz27_2, hfz27_0, hfz27_1, hfz27_2⟩ := cEc BK696.out
          have p698 : 0 <= (x5_2 : Int) := of_decide_eq_true pQ
          have q698 : x5_2 < (l1_1.length : Int) := of_decide_eq_true pQ
          obtain ⟨ad698, e698, hx698_0⟩ := Kd.at_int HR1_1.out x5_2 p698 q698
          cases e698
          replace hx698_0 := (HB.out.cell (World.block_lt_of_cell? w _ hx698_0)).trans hx698_0
          replace p698 := eq_true p698
          replace q698 := eq_true q698
          go_wp2
          repeat (go_quiet (fail); try go_wp2)
          go_ret
          exact ⟨pE, pB⟩
        ·rw [if_neg c20] at H
         exact absurd H (by simp)
       ·rw [if_neg c19] at H
        exact absurd H (by simp)
      ·rw [if_neg c18] at H
       have c18b0 : decide (x5_2 < (l0_1.length : Int)) = false := decide_eq_false c18
       clear c18
       obtain rfl := Option.some.inj H
       have hnb28 := NB695_696.out
       have hnc28 := NB696_695.out
       obtain ⟨hcz29_0, hcz29_1, hcz29_2, hfz29_0, hfz29_1, hfz29_2⟩ := cEc BK695.out
       go_wp2
       repeat (go_quiet (fail); try go_wp2)
       go_ret
       exact ⟨pE, pB⟩
def bolterref02_number.f (k : Nat) (a0 : Int) : Option (List Int) := (bolterref01_From.f a0).bind fun t1072 => ((bolterref01_Digits.f k t1072).bind fun t1075 => (some t1075))
theorem bolterref02_number.calls (k : Nat) (a0 : Int) (r : List Int) (w : World) (h : bolterref02_number.f k a0 = some r) :
  Calls Tryz.prog 84 #[.int .u64 a0] w fun e w' => ∃ v0_ : Value, e = .returned (v0_) /\ Kd.R (Kd.int .i64) 3 w' w.heap.size (fun _ => True) v0_ r /\ Below w.heap.size w w' := by
 have HB := am (Below.refl w.heap.size w)
 have H : ((bolterref01_From.f a0).bind fun t1072 => ((bolterref01_Digits.f k t1072).bind fun t1075 => (some t1075))) = some r := h
 clear h
 obtain ⟨t1072, A2, H⟩ := ob H
 obtain ⟨t1075, A3, H⟩ := ob H
 obtain rfl := Option.some.inj H
 go_enter Tryz.func84, Tryz.ntmps84
 go_wp2_with (first | (refine gL (some 4) Tryz.func136 #[.int .u64 a0] (h := ?_); (with_reducible refine (bolterref01_From.calls a0 t1072 _ A2.out).mono ?_); rintro e w4 ⟨v1073, rfl, ho0, hb⟩; refine ⟨_, rfl, ?_⟩; have HO1074 := am (Kd.R_lower ho0 (below_size pB)); replace HB := bS hb; (try clear hb); (try clear hb2); (try clear hk); (try clear hi); (try clear ho0); obtain ⟨Ao5, co5, eo5⟩ := Kd.R_slice HO1074.out; subst eo5) | (refine gL (some 5) Tryz.func66 #[.slice Ao5 t1072.length co5] (h := ?_); (with_reducible refine (bolterref01_Digits.calls k _ _ t1072 t1075 _ ?side1 ?side2 A3.out).mono ?_); (case side1 => exact Kd.C_below (Kd.R_reads' HO1074.out).2.2 pl); (case side2 => exact (Kd.R_reads' HO1074.out).2.1); rintro e w6 ⟨v1076, rfl, ho0, hb⟩; refine ⟨_, rfl, ?_⟩; replace HO1074 := rbl HO1074 hb; have HO1077 := am (Kd.R_lower ho0 (below_size pB)); replace HB := bS hb; (try clear hb); (try clear hb2); (try clear hk); (try clear hi); (try clear ho0)))
 go_ret
 exact ⟨_, pE, by refine rp ?_; exact HO1077.out, pB⟩
def bolterref02_Int.f (k : Nat) (a0 : Int) : Option (Bool × List Int × Int) := (bolterref02_number.f k (IntKind.u64.wrap (a0))).bind fun t1079 => (if a0 < 0 then ((bolterref02_number.f k (IntKind.u64.wrap (wrap64 (-(wrap64 (a0 + 1)))))).bind fun t1083 => ((bolterref01_Plus.f k t1083 (([1] : List Int))).bind fun t1089 => ((bolterref02_Made.f k true t1089 0).bind fun bt1092 => (some (bt1092.1, bt1092.2.1, bt1092.2.2.1))))) else ((bolterref02_Made.f k false t1079 0).bind fun bt1099 => (some (bt1099.1, bt1099.2.1, bt1099.2.2.1))))
theorem bolterref02_Int.calls (k : Nat) (a0 : Int) (r1 : Bool) (r2 : List Int) (r3 : Int) (w : World) (h : bolterref02_Int.f k a0 = some (r1, r2, r3)) :
  Calls Tryz.prog 29 #[.int .i64 a0] w fun e w' => ∃ v1_ : Value, e = .returned (.agg #[.bool r1, v1_, .int .i64 r3]) /\ Kd.R (Kd.int .u32) 85 w' w.heap.size (fun _ => True) v1_ r2 /\ Below w.heap.size w w' := by
 have hu24 := Tryz.underlying24
 have hu30 := Tryz.underlying30
 have HB := am (Below.refl w.heap.size w)
 have H : ((bolterref02_number.f k (IntKind.u64.wrap (a0))).bind fun t1079 => (if a0 < 0 then ((bolterref02_number.f k (IntKind.u64.wrap (wrap64 (-(wrap64 (a0 + 1)))))).bind fun t1083 => ((bolterref01_Plus.f k t1083 (([1] : List Int))).bind fun t1089 => ((bolterref02_Made.f k true t1089 0).bind fun bt1092 => (some (bt1092.1, bt1092.2.1, bt1092.2.2.1))))) else ((bolterref02_Made.f k false t1079 0).bind fun bt1099 => (some (bt1099.1, bt1099.2.1, bt1099.2.2.1))))) = some (r1, r2, r3) := h
 clear h
 obtain ⟨t1079, A2, H⟩ := ob H
 by_cases c3 : a0 < 0
 ·rw [if_pos c3] at H
  have c3b0 : decide (a0 < 0) = true := decide_eq_true c3
  clear c3
  obtain ⟨t1083, A4, H⟩ := ob H
  obtain ⟨y1086, hy1086⟩ : ∃ y_ : List Int, y_ = (([1] : List Int)) := ⟨_, rfl⟩
  replace H : ((bolterref01_Plus.f k t1083 y1086).bind fun t1089 => ((bolterref02_Made.f k true t1089 0).bind fun bt1092 => (some (bt1092.1, bt1092.2.1, bt1092.2.2.1)))) = some (r1, r2, r3) := by have hy_ := hy1086; exact pH
  have Ny1086 := am hy1086
  clear hy1086
  obtain ⟨t1089, A5, H⟩ := ob H
  obtain ⟨⟨t1092, t1093, t1096, t1097⟩, A6, H⟩ := ob H; (try dsimp only at H)
  simp only [Option.some.injEq, Prod.mk.injEq] at H
  obtain ⟨rfl, rfl, rfl⟩ := H
  go_enter Tryz.func29, Tryz.ntmps29
  go_wp2_with (first | ((with_reducible refine gd 2 ?_); refine bx 2 #[.bool false, .slice none 0 0, .int .i64 0] 24 (h := ?_); intro gb1078 hg w7 hbox hb; have BK1078 := am hbox; have GW1078 := gW hg; have GE1078 := gW hg; replace HB := bS hb; clear hb hbox hg) | (refine gL (some 8) Tryz.func84 #[.int .u64 (IntKind.u64.wrap (a0))] (h := ?_); (with_reducible refine (bolterref02_number.calls k (IntKind.u64.wrap (a0)) t1079 _ A2.out).mono ?_); rintro e w8 ⟨v1080, rfl, ho0, hb⟩; refine ⟨_, rfl, ?_⟩; have HO1081 := am (Kd.R_lower ho0 (below_size pB)); replace BK1078 := bb BK1078 hb; replace HB := bS hb; (try clear hb); (try clear hb2); (try clear hk); (try clear hi); (try clear ho0); obtain ⟨Ao9, co9, eo9⟩ := Kd.R_slice HO1081.out; subst eo9) | ((with_reducible refine gd 3 ?_); refine bx 3 #[.bool false, .slice none 0 0, .int .i64 0] 30 (h := ?_); intro gb1082 hg w10 hbox hb; have BK1082 := am hbox; have GW1082 := gW hg; have GE1082 := gW hg; have NB1078_1082 := nL hg BK1078; have NB1082_1078 := nG hg BK1078; replace HO1081 := rbl HO1081 hb; replace BK1078 := bb BK1078 hb; replace HB := bS hb; clear hb hbox hg; have hnb11 := NB1082_1078.out; have hnc11 := NB1078_1082.out; obtain ⟨hcz12_0, hcz12_1, hcz12_2, hfz12_0, hfz12_1, hfz12_2⟩ := cEc BK1082.out) | (refine gL (some 16) Tryz.func84 #[.int .u64 (IntKind.u64.wrap (wrap64 (-(wrap64 (a0 + 1)))))] (h := ?_); (with_reducible refine (bolterref02_number.calls k (IntKind.u64.wrap (wrap64 (-(wrap64 (a0 + 1))))) t1083 _ A4.out).mono ?_); rintro e w13 ⟨v1084, rfl, ho0, hb⟩; refine ⟨_, rfl, ?_⟩; have HO1085 := am (Kd.R_lower (Kd.R_new' ho0 (Kd.R_lt (Kd.R_below (z3 HO1081.out BK1082.out (by decide) (.bool false) (.slice Ao9 t1079.length co9) (.int .i64 0)) pl))) (below_size pB)); replace HO1081 := am (Kd.R_elder' (Kd.R_below (z3 HO1081.out BK1082.out (by decide) (.bool false) (.slice Ao9 t1079.length co9) (.int .i64 0)) pl) (Kd.R_base ho0) hb); replace BK1078 := bfb NB1078_1082 BK1078 hb; replace BK1082 := am (blk_below (g := gb1082) (o := .cells #[.bool false, .slice Ao9 t1079.length co9, .int .i64 0] 30 (0, 0)) (by refine bp ?_; refine blk_put (cs := #[.bool false, .slice Ao9 t1079.length co9, .int .i64 0]) ?_ 2 _ rfl; refine bp ?_; refine blk_put (cs := #[.bool false, .slice none 0 0, .int .i64 0]) ?_ 1 _ rfl; refine bp ?_; refine blk_put (cs := #[.bool false, .slice none 0 0, .int .i64 0]) ?_ 0 _ rfl; exact bp BK1082.out) hb); replace HB := bS hb; (try clear hb); (try clear hb2); (try clear hk); (try clear hi); (try clear ho0)) | ((with_reducible refine gd 17 ?_); refine Kd.R_lit (Kd.int .i64) _ 3 ?hg (N := 17) ?hd (xs := ([1] : List Int)) (inner := [.int .i64 1]) (ok := fun _ => True) (okp := fun _ => True) ?hr ?hp (fun _ hk => hk) trivial (Below.refl _ _) (Nat.le_refl _) (by simp) ?_; (case hd => rfl); (case hg => rfl); (case hr => first | (go_simp; done) | (go_simp; rfl)); (case hp => exact (Reps.one (show Kd.M (Kd.int .i64) _ _ _ 1 [.int .i64 1] from rfl) (Reps.none _ _))); intro v1087 w14 ho15 hb hg_ hnew_; clear hg_ hnew_; (first | rw [<- Ny1086.out] at ho15 | (simp only [Int.reduceToNat] at ho15; rw [<- Ny1086.out] at ho15)); have HO1088 := am (Kd.R_lower (Kd.R_new' (Kd.R_new' ho15 (Kd.R_lt (Kd.R_below HO1081.out pl))) (Kd.R_lt (Kd.R_below HO1085.out pl))) (below_size pB)); replace HO1081 := reR HO1081 ho15 hb; replace HO1085 := reR HO1085 ho15 hb; replace BK1078 := bb BK1078 hb; replace BK1082 := bb BK1082 hb; replace HB := bS hb; clear hb ho15; obtain ⟨Ao16, co16, eo16⟩ := Kd.R_slice HO1085.out; subst eo16; obtain ⟨Ao17, co17, eo17⟩ := Kd.R_slice HO1088.out; subst eo17) | (refine gL (some 18) Tryz.func85 #[.slice Ao16 t1083.length co16, .slice Ao17 y1086.length co17] (h := ?_); (with_reducible refine (bolterref01_Plus.calls k _ _ t1083 _ _ y1086 t1089 _ ?side1 ?side2 ?side3 ?side4 A5.out).mono ?_); (case side1 => exact Kd.C_below (Kd.R_reads' HO1085.out).2.2 pl); (case side2 => exact (Kd.R_reads' HO1085.out).2.1); (case side3 => exact Kd.C_below (Kd.R_reads' HO1088.out).2.2 pl); (case side4 => exact (Kd.R_reads' HO1088.out).2.1); rintro e w18 ⟨v1090, rfl, ho0, hb⟩; refine ⟨_, rfl, ?_⟩; have HO1091 := am (Kd.R_lower (Kd.R_new' (Kd.R_new' (Kd.R_new' ho0 (Kd.R_lt (Kd.R_below HO1081.out pl))) (Kd.R_lt (Kd.R_below HO1085.out pl))) (Kd.R_lt (Kd.R_below HO1088.out pl))) (below_size pB)); replace HO1081 := reR HO1081 ho0 hb; replace HO1085 := reR HO1085 ho0 hb; replace HO1088 := reR HO1088 ho0 hb; replace BK1078 := bb BK1078 hb; replace BK1082 := bb BK1082 hb; replace HB := bS hb; (try clear hb); (try clear hb2); (try clear hk); (try clear hi); (try clear ho0); obtain ⟨Ao19, co19, eo19⟩ := Kd.R_slice HO1091.out; subst eo19; obtain ⟨hcz20_0, hcz20_1, hcz20_2, hfz20_0, hfz20_1, hfz20_2⟩ := cEc BK1082.out) | ((with_reducible refine gate_store (t := 30) (p := 3) rfl ?_); refine store_event (t := 30) (p := 3) (v := ?vo_w21) (w1 := (((w18.setCell ⟨gb1082, 0, none⟩ (.bool true)).setCell ⟨gb1082, 1, none⟩ (.slice Ao19 t1089.length co19)).setCell ⟨gb1082, 2, none⟩ (.int .i64 0))) ?hg ?ho ?hn ?hr ?_; (case ho => rfl); (case hg => rfl); (case hn => rfl); (case hr => first | (go_simp; done) | (go_simp; rfl)); intro w21 hw; replace HO1081 : Aside0 (Kd.R (Kd.int .i64) 3 w21 w.heap.size (fun k_ => some k_ ≠ (.slice Ao16 t1083.length co16 : Value).ownBlock /\ some k_ ≠ (.slice Ao17 y1086.length co17 : Value).ownBlock /\ some k_ ≠ (.slice Ao19 t1089.length co19 : Value).ownBlock) (.slice Ao9 t1079.length co9) t1079) := ⟨(by rw [hw]; exact (Kd.R_below (Kd.R_mono (Kd.R_far (p := ⟨gb1082, 2, none⟩) (Kd.R_far (p := ⟨gb1082, 1, none⟩) (Kd.R_far (p := ⟨gb1082, 0, none⟩) (Kd.R_types HO1081.out BK1082.out (by decide)) (fun _ hk => hk.2) (.bool true)) (fun _ hk => hk.2) (.slice Ao19 t1089.length co19)) (fun _ hk => hk.2) (.int .i64 0)) (fun _ hk => ⟨hk.1.1.1.2, ⟨hk.1.1.2, hk.1.2⟩⟩)) pl))⟩; replace HO1085 : Aside0 (Kd.R (Kd.int .i64) 3 w21 w.heap.size (fun k_ => some k_ ≠ (.slice Ao9 t1079.length co9 : Value).ownBlock /\ some k_ ≠ (.slice Ao17 y1086.length co17 : Value).ownBlock /\ some k_ ≠ (.slice Ao19 t1089.length co19 : Value).ownBlock) (.slice Ao16 t1083.length co16) t1083) := ⟨(by rw [hw]; exact (Kd.R_below (Kd.R_mono (Kd.R_far (p := ⟨gb1082, 2, none⟩) (Kd.R_far (p := ⟨gb1082, 1, none⟩) (Kd.R_far (p := ⟨gb1082, 0, none⟩) (Kd.R_types HO1085.out BK1082.out (by decide)) (fun _ hk => hk.2) (.bool true)) (fun _ hk => hk.2) (.slice Ao19 t1089.length co19)) (fun _ hk => hk.2) (.int .i64 0)) (fun _ hk => ⟨hk.1.1.1.2, ⟨hk.1.1.2, hk.1.2⟩⟩)) pl))⟩; replace HO1088 : Aside0 (Kd.R (Kd.int .i64) 3 w21 w.heap.size (fun k_ => some k_ ≠ (.slice Ao9 t1079.length co9 : Value).ownBlock /\ some k_ ≠ (.slice Ao16 t1083.length co16 : Value).ownBlock /\ some k_ ≠ (.slice Ao19 t1089.length co19 : Value).ownBlock) (.slice Ao17 y1086.length co17) y1086) := ⟨(by rw [hw]; exact (Kd.R_below (Kd.R_mono (Kd.R_far (p := ⟨gb1082, 2, none⟩) (Kd.R_far (p := ⟨gb1082, 1, none⟩) (Kd.R_far (p := ⟨gb1082, 0, none⟩) (Kd.R_types HO1088.out BK1082.out (by decide)) (fun _ hk => hk.2) (.bool true)) (fun _ hk => hk.2) (.slice Ao19 t1089.length co19)) (fun _ hk => hk.2) (.int .i64 0)) (fun _ hk => ⟨hk.1.1.1.2, ⟨hk.1.1.2, hk.1.2⟩⟩)) pl))⟩; replace HO1091 : Aside0 (Kd.R (Kd.int .i64) 3 w21 w.heap.size (fun k_ => some k_ ≠ (.slice Ao9 t1079.length co9 : Value).ownBlock /\ some k_ ≠ (.slice Ao16 t1083.length co16 : Value).ownBlock /\ some k_ ≠ (.slice Ao17 y1086.length co17 : Value).ownBlock) (.slice Ao19 t1089.length co19) t1089) := ⟨(by rw [hw]; exact (Kd.R_below (Kd.R_mono (Kd.R_far (p := ⟨gb1082, 2, none⟩) (Kd.R_far (p := ⟨gb1082, 1, none⟩) (Kd.R_far (p := ⟨gb1082, 0, none⟩) (Kd.R_types HO1091.out BK1082.out (by decide)) (fun _ hk => hk.2) (.bool true)) (fun _ hk => hk.2) (.slice Ao19 t1089.length co19)) (fun _ hk => hk.2) (.int .i64 0)) (fun _ hk => ⟨hk.1.1.1.2, ⟨hk.1.1.2, hk.1.2⟩⟩)) pl))⟩; replace BK1078 : Aside0 (w21.heap[gb1078]? = some (.cells #[.bool false, .slice none 0 0, .int .i64 0] 24 (0, 0))) := ⟨(by rw [hw]; exact (bf NB1078_1082.out BK1078.out))⟩; replace BK1082 : Aside0 (w21.heap[gb1082]? = some (.cells #[.bool true, .slice Ao19 t1089.length co19, .int .i64 0] 30 (0, 0))) := ⟨(by rw [hw]; exact (by refine bp ?_; refine blk_put (cs := #[.bool true, .slice Ao19 t1089.length co19, .int .i64 0]) ?_ 2 _ rfl; refine bp ?_; refine blk_put (cs := #[.bool true, .slice Ao9 t1079.length co9, .int .i64 0]) ?_ 1 _ rfl; refine bp ?_; refine blk_put (cs := #[.bool false, .slice Ao9 t1079.length co9, .int .i64 0]) ?_ 0 _ rfl; exact bp BK1082.out))⟩; replace HB : Aside0 (Below w.heap.size w w21) := ⟨(by rw [hw]; exact pB)⟩; clear hw; obtain ⟨hcz22_0, hcz22_1, hcz22_2, hfz22_0, hfz22_1, hfz22_2⟩ := cEc BK1082.out) | (refine gL (some 22) Tryz.func23 #[.agg #[.bool true, .slice Ao19 t1089.length co19, .int .i64 0]] (h := ?_); (with_reducible refine (bolterref02_Made.calls k true (fun k_ => some k_ = (.slice Ao19 t1089.length co19 : Value).ownBlock) (.slice Ao19 t1089.length co19) t1089 0 t1092 t1093 t1096 t1097 w _ ?side1 ?side2 A6.out).mono ?_); (case side1 => exact pB); (case side2 => exact Kd.R_tight rfl HO1091.out); rintro e w23 ⟨v1094, rfl, ho0, hb, hkp⟩; refine ⟨_, rfl, ?_⟩; have HO1095 := am (Kd.R_mono (ok' := fun k_ => True) ho0 (fun k_ hk_ => trivial)); replace BK1078 := am (blk_kept (blk_below BK1078.out pl) hkp (fun hs_ => (fun e_ => (Kd.R_ne HO1091.out BK1078.out (by decide)) e_) hs_)); replace HO1081 := am (Kd.R_mono (ok' := fun k_ => some k_ ≠ (.slice Ao16 t1083.length co16 : Value).ownBlock /\ some k_ ≠ (.slice Ao17 y1086.length co17 : Value).ownBlock) (Kd.R_keptB (HO1081.out) hkp (fun k_ hk_ hs_ => (hk_.2.2) hs_)) (fun k_ hk_ => ⟨hk_.1.1, hk_.1.2.1⟩)); replace BK1082 := am (blk_kept (blk_below BK1082.out pl) hkp (fun hs_ => (fun e_ => (Kd.R_ne HO1091.out BK1082.out (by decide)) e_) hs_)); replace HO1085 := am (Kd.R_mono (ok' := fun k_ => some k_ ≠ (.slice Ao9 t1079.length co9 : Value).ownBlock /\ some k_ ≠ (.slice Ao17 y1086.length co17 : Value).ownBlock) (Kd.R_keptB (HO1085.out) hkp (fun k_ hk_ hs_ => (hk_.2.2) hs_)) (fun k_ hk_ => ⟨hk_.1.1, hk_.1.2.1⟩)); replace HO1088 := am (Kd.R_mono (ok' := fun k_ => some k_ ≠ (.slice Ao9 t1079.length co9 : Value).ownBlock /\ some k_ ≠ (.slice Ao16 t1083.length co16 : Value).ownBlock) (Kd.R_keptB (HO1088.out) hkp (fun k_ hk_ hs_ => (hk_.2.2) hs_)) (fun k_ hk_ => ⟨hk_.1.1, hk_.1.2.1⟩)); replace HB := am hb; clear HO1091; (try clear hb); (try clear hkp); (try clear ho0)) | ((with_reducible refine gd 4 ?_); refine bx 4 #[.bool false, .slice none 0 0, .int .i64 0] 24 (h := ?_); intro gb1098 hg w24 hbox hb; have BK1098 := am hbox; have GW1098 := gW hg; have GE1098 := gW hg; have NB1078_1098 := nL hg BK1078; have NB1098_1078 := nG hg BK1078; have NB1082_1098 := nL hg BK1082; have NB1098_1082 := nG hg BK1082; replace HO1081 := rbl HO1081 hb; replace HO1085 := rbl HO1085 hb; replace HO1088 := rbl HO1088 hb; replace HO1095 := rbl HO1095 hb; replace BK1078 := bb BK1078 hb; replace BK1082 := bb BK1082 hb; replace HB := bS hb; clear hb hbox hg; have hnb25 := NB1098_1078.out; have hnc25 := NB1078_1098.out; have hnb26 := NB1098_1082.out; have hnc26 := NB1082_1098.out; obtain ⟨hcz27_0, hcz27_1, hcz27_2, hfz27_0, hfz27_1, hfz27_2⟩ := cEc BK1098.out; obtain ⟨Ao28, co28, eo28⟩ := Kd.R_slice HO1095.out; subst eo28; obtain ⟨hcz29_0, hcz29_1, hcz29_2, hfz29_0, hfz29_1, hfz29_2⟩ := cEc BK1078.out))
  refine bodyPost_ret (results_cell_row rfl _ _ gb1078 24 #[.bool t1092, .slice Ao28 t1093.length co28, .int .i64 t1096] (0, 0) _ rfl (by refine bp ?_; refine blk_put (cs := #[.bool t1092, .slice Ao28 t1093.length co28, .int .i64 0]) ?_ 2 _ rfl; refine bp ?_; refine blk_put (cs := #[.bool t1092, .slice none 0 0, .int .i64 0]) ?_ 1 _ rfl; refine bp ?_; refine blk_put (cs := #[.bool false, .slice none 0 0, .int .i64 0]) ?_ 0 _ rfl; refine bp ?_; refine blk_far ?_ NB1078_1098.out _; refine bp ?_; refine blk_far ?_ NB1078_1098.out _; refine bp ?_; refine blk_far ?_ NB1078_1098.out _; exact bp BK1078.out) Tryz.underlying24 rfl (by kernel_rfl)) rfl ?_
  exact ⟨_, pE, by refine rp ?_; exact Kd.R_mono (Kd.R_far (p := ⟨gb1078, 2, none⟩) (Kd.R_far (p := ⟨gb1078, 1, none⟩) (Kd.R_far (p := ⟨gb1078, 0, none⟩) (Kd.R_far (p := ⟨gb1098, 2, none⟩) (Kd.R_far (p := ⟨gb1098, 1, none⟩) (Kd.R_far (p := ⟨gb1098, 0, none⟩) (Kd.R_types (Kd.R_types HO1095.out BK1098.out (by decide)) BK1078.out (by decide)) (fun _ hk => hk.1.2) (.bool t1092)) (fun _ hk => hk.1.2) (.slice Ao28 t1093.length co28)) (fun _ hk => hk.1.2) (.int .i64 t1096)) (fun _ hk => hk.2) (.bool t1092)) (fun _ hk => hk.2) (.slice Ao28 t1093.length co28)) (fun _ hk => hk.2) (.int .i64 t1096)) (fun _ hk => trivial), pB⟩
 ·rw [if_neg c3] at H
  have c3b0 : decide (a0 < 0) = false := decide_eq_false c3
  clear c3
  obtain ⟨⟨t1099, t1100, t1103, t1104⟩, A30, H⟩ := ob H; (try dsimp only at H)
  simp only [Option.some.injEq, Prod.mk.injEq] at H
  obtain ⟨rfl, rfl, rfl⟩ := H
  go_enter Tryz.func29, Tryz.ntmps29
  go_wp2_with (first | ((with_reducible refine gd 2 ?_); refine bx 2 #[.bool false, .slice none 0 0, .int .i64 0] 24 (h := ?_); intro gb1078 hg w31 hbox hb; have BK1078 := am hbox; have GW1078 := gW hg; have GE1078 := gW hg; replace HB := bS hb; clear hb hbox hg) | (refine gL (some 8) Tryz.func84 #[.int .u64 (IntKind.u64.wrap (a0))] (h := ?_); (with_reducible refine (bolterref02_number.calls k (IntKind.u64.wrap (a0)) t1079 _ A2.out).mono ?_); rintro e w32 ⟨v1080, rfl, ho0, hb⟩; refine ⟨_, rfl, ?_⟩; have HO1081 := am (Kd.R_lower ho0 (below_size pB)); replace BK1078 := bb BK1078 hb; replace HB := bS hb; (try clear hb); (try clear hb2); (try clear hk); (try clear hi); (try clear ho0); obtain ⟨Ao33, co33, eo33⟩ := Kd.R_slice HO1081.out; subst eo33) | ((with_reducible refine gd 3 ?_); refine bx 3 #[.bool false, .slice none 0 0, .int .i64 0] 30 (h := ?_); intro gb1082 hg w34 hbox hb; have BK1082 := am hbox; have GW1082 := gW hg; have GE1082 := gW hg; have NB1078_1082 := nL hg BK1078; have NB1082_1078 := nG hg BK1078; replace HO1081 := rbl HO1081 hb; replace BK1078 := bb BK1078 hb; replace HB := bS hb; clear hb hbox hg; have hnb35 := NB1082_1078.out; have hnc35 := NB1078_1082.out; obtain ⟨hcz36_0, hcz36_1, hcz36_2, hfz36_0, hfz36_1, hfz36_2⟩ := cEc BK1082.out) | ((with_reducible refine gate_store (t := 30) (p := 3) rfl ?_); refine store_event (t := 30) (p := 3) (v := ?vo_w37) (w1 := (((w34.setCell ⟨gb1082, 0, none⟩ (.bool false)).setCell ⟨gb1082, 1, none⟩ (.slice Ao33 t1079.length co33)).setCell ⟨gb1082, 2, none⟩ (.int .i64 0))) ?hg ?ho ?hn ?hr ?_; (case ho => rfl); (case hg => rfl); (case hn => rfl); (case hr => first | (go_simp; done) | (go_simp; rfl)); intro w37 hw; replace HO1081 : Aside0 (Kd.R (Kd.int .i64) 3 w37 w.heap.size (fun _ => True) (.slice Ao33 t1079.length co33) t1079) := ⟨(by rw [hw]; exact (Kd.R_below (Kd.R_mono (Kd.R_far (p := ⟨gb1082, 2, none⟩) (Kd.R_far (p := ⟨gb1082, 1, none⟩) (Kd.R_far (p := ⟨gb1082, 0, none⟩) (Kd.R_types HO1081.out BK1082.out (by decide)) (fun _ hk => hk.2) (.bool false)) (fun _ hk => hk.2) (.slice Ao33 t1079.length co33)) (fun _ hk => hk.2) (.int .i64 0)) (fun _ hk => trivial)) pl))⟩; replace BK1078 : Aside0 (w37.heap[gb1078]? = some (.cells #[.bool false, .slice none 0 0, .int .i64 0] 24 (0, 0))) := ⟨(by rw [hw]; exact (bf NB1078_1082.out BK1078.out))⟩; replace BK1082 : Aside0 (w37.heap[gb1082]? = some (.cells #[.bool false, .slice Ao33 t1079.length co33, .int .i64 0] 30 (0, 0))) := ⟨(by rw [hw]; exact (by refine bp ?_; refine blk_put (cs := #[.bool false, .slice Ao33 t1079.length co33, .int .i64 0]) ?_ 2 _ rfl; refine bp ?_; refine blk_put (cs := #[.bool false, .slice none 0 0, .int .i64 0]) ?_ 1 _ rfl; refine bp ?_; refine blk_put (cs := #[.bool false, .slice none 0 0, .int .i64 0]) ?_ 0 _ rfl; exact bp BK1082.out))⟩; replace HB : Aside0 (Below w.heap.size w w37) := ⟨(by rw [hw]; exact pB)⟩; clear hw; obtain ⟨hcz38_0, hcz38_1, hcz38_2, hfz38_0, hfz38_1, hfz38_2⟩ := cEc BK1082.out) | (refine gL (some 22) Tryz.func23 #[.agg #[.bool false, .slice Ao33 t1079.length co33, .int .i64 0]] (h := ?_); (with_reducible refine (bolterref02_Made.calls k false (fun k_ => some k_ = (.slice Ao33 t1079.length co33 : Value).ownBlock) (.slice Ao33 t1079.length co33) t1079 0 t1099 t1100 t1103 t1104 w _ ?side1 ?side2 A30.out).mono ?_); (case side1 => exact pB); (case side2 => exact Kd.R_tight rfl HO1081.out); rintro e w39 ⟨v1101, rfl, ho0, hb, hkp⟩; refine ⟨_, rfl, ?_⟩; have HO1102 := am (Kd.R_mono (ok' := fun k_ => True) ho0 (fun k_ hk_ => trivial)); replace BK1078 := am (blk_kept (blk_below BK1078.out pl) hkp (fun hs_ => (fun e_ => (Kd.R_ne HO1081.out BK1078.out (by decide)) e_) hs_)); replace BK1082 := am (blk_kept (blk_below BK1082.out pl) hkp (fun hs_ => (fun e_ => (Kd.R_ne HO1081.out BK1082.out (by decide)) e_) hs_)); replace HB := am hb; clear HO1081; (try clear hb); (try clear hkp); (try clear ho0)) | ((with_reducible refine gd 4 ?_); refine bx 4 #[.bool false, .slice none 0 0, .int .i64 0] 24 (h := ?_); intro gb1105 hg w40 hbox hb; have BK1105 := am hbox; have GW1105 := gW hg; have GE1105 := gW hg; have NB1078_1105 := nL hg BK1078; have NB1105_1078 := nG hg BK1078; have NB1082_1105 := nL hg BK1082; have NB1105_1082 := nG hg BK1082; replace HO1102 := rbl HO1102 hb; replace BK1078 := bb BK1078 hb; replace BK1082 := bb BK1082 hb; replace HB := bS hb; clear hb hbox hg; have hnb41 := NB1105_1078.out; have hnc41 := NB1078_1105.out; have hnb42 := NB1105_1082.out; have hnc42 := NB1082_1105.out; obtain ⟨hcz43_0, hcz43_1, hcz43_2, hfz43_0, hfz43_1, hfz43_2⟩ := cEc BK1105.out; obtain ⟨Ao44, co44, eo44⟩ := Kd.R_slice HO1102.out; subst eo44; obtain ⟨hcz45_0, hcz45_1, hcz45_2, hfz45_0, hfz45_1, hfz45_2⟩ := cEc BK1078.out))
  refine bodyPost_ret (results_cell_row rfl _ _ gb1078 24 #[.bool t1099, .slice Ao44 t1100.length co44, .int .i64 t1103] (0, 0) _ rfl (by refine bp ?_; refine blk_put (cs := #[.bool t1099, .slice Ao44 t1100.length co44, .int .i64 0]) ?_ 2 _ rfl; refine bp ?_; refine blk_put (cs := #[.bool t1099, .slice none 0 0, .int .i64 0]) ?_ 1 _ rfl; refine bp ?_; refine blk_put (cs := #[.bool false, .slice none 0 0, .int .i64 0]) ?_ 0 _ rfl; refine bp ?_; refine blk_far ?_ NB1078_1105.out _; refine bp ?_; refine blk_far ?_ NB1078_1105.out _; refine bp ?_; refine blk_far ?_ NB1078_1105.out _; exact bp BK1078.out) Tryz.underlying24 rfl (by kernel_rfl)) rfl ?_
  exact ⟨_, pE, by refine rp ?_; exact Kd.R_mono (Kd.R_far (p := ⟨gb1078, 2, none⟩) (Kd.R_far (p := ⟨gb1078, 1, none⟩) (Kd.R_far (p := ⟨gb1078, 0, none⟩) (Kd.R_far (p := ⟨gb1105, 2, none⟩) (Kd.R_far (p := ⟨gb1105, 1, none⟩) (Kd.R_far (p := ⟨gb1105, 0, none⟩) (Kd.R_types (Kd.R_types HO1102.out BK1105.out (by decide)) BK1078.out (by decide)) (fun _ hk => hk.1.2) (.bool t1099)) (fun _ hk => hk.1.2) (.slice Ao44 t1100.length co44)) (fun _ hk => hk.1.2) (.int .i64 t1103)) (fun _ hk => hk.2) (.bool t1099)) (fun _ hk => hk.2) (.slice Ao44 t1100.length co44)) (fun _ hk => hk.2) (.int .i64 t1103)) (fun _ hk => trivial), pB⟩
end YtjbjkmccfocikaaGreatDoor.B
end
section
namespace YtjbjkmccfocikaaGreatDoor.P
open Go.RowKit YtjbjkmccfocikaaGreatDoor.B YtjbjkmccfocikaaGreatDoorW.PrintWords YtjbjkmccfocikaaGreatDoorW.PrintLast YtjbjkmccfocikaaGreatDoorW.PrintMore YtjbjkmccfocikaaGreatDoor.P.Nm
def okB (a : Dm) : Bool := if a.n = 0 then (!a.neg && decide (a.e = 0)) else (decide (a.n % 10 ≠ 0) && (decide (nd a.n <= 300) && (decide (-1000 <= a.e) && decide (a.e <= 1000))))
theorem okB_iff {a : Dm} : okB a = true ↔ OkD a := by
 obtain ⟨s, n, e⟩ := a
 unfold okB
 by_cases h : n = 0
 ·subst h
  simp only [if_true]
  constructor
  ·intro h
   simp only [Bool.and_eq_true, Bool.not_eq_true', decide_eq_true_eq] at h
   obtain ⟨rfl, rfl⟩ := h
   exact OkD.zeroD
  ·intro h
   have := h.zero rfl
   unfold zeroD at this
   injection this with h1 h2 h3
   simp [h1, h3]
 ·simp only [if_neg h, Bool.and_eq_true, decide_eq_true_eq]
  constructor
  ·intro ⟨h1, h2, h3, h4⟩
   exact ⟨fun e => absurd e h, fun _ => h1, h2, h3, h4⟩
  ·intro h1
   exact ⟨h1.last h, h1.len, h1.low, h1.high⟩
def chk (a : Bool) (l : List Int) (e : Int) : Int := if chkL l = 0 /\ l.length <= 40 /\ okB ⟨a, num l, e⟩ = true then 0 else 9
theorem limbs_len9 {n k : Nat} (h : nd n <= 9 * k) : (limbs n).length <= k := by
 refine limbs_len_of (Nat.lt_of_lt_of_le (nd_lt n) ?_)
 refine Nat.le_trans (Nat.pow_le_pow_right (by omega) h) ?_
 rw [Nat.pow_mul]
 exact Nat.pow_le_pow_left (by decide) _
theorem okd_limbs {a : Dm} (h : OkD a) : (limbs a.n).length <= 34 := limbs_len9 (by have := h.len; omega)
theorem chk_of {a : Dm} (h : OkD a) : chk a.neg (limbs a.n) a.e = 0 := by
 have h1 := okd_limbs h
 unfold chk
 rw [if_pos ⟨chk_limbs (by omega), by omega, by rw [num_limbs]; exact okB_iff.2 h⟩]
abbrev outD (p : Dm × Int) : Bool × List Int × Int × Int := (p.1.neg, limbs p.1.n, p.1.e, p.2)
theorem digs_low {n : Nat} (h : n ≠ 0) : (digs n).getD 0 0 = ((n % 10 : Nat) : Int) := by rw [digs_step h]; rfl
theorem Made_l0 (s : Bool) : ∀ (f n : Nat) (e : Int), n <= f -> n ≠ 0 -> nd n <= 100000 -> -1000000000 <= e -> e + nd n <= 1000000000 -> Tells (fun k => bolterref02_Made.l0 k (digs n) s [] e) (outD (settleD ⟨s, n, e⟩))
 | 0, n, e, hf, h0, hn, he1, he2 => by omega
 | f + 1, n, e, hf, h0, hn, he1, he2 => by
  have hpos := nd_pos h0
  have hlen : (digs n).length = nd n := rfl
  refine Tells.succ ?_
  simp only [bolterref02_Made.l0]
  rw [show (0 : Int) = ((0 : Nat) : Int) from rfl, rd_n, digs_low h0]
  refine Tells.ifp (by omega) ?_
  by_cases hz : n % 10 = 0
  ·have hne : n / 10 ≠ 0 := by omega
   have hnd : nd n = nd (n / 10) + 1 := by
    show (digs n).length = _
    rw [digs_step h0]; rfl
   have ih := Made_l0 s f (n / 10) (e + 1) (by omega) hne (by omega) (by omega) (by omega)
   have hs := settle_shift s (n / 10) (e + 1) 1
   rw [show n / 10 * 10 ^ 1 = n by omega, show e + 1 - ((1 : Nat) : Int) = e by omega] at hs
   rw [hs]
   refine Tells.ifp (by omega) (Tells.ifp (by omega) ?_)
   rw [w64n (by omega) (by omega), digs_step h0]
   exact ih
  ·obtain ⟨hc, ht⟩ := core_self hz
   unfold settleD
   simp only [hc, ht]
   rw [if_neg h0, show e + ((0 : Nat) : Int) = e by omega]
   refine Tells.ifn (by omega) ?_
   by_cases h3 : 300 < nd n
   ·rw [if_pos h3]
    exact Tells.ifp (by omega) (Tells.pure _)
   ·rw [if_neg h3]
    refine Tells.ifn (by omega) ?_
    by_cases h4 : e < -1000
    ·rw [if_pos (.inl h4)]
     exact Tells.ifp h4 (Tells.pure _)
    ·refine Tells.ifn h4 ?_
     by_cases h5 : 1000 < e
     ·rw [if_pos (.inr h5)]
      exact Tells.ifp h5 (Tells.pure _)
     ·rw [if_neg (by omega)]
      exact Tells.ifn h5 ((Limbs_tells n (by omega)).bind (Tells.pure _))
theorem Made_tells (s : Bool) (L : List Int) (n : Nat) (e : Int) (hd : Dg 10 L) (hv : val 10 L = n) (hl : L.length <= 100000) (he1 : -1000000000 <= e) (he2 : e <= 900000000) : Tells (fun k => bolterref02_Made.f k s L e) (outD (settleD ⟨s, n, e⟩)) := by
 have ht := Trim_tells L (by omega)
 rw [digs_trim hd hv] at ht
 have hnd : nd n <= 100000 := by
  have := trim_len L
  rw [digs_trim hd hv] at this
  exact Nat.le_trans this hl
 unfold bolterref02_Made.f
 refine ht.bind ?_
 by_cases h0 : n = 0
 ·subst h0
  exact Tells.ifp rfl (Tells.pure _)
 ·have hpos : 0 < (digs n).length := nd_pos h0
  exact Tells.ifn (by omega) (Made_l0 s n n e (Nat.le_refl _) h0 hnd he1 (by omega))
theorem Made (s : Bool) (n : Nat) (e : Int) (hn : nd n <= 100000) (he1 : -1000000000 <= e) (he2 : e <= 900000000) : Tells (fun k => bolterref02_Made.f k s (digs n) e) (outD (settleD ⟨s, n, e⟩)) :=
 Made_tells s _ n e (digs_dg n) (digs_val n) hn he1 he2
theorem Same_l0 (a : Bool) (l : List Int) (e : Int) (b : Bool) (m : List Int) (g : Int) (hl : l.length = m.length) (hz : l.length < 9223372036854775807) : ∀ (d i : Nat), l.length - i = d -> i <= l.length -> l.take i = m.take i -> Tells (fun k => bolterref02_Same.l0 k (i : Int) a l e b m g) (decide (l = m))
 | 0, i, hd, hi, h => by
  obtain rfl : i = l.length := by omega
  refine Tells.succ ?_
  simp only [bolterref02_Same.l0]
  refine Tells.ifn (by omega) ((Tells.pure _).val ?_)
  rw [List.take_length, hl, List.take_length] at h
  rw [decide_eq_true h]
 | d + 1, i, hd, hi, h => by
  have hil : i < l.length := by omega
  refine Tells.succ ?_
  simp only [bolterref02_Same.l0]
  rw [rd_n, rd_n, w64s (by omega)]
  refine Tells.ifp (by omega) (Tells.ifp (by omega) (Tells.ifp (by omega) ?_))
  by_cases hx : l.getD i 0 = m.getD i 0
  ·exact Tells.ifp hx (Same_l0 a l e b m g hl hz d (i + 1) (by omega) (by omega) (by rw [take_s hil, take_s (by omega), h, hx]))
  ·exact Tells.ifn hx ((Tells.pure _).val (by rw [decide_eq_false (fun q => hx (by rw [q]))]))
def sameB (a : Bool) (l : List Int) (e : Int) (b : Bool) (m : List Int) (g : Int) : Bool := decide (a = b) && (decide (e = g) && decide (l = m))
theorem sameB_iff {a : Bool} {l : List Int} {e : Int} {b : Bool} {m : List Int} {g : Int} : sameB a l e b m g = true ↔ a = b /\ l = m /\ e = g := by
 unfold sameB
 simp only [Bool.and_eq_true, decide_eq_true_eq]
 exact ⟨fun ⟨h1, h2, h3⟩ => ⟨h1, h3, h2⟩, fun ⟨h1, h2, h3⟩ => ⟨h1, h3, h2⟩⟩
theorem Same_tells (a : Bool) (l : List Int) (e : Int) (b : Bool) (m : List Int) (g : Int) (hz : l.length < 9223372036854775807) : Tells (fun k => bolterref02_Same.f k a l e b m g) (sameB a l e b m g) := by
 have no : Tells (fun k => bolterref02_Same.j0 k true a l e b m g) false := by
  refine Tells.succ ?_
  simp only [bolterref02_Same.j0]
  exact Tells.ifp trivial (Tells.pure _)
 unfold bolterref02_Same.f sameB
 by_cases h1 : a = b
 ·subst h1
  rw [decide_eq_true rfl]
  refine Tells.ifn (by simp) ?_
  by_cases h2 : e = g
  ·subst h2
   rw [decide_eq_true rfl]
   refine Tells.ifp rfl ?_
   by_cases h3 : l.length = m.length
   ·refine Tells.succ ?_
    simp only [bolterref02_Same.j0]
    have h := Same_l0 a l e a m e h3 hz l.length 0 (by omega) (by omega) rfl
    exact Tells.ifn (by rw [h3]; simp) (h.val (by simp))
   ·have e1 : ((l.length : Int) != (m.length : Int)) = true := bne_iff_ne.2 (by omega)
    rw [e1]
    refine no.val ?_
    rw [decide_eq_false (fun q : l = m => h3 (by rw [q]))]; rfl
  ·exact Tells.ifn h2 (no.val (by rw [decide_eq_false h2]; rfl))
 ·exact Tells.ifp (by simpa using h1) (no.val (by rw [decide_eq_false h1]; rfl))
theorem limbs_inj {m n : Nat} (h : limbs m = limbs n) : m = n := by rw [<- num_limbs m, h, num_limbs]
theorem Same_D (D E : Dm) (h : nd D.n <= 1000000) : Tells (fun k => bolterref02_Same.f k D.neg (limbs D.n) D.e E.neg (limbs E.n) E.e) (decide (D = E)) := by
 have hl := limbs_len D.n
 refine (Same_tells D.neg (limbs D.n) D.e E.neg (limbs E.n) E.e (by omega)).val ?_
 rw [Bool.eq_iff_iff, sameB_iff, decide_eq_true_eq]
 constructor
 ·intro ⟨h1, h2, h3⟩
  obtain ⟨s, n, e⟩ := D
  obtain ⟨s', n', e'⟩ := E
  have := limbs_inj h2
  simp only at *
  subst h1 h3 this; rfl
 ·intro h; rw [h]; exact ⟨rfl, rfl, rfl⟩
theorem nd_shift_le (n k : Nat) : nd (n * 10 ^ k) <= nd n + k := by
 by_cases h : n = 0
 ·subst h; rw [Nat.zero_mul, nd_zero]; omega
 ·rw [nd_shift h]; exact Nat.le_refl _
def intD (n : Int) : Dm := (settleD ⟨decide (n < 0), n.natAbs, 0⟩).1
theorem number_tells (n : Nat) (h : n < 18446744073709551616) : Tells (fun k => bolterref02_number.f k (n : Int)) (digs n) := by
 unfold bolterref02_number.f
 rw [From01_tells n h]
 have hl : (limbs n).length <= 2 := limbs_len_of (by simpa using h)
 have hD := Digits_tells (limbs n) (limbs_dg n) (by omega)
 rw [num_limbs] at hD
 exact (Tells.pure _).bind (hD.bind (Tells.pure _))
theorem nd_20 {n : Nat} (h : n <= 18446744073709551616) : nd n <= 20 := nd_le (Nat.lt_of_le_of_lt h (by decide))
theorem RInt_tells (n : Int) (h1 : -9223372036854775808 <= n) (h2 : n <= 9223372036854775807) : Tells (fun k => bolterref02_Int.f k n) ((intD n).neg, limbs (intD n).n, (intD n).e) := by
 unfold bolterref02_Int.f intD
 obtain ⟨u, hu, hub⟩ : ∃ u : Nat, IntKind.u64.wrap n = (u : Int) /\ u < 18446744073709551616 := ⟨(n % 18446744073709551616).toNat, by simp [IntKind.wrap, IntKind.bits, IntKind.signed]; omega, by omega⟩
 rw [hu]
 refine (number_tells u hub).bind ?_
 by_cases hn : n < 0
 ·obtain ⟨v, hv⟩ : ∃ v : Nat, n = -((v : Int) + 1) := ⟨(-n - 1).toNat, by omega⟩
  subst hv
  have e1 : wrap64 (-((v : Int) + 1) + 1) = -(v : Int) := by rw [w64n (by omega) (by omega)]; omega
  have e2 : wrap64 (-(-(v : Int))) = (v : Int) := by rw [Int.neg_neg, w64c (by omega)]
  have e3 : (-((v : Int) + 1)).natAbs = v + 1 := by omega
  have h1d : ([1] : List Int) = digs 1 := rfl
  rw [e1, e2, u64n (by omega), e3, decide_eq_true hn, h1d]
  refine Tells.ifp hn ((number_tells v (by omega)).bind ?_)
  refine (Plus_tells v 1 (Nat.le_trans (nd_20 (by omega)) (by omega)) (Nat.le_trans (nd_20 (by omega)) (by omega))).bind ?_
  exact (Made true (v + 1) 0 (Nat.le_trans (nd_20 (by omega)) (by omega)) (by omega) (by omega)).bind (Tells.pure _)
 ·obtain ⟨v, rfl⟩ := Int.eq_ofNat_of_zero_le (show 0 <= n by omega)
  rw [u64n (by omega)] at hu
  obtain rfl : v = u := by omega
  rw [decide_eq_false hn, Int.natAbs_natCast]
  exact Tells.ifn hn ((Made false v 0 (Nat.le_trans (nd_20 (by omega)) (by omega)) (by omega) (by omega)).bind (Tells.pure _))
end YtjbjkmccfocikaaGreatDoor.P
end
section
namespace YtjbjkmccfocikaaGreatDoor.P
open Go.RowKit YtjbjkmccfocikaaGreatDoorW.PrintWords
def anyO {α : Type} (f : α -> Option Bool) : List α -> Option Bool
 | [] => some false
 | x :: r => (f x).bind fun t => if t = true then some true else anyO f r
theorem anyO_cons {α : Type} {f : α -> Option Bool} {x : α} {r : List α} {b : Bool} (h : anyO f (x :: r) = some b) : ∃ t, f x = some t /\ ((t = true -> b = true) /\ (t = false -> anyO f r = some b)) := by
 simp only [anyO] at h
 obtain ⟨t, ht, h2⟩ := Option.bind_eq_some_iff.1 h
 refine ⟨t, ht, fun e => ?_, fun e => ?_⟩
 ·rw [if_pos e] at h2; exact (Option.some.inj h2).symm
 ·rw [if_neg (by simp [e])] at h2; exact h2
theorem anyO_nil {α : Type} {f : α -> Option Bool} {b : Bool} (h : anyO f [] = some b) : b = false := (Option.some.inj h).symm
theorem anyO_some {α : Type} {f : α -> Option Bool} (p : α -> Bool) : ∀ l : List α, (∀ x ∈ l, f x = some (p x)) -> anyO f l = some (l.any p)
 | [], _ => rfl
 | x :: r, h => by
  simp only [anyO]
  rw [h x List.mem_cons_self, Option.bind_some, List.any_cons]
  cases p x
  ·rw [if_neg (by simp), Bool.false_or]; exact anyO_some p r (fun y hy => h y (List.mem_cons_of_mem _ hy))
  ·rw [if_pos rfl, Bool.true_or]
def IdxR (b : Bool) (e : Ending) : Prop := ∃ i : Int, e = .returned (.int .i64 i) /\ decide (0 <= i) = b
theorem idxR_at {b : Bool} (h : b = true) (q : Nat) : IdxR b (.returned (.int .i64 (q : Int))) := ⟨q, rfl, by rw [h]; simp⟩
theorem idxR_none {b : Bool} (h : b = false) : IdxR b (.returned (.int .i64 (-1))) := ⟨-1, rfl, by rw [h]; rfl⟩
theorem drop_any {α : Type} {l : List α} {q : Nat} {z : α} (h : q < l.length) : l.drop q = l.getD q z :: l.drop (q + 1) := by
 rw [List.getD, List.getElem?_eq_getElem h]; exact List.drop_eq_getElem_cons h
theorem addr_any {w : World} {a : Addr} {v : Value} (h : w.cell? a = some v) : ∃ b o, a = ⟨b, o, none⟩ := by
 obtain ⟨b, o, s⟩ := a
 cases s with
 | none => exact ⟨b, o, rfl⟩
 | some s =>
  unfold World.cell? at h
  split at h
  ·simp at h
  ·cases h
theorem add_any (b o j : Nat) : (⟨b, o, none⟩ : Addr).add j = ⟨b, o + j, none⟩ := by unfold Addr.add; split <;> simp_all
end YtjbjkmccfocikaaGreatDoor.P
end
section
namespace YtjbjkmccfocikaaGreatDoor.B
open Go.RowKit YtjbjkmccfocikaaGreatDoorW.PrintWords YtjbjkmccfocikaaGreatDoorW.PrintLast YtjbjkmccfocikaaGreatDoorW.PrintMore
attribute [local go_sem] max2_int min2_int max_two min_two max_three min_three max_four min_four
def dec_ten.f (k : Nat) (l0 : List Int) : Option (List Int × Bool) := (nat_From.f k 10).bind fun t147 => ((nat_Div.f k l0 t147).bind fun bt150 => (some (bt150.1, ((bt150.2.1.length : Int) == 0))))
theorem dec_ten.calls (k : Nat) (A0 : Option Addr) (c0 : Nat) (l0 : List Int) (r1 : List Int) (r2 : Bool) (w : World) (hr0 : Kd.C (Kd.int .u32) w A0 l0.length l0) (hc0 : l0.length <= c0) (h : dec_ten.f k l0 = some (r1, r2)) :
  Calls Tryz.prog 109 #[.slice A0 l0.length c0] w fun e w' => ∃ v0_ : Value, e = .returned (.tuple #[v0_, .bool r2]) /\ Kd.R (Kd.int .u32) 85 w' w.heap.size (fun _ => True) v0_ r1 /\ Below w.heap.size w w' := by
 have HR0 := am hr0
 have HC0 := am hc0
 clear hr0 hc0
 have HB := am (Below.refl w.heap.size w)
 have H : ((nat_From.f k 10).bind fun t147 => ((nat_Div.f k l0 t147).bind fun bt150 => (some (bt150.1, ((bt150.2.1.length : Int) == 0))))) = some (r1, r2) := h
 clear h
 obtain ⟨t147, A2, H⟩ := ob H
 obtain ⟨⟨t150, t151, t152⟩, A3, H⟩ := ob H; (try dsimp only at H)
 simp only [Option.some.injEq, Prod.mk.injEq] at H
 obtain ⟨rfl, rfl⟩ := H
 go_enter Tryz.func109, Tryz.ntmps109
 go_wp2_with (first | (refine gL (some 9) Tryz.func76 #[.int .u64 10] (h := ?_); (with_reducible refine (nat_From.calls k 10 t147 _ A2.out).mono ?_); rintro e w4 ⟨v148, rfl, ho0, hb⟩; refine ⟨_, rfl, ?_⟩; have HO149 := am (Kd.R_lower ho0 (below_size pB)); replace HB := bS hb; (try clear hb); (try clear hb2); (try clear hk); (try clear hi); (try clear ho0); obtain ⟨Ao5, co5, eo5⟩ := Kd.R_slice HO149.out; subst eo5) | (refine gL (some 10) Tryz.func69 #[.slice A0 l0.length c0, .slice Ao5 t147.length co5] (h := ?_); (with_reducible refine (nat_Div.calls k _ _ l0 _ _ t147 t150 t151 t152 _ ?side1 ?side2 ?side3 ?side4 A3.out).mono ?_); (case side1 => refine cp ?_; exact (Kd.C_below HR0.out HB.out)); (case side2 => exact HC0.out); (case side3 => exact Kd.C_below (Kd.R_reads' HO149.out).2.2 pl); (case side4 => exact (Kd.R_reads' HO149.out).2.1); rintro e w6 ⟨v153, v155, rfl, ho0, ho1, hb⟩; refine ⟨_, rfl, ?_⟩; have HO154 := am (Kd.R_lower (Kd.R_new' ho0 (Kd.R_lt (Kd.R_below HO149.out pl))) (below_size pB)); have HO156 := am (Kd.R_lower (Kd.R_new' ho1 (Kd.R_lt (Kd.R_below HO149.out pl))) (below_size pB)); replace HO149 := am (Kd.R_mono (Kd.R_told (Kd.R_told (Kd.R_old (Kd.R_below HO149.out pl) hb) (Kd.R_base ho0)) (Kd.R_base ho1)) (fun _ h_ => h_.1)); replace HB := bS hb; (try clear hb); (try clear hb2); (try clear hk); (try clear hi); (try clear ho0); (try clear ho1); obtain ⟨Ao7, co7, eo7⟩ := Kd.R_slice HO156.out; subst eo7))
 go_ret2
 exact ⟨_, pE, by refine rp ?_; exact Kd.R_mono HO154.out (fun _ hk => trivial), pB⟩
def dec_digits.f (k : Nat) (l0 : List Int) : Option (Int) := (nat_Print.f k l0).bind fun bt173 => (if (l0.length : Int) = 0 then (some 0) else (some (bt173.1.size : Int)))
theorem dec_digits.calls (k : Nat) (A0 : Option Addr) (c0 : Nat) (l0 : List Int) (r : Int) (w : World) (hr0 : Kd.C (Kd.int .u32) w A0 l0.length l0) (hc0 : l0.length <= c0) (h : dec_digits.f k l0 = some r) :
  Calls Tryz.prog 110 #[.slice A0 l0.length c0] w fun e w' => e = .returned (.int .i64 r) /\ Below w.heap.size w w' := by
 have HR0 := am hr0
 have HC0 := am hc0
 clear hr0 hc0
 have HB := am (Below.refl w.heap.size w)
 have H : ((nat_Print.f k l0).bind fun bt173 => (if (l0.length : Int) = 0 then (some 0) else (some (bt173.1.size : Int)))) = some r := h
 clear h
 obtain ⟨⟨t173, t174⟩, A2, H⟩ := ob H; (try dsimp only at H)
 by_cases c3 : (l0.length : Int) = 0
 ·rw [if_pos c3] at H
  have c3b0 : ((l0.length : Int) == 0) = true := beq_iff_eq.mpr c3
  have c3b1 : ((l0.length : Int) != 0) = false := bne_eq_false_iff_eq.mpr c3
  clear c3
  obtain rfl := Option.some.inj H
  go_enter Tryz.func110, Tryz.ntmps110
  go_wp2_with (first | (refine gL (some 7) Tryz.func112 #[.slice A0 l0.length c0] (h := ?_); (with_reducible refine (nat_Print.calls k (fun k_ => k_ < w.heap.size) _ _ l0 t173 t174 _ ?side1 A2.out).mono ?_); (case side1 => exact Kd.V_mk HC0.out (Kd.F_below (Kd.C_F (Kd.heap_int .u32) HR0.out) pB)); rintro e w4 ⟨rfl, hb⟩; refine ⟨_, rfl, ?_⟩; replace HB := bS hb; (try clear hb); (try clear hb2); (try clear hk); (try clear hi)))
  go_ret
  exact ⟨pE, pB⟩
 ·rw [if_neg c3] at H
  have c3b0 : ((l0.length : Int) == 0) = false := beq_eq_false_iff_ne.mpr c3
  have c3b1 : ((l0.length : Int) != 0) = true := bne_iff_ne.mpr c3
  have c3b2 : ¬ (l0 = []) := fun h_ => c3 (by rw [h_]; rfl)
  obtain rfl := Option.some.inj H
  go_enter Tryz.func110, Tryz.ntmps110
  go_wp2_with (first | (refine gL (some 7) Tryz.func112 #[.slice A0 l0.length c0] (h := ?_); (with_reducible refine (nat_Print.calls k (fun k_ => k_ < w.heap.size) _ _ l0 t173 t174 _ ?side1 A2.out).mono ?_); (case side1 => exact Kd.V_mk HC0.out (Kd.F_below (Kd.C_F (Kd.heap_int .u32) HR0.out) pB)); rintro e w5 ⟨rfl, hb⟩; refine ⟨_, rfl, ?_⟩; replace HB := bS hb; (try clear hb); (try clear hb2); (try clear hk); (try clear hi)))
  go_ret
  exact ⟨pE, pB⟩
def dec_Check.j0 : Nat -> Bool -> Bool -> List Int -> Int -> Option (Int)
 | 0, _, _, _, _ => none
 | k + 1, x14, x176000, x176001, x176002 => if x14 = true then (some 9) else (if (x176001.length : Int) = 0 then (if x176000 = true then (some 9) else (if x176002 = 0 then (some 0) else (some 9))) else ((dec_ten.f k x176001).bind fun bt177 => (if bt177.2 = true then (some 9) else ((dec_digits.f k x176001).bind fun t181 => (if t181 > 300 then (some 9) else (if x176002 < (-1000) then (some 9) else (if x176002 > 1000 then (some 9) else (some 0))))))))
def dec_Check.f (k : Nat) (a0_0 : Bool) (l0_1 : List Int) (a0_2 : Int) : Option (Int) := (nat_Check.f l0_1).bind fun t176 => (if t176 = 0 then (dec_Check.j0 k (decide ((l0_1.length : Int) > 40)) a0_0 l0_1 a0_2) else (dec_Check.j0 k true a0_0 l0_1 a0_2))
theorem dec_Check.calls (k : Nat) (a0_0 : Bool) (A0_1 : Option Addr) (c0_1 : Nat) (l0_1 : List Int) (a0_2 : Int) (r : Int) (w : World) (hr0_1 : Kd.C (Kd.int .u32) w A0_1 l0_1.length l0_1) (hc0_1 : l0_1.length <= c0_1) (h : dec_Check.f k a0_0 l0_1 a0_2 = some r) :
  Calls Tryz.prog 55 #[.agg #[.bool a0_0, .slice A0_1 l0_1.length c0_1, .int .i64 a0_2]] w fun e w' => e = .returned (.int .i64 r) /\ Below w.heap.size w w' := by
 have hu24 := Tryz.underlying24
 have HR0_1 := am hr0_1
 have HC0_1 := am hc0_1
 clear hr0_1 hc0_1
 have HB := am (Below.refl w.heap.size w)
 have H : ((nat_Check.f l0_1).bind fun t176 => (if t176 = 0 then (dec_Check.j0 k (decide ((l0_1.length : Int) > 40)) a0_0 l0_1 a0_2) else (dec_Check.j0 k true a0_0 l0_1 a0_2))) = some r := h
 clear h
 have HC2 := am H
 clear H
 go_enter Tryz.func55, Tryz.ntmps55
 go_upto_region 1 with (first | ((with_reducible refine gd 1 ?_); (try (refine gate_guard (by rfl) ?_; dsimp only)); refine bx 1 #[.bool a0_0, .slice A0_1 l0_1.length c0_1, .int .i64 a0_2] 24 (h := ?_); intro gb175 hg w3 hbox hb; have BK175 := am hbox; have GW175 := gW hg; have GE175 := gW hg; replace HB := bS hb; clear hb hbox hg))
 (try simp only [Act.put, List.setIfInBounds_toArray, List.set_cons_zero, List.set_cons_succ])
 go_cut [14] (fun v14 wc => ∃ (kq : Nat) (x14_1 : Bool), v14 = .bool x14_1 /\ Aside0 (dec_Check.j0 kq x14_1 a0_0 l0_1 a0_2 = some r) /\ Aside0 (kq <= k) /\ Aside0 (wc.heap[gb175]? = some (.cells #[.bool a0_0, (.slice A0_1 l0_1.length c0_1), .int .i64 a0_2] 24 (0, 0))) /\ Aside0 (Below w.heap.size w wc))
 case first =>
  have H := HC2.out
  clear HC2
  obtain ⟨t176, A4, H⟩ := ob H
  by_cases c5 : t176 = 0
  ·rw [if_pos c5] at H
   have c5b0 : (t176 == 0) = true := beq_iff_eq.mpr c5
   have c5b1 : (t176 != 0) = false := bne_eq_false_iff_eq.mpr c5
   clear c5
   (first | rw [c5b0] | (simp only [i64_w, i32_w]; rw [c5b0]) | skip)
   have H' := am H
   clear H
   obtain ⟨hcz6_0, hcz6_1, hcz6_2, hfz6_0, hfz6_1, hfz6_2⟩ := cEc BK175.out
   go_wp2_with (first | (refine gL (some 7) Tryz.func108 #[.slice A0_1 l0_1.length c0_1] (h := ?_); (with_reducible refine (nat_Check.calls _ _ l0_1 t176 _ ?side1 ?side2 A4.out).mono ?_); (case side1 => refine cp ?_; exact (Kd.C_below HR0_1.out HB.out)); (case side2 => exact HC0_1.out); rintro e w' ⟨rfl, ⟨nd, rfl⟩⟩; refine ⟨_, rfl, ?_⟩))
   go_meet
   case rel => exact ⟨_, (decide ((l0_1.length : Int) > 40)), pR, H', ⟨by first | omega | exact Nat.le_refl _⟩, ⟨blk_below BK175.out pl⟩, ⟨pB⟩⟩
  ·rw [if_neg c5] at H
   have c5b0 : (t176 == 0) = false := beq_eq_false_iff_ne.mpr c5
   have c5b1 : (t176 != 0) = true := bne_iff_ne.mpr c5
   (first | rw [c5b0] | (simp only [i64_w, i32_w]; rw [c5b0]) | skip)
   have H' := am H
   clear H
   obtain ⟨hcz7_0, hcz7_1, hcz7_2, hfz7_0, hfz7_1, hfz7_2⟩ := cEc BK175.out
   go_wp2_with (first | (refine gL (some 7) Tryz.func108 #[.slice A0_1 l0_1.length c0_1] (h := ?_); (with_reducible refine (nat_Check.calls _ _ l0_1 t176 _ ?side1 ?side2 A4.out).mono ?_); (case side1 => refine cp ?_; exact (Kd.C_below HR0_1.out HB.out)); (case side2 => exact HC0_1.out); rintro e w' ⟨rfl, ⟨nd, rfl⟩⟩; refine ⟨_, rfl, ?_⟩))
   go_meet
   case rel => exact ⟨_, (true), pR, H', ⟨by first | omega | exact Nat.le_refl _⟩, ⟨blk_below BK175.out pl⟩, ⟨pB⟩⟩
 case rest =>
  clear HC2
  obtain ⟨kq, x14_1, rfl, HA, HJ1, BK175, HB⟩ := hcut
  cases kq with
  | zero => exact absurd HA.out (by simp [dec_Check.j0])
  | succ kj1 =>
   have H := HA.out
   clear HA
   simp only [dec_Check.j0] at H
   by_cases c8 : x14_1 = true
   ·subst c8
    rw [if_pos rfl] at H
    obtain rfl := Option.some.inj H
    go_wp2
    go_ret
    exact ⟨pE, pB⟩
   ·replace c8 := Bool.eq_false_iff.mpr c8
    subst c8
    rw [if_neg (show ¬ (false = true) by decide)] at H
    by_cases c9 : (l0_1.length : Int) = 0
    ·rw [if_pos c9] at H
     have c9b0 : ((l0_1.length : Int) == 0) = true := beq_iff_eq.mpr c9
     have c9b1 : ((l0_1.length : Int) != 0) = false := bne_eq_false_iff_eq.mpr c9
     clear c9
     by_cases c10 : a0_0 = true
     ·subst c10
      rw [if_pos rfl] at H
      obtain rfl := Option.some.inj H
      obtain ⟨hcz11_0, hcz11_1, hcz11_2, hfz11_0, hfz11_1, hfz11_2⟩ := cEc BK175.out
      go_wp2
      go_ret
      exact ⟨pE, pB⟩
     ·replace c10 := Bool.eq_false_iff.mpr c10
      subst c10
      rw [if_neg (show ¬ (false = true) by decide)] at H
      by_cases c12 : a0_2 = 0
      ·rw [if_pos c12] at H
       have c12b0 : (a0_2 == 0) = true := beq_iff_eq.mpr c12
       have c12b1 : (a0_2 != 0) = false := bne_eq_false_iff_eq.mpr c12
       clear c12
       obtain rfl := Option.some.inj H
       obtain ⟨hcz13_0, hcz13_1, hcz13_2, hfz13_0, hfz13_1, hfz13_2⟩ := cEc BK175.out
       go_wp2
       go_ret
       exact ⟨pE, pB⟩
      ·rw [if_neg c12] at H
       have c12b0 : (a0_2 == 0) = false := beq_eq_false_iff_ne.mpr c12
       have c12b1 : (a0_2 != 0) = true := bne_iff_ne.mpr c12
       obtain rfl := Option.some.inj H
       obtain ⟨hcz14_0, hcz14_1, hcz14_2, hfz14_0, hfz14_1, hfz14_2⟩ := cEc BK175.out
       go_wp2
       go_ret
       exact ⟨pE, pB⟩
    ·rw [if_neg c9] at H
     have c9b0 : ((l0_1.length : Int) == 0) = false := beq_eq_false_iff_ne.mpr c9
     have c9b1 : ((l0_1.length : Int) != 0) = true := bne_iff_ne.mpr c9
     have c9b2 : ¬ (l0_1 = []) := fun h_ => c9 (by rw [h_]; rfl)
     obtain ⟨⟨t177, t178⟩, A15, H⟩ := ob H; (try dsimp only at H)
     by_cases c16 : t178 = true
     ·subst c16
      rw [if_pos rfl] at H
      obtain rfl := Option.some.inj H
      obtain ⟨hcz17_0, hcz17_1, hcz17_2, hfz17_0, hfz17_1, hfz17_2⟩ := cEc BK175.out
      go_wp2_with (first | (refine gL (some 29) Tryz.func109 #[.slice A0_1 l0_1.length c0_1] (h := ?_); (with_reducible refine (dec_ten.calls kj1 _ _ l0_1 t177 true _ ?side1 ?side2 A15.out).mono ?_); (case side1 => refine cp ?_; exact (Kd.C_below HR0_1.out HB.out)); (case side2 => exact HC0_1.out); rintro e w18 ⟨v179, rfl, ho0, hb⟩; refine ⟨_, rfl, ?_⟩; have HO180 := am (Kd.R_lower ho0 (below_size pB)); replace BK175 := bb BK175 hb; replace HB := bS hb; (try clear hb); (try clear hb2); (try clear hk); (try clear hi); (try clear ho0)))
      go_ret
      exact ⟨pE, pB⟩
     ·replace c16 := Bool.eq_false_iff.mpr c16
      subst c16
      rw [if_neg (show ¬ (false = true) by decide)] at H
      obtain ⟨t181, A19, H⟩ := ob H
      by_cases c20 : t181 > 300
      ·rw [if_pos c20] at H
       have c20b0 : decide (300 < t181) = true := decide_eq_true c20
       clear c20
       obtain rfl := Option.some.inj H
       obtain ⟨hcz21_0, hcz21_1, hcz21_2, hfz21_0, hfz21_1, hfz21_2⟩ := cEc BK175.out
       go_wp2_with (first | (refine gL (some 29) Tryz.func109 #[.slice A0_1 l0_1.length c0_1] (h := ?_); (with_reducible refine (dec_ten.calls kj1 _ _ l0_1 t177 false _ ?side1 ?side2 A15.out).mono ?_); (case side1 => refine cp ?_; exact (Kd.C_below HR0_1.out HB.out)); (case side2 => exact HC0_1.out); rintro e w22 ⟨v179, rfl, ho0, hb⟩; refine ⟨_, rfl, ?_⟩; have HO180 := am (Kd.R_lower ho0 (below_size pB)); replace BK175 := bb BK175 hb; replace HB := bS hb; (try clear hb); (try clear hb2); (try clear hk); (try clear hi); (try clear ho0); obtain ⟨hcz23_0, hcz23_1, hcz23_2, hfz23_0, hfz23_1, hfz23_2⟩ := cEc BK175.out) | (go_at_call 110; (with_reducible refine (dec_digits.calls kj1 _ _ l0_1 t181 _ ?side1 ?side2 A19.out).mono ?_); (case side1 => refine cp ?_; exact (Kd.C_below HR0_1.out HB.out)); (case side2 => exact HC0_1.out); rintro e w24 ⟨rfl, hb⟩; replace HO180 := rbl HO180 hb; replace BK175 := bb BK175 hb; replace HB := bS hb; (try clear hb); (try clear hb2); (try clear hk); (try clear hi)))
       go_ret
       exact ⟨pE, pB⟩
      ·rw [if_neg c20] at H
       have c20b0 : decide (300 < t181) = false := decide_eq_false c20
       clear c20
       by_cases c25 : a0_2 < (-1000)
       ·rw [if_pos c25] at H
        have c25b0 : decide (a0_2 < (-1000)) = true := decide_eq_true c25
        clear c25
        obtain rfl := Option.some.inj H
        obtain ⟨hcz26_0, hcz26_1, hcz26_2, hfz26_0, hfz26_1, hfz26_2⟩ := cEc BK175.out
        go_wp2_with (first | (refine gL (some 29) Tryz.func109 #[.slice A0_1 l0_1.length c0_1] (h := ?_); (with_reducible refine (dec_ten.calls kj1 _ _ l0_1 t177 false _ ?side1 ?side2 A15.out).mono ?_); (case side1 => refine cp ?_; exact (Kd.C_below HR0_1.out HB.out)); (case side2 => exact HC0_1.out); rintro e w27 ⟨v179, rfl, ho0, hb⟩; refine ⟨_, rfl, ?_⟩; have HO180 := am (Kd.R_lower ho0 (below_size pB)); replace BK175 := bb BK175 hb; replace HB := bS hb; (try clear hb); (try clear hb2); (try clear hk); (try clear hi); (try clear ho0); obtain ⟨hcz28_0, hcz28_1, hcz28_2, hfz28_0, hfz28_1, hfz28_2⟩ := cEc BK175.out) | (go_at_call 110; (with_reducible refine (dec_digits.calls kj1 _ _ l0_1 t181 _ ?side1 ?side2 A19.out).mono ?_); (case side1 => refine cp ?_; exact (Kd.C_below HR0_1.out HB.out)); (case side2 => exact HC0_1.out); rintro e w29 ⟨rfl, hb⟩; replace HO180 := rbl HO180 hb; replace BK175 := bb BK175 hb; replace HB := bS hb; (try clear hb); (try clear hb2); (try clear hk); (try clear hi); obtain ⟨hcz30_0, hcz30_1, hcz30_2, hfz30_0, hfz30_1, hfz30_2⟩ := cEc BK175.out))
        go_ret
        exact ⟨pE, pB⟩
       ·rw [if_neg c25] at H
        have c25b0 : decide (a0_2 < (-1000)) = false := decide_eq_false c25
        clear c25
        by_cases c31 : a0_2 > 1000
        ·rw [if_pos c31] at H
         have c31b0 : decide (1000 < a0_2) = true := decide_eq_true c31
         clear c31
         obtain rfl := Option.some.inj H
         obtain ⟨hcz32_0, hcz32_1, hcz32_2, hfz32_0, hfz32_1, hfz32_2⟩ := cEc BK175.out
         go_wp2_with (first | (refine gL (some 29) Tryz.func109 #[.slice A0_1 l0_1.length c0_1] (h := ?_); (with_reducible refine (dec_ten.calls kj1 _ _ l0_1 t177 false _ ?side1 ?side2 A15.out).mono ?_); (case side1 => refine cp ?_; exact (Kd.C_below HR0_1.out HB.out)); (case side2 => exact HC0_1.out); rintro e w33 ⟨v179, rfl, ho0, hb⟩; refine ⟨_, rfl, ?_⟩; have HO180 := am (Kd.R_lower ho0 (below_size pB)); replace BK175 := bb BK175 hb; replace HB := bS hb; (try clear hb); (try clear hb2); (try clear hk); (try clear hi); (try clear ho0); obtain ⟨hcz34_0, hcz34_1, hcz34_2, hfz34_0, hfz34_1, hfz34_2⟩ := cEc BK175.out) | (go_at_call 110; (with_reducible refine (dec_digits.calls kj1 _ _ l0_1 t181 _ ?side1 ?side2 A19.out).mono ?_); (case side1 => refine cp ?_; exact (Kd.C_below HR0_1.out HB.out)); (case side2 => exact HC0_1.out); rintro e w35 ⟨rfl, hb⟩; replace HO180 := rbl HO180 hb; replace BK175 := bb BK175 hb; replace HB := bS hb; (try clear hb); (try clear hb2); (try clear hk); (try clear hi); obtain ⟨hcz36_0, hcz36_1, hcz36_2, hfz36_0, hfz36_1, hfz36_2⟩ := cEc BK175.out))
         go_ret
         exact ⟨pE, pB⟩
        ·rw [if_neg c31] at H
         have c31b0 : decide (1000 < a0_2) = false := decide_eq_false c31
         clear c31
         obtain rfl := Option.some.inj H
         obtain ⟨hcz37_0, hcz37_1, hcz37_2, hfz37_0, hfz37_1, hfz37_2⟩ := cEc BK175.out
         go_wp2_with (first | (refine gL (some 29) Tryz.func109 #[.slice A0_1 l0_1.length c0_1] (h := ?_); (with_reducible refine (dec_ten.calls kj1 _ _ l0_1 t177 false _ ?side1 ?side2 A15.out).mono ?_); (case side1 => refine cp ?_; exact (Kd.C_below HR0_1.out HB.out)); (case side2 => exact HC0_1.out); rintro e w38 ⟨v179, rfl, ho0, hb⟩; refine ⟨_, rfl, ?_⟩; have HO180 := am (Kd.R_lower ho0 (below_size pB)); replace BK175 := bb BK175 hb; replace HB := bS hb; (try clear hb); (try clear hb2); (try clear hk); (try clear hi); (try clear ho0); obtain ⟨hcz39_0, hcz39_1, hcz39_2, hfz39_0, hfz39_1, hfz39_2⟩ := cEc BK175.out) | (go_at_call 110; (with_reducible refine (dec_digits.calls kj1 _ _ l0_1 t181 _ ?side1 ?side2 A19.out).mono ?_); (case side1 => refine cp ?_; exact (Kd.C_below HR0_1.out HB.out)); (case side2 => exact HC0_1.out); rintro e w40 ⟨rfl, hb⟩; replace HO180 := rbl HO180 hb; replace BK175 := bb BK175 hb; replace HB := bS hb; (try clear hb); (try clear hb2); (try clear hk); (try clear hi); obtain ⟨hcz41_0, hcz41_1, hcz41_2, hfz41_0, hfz41_1, hfz41_2⟩ := cEc BK175.out))
         go_ret
         exact ⟨pE, pB⟩
def quot_ask_1.f (k : Nat) (a0_0 : Bool) (l0_1 : List Int) (a0_2 : Int) : Option (Bool) := (dec_Check.f k a0_0 l0_1 a0_2).bind fun t185 => (some (t185 != 0))
theorem quot_ask_1.calls (k : Nat) (a0_0 : Bool) (A0_1 : Option Addr) (c0_1 : Nat) (l0_1 : List Int) (a0_2 : Int) (r : Bool) (w : World) (hr0_1 : Kd.C (Kd.int .u32) w A0_1 l0_1.length l0_1) (hc0_1 : l0_1.length <= c0_1) (h : quot_ask_1.f k a0_0 l0_1 a0_2 = some r) :
  Calls Tryz.prog 124 #[.agg #[.bool a0_0, .slice A0_1 l0_1.length c0_1, .int .i64 a0_2]] w fun e w' => e = .returned (.bool r) /\ Below w.heap.size w w' := by
 have hu24 := Tryz.underlying24
 have HR0_1 := am hr0_1
 have HC0_1 := am hc0_1
 clear hr0_1 hc0_1
 have HB := am (Below.refl w.heap.size w)
 have H : ((dec_Check.f k a0_0 l0_1 a0_2).bind fun t185 => (some (t185 != 0))) = some r := h
 clear h
 obtain ⟨t185, A2, H⟩ := ob H
 obtain rfl := Option.some.inj H
 go_enter Tryz.func124, Tryz.ntmps124
 go_wp2_with (first | ((with_reducible refine gd 1 ?_); refine bx 1 #[.bool a0_0, .slice A0_1 l0_1.length c0_1, .int .i64 a0_2] 24 (h := ?_); intro gb184 hg w3 hbox hb; have BK184 := am hbox; have GW184 := gW hg; have GE184 := gW hg; replace HB := bS hb; clear hb hbox hg; obtain ⟨hcz4_0, hcz4_1, hcz4_2, hfz4_0, hfz4_1, hfz4_2⟩ := cEc BK184.out) | (refine gL (some 4) Tryz.func55 #[.agg #[.bool a0_0, .slice A0_1 l0_1.length c0_1, .int .i64 a0_2]] (h := ?_); (with_reducible refine (dec_Check.calls k a0_0 _ _ l0_1 a0_2 t185 _ ?side1 ?side2 A2.out).mono ?_); (case side1 => refine cp ?_; exact (Kd.C_below HR0_1.out HB.out)); (case side2 => exact HC0_1.out); rintro e w5 ⟨rfl, hb⟩; refine ⟨_, rfl, ?_⟩; replace BK184 := bb BK184 hb; replace HB := bS hb; (try clear hb); (try clear hb2); (try clear hk); (try clear hi)))
 go_ret
 exact ⟨pE, pB⟩
end YtjbjkmccfocikaaGreatDoor.B
end
section
namespace YtjbjkmccfocikaaGreatDoor.B
open Go.RowKit YtjbjkmccfocikaaGreatDoorW.PrintWords YtjbjkmccfocikaaGreatDoor.P
def quot_ask_any.f (k : Nat) (l : List S24) : Option Bool := anyO (fun x => quot_ask_1.f k x.f0 x.f1 x.f2) l
theorem quot_ask_any.index (k : Nat) (A0 : Option Addr) (c0 : Nat) (l0 : List S24) (b : Bool) (w : World) (hr0 : Kd.C k24 w A0 l0.length l0) (hc0 : l0.length <= c0) (h : quot_ask_any.f k l0 = some b) :
  Calls Tryz.prog 154 #[.slice A0 l0.length c0, .func (.func 124) #[] #[]] w fun e w' => IdxR b e /\ Below w.heap.size w w' := by
 have hm : l0.length <= 9223372036854775807 := Kd.C_max hr0
 have HR := Aside0.mk hr0
 have HC := Aside0.mk hc0
 unfold quot_ask_any.f at h
 have H0 := Aside0.mk h
 obtain ⟨n, hn⟩ : ∃ n, l0.length = n := ⟨_, rfl⟩
 rw [hn] at hm
 have HN := Aside0.mk hn
 clear h hr0 hc0
 rw [hn]
 clear hn
 go_enter Tryz.func154, Tryz.ntmps154
 go_wp2
 go_loopw [8] (fun i wr => ∃ k_ : Nat, k_ <= n /\ i = .int .i64 k_ /\ Aside0 (anyO (fun x => quot_ask_1.f k x.f0 x.f1 x.f2) (l0.drop k_) = some b) /\ Below w.heap.size w wr) (fun i _ => n - (intOf i).toNat)
 case atStart => exact ⟨0, Nat.zero_le _, rfl, ⟨H0.out⟩, Below.refl _ _⟩
 case round =>
  obtain ⟨q, hq, rfl, HP, hb⟩ := hrel
  by_cases hlt : q < n
  ·have hlt' : (q : Int) < (n : Int) := by omega
   have hdrop : l0.drop q = (l0.getD q z24) :: l0.drop (q + 1) := drop_any (by have := HN.out; omega)
   obtain ⟨x, hx⟩ : ∃ x, l0.getD q z24 = x := ⟨_, rfl⟩
   have h1 := HP.out
   rw [hdrop, hx] at h1
   obtain ⟨t, ht, h2⟩ := anyO_cons h1
   obtain ⟨ad, c, hA, _, hK, hcc⟩ := Kd.C_get HR.out z24 (q : Int) (by omega) (by have := HN.out; omega)
   have hx' : l0.getD (q : Int).toNat z24 = x := by rw [Int.toNat_natCast]; exact hx
   rw [hx'] at hK
   obtain ⟨A1, c1, rfl, hl1, hg1⟩ := k24_open hK
   have hcell0 := hcc 0 _ rfl
   have hcell1 := hcc 1 _ rfl
   have hcell2 := hcc 2 _ rfl
   obtain ⟨ad', c', hA', _, hK', hcc'⟩ := Kd.C_get HR.out z24 (0 : Int) (by omega) (by have := HN.out; omega)
   obtain ⟨_, _, rfl, _⟩ := k24_open hK'
   have hfirst := hcc' 0 _ rfl
   obtain rfl : ad = ad' := Option.some.inj (hA.symm.trans hA')
   subst hA
   obtain ⟨b_, o_, rfl⟩ := addr_any (show w.cell? ad = _ from hfirst)
   have hck0 : wr.cell? ⟨b_, o_ + q * 3, none⟩ = some (.bool x.f0) := by
    have h3 := pw_cell_below hb hcell0
    rw [add_any] at h3
    simpa [show k24.sz = 3 from rfl, Nat.add_assoc] using h3
   have hck1 : wr.cell? ⟨b_, o_ + q * 3 + 1, none⟩ = some (.slice A1 x.f1.length c1) := by
    have h3 := pw_cell_below hb hcell1
    rw [add_any] at h3
    simpa [show k24.sz = 3 from rfl, Nat.add_assoc] using h3
   have hck2 : wr.cell? ⟨b_, o_ + q * 3 + 2, none⟩ = some (.int .i64 x.f2) := by
    have h3 := pw_cell_below hb hcell2
    rw [add_any] at h3
    simpa [show k24.sz = 3 from rfl, Nat.add_assoc] using h3
   have hgw : Kd.C (Kd.int .u32) wr A1 x.f1.length x.f1 := Kd.C_below hg1 hb
   have cF := quot_ask_1.calls k x.f0 A1 c1 x.f1 x.f2 t wr hgw hl1 ht
   obtain ⟨y0, hy0⟩ : ∃ y, x.f0 = y := ⟨_, rfl⟩
   obtain ⟨y1, hy1⟩ : ∃ y, x.f1.length = y := ⟨_, rfl⟩
   obtain ⟨y2, hy2⟩ : ∃ y, x.f2 = y := ⟨_, rfl⟩
   rw [hy0] at hck0 cF
   rw [hy1] at hck1 cF
   rw [hy2] at hck2 cF
   have HF := Aside0.mk h2
   clear h1 hdrop hx hx' ht hcc hcell0 hcell1 hcell2 HP h2 hK hl1 hg1 hgw hy0 hy1 hy2 hfirst hcc' hA' hK'
   cases t with
   | true =>
    have HF1 := Aside0.mk (HF.out.1 rfl)
    clear HF
    go_wp2_with (go_at_call 124; refine (cF).mono ?_; rintro e w1 ⟨rfl, hb1⟩)
    go_ret
    exact ⟨idxR_at HF1.out q, hb.trans (hb1.mono hb.size)⟩
   | false =>
    have HF1 := Aside0.mk (HF.out.2 rfl)
    clear HF
    go_wp2_with (go_at_call 124; refine (cF).mono ?_; rintro e w1 ⟨rfl, hb1⟩)
    go_roundw
    case rel => exact ⟨q + 1, by omega, by go_num, HF1, hb.trans (hb1.mono hb.size)⟩
    case measure => simp [intOf]; omega
  ·obtain rfl : q = n := by omega
   have h1 := HP.out
   rw [List.drop_of_length_le (by have := HN.out; omega)] at h1
   have h2 := Aside0.mk (anyO_nil h1)
   clear h1
   go_wp2
   go_ret
   exact ⟨idxR_none h2.out, hb⟩
theorem quot_ask_any.calls (k : Nat) (A0 : Option Addr) (c0 : Nat) (l0 : List S24) (r : Bool) (w : World) (hr0 : Kd.C k24 w A0 l0.length l0) (hc0 : l0.length <= c0) (h : quot_ask_any.f k l0 = some r) :
  Calls Tryz.prog 123 #[.slice A0 l0.length c0, .func (.func 124) #[] #[]] w fun e w' => e = .returned (.bool r) /\ Below w.heap.size w w' := by
 have cI := quot_ask_any.index k A0 c0 l0 r w hr0 hc0 h
 clear h hr0 hc0
 go_enter Tryz.func123, Tryz.ntmps123
 go_wp2_with (go_at_call 154; refine cI.mono ?_; rintro e w1 ⟨⟨i, rfl, hi⟩, hb1⟩)
 go_ret
 exact ⟨by rw [<- hi]; first | rfl | simp, hb1⟩
end YtjbjkmccfocikaaGreatDoor.B
end
section
namespace YtjbjkmccfocikaaGreatDoor.B
open Go.RowKit YtjbjkmccfocikaaGreatDoorW.PrintWords YtjbjkmccfocikaaGreatDoorW.PrintLast YtjbjkmccfocikaaGreatDoorW.PrintMore
attribute [local go_sem] max2_int min2_int max_two min_two max_three min_three max_four min_four
def dec_number_zero.f (a0_0 : Bool) (l0_1 : List Int) (a0_2 : Int) : Option (Bool) := some ((l0_1.length : Int) == 0)
theorem dec_number_zero.calls (a0_0 : Bool) (A0_1 : Option Addr) (c0_1 : Nat) (l0_1 : List Int) (a0_2 : Int) (r : Bool) (w : World) (hr0_1 : Kd.C (Kd.int .u32) w A0_1 l0_1.length l0_1) (hc0_1 : l0_1.length <= c0_1) (h : dec_number_zero.f a0_0 l0_1 a0_2 = some r) :
  Calls Tryz.prog 104 #[.agg #[.bool a0_0, .slice A0_1 l0_1.length c0_1, .int .i64 a0_2]] w fun e w' => e = .returned (.bool r) /\ Below w.heap.size w w' := by
 have hu106 := Tryz.underlying106
 have HR0_1 := am hr0_1
 have HC0_1 := am hc0_1
 clear hr0_1 hc0_1
 have HB := am (Below.refl w.heap.size w)
 have H : (some ((l0_1.length : Int) == 0)) = some r := h
 clear h
 obtain rfl := Option.some.inj H
 go_enter Tryz.func104, Tryz.ntmps104
 go_wp2_with (first | ((with_reducible refine gd 1 ?_); refine bx 1 #[.bool a0_0, .slice A0_1 l0_1.length c0_1, .int .i64 a0_2] 106 (h := ?_); intro gb186 hg w2 hbox hb; have BK186 := am hbox; have GW186 := gW hg; have GE186 := gW hg; replace HB := bS hb; clear hb hbox hg; obtain ⟨hcz3_0, hcz3_1, hcz3_2, hfz3_0, hfz3_1, hfz3_2⟩ := cEc BK186.out))
 go_ret
 exact ⟨pE, pB⟩
def dec_must.f (l0 : List Int) (a1 : Int) : Option (List Int) := some l0
theorem dec_must.calls (P0_ : Nat -> Prop) (u9000_ : Value) (l0 : List Int) (a1 : Int) (r : List Int) (w0 w : World) (hB : Below w0.heap.size w0 w) (ho0 : Kd.R (Kd.int .u32) 85 w w0.heap.size P0_ u9000_ l0) (h : dec_must.f l0 a1 = some r) :
  Calls Tryz.prog 105 #[u9000_, .int .i64 a1] w fun e w' => ∃ v0_ : Value, e = .returned (v0_) /\ Kd.R (Kd.int .u32) 85 w' w0.heap.size (fun k_ => (P0_ k_ \/ w.heap.size <= k_)) v0_ r /\ Below w0.heap.size w0 w' /\ Kept w w' (fun k_ => P0_ k_) := by
 have HO0 := am (show Kd.R (Kd.int .u32) 85 w w0.heap.size (fun k_ => (P0_ k_ \/ w.heap.size <= k_)) u9000_ l0 from Kd.R_mono ho0 (fun k_ hk => (.inl hk)))
 have HK := am (Kept.refl w (fun k_ => P0_ k_))
 have HW0 := am hB.size
 have HB := am hB
 clear hB
 have H : (some l0) = some r := h
 clear h
 obtain rfl := Option.some.inj H
 go_enter Tryz.func105, Tryz.ntmps105
 go_wp2
 go_ret
 exact ⟨_, pE, by refine rp ?_; exact HO0.out, pB, by repeat (first | (with_reducible first | exact HK.out | apply Kept.alloc | apply Kept.drewN | apply Kept.drew) | exact HK.out)⟩
def dec_must2.f (a0 : ByteArray) (a1 : Int) : Option (ByteArray) := some a0
theorem dec_must2.calls (a0 : ByteArray) (a1 : Int) (r : ByteArray) (w : World) (h : dec_must2.f a0 a1 = some r) :
  Calls Tryz.prog 111 #[.string a0, .int .i64 a1] w fun e w' => e = .returned (.string r) /\ Drawn0 w w' := by
 have H : (some a0) = some r := h
 clear h
 obtain rfl := Option.some.inj H
 go_enter Tryz.func111, Tryz.ntmps111
 go_wp2
 go_ret
 exact ⟨pR, pD⟩
def nat_piece.l0 : Nat -> Int -> List Int -> Int -> Int -> Option (Int)
 | 0, _, _, _, _ => none
 | k + 1, x3, x7, x8, x9 => if x9 < x8 then (if 0 <= x9 then (if x9 < (x7.length : Int) then (nat_piece.l0 k ((((x3 * 10) % 4294967296) + (((rd x7 x9) - 48) % 256)) % 4294967296) x7 x8 (wrap64 (x9 + 1))) else (none)) else (none)) else (some x3)
def nat_piece.f (k : Nat) (a0 : ByteArray) : Option (Int) := (conv_bytes146.f a0).bind fun t240 => (nat_piece.l0 k 0 t240 (t240.length : Int) 0)
theorem nat_piece.calls (k : Nat) (a0 : ByteArray) (r : Int) (w : World) (h : nat_piece.f k a0 = some r) :
  Calls Tryz.prog 152 #[.string a0] w fun e w' => e = .returned (.int .u32 r) /\ Below w.heap.size w w' := by
 have HB := am (Below.refl w.heap.size w)
 have H : ((conv_bytes146.f a0).bind fun t240 => (nat_piece.l0 k 0 t240 (t240.length : Int) 0)) = some r := h
 clear h
 obtain ⟨t240, A2, H⟩ := ob H
 have H' := am H
 clear H
 go_enter Tryz.func152, Tryz.ntmps152
 go_wp2_with (first | ((with_reducible refine gd 7 ?_); refine conv_bytes146.op _ _ _ rfl rfl rfl A2.out ?_; intro v241 w3 ho0 hb; have HO242 := am (Kd.V_lower (Kd.V_mono (ok' := fun k_ => True) ho0 (fun k_ hk_ => trivial)) (below_size pB)); replace HB := bS hb; (try clear hb); (try clear hb2); (try clear hk); (try clear hi); (try clear ho0); obtain ⟨Ao4, co4, eo4⟩ := Kd.V_slice HO242.out; subst eo4))
 go_loopg [3, 9] k (fun kq v3 v9 w' => ∃ (x3_1 : Int) (x9_1 : Int), v3 = .int .u32 x3_1 /\ v9 = .int .i64 x9_1 /\ Aside0 (nat_piece.l0 kq x3_1 t240 (t240.length : Int) x9_1 = some r) /\ Aside0 (kq <= k) /\ Aside0 (Kd.V (Kd.int .u8) 5 w' w.heap.size (fun _ => True) (.slice Ao4 t240.length co4) t240) /\ Aside0 (Below w.heap.size w w'))
 case atStart => exact ⟨(0), (0), pR, pR, H', ⟨Nat.le_refl _⟩, ⟨by refine vp ?_; exact HO242.out⟩, ⟨pB⟩⟩
 case round =>
  clear H'
  obtain ⟨x3_1, x9_1, rfl, rfl, HA, HK1, HO_7, HB⟩ := hrel
  cases gk with
  | zero => exact absurd HA.out (by simp [nat_piece.l0])
  | succ k1 =>
   have H := HA.out
   clear HA
   simp only [nat_piece.l0] at H
   by_cases c5 : x9_1 < (t240.length : Int)
   ·rw [if_pos c5] at H
    have c5b0 : decide (x9_1 < (t240.length : Int)) = true := decide_eq_true c5
    clear c5
    by_cases c6 : 0 <= x9_1
    ·rw [if_pos c6] at H
     have c6b0 : decide (0 <= x9_1) = true := decide_eq_true c6
     clear c6
     by_cases c7 : x9_1 < (t240.length : Int)
     ·rw [if_pos c7] at H
      have c7b0 : decide (x9_1 < (t240.length : Int)) = true := decide_eq_true c7
      clear c7
      have H' := am H
      clear H
      have p243 : 0 <= (x9_1 : Int) := of_decide_eq_true pQ
      have q243 : x9_1 < (t240.length : Int) := of_decide_eq_true pQ
      obtain ⟨ad243, e243, hx243_0⟩ := Kd.at_int (Kd.V_reads' HO_7.out).2.2 x9_1 p243 q243
      cases e243
      replace p243 := eq_true p243
      replace q243 := eq_true q243
      go_wp2
      go_roundg k1
      case measure => have := HK1.out; omega
      case rel => exact ⟨((((x3_1 * 10) % 4294967296) + (((rd t240 x9_1) - 48) % 256)) % 4294967296), (wrap64 (x9_1 + 1)), pR, pR, H', ⟨by have := HK1.out; omega⟩, ⟨by refine vp ?_; exact HO_7.out⟩, ⟨pB⟩⟩
     ·rw [if_neg c7] at H
      exact absurd H (by simp)
    ·rw [if_neg c6] at H
     exact absurd H (by simp)
   ·rw [if_neg c5] at H
    have c5b0 : decide (x9_1 < (t240.length : Int)) = false := decide_eq_false c5
    clear c5
    obtain rfl := Option.some.inj H
    go_wp2
    go_ret
    exact ⟨pE, pB⟩
def nat_Parse_1.f (a0 : Int) : Option (Bool) := if a0 < 48 then (some true) else (some (decide (a0 > 57)))
theorem nat_Parse_1.calls (a0 : Int) (r : Bool) (w : World) (h : nat_Parse_1.f a0 = some r) :
  Calls Tryz.prog 151 #[.int .u8 a0] w fun e w' => e = .returned (.bool r) /\ Drawn0 w w' := by
 have H : (if a0 < 48 then (some true) else (some (decide (a0 > 57)))) = some r := h
 clear h
 by_cases c2 : a0 < 48
 ·rw [if_pos c2] at H
  have c2b0 : decide (a0 < 48) = true := decide_eq_true c2
  clear c2
  obtain rfl := Option.some.inj H
  go_enter Tryz.func151, Tryz.ntmps151
  go_wp2
  go_ret
  exact ⟨pR, pD⟩
 ·rw [if_neg c2] at H
  have c2b0 : decide (a0 < 48) = false := decide_eq_false c2
  clear c2
  obtain rfl := Option.some.inj H
  go_enter Tryz.func151, Tryz.ntmps151
  go_wp2
  go_ret
  exact ⟨pR, pD⟩
end YtjbjkmccfocikaaGreatDoor.B
end
section
namespace YtjbjkmccfocikaaGreatDoor.B
open Go.RowKit YtjbjkmccfocikaaGreatDoorW.PrintWords YtjbjkmccfocikaaGreatDoor.P
def nat_Parse_any.f (l : List Int) : Option Bool := anyO (fun x => nat_Parse_1.f x) l
theorem nat_Parse_any.index (A0 : Option Addr) (c0 : Nat) (l0 : List Int) (b : Bool) (w : World) (hr0 : Kd.C (Kd.int .u8) w A0 l0.length l0) (hc0 : l0.length <= c0) (h : nat_Parse_any.f l0 = some b) :
  Calls Tryz.prog 182 #[.slice A0 l0.length c0, .func (.func 151) #[] #[]] w fun e w' => IdxR b e /\ Below w.heap.size w w' := by
 have hm : l0.length <= 9223372036854775807 := Kd.C_max hr0
 have HR := Aside0.mk hr0
 have HC := Aside0.mk hc0
 unfold nat_Parse_any.f at h
 have H0 := Aside0.mk h
 obtain ⟨n, hn⟩ : ∃ n, l0.length = n := ⟨_, rfl⟩
 rw [hn] at hm
 have HN := Aside0.mk hn
 clear h hr0 hc0
 rw [hn]
 clear hn
 go_enter Tryz.func182, Tryz.ntmps182
 go_wp2
 go_loopw [8] (fun i wr => ∃ k_ : Nat, k_ <= n /\ i = .int .i64 k_ /\ Aside0 (anyO (fun x => nat_Parse_1.f x) (l0.drop k_) = some b) /\ Below w.heap.size w wr) (fun i _ => n - (intOf i).toNat)
 case atStart => exact ⟨0, Nat.zero_le _, rfl, ⟨H0.out⟩, Below.refl _ _⟩
 case round =>
  obtain ⟨q, hq, rfl, HP, hb⟩ := hrel
  by_cases hlt : q < n
  ·have hlt' : (q : Int) < (n : Int) := by omega
   have hdrop : l0.drop q = (l0.getD q (0 : Int)) :: l0.drop (q + 1) := drop_any (by have := HN.out; omega)
   obtain ⟨x, hx⟩ : ∃ x, l0.getD q (0 : Int) = x := ⟨_, rfl⟩
   have h1 := HP.out
   rw [hdrop, hx] at h1
   obtain ⟨t, ht, h2⟩ := anyO_cons h1
   obtain ⟨ad, c, hA, _, hK, hcc⟩ := Kd.C_get HR.out (0 : Int) (q : Int) (by omega) (by have := HN.out; omega)
   have hx' : l0.getD (q : Int).toNat 0 = x := by rw [Int.toNat_natCast]; exact hx
   obtain rfl : c = [.int .u8 (l0.getD (q : Int).toNat 0)] := hK
   rw [hx'] at hcc
   have hcell0 := hcc 0 _ rfl
   obtain ⟨ad', c', hA', _, hK', hcc'⟩ := Kd.C_get HR.out (0 : Int) (0 : Int) (by omega) (by have := HN.out; omega)
   obtain rfl : c' = [.int .u8 (l0.getD (0 : Int).toNat 0)] := hK'
   have hfirst := hcc' 0 _ rfl
   obtain rfl : ad = ad' := Option.some.inj (hA.symm.trans hA')
   subst hA
   obtain ⟨b_, o_, rfl⟩ := addr_any (show w.cell? ad = _ from hfirst)
   have hck : wr.cell? ⟨b_, o_ + q, none⟩ = some (.int .u8 x) := by
    have h3 := pw_cell_below hb hcell0
    rw [add_any] at h3
    simpa [show (Kd.int .u8).sz = 1 from rfl] using h3
   have cF := fun W : World => nat_Parse_1.calls x t W ht
   have HF := Aside0.mk h2
   clear h1 hdrop hx hx' ht hcc hcell0 HP h2 hfirst hcc' hA'
   cases t with
   | true =>
    have HF1 := Aside0.mk (HF.out.1 rfl)
    clear HF
    go_wp2_with (go_at_call 151; refine (cF _).mono ?_; rintro e w1 ⟨rfl, hb1⟩)
    go_ret
    exact ⟨idxR_at HF1.out q, hb.trans (hb1.below.mono hb.size)⟩
   | false =>
    have HF1 := Aside0.mk (HF.out.2 rfl)
    clear HF
    go_wp2_with (go_at_call 151; refine (cF _).mono ?_; rintro e w1 ⟨rfl, hb1⟩)
    go_roundw
    case rel => exact ⟨q + 1, by omega, by go_num, HF1, hb.trans (hb1.below.mono hb.size)⟩
    case measure => simp [intOf]; omega
  ·obtain rfl : q = n := by omega
   have h1 := HP.out
   rw [List.drop_of_length_le (by have := HN.out; omega)] at h1
   have h2 := Aside0.mk (anyO_nil h1)
   clear h1
   go_wp2
   go_ret
   exact ⟨idxR_none h2.out, hb⟩
theorem nat_Parse_any.calls (A0 : Option Addr) (c0 : Nat) (l0 : List Int) (r : Bool) (w : World) (hr0 : Kd.C (Kd.int .u8) w A0 l0.length l0) (hc0 : l0.length <= c0) (h : nat_Parse_any.f l0 = some r) :
  Calls Tryz.prog 150 #[.slice A0 l0.length c0, .func (.func 151) #[] #[]] w fun e w' => e = .returned (.bool r) /\ Below w.heap.size w w' := by
 have cI := nat_Parse_any.index A0 c0 l0 r w hr0 hc0 h
 clear h hr0 hc0
 go_enter Tryz.func150, Tryz.ntmps150
 go_wp2_with (go_at_call 182; refine cI.mono ?_; rintro e w1 ⟨⟨i, rfl, hi⟩, hb1⟩)
 go_ret
 exact ⟨by rw [<- hi]; first | rfl | simp, hb1⟩
end YtjbjkmccfocikaaGreatDoor.B
end
section
namespace YtjbjkmccfocikaaGreatDoor.B
open Go.RowKit YtjbjkmccfocikaaGreatDoorW.PrintWords YtjbjkmccfocikaaGreatDoorW.PrintLast YtjbjkmccfocikaaGreatDoorW.PrintMore
attribute [local go_sem] max2_int min2_int max_two min_two max_three min_three max_four min_four
def nat_Parse.l0 : Nat -> ByteArray -> List Int -> Option (List Int × Int)
 | 0, _, _ => none
 | k + 1, x0, x4 => if x0.toList = ([] : List UInt8) then (some (x4, 0)) else ((nat_num_mul.f k x4 (([1000000000] : List Int))).bind fun t251 => (if 0 <= (wrap64 ((Int.tmod (wrap64 ((x0.size : Int) - 1)) 9) + 1)) then (if (wrap64 ((Int.tmod (wrap64 ((x0.size : Int) - 1)) 9) + 1)) <= (x0.size : Int) then ((nat_piece.f k (x0.extract 0 ((wrap64 ((Int.tmod (wrap64 ((x0.size : Int) - 1)) 9) + 1)) : Int).toNat)).bind fun t254 => ((nat_num_trim.f k (([t254] : List Int))).bind fun t258 => ((nat_num_add.f k t251 t258).bind fun t261 => (nat_Parse.l0 k (x0.extract ((wrap64 ((Int.tmod (wrap64 ((x0.size : Int) - 1)) 9) + 1)) : Int).toNat x0.size) t261)))) else (none)) else (none)))
def nat_Parse.f (k : Nat) (a0 : ByteArray) : Option (List Int × Int) := if (a0.size : Int) = 0 then (some (([] : List Int), 8)) else (if (a0.size : Int) > 2400 then (some (([] : List Int), 5)) else ((conv_bytes146.f a0).bind fun t244 => ((nat_Parse_any.f t244).bind fun t247 => (if t247 = true then (some (([] : List Int), 32)) else (nat_Parse.l0 k a0 ([] : List Int))))))
def nat_Parse.T10 : Bool × List (List Nat × List Nat) := (true, [([], []), ([], []), ([0, 1], [0, 1]), ([], []), ([], []), ([3, 4], [3, 4]), ([5, 2], [5]), ([6], [6]), ([7, 6], [7]), ([2, 8, 8], [2, 8]), ([9, 9, 0, 1, 2, 3, 4, 5, 6, 7, 8, 9], [0, 9])])
def nat_Parse.B10 : List Nat := [0, 0, 3, 0, 0, 24, 63, 127, 255, 511, 1023]
theorem nat_Parse.tab10 : rtab .any (opsOf Tryz.f116 10) = nat_Parse.T10 := by kernel_rfl
theorem nat_Parse.bits10 : waitsOk nat_Parse.T10.2 nat_Parse.B10 = true := by kernel_rfl
theorem nat_Parse.leaf {P : Prop} (h : P := by
 go_enter Tryz.func116, Tryz.ntmps116
 go_wp2_with (first | ((with_reducible refine gd 16 ?_); refine conv_bytes146.op _ _ _ rfl rfl rfl A4.out ?_; intro v0z w1z ho2z hb; have HO3z := am (Kd.V_lower (Kd.V_mono (ok' := fun k_ => True) ho2z (fun k_ hk_ => trivial)) (below_size pB)); replace HB := bS hb; (try clear hb); (try clear hb4z); (try clear hk); (try clear hi); (try clear ho2z); obtain ⟨Ao5z, co6z, eo7z⟩ := Kd.V_slice HO3z.out; subst eo7z) | (refine gL (some 17) Tryz.func150 #[.slice Ao5z t244.length co6z, .func (.func 151) #[] #[]] (h := ?_); (with_reducible refine (nat_Parse_any.calls _ _ t244 true _ ?side1 ?side2 A5.out).mono ?_); (case side1 => exact Kd.C_below (Kd.V_reads' HO3z.out).2.2 pl); (case side2 => exact (Kd.V_reads' HO3z.out).2.1); rintro e w8z ⟨rfl, hb⟩; refine ⟨_, rfl, ?_⟩; replace HO3z := vbl HO3z hb; replace HB := bS hb; (try clear hb); (try clear hb4z); (try clear hk); (try clear hi)) | (refine gL (some 17) Tryz.func150 #[.slice Ao5z t244.length co6z, .func (.func 151) #[] #[]] (h := ?_); (with_reducible refine (nat_Parse_any.calls _ _ t244 false _ ?side1 ?side2 A5.out).mono ?_); (case side1 => exact Kd.C_below (Kd.V_reads' HO3z.out).2.2 pl); (case side2 => exact (Kd.V_reads' HO3z.out).2.1); rintro e w8z ⟨rfl, hb⟩; refine ⟨_, rfl, ?_⟩; replace HO3z := vbl HO3z hb; replace HB := bS hb; (try clear hb); (try clear hb4z); (try clear hk); (try clear hi)))
 first
  | have q_ := A5; have q_ : Aside0 (_ = some false) := A5
    go_loopg [0, 4] k (fun kq v9z v10z w' => ∃ (x11z : ByteArray) (x12z : List Int), v9z = .string x11z /\ Aside0 (nat_Parse.l0 kq x11z x12z = some (r1, r2)) /\ Aside0 (kq <= k) /\ Aside0 (Kd.R (Kd.int .u32) 85 w' w.heap.size (fun _ => True) v10z x12z) /\ Aside0 (Below w.heap.size w w'))
    case atStart => exact ⟨(a0), (([] : List Int)), pR, H', ⟨Nat.le_refl _⟩, ⟨pN⟩, ⟨pB⟩⟩
    case round =>
     clear H'
     (try clear c2); (try clear c2b0); (try clear c2b1); (try clear c3); (try clear c3b0); (try clear c3b1); (try clear c6)
     obtain ⟨x11z, x12z, rfl, HA, HK13z, HO_4, HB⟩ := hrel
     cases gk with
     | zero => exact absurd HA.out (by simp [nat_Parse.l0])
     | succ k1 =>
      have H := HA.out
      clear HA
      simp only [nat_Parse.l0] at H
      by_cases c14z : x11z.toList = ([] : List UInt8)
      ·rw [if_pos c14z] at H
       have c15z : (x11z.toList == ([] : List UInt8)) = true := beq_iff_eq.mpr c14z
       have c16z : (x11z.toList != ([] : List UInt8)) = false := bne_eq_false_iff_eq.mpr c14z
       clear c14z
       simp only [Option.some.injEq, Prod.mk.injEq] at H
       obtain ⟨rfl, rfl⟩ := H
       go_wp2
       go_ret2
       exact ⟨_, pE, by refine rp ?_; exact HO_4.out, pB⟩
      ·rw [if_neg c14z] at H
       have c15z : (x11z.toList == ([] : List UInt8)) = false := beq_eq_false_iff_ne.mpr c14z
       have c16z : (x11z.toList != ([] : List UInt8)) = true := bne_iff_ne.mpr c14z
       obtain ⟨y17z, hy18z⟩ : ∃ y_ : List Int, y_ = (([1000000000] : List Int)) := ⟨_, rfl⟩
       replace H : ((nat_num_mul.f k1 x12z y17z).bind fun t19z => (if 0 <= (wrap64 ((Int.tmod (wrap64 ((x11z.size : Int) - 1)) 9) + 1)) then (if (wrap64 ((Int.tmod (wrap64 ((x11z.size : Int) - 1)) 9) + 1)) <= (x11z.size : Int) then ((nat_piece.f k1 (x11z.extract 0 ((wrap64 ((Int.tmod (wrap64 ((x11z.size : Int) - 1)) 9) + 1)) : Int).toNat)).bind fun t20z => ((nat_num_trim.f k1 (([t20z] : List Int))).bind fun t21z => ((nat_num_add.f k1 t19z t21z).bind fun t22z => (nat_Parse.l0 k1 (x11z.extract ((wrap64 ((Int.tmod (wrap64 ((x11z.size : Int) - 1)) 9) + 1)) : Int).toNat x11z.size) t22z)))) else (none)) else (none))) = some (r1, r2) := by have hy_ := hy18z; exact pH
       have Ny23z := am hy18z
       clear hy18z
       obtain ⟨t19z, A24z, H⟩ := ob H
       obtain ⟨ji25z, hji26z⟩ : ∃ j_ : Int, (wrap64 ((Int.tmod (wrap64 ((x11z.size : Int) - 1)) 9) + 1)) = j_ := ⟨_, rfl⟩
       replace H : (if 0 <= (ji25z) then (if (ji25z) <= (x11z.size : Int) then ((nat_piece.f k1 (x11z.extract 0 ((ji25z) : Int).toNat)).bind fun t20z => ((nat_num_trim.f k1 (([t20z] : List Int))).bind fun t21z => ((nat_num_add.f k1 t19z t21z).bind fun t22z => (nat_Parse.l0 k1 (x11z.extract ((ji25z) : Int).toNat x11z.size) t22z)))) else (none)) else (none)) = some (r1, r2) := by first | (rw [hji26z] at H; exact H) | (simp only [hji26z] at H ⊢; exact H)
       (try rw [hji26z] at A24z)
       have hji27z : (IntKind.i64.wrap ((Int.tmod (wrap64 ((x11z.size : Int) - 1)) 9) + 1)) = ji25z := (i64_w _).trans hji26z
       by_cases c28z : 0 <= (ji25z)
       ·rw [if_pos c28z] at H
        have c29z := eq_true c28z
        have c30z : decide (0 <= (ji25z)) = true := decide_eq_true c28z
        clear c28z
        by_cases c31z : (ji25z) <= (x11z.size : Int)
        ·rw [if_pos c31z] at H
         have c32z := eq_true c31z
         have c33z : decide ((ji25z) <= (x11z.size : Int)) = true := decide_eq_true c31z
         clear c31z
         obtain ⟨t20z, A34z, H⟩ := ob H
         obtain ⟨y35z, hy36z⟩ : ∃ y_ : List Int, y_ = (([t20z] : List Int)) := ⟨_, rfl⟩
         replace H : ((nat_num_trim.f k1 y35z).bind fun t21z => ((nat_num_add.f k1 t19z t21z).bind fun t22z => (nat_Parse.l0 k1 (x11z.extract ((ji25z) : Int).toNat x11z.size) t22z))) = some (r1, r2) := by have hy_ := hy36z; exact pH
         have Ny37z := am hy36z
         clear hy36z
         obtain ⟨t21z, A38z, H⟩ := ob H
         obtain ⟨t22z, A39z, H⟩ := ob H
         have c40z := eq_true (of_decide_eq_true pQ : 0 <= (ji25z))
         have c41z := eq_true (of_decide_eq_true pQ : (ji25z) <= (x11z.size : Int))
         have H' := am H
         clear H
         try go_wp2
         replace HO_4 := am (Kd.R_drew HO_4.out)
         replace HB := am (below_drew1 HB.out)
         refine start_ (n := 11) (S := fun w' => True) (ds := []) #[false, false, false, false, false, false, false, false, false, false, false] (by kernel_rfl) rfl rfl trivial (fun hHeld => ?_); refine with_tabW nat_Parse.tab10 nat_Parse.bits10 (fun HT_ HW_ => ?_)
         generalize wr.drew = w42z at HO_4 HB hHeld ⊢
         refine pu 0 (some 25) #[true, false, false, false, false, false, false, false, false, false, false] (h := ?_)
         refine pu 3 (some 28) #[true, false, false, true, false, false, false, false, false, false, false] (h := ?_)
         refine pu 4 (some 29) #[true, false, false, true, true, false, false, false, false, false, false] (h := ?_)
         refine pu 5 (some 30) #[true, false, false, true, true, true, false, false, false, false, false] (h := ?_)
         refine one_ (i := 1) (N := some 26) #[true, true, false, true, true, true, false, false, false, false, false] rfl rfl (one_of HT_.out (by kernel_rfl)) (by decide) (fun K hK => ?_)
         refine Kd.R_lit_step (Kd.int .u32) _ 85 ?hg (N := 26) ?hd (xs := ([1000000000] : List Int)) (inner := [.int .u32 1000000000]) (ok := fun _ => True) (okp := fun _ => True) ?hr ?hp (fun _ hk => hk) trivial (Below.refl _ _) (Nat.le_refl _) (by simp) ?_; (case hd => rfl); (case hg => rfl); (case hr => first | (go_simp; done) | (go_simp; rfl)); (case hp => exact (Reps.one (show Kd.M (Kd.int .u32) _ _ _ 1000000000 [.int .u32 1000000000] from rfl) (Reps.none _ _)))
         intro v43z w44z ho45z hb hg_ hnew_
         clear hg_ hnew_
         (first | rw [<- Ny23z.out] at ho45z | (simp only [Int.reduceToNat] at ho45z; rw [<- Ny23z.out] at ho45z))
         have HO46z := am (Kd.R_lower (Kd.R_new' ho45z (Kd.R_lt (Kd.R_below HO_4.out pl))) (below_size pB))
         replace HO_4 := reR HO_4 ho45z hb
         replace HB := bS hb
         clear hb ho45z
         obtain ⟨Ao47z, co48z, eo49z⟩ := Kd.R_slice HO_4.out
         (first | subst eo49z | (injection eo49z with f1_ f2_ f3_; have f4_ := f1_.symm; have f5_ := f3_.symm; clear f1_ f2_ f3_; subst f4_; subst f5_))
         obtain ⟨Ao50z, co51z, eo52z⟩ := Kd.R_slice HO46z.out
         (first | subst eo52z | (injection eo52z with f1_ f2_ f3_; have f4_ := f1_.symm; have f5_ := f3_.symm; clear f1_ f2_ f3_; subst f4_; subst f5_))
         refine hK.out _ _ trivial (fun hHeld => ?_)
         clear hK K
         refine norm_ (a' := ?_) ?_ ?_
         rotate_left
         ·show Act.put _ (some 26) _ = _
          simp only [Act.put, List.setIfInBounds_toArray, List.set_cons_zero, List.set_cons_succ, i64_w, i32_w]
          rfl
         refine one_ (i := 2) (N := some 27) #[true, true, true, true, true, true, false, false, false, false, false] rfl rfl (one_of HT_.out (by kernel_rfl)) (by decide) (fun K hK => ?_)
         refine goes_ Tryz.func129 (by kernel_rfl) rfl #[.slice Ao47z x12z.length co48z, .slice Ao50z y17z.length co51z] (by rfl) rfl rfl pA ?_
         with_reducible refine (nat_num_mul.calls k1 _ _ x12z _ _ y17z t19z _ ?side1 ?side2 ?side3 ?side4 A24z.out).mono ?_
         (case side1 => exact Kd.C_below (Kd.R_reads' HO_4.out).2.2 pl)
         (case side2 => exact (Kd.R_reads' HO_4.out).2.1)
         (case side3 => exact Kd.C_below (Kd.R_reads' HO46z.out).2.2 pl)
         (case side4 => exact (Kd.R_reads' HO46z.out).2.1)
         rintro e w53z ⟨v54z, rfl, ho2z, hb⟩
         refine ⟨_, rfl, ?_⟩
         have HO55z := am (Kd.R_lower (Kd.R_new' (Kd.R_new' ho2z (Kd.R_lt (Kd.R_below HO_4.out pl))) (Kd.R_lt (Kd.R_below HO46z.out pl))) (below_size pB))
         replace HO_4 := reR HO_4 ho2z hb
         replace HO46z := reR HO46z ho2z hb
         replace HB := bS hb
         (try clear hb); (try clear hb4z); (try clear hk); (try clear hi); (try clear ho2z)
         refine hK.out _ _ trivial (fun hHeld => ?_)
         clear hK K
         refine norm_ (a' := ?_) ?_ ?_
         rotate_left
         ·show Act.put _ (some 27) _ = _
          simp only [Act.put, List.setIfInBounds_toArray, List.set_cons_zero, List.set_cons_succ, i64_w, i32_w]
          rfl
         refine one_ (i := 6) (N := some 31) #[true, true, true, true, true, true, true, false, false, false, false] rfl rfl (one_of HT_.out (by kernel_rfl)) (by decide) (fun K hK => ?_)
         refine goes_ Tryz.func152 (by kernel_rfl) rfl #[.string (x11z.extract 0 ((ji25z) : Int).toNat)] (by rfl) rfl rfl (by (try simp only [List.map_toArray, List.map_cons, List.map_nil]); first | done | (simp only [hji26z]; rfl) | rfl | (simp only [List.length_drop, List.length_take]; rfl)) ?_
         with_reducible refine (nat_piece.calls k1 (x11z.extract 0 ((ji25z) : Int).toNat) t20z _ A34z.out).mono ?_
         rintro e w56z ⟨rfl, hb⟩
         refine ⟨_, rfl, ?_⟩
         replace HO_4 := rbl HO_4 hb
         replace HO46z := rbl HO46z hb
         replace HO55z := rbl HO55z hb
         replace HB := bS hb
         (try clear hb); (try clear hb4z); (try clear hk); (try clear hi)
         refine hK.out _ _ trivial (fun hHeld => ?_)
         clear hK K
         refine norm_ (a' := ?_) ?_ ?_
         rotate_left
         ·show Act.put _ (some 31) _ = _
          simp only [Act.put, List.setIfInBounds_toArray, List.set_cons_zero, List.set_cons_succ, i64_w, i32_w]
          rfl
         refine one_ (i := 7) (N := some 32) #[true, true, true, true, true, true, true, true, false, false, false] rfl rfl (one_of HT_.out (by kernel_rfl)) (by decide) (fun K hK => ?_)
         refine Kd.R_lit_step (Kd.int .u32) _ 85 ?hg (N := 32) ?hd (xs := ([t20z] : List Int)) (inner := [.int .u32 t20z]) (ok := fun _ => True) (okp := fun _ => True) ?hr ?hp (fun _ hk => hk) trivial (Below.refl _ _) (Nat.le_refl _) (by simp) ?_; (case hd => rfl); (case hg => rfl); (case hr => first | (go_simp; done) | (go_simp; rfl)); (case hp => exact (Reps.one (show Kd.M (Kd.int .u32) _ _ _ t20z [.int .u32 t20z] from rfl) (Reps.none _ _)))
         intro v57z w58z ho59z hb hg_ hnew_
         clear hg_ hnew_
         (first | rw [<- Ny37z.out] at ho59z | (simp only [Int.reduceToNat] at ho59z; rw [<- Ny37z.out] at ho59z))
         have HO60z := am (Kd.R_lower (Kd.R_new' (Kd.R_new' (Kd.R_new' ho59z (Kd.R_lt (Kd.R_below HO_4.out pl))) (Kd.R_lt (Kd.R_below HO46z.out pl))) (Kd.R_lt (Kd.R_below HO55z.out pl))) (below_size pB))
         replace HO_4 := reR HO_4 ho59z hb
         replace HO46z := reR HO46z ho59z hb
         replace HO55z := reR HO55z ho59z hb
         replace HB := bS hb
         clear hb ho59z
         obtain ⟨Ao61z, co62z, eo63z⟩ := Kd.R_slice HO60z.out
         (first | subst eo63z | (injection eo63z with f1_ f2_ f3_; have f4_ := f1_.symm; have f5_ := f3_.symm; clear f1_ f2_ f3_; subst f4_; subst f5_))
         refine hK.out _ _ trivial (fun hHeld => ?_)
         clear hK K
         refine norm_ (a' := ?_) ?_ ?_
         rotate_left
         ·show Act.put _ (some 32) _ = _
          simp only [Act.put, List.setIfInBounds_toArray, List.set_cons_zero, List.set_cons_succ, i64_w, i32_w]
          rfl
         refine one_ (i := 8) (N := some 33) #[true, true, true, true, true, true, true, true, true, false, false] rfl rfl (one_of HT_.out (by kernel_rfl)) (by decide) (fun K hK => ?_)
         refine goes_ Tryz.func132 (by kernel_rfl) rfl #[.slice Ao61z y35z.length co62z] (by rfl) rfl rfl pA ?_
         with_reducible refine (nat_num_trim.calls k1 (fun k_ => some k_ = (.slice Ao61z y35z.length co62z : Value).ownBlock) (.slice Ao61z y35z.length co62z) y35z t21z w _ ?side1 ?side2 A38z.out).mono ?_
         (case side1 => exact pB)
         (case side2 => exact Kd.R_tight rfl HO60z.out)
         rintro e w64z ⟨v65z, rfl, ho2z, hb, hkp⟩
         refine ⟨_, rfl, ?_⟩
         have HO66z := am (Kd.R_mono (ok' := fun k_ => some k_ ≠ (.slice Ao47z x12z.length co48z : Value).ownBlock /\ some k_ ≠ (.slice Ao50z y17z.length co51z : Value).ownBlock /\ some k_ ≠ (v54z : Value).ownBlock) ho2z (fun k_ hk_ => ⟨Or.elim hk_ (fun hs_ => fun e_ => (((HO_4.out).1 k_ e_.symm).2) hs_) (fun hn_ => (Kd.fresh' (Kd.R_lt (Kd.R_below HO_4.out pl)) k_ hn_)), Or.elim hk_ (fun hs_ => fun e_ => (((HO46z.out).1 k_ e_.symm).2) hs_) (fun hn_ => (Kd.fresh' (Kd.R_lt (Kd.R_below HO46z.out pl)) k_ hn_)), Or.elim hk_ (fun hs_ => fun e_ => (((HO55z.out).1 k_ e_.symm).2) hs_) (fun hn_ => (Kd.fresh' (Kd.R_lt (Kd.R_below HO55z.out pl)) k_ hn_))⟩))
         replace HO_4 := am (Kd.R_mono (ok' := fun k_ => some k_ ≠ (.slice Ao50z y17z.length co51z : Value).ownBlock /\ some k_ ≠ (v54z : Value).ownBlock /\ some k_ ≠ (v65z : Value).ownBlock) (Kd.R_keptB (HO_4.out) hkp (fun k_ hk_ hs_ => (hk_.2) hs_)) (fun k_ hk_ => ⟨hk_.1.1.1.2, hk_.1.1.2, fun e_ => Or.elim (ho2z.1 k_ e_.symm) (fun hs_ => hk_.2.1 hs_) (fun hn_ => Nat.not_le.2 hk_.2.2 hn_)⟩))
         replace HO46z := am (Kd.R_mono (ok' := fun k_ => some k_ ≠ (.slice Ao47z x12z.length co48z : Value).ownBlock /\ some k_ ≠ (v54z : Value).ownBlock /\ some k_ ≠ (v65z : Value).ownBlock) (Kd.R_keptB (HO46z.out) hkp (fun k_ hk_ hs_ => (hk_.2) hs_)) (fun k_ hk_ => ⟨hk_.1.1.1.2, hk_.1.1.2, fun e_ => Or.elim (ho2z.1 k_ e_.symm) (fun hs_ => hk_.2.1 hs_) (fun hn_ => Nat.not_le.2 hk_.2.2 hn_)⟩))
         replace HO55z := am (Kd.R_mono (ok' := fun k_ => some k_ ≠ (.slice Ao47z x12z.length co48z : Value).ownBlock /\ some k_ ≠ (.slice Ao50z y17z.length co51z : Value).ownBlock /\ some k_ ≠ (v65z : Value).ownBlock) (Kd.R_keptB (HO55z.out) hkp (fun k_ hk_ hs_ => (hk_.2) hs_)) (fun k_ hk_ => ⟨hk_.1.1.1.2, hk_.1.1.2, fun e_ => Or.elim (ho2z.1 k_ e_.symm) (fun hs_ => hk_.2.1 hs_) (fun hn_ => Nat.not_le.2 hk_.2.2 hn_)⟩))
         replace HB := am hb
         clear HO60z
         (try clear hb); (try clear hkp); (try clear ho2z)
         obtain ⟨Ao67z, co68z, eo69z⟩ := Kd.R_slice HO55z.out
         (first | subst eo69z | (injection eo69z with f1_ f2_ f3_; have f4_ := f1_.symm; have f5_ := f3_.symm; clear f1_ f2_ f3_; subst f4_; subst f5_))
         obtain ⟨Ao70z, co71z, eo72z⟩ := Kd.R_slice HO66z.out
         (first | subst eo72z | (injection eo72z with f1_ f2_ f3_; have f4_ := f1_.symm; have f5_ := f3_.symm; clear f1_ f2_ f3_; subst f4_; subst f5_))
         refine hK.out _ _ trivial (fun hHeld => ?_)
         clear hK K
         refine norm_ (a' := ?_) ?_ ?_
         rotate_left
         ·show Act.put _ (some 33) _ = _
          simp only [Act.put, List.setIfInBounds_toArray, List.set_cons_zero, List.set_cons_succ, i64_w, i32_w]
          rfl
         refine one_ (i := 9) (N := some 34) #[true, true, true, true, true, true, true, true, true, true, false] rfl rfl (one_of HT_.out (by kernel_rfl)) (by decide) (fun K hK => ?_)
         refine goes_ Tryz.func131 (by kernel_rfl) rfl #[.slice Ao67z t19z.length co68z, .slice Ao70z t21z.length co71z] (by rfl) rfl rfl pA ?_
         with_reducible refine (nat_num_add.calls k1 _ _ t19z _ _ t21z t22z _ ?side1 ?side2 ?side3 ?side4 A39z.out).mono ?_
         (case side1 => exact Kd.C_below (Kd.R_reads' HO55z.out).2.2 pl)
         (case side2 => exact (Kd.R_reads' HO55z.out).2.1)
         (case side3 => exact Kd.C_below (Kd.R_reads' HO66z.out).2.2 pl)
         (case side4 => exact (Kd.R_reads' HO66z.out).2.1)
         rintro e w73z ⟨v74z, rfl, ho2z, hb⟩
         refine ⟨_, rfl, ?_⟩
         have HO75z := am (Kd.R_lower (Kd.R_new' (Kd.R_new' (Kd.R_new' (Kd.R_new' ho2z (Kd.R_lt (Kd.R_below HO_4.out pl))) (Kd.R_lt (Kd.R_below HO46z.out pl))) (Kd.R_lt (Kd.R_below HO55z.out pl))) (Kd.R_lt (Kd.R_below HO66z.out pl))) (below_size pB))
         replace HO_4 := reR HO_4 ho2z hb
         replace HO46z := reR HO46z ho2z hb
         replace HO55z := reR HO55z ho2z hb
         replace HO66z := reR HO66z ho2z hb
         replace HB := bS hb
         (try clear hb); (try clear hb4z); (try clear hk); (try clear hi); (try clear ho2z)
         refine hK.out _ _ trivial (fun hHeld => ?_)
         clear hK K
         refine norm_ (a' := ?_) ?_ ?_
         rotate_left
         ·show Act.put _ (some 34) _ = _
          simp only [Act.put, List.setIfInBounds_toArray, List.set_cons_zero, List.set_cons_succ, i64_w, i32_w]
          rfl
         refine pu 10 (some 4) #[true, true, true, true, true, true, true, true, true, true, true] (h := ?_)
         refine done_ (done_of HT_.out (by kernel_rfl)) ?_
         try go_wp2
         go_roundg k1
         case measure => have := HK13z.out; omega
         case rel => exact ⟨(x11z.extract ((ji25z) : Int).toNat x11z.size), (t22z), (by first | rfl | (simp; done) | (simp only [<- hji26z] <;> (first | rfl | simp)) | (simp [*]; done)), (by first | exact H' | (have H_ := H'.out; simp only [<- hji26z] at H_; exact ⟨H_⟩) | (refine ⟨?_⟩; have H_ := H'.out; simp only [<- hji26z] at H_ ⊢; exact H_)), ⟨by have := HK13z.out; omega⟩, ⟨by refine rp ?_; exact Kd.R_mono HO75z.out (fun _ hk => trivial)⟩, ⟨pB⟩⟩
        ·rw [if_neg c31z] at H
         exact absurd H (by simp)
       ·rw [if_neg c28z] at H
        exact absurd H (by simp)
  | go_ret2
    exact ⟨_, pE, pN, pB⟩) : P := h
theorem nat_Parse.calls (k : Nat) (a0 : ByteArray) (r1 : List Int) (r2 : Int) (w : World) (h : nat_Parse.f k a0 = some (r1, r2)) :
  Calls Tryz.prog 116 #[.string a0] w fun e w' => ∃ v0_ : Value, e = .returned (.tuple #[v0_, .int .i64 r2]) /\ Kd.R (Kd.int .u32) 85 w' w.heap.size (fun _ => True) v0_ r1 /\ Below w.heap.size w w' := by
 have HB := am (Below.refl w.heap.size w)
 have H : (if (a0.size : Int) = 0 then (some (([] : List Int), 8)) else (if (a0.size : Int) > 2400 then (some (([] : List Int), 5)) else ((conv_bytes146.f a0).bind fun t244 => ((nat_Parse_any.f t244).bind fun t247 => (if t247 = true then (some (([] : List Int), 32)) else (nat_Parse.l0 k a0 ([] : List Int))))))) = some (r1, r2) := h
 clear h
 by_cases c2 : (a0.size : Int) = 0
 ·rw [if_pos c2] at H
  have c2b0 : ((a0.size : Int) == 0) = true := beq_iff_eq.mpr c2
  have c2b1 : ((a0.size : Int) != 0) = false := bne_eq_false_iff_eq.mpr c2
  clear c2
  simp only [Option.some.injEq, Prod.mk.injEq] at H
  obtain ⟨rfl, rfl⟩ := H
  exact nat_Parse.leaf
 ·rw [if_neg c2] at H
  have c2b0 : ((a0.size : Int) == 0) = false := beq_eq_false_iff_ne.mpr c2
  have c2b1 : ((a0.size : Int) != 0) = true := bne_iff_ne.mpr c2
  by_cases c3 : (a0.size : Int) > 2400
  ·rw [if_pos c3] at H
   have c3b0 : decide (2400 < (a0.size : Int)) = true := decide_eq_true c3
   have c3b1 : decide (2400 < a0.size) = true := decide_eq_true (by omega)
   clear c3
   simp only [Option.some.injEq, Prod.mk.injEq] at H
   obtain ⟨rfl, rfl⟩ := H
   exact nat_Parse.leaf
  ·rw [if_neg c3] at H
   have c3b0 : decide (2400 < (a0.size : Int)) = false := decide_eq_false c3
   have c3b1 : decide (2400 < a0.size) = false := decide_eq_false (by omega)
   clear c3
   obtain ⟨t244, A4, H⟩ := ob H
   obtain ⟨t247, A5, H⟩ := ob H
   by_cases c6 : t247 = true
   ·subst c6
    rw [if_pos rfl] at H
    simp only [Option.some.injEq, Prod.mk.injEq] at H
    obtain ⟨rfl, rfl⟩ := H
    exact nat_Parse.leaf
   ·replace c6 := Bool.eq_false_iff.mpr c6
    subst c6
    rw [if_neg (show ¬ (false = true) by decide)] at H
    have H' := am H
    clear H
    exact nat_Parse.leaf
end YtjbjkmccfocikaaGreatDoor.B
end
section
namespace YtjbjkmccfocikaaGreatDoor.B
open Go.RowKit Go.Shelf YtjbjkmccfocikaaGreatDoorW.PrintWords
def strings_TrimRight.f (s t : ByteArray) : Option ByteArray := if t = ⟨#[48]⟩ /\ s.size <= 9223372036854775807 then some ⟨(Lib.trimRightB s.data.toList 48).toArray⟩ else none
theorem strings_TrimRight.calls (a0 a1 : ByteArray) (r : ByteArray) (w : World) (h : strings_TrimRight.f a0 a1 = some r) :
  Calls Tryz.prog 167 #[.string a0, .string a1] w fun e w' => e = .returned (.string r) /\ Below w.heap.size w w' := by
 unfold strings_TrimRight.f at h
 split at h
 ·rename_i hh
  obtain ⟨rfl, hs⟩ := hh
  obtain rfl := Option.some.inj h
  exact (Tryz.strings_TrimRight_one a0 48 (by decide) w hs).mono fun e w' ⟨he, hw⟩ => ⟨he, by subst hw; exact Below.refl _ _⟩
 ·cases h
end YtjbjkmccfocikaaGreatDoor.B
end
section
namespace YtjbjkmccfocikaaGreatDoor.B
open Go.RowKit YtjbjkmccfocikaaGreatDoorW.PrintWords YtjbjkmccfocikaaGreatDoorW.PrintLast YtjbjkmccfocikaaGreatDoorW.PrintMore
attribute [local go_sem] max2_int min2_int max_two min_two max_three min_three max_four min_four
def dec_number_strip.f (k : Nat) (a0_0 : Bool) (l0_1 : List Int) (a0_2 : Int) : Option (Bool × List Int × Int) := (nat_Print.f k l0_1).bind fun bt266 => ((dec_must2.f bt266.1 bt266.2).bind fun t268 => ((strings_TrimRight.f t268 (⟨#[48]⟩ : ByteArray)).bind fun t269 => (if (t269.size : Int) = (t268.size : Int) then (some (a0_0, l0_1, a0_2)) else ((nat_Parse.f k t269).bind fun bt270 => ((dec_must.f bt270.1 bt270.2).bind fun t274 => (some (a0_0, t274, wrap64 (a0_2 + (wrap64 ((t268.size : Int) - (t269.size : Int)))))))))))
theorem dec_number_strip.leaf {P : Prop} (h : P := by
 obtain ⟨Ao0z, co1z, eo2z⟩ := Kd.R_slice HO0_1.out
 subst eo2z
 go_enter Tryz.func140, Tryz.ntmps140
 go_wp2_with (first | ((with_reducible refine gd 1 ?_); refine bx 1 #[.bool a0_0, .slice Ao0z l0_1.length co1z, .int .i64 a0_2] 106 (h := ?_); intro gb3z hg w4z hbox hb; have BK5z := am hbox; have GW6z := am ((by rw [hg]; exact (by first | exact HK.out.1 | exact (show Kept w _ (fun k_ => P0_1_ k_) from by repeat (first | (with_reducible first | exact HK.out | apply Kept.alloc | apply Kept.drewN | apply Kept.drew) | exact HK.out)).1) : w.heap.size <= gb3z)); have GE7z := am ((gw hg pB : w0.heap.size <= gb3z)); replace HO0_1 := rbl HO0_1 hb; replace HK := am (Kept.below (S := (fun k_ => P0_1_ k_)) (by repeat (first | (with_reducible first | exact HK.out | apply Kept.alloc | apply Kept.drewN | apply Kept.drew) | exact HK.out)) hb); replace HB := bS hb; clear hb hbox hg) | ((with_reducible refine gd 2 ?_); refine bx 2 #[.bool false, .slice none 0 0, .int .i64 0] 106 (h := ?_); intro gb8z hg w9z hbox hb; have BK10z := am hbox; have GW11z := am ((by rw [hg]; exact (by first | exact HK.out.1 | exact (show Kept w _ (fun k_ => P0_1_ k_) from by repeat (first | (with_reducible first | exact HK.out | apply Kept.alloc | apply Kept.drewN | apply Kept.drew | refine Kept.setCell ?_ (.inr GW6z.out) _) | exact HK.out)).1) : w.heap.size <= gb8z)); have GE12z := am ((gw hg pB : w0.heap.size <= gb8z)); have NB13z := nL hg BK5z; have NB14z := nG hg BK5z; replace HO0_1 := rbl HO0_1 hb; replace BK5z := bb BK5z hb; replace HK := am (Kept.below (S := (fun k_ => P0_1_ k_)) (by repeat (first | (with_reducible first | exact HK.out | apply Kept.alloc | apply Kept.drewN | apply Kept.drew | refine Kept.setCell ?_ (.inr GW6z.out) _) | exact HK.out)) hb); replace HB := bS hb; clear hb hbox hg; have hnb15z := NB13z.out; have hnc16z := NB14z.out; obtain ⟨hcz17z, hcz18z, hcz19z, hfz20z, hfz21z, hfz22z⟩ := cEc BK5z.out) | (refine gL (some 8) Tryz.func112 #[.slice Ao0z l0_1.length co1z] (h := ?_); (with_reducible refine (nat_Print.calls k (fun k_ => some k_ = (.slice Ao0z l0_1.length co1z : Value).ownBlock) _ _ l0_1 t266 t267 _ ?side1 A2.out).mono ?_); (case side1 => exact Kd.R_V (Kd.R_tight rfl (Kd.R_types (Kd.R_types (HO0_1.out) BK5z.out (by decide)) BK10z.out (by decide)))); rintro e w23z ⟨rfl, hb⟩; refine ⟨_, rfl, ?_⟩; replace HO0_1 := rbl HO0_1 hb; replace BK5z := bb BK5z hb; replace BK10z := bb BK10z hb; replace HK := am (Kept.below (S := (fun k_ => P0_1_ k_)) (by repeat (first | (with_reducible first | exact HK.out | apply Kept.alloc | apply Kept.drewN | apply Kept.drew | refine Kept.setCell ?_ (.inr GW6z.out) _ | refine Kept.setCell ?_ (.inr GW11z.out) _) | exact HK.out)) hb); replace HB := bS hb; (try clear hb); (try clear hb24z); (try clear hk); (try clear hi)) | (refine gL (some 11) Tryz.func111 #[.string t266, .int .i64 t267] (h := ?_); (with_reducible refine (dec_must2.calls t266 t267 t268 _ A3.out).mono ?_); rintro e w' ⟨rfl, ⟨nd, rfl⟩⟩; refine ⟨_, rfl, ?_⟩; (try (rw [drewN_self w23z]; generalize hq_ : World.drewN w23z _ = w23z; replace HO0_1 : Aside0 (Kd.R (Kd.int .u32) 85 w23z w0.heap.size (fun k_ => (P0_1_ k_ \/ w.heap.size <= k_)) (.slice Ao0z l0_1.length co1z) l0_1) := ⟨by rw [<- hq_]; exact (Kd.R_below HO0_1.out pl)⟩; replace BK5z : Aside0 (w23z.heap[gb3z]? = some (.cells #[.bool a0_0, .slice Ao0z l0_1.length co1z, .int .i64 a0_2] 106 (0, 0))) := ⟨by rw [<- hq_]; exact (blk_below BK5z.out pl)⟩; replace BK10z : Aside0 (w23z.heap[gb8z]? = some (.cells #[.bool false, .slice none 0 0, .int .i64 0] 106 (0, 0))) := ⟨by rw [<- hq_]; exact (blk_below BK10z.out pl)⟩; replace HK : Aside0 (Kept w w23z (fun k_ => P0_1_ k_)) := ⟨by rw [<- hq_]; exact (by repeat (first | (with_reducible first | exact HK.out | apply Kept.alloc | apply Kept.drewN | apply Kept.drew | refine Kept.setCell ?_ (.inr GW6z.out) _ | refine Kept.setCell ?_ (.inr GW11z.out) _) | exact HK.out))⟩; replace HB : Aside0 (Below w0.heap.size w0 w23z) := ⟨by rw [<- hq_]; exact pB⟩; clear hq_))) | ((have q_ := A16; clear q_); refine gL (some 13) Tryz.func167 #[.string t268, .string (⟨#[48]⟩ : ByteArray)] (h := ?_); (with_reducible refine (strings_TrimRight.calls t268 (⟨#[48]⟩ : ByteArray) t269 _ A4.out).mono ?_); rintro e w25z ⟨rfl, hb⟩; refine ⟨_, rfl, ?_⟩; replace HO0_1 := rbl HO0_1 hb; replace BK5z := bb BK5z hb; replace BK10z := bb BK10z hb; replace HK := am (Kept.below (S := (fun k_ => P0_1_ k_)) (by repeat (first | (with_reducible first | exact HK.out | apply Kept.alloc | apply Kept.drewN | apply Kept.drew | refine Kept.setCell ?_ (.inr GW6z.out) _ | refine Kept.setCell ?_ (.inr GW11z.out) _) | exact HK.out)) hb); replace HB := bS hb; (try clear hb); (try clear hb24z); (try clear hk); (try clear hi)) | (refine gL (some 21) Tryz.func116 #[.string t269] (h := ?_); (with_reducible refine (nat_Parse.calls k t269 t270 t271 _ A15.out).mono ?_); rintro e w26z ⟨v27z, rfl, ho28z, hb⟩; refine ⟨_, rfl, ?_⟩; have HO29z := am (Kd.R_lower (Kd.R_new' (Kd.R_newM (M := fun k_ => (P0_1_ k_ \/ w.heap.size <= k_)) ho28z (by first | exact HK.out.1 | exact (show Kept w _ (fun k_ => P0_1_ k_) from by repeat (first | (with_reducible first | exact HK.out | apply Kept.alloc | apply Kept.drewN | apply Kept.drew | refine Kept.setCell ?_ (.inr GW6z.out) _ | refine Kept.setCell ?_ (.inr GW11z.out) _) | exact HK.out)).1) (fun k_ h_ => .inr h_)) (Kd.R_lt (Kd.R_below HO0_1.out pl))) (below_size pB)); replace HO0_1 := reR HO0_1 ho28z hb; replace BK5z := bb BK5z hb; replace BK10z := bb BK10z hb; replace HK := am (Kept.below (S := (fun k_ => P0_1_ k_)) (by repeat (first | (with_reducible first | exact HK.out | apply Kept.alloc | apply Kept.drewN | apply Kept.drew | refine Kept.setCell ?_ (.inr GW6z.out) _ | refine Kept.setCell ?_ (.inr GW11z.out) _) | exact HK.out)) hb); replace HB := bS hb; (try clear hb); (try clear hb24z); (try clear hk); (try clear hi); (try clear ho28z); obtain ⟨Ao30z, co31z, eo32z⟩ := Kd.R_slice HO29z.out; subst eo32z) | (refine gL (some 24) Tryz.func105 #[.slice Ao30z t270.length co31z, .int .i64 t271] (h := ?_); (with_reducible refine (dec_must.calls (fun k_ => some k_ = (.slice Ao30z t270.length co31z : Value).ownBlock) (.slice Ao30z t270.length co31z) t270 t271 t274 w0 _ ?side1 ?side2 A16.out).mono ?_); (case side1 => exact pB); (case side2 => exact Kd.R_tight rfl HO29z.out); rintro e w33z ⟨v34z, rfl, ho28z, hb, hkp⟩; refine ⟨_, rfl, ?_⟩; have HO35z := am (Kd.R_mono (ok' := fun k_ => (P0_1_ k_ \/ w.heap.size <= k_) /\ some k_ ≠ (.slice Ao0z l0_1.length co1z : Value).ownBlock) ho28z (fun k_ hk_ => ⟨Or.elim hk_ (fun hs_ => (HO29z.out.1 k_ (hs_).symm).1.1) (fun hn_ => (.inr (Nat.le_trans (by first | exact HK.out.1 | exact (show Kept w _ (fun k_ => P0_1_ k_) from by repeat (first | (with_reducible first | exact HK.out | apply Kept.alloc | apply Kept.drewN | apply Kept.drew | refine Kept.setCell ?_ (.inr GW6z.out) _ | refine Kept.setCell ?_ (.inr GW11z.out) _) | exact HK.out)).1) hn_))), Or.elim hk_ (fun hs_ => fun e_ => (((HO0_1.out).1 k_ e_.symm).2) hs_) (fun hn_ => (Kd.fresh' (Kd.R_lt (Kd.R_below HO0_1.out pl)) k_ hn_))⟩)); replace HO0_1 := am (Kd.R_mono (ok' := fun k_ => (P0_1_ k_ \/ w.heap.size <= k_) /\ some k_ ≠ (v34z : Value).ownBlock) (Kd.R_keptB (HO0_1.out) hkp (fun k_ hk_ hs_ => (hk_.2) hs_)) (fun k_ hk_ => ⟨hk_.1.1, fun e_ => Or.elim (ho28z.1 k_ e_.symm) (fun hs_ => hk_.2.1 hs_) (fun hn_ => Nat.not_le.2 hk_.2.2 hn_)⟩)); replace BK5z := am (blk_kept (blk_below BK5z.out pl) hkp (fun hs_ => (fun e_ => (Kd.R_ne HO29z.out BK5z.out (by decide)) e_) hs_)); replace BK10z := am (blk_kept (blk_below BK10z.out pl) hkp (fun hs_ => (fun e_ => (Kd.R_ne HO29z.out BK10z.out (by decide)) e_) hs_)); replace HK := am (Kept.then_ (S := (fun k_ => P0_1_ k_)) (by repeat (first | (with_reducible first | exact HK.out | apply Kept.alloc | apply Kept.drewN | apply Kept.drew | refine Kept.setCell ?_ (.inr GW6z.out) _ | refine Kept.setCell ?_ (.inr GW11z.out) _) | exact HK.out)) hkp (fun k_ hs_ => (fun e_ => (HO29z.out.1 k_ e_.symm).1.1) hs_)); replace HB := am hb; clear HO29z; (try clear hb); (try clear hkp); (try clear ho28z); obtain ⟨Ao36z, co37z, eo38z⟩ := Kd.R_slice HO35z.out; subst eo38z; obtain ⟨hcz39z, hcz40z, hcz41z, hfz42z, hfz43z, hfz44z⟩ := cEc BK5z.out; obtain ⟨hcz45z, hcz46z, hcz47z, hfz48z, hfz49z, hfz50z⟩ := cEc BK10z.out) | ((have q_ : (t269.size == t268.size) = true := c5b2; clear q_); refine gL (some 13) Tryz.func167 #[.string t268, .string (⟨#[48]⟩ : ByteArray)] (h := ?_); (with_reducible refine (strings_TrimRight.calls t268 (⟨#[48]⟩ : ByteArray) t269 _ A4.out).mono ?_); rintro e w25z ⟨rfl, hb⟩; refine ⟨_, rfl, ?_⟩; replace HO0_1 := rbl HO0_1 hb; replace BK5z := bb BK5z hb; replace BK10z := bb BK10z hb; replace HK := am (Kept.below (S := (fun k_ => P0_1_ k_)) (by repeat (first | (with_reducible first | exact HK.out | apply Kept.alloc | apply Kept.drewN | apply Kept.drew | refine Kept.setCell ?_ (.inr GW6z.out) _ | refine Kept.setCell ?_ (.inr GW11z.out) _) | exact HK.out)) hb); replace HB := bS hb; (try clear hb); (try clear hb24z); (try clear hk); (try clear hi); obtain ⟨hcz26z, hcz27z, hcz28z, hfz29z, hfz30z, hfz31z⟩ := cEc BK5z.out; obtain ⟨hcz32z, hcz33z, hcz34z, hfz35z, hfz36z, hfz37z⟩ := cEc BK10z.out))
 first
  | have q_ := A16
    refine bodyPost_ret (results_cell_row rfl _ _ gb8z 106 #[.bool a0_0, .slice Ao36z t274.length co37z, .int .i64 (wrap64 (a0_2 + (wrap64 ((t268.size : Int) - (t269.size : Int)))))] (0, 0) _ rfl (by refine bp ?_; refine blk_put (cs := #[.bool a0_0, .slice Ao36z t274.length co37z, .int .i64 0]) ?_ 2 _ rfl; refine bp ?_; refine blk_put (cs := #[.bool a0_0, .slice none 0 0, .int .i64 0]) ?_ 1 _ rfl; refine bp ?_; refine blk_put (cs := #[.bool false, .slice none 0 0, .int .i64 0]) ?_ 0 _ rfl; refine bp ?_; refine blk_far ?_ NB14z.out _; refine bp ?_; refine blk_far ?_ NB14z.out _; exact bp BK10z.out) Tryz.underlying106 rfl (by kernel_rfl)) rfl ?_
    exact ⟨_, pE, by refine rp ?_; exact Kd.R_mono (Kd.R_far (p := ⟨gb8z, 2, none⟩) (Kd.R_far (p := ⟨gb8z, 1, none⟩) (Kd.R_far (p := ⟨gb8z, 0, none⟩) (Kd.R_far (p := ⟨gb3z, 2, none⟩) (Kd.R_far (p := ⟨gb3z, 1, none⟩) (Kd.R_types (Kd.R_types HO35z.out BK5z.out (by decide)) BK10z.out (by decide)) (fun _ hk => hk.1.2) (.slice Ao36z t274.length co37z)) (fun _ hk => hk.1.2) (.int .i64 (wrap64 (a0_2 + (wrap64 ((t268.size : Int) - (t269.size : Int))))))) (fun _ hk => hk.2) (.bool a0_0)) (fun _ hk => hk.2) (.slice Ao36z t274.length co37z)) (fun _ hk => hk.2) (.int .i64 (wrap64 (a0_2 + (wrap64 ((t268.size : Int) - (t269.size : Int))))))) (fun _ hk => hk.1.1.1), pB, by repeat (first | (with_reducible first | exact HK.out | apply Kept.alloc | apply Kept.drewN | apply Kept.drew | refine Kept.setCell ?_ (.inr GW6z.out) _ | refine Kept.setCell ?_ (.inr GW11z.out) _) | exact HK.out)⟩
  | refine bodyPost_ret (results_cell_row rfl _ _ gb8z 106 #[.bool a0_0, .slice Ao0z l0_1.length co1z, .int .i64 a0_2] (0, 0) _ rfl (by refine bp ?_; refine blk_put (cs := #[.bool a0_0, .slice Ao0z l0_1.length co1z, .int .i64 0]) ?_ 2 _ rfl; refine bp ?_; refine blk_put (cs := #[.bool a0_0, .slice none 0 0, .int .i64 0]) ?_ 1 _ rfl; refine bp ?_; refine blk_put (cs := #[.bool false, .slice none 0 0, .int .i64 0]) ?_ 0 _ rfl; exact bp BK10z.out) Tryz.underlying106 rfl (by kernel_rfl)) rfl ?_
    exact ⟨_, pE, by refine rp ?_; exact Kd.R_mono (Kd.R_far (p := ⟨gb8z, 2, none⟩) (Kd.R_far (p := ⟨gb8z, 1, none⟩) (Kd.R_far (p := ⟨gb8z, 0, none⟩) (Kd.R_types HO0_1.out BK10z.out (by decide)) (fun _ hk => hk.2) (.bool a0_0)) (fun _ hk => hk.2) (.slice Ao0z l0_1.length co1z)) (fun _ hk => hk.2) (.int .i64 a0_2)) (fun _ hk => hk.1), pB, by repeat (first | (with_reducible first | exact HK.out | apply Kept.alloc | apply Kept.drewN | apply Kept.drew | refine Kept.setCell ?_ (.inr GW6z.out) _ | refine Kept.setCell ?_ (.inr GW11z.out) _) | exact HK.out)⟩) : P := h
theorem dec_number_strip.calls (k : Nat) (a0_0 : Bool) (P0_1_ : Nat -> Prop) (u9000_ : Value) (l0_1 : List Int) (a0_2 : Int) (r1 : Bool) (r2 : List Int) (r3 : Int) (w0 w : World) (hB : Below w0.heap.size w0 w) (ho0_1 : Kd.R (Kd.int .u32) 85 w w0.heap.size P0_1_ u9000_ l0_1) (h : dec_number_strip.f k a0_0 l0_1 a0_2 = some (r1, r2, r3)) :
  Calls Tryz.prog 140 #[.agg #[.bool a0_0, u9000_, .int .i64 a0_2]] w fun e w' => ∃ v1_ : Value, e = .returned (.agg #[.bool r1, v1_, .int .i64 r3]) /\ Kd.R (Kd.int .u32) 85 w' w0.heap.size (fun k_ => (P0_1_ k_ \/ w.heap.size <= k_)) v1_ r2 /\ Below w0.heap.size w0 w' /\ Kept w w' (fun k_ => P0_1_ k_) := by
 have hu106 := Tryz.underlying106
 have HO0_1 := am (show Kd.R (Kd.int .u32) 85 w w0.heap.size (fun k_ => (P0_1_ k_ \/ w.heap.size <= k_)) u9000_ l0_1 from Kd.R_mono ho0_1 (fun k_ hk => (.inl hk)))
 have HK := am (Kept.refl w (fun k_ => P0_1_ k_))
 have HW0 := am hB.size
 have HB := am hB
 clear hB
 have H : ((nat_Print.f k l0_1).bind fun bt266 => ((dec_must2.f bt266.1 bt266.2).bind fun t268 => ((strings_TrimRight.f t268 (⟨#[48]⟩ : ByteArray)).bind fun t269 => (if (t269.size : Int) = (t268.size : Int) then (some (a0_0, l0_1, a0_2)) else ((nat_Parse.f k t269).bind fun bt270 => ((dec_must.f bt270.1 bt270.2).bind fun t274 => (some (a0_0, t274, wrap64 (a0_2 + (wrap64 ((t268.size : Int) - (t269.size : Int)))))))))))) = some (r1, r2, r3) := h
 clear h
 obtain ⟨⟨t266, t267⟩, A2, H⟩ := ob H; (try dsimp only at H)
 obtain ⟨t268, A3, H⟩ := ob H
 obtain ⟨t269, A4, H⟩ := ob H
 by_cases c5 : (t269.size : Int) = (t268.size : Int)
 ·rw [if_pos c5] at H
  have c5b0 : ((t269.size : Int) == (t268.size : Int)) = true := beq_iff_eq.mpr c5
  have c5b1 : ((t269.size : Int) != (t268.size : Int)) = false := bne_eq_false_iff_eq.mpr c5
  have c5b2 : (t269.size == t268.size) = true := by first | simpa using c5 | (simp at c5 ⊢; omega)
  clear c5
  simp only [Option.some.injEq, Prod.mk.injEq] at H
  obtain ⟨rfl, rfl, rfl⟩ := H
  exact dec_number_strip.leaf
 ·rw [if_neg c5] at H
  have c5b0 : ((t269.size : Int) == (t268.size : Int)) = false := beq_eq_false_iff_ne.mpr c5
  have c5b1 : ((t269.size : Int) != (t268.size : Int)) = true := bne_iff_ne.mpr c5
  have c5b2 : (t269.size == t268.size) = false := by first | simpa using c5 | (simp at c5 ⊢; omega)
  obtain ⟨⟨t270, t271⟩, A15, H⟩ := ob H; (try dsimp only at H)
  obtain ⟨t274, A16, H⟩ := ob H
  simp only [Option.some.injEq, Prod.mk.injEq] at H
  obtain ⟨rfl, rfl, rfl⟩ := H
  exact dec_number_strip.leaf
def dec_settle.f (k : Nat) (a0_0 : Bool) (l0_1 : List Int) (a0_2 : Int) : Option (Bool × List Int × Int × Int) := (dec_number_zero.f a0_0 l0_1 a0_2).bind fun t279 => (if t279 = true then (some (false, ([] : List Int), 0, 0)) else ((dec_number_strip.f k a0_0 l0_1 a0_2).bind fun bt280 => ((dec_digits.f k bt280.2.1).bind fun t285 => (if t285 > 300 then (some (false, ([] : List Int), 0, 51)) else (if bt280.2.2 < (-1000) then (some (false, ([] : List Int), 0, 52)) else (if bt280.2.2 > 1000 then (some (false, ([] : List Int), 0, 52)) else (some (bt280.1, bt280.2.1, bt280.2.2, 0))))))))
theorem dec_settle.leaf {P : Prop} (h : P := by
 obtain ⟨Ao0z, co1z, eo2z⟩ := Kd.R_slice HO0_1.out
 subst eo2z
 go_enter Tryz.func100, Tryz.ntmps100
 go_wp2_with (first | ((with_reducible refine gd 1 ?_); refine bx 1 #[.bool a0_0, .slice Ao0z l0_1.length co1z, .int .i64 a0_2] 106 (h := ?_); intro gb3z hg w4z hbox hb; have BK5z := am hbox; have GW6z := am ((by rw [hg]; exact (by first | exact HK.out.1 | exact (show Kept w _ (fun k_ => P0_1_ k_) from by repeat (first | (with_reducible first | exact HK.out | apply Kept.alloc | apply Kept.drewN | apply Kept.drew) | exact HK.out)).1) : w.heap.size <= gb3z)); have GE7z := am ((gw hg pB : w0.heap.size <= gb3z)); replace HO0_1 := rbl HO0_1 hb; replace HK := am (Kept.below (S := (fun k_ => P0_1_ k_)) (by repeat (first | (with_reducible first | exact HK.out | apply Kept.alloc | apply Kept.drewN | apply Kept.drew) | exact HK.out)) hb); replace HB := bS hb; clear hb hbox hg) | ((with_reducible refine gd 2 ?_); refine bx 2 #[.bool false, .slice none 0 0, .int .i64 0] 24 (h := ?_); intro gb8z hg w9z hbox hb; have BK10z := am hbox; have GW11z := am ((by rw [hg]; exact (by first | exact HK.out.1 | exact (show Kept w _ (fun k_ => P0_1_ k_) from by repeat (first | (with_reducible first | exact HK.out | apply Kept.alloc | apply Kept.drewN | apply Kept.drew | refine Kept.setCell ?_ (.inr GW6z.out) _) | exact HK.out)).1) : w.heap.size <= gb8z)); have GE12z := am ((gw hg pB : w0.heap.size <= gb8z)); have NB13z := nL hg BK5z; have NB14z := nG hg BK5z; replace HO0_1 := rbl HO0_1 hb; replace BK5z := bb BK5z hb; replace HK := am (Kept.below (S := (fun k_ => P0_1_ k_)) (by repeat (first | (with_reducible first | exact HK.out | apply Kept.alloc | apply Kept.drewN | apply Kept.drew | refine Kept.setCell ?_ (.inr GW6z.out) _) | exact HK.out)) hb); replace HB := bS hb; clear hb hbox hg; have hnb15z := NB13z.out; have hnc16z := NB14z.out; obtain ⟨hcz17z, hcz18z, hcz19z, hfz20z, hfz21z, hfz22z⟩ := cEc BK5z.out) | (refine gL (some 5) Tryz.func104 #[.agg #[.bool a0_0, .slice Ao0z l0_1.length co1z, .int .i64 a0_2]] (h := ?_); (with_reducible refine (dec_number_zero.calls a0_0 _ _ l0_1 a0_2 false _ ?side1 ?side2 A2.out).mono ?_); (case side1 => exact Kd.C_below (Kd.R_reads' HO0_1.out).2.2 pl); (case side2 => exact (Kd.R_reads' HO0_1.out).2.1); rintro e w23z ⟨rfl, hb⟩; refine ⟨_, rfl, ?_⟩; replace HO0_1 := rbl HO0_1 hb; replace BK5z := bb BK5z hb; replace BK10z := bb BK10z hb; replace HK := am (Kept.below (S := (fun k_ => P0_1_ k_)) (by repeat (first | (with_reducible first | exact HK.out | apply Kept.alloc | apply Kept.drewN | apply Kept.drew | refine Kept.setCell ?_ (.inr GW6z.out) _ | refine Kept.setCell ?_ (.inr GW11z.out) _) | exact HK.out)) hb); replace HB := bS hb; (try clear hb); (try clear hb24z); (try clear hk); (try clear hi); obtain ⟨hcz25z, hcz26z, hcz27z, hfz28z, hfz29z, hfz30z⟩ := cEc BK5z.out) | (refine gL (some 8) Tryz.func140 #[.agg #[.bool a0_0, .slice Ao0z l0_1.length co1z, .int .i64 a0_2]] (h := ?_); (with_reducible refine (dec_number_strip.calls k a0_0 (fun k_ => some k_ = (.slice Ao0z l0_1.length co1z : Value).ownBlock) (.slice Ao0z l0_1.length co1z) l0_1 a0_2 t280 t281 t284 w0 _ ?side1 ?side2 A11.out).mono ?_); (case side1 => exact pB); (case side2 => exact Kd.R_tight rfl HO0_1.out); rintro e w31z ⟨v32z, rfl, ho33z, hb, hkp⟩; refine ⟨_, rfl, ?_⟩; have HO34z := am (Kd.R_mono (ok' := fun k_ => (P0_1_ k_ \/ w.heap.size <= k_)) ho33z (fun k_ hk_ => Or.elim hk_ (fun hs_ => (HO0_1.out.1 k_ (hs_).symm)) (fun hn_ => (.inr (Nat.le_trans (by first | exact HK.out.1 | exact (show Kept w _ (fun k_ => P0_1_ k_) from by repeat (first | (with_reducible first | exact HK.out | apply Kept.alloc | apply Kept.drewN | apply Kept.drew | refine Kept.setCell ?_ (.inr GW6z.out) _ | refine Kept.setCell ?_ (.inr GW11z.out) _) | exact HK.out)).1) hn_))))); replace BK5z := am (blk_kept (blk_below BK5z.out pl) hkp (fun hs_ => (fun e_ => (Kd.R_ne HO0_1.out BK5z.out (by decide)) e_) hs_)); replace BK10z := am (blk_kept (blk_below BK10z.out pl) hkp (fun hs_ => (fun e_ => (Kd.R_ne HO0_1.out BK10z.out (by decide)) e_) hs_)); replace HK := am (Kept.then_ (S := (fun k_ => P0_1_ k_)) (by repeat (first | (with_reducible first | exact HK.out | apply Kept.alloc | apply Kept.drewN | apply Kept.drew | refine Kept.setCell ?_ (.inr GW6z.out) _ | refine Kept.setCell ?_ (.inr GW11z.out) _) | exact HK.out)) hkp (fun k_ hs_ => (fun e_ => (HO0_1.out.1 k_ e_.symm)) hs_)); replace HB := am hb; clear HO0_1; (try clear hb); (try clear hkp); (try clear ho33z); obtain ⟨hcz35z, hcz36z, hcz37z, hfz38z, hfz39z, hfz40z⟩ := cEc BK5z.out; obtain ⟨Ao41z, co42z, eo43z⟩ := Kd.R_slice HO34z.out; subst eo43z) | ((have q_ : decide (300 < t285) = true := c13b0; clear q_); refine gL (some 13) Tryz.func110 #[.slice Ao41z t281.length co42z] (h := ?_); (with_reducible refine (dec_digits.calls k _ _ t281 t285 _ ?side1 ?side2 A12.out).mono ?_); (case side1 => refine (Kd.R_reads' (e := 85) (base := w0.heap.size) (ok := fun k_ => (P0_1_ k_ \/ w.heap.size <= k_)) (n := t281.length) (c := co42z) ?_).2.2; exact (Kd.R_below (z3 HO34z.out BK5z.out (by decide) (.bool t280) (.slice Ao41z t281.length co42z) (.int .i64 t284)) pl)); (case side2 => exact (Kd.R_reads' HO34z.out).2.1); rintro e w44z ⟨rfl, hb⟩; refine ⟨_, rfl, ?_⟩; replace HO34z := am (Kd.R_below (Kd.R_below (z3 HO34z.out BK5z.out (by decide) (.bool t280) (.slice Ao41z t281.length co42z) (.int .i64 t284)) pl) hb); replace BK5z := am (blk_below (g := gb3z) (o := .cells #[.bool t280, .slice Ao41z t281.length co42z, .int .i64 t284] 106 (0, 0)) (by refine bp ?_; refine blk_put (cs := #[.bool t280, .slice Ao41z t281.length co42z, .int .i64 a0_2]) ?_ 2 _ rfl; refine bp ?_; refine blk_put (cs := #[.bool t280, .slice Ao0z l0_1.length co1z, .int .i64 a0_2]) ?_ 1 _ rfl; refine bp ?_; refine blk_put (cs := #[.bool a0_0, .slice Ao0z l0_1.length co1z, .int .i64 a0_2]) ?_ 0 _ rfl; exact bp BK5z.out) hb); replace BK10z := bfb NB14z BK10z hb; replace HK := am (Kept.below (S := (fun k_ => P0_1_ k_)) (by repeat (first | (with_reducible first | exact HK.out | apply Kept.alloc | apply Kept.drewN | apply Kept.drew | refine Kept.setCell ?_ (.inr GW6z.out) _ | refine Kept.setCell ?_ (.inr GW11z.out) _) | exact HK.out)) hb); replace HB := bS hb; (try clear hb); (try clear hb24z); (try clear hk); (try clear hi); obtain ⟨hcz45z, hcz46z, hcz47z, hfz48z, hfz49z, hfz50z⟩ := cEc BK10z.out) | ((have q_ : decide (300 < t285) = false := c13b0; clear q_); refine gL (some 13) Tryz.func110 #[.slice Ao41z t281.length co42z] (h := ?_); (with_reducible refine (dec_digits.calls k _ _ t281 t285 _ ?side1 ?side2 A12.out).mono ?_); (case side1 => refine (Kd.R_reads' (e := 85) (base := w0.heap.size) (ok := fun k_ => (P0_1_ k_ \/ w.heap.size <= k_)) (n := t281.length) (c := co42z) ?_).2.2; exact (Kd.R_below (z3 HO34z.out BK5z.out (by decide) (.bool t280) (.slice Ao41z t281.length co42z) (.int .i64 t284)) pl)); (case side2 => exact (Kd.R_reads' HO34z.out).2.1); rintro e w44z ⟨rfl, hb⟩; refine ⟨_, rfl, ?_⟩; replace HO34z := am (Kd.R_below (Kd.R_below (z3 HO34z.out BK5z.out (by decide) (.bool t280) (.slice Ao41z t281.length co42z) (.int .i64 t284)) pl) hb); replace BK5z := am (blk_below (g := gb3z) (o := .cells #[.bool t280, .slice Ao41z t281.length co42z, .int .i64 t284] 106 (0, 0)) (by refine bp ?_; refine blk_put (cs := #[.bool t280, .slice Ao41z t281.length co42z, .int .i64 a0_2]) ?_ 2 _ rfl; refine bp ?_; refine blk_put (cs := #[.bool t280, .slice Ao0z l0_1.length co1z, .int .i64 a0_2]) ?_ 1 _ rfl; refine bp ?_; refine blk_put (cs := #[.bool a0_0, .slice Ao0z l0_1.length co1z, .int .i64 a0_2]) ?_ 0 _ rfl; exact bp BK5z.out) hb); replace BK10z := bfb NB14z BK10z hb; replace HK := am (Kept.below (S := (fun k_ => P0_1_ k_)) (by repeat (first | (with_reducible first | exact HK.out | apply Kept.alloc | apply Kept.drewN | apply Kept.drew | refine Kept.setCell ?_ (.inr GW6z.out) _ | refine Kept.setCell ?_ (.inr GW11z.out) _) | exact HK.out)) hb); replace HB := bS hb; (try clear hb); (try clear hb24z); (try clear hk); (try clear hi); obtain ⟨hcz45z, hcz46z, hcz47z, hfz48z, hfz49z, hfz50z⟩ := cEc BK5z.out; obtain ⟨hcz51z, hcz52z, hcz53z, hfz54z, hfz55z, hfz56z⟩ := cEc BK10z.out) | (refine gL (some 5) Tryz.func104 #[.agg #[.bool a0_0, .slice Ao0z l0_1.length co1z, .int .i64 a0_2]] (h := ?_); (with_reducible refine (dec_number_zero.calls a0_0 _ _ l0_1 a0_2 true _ ?side1 ?side2 A2.out).mono ?_); (case side1 => exact Kd.C_below (Kd.R_reads' HO0_1.out).2.2 pl); (case side2 => exact (Kd.R_reads' HO0_1.out).2.1); rintro e w23z ⟨rfl, hb⟩; refine ⟨_, rfl, ?_⟩; replace HO0_1 := rbl HO0_1 hb; replace BK5z := bb BK5z hb; replace BK10z := bb BK10z hb; replace HK := am (Kept.below (S := (fun k_ => P0_1_ k_)) (by repeat (first | (with_reducible first | exact HK.out | apply Kept.alloc | apply Kept.drewN | apply Kept.drew | refine Kept.setCell ?_ (.inr GW6z.out) _ | refine Kept.setCell ?_ (.inr GW11z.out) _) | exact HK.out)) hb); replace HB := bS hb; (try clear hb); (try clear hb24z); (try clear hk); (try clear hi); obtain ⟨hcz25z, hcz26z, hcz27z, hfz28z, hfz29z, hfz30z⟩ := cEc BK10z.out))
 first
  | have q_ := A12; have q_ : decide (1000 < t284) = false := c40b0
    refine bodyPost_ret (results_ct rfl _ _ gb8z 24 #[.bool t280, .slice Ao41z t281.length co42z, .int .i64 t284] (0, 0) _ rfl (by refine bp ?_; refine blk_put (cs := #[.bool t280, .slice Ao41z t281.length co42z, .int .i64 0]) ?_ 2 _ rfl; refine bp ?_; refine blk_put (cs := #[.bool t280, .slice none 0 0, .int .i64 0]) ?_ 1 _ rfl; refine bp ?_; refine blk_put (cs := #[.bool false, .slice none 0 0, .int .i64 0]) ?_ 0 _ rfl; exact bp BK10z.out) Tryz.underlying24 rfl (by kernel_rfl)) rfl ?_
    exact ⟨_, pE, by refine rp ?_; exact Kd.R_mono (Kd.R_far (p := ⟨gb8z, 2, none⟩) (Kd.R_far (p := ⟨gb8z, 1, none⟩) (Kd.R_far (p := ⟨gb8z, 0, none⟩) (Kd.R_types HO34z.out BK10z.out (by decide)) (fun _ hk => hk.2) (.bool t280)) (fun _ hk => hk.2) (.slice Ao41z t281.length co42z)) (fun _ hk => hk.2) (.int .i64 t284)) (fun _ hk => hk.1), pB, by repeat (first | (with_reducible first | exact HK.out | apply Kept.alloc | apply Kept.drewN | apply Kept.drew | refine Kept.setCell ?_ (.inr GW6z.out) _ | refine Kept.setCell ?_ (.inr GW11z.out) _) | exact HK.out)⟩
  | refine bodyPost_ret (results_ct rfl _ _ gb8z 24 #[.bool false, .slice none 0 0, .int .i64 0] (0, 0) _ rfl (by refine bp ?_; refine blk_put (cs := #[.bool false, .slice none 0 0, .int .i64 0]) ?_ 2 _ rfl; refine bp ?_; refine blk_put (cs := #[.bool false, .slice none 0 0, .int .i64 0]) ?_ 1 _ rfl; refine bp ?_; refine blk_put (cs := #[.bool false, .slice none 0 0, .int .i64 0]) ?_ 0 _ rfl; exact bp BK10z.out) Tryz.underlying24 rfl (by kernel_rfl)) rfl ?_
    exact ⟨_, pE, pN, pB, by repeat (first | (with_reducible first | exact HK.out | apply Kept.alloc | apply Kept.drewN | apply Kept.drew | refine Kept.setCell ?_ (.inr GW6z.out) _ | refine Kept.setCell ?_ (.inr GW11z.out) _) | exact HK.out)⟩) : P := h
theorem dec_settle.calls (k : Nat) (a0_0 : Bool) (P0_1_ : Nat -> Prop) (u9000_ : Value) (l0_1 : List Int) (a0_2 : Int) (r1 : Bool) (r2 : List Int) (r3 : Int) (r4 : Int) (w0 w : World) (hB : Below w0.heap.size w0 w) (ho0_1 : Kd.R (Kd.int .u32) 85 w w0.heap.size P0_1_ u9000_ l0_1) (h : dec_settle.f k a0_0 l0_1 a0_2 = some (r1, r2, r3, r4)) :
  Calls Tryz.prog 100 #[.agg #[.bool a0_0, u9000_, .int .i64 a0_2]] w fun e w' => ∃ v1_ : Value, e = .returned (.tuple #[.agg #[.bool r1, v1_, .int .i64 r3], .int .i64 r4]) /\ Kd.R (Kd.int .u32) 85 w' w0.heap.size (fun k_ => (P0_1_ k_ \/ w.heap.size <= k_)) v1_ r2 /\ Below w0.heap.size w0 w' /\ Kept w w' (fun k_ => P0_1_ k_) := by
 have hu106 := Tryz.underlying106
 have hu24 := Tryz.underlying24
 have HO0_1 := am (show Kd.R (Kd.int .u32) 85 w w0.heap.size (fun k_ => (P0_1_ k_ \/ w.heap.size <= k_)) u9000_ l0_1 from Kd.R_mono ho0_1 (fun k_ hk => (.inl hk)))
 have HK := am (Kept.refl w (fun k_ => P0_1_ k_))
 have HW0 := am hB.size
 have HB := am hB
 clear hB
 have H : ((dec_number_zero.f a0_0 l0_1 a0_2).bind fun t279 => (if t279 = true then (some (false, ([] : List Int), 0, 0)) else ((dec_number_strip.f k a0_0 l0_1 a0_2).bind fun bt280 => ((dec_digits.f k bt280.2.1).bind fun t285 => (if t285 > 300 then (some (false, ([] : List Int), 0, 51)) else (if bt280.2.2 < (-1000) then (some (false, ([] : List Int), 0, 52)) else (if bt280.2.2 > 1000 then (some (false, ([] : List Int), 0, 52)) else (some (bt280.1, bt280.2.1, bt280.2.2, 0))))))))) = some (r1, r2, r3, r4) := h
 clear h
 obtain ⟨t279, A2, H⟩ := ob H
 by_cases c3 : t279 = true
 ·subst c3
  rw [if_pos rfl] at H
  simp only [Option.some.injEq, Prod.mk.injEq] at H
  obtain ⟨rfl, rfl, rfl, rfl⟩ := H
  exact dec_settle.leaf
 ·replace c3 := Bool.eq_false_iff.mpr c3
  subst c3
  rw [if_neg (show ¬ (false = true) by decide)] at H
  obtain ⟨⟨t280, t281, t284⟩, A11, H⟩ := ob H; (try dsimp only at H)
  obtain ⟨t285, A12, H⟩ := ob H
  by_cases c13 : t285 > 300
  ·rw [if_pos c13] at H
   have c13b0 : decide (300 < t285) = true := decide_eq_true c13
   clear c13
   simp only [Option.some.injEq, Prod.mk.injEq] at H
   obtain ⟨rfl, rfl, rfl, rfl⟩ := H
   exact dec_settle.leaf
  ·rw [if_neg c13] at H
   have c13b0 : decide (300 < t285) = false := decide_eq_false c13
   clear c13
   by_cases c26 : t284 < (-1000)
   ·rw [if_pos c26] at H
    have c26b0 : decide (t284 < (-1000)) = true := decide_eq_true c26
    clear c26
    simp only [Option.some.injEq, Prod.mk.injEq] at H
    obtain ⟨rfl, rfl, rfl, rfl⟩ := H
    exact dec_settle.leaf
   ·rw [if_neg c26] at H
    have c26b0 : decide (t284 < (-1000)) = false := decide_eq_false c26
    clear c26
    by_cases c40 : t284 > 1000
    ·rw [if_pos c40] at H
     have c40b0 : decide (1000 < t284) = true := decide_eq_true c40
     clear c40
     simp only [Option.some.injEq, Prod.mk.injEq] at H
     obtain ⟨rfl, rfl, rfl, rfl⟩ := H
     exact dec_settle.leaf
    ·rw [if_neg c40] at H
     have c40b0 : decide (1000 < t284) = false := decide_eq_false c40
     clear c40
     simp only [Option.some.injEq, Prod.mk.injEq] at H
     obtain ⟨rfl, rfl, rfl, rfl⟩ := H
     exact dec_settle.leaf
def dec_Settle.j0 : Nat -> Bool -> List Int -> Int -> Bool -> Option (Bool × List Int × Int × Int)
 | 0, _, _, _, _ => none
 | k + 1, x0, x1, x2, x20 => if x20 = true then (some (false, ([] : List Int), 0, 52)) else ((slices_Clone_uint32_uint32.f x1).bind fun t288 => ((dec_settle.f k x0 t288 x2).bind fun bt291 => (some (bt291.1, bt291.2.1, bt291.2.2.1, bt291.2.2.2))))
def dec_Settle.f (k : Nat) (a0 : Bool) (l1 : List Int) (a2 : Int) : Option (Bool × List Int × Int × Int) := (nat_Check.f l1).bind fun t287 => (if t287 = 0 then (if a2 < (-4000) then (dec_Settle.j0 k a0 l1 a2 true) else (dec_Settle.j0 k a0 l1 a2 (decide (a2 > 4000)))) else (some (false, ([] : List Int), 0, t287)))
theorem dec_Settle.calls (k : Nat) (a0 : Bool) (A1 : Option Addr) (c1 : Nat) (l1 : List Int) (a2 : Int) (r1 : Bool) (r2 : List Int) (r3 : Int) (r4 : Int) (w : World) (hr1 : Kd.C (Kd.int .u32) w A1 l1.length l1) (hc1 : l1.length <= c1) (h : dec_Settle.f k a0 l1 a2 = some (r1, r2, r3, r4)) :
  Calls Tryz.prog 60 #[.bool a0, .slice A1 l1.length c1, .int .i64 a2] w fun e w' => ∃ v1_ : Value, e = .returned (.tuple #[.agg #[.bool r1, v1_, .int .i64 r3], .int .i64 r4]) /\ Kd.R (Kd.int .u32) 85 w' w.heap.size (fun _ => True) v1_ r2 /\ Below w.heap.size w w' := by
 have hu24 := Tryz.underlying24
 have hu106 := Tryz.underlying106
 have HR1 := am hr1
 have HC1 := am hc1
 clear hr1 hc1
 have HB := am (Below.refl w.heap.size w)
 have H : ((nat_Check.f l1).bind fun t287 => (if t287 = 0 then (if a2 < (-4000) then (dec_Settle.j0 k a0 l1 a2 true) else (dec_Settle.j0 k a0 l1 a2 (decide (a2 > 4000)))) else (some (false, ([] : List Int), 0, t287)))) = some (r1, r2, r3, r4) := h
 clear h
 obtain ⟨t287, A4, H⟩ := ob H
 by_cases c5 : t287 = 0
 ·rw [if_pos c5] at H
  have c5b0 : (t287 == 0) = true := beq_iff_eq.mpr c5
  have c5b1 : (t287 != 0) = false := bne_eq_false_iff_eq.mpr c5
  clear c5
  have HC6 := am H
  clear H
  go_enter Tryz.func60, Tryz.ntmps60
  go_upto_region 4 with (first | ((with_reducible refine gd 6 ?_); refine bx 6 #[.bool false, .slice none 0 0, .int .i64 0] 24 (h := ?_); intro gb286 hg w7 hbox hb; have BK286 := am hbox; have GW286 := gW hg; have GE286 := gW hg; replace HB := bS hb; clear hb hbox hg) | (refine gL (some 10) Tryz.func108 #[.slice A1 l1.length c1] (h := ?_); (with_reducible refine (nat_Check.calls _ _ l1 t287 _ ?side1 ?side2 A4.out).mono ?_); (case side1 => refine cp ?_; exact (Kd.C_below HR1.out HB.out)); (case side2 => exact HC1.out); rintro e w' ⟨rfl, ⟨nd, rfl⟩⟩; refine ⟨_, rfl, ?_⟩))
  (try simp only [Act.put, List.setIfInBounds_toArray, List.set_cons_zero, List.set_cons_succ])
  go_cut [20] (fun v20 wc => ∃ (kq : Nat) (x20_5 : Bool), v20 = .bool x20_5 /\ Aside0 (dec_Settle.j0 kq a0 l1 a2 x20_5 = some (r1, r2, r3, r4)) /\ Aside0 (kq <= k) /\ Aside0 (wc.heap[gb286]? = some (.cells #[.bool false, (.slice none 0 0), .int .i64 0] 24 (0, 0))) /\ Aside0 (Below w.heap.size w wc))
  case first =>
   have H := HC6.out
   clear HC6
   by_cases c8 : a2 < (-4000)
   ·rw [if_pos c8] at H
    have c8b0 : decide (a2 < (-4000)) = true := decide_eq_true c8
    clear c8
    (first | rw [c8b0] | (simp only [i64_w, i32_w]; rw [c8b0]) | skip)
    have H' := am H
    clear H
    go_wp2
    go_meet
    case rel => exact ⟨_, (true), pR, H', ⟨by first | omega | exact Nat.le_refl _⟩, ⟨blk_below BK286.out pl⟩, ⟨pB⟩⟩
   ·rw [if_neg c8] at H
    have c8b0 : decide (a2 < (-4000)) = false := decide_eq_false c8
    clear c8
    (first | rw [c8b0] | (simp only [i64_w, i32_w]; rw [c8b0]) | skip)
    have H' := am H
    clear H
    go_wp2
    go_meet
    case rel => exact ⟨_, (decide (a2 > 4000)), pR, H', ⟨by first | omega | exact Nat.le_refl _⟩, ⟨blk_below BK286.out pl⟩, ⟨pB⟩⟩
  case rest =>
   clear HC6
   (try clear c1); (try clear c5); (try clear c5b0); (try clear c5b1)
   obtain ⟨kq, x20_5, rfl, HA, HJ5, BK286, HB⟩ := hcut
   cases kq with
   | zero => exact absurd HA.out (by simp [dec_Settle.j0])
   | succ kj5 =>
    have H := HA.out
    clear HA
    simp only [dec_Settle.j0] at H
    by_cases c9 : x20_5 = true
    ·subst c9
     rw [if_pos rfl] at H
     simp only [Option.some.injEq, Prod.mk.injEq] at H
     obtain ⟨rfl, rfl, rfl, rfl⟩ := H
     obtain ⟨hcz10_0, hcz10_1, hcz10_2, hfz10_0, hfz10_1, hfz10_2⟩ := cEc BK286.out
     go_wp2
     refine bodyPost_ret (results_ct rfl _ _ gb286 24 #[.bool false, .slice none 0 0, .int .i64 0] (0, 0) _ rfl (by refine bp ?_; refine blk_put (cs := #[.bool false, .slice none 0 0, .int .i64 0]) ?_ 2 _ rfl; refine bp ?_; refine blk_put (cs := #[.bool false, .slice none 0 0, .int .i64 0]) ?_ 1 _ rfl; refine bp ?_; refine blk_put (cs := #[.bool false, .slice none 0 0, .int .i64 0]) ?_ 0 _ rfl; exact bp BK286.out) Tryz.underlying24 rfl (by kernel_rfl)) rfl ?_
     exact ⟨_, pE, pN, pB⟩
    ·replace c9 := Bool.eq_false_iff.mpr c9
     subst c9
     rw [if_neg (show ¬ (false = true) by decide)] at H
     obtain ⟨t288, A11, H⟩ := ob H
     obtain ⟨⟨t291, t292, t295, t296⟩, A12, H⟩ := ob H; (try dsimp only at H)
     simp only [Option.some.injEq, Prod.mk.injEq] at H
     obtain ⟨rfl, rfl, rfl, rfl⟩ := H
     go_wp2_with (first | (refine gL (some 24) Tryz.func102 #[.slice A1 l1.length c1] (h := ?_); (with_reducible refine (slices_Clone_uint32_uint32.calls _ _ l1 t288 _ ?side1 ?side2 A11.out).mono ?_); (case side1 => refine cp ?_; exact (Kd.C_below HR1.out HB.out)); (case side2 => exact HC1.out); rintro e w13 ⟨v289, rfl, ho0, hb⟩; refine ⟨_, rfl, ?_⟩; have HO290 := am (Kd.R_lower ho0 (below_size pB)); replace BK286 := bb BK286 hb; replace HB := bS hb; (try clear hb); (try clear hb2); (try clear hk); (try clear hi); (try clear ho0); obtain ⟨Ao14, co14, eo14⟩ := Kd.R_slice HO290.out; subst eo14) | (refine gL (some 28) Tryz.func100 #[.agg #[.bool a0, .slice Ao14 t288.length co14, .int .i64 a2]] (h := ?_); (with_reducible refine (dec_settle.calls kj5 a0 (fun k_ => some k_ = (.slice Ao14 t288.length co14 : Value).ownBlock) (.slice Ao14 t288.length co14) t288 a2 t291 t292 t295 t296 w _ ?side1 ?side2 A12.out).mono ?_); (case side1 => exact pB); (case side2 => exact Kd.R_tight rfl HO290.out); rintro e w15 ⟨v293, rfl, ho0, hb, hkp⟩; refine ⟨_, rfl, ?_⟩; have HO294 := am (Kd.R_mono (ok' := fun k_ => True) ho0 (fun k_ hk_ => trivial)); replace BK286 := am (blk_kept (blk_below BK286.out pl) hkp (fun hs_ => (fun e_ => (Kd.R_ne HO290.out BK286.out (by decide)) e_) hs_)); replace HB := am hb; clear HO290; (try clear hb); (try clear hkp); (try clear ho0); obtain ⟨hcz16_0, hcz16_1, hcz16_2, hfz16_0, hfz16_1, hfz16_2⟩ := cEc BK286.out; obtain ⟨Ao17, co17, eo17⟩ := Kd.R_slice HO294.out; subst eo17))
     refine bodyPost_ret (results_ct rfl _ _ gb286 24 #[.bool t291, .slice Ao17 t292.length co17, .int .i64 t295] (0, 0) _ rfl (by refine bp ?_; refine blk_put (cs := #[.bool t291, .slice Ao17 t292.length co17, .int .i64 0]) ?_ 2 _ rfl; refine bp ?_; refine blk_put (cs := #[.bool t291, .slice none 0 0, .int .i64 0]) ?_ 1 _ rfl; refine bp ?_; refine blk_put (cs := #[.bool false, .slice none 0 0, .int .i64 0]) ?_ 0 _ rfl; exact bp BK286.out) Tryz.underlying24 rfl (by kernel_rfl)) rfl ?_
     exact ⟨_, pE, by refine rp ?_; exact Kd.R_mono (Kd.R_far (p := ⟨gb286, 2, none⟩) (Kd.R_far (p := ⟨gb286, 1, none⟩) (Kd.R_far (p := ⟨gb286, 0, none⟩) (Kd.R_types HO294.out BK286.out (by decide)) (fun _ hk => hk.2) (.bool t291)) (fun _ hk => hk.2) (.slice Ao17 t292.length co17)) (fun _ hk => hk.2) (.int .i64 t295)) (fun _ hk => trivial), pB⟩
 ·rw [if_neg c5] at H
  have c5b0 : (t287 == 0) = false := beq_eq_false_iff_ne.mpr c5
  have c5b1 : (t287 != 0) = true := bne_iff_ne.mpr c5
  simp only [Option.some.injEq, Prod.mk.injEq] at H
  obtain ⟨rfl, rfl, rfl, rfl⟩ := H
  go_enter Tryz.func60, Tryz.ntmps60
  go_wp2_with (first | ((with_reducible refine gd 6 ?_); refine bx 6 #[.bool false, .slice none 0 0, .int .i64 0] 24 (h := ?_); intro gb286 hg w18 hbox hb; have BK286 := am hbox; have GW286 := gW hg; have GE286 := gW hg; replace HB := bS hb; clear hb hbox hg) | (refine gL (some 10) Tryz.func108 #[.slice A1 l1.length c1] (h := ?_); (with_reducible refine (nat_Check.calls _ _ l1 t287 _ ?side1 ?side2 A4.out).mono ?_); (case side1 => refine cp ?_; exact (Kd.C_below HR1.out HB.out)); (case side2 => exact HC1.out); rintro e w' ⟨rfl, ⟨nd, rfl⟩⟩; refine ⟨_, rfl, ?_⟩; (try (rw [drewN_self w18]; generalize hq_ : World.drewN w18 _ = w18; replace BK286 : Aside0 (w18.heap[gb286]? = some (.cells #[.bool false, .slice none 0 0, .int .i64 0] 24 (0, 0))) := ⟨by rw [<- hq_]; exact (blk_below BK286.out pl)⟩; replace HB : Aside0 (Below w.heap.size w w18) := ⟨by rw [<- hq_]; exact pB⟩; clear hq_)); obtain ⟨hcz19_0, hcz19_1, hcz19_2, hfz19_0, hfz19_1, hfz19_2⟩ := cEc BK286.out))
  refine bodyPost_ret (results_ct rfl _ _ gb286 24 #[.bool false, .slice none 0 0, .int .i64 0] (0, 0) _ rfl (by refine bp ?_; refine blk_put (cs := #[.bool false, .slice none 0 0, .int .i64 0]) ?_ 2 _ rfl; refine bp ?_; refine blk_put (cs := #[.bool false, .slice none 0 0, .int .i64 0]) ?_ 1 _ rfl; refine bp ?_; refine blk_put (cs := #[.bool false, .slice none 0 0, .int .i64 0]) ?_ 0 _ rfl; exact bp BK286.out) Tryz.underlying24 rfl (by kernel_rfl)) rfl ?_
  exact ⟨_, pE, pN, pB⟩
end YtjbjkmccfocikaaGreatDoor.B
end
section
namespace YtjbjkmccfocikaaGreatDoor.P
open Go.RowKit YtjbjkmccfocikaaGreatDoor.B YtjbjkmccfocikaaGreatDoorW.PrintWords YtjbjkmccfocikaaGreatDoorW.PrintLast YtjbjkmccfocikaaGreatDoorW.PrintMore YtjbjkmccfocikaaGreatDoor.P.Nm
def chr (d : Int) : UInt8 := UInt8.ofNat (48 + d.toNat)
theorem decT_list {n : Nat} (h : n ≠ 0) : (decT n).data.toList = (digs n).reverse.map chr := by
 unfold decT; rw [if_neg h]; rfl
theorem chr_nat {d : Int} (h0 : 0 <= d) (h1 : d < 10) : (chr d).toNat = 48 + d.toNat := by
 unfold chr; simp; omega
theorem decT_size (n : Nat) : (decT n).size = if n = 0 then 1 else nd n := by
 by_cases h : n = 0
 ·subst h; rfl
 ·rw [if_neg h]
  show (decT n).data.size = _
  rw [<- Array.length_toList, decT_list h]; simp [nd]
theorem mk_list {b : ByteArray} {l : List UInt8} (h : b.data.toList = l) : b = ⟨l.toArray⟩ := by
 cases b with | mk d => subst h; rfl
theorem trim_decT {n : Nat} (h : n ≠ 0) : (⟨(Lib.trimRightB (decT n).data.toList 48).toArray⟩ : ByteArray) = decT (core n) := by
 obtain ⟨h1, h2⟩ := tz_is h
 have hc := core_ne h
 symm
 refine mk_list ?_
 rw [decT_list hc, decT_list h]
 unfold Lib.trimRightB
 rw [<- List.map_reverse, List.reverse_reverse]
 have hd : digs n = List.replicate (tz n) 0 ++ digs (core n) := by
  conv => lhs; rw [h1]
  exact digs_shift hc _
 rw [hd, List.map_append, List.map_replicate, digs_step hc, List.map_cons]
 have e0 : chr 0 = 48 := rfl
 have e1 : (chr ((core n % 10 : Nat) : Int) == 48) = false := by
  refine beq_eq_false_iff_ne.2 (fun q => ?_)
  have := congrArg UInt8.toNat q
  rw [chr_nat (by omega) (by omega)] at this
  have e48 : (48 : UInt8).toNat = 48 := rfl
  rw [e48] at this
  omega
 have drop : ∀ k (l : List UInt8), (List.replicate k (48 : UInt8) ++ l).dropWhile (· == 48) = l.dropWhile (· == 48) := fun k l => by
  induction k with
  | zero => rfl
  | succ k ih => rw [List.replicate_succ, List.cons_append, List.dropWhile_cons_of_pos (by rfl), ih]
 rw [e0, drop, List.dropWhile_cons_of_neg (by rw [e1]; simp), List.map_reverse, List.map_cons]
theorem numT_decT (n : Nat) : numT (decT n) = n := by
 by_cases h : n = 0
 ·subst h; rfl
 ·unfold numT
  rw [decT_list h]
  have key : ∀ l : List Int, Dg 10 l -> (((l.reverse.map chr).foldl (fun n c => n * 10 + (c.toNat - 48)) 0 : Nat) : Int) = val 10 l := fun l => by
   induction l with
   | nil => intro _; rfl
   | cons x l ih =>
    intro hd
    have hx := hd.head
    rw [List.reverse_cons, List.map_append, List.foldl_append, List.map_cons, List.map_nil, List.foldl_cons, List.foldl_nil, chr_nat hx.1 hx.2, val_cons, <- ih hd.tail]
    omega
  have := key (digs n) (digs_dg n)
  rw [digs_val] at this
  exact_mod_cast this
theorem decT_dig (n : Nat) : (decT n).data.toList.all isDig = true := by
 by_cases h : n = 0
 ·subst h; rfl
 ·rw [decT_list h, List.all_eq_true]
  intro c hc
  obtain ⟨d, hd, rfl⟩ := List.mem_map.1 hc
  have hx := digs_dg n d (List.mem_reverse.1 hd)
  unfold isDig
  rw [chr_nat hx.1 hx.2]
  simp; omega
theorem ext_list (s : ByteArray) (a b : Nat) : (s.extract a b).data.toList = (s.data.toList.drop a).take (b - a) := by
 rw [ByteArray.data_extract, Array.toList_extract]
def numF (v : Nat) (l : List UInt8) : Nat := l.foldl (fun n c => n * 10 + (c.toNat - 48)) v
theorem numF_nil (v : Nat) : numF v [] = v := rfl
theorem numF_cons (v : Nat) (c : UInt8) (l : List UInt8) : numF v (c :: l) = numF (v * 10 + (c.toNat - 48)) l := by unfold numF; rw [List.foldl_cons]
theorem numF_app (v : Nat) (l m : List UInt8) : numF v (l ++ m) = numF (numF v l) m := by unfold numF; rw [List.foldl_append]
theorem numF_lin : ∀ (l : List UInt8) (v : Nat), numF v l = v * 10 ^ l.length + numF 0 l
 | [], v => by simp [numF]
 | c :: l, v => by
  rw [numF_cons, numF_cons, numF_lin l (v * 10 + _), numF_lin l (0 * 10 + _), List.length_cons, Nat.pow_succ, Nat.add_mul, Nat.zero_mul, Nat.zero_add, Nat.mul_assoc v 10, Nat.mul_comm 10]
  omega
theorem isDig_iff {c : UInt8} : isDig c = true ↔ 48 <= c.toNat /\ c.toNat <= 57 := by unfold isDig; simp
theorem numF_lt : ∀ (l : List UInt8), l.all isDig = true -> numF 0 l < 10 ^ l.length
 | [], _ => by simp [numF]
 | c :: l, h => by
  rw [List.all_cons, Bool.and_eq_true] at h
  have h1 := numF_lt l h.2
  have h2 := isDig_iff.1 h.1
  rw [numF_cons, numF_lin, List.length_cons, Nat.pow_succ]
  have := Nat.mul_le_mul_right (10 ^ l.length) (show 0 * 10 + (c.toNat - 48) <= 9 by omega)
  omega
theorem conv_f (s : ByteArray) (h : s.size <= 9223372036854775807) : conv_bytes146.f s = some (bytesOf s) := by unfold conv_bytes146.f; rw [if_pos h]
theorem bytesOf_getD (s : ByteArray) (i : Nat) (c : UInt8) (r : List UInt8) (h : s.data.toList.drop i = c :: r) : (bytesOf s).getD i 0 = (c.toNat : Int) := by
 unfold bytesOf
 have h2 : s.data.toList[i]? = some c := by
  have := List.getElem?_drop (xs := s.data.toList) (i := i) (j := 0)
  rw [h] at this
  simpa using this.symm
 rw [List.getD, List.getElem?_map, h2]; rfl
theorem piece_l0 (s : ByteArray) (hs : s.data.toList.all isDig = true) (hl : s.data.toList.length <= 9) : ∀ (r : List UInt8) (i v : Nat), s.data.toList.drop i = r -> i <= s.data.toList.length -> v < 10 ^ i -> Tells (fun k => nat_piece.l0 k (v : Int) (bytesOf s) ((bytesOf s).length : Int) (i : Int)) (numF v r : Int)
 | [], i, v, hr, hi, hv => by
  have hlen : (bytesOf s).length = s.data.toList.length := by unfold bytesOf; rw [List.length_map]
  have hge : s.data.toList.length <= i := List.drop_eq_nil_iff.1 hr
  refine Tells.succ ?_
  simp only [nat_piece.l0]
  exact Tells.ifn (by omega) (Tells.pure _)
 | c :: r, i, v, hr, hi, hv => by
  have hlen : (bytesOf s).length = s.data.toList.length := by unfold bytesOf; rw [List.length_map]
  have hlt : i < s.data.toList.length := by
   have := congrArg List.length hr
   rw [List.length_drop, List.length_cons] at this
   omega
  have hc : isDig c = true := List.all_eq_true.1 hs c (List.mem_of_mem_drop (by rw [hr]; exact List.mem_cons_self))
  have hc2 := isDig_iff.1 hc
  have hv9 : v < 100000000 := Nat.lt_of_lt_of_le hv (Nat.le_trans (Nat.pow_le_pow_right (by omega) (show i <= 8 by omega)) (by decide))
  have ih := piece_l0 s hs hl r (i + 1) (v * 10 + (c.toNat - 48)) (by rw [<- List.drop_drop, hr]; rfl) (by omega) (by rw [Nat.pow_succ]; omega)
  have c1 : (i : Int) < ((bytesOf s).length : Int) := by omega
  have c2 : (0 : Int) <= (i : Int) := by omega
  have e1 : (((v : Int) * 10) % 4294967296 + (((c.toNat : Int) - 48) % 256)) % 4294967296 = ((v * 10 + (c.toNat - 48) : Nat) : Int) := by omega
  refine Tells.succ ?_
  simp only [nat_piece.l0]
  rw [rd_n, bytesOf_getD s i c r hr, e1, w64s (by omega)]
  exact Tells.ifp c1 (Tells.ifp c2 (Tells.ifp c1 ih))
theorem piece_tells (s : ByteArray) (hs : s.data.toList.all isDig = true) (hl : s.data.toList.length <= 9) : Tells (fun k => nat_piece.f k s) (numF 0 s.data.toList : Int) := by
 unfold nat_piece.f
 have hsz : s.size = s.data.toList.length := by rw [Array.length_toList]; rfl
 rw [conv_f s (by omega)]
 exact (Tells.pure _).bind (piece_l0 s hs hl s.data.toList 0 0 rfl (by omega) (by simp))
theorem limbs_billion : ([1000000000] : List Int) = limbs 1000000000 := by decide +kernel
theorem trim_one (n : Nat) (h : n < 4294967296) : Tells (fun k => nat_num_trim.f k [(n : Int)]) (limbs n) :=
 trim_limbs (Dg.one (by omega) (by omega)) (by rw [val_one]) (by simp)
theorem all_drop {l : List UInt8} (h : l.all isDig = true) (n : Nat) : (l.drop n).all isDig = true := List.all_eq_true.2 fun x hx => List.all_eq_true.1 h x (List.mem_of_mem_drop hx)
theorem all_take {l : List UInt8} (h : l.all isDig = true) (n : Nat) : (l.take n).all isDig = true := List.all_eq_true.2 fun x hx => List.all_eq_true.1 h x (List.mem_of_mem_take hx)
theorem Parse_l0 : ∀ (f : Nat) (s : ByteArray) (v : Nat), s.data.toList.length <= f -> s.data.toList.all isDig = true -> (v = 0 \/ s.data.toList.length % 9 = 0) -> nd v + s.data.toList.length <= 100000 ->
  Tells (fun k => nat_Parse.l0 k s (limbs v)) (limbs (numF v s.data.toList), 0)
 | f, s, v, hf, hs, hv, hl => by
  have hsz : s.size = s.data.toList.length := by rw [Array.length_toList]; rfl
  by_cases h0 : s.data.toList = []
  ·refine Tells.succ ?_
   simp only [nat_Parse.l0]
   refine Tells.ifp (by rw [<- h0]; exact (Lib.toList_data s)) ((Tells.pure _).val ?_)
   rw [h0, numF_nil]
  ·have hpos : 0 < s.data.toList.length := List.length_pos_iff.2 h0
   obtain ⟨f, rfl⟩ : ∃ g, f = g + 1 := ⟨f - 1, by omega⟩
   obtain ⟨n, hn⟩ : ∃ n, (s.data.toList.length - 1) % 9 + 1 = n := ⟨_, rfl⟩
   have hn9 : n <= 9 := by omega
   have hnl : n <= s.data.toList.length := by omega
   have hT : (s.extract 0 n).data.toList = s.data.toList.take n := by rw [ext_list]; simp
   have hD : (s.extract n s.size).data.toList = s.data.toList.drop n := by
    rw [ext_list, hsz, List.take_of_length_le (by rw [List.length_drop]; omega)]
   have hp := piece_tells (s.extract 0 n) (by rw [hT]; exact all_take hs n) (by rw [hT, List.length_take]; omega)
   rw [hT] at hp
   have hpl := numF_lt (s.data.toList.take n) (all_take hs n)
   obtain ⟨p, hpp⟩ : ∃ p, numF 0 (s.data.toList.take n) = p := ⟨_, rfl⟩
   rw [hpp] at hp hpl
   rw [List.length_take, Nat.min_eq_left hnl] at hpl
   have hp9 : p < 1000000000 := Nat.lt_of_lt_of_le hpl (Nat.le_trans (Nat.pow_le_pow_right (by omega) hn9) (by decide))
   have hv2 : v * 1000000000 + p = numF v (s.data.toList.take n) := by
    rw [numF_lin, hpp, List.length_take, Nat.min_eq_left hnl]
    rcases hv with h | h
    ·rw [h]; simp
    ·rw [show n = 9 by omega]
   have hndv : nd (v * 1000000000 + p) <= nd v + 9 := by
    refine nd_le ?_
    have := nd_lt v
    rw [Nat.pow_add]
    have h9 : (10 : Nat) ^ 9 = 1000000000 := by decide
    rw [h9]
    have := Nat.mul_le_mul_right 1000000000 (show v + 1 <= 10 ^ nd v by omega)
    omega
   have hv0 : v = 0 -> nd (v * 1000000000 + p) <= n := fun e => by
    subst e
    rw [Nat.zero_mul, Nat.zero_add]
    exact nd_le hpl
   have hndb : nd 1000000000 <= 10 := nd_le (by decide)
   have hndp : nd p <= 9 := nd_le hp9
   have hm := mul_limbs (m := v) (n := 1000000000) (by omega) (by omega)
   have ha := add_limbs (m := v * 1000000000) (n := p) (Nat.le_trans (nd_mono (Nat.le_add_right _ p)) (by omega)) (by omega)
   have ih := Parse_l0 f (s.extract n s.size) (v * 1000000000 + p) (by rw [hD, List.length_drop]; omega) (by rw [hD]; exact all_drop hs n) (.inr (by rw [hD, List.length_drop]; omega)) (by
    rw [hD, List.length_drop]
    rcases hv with h | h
    ·have := hv0 h; omega
    ·have : n = 9 := by omega
     omega)
   rw [hD] at ih
   have ih := ih.val (u := (limbs (numF v s.data.toList), 0)) (by rw [hv2, <- numF_app, List.take_append_drop])
   have e1 : (s.size : Int) - 1 = ((s.data.toList.length - 1 : Nat) : Int) := by omega
   have e2 : Int.tmod ((s.data.toList.length - 1 : Nat) : Int) 9 = (((s.data.toList.length - 1) % 9 : Nat) : Int) := by rw [Int.tmod_eq_emod_of_nonneg (by omega)]; omega
   have c1 : (0 : Int) <= (n : Int) := by omega
   have c2 : (n : Int) <= (s.size : Int) := by omega
   refine Tells.succ ?_
   simp only [nat_Parse.l0]
   rw [e1, w64c (by omega), e2, w64s (by omega), hn, Int.toNat_natCast, limbs_billion]
   refine Tells.ifn (fun q => h0 (by rw [<- Lib.toList_data s]; exact q)) (hm.bind (Tells.ifp c1 (Tells.ifp c2 (hp.bind ((trim_one p (by omega)).bind (ha.bind ih))))))
theorem any_digits (s : ByteArray) (h : s.data.toList.all isDig = true) : nat_Parse_any.f (bytesOf s) = some false := by
 unfold nat_Parse_any.f
 rw [anyO_some (fun x => decide (x < 48) || decide (57 < x)) (bytesOf s) (fun x _ => by
  unfold nat_Parse_1.f
  by_cases h1 : x < 48
  ·rw [if_pos h1, decide_eq_true h1]; rfl
  ·rw [if_neg h1, decide_eq_false h1]; rfl)]
 congr 1
 rw [List.any_eq_false]
 intro x hx
 unfold bytesOf at hx
 obtain ⟨c, hc, rfl⟩ := List.mem_map.1 hx
 have := isDig_iff.1 (List.all_eq_true.1 h c hc)
 simp; omega
theorem Parse_tells (s : ByteArray) (h : s.data.toList.all isDig = true) (h0 : 0 < s.size) (h1 : s.size <= 2400) : Tells (fun k => nat_Parse.f k s) (limbs (numF 0 s.data.toList), 0) := by
 have hsz : s.size = s.data.toList.length := by rw [Array.length_toList]; rfl
 unfold nat_Parse.f
 rw [conv_f s (by omega)]
 refine Tells.ifn (by omega) (Tells.ifn (by omega) ((Tells.pure _).bind ?_))
 rw [any_digits s h]
 exact (Tells.pure _).bind (Tells.ifn (by simp) (Parse_l0 _ s 0 (Nat.le_refl _) h (.inl rfl) (by rw [nd_zero]; omega)))
theorem Parse_decT {n : Nat} (h : nd n <= 2400) : Tells (fun k => nat_Parse.f k (decT n)) (limbs n, 0) := by
 have hs := decT_size n
 have hpos : 0 < (decT n).size := by
  rw [hs]; split
  ·omega
  ·rename_i h0; exact nd_pos h0
 have hle : (decT n).size <= 2400 := by rw [hs]; split <;> omega
 refine (Parse_tells (decT n) (decT_dig n) hpos hle).val ?_
 rw [show numF 0 (decT n).data.toList = n from numT_decT n]
theorem zero_f (a : Bool) (n : Nat) (e : Int) : dec_number_zero.f a (limbs n) e = some (decide (n = 0)) := by
 unfold dec_number_zero.f
 congr 1
 by_cases h : n = 0
 ·subst h; rfl
 ·have : 0 < (limbs n).length := List.length_pos_iff.2 (limbs_ne h)
  rw [decide_eq_false h]
  exact beq_eq_false_iff_ne.2 (by omega)
theorem digits_tells {n : Nat} (h : (limbs n).length <= 256) : Tells (fun k => dec_digits.f k (limbs n)) (nd n : Int) := by
 unfold dec_digits.f
 refine (Print_tells h).bind ?_
 by_cases h0 : n = 0
 ·subst h0
  exact Tells.ifp rfl (Tells.pure _)
 ·have hl : 0 < (limbs n).length := List.length_pos_iff.2 (limbs_ne h0)
  refine Tells.ifn (by omega) ((Tells.pure _).val ?_)
  rw [decT_size, if_neg h0]
theorem core_len {n : Nat} (h : (limbs n).length <= 256) : (limbs (core n)).length <= 256 := by
 refine limbs_len_of (Nat.lt_of_le_of_lt (core_le n) (Nat.lt_of_lt_of_le (limbs_lt n) (Nat.pow_le_pow_right (by omega) h)))
theorem strip_tells (a : Bool) {n : Nat} (e : Int) (h0 : n ≠ 0) (h : (limbs n).length <= 256) (hd : nd n <= 2400) (he1 : -1000000000 <= e) (he2 : e <= 1000000000) : Tells (fun k => dec_number_strip.f k a (limbs n) e) (a, limbs (core n), e + tz n) := by
 have hs := decT_size n
 have hs2 := decT_size (core n)
 have hnc := nd_core h0
 rw [if_neg h0] at hs
 rw [if_neg (core_ne h0)] at hs2
 unfold dec_number_strip.f dec_must2.f dec_must.f strings_TrimRight.f
 refine (Print_tells h).bind ((Tells.pure _).bind ?_)
 rw [if_pos ⟨rfl, by show (decT n).size <= _; omega⟩]
 refine (Tells.pure _).bind ?_
 simp only [trim_decT h0]
 by_cases ht : tz n = 0
 ·have hc : core n = n := by
   have := (tz_is h0).1
   rw [ht, Nat.pow_zero, Nat.mul_one] at this
   exact this.symm
  refine Tells.ifp (by rw [hc]) ((Tells.pure _).val ?_)
  rw [hc, ht]; simp
 ·refine Tells.ifn (by omega) ?_
  have e1 : ((decT n).size : Int) - ((decT (core n)).size : Int) = (tz n : Int) := by omega
  refine (Parse_decT (by omega)).bind ((Tells.pure _).bind ((Tells.pure _).val ?_))
  rw [e1, w64c (m := tz n) (by omega), w64n (by omega) (by omega)]
theorem settle_tells (a : Bool) {n : Nat} (e : Int) (h : (limbs n).length <= 256) (hd : nd n <= 2400) (he1 : -1000000000 <= e) (he2 : e <= 1000000000) : Tells (fun k => dec_settle.f k a (limbs n) e) (outD (settleD ⟨a, n, e⟩)) := by
 unfold dec_settle.f settleD
 rw [zero_f]
 refine (Tells.pure _).bind ?_
 simp only
 by_cases h0 : n = 0
 ·subst h0
  exact Tells.ifp rfl (Tells.pure _)
 ·rw [if_neg h0]
  have hcd := nd_core h0
  refine Tells.ifn (by simp [h0]) ((strip_tells a e h0 h hd he1 he2).bind ((digits_tells (core_len h)).bind ?_))
  dsimp only
  by_cases h3 : 300 < nd (core n)
  ·rw [if_pos h3]
   exact Tells.ifp (by omega) (Tells.pure _)
  ·rw [if_neg h3]
   refine Tells.ifn (by omega) ?_
   by_cases h4 : e + tz n < -1000
   ·exact (Tells.ifp h4 (Tells.pure _)).val (by rw [if_pos (Or.inl h4)]; rfl)
   ·refine Tells.ifn h4 ?_
    by_cases h5 : 1000 < e + tz n
    ·exact (Tells.ifp h5 (Tells.pure _)).val (by rw [if_pos (Or.inr h5)]; rfl)
    ·exact (Tells.ifn h5 (Tells.pure _)).val (by rw [if_neg (by omega)])
theorem ten_tells {n : Nat} (h : (limbs n).length <= 256) : Tells (fun k => dec_ten.f k (limbs n)) (limbs (n / 10), decide (n % 10 = 0)) := by
 unfold dec_ten.f
 have h10 : (limbs 10).length <= 256 := by decide +kernel
 refine (From_tells 10 (by omega)).bind ((Div_tells h h10).bind ((Tells.pure _).val ?_))
 rw [if_neg (by omega)]
 dsimp only
 congr 1
 by_cases h0 : n % 10 = 0
 ·rw [h0]; rfl
 ·have : 0 < (limbs (n % 10)).length := List.length_pos_iff.2 (limbs_ne h0)
  rw [decide_eq_false h0]
  exact beq_eq_false_iff_ne.2 (by omega)
theorem DCheck_tells (a : Bool) (l : List Int) (e : Int) (hd : Dg 4294967296 l) (hl : l.length <= 9223372036854775807) : Tells (fun k => dec_Check.f k a l e) (chk a l e) := by
 unfold dec_Check.f
 rw [Check_tells l hl]
 refine (Tells.pure _).bind ?_
 have bad : chk a l e = 9 -> Tells (fun k => dec_Check.j0 k true a l e) (chk a l e) := fun h => by
  rw [h]
  refine Tells.succ ?_
  simp only [dec_Check.j0]
  exact Tells.ifp trivial (Tells.pure _)
 by_cases hc : chkL l = 0
 ·refine Tells.ifp hc ?_
  by_cases h40 : l.length <= 40
  ·rw [decide_eq_false (show ¬ ((l.length : Int) > 40) by omega)]
   have hok := (chkL_ok hd).1 hc
   obtain ⟨n, hn⟩ : ∃ n, num l = n := ⟨_, rfl⟩
   have hln : l = limbs n := by rw [<- hn]; exact (limbs_num hok).symm
   have hchk : chk a l e = if okB ⟨a, n, e⟩ = true then 0 else 9 := by
    unfold chk
    rw [hn]
    by_cases h : okB ⟨a, n, e⟩ = true
    ·rw [if_pos ⟨hc, h40, h⟩, if_pos h]
    ·rw [if_neg (fun q => h q.2.2), if_neg h]
   rw [hchk]
   subst hln
   have h256 : (limbs n).length <= 256 := by omega
   unfold okB
   simp only
   refine Tells.succ ?_
   simp only [dec_Check.j0]
   refine Tells.ifn (by simp) ?_
   by_cases h0 : n = 0
   ·subst h0
    rw [if_pos rfl]
    refine Tells.ifp rfl ?_
    cases a
    ·refine Tells.ifn (by simp) ?_
     by_cases he : e = 0
     ·subst he; exact Tells.ifp rfl (Tells.pure _)
     ·refine Tells.ifn he ((Tells.pure _).val ?_)
      simp [he]
    ·exact Tells.ifp rfl (Tells.pure _)
   ·have hpos : 0 < (limbs n).length := List.length_pos_iff.2 (limbs_ne h0)
    rw [if_neg h0]
    refine Tells.ifn (by omega) ((ten_tells h256).bind ?_)
    dsimp only
    by_cases hz : n % 10 = 0
    ·rw [decide_eq_false (not_not_intro hz)]
     exact Tells.ifp (decide_eq_true hz) (Tells.pure _)
    ·rw [decide_eq_true hz]
     refine Tells.ifn (by simp [hz]) ((digits_tells h256).bind ?_)
     by_cases h3 : nd n <= 300
     ·rw [decide_eq_true h3]
      refine Tells.ifn (by omega) ?_
      by_cases h4 : e < -1000
      ·rw [decide_eq_false (show ¬ (-1000 <= e) by omega)]
       exact Tells.ifp h4 (Tells.pure _)
      ·rw [decide_eq_true (show -1000 <= e by omega)]
       refine Tells.ifn h4 ?_
       by_cases h5 : 1000 < e
       ·rw [decide_eq_false (show ¬ (e <= 1000) by omega)]
        exact Tells.ifp h5 (Tells.pure _)
       ·rw [decide_eq_true (show e <= 1000 by omega)]
        exact Tells.ifn h5 (Tells.pure _)
     ·rw [decide_eq_false h3]
      exact Tells.ifp (by omega) (Tells.pure _)
  ·rw [decide_eq_true (show ((l.length : Int) > 40) by omega)]
   exact bad (by unfold chk; rw [if_neg (fun q => h40 q.2.1)])
 ·exact Tells.ifn hc (bad (by unfold chk; rw [if_neg (fun q => hc q.1)]))
theorem len_nd {n : Nat} (h : nd n <= 2304) : (limbs n).length <= 256 := limbs_len9 (by omega)
theorem clone_f (l : List Int) (h : l.length <= 10000) : slices_Clone_uint32_uint32.f l = some l := by unfold slices_Clone_uint32_uint32.f; rw [if_pos (by omega)]
theorem DSettle_tells (s : Bool) (n : Nat) (e : Int) (h : (limbs n).length <= 256) (hd : nd n <= 2400) : Tells (fun k => dec_Settle.f k s (limbs n) e) (if e < -4000 \/ 4000 < e then (false, [], 0, 52) else outD (settleD ⟨s, n, e⟩)) := by
 have bad : Tells (fun k => dec_Settle.j0 k s (limbs n) e true) (false, [], 0, 52) := by
  refine Tells.succ ?_
  simp only [dec_Settle.j0]
  exact Tells.ifp trivial (Tells.pure _)
 unfold dec_Settle.f
 rw [chkN h]
 refine (Tells.pure _).bind (Tells.ifp rfl ?_)
 by_cases h1 : e < -4000
 ·rw [if_pos (.inl h1)]
  exact Tells.ifp h1 bad
 ·refine Tells.ifn h1 ?_
  by_cases h2 : 4000 < e
  ·rw [if_pos (.inr h2), decide_eq_true (show e > 4000 from h2)]
   exact bad
  ·rw [if_neg (by omega), decide_eq_false (show ¬ (e > 4000) from h2)]
   refine Tells.succ ?_
   simp only [dec_Settle.j0]
   rw [clone_f _ (by omega)]
   exact Tells.ifn (by simp) ((Tells.pure _).bind ((settle_tells s e h hd (by omega) (by omega)).bind (Tells.pure _)))
end YtjbjkmccfocikaaGreatDoor.P
end
section
namespace YtjbjkmccfocikaaGreatDoor.B
open Go.RowKit Go.Shelf YtjbjkmccfocikaaGreatDoorW.PrintWords
theorem add_at (b o j : Nat) : (⟨b, o, none⟩ : Addr).add j = ⟨b, o + j, none⟩ := by unfold Addr.add; split <;> simp_all
end YtjbjkmccfocikaaGreatDoor.B
end
section
namespace YtjbjkmccfocikaaGreatDoor.B
open Go.RowKit YtjbjkmccfocikaaGreatDoorW.PrintWords YtjbjkmccfocikaaGreatDoorW.PrintLast YtjbjkmccfocikaaGreatDoorW.PrintMore
attribute [local go_sem] max2_int min2_int max_two min_two max_three min_three max_four min_four
def bolterref02_digit.f (a0 : ByteArray) (a1 : Int) : Option (Bool) := if a1 < (a0.size : Int) then (if 0 <= a1 then (if (bt a0 a1) >= 48 then (some (decide ((bt a0 a1) <= 57))) else (some false)) else (none)) else (some false)
theorem bolterref02_digit.calls (a0 : ByteArray) (a1 : Int) (r : Bool) (w : World) (h : bolterref02_digit.f a0 a1 = some r) :
  Calls Tryz.prog 153 #[.string a0, .int .i64 a1] w fun e w' => e = .returned (.bool r) /\ Drawn0 w w' := by
 have H : (if a1 < (a0.size : Int) then (if 0 <= a1 then (if (bt a0 a1) >= 48 then (some (decide ((bt a0 a1) <= 57))) else (some false)) else (none)) else (some false)) = some r := h
 clear h
 by_cases c3 : a1 < (a0.size : Int)
 ·rw [if_pos c3] at H
  have c3b0 : decide (a1 < (a0.size : Int)) = true := decide_eq_true c3
  clear c3
  by_cases c4 : 0 <= a1
  ·rw [if_pos c4] at H
   have c4b0 : decide (0 <= a1) = true := decide_eq_true c4
   clear c4
   by_cases c6 : (bt a0 a1) >= 48
   ·rw [if_pos c6] at H
    have c6b0 : decide (48 <= (bt a0 a1)) = true := decide_eq_true c6
    clear c6
    obtain rfl := Option.some.inj H
    have p5 : 0 <= (a1 : Int) := of_decide_eq_true pQ
    have q5 : a1 < (a0.size : Int) := of_decide_eq_true pQ
    have hx5 := bt_at a0 a1
    replace p5 := eq_true p5
    replace q5 := eq_true q5
    have p7 : 0 <= (a1 : Int) := of_decide_eq_true pQ
    have q7 : a1 < (a0.size : Int) := of_decide_eq_true pQ
    have hx7 := bt_at a0 a1
    replace p7 := eq_true p7
    replace q7 := eq_true q7
    go_enter Tryz.func153, Tryz.ntmps153
    go_wp2
    go_ret
    exact ⟨pR, pD⟩
   ·rw [if_neg c6] at H
    have c6b0 : decide (48 <= (bt a0 a1)) = false := decide_eq_false c6
    clear c6
    obtain rfl := Option.some.inj H
    have p5 : 0 <= (a1 : Int) := of_decide_eq_true pQ
    have q5 : a1 < (a0.size : Int) := of_decide_eq_true pQ
    have hx5 := bt_at a0 a1
    replace p5 := eq_true p5
    replace q5 := eq_true q5
    go_enter Tryz.func153, Tryz.ntmps153
    go_wp2
    go_ret
    exact ⟨pR, pD⟩
  ·rw [if_neg c4] at H
   exact absurd H (by simp)
 ·rw [if_neg c3] at H
  have c3b0 : decide (a1 < (a0.size : Int)) = false := decide_eq_false c3
  clear c3
  obtain rfl := Option.some.inj H
  go_enter Tryz.func153, Tryz.ntmps153
  go_wp2
  go_ret
  exact ⟨pR, pD⟩
mutual
def bolterref02_Ends.j0 : Nat -> ByteArray -> Int -> Bool -> Option (Int × Bool)
 | 0, _, _, _ => none
 | k + 1, x0, x1, x15 => if x15 = true then (bolterref02_Ends.j1 k x0 (wrap64 (x1 + 1))) else (bolterref02_Ends.j1 k x0 x1)
def bolterref02_Ends.j1 : Nat -> ByteArray -> Int -> Option (Int × Bool)
 | 0, _, _ => none
 | k + 1, x0, x1 => (bolterref02_digit.f x0 x1).bind fun t534 => (if t534 = true then (if 0 <= x1 then (if x1 < (x0.size : Int) then (if (bt x0 x1) = 48 then (bolterref02_Ends.j3 k x0 (wrap64 (x1 + 1))) else (bolterref02_Ends.l0 k x0 x1)) else (none)) else (none)) else (some (x1, false)))
def bolterref02_Ends.j3 : Nat -> ByteArray -> Int -> Option (Int × Bool)
 | 0, _, _ => none
 | k + 1, x0, x1 => if x1 < (x0.size : Int) then (if 0 <= x1 then (bolterref02_Ends.j4 k x0 x1 ((bt x0 x1) == 46)) else (none)) else (bolterref02_Ends.j4 k x0 x1 false)
def bolterref02_Ends.j4 : Nat -> ByteArray -> Int -> Bool -> Option (Int × Bool)
 | 0, _, _, _ => none
 | k + 1, x0, x1, x43 => if x43 = true then ((bolterref02_digit.f x0 (wrap64 (x1 + 1))).bind fun t536 => (if t536 = true then (bolterref02_Ends.l1 k x0 (wrap64 (x1 + 1))) else (some (wrap64 (x1 + 1), false)))) else (bolterref02_Ends.j6 k x0 x1)
def bolterref02_Ends.j6 : Nat -> ByteArray -> Int -> Option (Int × Bool)
 | 0, _, _ => none
 | k + 1, x0, x1 => if x1 < (x0.size : Int) then (if 0 <= x1 then (if (bt x0 x1) = 101 then (bolterref02_Ends.j7 k x0 x1 true) else (bolterref02_Ends.j7 k x0 x1 ((bt x0 x1) == 69))) else (none)) else (bolterref02_Ends.j7 k x0 x1 false)
def bolterref02_Ends.j7 : Nat -> ByteArray -> Int -> Bool -> Option (Int × Bool)
 | 0, _, _, _ => none
 | k + 1, x0, x1, x71 => if x71 = true then (if (wrap64 (x1 + 1)) < (x0.size : Int) then (if 0 <= (wrap64 (x1 + 1)) then (if (bt x0 (wrap64 (x1 + 1))) = 43 then (bolterref02_Ends.j8 k x0 (wrap64 (x1 + 1)) true) else (bolterref02_Ends.j8 k x0 (wrap64 (x1 + 1)) ((bt x0 (wrap64 (x1 + 1))) == 45))) else (none)) else (bolterref02_Ends.j8 k x0 (wrap64 (x1 + 1)) false)) else (some (x1, true))
def bolterref02_Ends.j8 : Nat -> ByteArray -> Int -> Bool -> Option (Int × Bool)
 | 0, _, _, _ => none
 | k + 1, x0, x1, x89 => if x89 = true then (bolterref02_Ends.j9 k x0 (wrap64 (x1 + 1))) else (bolterref02_Ends.j9 k x0 x1)
def bolterref02_Ends.j9 : Nat -> ByteArray -> Int -> Option (Int × Bool)
 | 0, _, _ => none
 | k + 1, x0, x1 => (bolterref02_digit.f x0 x1).bind fun t538 => (if t538 = true then (bolterref02_Ends.l2 k x0 x1) else (some (x1, false)))
def bolterref02_Ends.l2 : Nat -> ByteArray -> Int -> Option (Int × Bool)
 | 0, _, _ => none
 | k + 1, x0, x1 => (bolterref02_digit.f x0 x1).bind fun t539 => (if t539 = true then (bolterref02_Ends.l2 k x0 (wrap64 (x1 + 1))) else (some (x1, true)))
def bolterref02_Ends.l1 : Nat -> ByteArray -> Int -> Option (Int × Bool)
 | 0, _, _ => none
 | k + 1, x0, x1 => (bolterref02_digit.f x0 x1).bind fun t537 => (if t537 = true then (bolterref02_Ends.l1 k x0 (wrap64 (x1 + 1))) else (bolterref02_Ends.j6 k x0 x1))
def bolterref02_Ends.l0 : Nat -> ByteArray -> Int -> Option (Int × Bool)
 | 0, _, _ => none
 | k + 1, x0, x1 => (bolterref02_digit.f x0 x1).bind fun t535 => (if t535 = true then (bolterref02_Ends.l0 k x0 (wrap64 (x1 + 1))) else (bolterref02_Ends.j3 k x0 x1))
end
def bolterref02_Ends.f (k : Nat) (a0 : ByteArray) (a1 : Int) : Option (Int × Bool) := if a1 < (a0.size : Int) then (if 0 <= a1 then (bolterref02_Ends.j0 k a0 a1 ((bt a0 a1) == 45)) else (none)) else (bolterref02_Ends.j0 k a0 a1 false)
theorem bolterref02_Ends.calls (k : Nat) (a0 : ByteArray) (a1 : Int) (r1 : Int) (r2 : Bool) (w : World) (h : bolterref02_Ends.f k a0 a1 = some (r1, r2)) :
  Calls Tryz.prog 117 #[.string a0, .int .i64 a1] w fun e w' => e = .returned (.tuple #[.int .i64 r1, .bool r2]) /\ Drawn0 w w' := by
 have H : (if a1 < (a0.size : Int) then (if 0 <= a1 then (bolterref02_Ends.j0 k a0 a1 ((bt a0 a1) == 45)) else (none)) else (bolterref02_Ends.j0 k a0 a1 false)) = some (r1, r2) := h
 clear h
 have HC3 := am H
 clear H
 go_enter Tryz.func117, Tryz.ntmps117
 go_upto_region 1 with (fail)
 go_cut [15] (fun v15 wc => ∃ (kq : Nat) (x15_2 : Bool), v15 = .bool x15_2 /\ Aside0 (bolterref02_Ends.j0 kq a0 a1 x15_2 = some (r1, r2)) /\ Aside0 (kq <= k) /\ Drawn0 w wc)
 case first =>
  have H := HC3.out
  clear HC3
  by_cases c4 : a1 < (a0.size : Int)
  ·rw [if_pos c4] at H
   have c4b0 : decide (a1 < (a0.size : Int)) = true := decide_eq_true c4
   clear c4
   (first | rw [c4b0] | (simp only [i64_w, i32_w]; rw [c4b0]) | skip)
   by_cases c5 : 0 <= a1
   ·rw [if_pos c5] at H
    have c5b0 : decide (0 <= a1) = true := decide_eq_true c5
    clear c5
    have H' := am H
    clear H
    have p6 : 0 <= (a1 : Int) := of_decide_eq_true pQ
    have q6 : a1 < (a0.size : Int) := of_decide_eq_true pQ
    have hx6 := bt_at a0 a1
    replace p6 := eq_true p6
    replace q6 := eq_true q6
    go_wp2
    go_meet
    case rel => exact ⟨_, (((bt a0 a1) == 45)), pR, H', ⟨by first | omega | exact Nat.le_refl _⟩, pD⟩
   ·rw [if_neg c5] at H
    exact absurd H (by simp)
  ·rw [if_neg c4] at H
   have c4b0 : decide (a1 < (a0.size : Int)) = false := decide_eq_false c4
   clear c4
   (first | rw [c4b0] | (simp only [i64_w, i32_w]; rw [c4b0]) | skip)
   have H' := am H
   clear H
   go_wp2
   go_meet
   case rel => exact ⟨_, (false), pR, H', ⟨by first | omega | exact Nat.le_refl _⟩, pD⟩
 case rest =>
  clear HC3
  obtain ⟨kq, x15_2, rfl, HA, HJ2, ⟨mc2, rfl⟩⟩ := hcut
  cases kq with
  | zero => exact absurd HA.out (by simp [bolterref02_Ends.j0])
  | succ kj2 =>
   have H := HA.out
   clear HA
   simp only [bolterref02_Ends.j0] at H
   have HC7 := am H
   clear H
   go_upto_if 15 with (fail)
   go_cut [1] (fun v1 wc => ∃ (kq : Nat) (x1_6 : Int), v1 = .int .i64 x1_6 /\ Aside0 (bolterref02_Ends.j1 kq a0 x1_6 = some (r1, r2)) /\ Aside0 (kq <= kj2) /\ Drawn0 w wc)
   case first =>
    have H := HC7.out
    clear HC7
    by_cases c8 : x15_2 = true
    ·subst c8
     rw [if_pos rfl] at H
     have H' := am H
     clear H
     go_wp2
     go_meet
     case rel => exact ⟨_, (wrap64 (a1 + 1)), pR, H', ⟨by have := HJ2.out; first | omega | exact Nat.le_refl _⟩, pD⟩
    ·replace c8 := Bool.eq_false_iff.mpr c8
     subst c8
     rw [if_neg (show ¬ (false = true) by decide)] at H
     have H' := am H
     clear H
     go_wp2
     go_meet
     case rel => exact ⟨_, (a1), pR, H', ⟨by have := HJ2.out; first | omega | exact Nat.le_refl _⟩, pD⟩
   case rest =>
    clear HC7
    obtain ⟨kq, x1_6, rfl, HA, HJ6, ⟨mc6, rfl⟩⟩ := hcut
    cases kq with
    | zero => exact absurd HA.out (by simp [bolterref02_Ends.j1])
    | succ kj6 =>
     have H := HA.out
     clear HA
     simp only [bolterref02_Ends.j1] at H
     obtain ⟨t534, A9, H⟩ := ob H
     by_cases c10 : t534 = true
     ·subst c10
      rw [if_pos rfl] at H
      by_cases c11 : 0 <= x1_6
      ·rw [if_pos c11] at H
       have c11b0 : decide (0 <= x1_6) = true := decide_eq_true c11
       clear c11
       by_cases c12 : x1_6 < (a0.size : Int)
       ·rw [if_pos c12] at H
        have c12b0 : decide (x1_6 < (a0.size : Int)) = true := decide_eq_true c12
        clear c12
        have HC14 := am H
        clear H
        go_upto_if 26 with (first | (refine gL (some 20) Tryz.func153 #[.string a0, .int .i64 x1_6] (h := ?_); (with_reducible refine (bolterref02_digit.calls a0 x1_6 true _ A9.out).mono ?_); rintro e w' ⟨rfl, ⟨nd, rfl⟩⟩; refine ⟨_, rfl, ?_⟩; have p13 : 0 <= (x1_6 : Int) := of_decide_eq_true pQ; have q13 : x1_6 < (a0.size : Int) := of_decide_eq_true pQ; have hx13 := bt_at a0 x1_6; replace p13 := eq_true p13; replace q13 := eq_true q13))
        (try simp only [Act.put, List.setIfInBounds_toArray, List.set_cons_zero, List.set_cons_succ])
        go_cut [1] (fun v1 wc => ∃ (kq : Nat) (x1_13 : Int), v1 = .int .i64 x1_13 /\ Aside0 (bolterref02_Ends.j3 kq a0 x1_13 = some (r1, r2)) /\ Aside0 (kq <= kj6) /\ Drawn0 w wc)
        case first =>
         have H := HC14.out
         clear HC14
         by_cases c15 : (bt a0 x1_6) = 48
         ·rw [if_pos c15] at H
          have c15b0 : ((bt a0 x1_6) == 48) = true := beq_iff_eq.mpr c15
          have c15b1 : ((bt a0 x1_6) != 48) = false := bne_eq_false_iff_eq.mpr c15
          clear c15
          (first | rw [c15b0] | (simp only [i64_w, i32_w]; rw [c15b0]) | skip)
          have H' := am H
          clear H
          go_wp2
          go_meet
          case rel => exact ⟨_, (wrap64 (x1_6 + 1)), pR, H', ⟨by have := HJ2.out; have := HJ6.out; first | omega | exact Nat.le_refl _⟩, pD⟩
         ·rw [if_neg c15] at H
          have c15b0 : ((bt a0 x1_6) == 48) = false := beq_eq_false_iff_ne.mpr c15
          have c15b1 : ((bt a0 x1_6) != 48) = true := bne_iff_ne.mpr c15
          (first | rw [c15b0] | (simp only [i64_w, i32_w]; rw [c15b0]) | skip)
          have H' := am H
          clear H
          go_wp2
          go_loopg [1] kj6 (fun kq v1 w' => ∃ (x1_3 : Int), v1 = .int .i64 x1_3 /\ Aside0 (bolterref02_Ends.l0 kq a0 x1_3 = some (r1, r2)) /\ Aside0 (kq <= kj6) /\ Drawn0 w w')
          case atStart => exact ⟨(x1_6), pR, H', ⟨Nat.le_refl _⟩, pD⟩
          case round =>
           clear H'
           (try clear c10); (try clear c11); (try clear c11b0); (try clear c12); (try clear c12b0); (try clear p13); (try clear q13); (try clear hx13); (try clear c15); (try clear c15b0); (try clear c15b1); (try clear p13); (try clear q13)
           obtain ⟨x1_3, rfl, HA, HK3, ⟨m3, rfl⟩⟩ := hrel
           cases gk with
           | zero => exact absurd HA.out (by simp [bolterref02_Ends.l0])
           | succ k3 =>
            have H := HA.out
            clear HA
            simp only [bolterref02_Ends.l0] at H
            obtain ⟨t535, A16, H⟩ := ob H
            by_cases c17 : t535 = true
            ·subst c17
             rw [if_pos rfl] at H
             have H' := am H
             clear H
             go_wp2_with (first | (refine gL (some 31) Tryz.func153 #[.string a0, .int .i64 x1_3] (h := ?_); (with_reducible refine (bolterref02_digit.calls a0 x1_3 true _ A16.out).mono ?_); rintro e w' ⟨rfl, ⟨nd, rfl⟩⟩; refine ⟨_, rfl, ?_⟩))
             go_roundg k3
             case measure => have := HJ2.out; have := HJ6.out; have := HK3.out; omega
             case rel => exact ⟨(wrap64 (x1_3 + 1)), pR, H', ⟨by have := HJ2.out; have := HJ6.out; have := HK3.out; omega⟩, pD⟩
            ·replace c17 := Bool.eq_false_iff.mpr c17
             subst c17
             rw [if_neg (show ¬ (false = true) by decide)] at H
             have H' := am H
             clear H
             go_wp2_with (first | (refine gL (some 31) Tryz.func153 #[.string a0, .int .i64 x1_3] (h := ?_); (with_reducible refine (bolterref02_digit.calls a0 x1_3 false _ A16.out).mono ?_); rintro e w' ⟨rfl, ⟨nd, rfl⟩⟩; refine ⟨_, rfl, ?_⟩))
             go_meet
             case rel => exact ⟨_, (x1_3), pR, H', ⟨by have := HJ2.out; have := HJ6.out; have := HK3.out; first | omega | exact Nat.le_refl _⟩, pD⟩
        case rest =>
         clear HC14
         (try clear c10); (try clear c11); (try clear c11b0); (try clear c12); (try clear c12b0); (try clear p13); (try clear q13); (try clear hx13); (try clear p13); (try clear q13)
         obtain ⟨kq, x1_13, rfl, HA, HJ13, ⟨mc13, rfl⟩⟩ := hcut
         cases kq with
         | zero => exact absurd HA.out (by simp [bolterref02_Ends.j3])
         | succ kj13 =>
          have H := HA.out
          clear HA
          simp only [bolterref02_Ends.j3] at H
          have HC18 := am H
          clear H
          go_upto_region 9 with (fail)
          go_cut [43] (fun v43 wc => ∃ (kq : Nat) (x43_17 : Bool), v43 = .bool x43_17 /\ Aside0 (bolterref02_Ends.j4 kq a0 x1_13 x43_17 = some (r1, r2)) /\ Aside0 (kq <= kj13) /\ Drawn0 w wc)
          case first =>
           have H := HC18.out
           clear HC18
           by_cases c19 : x1_13 < (a0.size : Int)
           ·rw [if_pos c19] at H
            have c19b0 : decide (x1_13 < (a0.size : Int)) = true := decide_eq_true c19
            clear c19
            (first | rw [c19b0] | (simp only [i64_w, i32_w]; rw [c19b0]) | skip)
            by_cases c20 : 0 <= x1_13
            ·rw [if_pos c20] at H
             have c20b0 : decide (0 <= x1_13) = true := decide_eq_true c20
             clear c20
             have H' := am H
             clear H
             have p21 : 0 <= (x1_13 : Int) := of_decide_eq_true pQ
             have q21 : x1_13 < (a0.size : Int) := of_decide_eq_true pQ
             have hx21 := bt_at a0 x1_13
             replace p21 := eq_true p21
             replace q21 := eq_true q21
             go_wp2
             go_meet
             case rel => exact ⟨_, (((bt a0 x1_13) == 46)), pR, H', ⟨by have := HJ2.out; have := HJ6.out; have := HJ13.out; first | omega | exact Nat.le_refl _⟩, pD⟩
            ·rw [if_neg c20] at H
             exact absurd H (by simp)
           ·rw [if_neg c19] at H
            have c19b0 : decide (x1_13 < (a0.size : Int)) = false := decide_eq_false c19
            clear c19
            (first | rw [c19b0] | (simp only [i64_w, i32_w]; rw [c19b0]) | skip)
            have H' := am H
            clear H
            go_wp2
            go_meet
            case rel => exact ⟨_, (false), pR, H', ⟨by have := HJ2.out; have := HJ6.out; have := HJ13.out; first | omega | exact Nat.le_refl _⟩, pD⟩
          case rest =>
           clear HC18
           (try clear c10); (try clear c11); (try clear c11b0); (try clear c12); (try clear c12b0); (try clear p13); (try clear q13); (try clear hx13); (try clear p13); (try clear q13)
           obtain ⟨kq, x43_17, rfl, HA, HJ17, ⟨mc17, rfl⟩⟩ := hcut
           cases kq with
           | zero => exact absurd HA.out (by simp [bolterref02_Ends.j4])
           | succ kj17 =>
            have H := HA.out
            clear HA
            simp only [bolterref02_Ends.j4] at H
            have HC22 := am H
            clear H
            go_upto_if 43 with (fail)
            go_cut [1] (fun v1 wc => ∃ (kq : Nat) (x1_21 : Int), v1 = .int .i64 x1_21 /\ Aside0 (bolterref02_Ends.j6 kq a0 x1_21 = some (r1, r2)) /\ Aside0 (kq <= kj17) /\ Drawn0 w wc)
            case first =>
             have H := HC22.out
             clear HC22
             by_cases c23 : x43_17 = true
             ·subst c23
              rw [if_pos rfl] at H
              obtain ⟨t536, A24, H⟩ := ob H
              by_cases c25 : t536 = true
              ·subst c25
               rw [if_pos rfl] at H
               have H' := am H
               clear H
               go_wp2_with (first | (refine gL (some 48) Tryz.func153 #[.string a0, .int .i64 (wrap64 (x1_13 + 1))] (h := ?_); (with_reducible refine (bolterref02_digit.calls a0 (wrap64 (x1_13 + 1)) true _ A24.out).mono ?_); rintro e w' ⟨rfl, ⟨nd, rfl⟩⟩; refine ⟨_, rfl, ?_⟩))
               go_loopg [1] kj17 (fun kq v1 w' => ∃ (x1_5 : Int), v1 = .int .i64 x1_5 /\ Aside0 (bolterref02_Ends.l1 kq a0 x1_5 = some (r1, r2)) /\ Aside0 (kq <= kj17) /\ Drawn0 w w')
               case atStart => exact ⟨(wrap64 (x1_13 + 1)), pR, H', ⟨Nat.le_refl _⟩, pD⟩
               case round =>
                clear H'
                (try clear c10); (try clear c11); (try clear c11b0); (try clear c12); (try clear c12b0); (try clear p13); (try clear q13); (try clear hx13); (try clear c23); (try clear c25); (try clear p13); (try clear q13)
                obtain ⟨x1_5, rfl, HA, HK5, ⟨m5, rfl⟩⟩ := hrel
                cases gk with
                | zero => exact absurd HA.out (by simp [bolterref02_Ends.l1])
                | succ k5 =>
                 have H := HA.out
                 clear HA
                 simp only [bolterref02_Ends.l1] at H
                 obtain ⟨t537, A26, H⟩ := ob H
                 by_cases c27 : t537 = true
                 ·subst c27
                  rw [if_pos rfl] at H
                  have H' := am H
                  clear H
                  go_wp2_with (first | (refine gL (some 53) Tryz.func153 #[.string a0, .int .i64 x1_5] (h := ?_); (with_reducible refine (bolterref02_digit.calls a0 x1_5 true _ A26.out).mono ?_); rintro e w' ⟨rfl, ⟨nd, rfl⟩⟩; refine ⟨_, rfl, ?_⟩))
                  go_roundg k5
                  case measure => have := HJ2.out; have := HJ6.out; have := HJ13.out; have := HJ17.out; have := HK5.out; omega
                  case rel => exact ⟨(wrap64 (x1_5 + 1)), pR, H', ⟨by have := HJ2.out; have := HJ6.out; have := HJ13.out; have := HJ17.out; have := HK5.out; omega⟩, pD⟩
                 ·replace c27 := Bool.eq_false_iff.mpr c27
                  subst c27
                  rw [if_neg (show ¬ (false = true) by decide)] at H
                  have H' := am H
                  clear H
                  go_wp2_with (first | (refine gL (some 53) Tryz.func153 #[.string a0, .int .i64 x1_5] (h := ?_); (with_reducible refine (bolterref02_digit.calls a0 x1_5 false _ A26.out).mono ?_); rintro e w' ⟨rfl, ⟨nd, rfl⟩⟩; refine ⟨_, rfl, ?_⟩))
                  go_meet
                  case rel => exact ⟨_, (x1_5), pR, H', ⟨by have := HJ2.out; have := HJ6.out; have := HJ13.out; have := HJ17.out; have := HK5.out; first | omega | exact Nat.le_refl _⟩, pD⟩
              ·replace c25 := Bool.eq_false_iff.mpr c25
               subst c25
               rw [if_neg (show ¬ (false = true) by decide)] at H
               simp only [Option.some.injEq, Prod.mk.injEq] at H
               obtain ⟨rfl, rfl⟩ := H
               go_wp2_with (first | (refine gL (some 48) Tryz.func153 #[.string a0, .int .i64 (wrap64 (x1_13 + 1))] (h := ?_); (with_reducible refine (bolterref02_digit.calls a0 (wrap64 (x1_13 + 1)) false _ A24.out).mono ?_); rintro e w' ⟨rfl, ⟨nd, rfl⟩⟩; refine ⟨_, rfl, ?_⟩))
               go_ret2
               exact ⟨pR, pD⟩
             ·replace c23 := Bool.eq_false_iff.mpr c23
              subst c23
              rw [if_neg (show ¬ (false = true) by decide)] at H
              have H' := am H
              clear H
              go_wp2
              go_meet
              case rel => exact ⟨_, (x1_13), pR, H', ⟨by have := HJ2.out; have := HJ6.out; have := HJ13.out; have := HJ17.out; first | omega | exact Nat.le_refl _⟩, pD⟩
            case rest =>
             clear HC22
             (try clear c10); (try clear c11); (try clear c11b0); (try clear c12); (try clear c12b0); (try clear p13); (try clear q13); (try clear hx13); (try clear p13); (try clear q13)
             obtain ⟨kq, x1_21, rfl, HA, HJ21, ⟨mc21, rfl⟩⟩ := hcut
             cases kq with
             | zero => exact absurd HA.out (by simp [bolterref02_Ends.j6])
             | succ kj21 =>
              have H := HA.out
              clear HA
              simp only [bolterref02_Ends.j6] at H
              have HC28 := am H
              clear H
              go_upto_region 15 with (fail)
              go_cut [71] (fun v71 wc => ∃ (kq : Nat) (x71_27 : Bool), v71 = .bool x71_27 /\ Aside0 (bolterref02_Ends.j7 kq a0 x1_21 x71_27 = some (r1, r2)) /\ Aside0 (kq <= kj21) /\ Drawn0 w wc)
              case first =>
               have H := HC28.out
               clear HC28
               by_cases c29 : x1_21 < (a0.size : Int)
               ·rw [if_pos c29] at H
                have c29b0 : decide (x1_21 < (a0.size : Int)) = true := decide_eq_true c29
                clear c29
                (first | rw [c29b0] | (simp only [i64_w, i32_w]; rw [c29b0]) | skip)
                by_cases c30 : 0 <= x1_21
                ·rw [if_pos c30] at H
                 have c30b0 : decide (0 <= x1_21) = true := decide_eq_true c30
                 clear c30
                 by_cases c32 : (bt a0 x1_21) = 101
                 ·rw [if_pos c32] at H
                  have c32b0 : ((bt a0 x1_21) == 101) = true := beq_iff_eq.mpr c32
                  have c32b1 : ((bt a0 x1_21) != 101) = false := bne_eq_false_iff_eq.mpr c32
                  clear c32
                  have H' := am H
                  clear H
                  have p31 : 0 <= (x1_21 : Int) := of_decide_eq_true pQ
                  have q31 : x1_21 < (a0.size : Int) := of_decide_eq_true pQ
                  have hx31 := bt_at a0 x1_21
                  replace p31 := eq_true p31
                  replace q31 := eq_true q31
                  go_wp2
                  go_meet
                  case rel => exact ⟨_, (true), pR, H', ⟨by have := HJ2.out; have := HJ6.out; have := HJ13.out; have := HJ17.out; have := HJ21.out; first | omega | exact Nat.le_refl _⟩, pD⟩
                 ·rw [if_neg c32] at H
                  have c32b0 : ((bt a0 x1_21) == 101) = false := beq_eq_false_iff_ne.mpr c32
                  have c32b1 : ((bt a0 x1_21) != 101) = true := bne_iff_ne.mpr c32
                  have H' := am H
                  clear H
                  have p31 : 0 <= (x1_21 : Int) := of_decide_eq_true pQ
                  have q31 : x1_21 < (a0.size : Int) := of_decide_eq_true pQ
                  have hx31 := bt_at a0 x1_21
                  replace p31 := eq_true p31
                  replace q31 := eq_true q31
                  have p33 : 0 <= (x1_21 : Int) := of_decide_eq_true pQ
                  have q33 : x1_21 < (a0.size : Int) := of_decide_eq_true pQ
                  have hx33 := bt_at a0 x1_21
                  replace p33 := eq_true p33
                  replace q33 := eq_true q33
                  go_wp2
                  go_meet
                  case rel => exact ⟨_, (((bt a0 x1_21) == 69)), pR, H', ⟨by have := HJ2.out; have := HJ6.out; have := HJ13.out; have := HJ17.out; have := HJ21.out; first | omega | exact Nat.le_refl _⟩, pD⟩
                ·rw [if_neg c30] at H
                 exact absurd H (by simp)
               ·rw [if_neg c29] at H
                have c29b0 : decide (x1_21 < (a0.size : Int)) = false := decide_eq_false c29
                clear c29
                (first | rw [c29b0] | (simp only [i64_w, i32_w]; rw [c29b0]) | skip)
                have H' := am H
                clear H
                go_wp2
                go_meet
                case rel => exact ⟨_, (false), pR, H', ⟨by have := HJ2.out; have := HJ6.out; have := HJ13.out; have := HJ17.out; have := HJ21.out; first | omega | exact Nat.le_refl _⟩, pD⟩
              case rest =>
               clear HC28
               (try clear c10); (try clear c11); (try clear c11b0); (try clear c12); (try clear c12b0); (try clear p13); (try clear q13); (try clear hx13); (try clear p13); (try clear q13)
               obtain ⟨kq, x71_27, rfl, HA, HJ27, ⟨mc27, rfl⟩⟩ := hcut
               cases kq with
               | zero => exact absurd HA.out (by simp [bolterref02_Ends.j7])
               | succ kj27 =>
                have H := HA.out
                clear HA
                simp only [bolterref02_Ends.j7] at H
                by_cases c34 : x71_27 = true
                ·subst c34
                 rw [if_pos rfl] at H
                 have HC35 := am H
                 clear H
                 go_upto_region 17 with (fail)
                 go_cut [89] (fun v89 wc => ∃ (kq : Nat) (x89_34 : Bool), v89 = .bool x89_34 /\ Aside0 (bolterref02_Ends.j8 kq a0 (wrap64 (x1_21 + 1)) x89_34 = some (r1, r2)) /\ Aside0 (kq <= kj27) /\ Drawn0 w wc)
                 case first =>
                  have H := HC35.out
                  clear HC35
                  by_cases c36 : (wrap64 (x1_21 + 1)) < (a0.size : Int)
                  ·rw [if_pos c36] at H
                   have c36b0 : decide ((wrap64 (x1_21 + 1)) < (a0.size : Int)) = true := decide_eq_true c36
                   clear c36
                   (first | rw [c36b0] | (simp only [i64_w, i32_w]; rw [c36b0]) | skip)
                   obtain ⟨ji37, hji37⟩ : ∃ j_ : Int, (wrap64 (x1_21 + 1)) = j_ := ⟨_, rfl⟩
                   replace H : (if 0 <= (ji37) then (if (bt a0 (ji37)) = 43 then (bolterref02_Ends.j8 kj27 a0 ji37 true) else (bolterref02_Ends.j8 kj27 a0 ji37 ((bt a0 (ji37)) == 45))) else (none)) = some (r1, r2) := by first | (rw [hji37] at H; exact H) | (simp only [hji37] at H ⊢; exact H)
                   (try rw [hji37] at c36b0)
                   have hji37w : (IntKind.i64.wrap (x1_21 + 1)) = ji37 := (i64_w _).trans hji37
                   by_cases c38 : 0 <= (ji37)
                   ·rw [if_pos c38] at H
                    have c38b0 : decide (0 <= (ji37)) = true := decide_eq_true c38
                    clear c38
                    by_cases c40 : (bt a0 (ji37)) = 43
                    ·rw [if_pos c40] at H
                     have c40b0 : ((bt a0 (ji37)) == 43) = true := beq_iff_eq.mpr c40
                     have c40b1 : ((bt a0 (ji37)) != 43) = false := bne_eq_false_iff_eq.mpr c40
                     clear c40
                     have H' := am H
                     clear H
                     have p39 : 0 <= ((ji37) : Int) := of_decide_eq_true pQ
                     have q39 : (ji37) < (a0.size : Int) := of_decide_eq_true pQ
                     have hx39 := bt_at a0 (ji37)
                     replace p39 := eq_true p39
                     replace q39 := eq_true q39
                     go_wp2
                     go_meet
                     case rel => exact ⟨_, (true), pR, (by first | exact H' | (have H_ := H'.out; simp only [<- hji37] at H_; exact ⟨H_⟩) | (refine ⟨?_⟩; have H_ := H'.out; simp only [<- hji37] at H_ ⊢; exact H_)), ⟨by have := HJ2.out; have := HJ6.out; have := HJ13.out; have := HJ17.out; have := HJ21.out; have := HJ27.out; first | omega | exact Nat.le_refl _⟩, pD⟩
                    ·rw [if_neg c40] at H
                     have c40b0 : ((bt a0 (ji37)) == 43) = false := beq_eq_false_iff_ne.mpr c40
                     have c40b1 : ((bt a0 (ji37)) != 43) = true := bne_iff_ne.mpr c40
                     have H' := am H
                     clear H
                     have p39 : 0 <= ((ji37) : Int) := of_decide_eq_true pQ
                     have q39 : (ji37) < (a0.size : Int) := of_decide_eq_true pQ
                     have hx39 := bt_at a0 (ji37)
                     replace p39 := eq_true p39
                     replace q39 := eq_true q39
                     have p41 : 0 <= ((ji37) : Int) := of_decide_eq_true pQ
                     have q41 : (ji37) < (a0.size : Int) := of_decide_eq_true pQ
                     have hx41 := bt_at a0 (ji37)
                     replace p41 := eq_true p41
                     replace q41 := eq_true q41
                     go_wp2
                     go_meet
                     case rel => exact ⟨_, (((bt a0 (ji37)) == 45)), (by first | rfl | (simp; done) | (simp only [<- hji37] <;> (first | rfl | simp)) | (simp [*]; done)), (by first | exact H' | (have H_ := H'.out; simp only [<- hji37] at H_; exact ⟨H_⟩) | (refine ⟨?_⟩; have H_ := H'.out; simp only [<- hji37] at H_ ⊢; exact H_)), ⟨by have := HJ2.out; have := HJ6.out; have := HJ13.out; have := HJ17.out; have := HJ21.out; have := HJ27.out; first | omega | exact Nat.le_refl _⟩, pD⟩
                   ·rw [if_neg c38] at H
                    exact absurd H (by simp)
                  ·rw [if_neg c36] at H
                   have c36b0 : decide ((wrap64 (x1_21 + 1)) < (a0.size : Int)) = false := decide_eq_false c36
                   clear c36
                   (first | rw [c36b0] | (simp only [i64_w, i32_w]; rw [c36b0]) | skip)
                   have H' := am H
                   clear H
                   go_wp2
                   go_meet
                   case rel => exact ⟨_, (false), pR, H', ⟨by have := HJ2.out; have := HJ6.out; have := HJ13.out; have := HJ17.out; have := HJ21.out; have := HJ27.out; first | omega | exact Nat.le_refl _⟩, pD⟩
                 case rest =>
                  clear HC35
                  (try clear c10); (try clear c11); (try clear c11b0); (try clear c12); (try clear c12b0); (try clear p13); (try clear q13); (try clear hx13); (try clear c34); (try clear p13); (try clear q13)
                  obtain ⟨kq, x89_34, rfl, HA, HJ34, ⟨mc34, rfl⟩⟩ := hcut
                  cases kq with
                  | zero => exact absurd HA.out (by simp [bolterref02_Ends.j8])
                  | succ kj34 =>
                   have H := HA.out
                   clear HA
                   simp only [bolterref02_Ends.j8] at H
                   have HC42 := am H
                   clear H
                   go_upto_if 89 with (fail)
                   go_cut [1] (fun v1 wc => ∃ (kq : Nat) (x1_41 : Int), v1 = .int .i64 x1_41 /\ Aside0 (bolterref02_Ends.j9 kq a0 x1_41 = some (r1, r2)) /\ Aside0 (kq <= kj34) /\ Drawn0 w wc)
                   case first =>
                    have H := HC42.out
                    clear HC42
                    by_cases c43 : x89_34 = true
                    ·subst c43
                     rw [if_pos rfl] at H
                     have H' := am H
                     clear H
                     go_wp2
                     go_meet
                     case rel => exact ⟨_, (wrap64 ((wrap64 (x1_21 + 1)) + 1)), pR, H', ⟨by have := HJ2.out; have := HJ6.out; have := HJ13.out; have := HJ17.out; have := HJ21.out; have := HJ27.out; have := HJ34.out; first | omega | exact Nat.le_refl _⟩, pD⟩
                    ·replace c43 := Bool.eq_false_iff.mpr c43
                     subst c43
                     rw [if_neg (show ¬ (false = true) by decide)] at H
                     have H' := am H
                     clear H
                     go_wp2
                     go_meet
                     case rel => exact ⟨_, ((wrap64 (x1_21 + 1))), pR, H', ⟨by have := HJ2.out; have := HJ6.out; have := HJ13.out; have := HJ17.out; have := HJ21.out; have := HJ27.out; have := HJ34.out; first | omega | exact Nat.le_refl _⟩, pD⟩
                   case rest =>
                    clear HC42
                    (try clear c10); (try clear c11); (try clear c11b0); (try clear c12); (try clear c12b0); (try clear p13); (try clear q13); (try clear hx13); (try clear c34); (try clear p13); (try clear q13)
                    obtain ⟨kq, x1_41, rfl, HA, HJ41, ⟨mc41, rfl⟩⟩ := hcut
                    cases kq with
                    | zero => exact absurd HA.out (by simp [bolterref02_Ends.j9])
                    | succ kj41 =>
                     have H := HA.out
                     clear HA
                     simp only [bolterref02_Ends.j9] at H
                     obtain ⟨t538, A44, H⟩ := ob H
                     by_cases c45 : t538 = true
                     ·subst c45
                      rw [if_pos rfl] at H
                      have H' := am H
                      clear H
                      go_wp2_with (first | (refine gL (some 94) Tryz.func153 #[.string a0, .int .i64 x1_41] (h := ?_); (with_reducible refine (bolterref02_digit.calls a0 x1_41 true _ A44.out).mono ?_); rintro e w' ⟨rfl, ⟨nd, rfl⟩⟩; refine ⟨_, rfl, ?_⟩))
                      go_loopg [1] kj41 (fun kq v1 w' => ∃ (x1_9 : Int), v1 = .int .i64 x1_9 /\ Aside0 (bolterref02_Ends.l2 kq a0 x1_9 = some (r1, r2)) /\ Aside0 (kq <= kj41) /\ Drawn0 w w')
                      case atStart => exact ⟨(x1_41), pR, H', ⟨Nat.le_refl _⟩, pD⟩
                      case round =>
                       clear H'
                       (try clear c10); (try clear c11); (try clear c11b0); (try clear c12); (try clear c12b0); (try clear p13); (try clear q13); (try clear hx13); (try clear c34); (try clear c45); (try clear p13); (try clear q13)
                       obtain ⟨x1_9, rfl, HA, HK9, ⟨m9, rfl⟩⟩ := hrel
                       cases gk with
                       | zero => exact absurd HA.out (by simp [bolterref02_Ends.l2])
                       | succ k9 =>
                        have H := HA.out
                        clear HA
                        simp only [bolterref02_Ends.l2] at H
                        obtain ⟨t539, A46, H⟩ := ob H
                        by_cases c47 : t539 = true
                        ·subst c47
                         rw [if_pos rfl] at H
                         have H' := am H
                         clear H
                         go_wp2_with (first | (refine gL (some 99) Tryz.func153 #[.string a0, .int .i64 x1_9] (h := ?_); (with_reducible refine (bolterref02_digit.calls a0 x1_9 true _ A46.out).mono ?_); rintro e w' ⟨rfl, ⟨nd, rfl⟩⟩; refine ⟨_, rfl, ?_⟩))
                         go_roundg k9
                         case measure => have := HJ2.out; have := HJ6.out; have := HJ13.out; have := HJ17.out; have := HJ21.out; have := HJ27.out; have := HJ34.out; have := HJ41.out; have := HK9.out; omega
                         case rel => exact ⟨(wrap64 (x1_9 + 1)), pR, H', ⟨by have := HJ2.out; have := HJ6.out; have := HJ13.out; have := HJ17.out; have := HJ21.out; have := HJ27.out; have := HJ34.out; have := HJ41.out; have := HK9.out; omega⟩, pD⟩
                        ·replace c47 := Bool.eq_false_iff.mpr c47
                         subst c47
                         rw [if_neg (show ¬ (false = true) by decide)] at H
                         simp only [Option.some.injEq, Prod.mk.injEq] at H
                         obtain ⟨rfl, rfl⟩ := H
                         go_wp2_with (first | (refine gL (some 99) Tryz.func153 #[.string a0, .int .i64 x1_9] (h := ?_); (with_reducible refine (bolterref02_digit.calls a0 x1_9 false _ A46.out).mono ?_); rintro e w' ⟨rfl, ⟨nd, rfl⟩⟩; refine ⟨_, rfl, ?_⟩))
                         go_ret2
                         exact ⟨pR, pD⟩
                     ·replace c45 := Bool.eq_false_iff.mpr c45
                      subst c45
                      rw [if_neg (show ¬ (false = true) by decide)] at H
                      simp only [Option.some.injEq, Prod.mk.injEq] at H
                      obtain ⟨rfl, rfl⟩ := H
                      go_wp2_with (first | (refine gL (some 94) Tryz.func153 #[.string a0, .int .i64 x1_41] (h := ?_); (with_reducible refine (bolterref02_digit.calls a0 x1_41 false _ A44.out).mono ?_); rintro e w' ⟨rfl, ⟨nd, rfl⟩⟩; refine ⟨_, rfl, ?_⟩))
                      go_ret2
                      exact ⟨pR, pD⟩
                ·replace c34 := Bool.eq_false_iff.mpr c34
                 subst c34
                 rw [if_neg (show ¬ (false = true) by decide)] at H
                 simp only [Option.some.injEq, Prod.mk.injEq] at H
                 obtain ⟨rfl, rfl⟩ := H
                 go_wp2
                 go_ret2
                 exact ⟨pR, pD⟩
       ·rw [if_neg c12] at H
        exact absurd H (by simp)
      ·rw [if_neg c11] at H
       exact absurd H (by simp)
     ·replace c10 := Bool.eq_false_iff.mpr c10
      subst c10
      rw [if_neg (show ¬ (false = true) by decide)] at H
      simp only [Option.some.injEq, Prod.mk.injEq] at H
      obtain ⟨rfl, rfl⟩ := H
      go_wp2_with (first | (refine gL (some 20) Tryz.func153 #[.string a0, .int .i64 x1_6] (h := ?_); (with_reducible refine (bolterref02_digit.calls a0 x1_6 false _ A9.out).mono ?_); rintro e w' ⟨rfl, ⟨nd, rfl⟩⟩; refine ⟨_, rfl, ?_⟩))
      go_ret2
      exact ⟨pR, pD⟩
end YtjbjkmccfocikaaGreatDoor.B
end
end Go.Proofs
