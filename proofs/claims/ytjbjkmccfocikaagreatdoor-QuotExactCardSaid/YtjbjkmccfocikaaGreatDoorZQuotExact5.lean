/- QuotExact: part 6 of 6: the texts B70 B71 PAlive3 B78 PLaw3 RDec RQuotExact of this claim, one behind the other. -/
import Derived.Test.YtjbjkmccfocikaaGreatDoorZQuotExact4
import Derived.ChangeSlices
import Derived.ChangeArms
import Derived.Lib.SmallJoins
import Derived.Carry
import Derived.SizedLaws
set_option linter.unusedVariables false
set_option linter.unusedSimpArgs false
set_option maxRecDepth 100000
set_option maxHeartbeats 8000000
namespace Go.Proofs
section
namespace YtjbjkmccfocikaaGreatDoor.B
open Go.RowKit YtjbjkmccfocikaaGreatDoorW.PrintWords YtjbjkmccfocikaaGreatDoorW.PrintLast YtjbjkmccfocikaaGreatDoorW.PrintMore
attribute [local go_sem] max2_int min2_int max_two min_two max_three min_three max_four min_four
mutual
def bolterref02_Word.j0 : Nat -> ByteArray -> ByteArray -> Bool -> List Int -> Int -> Option (ByteArray)
 | 0, _, _, _, _, _ => none
 | k + 1, x4, x5, x608000, x608001, x608002 => if (x608001.length : Int) = 0 then (some (⟨#[48]⟩ : ByteArray)) else (if (wrap64 ((x4.size : Int) + x608002)) >= (-5) then (bolterref02_Word.j1 k x4 x5 (wrap64 ((x4.size : Int) + x608002)) (decide ((wrap64 ((x4.size : Int) + x608002)) < 1))) else (bolterref02_Word.j1 k x4 x5 (wrap64 ((x4.size : Int) + x608002)) false))
def bolterref02_Word.j3 : Nat -> ByteArray -> ByteArray -> Int -> Option (ByteArray)
 | 0, _, _, _ => none
 | k + 1, x4, x5, x6 => if (wrap64 (x6 - 1)) < 0 then (bolterref02_Word.j4 k x4 x5 (wrap64 (-(wrap64 (x6 - 1)))) (⟨#[101, 45]⟩ : ByteArray)) else (bolterref02_Word.j4 k x4 x5 (wrap64 (x6 - 1)) (⟨#[101, 43]⟩ : ByteArray))
def bolterref02_Word.j4 : Nat -> ByteArray -> ByteArray -> Int -> ByteArray -> Option (ByteArray)
 | 0, _, _, _, _ => none
 | k + 1, x4, x5, x6, x7 => if (x4.size : Int) > 1 then (if 0 <= 1 then (if 1 <= (x4.size : Int) then (if x5.size + (x4.extract 0 1).size <= 9223372036854775807 then (if (x5 ++ (x4.extract 0 1)).size + 1 <= 9223372036854775807 then (if ((x5 ++ (x4.extract 0 1)) ++ (⟨#[46]⟩ : ByteArray)).size + (x4.extract 1 x4.size).size <= 9223372036854775807 then (if (((x5 ++ (x4.extract 0 1)) ++ (⟨#[46]⟩ : ByteArray)) ++ (x4.extract 1 x4.size)).size + x7.size <= 9223372036854775807 then ((bolterref02_plain.f k x6).bind fun t611 => (if ((((x5 ++ (x4.extract 0 1)) ++ (⟨#[46]⟩ : ByteArray)) ++ (x4.extract 1 x4.size)) ++ x7).size + t611.size <= 9223372036854775807 then (some (((((x5 ++ (x4.extract 0 1)) ++ (⟨#[46]⟩ : ByteArray)) ++ (x4.extract 1 x4.size)) ++ x7) ++ t611)) else (none))) else (none)) else (none)) else (none)) else (none)) else (none)) else (none)) else (if x5.size + x4.size <= 9223372036854775807 then (if (x5 ++ x4).size + x7.size <= 9223372036854775807 then ((bolterref02_plain.f k x6).bind fun t612 => (if ((x5 ++ x4) ++ x7).size + t612.size <= 9223372036854775807 then (some (((x5 ++ x4) ++ x7) ++ t612)) else (none))) else (none)) else (none))
def bolterref02_Word.j1 : Nat -> ByteArray -> ByteArray -> Int -> Bool -> Option (ByteArray)
 | 0, _, _, _, _ => none
 | k + 1, x4, x5, x6, x25 => if x25 = true then (if x5.size + 2 <= 9223372036854775807 then ((bolterref02_zeros.f k (wrap64 (-x6))).bind fun t609 => (if (x5 ++ (⟨#[48, 46]⟩ : ByteArray)).size + t609.size <= 9223372036854775807 then (if ((x5 ++ (⟨#[48, 46]⟩ : ByteArray)) ++ t609).size + x4.size <= 9223372036854775807 then (some (((x5 ++ (⟨#[48, 46]⟩ : ByteArray)) ++ t609) ++ x4)) else (none)) else (none))) else (none)) else (if x6 >= 1 then (if x6 <= 21 then (bolterref02_Word.j2 k x4 x5 x6 (decide (x6 < (x4.size : Int)))) else (bolterref02_Word.j2 k x4 x5 x6 false)) else (bolterref02_Word.j2 k x4 x5 x6 false))
def bolterref02_Word.j2 : Nat -> ByteArray -> ByteArray -> Int -> Bool -> Option (ByteArray)
 | 0, _, _, _, _ => none
 | k + 1, x4, x5, x6, x40 => if x40 = true then (if 0 <= x6 then (if x6 <= (x4.size : Int) then (if x5.size + (x4.extract 0 (x6 : Int).toNat).size <= 9223372036854775807 then (if (x5 ++ (x4.extract 0 (x6 : Int).toNat)).size + 1 <= 9223372036854775807 then (if ((x5 ++ (x4.extract 0 (x6 : Int).toNat)) ++ (⟨#[46]⟩ : ByteArray)).size + (x4.extract (x6 : Int).toNat x4.size).size <= 9223372036854775807 then (some (((x5 ++ (x4.extract 0 (x6 : Int).toNat)) ++ (⟨#[46]⟩ : ByteArray)) ++ (x4.extract (x6 : Int).toNat x4.size))) else (none)) else (none)) else (none)) else (none)) else (none)) else (if x6 >= 1 then (if x6 <= 21 then (if x5.size + x4.size <= 9223372036854775807 then ((bolterref02_zeros.f k (wrap64 (x6 - (x4.size : Int)))).bind fun t610 => (if (x5 ++ x4).size + t610.size <= 9223372036854775807 then (some ((x5 ++ x4) ++ t610)) else (none))) else (none)) else (bolterref02_Word.j3 k x4 x5 x6)) else (bolterref02_Word.j3 k x4 x5 x6))
end
def bolterref02_Word.f (k : Nat) (a0_0 : Bool) (l0_1 : List Int) (a0_2 : Int) : Option (ByteArray) := (bolterref02_Of.f k a0_0 l0_1 a0_2).bind fun bt602 => ((bolterref01_Word.f k bt602.2.1).bind fun t608 => (if bt602.1 = true then (bolterref02_Word.j0 k t608 (⟨#[45]⟩ : ByteArray) bt602.1 bt602.2.1 bt602.2.2) else (bolterref02_Word.j0 k t608 (⟨#[]⟩ : ByteArray) bt602.1 bt602.2.1 bt602.2.2)))
def bolterref02_Word.T11 : Bool × List (List Nat × List Nat) := (true, [([], []), ([], []), ([], []), ([1, 2], [1, 2]), ([0, 3], [0, 3]), ([4], [4]), ([], []), ([], []), ([6, 7], [6, 7]), ([5, 8], [5, 8]), ([9, 0, 1, 2, 3, 4, 5, 6, 7, 8, 9], [9])])
def bolterref02_Word.B11 : List Nat := [0, 0, 0, 6, 15, 31, 0, 0, 192, 511, 1023]
theorem bolterref02_Word.tab11 : rtab .any (opsOf Tryz.f63 11) = bolterref02_Word.T11 := by kernel_rfl
theorem bolterref02_Word.bits11 : waitsOk bolterref02_Word.T11.2 bolterref02_Word.B11 = true := by kernel_rfl
def bolterref02_Word.T19 : Bool × List (List Nat × List Nat) := (true, [([], []), ([], []), ([1], [1]), ([0, 2], [0, 2]), ([3], [3]), ([], []), ([5], [5]), ([4, 6], [4, 6]), ([], []), ([7, 8], [7, 8]), ([], []), ([10], [10]), ([9, 11], [9, 11]), ([12, 11, 0, 1, 2, 3, 4, 5, 6, 7, 8, 9, 10, 11, 12], [12])])
def bolterref02_Word.B19 : List Nat := [0, 0, 2, 7, 15, 0, 32, 127, 0, 511, 0, 1024, 4095, 8191]
theorem bolterref02_Word.tab19 : rtab .any (opsOf Tryz.f63 19) = bolterref02_Word.T19 := by kernel_rfl
theorem bolterref02_Word.bits19 : waitsOk bolterref02_Word.T19.2 bolterref02_Word.B19 = true := by kernel_rfl
theorem bolterref02_Word.calls (k : Nat) (a0_0 : Bool) (A0_1 : Option Addr) (c0_1 : Nat) (l0_1 : List Int) (a0_2 : Int) (r : ByteArray) (w : World) (hr0_1 : Kd.C (Kd.int .u32) w A0_1 l0_1.length l0_1) (hc0_1 : l0_1.length <= c0_1) (h : bolterref02_Word.f k a0_0 l0_1 a0_2 = some r) :
  Calls Tryz.prog 63 #[.agg #[.bool a0_0, .slice A0_1 l0_1.length c0_1, .int .i64 a0_2]] w fun e w' => e = .returned (.string r) /\ Below w.heap.size w w' := by
 have hu24 := Tryz.underlying24
 have hu30 := Tryz.underlying30
 have HR0_1 := am hr0_1
 have HC0_1 := am hc0_1
 clear hr0_1 hc0_1
 have HB := am (Below.refl w.heap.size w)
 have H : ((bolterref02_Of.f k a0_0 l0_1 a0_2).bind fun bt602 => ((bolterref01_Word.f k bt602.2.1).bind fun t608 => (if bt602.1 = true then (bolterref02_Word.j0 k t608 (⟨#[45]⟩ : ByteArray) bt602.1 bt602.2.1 bt602.2.2) else (bolterref02_Word.j0 k t608 (⟨#[]⟩ : ByteArray) bt602.1 bt602.2.1 bt602.2.2)))) = some r := h
 clear h
 obtain ⟨⟨t602, t603, t606⟩, A2, H⟩ := ob H; (try dsimp only at H)
 obtain ⟨t608, A3, H⟩ := ob H
 have HC4 := am H
 clear H
 go_enter Tryz.func63, Tryz.ntmps63
 go_upto_if 14 with (first | ((with_reducible refine gd 1 ?_); (try (refine gate_guard (by rfl) ?_; dsimp only)); refine bx 1 #[.bool a0_0, .slice A0_1 l0_1.length c0_1, .int .i64 a0_2] 24 (h := ?_); intro gb601 hg w5 hbox hb; have BK601 := am hbox; have GW601 := gW hg; have GE601 := gW hg; replace HB := bS hb; clear hb hbox hg; obtain ⟨hcz6_0, hcz6_1, hcz6_2, hfz6_0, hfz6_1, hfz6_2⟩ := cEc BK601.out) | (refine gL (some 9) Tryz.func18 #[.agg #[.bool a0_0, .slice A0_1 l0_1.length c0_1, .int .i64 a0_2]] (h := ?_); (with_reducible refine (bolterref02_Of.calls k a0_0 _ _ l0_1 a0_2 t602 t603 t606 _ ?side1 ?side2 A2.out).mono ?_); (case side1 => refine cp ?_; exact (Kd.C_below HR0_1.out HB.out)); (case side2 => exact HC0_1.out); rintro e w7 ⟨v604, rfl, ho0, hb⟩; refine ⟨_, rfl, ?_⟩; have HO605 := am (Kd.R_lower ho0 (below_size pB)); replace BK601 := bb BK601 hb; replace HB := bS hb) | ((with_reducible refine gd 3 ?_); (try (refine gate_guard (by rfl) ?_; dsimp only)); refine bx 3 #[.bool false, .slice none 0 0, .int .i64 0] 30 (h := ?_); intro gb607 hg w8 hbox hb; have BK607 := am hbox; have GW607 := gW hg; have GE607 := gW hg; have NB601_607 := nL hg BK601; have NB607_601 := nG hg BK601; replace HO605 := rbl HO605 hb; replace BK601 := bb BK601 hb; replace HB := bS hb; clear hb hbox hg; have hnb9 := NB607_601.out; have hnc9 := NB601_607.out; obtain ⟨hcz10_0, hcz10_1, hcz10_2, hfz10_0, hfz10_1, hfz10_2⟩ := cEc BK607.out; obtain ⟨Ao11, co11, eo11⟩ := Kd.R_slice HO605.out; subst eo11) | (refine gL (some 12) Tryz.func118 #[.slice Ao11 t603.length co11] (h := ?_); (with_reducible refine (bolterref01_Word.calls k _ _ t603 t608 _ ?side1 ?side2 A3.out).mono ?_); (case side1 => refine (Kd.R_reads' (e := 3) (base := w.heap.size) (ok := fun k_ => True) (n := t603.length) (c := co11) ?_).2.2; exact (Kd.R_below (z3 HO605.out BK607.out (by decide) (.bool t602) (.slice Ao11 t603.length co11) (.int .i64 t606)) pl)); (case side2 => exact (Kd.R_reads' HO605.out).2.1); rintro e w12 ⟨rfl, hb⟩; refine ⟨_, rfl, ?_⟩; replace HO605 := am (Kd.R_below (Kd.R_below (z3 HO605.out BK607.out (by decide) (.bool t602) (.slice Ao11 t603.length co11) (.int .i64 t606)) pl) hb); replace BK601 := bfb NB601_607 BK601 hb; replace BK607 := am (blk_below (g := gb607) (o := .cells #[.bool t602, .slice Ao11 t603.length co11, .int .i64 t606] 30 (0, 0)) (by exact p3 BK607) hb); replace HB := bS hb; obtain ⟨hcz13_0, hcz13_1, hcz13_2, hfz13_0, hfz13_1, hfz13_2⟩ := cEc BK607.out))
 (try simp only [Act.put, List.setIfInBounds_toArray, List.set_cons_zero, List.set_cons_succ])
 go_cut [5] (fun v5 wc => ∃ (kq : Nat) (x5_3 : ByteArray), v5 = .string x5_3 /\ Aside0 (bolterref02_Word.j0 kq t608 x5_3 t602 t603 t606 = some r) /\ Aside0 (kq <= k) /\ Aside0 (Kd.R (Kd.int .i64) 3 wc w.heap.size (fun _ => True) (.slice Ao11 t603.length co11) t603) /\ Aside0 (wc.heap[gb601]? = some (.cells #[.bool a0_0, (.slice A0_1 l0_1.length c0_1), .int .i64 a0_2] 24 (0, 0))) /\ Aside0 (wc.heap[gb607]? = some (.cells #[.bool t602, (.slice Ao11 t603.length co11), .int .i64 t606] 30 (0, 0))) /\ Aside0 (Below w.heap.size w wc))
 case first =>
  have H := HC4.out
  clear HC4
  by_cases c14 : t602 = true
  ·subst c14
   rw [if_pos rfl] at H
   have H' := am H
   clear H
   go_wp2
   go_meet
   case rel => exact ⟨_, ((⟨#[45]⟩ : ByteArray)), pR, H', ⟨by first | omega | exact Nat.le_refl _⟩, ⟨by refine rp ?_; exact HO605.out⟩, ⟨blk_below BK601.out pl⟩, ⟨blk_below BK607.out pl⟩, ⟨pB⟩⟩
  ·replace c14 := Bool.eq_false_iff.mpr c14
   subst c14
   rw [if_neg (show ¬ (false = true) by decide)] at H
   have H' := am H
   clear H
   go_wp2
   go_meet
   case rel => exact ⟨_, ((⟨#[]⟩ : ByteArray)), pR, H', ⟨by first | omega | exact Nat.le_refl _⟩, ⟨by refine rp ?_; exact HO605.out⟩, ⟨blk_below BK601.out pl⟩, ⟨blk_below BK607.out pl⟩, ⟨pB⟩⟩
 case rest =>
  clear HC4
  obtain ⟨kq, x5_3, rfl, HA, HJ3, HO_608001, BK601, BK607, HB⟩ := hcut
  cases kq with
  | zero => exact absurd HA.out (by simp [bolterref02_Word.j0])
  | succ kj3 =>
   have H := HA.out
   clear HA
   simp only [bolterref02_Word.j0] at H
   have HC15 := am H
   clear H
   have hnb16 := NB607_601.out
   have hnc16 := NB601_607.out
   obtain ⟨hcz17_0, hcz17_1, hcz17_2, hfz17_0, hfz17_1, hfz17_2⟩ := cEc BK607.out
   go_upto_block 0 with (fail)
   go_cut [] (fun wc => ∃ (kq : Nat), Aside0 (bolterref02_Word.j3 kq t608 x5_3 (wrap64 ((t608.size : Int) + t606)) = some r) /\ Aside0 (kq <= kj3) /\ Aside0 (Kd.R (Kd.int .i64) 3 wc w.heap.size (fun _ => True) (.slice Ao11 t603.length co11) t603) /\ Aside0 (wc.heap[gb601]? = some (.cells #[.bool a0_0, (.slice A0_1 l0_1.length c0_1), .int .i64 a0_2] 24 (0, 0))) /\ Aside0 (wc.heap[gb607]? = some (.cells #[.bool t602, (.slice Ao11 t603.length co11), .int .i64 t606] 30 (0, 0))) /\ Aside0 (Below w.heap.size w wc))
   case first =>
    have H := HC15.out
    clear HC15
    by_cases c18 : (t603.length : Int) = 0
    ·rw [if_pos c18] at H
     have c18b0 : ((t603.length : Int) == 0) = true := beq_iff_eq.mpr c18
     have c18b1 : ((t603.length : Int) != 0) = false := bne_eq_false_iff_eq.mpr c18
     clear c18
     (first | rw [c18b0] | (simp only [i64_w, i32_w]; rw [c18b0]) | skip)
     obtain rfl := Option.some.inj H
     have hnb19 := NB607_601.out
     have hnc19 := NB601_607.out
     obtain ⟨hcz20_0, hcz20_1, hcz20_2, hfz20_0, hfz20_1, hfz20_2⟩ := cEc BK607.out
     go_wp2
     go_ret
     exact ⟨pE, pB⟩
    ·rw [if_neg c18] at H
     have c18b0 : ((t603.length : Int) == 0) = false := beq_eq_false_iff_ne.mpr c18
     have c18b1 : ((t603.length : Int) != 0) = true := bne_iff_ne.mpr c18
     have c18b2 : ¬ (t603 = []) := fun h_ => c18 (by rw [h_]; rfl)
     (first | rw [c18b0] | (simp only [i64_w, i32_w]; rw [c18b0]) | skip)
     have HC21 := am H
     clear H
     have hnb22 := NB607_601.out
     have hnc22 := NB601_607.out
     obtain ⟨hcz23_0, hcz23_1, hcz23_2, hfz23_0, hfz23_1, hfz23_2⟩ := cEc BK607.out
     go_upto_region 8 with (fail)
     go_cut [25] (fun v25 wc => ∃ (kq : Nat) (x25_20 : Bool), v25 = .bool x25_20 /\ Aside0 (bolterref02_Word.j1 kq t608 x5_3 (wrap64 ((t608.size : Int) + t606)) x25_20 = some r) /\ Aside0 (kq <= kj3) /\ Aside0 (Kd.R (Kd.int .i64) 3 wc w.heap.size (fun _ => True) (.slice Ao11 t603.length co11) t603) /\ Aside0 (wc.heap[gb601]? = some (.cells #[.bool a0_0, (.slice A0_1 l0_1.length c0_1), .int .i64 a0_2] 24 (0, 0))) /\ Aside0 (wc.heap[gb607]? = some (.cells #[.bool t602, (.slice Ao11 t603.length co11), .int .i64 t606] 30 (0, 0))) /\ Aside0 (Below w.heap.size w wc))
     case first =>
      have H := HC21.out
      clear HC21
      by_cases c24 : (wrap64 ((t608.size : Int) + t606)) >= (-5)
      ·rw [if_pos c24] at H
       have c24b0 : decide ((-5) <= (wrap64 ((t608.size : Int) + t606))) = true := decide_eq_true c24
       clear c24
       (first | rw [c24b0] | (simp only [i64_w, i32_w]; rw [c24b0]) | skip)
       have H' := am H
       clear H
       go_wp2
       go_meet
       case rel => exact ⟨_, (decide ((wrap64 ((t608.size : Int) + t606)) < 1)), pR, H', ⟨by have := HJ3.out; first | omega | exact Nat.le_refl _⟩, ⟨by refine rp ?_; exact HO_608001.out⟩, ⟨blk_below BK601.out pl⟩, ⟨blk_below BK607.out pl⟩, ⟨pB⟩⟩
      ·rw [if_neg c24] at H
       have c24b0 : decide ((-5) <= (wrap64 ((t608.size : Int) + t606))) = false := decide_eq_false c24
       clear c24
       (first | rw [c24b0] | (simp only [i64_w, i32_w]; rw [c24b0]) | skip)
       have H' := am H
       clear H
       go_wp2
       go_meet
       case rel => exact ⟨_, (false), pR, H', ⟨by have := HJ3.out; first | omega | exact Nat.le_refl _⟩, ⟨by refine rp ?_; exact HO_608001.out⟩, ⟨blk_below BK601.out pl⟩, ⟨blk_below BK607.out pl⟩, ⟨pB⟩⟩
     case rest =>
      clear HC21
      obtain ⟨kq, x25_20, rfl, HA, HJ20, HO_608001, BK601, BK607, HB⟩ := hcut
      cases kq with
      | zero => exact absurd HA.out (by simp [bolterref02_Word.j1])
      | succ kj20 =>
       have H := HA.out
       clear HA
       simp only [bolterref02_Word.j1] at H
       by_cases c25 : x25_20 = true
       ·subst c25
        rw [if_pos rfl] at H
        by_cases c26 : x5_3.size + 2 <= 9223372036854775807
        ·rw [if_pos c26] at H
         have c26b0 := eq_true c26
         have c26b1 : decide (x5_3.size + 2 <= 9223372036854775807) = true := decide_eq_true c26
         try have c26b2 : (9223372036854775807 < x5_3.size + 2) = False := eq_false (Nat.not_lt.2 c26)
         obtain ⟨t609, A27, H⟩ := ob H
         by_cases c28 : (x5_3 ++ (⟨#[48, 46]⟩ : ByteArray)).size + t609.size <= 9223372036854775807
         ·rw [if_pos c28] at H
          have c28b0 := eq_true c28
          have c28b1 : decide ((x5_3 ++ (⟨#[48, 46]⟩ : ByteArray)).size + t609.size <= 9223372036854775807) = true := decide_eq_true c28
          try have c28b2 : (9223372036854775807 < (x5_3 ++ (⟨#[48, 46]⟩ : ByteArray)).size + t609.size) = False := eq_false (Nat.not_lt.2 c28)
          try have c28b3 : (9223372036854775807 < x5_3.size + 2 + t609.size) = False := eq_false (Nat.not_lt.2 (by have q_ := c28; have l0_ : (⟨#[48, 46]⟩ : ByteArray).size = 2 := rfl; (try have h0_ := of_decide_eq_true c26b1); simp only [ByteArray.size_append, ByteArray.size_extract] at q_; omega))
          by_cases c29 : ((x5_3 ++ (⟨#[48, 46]⟩ : ByteArray)) ++ t609).size + t608.size <= 9223372036854775807
          ·rw [if_pos c29] at H
           have c29b0 := eq_true c29
           have c29b1 : decide (((x5_3 ++ (⟨#[48, 46]⟩ : ByteArray)) ++ t609).size + t608.size <= 9223372036854775807) = true := decide_eq_true c29
           try have c29b2 : (9223372036854775807 < ((x5_3 ++ (⟨#[48, 46]⟩ : ByteArray)) ++ t609).size + t608.size) = False := eq_false (Nat.not_lt.2 c29)
           try have c29b3 : (9223372036854775807 < x5_3.size + 2 + t609.size + t608.size) = False := eq_false (Nat.not_lt.2 (by have q_ := c29; have l0_ : (⟨#[48, 46]⟩ : ByteArray).size = 2 := rfl; (try have h0_ := of_decide_eq_true c26b1); (try have h1_ := of_decide_eq_true c28b1); simp only [ByteArray.size_append, ByteArray.size_extract] at q_; omega))
           obtain rfl := Option.some.inj H
           go_wp2_with (first | (refine gL (some 36) Tryz.func119 #[.int .i64 (wrap64 (-(wrap64 ((t608.size : Int) + t606))))] (h := ?_); (with_reducible refine (bolterref02_zeros.calls kj20 (wrap64 (-(wrap64 ((t608.size : Int) + t606)))) t609 _ A27.out).mono ?_); rintro e w' ⟨rfl, ⟨nd, rfl⟩⟩; refine ⟨_, rfl, ?_⟩))
           go_ret
           exact ⟨pE, pB⟩
          ·rw [if_neg c29] at H
           exact absurd H (by simp)
         ·rw [if_neg c28] at H
          exact absurd H (by simp)
        ·rw [if_neg c26] at H
         exact absurd H (by simp)
       ·replace c25 := Bool.eq_false_iff.mpr c25
        subst c25
        rw [if_neg (show ¬ (false = true) by decide)] at H
        have HC30 := am H
        clear H
        go_upto_region 10 with (fail)
        go_cut [40] (fun v40 wc => ∃ (kq : Nat) (x40_29 : Bool), v40 = .bool x40_29 /\ Aside0 (bolterref02_Word.j2 kq t608 x5_3 (wrap64 ((t608.size : Int) + t606)) x40_29 = some r) /\ Aside0 (kq <= kj20) /\ Aside0 (Kd.R (Kd.int .i64) 3 wc w.heap.size (fun _ => True) (.slice Ao11 t603.length co11) t603) /\ Aside0 (wc.heap[gb601]? = some (.cells #[.bool a0_0, (.slice A0_1 l0_1.length c0_1), .int .i64 a0_2] 24 (0, 0))) /\ Aside0 (wc.heap[gb607]? = some (.cells #[.bool t602, (.slice Ao11 t603.length co11), .int .i64 t606] 30 (0, 0))) /\ Aside0 (Below w.heap.size w wc))
        case first =>
         have H := HC30.out
         clear HC30
         by_cases c31 : (wrap64 ((t608.size : Int) + t606)) >= 1
         ·rw [if_pos c31] at H
          have c31b0 : decide (1 <= (wrap64 ((t608.size : Int) + t606))) = true := decide_eq_true c31
          clear c31
          (first | rw [c31b0] | (simp only [i64_w, i32_w]; rw [c31b0]) | skip)
          by_cases c32 : (wrap64 ((t608.size : Int) + t606)) <= 21
          ·rw [if_pos c32] at H
           have c32b0 : decide ((wrap64 ((t608.size : Int) + t606)) <= 21) = true := decide_eq_true c32
           clear c32
           have H' := am H
           clear H
           go_wp2
           go_meet
           case rel => exact ⟨_, (decide ((wrap64 ((t608.size : Int) + t606)) < (t608.size : Int))), pR, H', ⟨by have := HJ3.out; have := HJ20.out; first | omega | exact Nat.le_refl _⟩, ⟨by refine rp ?_; exact HO_608001.out⟩, ⟨blk_below BK601.out pl⟩, ⟨blk_below BK607.out pl⟩, ⟨pB⟩⟩
          ·rw [if_neg c32] at H
           have c32b0 : decide ((wrap64 ((t608.size : Int) + t606)) <= 21) = false := decide_eq_false c32
           clear c32
           have H' := am H
           clear H
           go_wp2
           go_meet
           case rel => exact ⟨_, (false), pR, H', ⟨by have := HJ3.out; have := HJ20.out; first | omega | exact Nat.le_refl _⟩, ⟨by refine rp ?_; exact HO_608001.out⟩, ⟨blk_below BK601.out pl⟩, ⟨blk_below BK607.out pl⟩, ⟨pB⟩⟩
         ·rw [if_neg c31] at H
          have c31b0 : decide (1 <= (wrap64 ((t608.size : Int) + t606))) = false := decide_eq_false c31
          clear c31
          (first | rw [c31b0] | (simp only [i64_w, i32_w]; rw [c31b0]) | skip)
          have H' := am H
          clear H
          go_wp2
          go_meet
          case rel => exact ⟨_, (false), pR, H', ⟨by have := HJ3.out; have := HJ20.out; first | omega | exact Nat.le_refl _⟩, ⟨by refine rp ?_; exact HO_608001.out⟩, ⟨blk_below BK601.out pl⟩, ⟨blk_below BK607.out pl⟩, ⟨pB⟩⟩
        case rest =>
         clear HC30
         obtain ⟨kq, x40_29, rfl, HA, HJ29, HO_608001, BK601, BK607, HB⟩ := hcut
         cases kq with
         | zero => exact absurd HA.out (by simp [bolterref02_Word.j2])
         | succ kj29 =>
          have H := HA.out
          clear HA
          simp only [bolterref02_Word.j2] at H
          by_cases c33 : x40_29 = true
          ·subst c33
           rw [if_pos rfl] at H
           obtain ⟨ji34, hji34⟩ : ∃ j_ : Int, (wrap64 ((t608.size : Int) + t606)) = j_ := ⟨_, rfl⟩
           replace H : (if 0 <= (ji34) then (if (ji34) <= (t608.size : Int) then (if x5_3.size + (t608.extract 0 ((ji34) : Int).toNat).size <= 9223372036854775807 then (if (x5_3 ++ (t608.extract 0 ((ji34) : Int).toNat)).size + 1 <= 9223372036854775807 then (if ((x5_3 ++ (t608.extract 0 ((ji34) : Int).toNat)) ++ (⟨#[46]⟩ : ByteArray)).size + (t608.extract ((ji34) : Int).toNat t608.size).size <= 9223372036854775807 then (some (((x5_3 ++ (t608.extract 0 ((ji34) : Int).toNat)) ++ (⟨#[46]⟩ : ByteArray)) ++ (t608.extract ((ji34) : Int).toNat t608.size))) else (none)) else (none)) else (none)) else (none)) else (none)) = some r := by first | (rw [hji34] at H; exact H) | (simp only [hji34] at H ⊢; exact H)
           have hji34w : (IntKind.i64.wrap ((t608.size : Int) + t606)) = ji34 := (i64_w _).trans hji34
           by_cases c35 : 0 <= (ji34)
           ·rw [if_pos c35] at H
            have c35b0 := eq_true c35
            have c35b1 : decide (0 <= (ji34)) = true := decide_eq_true c35
            clear c35
            by_cases c36 : (ji34) <= (t608.size : Int)
            ·rw [if_pos c36] at H
             have c36b0 := eq_true c36
             have c36b1 : decide ((ji34) <= (t608.size : Int)) = true := decide_eq_true c36
             clear c36
             by_cases c37 : x5_3.size + (t608.extract 0 ((ji34) : Int).toNat).size <= 9223372036854775807
             ·rw [if_pos c37] at H
              have c37b0 := eq_true c37
              have c37b1 : decide (x5_3.size + (t608.extract 0 ((ji34) : Int).toNat).size <= 9223372036854775807) = true := decide_eq_true c37
              try have c37b2 : (9223372036854775807 < x5_3.size + (t608.extract 0 ((ji34) : Int).toNat).size) = False := eq_false (Nat.not_lt.2 c37)
              try have c37b3 : (9223372036854775807 < x5_3.size + ((ji34) : Int).toNat) = False := eq_false (Nat.not_lt.2 (by have q_ := c37; (try have h0_ := of_decide_eq_true c35b1); (try have h1_ := of_decide_eq_true c36b1); simp only [ByteArray.size_append, ByteArray.size_extract] at q_; omega))
              by_cases c38 : (x5_3 ++ (t608.extract 0 ((ji34) : Int).toNat)).size + 1 <= 9223372036854775807
              ·rw [if_pos c38] at H
               have c38b0 := eq_true c38
               have c38b1 : decide ((x5_3 ++ (t608.extract 0 ((ji34) : Int).toNat)).size + 1 <= 9223372036854775807) = true := decide_eq_true c38
               try have c38b2 : (9223372036854775807 < (x5_3 ++ (t608.extract 0 ((ji34) : Int).toNat)).size + 1) = False := eq_false (Nat.not_lt.2 c38)
               try have c38b3 : (9223372036854775807 < x5_3.size + ((ji34) : Int).toNat + 1) = False := eq_false (Nat.not_lt.2 (by have q_ := c38; (try have h0_ := of_decide_eq_true c35b1); (try have h1_ := of_decide_eq_true c36b1); (try have h2_ := of_decide_eq_true c37b1); simp only [ByteArray.size_append, ByteArray.size_extract] at q_; omega))
               have c39b0 := eq_true (of_decide_eq_true pQ : 0 <= (ji34))
               have c40b0 := eq_true (of_decide_eq_true pQ : (ji34) <= (t608.size : Int))
               by_cases c41 : ((x5_3 ++ (t608.extract 0 ((ji34) : Int).toNat)) ++ (⟨#[46]⟩ : ByteArray)).size + (t608.extract ((ji34) : Int).toNat t608.size).size <= 9223372036854775807
               ·rw [if_pos c41] at H
                have c41b0 := eq_true c41
                have c41b1 : decide (((x5_3 ++ (t608.extract 0 ((ji34) : Int).toNat)) ++ (⟨#[46]⟩ : ByteArray)).size + (t608.extract ((ji34) : Int).toNat t608.size).size <= 9223372036854775807) = true := decide_eq_true c41
                try have c41b2 : (9223372036854775807 < ((x5_3 ++ (t608.extract 0 ((ji34) : Int).toNat)) ++ (⟨#[46]⟩ : ByteArray)).size + (t608.extract ((ji34) : Int).toNat t608.size).size) = False := eq_false (Nat.not_lt.2 c41)
                try have c41b3 : (9223372036854775807 < x5_3.size + ((ji34) : Int).toNat + 1 + (t608.size - ((ji34) : Int).toNat)) = False := eq_false (Nat.not_lt.2 (by have q_ := c41; have l0_ : (⟨#[46]⟩ : ByteArray).size = 1 := rfl; (try have h0_ := of_decide_eq_true c35b1); (try have h1_ := of_decide_eq_true c36b1); (try have h2_ := of_decide_eq_true c37b1); (try have h3_ := of_decide_eq_true c38b1); simp only [ByteArray.size_append, ByteArray.size_extract] at q_; omega))
                obtain rfl := Option.some.inj H
                try go_wp2
                replace HO_608001 := am (Kd.R_drew HO_608001.out)
                replace BK601 := am (blk_drew BK601.out)
                replace BK607 := am (blk_drew BK607.out)
                replace HB := am (below_drew1 HB.out)
                refine start_ (n := 11) (S := fun w' => True) (ds := []) #[false, false, false, false, false, false, false, false, false, false, false] (by kernel_rfl) rfl rfl trivial (fun hHeld => ?_); refine with_tabW bolterref02_Word.tab11 bolterref02_Word.bits11 (fun HT_ HW_ => ?_)
                generalize wc.drew = w42 at HO_608001 BK601 BK607 HB hHeld ⊢
                refine pu 0 (some 53) #[true, false, false, false, false, false, false, false, false, false, false] (h := ?_)
                refine pu 1 (some 54) #[true, true, false, false, false, false, false, false, false, false, false] (h := ?_)
                refine pu 2 (some 55) #[true, true, true, false, false, false, false, false, false, false, false] (h := ?_)
                refine pu 3 (some 56) #[true, true, true, true, false, false, false, false, false, false, false] (h := ?_)
                refine pu 4 (some 57) #[true, true, true, true, true, false, false, false, false, false, false] (h := ?_)
                refine pu 5 (some 58) #[true, true, true, true, true, true, false, false, false, false, false] (h := ?_)
                refine pu 6 (some 59) #[true, true, true, true, true, true, true, false, false, false, false] (h := ?_)
                refine pu 7 (some 60) #[true, true, true, true, true, true, true, true, false, false, false] (h := ?_)
                refine pu 8 (some 61) #[true, true, true, true, true, true, true, true, true, false, false] (h := ?_)
                refine pu 9 (some 62) #[true, true, true, true, true, true, true, true, true, true, false] (h := ?_)
                refine pu 10 (some 2) #[true, true, true, true, true, true, true, true, true, true, true] (h := ?_)
                refine done_ (done_of HT_.out (by kernel_rfl)) ?_
                try go_wp2
                go_ret
                exact ⟨by first | rfl | (simp [errW_none, errW_some] <;> rfl) | (simp only [<- hji34]; first | rfl | (simp [errW_none, errW_some] <;> rfl)) | (simp [*, errW_none, errW_some] <;> rfl), pB⟩
               ·rw [if_neg c41] at H
                exact absurd H (by simp)
              ·rw [if_neg c38] at H
               exact absurd H (by simp)
             ·rw [if_neg c37] at H
              exact absurd H (by simp)
            ·rw [if_neg c36] at H
             exact absurd H (by simp)
           ·rw [if_neg c35] at H
            exact absurd H (by simp)
          ·replace c33 := Bool.eq_false_iff.mpr c33
           subst c33
           rw [if_neg (show ¬ (false = true) by decide)] at H
           by_cases c43 : (wrap64 ((t608.size : Int) + t606)) >= 1
           ·rw [if_pos c43] at H
            have c43b0 : decide (1 <= (wrap64 ((t608.size : Int) + t606))) = true := decide_eq_true c43
            clear c43
            by_cases c44 : (wrap64 ((t608.size : Int) + t606)) <= 21
            ·rw [if_pos c44] at H
             have c44b0 : decide ((wrap64 ((t608.size : Int) + t606)) <= 21) = true := decide_eq_true c44
             clear c44
             by_cases c45 : x5_3.size + t608.size <= 9223372036854775807
             ·rw [if_pos c45] at H
              have c45b0 := eq_true c45
              have c45b1 : decide (x5_3.size + t608.size <= 9223372036854775807) = true := decide_eq_true c45
              try have c45b2 : (9223372036854775807 < x5_3.size + t608.size) = False := eq_false (Nat.not_lt.2 c45)
              obtain ⟨t610, A46, H⟩ := ob H
              by_cases c47 : (x5_3 ++ t608).size + t610.size <= 9223372036854775807
              ·rw [if_pos c47] at H
               have c47b0 := eq_true c47
               have c47b1 : decide ((x5_3 ++ t608).size + t610.size <= 9223372036854775807) = true := decide_eq_true c47
               try have c47b2 : (9223372036854775807 < (x5_3 ++ t608).size + t610.size) = False := eq_false (Nat.not_lt.2 c47)
               try have c47b3 : (9223372036854775807 < x5_3.size + t608.size + t610.size) = False := eq_false (Nat.not_lt.2 (by have q_ := c47; (try have h0_ := of_decide_eq_true c45b1); simp only [ByteArray.size_append, ByteArray.size_extract] at q_; omega))
               obtain rfl := Option.some.inj H
               go_wp2_with (first | (refine gL (some 77) Tryz.func119 #[.int .i64 (wrap64 ((wrap64 ((t608.size : Int) + t606)) - (t608.size : Int)))] (h := ?_); (with_reducible refine (bolterref02_zeros.calls kj29 (wrap64 ((wrap64 ((t608.size : Int) + t606)) - (t608.size : Int))) t610 _ A46.out).mono ?_); rintro e w' ⟨rfl, ⟨nd, rfl⟩⟩; refine ⟨_, rfl, ?_⟩))
               go_ret
               exact ⟨pE, pB⟩
              ·rw [if_neg c47] at H
               exact absurd H (by simp)
             ·rw [if_neg c45] at H
              exact absurd H (by simp)
            ·rw [if_neg c44] at H
             have c44b0 : decide ((wrap64 ((t608.size : Int) + t606)) <= 21) = false := decide_eq_false c44
             clear c44
             have H' := am H
             clear H
             go_wp2
             go_meet
             case rel => exact ⟨_, H', ⟨by have := HJ3.out; have := HJ20.out; have := HJ29.out; first | omega | exact Nat.le_refl _⟩, ⟨by refine rp ?_; exact HO_608001.out⟩, ⟨blk_below BK601.out pl⟩, ⟨blk_below BK607.out pl⟩, ⟨pB⟩⟩
           ·rw [if_neg c43] at H
            have c43b0 : decide (1 <= (wrap64 ((t608.size : Int) + t606))) = false := decide_eq_false c43
            clear c43
            have H' := am H
            clear H
            go_wp2
            go_meet
            case rel => exact ⟨_, H', ⟨by have := HJ3.out; have := HJ20.out; have := HJ29.out; first | omega | exact Nat.le_refl _⟩, ⟨by refine rp ?_; exact HO_608001.out⟩, ⟨blk_below BK601.out pl⟩, ⟨blk_below BK607.out pl⟩, ⟨pB⟩⟩
   case rest =>
    clear HC15
    obtain ⟨kq, HA, HJ14, HO_608001, BK601, BK607, HB⟩ := hcut
    cases kq with
    | zero => exact absurd HA.out (by simp [bolterref02_Word.j3])
    | succ kj14 =>
     have H := HA.out
     clear HA
     simp only [bolterref02_Word.j3] at H
     have HC48 := am H
     clear H
     go_upto_if 82 with (fail)
     go_cut [6, 7] (fun v6 v7 wc => ∃ (kq : Nat) (x6_47 : Int) (x7_47 : ByteArray), v6 = .int .i64 x6_47 /\ v7 = .string x7_47 /\ Aside0 (bolterref02_Word.j4 kq t608 x5_3 x6_47 x7_47 = some r) /\ Aside0 (kq <= kj14) /\ Aside0 (Kd.R (Kd.int .i64) 3 wc w.heap.size (fun _ => True) (.slice Ao11 t603.length co11) t603) /\ Aside0 (wc.heap[gb601]? = some (.cells #[.bool a0_0, (.slice A0_1 l0_1.length c0_1), .int .i64 a0_2] 24 (0, 0))) /\ Aside0 (wc.heap[gb607]? = some (.cells #[.bool t602, (.slice Ao11 t603.length co11), .int .i64 t606] 30 (0, 0))) /\ Aside0 (Below w.heap.size w wc))
     case first =>
      have H := HC48.out
      clear HC48
      by_cases c49 : (wrap64 ((wrap64 ((t608.size : Int) + t606)) - 1)) < 0
      ·rw [if_pos c49] at H
       have c49b0 : decide ((wrap64 ((wrap64 ((t608.size : Int) + t606)) - 1)) < 0) = true := decide_eq_true c49
       clear c49
       (first | rw [c49b0] | (simp only [i64_w, i32_w]; rw [c49b0]) | skip)
       have H' := am H
       clear H
       go_wp2
       go_meet
       case rel => exact ⟨_, (wrap64 (-(wrap64 ((wrap64 ((t608.size : Int) + t606)) - 1)))), ((⟨#[101, 45]⟩ : ByteArray)), pR, pR, H', ⟨by have := HJ3.out; have := HJ14.out; first | omega | exact Nat.le_refl _⟩, ⟨by refine rp ?_; exact HO_608001.out⟩, ⟨blk_below BK601.out pl⟩, ⟨blk_below BK607.out pl⟩, ⟨pB⟩⟩
      ·rw [if_neg c49] at H
       have c49b0 : decide ((wrap64 ((wrap64 ((t608.size : Int) + t606)) - 1)) < 0) = false := decide_eq_false c49
       clear c49
       (first | rw [c49b0] | (simp only [i64_w, i32_w]; rw [c49b0]) | skip)
       have H' := am H
       clear H
       go_wp2
       go_meet
       case rel => exact ⟨_, (wrap64 ((wrap64 ((t608.size : Int) + t606)) - 1)), ((⟨#[101, 43]⟩ : ByteArray)), pR, pR, H', ⟨by have := HJ3.out; have := HJ14.out; first | omega | exact Nat.le_refl _⟩, ⟨by refine rp ?_; exact HO_608001.out⟩, ⟨blk_below BK601.out pl⟩, ⟨blk_below BK607.out pl⟩, ⟨pB⟩⟩
     case rest =>
      clear HC48
      obtain ⟨kq, x6_47, x7_47, rfl, rfl, HA, HJ47, HO_608001, BK601, BK607, HB⟩ := hcut
      cases kq with
      | zero => exact absurd HA.out (by simp [bolterref02_Word.j4])
      | succ kj47 =>
       have H := HA.out
       clear HA
       simp only [bolterref02_Word.j4] at H
       by_cases c50 : (t608.size : Int) > 1
       ·rw [if_pos c50] at H
        have c50b0 : decide (1 < (t608.size : Int)) = true := decide_eq_true c50
        have c50b1 : decide (1 < t608.size) = true := decide_eq_true (by omega)
        clear c50
        by_cases c51 : 0 <= 1
        ·rw [if_pos c51] at H
         have c51b0 := eq_true c51
         have c51b1 : decide (0 <= 1) = true := decide_eq_true c51
         clear c51
         by_cases c52 : 1 <= (t608.size : Int)
         ·rw [if_pos c52] at H
          have c52b0 := eq_true c52
          have c52b1 : decide (1 <= (t608.size : Int)) = true := decide_eq_true c52
          clear c52
          by_cases c53 : x5_3.size + (t608.extract 0 1).size <= 9223372036854775807
          ·rw [if_pos c53] at H
           have c53b0 := eq_true c53
           have c53b1 : decide (x5_3.size + (t608.extract 0 1).size <= 9223372036854775807) = true := decide_eq_true c53
           try have c53b2 : (9223372036854775807 < x5_3.size + (t608.extract 0 1).size) = False := eq_false (Nat.not_lt.2 c53)
           try have c53b3 : (9223372036854775807 < x5_3.size + 1) = False := eq_false (Nat.not_lt.2 (by have q_ := c53; (try have h0_ := of_decide_eq_true c51b1); (try have h1_ := of_decide_eq_true c52b1); simp only [ByteArray.size_append, ByteArray.size_extract] at q_; omega))
           try have c53b4 : (9223372036854775807 < x5_3.size + min 1 t608.size) = False := eq_false (Nat.not_lt.2 (by have q_ := c53; (try have h0_ := of_decide_eq_true c51b1); (try have h1_ := of_decide_eq_true c52b1); simp only [ByteArray.size_append, ByteArray.size_extract] at q_; omega))
           by_cases c54 : (x5_3 ++ (t608.extract 0 1)).size + 1 <= 9223372036854775807
           ·rw [if_pos c54] at H
            have c54b0 := eq_true c54
            have c54b1 : decide ((x5_3 ++ (t608.extract 0 1)).size + 1 <= 9223372036854775807) = true := decide_eq_true c54
            try have c54b2 : (9223372036854775807 < (x5_3 ++ (t608.extract 0 1)).size + 1) = False := eq_false (Nat.not_lt.2 c54)
            try have c54b3 : (9223372036854775807 < x5_3.size + 1 + 1) = False := eq_false (Nat.not_lt.2 (by have q_ := c54; (try have h0_ := of_decide_eq_true c51b1); (try have h1_ := of_decide_eq_true c52b1); (try have h2_ := of_decide_eq_true c53b1); simp only [ByteArray.size_append, ByteArray.size_extract] at q_; omega))
            try have c54b4 : (9223372036854775807 < x5_3.size + min 1 t608.size + 1) = False := eq_false (Nat.not_lt.2 (by have q_ := c54; (try have h0_ := of_decide_eq_true c51b1); (try have h1_ := of_decide_eq_true c52b1); (try have h2_ := of_decide_eq_true c53b1); simp only [ByteArray.size_append, ByteArray.size_extract] at q_; omega))
            have c55b0 := eq_true (of_decide_eq_true pQ : 1 <= (t608.size : Int))
            by_cases c56 : ((x5_3 ++ (t608.extract 0 1)) ++ (⟨#[46]⟩ : ByteArray)).size + (t608.extract 1 t608.size).size <= 9223372036854775807
            ·rw [if_pos c56] at H
             have c56b0 := eq_true c56
             have c56b1 : decide (((x5_3 ++ (t608.extract 0 1)) ++ (⟨#[46]⟩ : ByteArray)).size + (t608.extract 1 t608.size).size <= 9223372036854775807) = true := decide_eq_true c56
             try have c56b2 : (9223372036854775807 < ((x5_3 ++ (t608.extract 0 1)) ++ (⟨#[46]⟩ : ByteArray)).size + (t608.extract 1 t608.size).size) = False := eq_false (Nat.not_lt.2 c56)
             try have c56b3 : (9223372036854775807 < x5_3.size + 1 + 1 + (t608.size - 1)) = False := eq_false (Nat.not_lt.2 (by have q_ := c56; have l0_ : (⟨#[46]⟩ : ByteArray).size = 1 := rfl; (try have h0_ := of_decide_eq_true c51b1); (try have h1_ := of_decide_eq_true c52b1); (try have h2_ := of_decide_eq_true c53b1); (try have h3_ := of_decide_eq_true c54b1); simp only [ByteArray.size_append, ByteArray.size_extract] at q_; omega))
             try have c56b4 : (9223372036854775807 < x5_3.size + min 1 t608.size + 1 + (t608.size - 1)) = False := eq_false (Nat.not_lt.2 (by have q_ := c56; have l0_ : (⟨#[46]⟩ : ByteArray).size = 1 := rfl; (try have h0_ := of_decide_eq_true c51b1); (try have h1_ := of_decide_eq_true c52b1); (try have h2_ := of_decide_eq_true c53b1); (try have h3_ := of_decide_eq_true c54b1); simp only [ByteArray.size_append, ByteArray.size_extract] at q_; omega))
             by_cases c57 : (((x5_3 ++ (t608.extract 0 1)) ++ (⟨#[46]⟩ : ByteArray)) ++ (t608.extract 1 t608.size)).size + x7_47.size <= 9223372036854775807
             ·rw [if_pos c57] at H
              have c57b0 := eq_true c57
              have c57b1 : decide ((((x5_3 ++ (t608.extract 0 1)) ++ (⟨#[46]⟩ : ByteArray)) ++ (t608.extract 1 t608.size)).size + x7_47.size <= 9223372036854775807) = true := decide_eq_true c57
              try have c57b2 : (9223372036854775807 < (((x5_3 ++ (t608.extract 0 1)) ++ (⟨#[46]⟩ : ByteArray)) ++ (t608.extract 1 t608.size)).size + x7_47.size) = False := eq_false (Nat.not_lt.2 c57)
              try have c57b3 : (9223372036854775807 < x5_3.size + 1 + 1 + ((t608.size - 1)) + x7_47.size) = False := eq_false (Nat.not_lt.2 (by have q_ := c57; have l0_ : (⟨#[46]⟩ : ByteArray).size = 1 := rfl; (try have h0_ := of_decide_eq_true c51b1); (try have h1_ := of_decide_eq_true c52b1); (try have h2_ := of_decide_eq_true c53b1); (try have h3_ := of_decide_eq_true c54b1); (try have h4_ := of_decide_eq_true c56b1); simp only [ByteArray.size_append, ByteArray.size_extract] at q_; omega))
              try have c57b4 : (9223372036854775807 < x5_3.size + min 1 t608.size + 1 + ((t608.size - 1)) + x7_47.size) = False := eq_false (Nat.not_lt.2 (by have q_ := c57; have l0_ : (⟨#[46]⟩ : ByteArray).size = 1 := rfl; (try have h0_ := of_decide_eq_true c51b1); (try have h1_ := of_decide_eq_true c52b1); (try have h2_ := of_decide_eq_true c53b1); (try have h3_ := of_decide_eq_true c54b1); (try have h4_ := of_decide_eq_true c56b1); simp only [ByteArray.size_append, ByteArray.size_extract] at q_; omega))
              obtain ⟨t611, A58, H⟩ := ob H
              by_cases c59 : ((((x5_3 ++ (t608.extract 0 1)) ++ (⟨#[46]⟩ : ByteArray)) ++ (t608.extract 1 t608.size)) ++ x7_47).size + t611.size <= 9223372036854775807
              ·rw [if_pos c59] at H
               have c59b0 := eq_true c59
               have c59b1 : decide (((((x5_3 ++ (t608.extract 0 1)) ++ (⟨#[46]⟩ : ByteArray)) ++ (t608.extract 1 t608.size)) ++ x7_47).size + t611.size <= 9223372036854775807) = true := decide_eq_true c59
               try have c59b2 : (9223372036854775807 < ((((x5_3 ++ (t608.extract 0 1)) ++ (⟨#[46]⟩ : ByteArray)) ++ (t608.extract 1 t608.size)) ++ x7_47).size + t611.size) = False := eq_false (Nat.not_lt.2 c59)
               try have c59b3 : (9223372036854775807 < x5_3.size + 1 + 1 + ((t608.size - 1)) + x7_47.size + t611.size) = False := eq_false (Nat.not_lt.2 (by have q_ := c59; have l0_ : (⟨#[46]⟩ : ByteArray).size = 1 := rfl; (try have h0_ := of_decide_eq_true c51b1); (try have h1_ := of_decide_eq_true c52b1); (try have h2_ := of_decide_eq_true c53b1); (try have h3_ := of_decide_eq_true c54b1); (try have h4_ := of_decide_eq_true c56b1); (try have h5_ := of_decide_eq_true c57b1); simp only [ByteArray.size_append, ByteArray.size_extract] at q_; omega))
               try have c59b4 : (9223372036854775807 < x5_3.size + min 1 t608.size + 1 + ((t608.size - 1)) + x7_47.size + t611.size) = False := eq_false (Nat.not_lt.2 (by have q_ := c59; have l0_ : (⟨#[46]⟩ : ByteArray).size = 1 := rfl; (try have h0_ := of_decide_eq_true c51b1); (try have h1_ := of_decide_eq_true c52b1); (try have h2_ := of_decide_eq_true c53b1); (try have h3_ := of_decide_eq_true c54b1); (try have h4_ := of_decide_eq_true c56b1); (try have h5_ := of_decide_eq_true c57b1); simp only [ByteArray.size_append, ByteArray.size_extract] at q_; omega))
               obtain rfl := Option.some.inj H
               try go_wp2
               replace HO_608001 := am (Kd.R_drew HO_608001.out)
               replace BK601 := am (blk_drew BK601.out)
               replace BK607 := am (blk_drew BK607.out)
               replace HB := am (below_drew1 HB.out)
               refine start_ (n := 14) (S := fun w' => True) (ds := []) #[false, false, false, false, false, false, false, false, false, false, false, false, false, false] (by kernel_rfl) rfl rfl trivial (fun hHeld => ?_); refine with_tabW bolterref02_Word.tab19 bolterref02_Word.bits19 (fun HT_ HW_ => ?_)
               generalize wc.drew = w60 at HO_608001 BK601 BK607 HB hHeld ⊢
               refine pu 0 (some 88) #[true, false, false, false, false, false, false, false, false, false, false, false, false, false] (h := ?_)
               refine pu 1 (some 89) #[true, true, false, false, false, false, false, false, false, false, false, false, false, false] (h := ?_)
               refine pu 2 (some 90) #[true, true, true, false, false, false, false, false, false, false, false, false, false, false] (h := ?_)
               refine pu 3 (some 91) #[true, true, true, true, false, false, false, false, false, false, false, false, false, false] (h := ?_)
               refine pu 4 (some 92) #[true, true, true, true, true, false, false, false, false, false, false, false, false, false] (h := ?_)
               refine pu 5 (some 93) #[true, true, true, true, true, true, false, false, false, false, false, false, false, false] (h := ?_)
               refine pu 6 (some 94) #[true, true, true, true, true, true, true, false, false, false, false, false, false, false] (h := ?_)
               refine pu 7 (some 95) #[true, true, true, true, true, true, true, true, false, false, false, false, false, false] (h := ?_)
               refine pu 8 (some 96) #[true, true, true, true, true, true, true, true, true, false, false, false, false, false] (h := ?_)
               refine pu 9 (some 97) #[true, true, true, true, true, true, true, true, true, true, false, false, false, false] (h := ?_)
               refine pu 10 (some 98) #[true, true, true, true, true, true, true, true, true, true, true, false, false, false] (h := ?_)
               refine one_ (i := 11) (N := some 99) #[true, true, true, true, true, true, true, true, true, true, true, true, false, false] rfl rfl (one_of HT_.out (by kernel_rfl)) (by decide) (fun K hK => ?_)
               refine goes_ Tryz.func120 (by kernel_rfl) rfl #[.int .i64 x6_47] (by rfl) rfl rfl pA ?_
               with_reducible refine (bolterref02_plain.calls kj47 x6_47 t611 _ A58.out).mono ?_
               rintro e w61 ⟨rfl, hb⟩
               refine ⟨_, rfl, ?_⟩
               replace HO_608001 := rbl HO_608001 hb
               replace BK601 := bb BK601 hb
               replace BK607 := bb BK607 hb
               replace HB := bS hb
               refine hK.out _ _ trivial (fun hHeld => ?_)
               clear hK K
               refine norm_ (a' := ?_) ?_ ?_
               rotate_left
               ·show Act.put _ (some 99) _ = _
                exact pP
               refine pu 12 (some 100) #[true, true, true, true, true, true, true, true, true, true, true, true, true, false] (h := ?_)
               refine pu 13 (some 2) #[true, true, true, true, true, true, true, true, true, true, true, true, true, true] (h := ?_)
               refine done_ (done_of HT_.out (by kernel_rfl)) ?_
               try go_wp2
               go_ret
               exact ⟨pE, pB⟩
              ·rw [if_neg c59] at H
               exact absurd H (by simp)
             ·rw [if_neg c57] at H
              exact absurd H (by simp)
            ·rw [if_neg c56] at H
             exact absurd H (by simp)
           ·rw [if_neg c54] at H
            exact absurd H (by simp)
          ·rw [if_neg c53] at H
           exact absurd H (by simp)
         ·rw [if_neg c52] at H
          exact absurd H (by simp)
        ·rw [if_neg c51] at H
         exact absurd H (by simp)
       ·rw [if_neg c50] at H
        have c50b0 : decide (1 < (t608.size : Int)) = false := decide_eq_false c50
        have c50b1 : decide (1 < t608.size) = false := decide_eq_false (by omega)
        clear c50
        by_cases c62 : x5_3.size + t608.size <= 9223372036854775807
        ·rw [if_pos c62] at H
         have c62b0 := eq_true c62
         have c62b1 : decide (x5_3.size + t608.size <= 9223372036854775807) = true := decide_eq_true c62
         try have c62b2 : (9223372036854775807 < x5_3.size + t608.size) = False := eq_false (Nat.not_lt.2 c62)
         by_cases c63 : (x5_3 ++ t608).size + x7_47.size <= 9223372036854775807
         ·rw [if_pos c63] at H
          have c63b0 := eq_true c63
          have c63b1 : decide ((x5_3 ++ t608).size + x7_47.size <= 9223372036854775807) = true := decide_eq_true c63
          try have c63b2 : (9223372036854775807 < (x5_3 ++ t608).size + x7_47.size) = False := eq_false (Nat.not_lt.2 c63)
          try have c63b3 : (9223372036854775807 < x5_3.size + t608.size + x7_47.size) = False := eq_false (Nat.not_lt.2 (by have q_ := c63; (try have h0_ := of_decide_eq_true c62b1); simp only [ByteArray.size_append, ByteArray.size_extract] at q_; omega))
          obtain ⟨t612, A64, H⟩ := ob H
          by_cases c65 : ((x5_3 ++ t608) ++ x7_47).size + t612.size <= 9223372036854775807
          ·rw [if_pos c65] at H
           have c65b0 := eq_true c65
           have c65b1 : decide (((x5_3 ++ t608) ++ x7_47).size + t612.size <= 9223372036854775807) = true := decide_eq_true c65
           try have c65b2 : (9223372036854775807 < ((x5_3 ++ t608) ++ x7_47).size + t612.size) = False := eq_false (Nat.not_lt.2 c65)
           try have c65b3 : (9223372036854775807 < x5_3.size + t608.size + x7_47.size + t612.size) = False := eq_false (Nat.not_lt.2 (by have q_ := c65; (try have h0_ := of_decide_eq_true c62b1); (try have h1_ := of_decide_eq_true c63b1); simp only [ByteArray.size_append, ByteArray.size_extract] at q_; omega))
           obtain rfl := Option.some.inj H
           go_wp2_with (first | (refine gL (some 107) Tryz.func120 #[.int .i64 x6_47] (h := ?_); (with_reducible refine (bolterref02_plain.calls kj47 x6_47 t612 _ A64.out).mono ?_); rintro e w66 ⟨rfl, hb⟩; refine ⟨_, rfl, ?_⟩; replace HO_608001 := rbl HO_608001 hb; replace BK601 := bb BK601 hb; replace BK607 := bb BK607 hb; replace HB := bS hb))
           go_ret
           exact ⟨pE, pB⟩
          ·rw [if_neg c65] at H
           exact absurd H (by simp)
         ·rw [if_neg c63] at H
          exact absurd H (by simp)
        ·rw [if_neg c62] at H
         exact absurd H (by simp)
def bolterlaw03_alive.f (k : Nat)  : Option (Bool) := (bolterlaw02_Of.f k (⟨#[49]⟩ : ByteArray)).bind fun bt613 => ((bolterlaw02_Of.f k (⟨#[51]⟩ : ByteArray)).bind fun bt618 => ((quot_Div.f k bt613.1 bt613.2.1 bt613.2.2 bt618.1 bt618.2.1 bt618.2.2).bind fun bt623 => ((bolterlaw02_Of.f k (⟨#[52]⟩ : ByteArray)).bind fun bt630 => ((quot_Sqrt.f k bt630.1 bt630.2.1 bt630.2.2).bind fun bt635 => ((bolterlaw03_num.f bt623.2.2.2).bind fun t642 => ((bolterlaw03_num.f bt635.2.2.2).bind fun t643 => (if (wrap64 (t642 + t643)) = 0 then ((bolterref02_Word.f k bt623.1 bt623.2.1 bt623.2.2.1).bind fun t644 => (if t644.toList = ([48, 46, 51, 51, 51, 51, 51, 51, 51, 51, 51, 51, 51, 51, 51, 51, 51, 51, 51, 51, 51, 51, 51, 51, 51, 51, 51, 51, 51, 51, 51, 51, 51, 51, 51, 51, 51, 51, 51, 51, 51, 51] : List UInt8) then ((bolterref02_Word.f k bt635.1 bt635.2.1 bt635.2.2.1).bind fun t645 => (some (t645.toList == ([50] : List UInt8)))) else (some false))) else (some false))))))))
theorem bolterlaw03_alive.leaf {P : Prop} (h : P := by
 go_enter Tryz.func16, Tryz.ntmps16
 go_wp2_with (first | (refine gL (some 6) Tryz.func62 #[.string (⟨#[49]⟩ : ByteArray)] (h := ?_); (with_reducible refine (bolterlaw02_Of.calls k (⟨#[49]⟩ : ByteArray) t613 t614 t617 _ A1.out).mono ?_); rintro e w0z ⟨v1z, rfl, ho2z, hb⟩; refine ⟨_, rfl, ?_⟩; have HO3z := am (Kd.R_lower ho2z (below_size pB)); replace HB := bS hb) | (refine gL (some 7) Tryz.func62 #[.string (⟨#[51]⟩ : ByteArray)] (h := ?_); (with_reducible refine (bolterlaw02_Of.calls k (⟨#[51]⟩ : ByteArray) t618 t619 t622 _ A2.out).mono ?_); rintro e w4z ⟨v5z, rfl, ho2z, hb⟩; refine ⟨_, rfl, ?_⟩; have HO6z := am (Kd.R_lower (Kd.R_new' ho2z (Kd.R_lt (Kd.R_below HO3z.out pl))) (below_size pB)); replace HO3z := reR HO3z ho2z hb; replace HB := bS hb; obtain ⟨Ao7z, co8z, eo9z⟩ := Kd.R_slice HO3z.out; subst eo9z; obtain ⟨Ao10z, co11z, eo12z⟩ := Kd.R_slice HO6z.out; subst eo12z) | (refine gL (some 8) Tryz.func19 #[.agg #[.bool t613, .slice Ao7z t614.length co8z, .int .i64 t617], .agg #[.bool t618, .slice Ao10z t619.length co11z, .int .i64 t622]] (h := ?_); (with_reducible refine (quot_Div.calls k t613 (fun k_ => some k_ = (.slice Ao7z t614.length co8z : Value).ownBlock) _ _ t614 t617 t618 (fun k_ => some k_ = (.slice Ao10z t619.length co11z : Value).ownBlock) _ _ t619 t622 t623 t624 t627 t628 _ ?side1 ?side2 A3.out).mono ?_); (case side1 => exact Kd.R_V (Kd.R_tight rfl (HO3z.out))); (case side2 => exact Kd.R_V (Kd.R_tight rfl (HO6z.out))); rintro e w13z ⟨v14z, rfl, ho2z, hb⟩; refine ⟨_, rfl, ?_⟩; have HO15z := am (Kd.R_lower (Kd.R_new' (Kd.R_new' (Kd.R_mono (ok' := fun k_ => True) ho2z (fun _ hk_ => trivial)) (Kd.R_lt (Kd.R_below HO3z.out pl))) (Kd.R_lt (Kd.R_below HO6z.out pl))) (below_size pB)); replace HO3z := reR HO3z ho2z hb; replace HO6z := reR HO6z ho2z hb; replace HB := bS hb) | ((with_reducible refine gd 1 ?_); refine bx 1 #[.bool false, .slice none 0 0, .int .i64 0] 24 (h := ?_); intro gb16z hg w17z hbox hb; have BK18z := am hbox; have GW19z := gW hg; have GE20z := gW hg; replace HO3z := rbl HO3z hb; replace HO6z := rbl HO6z hb; replace HO15z := rbl HO15z hb; replace HB := bS hb; clear hb hbox hg; obtain ⟨hcz21z, hcz22z, hcz23z, hfz24z, hfz25z, hfz26z⟩ := cEc BK18z.out; obtain ⟨Ao27z, co28z, eo29z⟩ := Kd.R_slice HO15z.out; subst eo29z) | (refine gL (some 12) Tryz.func62 #[.string (⟨#[52]⟩ : ByteArray)] (h := ?_); (with_reducible refine (bolterlaw02_Of.calls k (⟨#[52]⟩ : ByteArray) t630 t631 t634 _ A4.out).mono ?_); rintro e w30z ⟨v31z, rfl, ho2z, hb⟩; refine ⟨_, rfl, ?_⟩; have HO32z := am (Kd.R_lower (Kd.R_new' (Kd.R_new' (Kd.R_new' ho2z (Kd.R_lt (Kd.R_below (z3 HO3z.out BK18z.out (by decide) (.bool t623) (.slice Ao27z t624.length co28z) (.int .i64 t627)) pl))) (Kd.R_lt (Kd.R_below (z3 HO6z.out BK18z.out (by decide) (.bool t623) (.slice Ao27z t624.length co28z) (.int .i64 t627)) pl))) (Kd.R_lt (Kd.R_below (z3 HO15z.out BK18z.out (by decide) (.bool t623) (.slice Ao27z t624.length co28z) (.int .i64 t627)) pl))) (below_size pB)); replace HO3z := am (Kd.R_elder' (Kd.R_below (z3 HO3z.out BK18z.out (by decide) (.bool t623) (.slice Ao27z t624.length co28z) (.int .i64 t627)) pl) (Kd.R_base ho2z) hb); replace HO6z := am (Kd.R_elder' (Kd.R_below (z3 HO6z.out BK18z.out (by decide) (.bool t623) (.slice Ao27z t624.length co28z) (.int .i64 t627)) pl) (Kd.R_base ho2z) hb); replace HO15z := am (Kd.R_elder' (Kd.R_below (z3 HO15z.out BK18z.out (by decide) (.bool t623) (.slice Ao27z t624.length co28z) (.int .i64 t627)) pl) (Kd.R_base ho2z) hb); replace BK18z := am (blk_below (g := gb16z) (o := .cells #[.bool t623, .slice Ao27z t624.length co28z, .int .i64 t627] 24 (0, 0)) (by exact p3 BK18z) hb); replace HB := bS hb; obtain ⟨Ao33z, co34z, eo35z⟩ := Kd.R_slice HO32z.out; subst eo35z) | (refine gL (some 13) Tryz.func26 #[.agg #[.bool t630, .slice Ao33z t631.length co34z, .int .i64 t634]] (h := ?_); (with_reducible refine (quot_Sqrt.calls k t630 _ _ t631 t634 t635 t636 t639 t640 _ ?side1 ?side2 A5.out).mono ?_); (case side1 => exact Kd.C_below (Kd.R_reads' HO32z.out).2.2 pl); (case side2 => exact (Kd.R_reads' HO32z.out).2.1); rintro e w36z ⟨v37z, rfl, ho2z, hb⟩; refine ⟨_, rfl, ?_⟩; have HO38z := am (Kd.R_lower (Kd.R_new' (Kd.R_new' (Kd.R_new' (Kd.R_new' ho2z (Kd.R_lt (Kd.R_below HO3z.out pl))) (Kd.R_lt (Kd.R_below HO6z.out pl))) (Kd.R_lt (Kd.R_below HO15z.out pl))) (Kd.R_lt (Kd.R_below HO32z.out pl))) (below_size pB)); replace HO3z := reR HO3z ho2z hb; replace HO6z := reR HO6z ho2z hb; replace HO15z := reR HO15z ho2z hb; replace HO32z := reR HO32z ho2z hb; replace BK18z := bb BK18z hb; replace HB := bS hb) | ((with_reducible refine gd 3 ?_); refine bx 3 #[.bool false, .slice none 0 0, .int .i64 0] 24 (h := ?_); intro gb39z hg w40z hbox hb; have BK41z := am hbox; have GW42z := gW hg; have GE43z := gW hg; have NB44z := nL hg BK18z; have NB45z := nG hg BK18z; replace HO3z := rbl HO3z hb; replace HO6z := rbl HO6z hb; replace HO15z := rbl HO15z hb; replace HO32z := rbl HO32z hb; replace HO38z := rbl HO38z hb; replace BK18z := bb BK18z hb; replace HB := bS hb; clear hb hbox hg; have hnb46z := NB45z.out; have hnc47z := NB44z.out; obtain ⟨hcz48z, hcz49z, hcz50z, hfz51z, hfz52z, hfz53z⟩ := cEc BK41z.out; obtain ⟨Ao54z, co55z, eo56z⟩ := Kd.R_slice HO38z.out; subst eo56z) | (refine gL (some 17) Tryz.func20 #[.int .i64 t628] (h := ?_); (with_reducible refine (bolterlaw03_num.calls t628 t642 _ A6.out).mono ?_); rintro e w' ⟨rfl, ⟨nd, rfl⟩⟩; refine ⟨_, rfl, ?_⟩) | ((have q_ := A9; clear q_); refine gL (some 19) Tryz.func20 #[.int .i64 t640] (h := ?_); (with_reducible refine (bolterlaw03_num.calls t640 t643 _ A7.out).mono ?_); rintro e w' ⟨rfl, ⟨nd, rfl⟩⟩; refine ⟨_, rfl, ?_⟩; obtain ⟨hcz57z, hcz58z, hcz59z, hfz60z, hfz61z, hfz62z⟩ := cEc BK18z.out) | ((have q_ := A11; clear q_); go_at_call 63; (with_reducible refine (bolterref02_Word.calls k t623 _ _ t624 t627 t644 _ ?side1 ?side2 A9.out).mono ?_); (case side1 => refine (Kd.R_reads' (e := 85) (base := w.heap.size) (ok := fun k_ => ((((True /\ some k_ ≠ (.slice Ao7z t614.length co8z : Value).ownBlock) /\ some k_ ≠ (.slice Ao10z t619.length co11z : Value).ownBlock) /\ some k_ ≠ (.slice Ao33z t631.length co34z : Value).ownBlock) /\ some k_ ≠ (.slice Ao54z t636.length co55z : Value).ownBlock)) (n := t624.length) (c := co28z) ?_).2.2; exact (Kd.R_below (z3 HO15z.out BK41z.out (by decide) (.bool t635) (.slice Ao54z t636.length co55z) (.int .i64 t639)) pl)); (case side2 => exact (Kd.R_reads' HO15z.out).2.1); rintro e w63z ⟨rfl, hb⟩; replace HO3z := am (Kd.R_below (Kd.R_below (z3 HO3z.out BK41z.out (by decide) (.bool t635) (.slice Ao54z t636.length co55z) (.int .i64 t639)) pl) hb); replace HO6z := am (Kd.R_below (Kd.R_below (z3 HO6z.out BK41z.out (by decide) (.bool t635) (.slice Ao54z t636.length co55z) (.int .i64 t639)) pl) hb); replace HO15z := am (Kd.R_below (Kd.R_below (z3 HO15z.out BK41z.out (by decide) (.bool t635) (.slice Ao54z t636.length co55z) (.int .i64 t639)) pl) hb); replace HO32z := am (Kd.R_below (Kd.R_below (z3 HO32z.out BK41z.out (by decide) (.bool t635) (.slice Ao54z t636.length co55z) (.int .i64 t639)) pl) hb); replace HO38z := am (Kd.R_below (Kd.R_below (z3 HO38z.out BK41z.out (by decide) (.bool t635) (.slice Ao54z t636.length co55z) (.int .i64 t639)) pl) hb); replace BK18z := bfb NB44z BK18z hb; replace BK41z := am (blk_below (g := gb39z) (o := .cells #[.bool t635, .slice Ao54z t636.length co55z, .int .i64 t639] 24 (0, 0)) (by exact p3 BK41z) hb); replace HB := bS hb; obtain ⟨hcz64z, hcz65z, hcz66z, hfz67z, hfz68z, hfz69z⟩ := cEc BK41z.out) | (go_at_call 63; (with_reducible refine (bolterref02_Word.calls k t635 _ _ t636 t639 t645 _ ?side1 ?side2 A11.out).mono ?_); (case side1 => exact Kd.C_below (Kd.R_reads' HO38z.out).2.2 pl); (case side2 => exact (Kd.R_reads' HO38z.out).2.1); rintro e w70z ⟨rfl, hb⟩; replace HO3z := rbl HO3z hb; replace HO6z := rbl HO6z hb; replace HO15z := rbl HO15z hb; replace HO32z := rbl HO32z hb; replace HO38z := rbl HO38z hb; replace BK18z := bb BK18z hb; replace BK41z := bb BK41z hb; replace HB := bS hb) | ((have q_ : (t644.toList != ([48, 46, 51, 51, 51, 51, 51, 51, 51, 51, 51, 51, 51, 51, 51, 51, 51, 51, 51, 51, 51, 51, 51, 51, 51, 51, 51, 51, 51, 51, 51, 51, 51, 51, 51, 51, 51, 51, 51, 51, 51, 51] : List UInt8)) = true := c10b1; clear q_); go_at_call 63; (with_reducible refine (bolterref02_Word.calls k t623 _ _ t624 t627 t644 _ ?side1 ?side2 A9.out).mono ?_); (case side1 => refine (Kd.R_reads' (e := 85) (base := w.heap.size) (ok := fun k_ => ((((True /\ some k_ ≠ (.slice Ao7z t614.length co8z : Value).ownBlock) /\ some k_ ≠ (.slice Ao10z t619.length co11z : Value).ownBlock) /\ some k_ ≠ (.slice Ao33z t631.length co34z : Value).ownBlock) /\ some k_ ≠ (.slice Ao54z t636.length co55z : Value).ownBlock)) (n := t624.length) (c := co28z) ?_).2.2; exact (Kd.R_below (z3 HO15z.out BK41z.out (by decide) (.bool t635) (.slice Ao54z t636.length co55z) (.int .i64 t639)) pl)); (case side2 => exact (Kd.R_reads' HO15z.out).2.1); rintro e w63z ⟨rfl, hb⟩; replace HO3z := am (Kd.R_below (Kd.R_below (z3 HO3z.out BK41z.out (by decide) (.bool t635) (.slice Ao54z t636.length co55z) (.int .i64 t639)) pl) hb); replace HO6z := am (Kd.R_below (Kd.R_below (z3 HO6z.out BK41z.out (by decide) (.bool t635) (.slice Ao54z t636.length co55z) (.int .i64 t639)) pl) hb); replace HO15z := am (Kd.R_below (Kd.R_below (z3 HO15z.out BK41z.out (by decide) (.bool t635) (.slice Ao54z t636.length co55z) (.int .i64 t639)) pl) hb); replace HO32z := am (Kd.R_below (Kd.R_below (z3 HO32z.out BK41z.out (by decide) (.bool t635) (.slice Ao54z t636.length co55z) (.int .i64 t639)) pl) hb); replace HO38z := am (Kd.R_below (Kd.R_below (z3 HO38z.out BK41z.out (by decide) (.bool t635) (.slice Ao54z t636.length co55z) (.int .i64 t639)) pl) hb); replace BK18z := bfb NB44z BK18z hb; replace BK41z := am (blk_below (g := gb39z) (o := .cells #[.bool t635, .slice Ao54z t636.length co55z, .int .i64 t639] 24 (0, 0)) (by exact p3 BK41z) hb); replace HB := bS hb) | ((have q_ : ((wrap64 (t642 + t643)) != 0) = true := c8b1; clear q_); refine gL (some 19) Tryz.func20 #[.int .i64 t640] (h := ?_); (with_reducible refine (bolterlaw03_num.calls t640 t643 _ A7.out).mono ?_); rintro e w' ⟨rfl, ⟨nd, rfl⟩⟩; refine ⟨_, rfl, ?_⟩))
 go_ret
 exact ⟨pE, pB⟩) : P := h
theorem bolterlaw03_alive.calls (k : Nat)  (r : Bool) (w : World) (h : bolterlaw03_alive.f k  = some r) :
  Calls Tryz.prog 16 #[] w fun e w' => e = .returned (.bool r) /\ Below w.heap.size w w' := by
 have hu24 := Tryz.underlying24
 have HB := am (Below.refl w.heap.size w)
 have H : ((bolterlaw02_Of.f k (⟨#[49]⟩ : ByteArray)).bind fun bt613 => ((bolterlaw02_Of.f k (⟨#[51]⟩ : ByteArray)).bind fun bt618 => ((quot_Div.f k bt613.1 bt613.2.1 bt613.2.2 bt618.1 bt618.2.1 bt618.2.2).bind fun bt623 => ((bolterlaw02_Of.f k (⟨#[52]⟩ : ByteArray)).bind fun bt630 => ((quot_Sqrt.f k bt630.1 bt630.2.1 bt630.2.2).bind fun bt635 => ((bolterlaw03_num.f bt623.2.2.2).bind fun t642 => ((bolterlaw03_num.f bt635.2.2.2).bind fun t643 => (if (wrap64 (t642 + t643)) = 0 then ((bolterref02_Word.f k bt623.1 bt623.2.1 bt623.2.2.1).bind fun t644 => (if t644.toList = ([48, 46, 51, 51, 51, 51, 51, 51, 51, 51, 51, 51, 51, 51, 51, 51, 51, 51, 51, 51, 51, 51, 51, 51, 51, 51, 51, 51, 51, 51, 51, 51, 51, 51, 51, 51, 51, 51, 51, 51, 51, 51] : List UInt8) then ((bolterref02_Word.f k bt635.1 bt635.2.1 bt635.2.2.1).bind fun t645 => (some (t645.toList == ([50] : List UInt8)))) else (some false))) else (some false))))))))) = some r := h
 clear h
 obtain ⟨⟨t613, t614, t617⟩, A1, H⟩ := ob H; (try dsimp only at H)
 obtain ⟨⟨t618, t619, t622⟩, A2, H⟩ := ob H; (try dsimp only at H)
 obtain ⟨⟨t623, t624, t627, t628⟩, A3, H⟩ := ob H; (try dsimp only at H)
 obtain ⟨⟨t630, t631, t634⟩, A4, H⟩ := ob H; (try dsimp only at H)
 obtain ⟨⟨t635, t636, t639, t640⟩, A5, H⟩ := ob H; (try dsimp only at H)
 obtain ⟨t642, A6, H⟩ := ob H
 obtain ⟨t643, A7, H⟩ := ob H
 by_cases c8 : (wrap64 (t642 + t643)) = 0
 ·rw [if_pos c8] at H
  have c8b0 : ((wrap64 (t642 + t643)) == 0) = true := beq_iff_eq.mpr c8
  have c8b1 : ((wrap64 (t642 + t643)) != 0) = false := bne_eq_false_iff_eq.mpr c8
  clear c8
  obtain ⟨t644, A9, H⟩ := ob H
  by_cases c10 : t644.toList = ([48, 46, 51, 51, 51, 51, 51, 51, 51, 51, 51, 51, 51, 51, 51, 51, 51, 51, 51, 51, 51, 51, 51, 51, 51, 51, 51, 51, 51, 51, 51, 51, 51, 51, 51, 51, 51, 51, 51, 51, 51, 51] : List UInt8)
  ·rw [if_pos c10] at H
   have c10b0 : (t644.toList == ([48, 46, 51, 51, 51, 51, 51, 51, 51, 51, 51, 51, 51, 51, 51, 51, 51, 51, 51, 51, 51, 51, 51, 51, 51, 51, 51, 51, 51, 51, 51, 51, 51, 51, 51, 51, 51, 51, 51, 51, 51, 51] : List UInt8)) = true := beq_iff_eq.mpr c10
   have c10b1 : (t644.toList != ([48, 46, 51, 51, 51, 51, 51, 51, 51, 51, 51, 51, 51, 51, 51, 51, 51, 51, 51, 51, 51, 51, 51, 51, 51, 51, 51, 51, 51, 51, 51, 51, 51, 51, 51, 51, 51, 51, 51, 51, 51, 51] : List UInt8)) = false := bne_eq_false_iff_eq.mpr c10
   clear c10
   obtain ⟨t645, A11, H⟩ := ob H
   obtain rfl := Option.some.inj H
   exact bolterlaw03_alive.leaf
  ·rw [if_neg c10] at H
   have c10b0 : (t644.toList == ([48, 46, 51, 51, 51, 51, 51, 51, 51, 51, 51, 51, 51, 51, 51, 51, 51, 51, 51, 51, 51, 51, 51, 51, 51, 51, 51, 51, 51, 51, 51, 51, 51, 51, 51, 51, 51, 51, 51, 51, 51, 51] : List UInt8)) = false := beq_eq_false_iff_ne.mpr c10
   have c10b1 : (t644.toList != ([48, 46, 51, 51, 51, 51, 51, 51, 51, 51, 51, 51, 51, 51, 51, 51, 51, 51, 51, 51, 51, 51, 51, 51, 51, 51, 51, 51, 51, 51, 51, 51, 51, 51, 51, 51, 51, 51, 51, 51, 51, 51] : List UInt8)) = true := bne_iff_ne.mpr c10
   obtain rfl := Option.some.inj H
   exact bolterlaw03_alive.leaf
 ·rw [if_neg c8] at H
  have c8b0 : ((wrap64 (t642 + t643)) == 0) = false := beq_eq_false_iff_ne.mpr c8
  have c8b1 : ((wrap64 (t642 + t643)) != 0) = true := bne_iff_ne.mpr c8
  obtain rfl := Option.some.inj H
  exact bolterlaw03_alive.leaf
end YtjbjkmccfocikaaGreatDoor.B
end
section
namespace YtjbjkmccfocikaaGreatDoor.P.Nm
open Go.RowKit YtjbjkmccfocikaaGreatDoorW.PrintWords YtjbjkmccfocikaaGreatDoor.B YtjbjkmccfocikaaGreatDoor.P
theorem alive03 : Tells (fun k => bolterlaw03_alive.f k) true := Tells.at 200 fun k => by kernel_rfl
end YtjbjkmccfocikaaGreatDoor.P.Nm
end
section
namespace YtjbjkmccfocikaaGreatDoor.B
open Go.RowKit YtjbjkmccfocikaaGreatDoorW.PrintWords YtjbjkmccfocikaaGreatDoorW.PrintLast YtjbjkmccfocikaaGreatDoorW.PrintMore
attribute [local go_sem] Instr.field asAgg
attribute [local go_sem] max2_int min2_int max_two min_two max_three min_three max_four min_four
def bolterlaw03_QuotExact.j0 : Nat -> Bool -> Bool -> List Int -> Int -> Bool -> List Int -> Int -> Bool -> List Int -> Int -> Option (Bool)
 | 0, _, _, _, _, _, _, _, _, _, _ => none
 | k + 1, x31, x700000, x700001, x700002, x701000, x701001, x701002, x709000, x709001, x709002 => if x31 = true then (some true) else ((quot_Div.f k x709000 x709001 x709002 x701000 x701001 x701002).bind fun bt714 => ((bolterlaw03_num.f bt714.2.2.2).bind fun t721 => (if t721 = 0 then ((bolterref02_Same.f k bt714.1 bt714.2.1 bt714.2.2.1 x700000 x700001 x700002).bind fun t722 => (some t722)) else (some false))))
def bolterlaw03_QuotExact.f (k : Nat) (a0_0 : Bool) (l0_1 : List Int) (a0_2 : Int) (a1_0 : Bool) (l1_1 : List Int) (a1_2 : Int) : Option (Bool) := (bolterlaw03_alive.f k).bind fun t701 => (if t701 = true then ((bolterref02_Mul.f k a0_0 l0_1 a0_2 a1_0 l1_1 a1_2).bind fun bt702 => (if bt702.2.2.2 = 0 then (if (l1_1.length : Int) = 0 then (bolterlaw03_QuotExact.j0 k true a0_0 l0_1 a0_2 a1_0 l1_1 a1_2 bt702.1 bt702.2.1 bt702.2.2.1) else ((bolterref02_Of.f k a0_0 l0_1 a0_2).bind fun bt709 => (bolterlaw03_QuotExact.j0 k (decide ((bt709.2.1.length : Int) > 40)) a0_0 l0_1 a0_2 a1_0 l1_1 a1_2 bt702.1 bt702.2.1 bt702.2.2.1))) else (bolterlaw03_QuotExact.j0 k true a0_0 l0_1 a0_2 a1_0 l1_1 a1_2 bt702.1 bt702.2.1 bt702.2.2.1))) else (some false))
theorem bolterlaw03_QuotExact.calls (k : Nat) (a0_0 : Bool) (A0_1 : Option Addr) (c0_1 : Nat) (l0_1 : List Int) (a0_2 : Int) (a1_0 : Bool) (A1_1 : Option Addr) (c1_1 : Nat) (l1_1 : List Int) (a1_2 : Int) (r : Bool) (w : World) (hr0_1 : Kd.C (Kd.int .u32) w A0_1 l0_1.length l0_1) (hc0_1 : l0_1.length <= c0_1) (hr1_1 : Kd.C (Kd.int .u32) w A1_1 l1_1.length l1_1) (hc1_1 : l1_1.length <= c1_1) (h : bolterlaw03_QuotExact.f k a0_0 l0_1 a0_2 a1_0 l1_1 a1_2 = some r) (hr : r = true) :
  Calls Tryz.prog 3 #[.agg #[.bool a0_0, .slice A0_1 l0_1.length c0_1, .int .i64 a0_2], .agg #[.bool a1_0, .slice A1_1 l1_1.length c1_1, .int .i64 a1_2]] w fun e w' => e = .returned (.bool r) /\ Below w.heap.size w w' := by
 have hu24 := Tryz.underlying24
 have HR0_1 := am hr0_1
 have HC0_1 := am hc0_1
 clear hr0_1 hc0_1
 have HR1_1 := am hr1_1
 have HC1_1 := am hc1_1
 clear hr1_1 hc1_1
 have HB := am (Below.refl w.heap.size w)
 have H : ((bolterlaw03_alive.f k).bind fun t701 => (if t701 = true then ((bolterref02_Mul.f k a0_0 l0_1 a0_2 a1_0 l1_1 a1_2).bind fun bt702 => (if bt702.2.2.2 = 0 then (if (l1_1.length : Int) = 0 then (bolterlaw03_QuotExact.j0 k true a0_0 l0_1 a0_2 a1_0 l1_1 a1_2 bt702.1 bt702.2.1 bt702.2.2.1) else ((bolterref02_Of.f k a0_0 l0_1 a0_2).bind fun bt709 => (bolterlaw03_QuotExact.j0 k (decide ((bt709.2.1.length : Int) > 40)) a0_0 l0_1 a0_2 a1_0 l1_1 a1_2 bt702.1 bt702.2.1 bt702.2.2.1))) else (bolterlaw03_QuotExact.j0 k true a0_0 l0_1 a0_2 a1_0 l1_1 a1_2 bt702.1 bt702.2.1 bt702.2.2.1))) else (some false))) = some r := h
 clear h
 obtain ⟨t701, A3, H⟩ := ob H
 by_cases c4 : t701 = true
 ·subst c4
  rw [if_pos rfl] at H
  obtain ⟨⟨t702, t703, t706, t707⟩, A5, H⟩ := ob H; (try dsimp only at H)
  have HC6 := am H
  clear H
  go_enter Tryz.func3, Tryz.ntmps3
  go_upto_region 4 with (first | ((with_reducible refine gd 2 ?_); (try (refine gate_guard (by rfl) ?_; dsimp only)); refine bx 2 #[.bool a0_0, .slice A0_1 l0_1.length c0_1, .int .i64 a0_2] 24 (h := ?_); intro gb699 hg w7 hbox hb; have BK699 := am hbox; have GW699 := gW hg; have GE699 := gW hg; replace HB := bS hb; clear hb hbox hg) | ((with_reducible refine gd 3 ?_); (try (refine gate_guard (by rfl) ?_; dsimp only)); refine bx 3 #[.bool a1_0, .slice A1_1 l1_1.length c1_1, .int .i64 a1_2] 24 (h := ?_); intro gb700 hg w8 hbox hb; have BK700 := am hbox; have GW700 := gW hg; have GE700 := gW hg; have NB699_700 := nL hg BK699; have NB700_699 := nG hg BK699; replace BK699 := bb BK699 hb; replace HB := bS hb; clear hb hbox hg) | (refine gL (some 9) Tryz.func16 #[] (h := ?_); (with_reducible refine (bolterlaw03_alive.calls k  true _ A3.out).mono ?_); rintro e w9 ⟨rfl, hb⟩; refine ⟨_, rfl, ?_⟩; replace BK699 := bb BK699 hb; replace BK700 := bb BK700 hb; replace HB := bS hb; have hnb10 := NB699_700.out; have hnc10 := NB700_699.out; obtain ⟨hcz11_0, hcz11_1, hcz11_2, hfz11_0, hfz11_1, hfz11_2⟩ := cEc BK699.out; obtain ⟨hcz12_0, hcz12_1, hcz12_2, hfz12_0, hfz12_1, hfz12_2⟩ := cEc BK700.out) | (refine gL (some 14) Tryz.func17 #[.agg #[.bool a0_0, .slice A0_1 l0_1.length c0_1, .int .i64 a0_2], .agg #[.bool a1_0, .slice A1_1 l1_1.length c1_1, .int .i64 a1_2]] (h := ?_); (with_reducible refine (bolterref02_Mul.calls k a0_0 _ _ l0_1 a0_2 a1_0 _ _ l1_1 a1_2 t702 t703 t706 t707 _ ?side1 ?side2 ?side3 ?side4 A5.out).mono ?_); (case side1 => refine cp ?_; exact (Kd.C_below HR0_1.out HB.out)); (case side2 => exact HC0_1.out); (case side3 => refine cp ?_; exact (Kd.C_below HR1_1.out HB.out)); (case side4 => exact HC1_1.out); rintro e w13 ⟨v704, rfl, ho0, hb⟩; refine ⟨_, rfl, ?_⟩; have HO705 := am (Kd.R_lower ho0 (below_size pB)); replace BK699 := bb BK699 hb; replace BK700 := bb BK700 hb; replace HB := bS hb) | ((with_reducible refine gd 5 ?_); (try (refine gate_guard (by rfl) ?_; dsimp only)); refine bx 5 #[.bool false, .slice none 0 0, .int .i64 0] 24 (h := ?_); intro gb708 hg w14 hbox hb; have BK708 := am hbox; have GW708 := gW hg; have GE708 := gW hg; have NB699_708 := nL hg BK699; have NB708_699 := nG hg BK699; have NB700_708 := nL hg BK700; have NB708_700 := nG hg BK700; replace HO705 := rbl HO705 hb; replace BK699 := bb BK699 hb; replace BK700 := bb BK700 hb; replace HB := bS hb; clear hb hbox hg; have hnb15 := NB708_699.out; have hnc15 := NB699_708.out; have hnb16 := NB708_700.out; have hnc16 := NB700_708.out; obtain ⟨hcz17_0, hcz17_1, hcz17_2, hfz17_0, hfz17_1, hfz17_2⟩ := cEc BK708.out; obtain ⟨Ao18, co18, eo18⟩ := Kd.R_slice HO705.out; subst eo18))
  (try simp only [Act.put, List.setIfInBounds_toArray, List.set_cons_zero, List.set_cons_succ])
  go_cut [31] (fun v31 wc => ∃ (kq : Nat) (x31_5 : Bool), v31 = .bool x31_5 /\ Aside0 (bolterlaw03_QuotExact.j0 kq x31_5 a0_0 l0_1 a0_2 a1_0 l1_1 a1_2 t702 t703 t706 = some r) /\ Aside0 (kq <= k) /\ Aside0 (Kd.R (Kd.int .u32) 85 wc w.heap.size (fun _ => True) (.slice Ao18 t703.length co18) t703) /\ Aside0 (wc.heap[gb699]? = some (.cells #[.bool a0_0, (.slice A0_1 l0_1.length c0_1), .int .i64 a0_2] 24 (0, 0))) /\ Aside0 (wc.heap[gb700]? = some (.cells #[.bool a1_0, (.slice A1_1 l1_1.length c1_1), .int .i64 a1_2] 24 (0, 0))) /\ Aside0 (wc.heap[gb708]? = some (.cells #[.bool t702, (.slice Ao18 t703.length co18), .int .i64 t706] 24 (0, 0))) /\ Aside0 (Below w.heap.size w wc))
  case first =>
   have H := HC6.out
   clear HC6
   by_cases c19 : t707 = 0
   ·rw [if_pos c19] at H
    have c19b0 : (t707 == 0) = true := beq_iff_eq.mpr c19
    have c19b1 : (t707 != 0) = false := bne_eq_false_iff_eq.mpr c19
    clear c19
    (first | rw [c19b0] | (simp only [i64_w, i32_w]; rw [c19b0]) | skip)
    by_cases c20 : (l1_1.length : Int) = 0
    ·rw [if_pos c20] at H
     have c20b0 : ((l1_1.length : Int) == 0) = true := beq_iff_eq.mpr c20
     have c20b1 : ((l1_1.length : Int) != 0) = false := bne_eq_false_iff_eq.mpr c20
     clear c20
     have H' := am H
     clear H
     have hnb21 := NB700_699.out
     have hnc21 := NB699_700.out
     have hnb22 := NB700_708.out
     have hnc22 := NB708_700.out
     obtain ⟨hcz23_0, hcz23_1, hcz23_2, hfz23_0, hfz23_1, hfz23_2⟩ := cEc BK700.out
     go_wp2
     go_meet
     case rel => exact ⟨_, (true), pR, H', ⟨by first | omega | exact Nat.le_refl _⟩, ⟨by refine rp ?_; exact Kd.R_mono (Kd.R_far (p := ⟨gb708, 2, none⟩) (Kd.R_far (p := ⟨gb708, 1, none⟩) (Kd.R_far (p := ⟨gb708, 0, none⟩) (Kd.R_types HO705.out BK708.out (by decide)) (fun _ hk => hk.2) (.bool t702)) (fun _ hk => hk.2) (.slice Ao18 t703.length co18)) (fun _ hk => hk.2) (.int .i64 t706)) (fun _ hk => trivial)⟩, ⟨bf NB699_708.out BK699.out⟩, ⟨bf NB700_708.out BK700.out⟩, ⟨by exact p3 BK708⟩, ⟨pB⟩⟩
    ·rw [if_neg c20] at H
     have c20b0 : ((l1_1.length : Int) == 0) = false := beq_eq_false_iff_ne.mpr c20
     have c20b1 : ((l1_1.length : Int) != 0) = true := bne_iff_ne.mpr c20
     have c20b2 : ¬ (l1_1 = []) := fun h_ => c20 (by rw [h_]; rfl)
     obtain ⟨⟨t709, t710, t713⟩, A24, H⟩ := ob H; (try dsimp only at H)
     have H' := am H
     clear H
     have hnb25 := NB700_699.out
     have hnc25 := NB699_700.out
     have hnb26 := NB700_708.out
     have hnc26 := NB708_700.out
     obtain ⟨hcz27_0, hcz27_1, hcz27_2, hfz27_0, hfz27_1, hfz27_2⟩ := cEc BK700.out
     have hnb28 := NB699_708.out
     have hnc28 := NB708_699.out
     obtain ⟨hcz29_0, hcz29_1, hcz29_2, hfz29_0, hfz29_1, hfz29_2⟩ := cEc BK699.out
     go_wp2_with (first | (go_at_call 18; (with_reducible refine (bolterref02_Of.calls k a0_0 _ _ l0_1 a0_2 t709 t710 t713 _ ?side1 ?side2 A24.out).mono ?_); (case side1 => exact Kd.C_below HR0_1.out pB); (case side2 => exact HC0_1.out); rintro e w30 ⟨v711, rfl, ho0, hb⟩; replace HO705 := am (Kd.R_below (Kd.R_below (z3 HO705.out BK708.out (by decide) (.bool t702) (.slice Ao18 t703.length co18) (.int .i64 t706)) pl) hb); have HO712 := am (Kd.R_lower ho0 (below_size pB)); replace BK699 := bfb NB699_708 BK699 hb; replace BK700 := bfb NB700_708 BK700 hb; replace BK708 := am (blk_below (g := gb708) (o := .cells #[.bool t702, .slice Ao18 t703.length co18, .int .i64 t706] 24 (0, 0)) (by exact p3 BK708) hb); replace HB := bS hb; obtain ⟨Ao31, co31, eo31⟩ := Kd.R_slice HO712.out; subst eo31))
     go_meet
     case rel => exact ⟨_, (decide ((t710.length : Int) > 40)), pR, H', ⟨by first | omega | exact Nat.le_refl _⟩, ⟨by refine rp ?_; exact HO705.out⟩, ⟨blk_below BK699.out pl⟩, ⟨blk_below BK700.out pl⟩, ⟨blk_below BK708.out pl⟩, ⟨pB⟩⟩
   ·rw [if_neg c19] at H
    have c19b0 : (t707 == 0) = false := beq_eq_false_iff_ne.mpr c19
    have c19b1 : (t707 != 0) = true := bne_iff_ne.mpr c19
    (first | rw [c19b0] | (simp only [i64_w, i32_w]; rw [c19b0]) | skip)
    have H' := am H
    clear H
    go_wp2
    go_meet
    case rel => exact ⟨_, (true), pR, H', ⟨by first | omega | exact Nat.le_refl _⟩, ⟨by refine rp ?_; exact Kd.R_mono (Kd.R_far (p := ⟨gb708, 2, none⟩) (Kd.R_far (p := ⟨gb708, 1, none⟩) (Kd.R_far (p := ⟨gb708, 0, none⟩) (Kd.R_types HO705.out BK708.out (by decide)) (fun _ hk => hk.2) (.bool t702)) (fun _ hk => hk.2) (.slice Ao18 t703.length co18)) (fun _ hk => hk.2) (.int .i64 t706)) (fun _ hk => trivial)⟩, ⟨bf NB699_708.out BK699.out⟩, ⟨bf NB700_708.out BK700.out⟩, ⟨by exact p3 BK708⟩, ⟨pB⟩⟩
  case rest =>
   clear HC6
   obtain ⟨kq, x31_5, rfl, HA, HJ5, HO_709001, BK699, BK700, BK708, HB⟩ := hcut
   cases kq with
   | zero => exact absurd HA.out (by simp [bolterlaw03_QuotExact.j0])
   | succ kj5 =>
    have H := HA.out
    clear HA
    simp only [bolterlaw03_QuotExact.j0] at H
    by_cases c32 : x31_5 = true
    ·subst c32
     rw [if_pos rfl] at H
     obtain rfl := Option.some.inj H
     go_wp2
     go_ret
     exact ⟨pE, pB⟩
    ·replace c32 := Bool.eq_false_iff.mpr c32
     subst c32
     rw [if_neg (show ¬ (false = true) by decide)] at H
     obtain ⟨⟨t714, t715, t718, t719⟩, A33, H⟩ := ob H; (try dsimp only at H)
     obtain ⟨t721, A34, H⟩ := ob H
     by_cases c35 : t721 = 0
     ·rw [if_pos c35] at H
      have c35b0 : (t721 == 0) = true := beq_iff_eq.mpr c35
      have c35b1 : (t721 != 0) = false := bne_eq_false_iff_eq.mpr c35
      clear c35
      obtain ⟨t722, A36, H⟩ := ob H
      obtain rfl := Option.some.inj H
      have hnb37 := NB708_699.out
      have hnc37 := NB699_708.out
      have hnb38 := NB708_700.out
      have hnc38 := NB700_708.out
      obtain ⟨hcz39_0, hcz39_1, hcz39_2, hfz39_0, hfz39_1, hfz39_2⟩ := cEc BK708.out
      have hnb40 := NB700_699.out
      have hnc40 := NB699_700.out
      obtain ⟨hcz41_0, hcz41_1, hcz41_2, hfz41_0, hfz41_1, hfz41_2⟩ := cEc BK700.out
      go_wp2_with (first | (refine gL (some 35) Tryz.func19 #[.agg #[.bool t702, .slice Ao18 t703.length co18, .int .i64 t706], .agg #[.bool a1_0, .slice A1_1 l1_1.length c1_1, .int .i64 a1_2]] (h := ?_); (with_reducible refine (quot_Div.calls kj5 t702 (fun k_ => some k_ = (.slice Ao18 t703.length co18 : Value).ownBlock) _ _ t703 t706 a1_0 (fun k_ => k_ < w.heap.size) _ _ l1_1 a1_2 t714 t715 t718 t719 _ ?side1 ?side2 A33.out).mono ?_); (case side1 => exact Kd.R_V (Kd.R_tight rfl (Kd.R_types (Kd.R_types (Kd.R_types (HO_709001.out) BK699.out (by decide)) BK700.out (by decide)) BK708.out (by decide)))); (case side2 => exact Kd.V_mk HC1_1.out (Kd.F_below (Kd.C_F (Kd.heap_int .u32) HR1_1.out) pB)); rintro e w42 ⟨v716, rfl, ho0, hb⟩; refine ⟨_, rfl, ?_⟩; have HO717 := am (Kd.R_lower (Kd.R_new' (Kd.R_mono (ok' := fun k_ => True) ho0 (fun _ hk_ => trivial)) (Kd.R_lt (Kd.R_below HO_709001.out pl))) (below_size pB)); replace HO_709001 := reR HO_709001 ho0 hb; replace BK699 := bb BK699 hb; replace BK700 := bb BK700 hb; replace BK708 := bb BK708 hb; replace HB := bS hb) | ((with_reducible refine gd 7 ?_); (try (refine gate_guard (by rfl) ?_; dsimp only)); refine bx 7 #[.bool false, .slice none 0 0, .int .i64 0] 24 (h := ?_); intro gb720 hg w43 hbox hb; have BK720 := am hbox; have GW720 := gW hg; have GE720 := gW hg; have NB699_720 := nL hg BK699; have NB720_699 := nG hg BK699; have NB700_720 := nL hg BK700; have NB720_700 := nG hg BK700; have NB708_720 := nL hg BK708; have NB720_708 := nG hg BK708; replace HO_709001 := rbl HO_709001 hb; replace HO717 := rbl HO717 hb; replace BK699 := bb BK699 hb; replace BK700 := bb BK700 hb; replace BK708 := bb BK708 hb; replace HB := bS hb; clear hb hbox hg; have hnb44 := NB720_699.out; have hnc44 := NB699_720.out; have hnb45 := NB720_700.out; have hnc45 := NB700_720.out; have hnb46 := NB720_708.out; have hnc46 := NB708_720.out; obtain ⟨hcz47_0, hcz47_1, hcz47_2, hfz47_0, hfz47_1, hfz47_2⟩ := cEc BK720.out; obtain ⟨Ao48, co48, eo48⟩ := Kd.R_slice HO717.out; subst eo48) | (refine gL (some 39) Tryz.func20 #[.int .i64 t719] (h := ?_); (with_reducible refine (bolterlaw03_num.calls t719 t721 _ A34.out).mono ?_); rintro e w' ⟨rfl, ⟨nd, rfl⟩⟩; refine ⟨_, rfl, ?_⟩; obtain ⟨hcz49_0, hcz49_1, hcz49_2, hfz49_0, hfz49_1, hfz49_2⟩ := cEc BK699.out) | (go_at_call 21; (with_reducible refine (bolterref02_Same.calls kj5 t714 _ _ t715 t718 a0_0 _ _ l0_1 a0_2 t722 _ ?side1 ?side2 ?side3 ?side4 A36.out).mono ?_); (case side1 => refine (Kd.R_reads' (e := 85) (base := w.heap.size) (ok := fun k_ => (True /\ some k_ ≠ (.slice Ao18 t703.length co18 : Value).ownBlock)) (n := t715.length) (c := co48) ?_).2.2; exact (Kd.R_below (z3 HO717.out BK720.out (by decide) (.bool t714) (.slice Ao48 t715.length co48) (.int .i64 t718)) pl)); (case side2 => exact (Kd.R_reads' HO717.out).2.1); (case side3 => exact Kd.C_below HR0_1.out pB); (case side4 => exact HC0_1.out); rintro e w50 ⟨rfl, hb⟩; replace HO_709001 := am (Kd.R_below (Kd.R_below (z3 HO_709001.out BK720.out (by decide) (.bool t714) (.slice Ao48 t715.length co48) (.int .i64 t718)) pl) hb); replace HO717 := am (Kd.R_below (Kd.R_below (z3 HO717.out BK720.out (by decide) (.bool t714) (.slice Ao48 t715.length co48) (.int .i64 t718)) pl) hb); replace BK699 := bfb NB699_720 BK699 hb; replace BK700 := bfb NB700_720 BK700 hb; replace BK708 := bfb NB708_720 BK708 hb; replace BK720 := am (blk_below (g := gb720) (o := .cells #[.bool t714, .slice Ao48 t715.length co48, .int .i64 t718] 24 (0, 0)) (by exact p3 BK720) hb); replace HB := bS hb))
      go_ret
      exact ⟨pE, pB⟩
     ·rw [if_neg c35] at H
      have c35b0 : (t721 == 0) = false := beq_eq_false_iff_ne.mpr c35
      have c35b1 : (t721 != 0) = true := bne_iff_ne.mpr c35
      exact absurd ((Option.some.inj H).trans hr) Bool.false_ne_true
 ·replace c4 := Bool.eq_false_iff.mpr c4
  subst c4
  rw [if_neg (show ¬ (false = true) by decide)] at H
  exact absurd ((Option.some.inj H).trans hr) Bool.false_ne_true
end YtjbjkmccfocikaaGreatDoor.B
end
section
namespace YtjbjkmccfocikaaGreatDoor.P.Nm
open Go.RowKit YtjbjkmccfocikaaGreatDoorW.PrintWords YtjbjkmccfocikaaGreatDoor.B YtjbjkmccfocikaaGreatDoor.P
theorem RMul_bad {a b : Bool} {l m : List Int} {e g : Int} (hl : RawD l) (hm : RawD m) (h : ¬ (chk a l e = 0 /\ chk b m g = 0)) : Tells (fun k => bolterref02_Mul.f k a l e b m g) (false, [], 0, 9) := by
 unfold bolterref02_Mul.f
 have := Rchecks_tells a l e b m g hl.dg hl.len hm.dg hm.len
 rw [if_neg h] at this
 exact this.bind (Tells.ifn (by decide) (Tells.pure _))
theorem QuotExact_plain {a b : Bool} {l m : List Int} {e f : Int} (hl : RawD l) (hm : RawD m) : Tells (fun k => bolterlaw03_QuotExact.f k a l e b m f) true := by
 unfold bolterlaw03_QuotExact.f
 refine alive03.bind (Tells.ifp rfl ?_)
 have done : ∀ {x1 x2 : Bool} {y1 y2 : List Int} {z1 z2 : Int} {p1 : Bool} {p2 : List Int} {p3 : Int}, Tells (fun k => bolterlaw03_QuotExact.j0 k true x1 y1 z1 x2 y2 z2 p1 p2 p3) true := by
  intros
  refine Tells.succ ?_
  simp only [bolterlaw03_QuotExact.j0]
  exact Tells.ifp trivial (Tells.pure _)
 by_cases h : chk a l e = 0 /\ chk b m f = 0
 ·obtain ⟨D, hD, rfl, rfl, rfl⟩ := of_chk hl.dg h.1
  obtain ⟨E, hE, rfl, rfl, rfl⟩ := of_chk hm.dg h.2
  refine (RMul D E hD hE).bind ?_
  obtain ⟨P, x, hP⟩ : ∃ P x, timesD D E = (P, x) := ⟨_, _, rfl⟩
  have oP : OkD P := by have := settle_ok (mulD D E); unfold timesD at hP; rw [hP] at this; exact this
  rw [hP]
  by_cases hx : x = 0
  ·subst hx
   refine Tells.ifp rfl ?_
   by_cases h0 : E.n = 0
   ·exact Tells.ifp (by rw [h0]; rfl) done
   ·have hpos : 0 < (limbs E.n).length := List.length_pos_iff.2 (limbs_ne h0)
    refine Tells.ifn (by omega) ((ROf D (by have := hD.len; omega)).bind ?_)
    dsimp only
    by_cases h40 : nd D.n <= 40
    ·rw [decide_eq_false (show ¬ (((digs D.n).length : Int) > 40) by show ¬ ((nd D.n : Int) > 40); omega)]
     refine Tells.succ ?_
     simp only [bolterlaw03_QuotExact.j0]
     have hq := QDiv oP hE h0
     rw [quot_exact hD hE h0 hP h40] at hq
     unfold bolterlaw03_num.f
     exact Tells.ifn (by decide) (hq.bind ((Tells.pure _).bind (Tells.ifp rfl ((Same_self D (by have := hD.len; omega)).bind (Tells.pure _)))))
    ·rw [decide_eq_true (show (((digs D.n).length : Int) > 40) by show ((nd D.n : Int) > 40); omega)]
     exact done
  ·exact Tells.ifn hx done
 ·exact (RMul_bad hl hm h).bind (Tells.ifn (by decide) done)
end YtjbjkmccfocikaaGreatDoor.P.Nm
end
section
namespace YtjbjkmccfocikaaGreatDoor.R
open Go.ChangeShapes Go.WideShapes Go.ChangeAt Go.RowKit Go.Joins YtjbjkmccfocikaaGreatDoorW.PrintWords YtjbjkmccfocikaaGreatDoor.P.Nm
theorem laidOut : laidOutB Tryz.prog = true := by kernel_rfl
theorem cellsD : Tryz.prog.cellsOf 24 = 3 := by kernel_rfl
theorem cellsU : Tryz.prog.cellsOf 85 = 1 := by kernel_rfl
theorem wf32 {n : Int} (h : (Lit.int .u32 n).wf = true) : 0 <= n /\ n < 4294967296 := by
 have e1 : IntKind.u32.min = 0 := by decide
 have e2 : IntKind.u32.max = 4294967295 := by decide
 simp only [Lit.wf, e1, e2, Bool.and_eq_true, decide_eq_true_eq] at h
 omega
theorem open_limbs {H : Type} {enc : TypeId × Value -> H} {W : World} {v : Value} {fuel : Nat} {x : DataW H × List MemPlace}
  (hf : DataW.trod enc Tryz.prog W 0 (fun _ => true) true fuel 22 [v] = some x) :
  ∃ (A : Option Addr) (c : Nat) (l : List Int), v = .slice A l.length c /\ l.length <= c /\ Kd.C (Kd.int .u32) W A l.length l /\ RawD l /\ ((x.1 = .nil /\ l = []) \/ ∃ spare, x.1 = .slice (lits .u32 l) spare) := by
 rcases open_ints Tryz.underlying22 Tryz.underlying85 cellsU hf with ⟨hcs, hx⟩ | ⟨a, len, cap, zs, hcs, _, hl, hm, hz, hx, hcell, hwf⟩
 ·simp at hcs
  subst hcs hx
  exact ⟨none, 0, [], rfl, Nat.le_refl _, Kd.C_of_reads (enc := Value.int .u32) (d := 0) ⟨rfl, by simp, fun h => absurd h (by simp)⟩, RawD.nil, .inl ⟨rfl, rfl⟩⟩
 ·simp at hcs
  subst hcs hx
  simp only [if_true] at hz
  have hlen : (zs.take len).length = len := by simp; omega
  refine ⟨some a, cap, zs.take len, by rw [hlen], by omega, Kd.C_of_reads (enc := Value.int .u32) (d := 0) ⟨rfl, by unfold maxLen at hm; simp; omega, fun _ => ⟨a, rfl, fun j hj => ?_⟩⟩, ⟨fun y hy => wf32 (hwf y (List.mem_of_mem_take hy)), by unfold maxLen at hm; omega⟩, .inr ⟨_, rfl⟩⟩
  have hj' : j < len := by simp at hj; omega
  rw [hcell j (by omega)]
  simp [List.getD, List.getElem?_take_of_lt hj']
theorem bytesU : Tryz.prog.bytesOf 85 = 4 := by kernel_rfl
theorem limbs_sized {H : Type} {x : DataW H} {l : List Int} (h : (x = .nil /\ l = []) \/ ∃ spare, x = .slice (lits .u32 l) spare) (hw : (x.weights Tryz.prog 22).all (· <= reachBytes) = true) : l.length <= 35184372087808 := by
 rcases h with ⟨rfl, rfl⟩ | ⟨sp, rfl⟩
 ·simp
 ·have := List.all_eq_true.1 hw (((lits .u32 l : List (DataW H)).length + sp.length) * Tryz.prog.bytesOf 85) (by simp [DataW.weights, Tryz.underlying22])
  rw [bytesU] at this
  have hl : (lits .u32 l : List (DataW H)).length = l.length := by simp [lits]
  rw [hl] at this
  have hb : reachBytes = 140737488351232 := by decide
  rw [decide_eq_true_eq, hb] at this
  omega
theorem open_dec {H : Type} {enc : TypeId × Value -> H} {W : World} {base : Nat} {v : Value} {d : DataW H} {p : List MemPlace} (hv : Value.okWide Tryz.prog W .any base 24 v)
  (h : DataW.Trod enc Tryz.prog W 0 (fun _ => true) true 24 v d p) :
  ∃ (n : Bool) (A : Option Addr) (c : Nat) (l : List Int) (e : Int), v = .agg #[.bool n, .slice A l.length c, .int .i64 e] /\ l.length <= c /\ Kd.C (Kd.int .u32) W A l.length l /\ RawD l /\ (Lit.int .i64 e).wf = true /\
   ((d.weights Tryz.prog 24).all (· <= reachBytes) = true -> l.length <= 35184372087808) := by
 obtain ⟨c0, c1, c2, y0, y1, y2, m, rfl, rfl, rfl, hy0, hy1, hy2⟩ := open_agg3 Tryz.underlying24 (by kernel_rfl) cellsD hv h
 obtain ⟨n, e0, _⟩ := DataW.trod_bool Tryz.underlying4 hy0
 obtain ⟨A, c, l, e1, h1, h2, h3, h4⟩ := open_limbs hy1
 obtain ⟨e, e2, _, we⟩ := DataW.trod_int Tryz.underlying3 hy2
 simp at e0 e2
 subst e0 e1 e2
 refine ⟨n, A, c, l, e, rfl, h1, h2, h3, we, fun hw => limbs_sized h4 (List.all_eq_true.2 fun z hz => List.all_eq_true.1 hw z ?_)⟩
 simp only [DataW.weights, Tryz.underlying24, List.map_cons, List.map_nil, DataW.weightsEach, List.mem_append]
 exact .inr (.inl hz)
end YtjbjkmccfocikaaGreatDoor.R
end
section
namespace YtjbjkmccfocikaaGreatDoor.R.quotExact
open Go.ChangeShapes Go.WideShapes Go.ChangeAt Go.RowKit
open Go.ChangeMaps (open_string shut_string)
theorem reads (os : Os) {H : Type} (enc : TypeId × Value -> H) : ∃ places, DataW.whole enc Tryz.prog ((laidWorld os).forCall (fun _ _ => 0) ⟨#[], #[Value.agg #[.bool false, .slice none 0 0, .int .i64 0], Value.agg #[.bool false, .slice none 0 0, .int .i64 0]], []⟩).memory Tryz.f3.params.toList Rows.quotExactSpec.vars false (#[Value.agg #[.bool false, .slice none 0 0, .int .i64 0], Value.agg #[.bool false, .slice none 0 0, .int .i64 0]] : Array Value).toList 8 = some ([.agg [.lit (.bool false), .nil, .lit (.int .i64 0)], .agg [.lit (.bool false), .nil, .lit (.int .i64 0)]], [], places) :=
 ⟨[], by kernel_rfl⟩
theorem contract (H : Type) (enc : TypeId × Value -> H) (W : World) (base : Nat) (args : Array Value) (ds gs : List (DataW H)) (before : List MemPlace)
  (hval : ∀ (j : Nat) t v, Tryz.f3.params[j]? = some t -> args[j]? = some v -> Value.okWide Tryz.prog W .any base t v)
  (hW : DataW.Whole enc Tryz.prog Tryz.f3.params.toList Rows.quotExactSpec.vars false W args.toList ds gs before) (hk : (DataW.weightsEach Tryz.prog (Tryz.f3.params.toList ++ (OpenSpec.ofChange Rows.quotExactSpec).bare.plain.varTypes Tryz.prog) (ds ++ gs)).all (· <= reachBytes) = true) (hL : laidMetH Tryz.prog laidL W) (hsh : W.ShapedOpen Tryz.prog) :
  Calls Tryz.prog 3 args W fun e W' => ∃ v, e = .returned v /\ Rows.quotExactSpec.post enc Tryz.prog Tryz.f3 false true false false W args v W' := by
 have hG := glob hL hsh
 have hW' := hW
 obtain ⟨p, q, hA0, hV, rfl, hfz, hnd⟩ := hW
 have hA : DataW.TrodAll enc Tryz.prog W 0 (fun _ => true) true Tryz.f3.params.toList args.toList ds p := hA0
 rw [Tryz.params3] at hA hval hk
 obtain ⟨v0, vs0, d0, ds0, p0, q0, hargs, rfl, rfl, h0, r0⟩ := trodAll_cons hA
 obtain ⟨v1, vs1, d1, ds1, p1, q1, rfl, rfl, rfl, h1, r1⟩ := trodAll_cons r0
 obtain ⟨rfl, rfl, rfl⟩ := trodAll_nil r1
 obtain rfl : args = #[v0, v1] := by cases args; simp_all
 obtain ⟨rfl, rfl⟩ := trodVars_none hV
 have h0k := h0
 obtain ⟨n0, A0, c0, l0, e0, rfl, hc0, hC0, hR0, we0, hs0⟩ := open_dec (hval 0 24 v0 rfl rfl) h0
 have h1k := h1
 obtain ⟨n1, A1, c1, l1, e1, rfl, hc1, hC1, hR1, we1, hs1⟩ := open_dec (hval 1 24 v1 rfl rfl) h1
 simp only [List.append_nil] at hW'
 have hlt : ∀ x ∈ p0 ++ p1, x.block < W.heap.size := fun x hx => hW'.lt x (by simpa using hx)
 clear hA0 hA hk hL
 obtain ⟨k, hp⟩ := (P.Nm.QuotExact_plain hR0 hR1).ex
 refine (B.bolterlaw03_QuotExact.calls k n0 A0 c0 l0 e0 n1 A1 c1 l1 e1 true W hC0 hc0 hC1 hc1 hp rfl).mono fun e W' ⟨he, bel⟩ => ?_
 subst he
 exact ⟨_, rfl, _, _, _, [], _, [], hW', trodAll_mk1 (shut_bool Tryz.underlying4 _), (trodAll_cons_mk (Below.trod laidOut (by kernel_rfl) (of_decide_eq_true (by kernel_rfl)) h0k bel (fun x hx => hlt x (by simp [hx]))) (trodAll_cons_mk (Below.trod laidOut (by kernel_rfl) (of_decide_eq_true (by kernel_rfl)) h1k bel (fun x hx => hlt x (by simp [hx]))) trodAll_mk0)), rfl, bel.frame _, fun h => by cases h⟩
theorem lifted (os : Os) (started : os.Started) (H : Type) (enc : TypeId × Value -> H) (F : Stop.Interp) :
  ReturnsInHanded {} Tryz.checked os 3 .any ((OpenSpec.ofChange Rows.quotExactSpec).preRow enc Tryz.prog Tryz.f3 Rows.quotExactRow.domain false Rows.quotExactRow.laid) (((OpenSpec.ofChange Rows.quotExactSpec).at F).post enc Tryz.prog Tryz.f3 false true false false) := by
 obtain ⟨places, hx⟩ := reads os enc
 refine returnsInHanded_of_row (C := Tryz.checked) (s := OpenSpec.ofChange Rows.quotExactSpec) own started (by kernel_rfl) Tryz.func3
  (witness_row_at (enc := enc) (C := Tryz.checked) false (laidWorld os) #[Value.agg #[.bool false, .slice none 0 0, .int .i64 0], Value.agg #[.bool false, .slice none 0 0, .int .i64 0]] rfl (by kernel_rfl) (by kernel_rfl) (by kernel_rfl)
   (OpenSpec.preRow_of_cond 8 hx (by kernel_rfl) (fun k hk => by cases hk) (by kernel_rfl) (laid_met os _))) ?_
 intro W base args ds gs before hval hW _ _ hk hL hsh _
 exact contract H enc W base args ds gs before hval hW hk hL hsh
theorem said : Rows.QuotExactSaid :=
 OpenClaim.holds_of_cond 3 Tryz.f3 rfl rfl rfl rfl rfl rfl rfl ⟨rfl, rfl, rfl, rfl, rfl⟩ rfl rfl rfl rfl rfl (by kernel_rfl) Tryz.func3 (by kernel_rfl)
  (of_decide_eq_true (by kernel_rfl)) (by unfold Func.isWrapper; first | (rw [if_pos (by decide +kernel)]; kernel_rfl) | (rw [if_neg (by decide +kernel)]; exact ⟨rfl, rfl⟩))
  (fun os started H enc _ F => by rw [OpenClaim.pre_eq_preRow]; exact lifted os started H enc F)
theorem plain (f : FuncId) (fn : Func) (hf : Tryz.pinned.checked.prog.funcNamed "bolter/bolterlaw03.QuotExact" = some f) (hfn : Tryz.pinned.checked.prog.funcs[f]? = some fn) :
  false = Tryz.pinned.checked.prog.looks [] /\ ∀ (j : Nat) t, fn.params[j]? = some t -> Tryz.pinned.checked.prog.wantsStandIn t = false := by
 obtain rfl : f = 3 := Option.some.inj ((show Tryz.prog.funcNamed "bolter/bolterlaw03.QuotExact" = some 3 by kernel_rfl).symm.trans hf) |>.symm
 obtain rfl : fn = Tryz.f3 := (Option.some.inj (Tryz.func3.symm.trans hfn)).symm
 refine ⟨by kernel_rfl, fun j t ht => ?_⟩
 rw [Tryz.params3] at ht
 have hm : t ∈ (#[24, 24] : Array TypeId) := Array.mem_of_getElem? ht
 have hall : ∀ t ∈ [24, 24], Tryz.prog.wantsStandIn t = false := by
  intro t h
  simp only [List.mem_cons, List.mem_nil_iff, or_false] at h
  rcases h with rfl | rfl <;> kernel_rfl
 exact hall t (by simpa using hm)
theorem card : Rows.QuotExactCardSaid :=
 Claim7.holds_tied_plain_at .later [] _ _ _ _ said (fun _ h => by cases h) (by kernel_rfl) (fun _ h => by cases h) quotExact_row_tie rfl ⟨rfl, rfl⟩ (by kernel_rfl) rfl plain (by kernel_rfl)
#print axioms card
end YtjbjkmccfocikaaGreatDoor.R.quotExact
end
end Go.Proofs
