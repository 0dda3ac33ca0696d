/- QuotRests: part 6 of 6: the texts B70 B71 PAlive3 B98 PLaw3 RQuotRests of this claim, one behind the other. -/
import Derived.Test.YtjbjkmccfocikaaGreatDoorZQuotRests4
import Derived.SizedLaws
set_option linter.unusedVariables false
set_option linter.unusedSimpArgs false
set_option maxRecDepth 100000
set_option maxHeartbeats 8000000
namespace Go.Proofs
section
namespace YtjbjkmccfocikaaGreatDoor.B
open Go.RowKit YtjbjkmccfocikaaGreatDoorW.PrintWords YtjbjkmccfocikaaGreatDoorW.PrintLast YtjbjkmccfocikaaGreatDoorW.PrintMore
attribute [local go_sem] max2_int min2_int max_two min_two max_three min_three max_four min_four
mutual
def bolterref02_Word.j0 : Nat -> ByteArray -> ByteArray -> Bool -> List Int -> Int -> Option (ByteArray)
 | 0, _, _, _, _, _ => none
 | k + 1, x4, x5, x608000, x608001, x608002 => if (x608001.length : Int) = 0 then (some (⟨#[48]⟩ : ByteArray)) else (if (wrap64 ((x4.size : Int) + x608002)) >= (-5) then (bolterref02_Word.j1 k x4 x5 (wrap64 ((x4.size : Int) + x608002)) (decide ((wrap64 ((x4.size : Int) + x608002)) < 1))) else (bolterref02_Word.j1 k x4 x5 (wrap64 ((x4.size : Int) + x608002)) false))
def bolterref02_Word.j3 : Nat -> ByteArray -> ByteArray -> Int -> Option (ByteArray)
 | 0, _, _, _ => none
 | k + 1, x4, x5, x6 => if (wrap64 (x6 - 1)) < 0 then (bolterref02_Word.j4 k x4 x5 (wrap64 (-(wrap64 (x6 - 1)))) (⟨#[101, 45]⟩ : ByteArray)) else (bolterref02_Word.j4 k x4 x5 (wrap64 (x6 - 1)) (⟨#[101, 43]⟩ : ByteArray))
def bolterref02_Word.j4 : Nat -> ByteArray -> ByteArray -> Int -> ByteArray -> Option (ByteArray)
 | 0, _, _, _, _ => none
 | k + 1, x4, x5, x6, x7 => if (x4.size : Int) > 1 then (if 0 <= 1 then (if 1 <= (x4.size : Int) then (if x5.size + (x4.extract 0 1).size <= 9223372036854775807 then (if (x5 ++ (x4.extract 0 1)).size + 1 <= 9223372036854775807 then (if ((x5 ++ (x4.extract 0 1)) ++ (⟨#[46]⟩ : ByteArray)).size + (x4.extract 1 x4.size).size <= 9223372036854775807 then (if (((x5 ++ (x4.extract 0 1)) ++ (⟨#[46]⟩ : ByteArray)) ++ (x4.extract 1 x4.size)).size + x7.size <= 9223372036854775807 then ((bolterref02_plain.f k x6).bind fun t611 => (if ((((x5 ++ (x4.extract 0 1)) ++ (⟨#[46]⟩ : ByteArray)) ++ (x4.extract 1 x4.size)) ++ x7).size + t611.size <= 9223372036854775807 then (some (((((x5 ++ (x4.extract 0 1)) ++ (⟨#[46]⟩ : ByteArray)) ++ (x4.extract 1 x4.size)) ++ x7) ++ t611)) else (none))) else (none)) else (none)) else (none)) else (none)) else (none)) else (none)) else (if x5.size + x4.size <= 9223372036854775807 then (if (x5 ++ x4).size + x7.size <= 9223372036854775807 then ((bolterref02_plain.f k x6).bind fun t612 => (if ((x5 ++ x4) ++ x7).size + t612.size <= 9223372036854775807 then (some (((x5 ++ x4) ++ x7) ++ t612)) else (none))) else (none)) else (none))
def bolterref02_Word.j1 : Nat -> ByteArray -> ByteArray -> Int -> Bool -> Option (ByteArray)
 | 0, _, _, _, _ => none
 | k + 1, x4, x5, x6, x25 => if x25 = true then (if x5.size + 2 <= 9223372036854775807 then ((bolterref02_zeros.f k (wrap64 (-x6))).bind fun t609 => (if (x5 ++ (⟨#[48, 46]⟩ : ByteArray)).size + t609.size <= 9223372036854775807 then (if ((x5 ++ (⟨#[48, 46]⟩ : ByteArray)) ++ t609).size + x4.size <= 9223372036854775807 then (some (((x5 ++ (⟨#[48, 46]⟩ : ByteArray)) ++ t609) ++ x4)) else (none)) else (none))) else (none)) else (if x6 >= 1 then (if x6 <= 21 then (bolterref02_Word.j2 k x4 x5 x6 (decide (x6 < (x4.size : Int)))) else (bolterref02_Word.j2 k x4 x5 x6 false)) else (bolterref02_Word.j2 k x4 x5 x6 false))
def bolterref02_Word.j2 : Nat -> ByteArray -> ByteArray -> Int -> Bool -> Option (ByteArray)
 | 0, _, _, _, _ => none
 | k + 1, x4, x5, x6, x40 => if x40 = true then (if 0 <= x6 then (if x6 <= (x4.size : Int) then (if x5.size + (x4.extract 0 (x6 : Int).toNat).size <= 9223372036854775807 then (if (x5 ++ (x4.extract 0 (x6 : Int).toNat)).size + 1 <= 9223372036854775807 then (if ((x5 ++ (x4.extract 0 (x6 : Int).toNat)) ++ (⟨#[46]⟩ : ByteArray)).size + (x4.extract (x6 : Int).toNat x4.size).size <= 9223372036854775807 then (some (((x5 ++ (x4.extract 0 (x6 : Int).toNat)) ++ (⟨#[46]⟩ : ByteArray)) ++ (x4.extract (x6 : Int).toNat x4.size))) else (none)) else (none)) else (none)) else (none)) else (none)) else (if x6 >= 1 then (if x6 <= 21 then (if x5.size + x4.size <= 9223372036854775807 then ((bolterref02_zeros.f k (wrap64 (x6 - (x4.size : Int)))).bind fun t610 => (if (x5 ++ x4).size + t610.size <= 9223372036854775807 then (some ((x5 ++ x4) ++ t610)) else (none))) else (none)) else (bolterref02_Word.j3 k x4 x5 x6)) else (bolterref02_Word.j3 k x4 x5 x6))
end
def bolterref02_Word.f (k : Nat) (a0_0 : Bool) (l0_1 : List Int) (a0_2 : Int) : Option (ByteArray) := (bolterref02_Of.f k a0_0 l0_1 a0_2).bind fun bt602 => ((bolterref01_Word.f k bt602.2.1).bind fun t608 => (if bt602.1 = true then (bolterref02_Word.j0 k t608 (⟨#[45]⟩ : ByteArray) bt602.1 bt602.2.1 bt602.2.2) else (bolterref02_Word.j0 k t608 (⟨#[]⟩ : ByteArray) bt602.1 bt602.2.1 bt602.2.2)))
def bolterref02_Word.T11 : Bool × List (List Nat × List Nat) := (true, [([], []), ([], []), ([], []), ([1, 2], [1, 2]), ([0, 3], [0, 3]), ([4], [4]), ([], []), ([], []), ([6, 7], [6, 7]), ([5, 8], [5, 8]), ([9, 0, 1, 2, 3, 4, 5, 6, 7, 8, 9], [9])])
def bolterref02_Word.B11 : List Nat := [0, 0, 0, 6, 15, 31, 0, 0, 192, 511, 1023]
theorem bolterref02_Word.tab11 : rtab .any (opsOf Tryz.f63 11) = bolterref02_Word.T11 := by kernel_rfl
theorem bolterref02_Word.bits11 : waitsOk bolterref02_Word.T11.2 bolterref02_Word.B11 = true := by kernel_rfl
def bolterref02_Word.T19 : Bool × List (List Nat × List Nat) := (true, [([], []), ([], []), ([1], [1]), ([0, 2], [0, 2]), ([3], [3]), ([], []), ([5], [5]), ([4, 6], [4, 6]), ([], []), ([7, 8], [7, 8]), ([], []), ([10], [10]), ([9, 11], [9, 11]), ([12, 11, 0, 1, 2, 3, 4, 5, 6, 7, 8, 9, 10, 11, 12], [12])])
def bolterref02_Word.B19 : List Nat := [0, 0, 2, 7, 15, 0, 32, 127, 0, 511, 0, 1024, 4095, 8191]
theorem bolterref02_Word.tab19 : rtab .any (opsOf Tryz.f63 19) = bolterref02_Word.T19 := by kernel_rfl
theorem bolterref02_Word.bits19 : waitsOk bolterref02_Word.T19.2 bolterref02_Word.B19 = true := by kernel_rfl
theorem bolterref02_Word.calls (k : Nat) (a0_0 : Bool) (A0_1 : Option Addr) (c0_1 : Nat) (l0_1 : List Int) (a0_2 : Int) (r : ByteArray) (w : World) (hr0_1 : Kd.C (Kd.int .u32) w A0_1 l0_1.length l0_1) (hc0_1 : l0_1.length <= c0_1) (h : bolterref02_Word.f k a0_0 l0_1 a0_2 = some r) :
  Calls Tryz.prog 63 #[.agg #[.bool a0_0, .slice A0_1 l0_1.length c0_1, .int .i64 a0_2]] w fun e w' => e = .returned (.string r) /\ Below w.heap.size w w' := by
 have hu24 := Tryz.underlying24
 have hu30 := Tryz.underlying30
 have HR0_1 := am hr0_1
 have HC0_1 := am hc0_1
 clear hr0_1 hc0_1
 have HB := am (Below.refl w.heap.size w)
 have H : ((bolterref02_Of.f k a0_0 l0_1 a0_2).bind fun bt602 => ((bolterref01_Word.f k bt602.2.1).bind fun t608 => (if bt602.1 = true then (bolterref02_Word.j0 k t608 (⟨#[45]⟩ : ByteArray) bt602.1 bt602.2.1 bt602.2.2) else (bolterref02_Word.j0 k t608 (⟨#[]⟩ : ByteArray) bt602.1 bt602.2.1 bt602.2.2)))) = some r := h
 clear h
 obtain ⟨⟨t602, t603, t606⟩, A2, H⟩ := ob H; (try dsimp only at H)
 obtain ⟨t608, A3, H⟩ := ob H
 have HC4 := am H
 clear H
 go_enter Tryz.func63, Tryz.ntmps63
 go_upto_if 14 with (first | ((with_reducible refine gd 1 ?_); (try (refine gate_guard (by rfl) ?_; dsimp only)); refine bx 1 #[.bool a0_0, .slice A0_1 l0_1.length c0_1, .int .i64 a0_2] 24 (h := ?_); intro gb601 hg w5 hbox hb; have BK601 := am hbox; have GW601 := gW hg; have GE601 := gW hg; replace HB := bS hb; clear hb hbox hg; obtain ⟨hcz6_0, hcz6_1, hcz6_2, hfz6_0, hfz6_1, hfz6_2⟩ := cEc BK601.out) | (refine gL (some 9) Tryz.func18 #[.agg #[.bool a0_0, .slice A0_1 l0_1.length c0_1, .int .i64 a0_2]] (h := ?_); (with_reducible refine (bolterref02_Of.calls k a0_0 _ _ l0_1 a0_2 t602 t603 t606 _ ?side1 ?side2 A2.out).mono ?_); (case side1 => refine cp ?_; exact (Kd.C_below HR0_1.out HB.out)); (case side2 => exact HC0_1.out); rintro e w7 ⟨v604, rfl, ho0, hb⟩; refine ⟨_, rfl, ?_⟩; have HO605 := am (Kd.R_lower ho0 (below_size pB)); replace BK601 := bb BK601 hb; replace HB := bS hb; (try clear hb); (try clear hb2); (try clear hk); (try clear hi); (try clear ho0)) | ((with_reducible refine gd 3 ?_); (try (refine gate_guard (by rfl) ?_; dsimp only)); refine bx 3 #[.bool false, .slice none 0 0, .int .i64 0] 30 (h := ?_); intro gb607 hg w8 hbox hb; have BK607 := am hbox; have GW607 := gW hg; have GE607 := gW hg; have NB601_607 := nL hg BK601; have NB607_601 := nG hg BK601; replace HO605 := rbl HO605 hb; replace BK601 := bb BK601 hb; replace HB := bS hb; clear hb hbox hg; have hnb9 := NB607_601.out; have hnc9 := NB601_607.out; obtain ⟨hcz10_0, hcz10_1, hcz10_2, hfz10_0, hfz10_1, hfz10_2⟩ := cEc BK607.out; obtain ⟨Ao11, co11, eo11⟩ := Kd.R_slice HO605.out; subst eo11) | (refine gL (some 12) Tryz.func118 #[.slice Ao11 t603.length co11] (h := ?_); (with_reducible refine (bolterref01_Word.calls k _ _ t603 t608 _ ?side1 ?side2 A3.out).mono ?_); (case side1 => refine (Kd.R_reads' (e := 3) (base := w.heap.size) (ok := fun k_ => True) (n := t603.length) (c := co11) ?_).2.2; exact (Kd.R_below (z3 HO605.out BK607.out (by decide) (.bool t602) (.slice Ao11 t603.length co11) (.int .i64 t606)) pl)); (case side2 => exact (Kd.R_reads' HO605.out).2.1); rintro e w12 ⟨rfl, hb⟩; refine ⟨_, rfl, ?_⟩; replace HO605 := am (Kd.R_below (Kd.R_below (z3 HO605.out BK607.out (by decide) (.bool t602) (.slice Ao11 t603.length co11) (.int .i64 t606)) pl) hb); replace BK601 := bfb NB601_607 BK601 hb; replace BK607 := am (blk_below (g := gb607) (o := .cells #[.bool t602, .slice Ao11 t603.length co11, .int .i64 t606] 30 (0, 0)) (by refine bp ?_; refine blk_put (cs := #[.bool t602, .slice Ao11 t603.length co11, .int .i64 0]) ?_ 2 _ rfl; refine bp ?_; refine blk_put (cs := #[.bool t602, .slice none 0 0, .int .i64 0]) ?_ 1 _ rfl; refine bp ?_; refine blk_put (cs := #[.bool false, .slice none 0 0, .int .i64 0]) ?_ 0 _ rfl; exact bp BK607.out) hb); replace HB := bS hb; (try clear hb); (try clear hb2); (try clear hk); (try clear hi); obtain ⟨hcz13_0, hcz13_1, hcz13_2, hfz13_0, hfz13_1, hfz13_2⟩ := cEc BK607.out))
 (try simp only [Act.put, List.setIfInBounds_toArray, List.set_cons_zero, List.set_cons_succ])
 go_cut [5] (fun v5 wc => ∃ (kq : Nat) (x5_3 : ByteArray), v5 = .string x5_3 /\ Aside0 (bolterref02_Word.j0 kq t608 x5_3 t602 t603 t606 = some r) /\ Aside0 (kq <= k) /\ Aside0 (Kd.R (Kd.int .i64) 3 wc w.heap.size (fun _ => True) (.slice Ao11 t603.length co11) t603) /\ Aside0 (wc.heap[gb601]? = some (.cells #[.bool a0_0, (.slice A0_1 l0_1.length c0_1), .int .i64 a0_2] 24 (0, 0))) /\ Aside0 (wc.heap[gb607]? = some (.cells #[.bool t602, (.slice Ao11 t603.length co11), .int .i64 t606] 30 (0, 0))) /\ Aside0 (Below w.heap.size w wc))
 case first =>
  have H := HC4.out
  clear HC4
  by_cases c14 : t602 = true
  ·subst c14
   rw [if_pos rfl] at H
   have H' := am H
   clear H
   go_wp2
   go_meet
   case rel => exact ⟨_, ((⟨#[45]⟩ : ByteArray)), pR, H', ⟨by first | omega | exact Nat.le_refl _⟩, ⟨by refine rp ?_; exact HO605.out⟩, ⟨blk_below BK601.out pl⟩, ⟨blk_below BK607.out pl⟩, ⟨pB⟩⟩
  ·replace c14 := Bool.eq_false_iff.mpr c14
   subst c14
   rw [if_neg (show ¬ (false = true) by decide)] at H
   have H' := am H
   clear H
   go_wp2
   go_meet
   case rel => exact ⟨_, ((⟨#[]⟩ : ByteArray)), pR, H', ⟨by first | omega | exact Nat.le_refl _⟩, ⟨by refine rp ?_; exact HO605.out⟩, ⟨blk_below BK601.out pl⟩, ⟨blk_below BK607.out pl⟩, ⟨pB⟩⟩
 case rest =>
  clear HC4
  (try clear hcz10_0); (try clear hcz10_1); (try clear hcz10_2); (try clear hcz13_0); (try clear hcz13_1); (try clear hcz13_2); (try clear hcz6_0); (try clear hcz6_1); (try clear hcz6_2); (try clear hfz10_0); (try clear hfz10_1); (try clear hfz10_2); (try clear hfz13_0); (try clear hfz13_1); (try clear hfz13_2); (try clear hfz6_0); (try clear hfz6_1); (try clear hfz6_2)
  obtain ⟨kq, x5_3, rfl, HA, HJ3, HO_608001, BK601, BK607, HB⟩ := hcut
  cases kq with
  | zero => exact absurd HA.out (by simp [bolterref02_Word.j0])
  | succ kj3 =>
   have H := HA.out
   clear HA
   simp only [bolterref02_Word.j0] at H
   have HC15 := am H
   clear H
   have hnb16 := NB607_601.out
   have hnc16 := NB601_607.out
   obtain ⟨hcz17_0, hcz17_1, hcz17_2, hfz17_0, hfz17_1, hfz17_2⟩ := cEc BK607.out
   go_upto_block 0 with (fail)
   go_cut [] (fun wc => ∃ (kq : Nat), Aside0 (bolterref02_Word.j3 kq t608 x5_3 (wrap64 ((t608.size : Int) + t606)) = some r) /\ Aside0 (kq <= kj3) /\ Aside0 (Kd.R (Kd.int .i64) 3 wc w.heap.size (fun _ => True) (.slice Ao11 t603.length co11) t603) /\ Aside0 (wc.heap[gb601]? = some (.cells #[.bool a0_0, (.slice A0_1 l0_1.length c0_1), .int .i64 a0_2] 24 (0, 0))) /\ Aside0 (wc.heap[gb607]? = some (.cells #[.bool t602, (.slice Ao11 t603.length co11), .int .i64 t606] 30 (0, 0))) /\ Aside0 (Below w.heap.size w wc))
   case first =>
    have H := HC15.out
    clear HC15
    by_cases c18 : (t603.length : Int) = 0
    ·rw [if_pos c18] at H
     have c18b0 : ((t603.length : Int) == 0) = true := beq_iff_eq.mpr c18
     have c18b1 : ((t603.length : Int) != 0) = false := bne_eq_false_iff_eq.mpr c18
     clear c18
     (first | rw [c18b0] | (simp only [i64_w, i32_w]; rw [c18b0]) | skip)
     obtain rfl := Option.some.inj H
     have hnb19 := NB607_601.out
     have hnc19 := NB601_607.out
     obtain ⟨hcz20_0, hcz20_1, hcz20_2, hfz20_0, hfz20_1, hfz20_2⟩ := cEc BK607.out
     go_wp2
     go_ret
     exact ⟨pE, pB⟩
    ·rw [if_neg c18] at H
     have c18b0 : ((t603.length : Int) == 0) = false := beq_eq_false_iff_ne.mpr c18
     have c18b1 : ((t603.length : Int) != 0) = true := bne_iff_ne.mpr c18
     have c18b2 : ¬ (t603 = []) := fun h_ => c18 (by rw [h_]; rfl)
     (first | rw [c18b0] | (simp only [i64_w, i32_w]; rw [c18b0]) | skip)
     have HC21 := am H
     clear H
     have hnb22 := NB607_601.out
     have hnc22 := NB601_607.out
     obtain ⟨hcz23_0, hcz23_1, hcz23_2, hfz23_0, hfz23_1, hfz23_2⟩ := cEc BK607.out
     go_upto_region 8 with (fail)
     go_cut [25] (fun v25 wc => ∃ (kq : Nat) (x25_20 : Bool), v25 = .bool x25_20 /\ Aside0 (bolterref02_Word.j1 kq t608 x5_3 (wrap64 ((t608.size : Int) + t606)) x25_20 = some r) /\ Aside0 (kq <= kj3) /\ Aside0 (Kd.R (Kd.int .i64) 3 wc w.heap.size (fun _ => True) (.slice Ao11 t603.length co11) t603) /\ Aside0 (wc.heap[gb601]? = some (.cells #[.bool a0_0, (.slice A0_1 l0_1.length c0_1), .int .i64 a0_2] 24 (0, 0))) /\ Aside0 (wc.heap[gb607]? = some (.cells #[.bool t602, (.slice Ao11 t603.length co11), .int .i64 t606] 30 (0, 0))) /\ Aside0 (Below w.heap.size w wc))
     case first =>
      have H := HC21.out
      clear HC21
      by_cases c24 : (wrap64 ((t608.size : Int) + t606)) >= (-5)
      ·rw [if_pos c24] at H
       have c24b0 : decide ((-5) <= (wrap64 ((t608.size : Int) + t606))) = true := decide_eq_true c24
       clear c24
       (first | rw [c24b0] | (simp only [i64_w, i32_w]; rw [c24b0]) | skip)
       have H' := am H
       clear H
       go_wp2
       go_meet
       case rel => exact ⟨_, (decide ((wrap64 ((t608.size : Int) + t606)) < 1)), pR, H', ⟨by have := HJ3.out; first | omega | exact Nat.le_refl _⟩, ⟨by refine rp ?_; exact HO_608001.out⟩, ⟨blk_below BK601.out pl⟩, ⟨blk_below BK607.out pl⟩, ⟨pB⟩⟩
      ·rw [if_neg c24] at H
       have c24b0 : decide ((-5) <= (wrap64 ((t608.size : Int) + t606))) = false := decide_eq_false c24
       clear c24
       (first | rw [c24b0] | (simp only [i64_w, i32_w]; rw [c24b0]) | skip)
       have H' := am H
       clear H
       go_wp2
       go_meet
       case rel => exact ⟨_, (false), pR, H', ⟨by have := HJ3.out; first | omega | exact Nat.le_refl _⟩, ⟨by refine rp ?_; exact HO_608001.out⟩, ⟨blk_below BK601.out pl⟩, ⟨blk_below BK607.out pl⟩, ⟨pB⟩⟩
     case rest =>
      clear HC21
      (try clear c18); (try clear c18b0); (try clear c18b1); (try clear c18b2); (try clear hcz10_0); (try clear hcz10_1); (try clear hcz10_2); (try clear hcz13_0); (try clear hcz13_1); (try clear hcz13_2); (try clear hcz17_0); (try clear hcz17_1); (try clear hcz17_2); (try clear hcz23_0); (try clear hcz23_1); (try clear hcz23_2); (try clear hcz6_0); (try clear hcz6_1); (try clear hcz6_2); (try clear hfz10_0); (try clear hfz10_1); (try clear hfz10_2); (try clear hfz13_0); (try clear hfz13_1); (try clear hfz13_2); (try clear hfz17_0); (try clear hfz17_1); (try clear hfz17_2); (try clear hfz23_0); (try clear hfz23_1); (try clear hfz23_2); (try clear hfz6_0); (try clear hfz6_1); (try clear hfz6_2)
      obtain ⟨kq, x25_20, rfl, HA, HJ20, HO_608001, BK601, BK607, HB⟩ := hcut
      cases kq with
      | zero => exact absurd HA.out (by simp [bolterref02_Word.j1])
      | succ kj20 =>
       have H := HA.out
       clear HA
       simp only [bolterref02_Word.j1] at H
       by_cases c25 : x25_20 = true
       ·subst c25
        rw [if_pos rfl] at H
        by_cases c26 : x5_3.size + 2 <= 9223372036854775807
        ·rw [if_pos c26] at H
         have c26b0 := eq_true c26
         have c26b1 : decide (x5_3.size + 2 <= 9223372036854775807) = true := decide_eq_true c26
         try have c26b2 : (9223372036854775807 < x5_3.size + 2) = False := eq_false (Nat.not_lt.2 c26)
         obtain ⟨t609, A27, H⟩ := ob H
         by_cases c28 : (x5_3 ++ (⟨#[48, 46]⟩ : ByteArray)).size + t609.size <= 9223372036854775807
         ·rw [if_pos c28] at H
          have c28b0 := eq_true c28
          have c28b1 : decide ((x5_3 ++ (⟨#[48, 46]⟩ : ByteArray)).size + t609.size <= 9223372036854775807) = true := decide_eq_true c28
          try have c28b2 : (9223372036854775807 < (x5_3 ++ (⟨#[48, 46]⟩ : ByteArray)).size + t609.size) = False := eq_false (Nat.not_lt.2 c28)
          try have c28b3 : (9223372036854775807 < x5_3.size + 2 + t609.size) = False := eq_false (Nat.not_lt.2 (by have q_ := c28; have l0_ : (⟨#[48, 46]⟩ : ByteArray).size = 2 := rfl; (try have h0_ := of_decide_eq_true c26b1); simp only [ByteArray.size_append, ByteArray.size_extract] at q_; omega))
          by_cases c29 : ((x5_3 ++ (⟨#[48, 46]⟩ : ByteArray)) ++ t609).size + t608.size <= 9223372036854775807
          ·rw [if_pos c29] at H
           have c29b0 := eq_true c29
           have c29b1 : decide (((x5_3 ++ (⟨#[48, 46]⟩ : ByteArray)) ++ t609).size + t608.size <= 9223372036854775807) = true := decide_eq_true c29
           try have c29b2 : (9223372036854775807 < ((x5_3 ++ (⟨#[48, 46]⟩ : ByteArray)) ++ t609).size + t608.size) = False := eq_false (Nat.not_lt.2 c29)
           try have c29b3 : (9223372036854775807 < x5_3.size + 2 + t609.size + t608.size) = False := eq_false (Nat.not_lt.2 (by have q_ := c29; have l0_ : (⟨#[48, 46]⟩ : ByteArray).size = 2 := rfl; (try have h0_ := of_decide_eq_true c26b1); (try have h1_ := of_decide_eq_true c28b1); simp only [ByteArray.size_append, ByteArray.size_extract] at q_; omega))
           obtain rfl := Option.some.inj H
           go_wp2_with (first | (refine gL (some 36) Tryz.func119 #[.int .i64 (wrap64 (-(wrap64 ((t608.size : Int) + t606))))] (h := ?_); (with_reducible refine (bolterref02_zeros.calls kj20 (wrap64 (-(wrap64 ((t608.size : Int) + t606)))) t609 _ A27.out).mono ?_); rintro e w' ⟨rfl, ⟨nd, rfl⟩⟩; refine ⟨_, rfl, ?_⟩))
           go_ret
           exact ⟨pE, pB⟩
          ·rw [if_neg c29] at H
           exact absurd H (by simp)
         ·rw [if_neg c28] at H
          exact absurd H (by simp)
        ·rw [if_neg c26] at H
         exact absurd H (by simp)
       ·replace c25 := Bool.eq_false_iff.mpr c25
        subst c25
        rw [if_neg (show ¬ (false = true) by decide)] at H
        have HC30 := am H
        clear H
        go_upto_region 10 with (fail)
        go_cut [40] (fun v40 wc => ∃ (kq : Nat) (x40_29 : Bool), v40 = .bool x40_29 /\ Aside0 (bolterref02_Word.j2 kq t608 x5_3 (wrap64 ((t608.size : Int) + t606)) x40_29 = some r) /\ Aside0 (kq <= kj20) /\ Aside0 (Kd.R (Kd.int .i64) 3 wc w.heap.size (fun _ => True) (.slice Ao11 t603.length co11) t603) /\ Aside0 (wc.heap[gb601]? = some (.cells #[.bool a0_0, (.slice A0_1 l0_1.length c0_1), .int .i64 a0_2] 24 (0, 0))) /\ Aside0 (wc.heap[gb607]? = some (.cells #[.bool t602, (.slice Ao11 t603.length co11), .int .i64 t606] 30 (0, 0))) /\ Aside0 (Below w.heap.size w wc))
        case first =>
         have H := HC30.out
         clear HC30
         by_cases c31 : (wrap64 ((t608.size : Int) + t606)) >= 1
         ·rw [if_pos c31] at H
          have c31b0 : decide (1 <= (wrap64 ((t608.size : Int) + t606))) = true := decide_eq_true c31
          clear c31
          (first | rw [c31b0] | (simp only [i64_w, i32_w]; rw [c31b0]) | skip)
          by_cases c32 : (wrap64 ((t608.size : Int) + t606)) <= 21
          ·rw [if_pos c32] at H
           have c32b0 : decide ((wrap64 ((t608.size : Int) + t606)) <= 21) = true := decide_eq_true c32
           clear c32
           have H' := am H
           clear H
           go_wp2
           go_meet
           case rel => exact ⟨_, (decide ((wrap64 ((t608.size : Int) + t606)) < (t608.size : Int))), pR, H', ⟨by have := HJ3.out; have := HJ20.out; first | omega | exact Nat.le_refl _⟩, ⟨by refine rp ?_; exact HO_608001.out⟩, ⟨blk_below BK601.out pl⟩, ⟨blk_below BK607.out pl⟩, ⟨pB⟩⟩
          ·rw [if_neg c32] at H
           have c32b0 : decide ((wrap64 ((t608.size : Int) + t606)) <= 21) = false := decide_eq_false c32
           clear c32
           have H' := am H
           clear H
           go_wp2
           go_meet
           case rel => exact ⟨_, (false), pR, H', ⟨by have := HJ3.out; have := HJ20.out; first | omega | exact Nat.le_refl _⟩, ⟨by refine rp ?_; exact HO_608001.out⟩, ⟨blk_below BK601.out pl⟩, ⟨blk_below BK607.out pl⟩, ⟨pB⟩⟩
         ·rw [if_neg c31] at H
          have c31b0 : decide (1 <= (wrap64 ((t608.size : Int) + t606))) = false := decide_eq_false c31
          clear c31
          (first | rw [c31b0] | (simp only [i64_w, i32_w]; rw [c31b0]) | skip)
          have H' := am H
          clear H
          go_wp2
          go_meet
          case rel => exact ⟨_, (false), pR, H', ⟨by have := HJ3.out; have := HJ20.out; first | omega | exact Nat.le_refl _⟩, ⟨by refine rp ?_; exact HO_608001.out⟩, ⟨blk_below BK601.out pl⟩, ⟨blk_below BK607.out pl⟩, ⟨pB⟩⟩
        case rest =>
         clear HC30
         (try clear c18); (try clear c18b0); (try clear c18b1); (try clear c18b2); (try clear c25); (try clear hcz10_0); (try clear hcz10_1); (try clear hcz10_2); (try clear hcz13_0); (try clear hcz13_1); (try clear hcz13_2); (try clear hcz17_0); (try clear hcz17_1); (try clear hcz17_2); (try clear hcz23_0); (try clear hcz23_1); (try clear hcz23_2); (try clear hcz6_0); (try clear hcz6_1); (try clear hcz6_2); (try clear hfz10_0); (try clear hfz10_1); (try clear hfz10_2); (try clear hfz13_0); (try clear hfz13_1); (try clear hfz13_2); (try clear hfz17_0); (try clear hfz17_1); (try clear hfz17_2); (try clear hfz23_0); (try clear hfz23_1); (try clear hfz23_2); (try clear hfz6_0); (try clear hfz6_1); (try clear hfz6_2)
         obtain ⟨kq, x40_29, rfl, HA, HJ29, HO_608001, BK601, BK607, HB⟩ := hcut
         cases kq with
         | zero => exact absurd HA.out (by simp [bolterref02_Word.j2])
         | succ kj29 =>
          have H := HA.out
          clear HA
          simp only [bolterref02_Word.j2] at H
          by_cases c33 : x40_29 = true
          ·subst c33
           rw [if_pos rfl] at H
           obtain ⟨ji34, hji34⟩ : ∃ j_ : Int, (wrap64 ((t608.size : Int) + t606)) = j_ := ⟨_, rfl⟩
           replace H : (if 0 <= (ji34) then (if (ji34) <= (t608.size : Int) then (if x5_3.size + (t608.extract 0 ((ji34) : Int).toNat).size <= 9223372036854775807 then (if (x5_3 ++ (t608.extract 0 ((ji34) : Int).toNat)).size + 1 <= 9223372036854775807 then (if ((x5_3 ++ (t608.extract 0 ((ji34) : Int).toNat)) ++ (⟨#[46]⟩ : ByteArray)).size + (t608.extract ((ji34) : Int).toNat t608.size).size <= 9223372036854775807 then (some (((x5_3 ++ (t608.extract 0 ((ji34) : Int).toNat)) ++ (⟨#[46]⟩ : ByteArray)) ++ (t608.extract ((ji34) : Int).toNat t608.size))) else (none)) else (none)) else (none)) else (none)) else (none)) = some r := by first | (rw [hji34] at H; exact H) | (simp only [hji34] at H ⊢; exact H)
           have hji34w : (IntKind.i64.wrap ((t608.size : Int) + t606)) = ji34 := (i64_w _).trans hji34
           by_cases c35 : 0 <= (ji34)
           ·rw [if_pos c35] at H
            have c35b0 := eq_true c35
            have c35b1 : decide (0 <= (ji34)) = true := decide_eq_true c35
            clear c35
            by_cases c36 : (ji34) <= (t608.size : Int)
            ·rw [if_pos c36] at H
             have c36b0 := eq_true c36
             have c36b1 : decide ((ji34) <= (t608.size : Int)) = true := decide_eq_true c36
             clear c36
             by_cases c37 : x5_3.size + (t608.extract 0 ((ji34) : Int).toNat).size <= 9223372036854775807
             ·rw [if_pos c37] at H
              have c37b0 := eq_true c37
              have c37b1 : decide (x5_3.size + (t608.extract 0 ((ji34) : Int).toNat).size <= 9223372036854775807) = true := decide_eq_true c37
              try have c37b2 : (9223372036854775807 < x5_3.size + (t608.extract 0 ((ji34) : Int).toNat).size) = False := eq_false (Nat.not_lt.2 c37)
              try have c37b3 : (9223372036854775807 < x5_3.size + ((ji34) : Int).toNat) = False := eq_false (Nat.not_lt.2 (by have q_ := c37; (try have h0_ := of_decide_eq_true c35b1); (try have h1_ := of_decide_eq_true c36b1); simp only [ByteArray.size_append, ByteArray.size_extract] at q_; omega))
              by_cases c38 : (x5_3 ++ (t608.extract 0 ((ji34) : Int).toNat)).size + 1 <= 9223372036854775807
              ·rw [if_pos c38] at H
               have c38b0 := eq_true c38
               have c38b1 : decide ((x5_3 ++ (t608.extract 0 ((ji34) : Int).toNat)).size + 1 <= 9223372036854775807) = true := decide_eq_true c38
               try have c38b2 : (9223372036854775807 < (x5_3 ++ (t608.extract 0 ((ji34) : Int).toNat)).size + 1) = False := eq_false (Nat.not_lt.2 c38)
               try have c38b3 : (9223372036854775807 < x5_3.size + ((ji34) : Int).toNat + 1) = False := eq_false (Nat.not_lt.2 (by have q_ := c38; (try have h0_ := of_decide_eq_true c35b1); (try have h1_ := of_decide_eq_true c36b1); (try have h2_ := of_decide_eq_true c37b1); simp only [ByteArray.size_append, ByteArray.size_extract] at q_; omega))
               have c39b0 := eq_true (of_decide_eq_true pQ : 0 <= (ji34))
               have c40b0 := eq_true (of_decide_eq_true pQ : (ji34) <= (t608.size : Int))
               by_cases c41 : ((x5_3 ++ (t608.extract 0 ((ji34) : Int).toNat)) ++ (⟨#[46]⟩ : ByteArray)).size + (t608.extract ((ji34) : Int).toNat t608.size).size <= 9223372036854775807
               ·rw [if_pos c41] at H
                have c41b0 := eq_true c41
                have c41b1 : decide (((x5_3 ++ (t608.extract 0 ((ji34) : Int).toNat)) ++ (⟨#[46]⟩ : ByteArray)).size + (t608.extract ((ji34) : Int).toNat t608.size).size <= 9223372036854775807) = true := decide_eq_true c41
                try have c41b2 : (9223372036854775807 < ((x5_3 ++ (t608.extract 0 ((ji34) : Int).toNat)) ++ (⟨#[46]⟩ : ByteArray)).size + (t608.extract ((ji34) : Int).toNat t608.size).size) = False := eq_false (Nat.not_lt.2 c41)
                try have c41b3 : (9223372036854775807 < x5_3.size + ((ji34) : Int).toNat + 1 + (t608.size - ((ji34) : Int).toNat)) = False := eq_false (Nat.not_lt.2 (by have q_ := c41; have l0_ : (⟨#[46]⟩ : ByteArray).size = 1 := rfl; (try have h0_ := of_decide_eq_true c35b1); (try have h1_ := of_decide_eq_true c36b1); (try have h2_ := of_decide_eq_true c37b1); (try have h3_ := of_decide_eq_true c38b1); simp only [ByteArray.size_append, ByteArray.size_extract] at q_; omega))
                obtain rfl := Option.some.inj H
                try go_wp2
                replace HO_608001 := am (Kd.R_drew HO_608001.out)
                replace BK601 := am (blk_drew BK601.out)
                replace BK607 := am (blk_drew BK607.out)
                replace HB := am (below_drew1 HB.out)
                refine start_ (n := 11) (S := fun w' => True) (ds := []) #[false, false, false, false, false, false, false, false, false, false, false] (by kernel_rfl) rfl rfl trivial (fun hHeld => ?_); refine with_tabW bolterref02_Word.tab11 bolterref02_Word.bits11 (fun HT_ HW_ => ?_)
                generalize wc.drew = w42 at HO_608001 BK601 BK607 HB hHeld ⊢
                refine pu 0 (some 53) #[true, false, false, false, false, false, false, false, false, false, false] (h := ?_)
                refine pu 1 (some 54) #[true, true, false, false, false, false, false, false, false, false, false] (h := ?_)
                refine pu 2 (some 55) #[true, true, true, false, false, false, false, false, false, false, false] (h := ?_)
                refine pu 3 (some 56) #[true, true, true, true, false, false, false, false, false, false, false] (h := ?_)
                refine pu 4 (some 57) #[true, true, true, true, true, false, false, false, false, false, false] (h := ?_)
                refine pu 5 (some 58) #[true, true, true, true, true, true, false, false, false, false, false] (h := ?_)
                refine pu 6 (some 59) #[true, true, true, true, true, true, true, false, false, false, false] (h := ?_)
                refine pu 7 (some 60) #[true, true, true, true, true, true, true, true, false, false, false] (h := ?_)
                refine pu 8 (some 61) #[true, true, true, true, true, true, true, true, true, false, false] (h := ?_)
                refine pu 9 (some 62) #[true, true, true, true, true, true, true, true, true, true, false] (h := ?_)
                refine pu 10 (some 2) #[true, true, true, true, true, true, true, true, true, true, true] (h := ?_)
                refine done_ (done_of HT_.out (by kernel_rfl)) ?_
                try go_wp2
                go_ret
                exact ⟨by first | rfl | (simp [errW_none, errW_some] <;> rfl) | (simp only [<- hji34]; first | rfl | (simp [errW_none, errW_some] <;> rfl)) | (simp [*, errW_none, errW_some] <;> rfl), pB⟩
               ·rw [if_neg c41] at H
                exact absurd H (by simp)
              ·rw [if_neg c38] at H
               exact absurd H (by simp)
             ·rw [if_neg c37] at H
              exact absurd H (by simp)
            ·rw [if_neg c36] at H
             exact absurd H (by simp)
           ·rw [if_neg c35] at H
            exact absurd H (by simp)
          ·replace c33 := Bool.eq_false_iff.mpr c33
           subst c33
           rw [if_neg (show ¬ (false = true) by decide)] at H
           by_cases c43 : (wrap64 ((t608.size : Int) + t606)) >= 1
           ·rw [if_pos c43] at H
            have c43b0 : decide (1 <= (wrap64 ((t608.size : Int) + t606))) = true := decide_eq_true c43
            clear c43
            by_cases c44 : (wrap64 ((t608.size : Int) + t606)) <= 21
            ·rw [if_pos c44] at H
             have c44b0 : decide ((wrap64 ((t608.size : Int) + t606)) <= 21) = true := decide_eq_true c44
             clear c44
             by_cases c45 : x5_3.size + t608.size <= 9223372036854775807
             ·rw [if_pos c45] at H
              have c45b0 := eq_true c45
              have c45b1 : decide (x5_3.size + t608.size <= 9223372036854775807) = true := decide_eq_true c45
              try have c45b2 : (9223372036854775807 < x5_3.size + t608.size) = False := eq_false (Nat.not_lt.2 c45)
              obtain ⟨t610, A46, H⟩ := ob H
              by_cases c47 : (x5_3 ++ t608).size + t610.size <= 9223372036854775807
              ·rw [if_pos c47] at H
               have c47b0 := eq_true c47
               have c47b1 : decide ((x5_3 ++ t608).size + t610.size <= 9223372036854775807) = true := decide_eq_true c47
               try have c47b2 : (9223372036854775807 < (x5_3 ++ t608).size + t610.size) = False := eq_false (Nat.not_lt.2 c47)
               try have c47b3 : (9223372036854775807 < x5_3.size + t608.size + t610.size) = False := eq_false (Nat.not_lt.2 (by have q_ := c47; (try have h0_ := of_decide_eq_true c45b1); simp only [ByteArray.size_append, ByteArray.size_extract] at q_; omega))
               obtain rfl := Option.some.inj H
               go_wp2_with (first | (refine gL (some 77) Tryz.func119 #[.int .i64 (wrap64 ((wrap64 ((t608.size : Int) + t606)) - (t608.size : Int)))] (h := ?_); (with_reducible refine (bolterref02_zeros.calls kj29 (wrap64 ((wrap64 ((t608.size : Int) + t606)) - (t608.size : Int))) t610 _ A46.out).mono ?_); rintro e w' ⟨rfl, ⟨nd, rfl⟩⟩; refine ⟨_, rfl, ?_⟩))
               go_ret
               exact ⟨pE, pB⟩
              ·rw [if_neg c47] at H
               exact absurd H (by simp)
             ·rw [if_neg c45] at H
              exact absurd H (by simp)
            ·rw [if_neg c44] at H
             have c44b0 : decide ((wrap64 ((t608.size : Int) + t606)) <= 21) = false := decide_eq_false c44
             clear c44
             have H' := am H
             clear H
             go_wp2
             go_meet
             case rel => exact ⟨_, H', ⟨by have := HJ3.out; have := HJ20.out; have := HJ29.out; first | omega | exact Nat.le_refl _⟩, ⟨by refine rp ?_; exact HO_608001.out⟩, ⟨blk_below BK601.out pl⟩, ⟨blk_below BK607.out pl⟩, ⟨pB⟩⟩
           ·rw [if_neg c43] at H
            have c43b0 : decide (1 <= (wrap64 ((t608.size : Int) + t606))) = false := decide_eq_false c43
            clear c43
            have H' := am H
            clear H
            go_wp2
            go_meet
            case rel => exact ⟨_, H', ⟨by have := HJ3.out; have := HJ20.out; have := HJ29.out; first | omega | exact Nat.le_refl _⟩, ⟨by refine rp ?_; exact HO_608001.out⟩, ⟨blk_below BK601.out pl⟩, ⟨blk_below BK607.out pl⟩, ⟨pB⟩⟩
   case rest =>
    clear HC15
    (try clear hcz10_0); (try clear hcz10_1); (try clear hcz10_2); (try clear hcz13_0); (try clear hcz13_1); (try clear hcz13_2); (try clear hcz17_0); (try clear hcz17_1); (try clear hcz17_2); (try clear hcz6_0); (try clear hcz6_1); (try clear hcz6_2); (try clear hfz10_0); (try clear hfz10_1); (try clear hfz10_2); (try clear hfz13_0); (try clear hfz13_1); (try clear hfz13_2); (try clear hfz17_0); (try clear hfz17_1); (try clear hfz17_2); (try clear hfz6_0); (try clear hfz6_1); (try clear hfz6_2)
    obtain ⟨kq, HA, HJ14, HO_608001, BK601, BK607, HB⟩ := hcut
    cases kq with
    | zero => exact absurd HA.out (by simp [bolterref02_Word.j3])
    | succ kj14 =>
     have H := HA.out
     clear HA
     simp only [bolterref02_Word.j3] at H
     have HC48 := am H
     clear H
     go_upto_if 82 with (fail)
     go_cut [6, 7] (fun v6 v7 wc => ∃ (kq : Nat) (x6_47 : Int) (x7_47 : ByteArray), v6 = .int .i64 x6_47 /\ v7 = .string x7_47 /\ Aside0 (bolterref02_Word.j4 kq t608 x5_3 x6_47 x7_47 = some r) /\ Aside0 (kq <= kj14) /\ Aside0 (Kd.R (Kd.int .i64) 3 wc w.heap.size (fun _ => True) (.slice Ao11 t603.length co11) t603) /\ Aside0 (wc.heap[gb601]? = some (.cells #[.bool a0_0, (.slice A0_1 l0_1.length c0_1), .int .i64 a0_2] 24 (0, 0))) /\ Aside0 (wc.heap[gb607]? = some (.cells #[.bool t602, (.slice Ao11 t603.length co11), .int .i64 t606] 30 (0, 0))) /\ Aside0 (Below w.heap.size w wc))
     case first =>
      have H := HC48.out
      clear HC48
      by_cases c49 : (wrap64 ((wrap64 ((t608.size : Int) + t606)) - 1)) < 0
      ·rw [if_pos c49] at H
       have c49b0 : decide ((wrap64 ((wrap64 ((t608.size : Int) + t606)) - 1)) < 0) = true := decide_eq_true c49
       clear c49
       (first | rw [c49b0] | (simp only [i64_w, i32_w]; rw [c49b0]) | skip)
       have H' := am H
       clear H
       go_wp2
       go_meet
       case rel => exact ⟨_, (wrap64 (-(wrap64 ((wrap64 ((t608.size : Int) + t606)) - 1)))), ((⟨#[101, 45]⟩ : ByteArray)), pR, pR, H', ⟨by have := HJ3.out; have := HJ14.out; first | omega | exact Nat.le_refl _⟩, ⟨by refine rp ?_; exact HO_608001.out⟩, ⟨blk_below BK601.out pl⟩, ⟨blk_below BK607.out pl⟩, ⟨pB⟩⟩
      ·rw [if_neg c49] at H
       have c49b0 : decide ((wrap64 ((wrap64 ((t608.size : Int) + t606)) - 1)) < 0) = false := decide_eq_false c49
       clear c49
       (first | rw [c49b0] | (simp only [i64_w, i32_w]; rw [c49b0]) | skip)
       have H' := am H
       clear H
       go_wp2
       go_meet
       case rel => exact ⟨_, (wrap64 ((wrap64 ((t608.size : Int) + t606)) - 1)), ((⟨#[101, 43]⟩ : ByteArray)), pR, pR, H', ⟨by have := HJ3.out; have := HJ14.out; first | omega | exact Nat.le_refl _⟩, ⟨by refine rp ?_; exact HO_608001.out⟩, ⟨blk_below BK601.out pl⟩, ⟨blk_below BK607.out pl⟩, ⟨pB⟩⟩
     case rest =>
      clear HC48
      (try clear hcz10_0); (try clear hcz10_1); (try clear hcz10_2); (try clear hcz13_0); (try clear hcz13_1); (try clear hcz13_2); (try clear hcz17_0); (try clear hcz17_1); (try clear hcz17_2); (try clear hcz6_0); (try clear hcz6_1); (try clear hcz6_2); (try clear hfz10_0); (try clear hfz10_1); (try clear hfz10_2); (try clear hfz13_0); (try clear hfz13_1); (try clear hfz13_2); (try clear hfz17_0); (try clear hfz17_1); (try clear hfz17_2); (try clear hfz6_0); (try clear hfz6_1); (try clear hfz6_2)
      obtain ⟨kq, x6_47, x7_47, rfl, rfl, HA, HJ47, HO_608001, BK601, BK607, HB⟩ := hcut
      cases kq with
      | zero => exact absurd HA.out (by simp [bolterref02_Word.j4])
      | succ kj47 =>
       have H := HA.out
       clear HA
       simp only [bolterref02_Word.j4] at H
       by_cases c50 : (t608.size : Int) > 1
       ·rw [if_pos c50] at H
        have c50b0 : decide (1 < (t608.size : Int)) = true := decide_eq_true c50
        have c50b1 : decide (1 < t608.size) = true := decide_eq_true (by omega)
        clear c50
        by_cases c51 : 0 <= 1
        ·rw [if_pos c51] at H
         have c51b0 := eq_true c51
         have c51b1 : decide (0 <= 1) = true := decide_eq_true c51
         clear c51
         by_cases c52 : 1 <= (t608.size : Int)
         ·rw [if_pos c52] at H
          have c52b0 := eq_true c52
          have c52b1 : decide (1 <= (t608.size : Int)) = true := decide_eq_true c52
          clear c52
          by_cases c53 : x5_3.size + (t608.extract 0 1).size <= 9223372036854775807
          ·rw [if_pos c53] at H
           have c53b0 := eq_true c53
           have c53b1 : decide (x5_3.size + (t608.extract 0 1).size <= 9223372036854775807) = true := decide_eq_true c53
           try have c53b2 : (9223372036854775807 < x5_3.size + (t608.extract 0 1).size) = False := eq_false (Nat.not_lt.2 c53)
           try have c53b3 : (9223372036854775807 < x5_3.size + 1) = False := eq_false (Nat.not_lt.2 (by have q_ := c53; (try have h0_ := of_decide_eq_true c51b1); (try have h1_ := of_decide_eq_true c52b1); simp only [ByteArray.size_append, ByteArray.size_extract] at q_; omega))
           try have c53b4 : (9223372036854775807 < x5_3.size + min 1 t608.size) = False := eq_false (Nat.not_lt.2 (by have q_ := c53; (try have h0_ := of_decide_eq_true c51b1); (try have h1_ := of_decide_eq_true c52b1); simp only [ByteArray.size_append, ByteArray.size_extract] at q_; omega))
           by_cases c54 : (x5_3 ++ (t608.extract 0 1)).size + 1 <= 9223372036854775807
           ·rw [if_pos c54] at H
            have c54b0 := eq_true c54
            have c54b1 : decide ((x5_3 ++ (t608.extract 0 1)).size + 1 <= 9223372036854775807) = true := decide_eq_true c54
            try have c54b2 : (9223372036854775807 < (x5_3 ++ (t608.extract 0 1)).size + 1) = False := eq_false (Nat.not_lt.2 c54)
            try have c54b3 : (9223372036854775807 < x5_3.size + 1 + 1) = False := eq_false (Nat.not_lt.2 (by have q_ := c54; (try have h0_ := of_decide_eq_true c51b1); (try have h1_ := of_decide_eq_true c52b1); (try have h2_ := of_decide_eq_true c53b1); simp only [ByteArray.size_append, ByteArray.size_extract] at q_; omega))
            try have c54b4 : (9223372036854775807 < x5_3.size + min 1 t608.size + 1) = False := eq_false (Nat.not_lt.2 (by have q_ := c54; (try have h0_ := of_decide_eq_true c51b1); (try have h1_ := of_decide_eq_true c52b1); (try have h2_ := of_decide_eq_true c53b1); simp only [ByteArray.size_append, ByteArray.size_extract] at q_; omega))
            have c55b0 := eq_true (of_decide_eq_true pQ : 1 <= (t608.size : Int))
            by_cases c56 : ((x5_3 ++ (t608.extract 0 1)) ++ (⟨#[46]⟩ : ByteArray)).size + (t608.extract 1 t608.size).size <= 9223372036854775807
            ·rw [if_pos c56] at H
             have c56b0 := eq_true c56
             have c56b1 : decide (((x5_3 ++ (t608.extract 0 1)) ++ (⟨#[46]⟩ : ByteArray)).size + (t608.extract 1 t608.size).size <= 9223372036854775807) = true := decide_eq_true c56
             try have c56b2 : (9223372036854775807 < ((x5_3 ++ (t608.extract 0 1)) ++ (⟨#[46]⟩ : ByteArray)).size + (t608.extract 1 t608.size).size) = False := eq_false (Nat.not_lt.2 c56)
             try have c56b3 : (9223372036854775807 < x5_3.size + 1 + 1 + (t608.size - 1)) = False := eq_false (Nat.not_lt.2 (by have q_ := c56; have l0_ : (⟨#[46]⟩ : ByteArray).size = 1 := rfl; (try have h0_ := of_decide_eq_true c51b1); (try have h1_ := of_decide_eq_true c52b1); (try have h2_ := of_decide_eq_true c53b1); (try have h3_ := of_decide_eq_true c54b1); simp only [ByteArray.size_append, ByteArray.size_extract] at q_; omega))
             try have c56b4 : (9223372036854775807 < x5_3.size + min 1 t608.size + 1 + (t608.size - 1)) = False := eq_false (Nat.not_lt.2 (by have q_ := c56; have l0_ : (⟨#[46]⟩ : ByteArray).size = 1 := rfl; (try have h0_ := of_decide_eq_true c51b1); (try have h1_ := of_decide_eq_true c52b1); (try have h2_ := of_decide_eq_true c53b1); (try have h3_ := of_decide_eq_true c54b1); simp only [ByteArray.size_append, ByteArray.size_extract] at q_; omega))
             by_cases c57 : (((x5_3 ++ (t608.extract 0 1)) ++ (⟨#[46]⟩ : ByteArray)) ++ (t608.extract 1 t608.size)).size + x7_47.size <= 9223372036854775807
             ·rw [if_pos c57] at H
              have c57b0 := eq_true c57
              have c57b1 : decide ((((x5_3 ++ (t608.extract 0 1)) ++ (⟨#[46]⟩ : ByteArray)) ++ (t608.extract 1 t608.size)).size + x7_47.size <= 9223372036854775807) = true := decide_eq_true c57
              try have c57b2 : (9223372036854775807 < (((x5_3 ++ (t608.extract 0 1)) ++ (⟨#[46]⟩ : ByteArray)) ++ (t608.extract 1 t608.size)).size + x7_47.size) = False := eq_false (Nat.not_lt.2 c57)
              try have c57b3 : (9223372036854775807 < x5_3.size + 1 + 1 + ((t608.size - 1)) + x7_47.size) = False := eq_false (Nat.not_lt.2 (by have q_ := c57; have l0_ : (⟨#[46]⟩ : ByteArray).size = 1 := rfl; (try have h0_ := of_decide_eq_true c51b1); (try have h1_ := of_decide_eq_true c52b1); (try have h2_ := of_decide_eq_true c53b1); (try have h3_ := of_decide_eq_true c54b1); (try have h4_ := of_decide_eq_true c56b1); simp only [ByteArray.size_append, ByteArray.size_extract] at q_; omega))
              try have c57b4 : (9223372036854775807 < x5_3.size + min 1 t608.size + 1 + ((t608.size - 1)) + x7_47.size) = False := eq_false (Nat.not_lt.2 (by have q_ := c57; have l0_ : (⟨#[46]⟩ : ByteArray).size = 1 := rfl; (try have h0_ := of_decide_eq_true c51b1); (try have h1_ := of_decide_eq_true c52b1); (try have h2_ := of_decide_eq_true c53b1); (try have h3_ := of_decide_eq_true c54b1); (try have h4_ := of_decide_eq_true c56b1); simp only [ByteArray.size_append, ByteArray.size_extract] at q_; omega))
              obtain ⟨t611, A58, H⟩ := ob H
              by_cases c59 : ((((x5_3 ++ (t608.extract 0 1)) ++ (⟨#[46]⟩ : ByteArray)) ++ (t608.extract 1 t608.size)) ++ x7_47).size + t611.size <= 9223372036854775807
              ·rw [if_pos c59] at H
               have c59b0 := eq_true c59
               have c59b1 : decide (((((x5_3 ++ (t608.extract 0 1)) ++ (⟨#[46]⟩ : ByteArray)) ++ (t608.extract 1 t608.size)) ++ x7_47).size + t611.size <= 9223372036854775807) = true := decide_eq_true c59
               try have c59b2 : (9223372036854775807 < ((((x5_3 ++ (t608.extract 0 1)) ++ (⟨#[46]⟩ : ByteArray)) ++ (t608.extract 1 t608.size)) ++ x7_47).size + t611.size) = False := eq_false (Nat.not_lt.2 c59)
               try have c59b3 : (9223372036854775807 < x5_3.size + 1 + 1 + ((t608.size - 1)) + x7_47.size + t611.size) = False := eq_false (Nat.not_lt.2 (by have q_ := c59; have l0_ : (⟨#[46]⟩ : ByteArray).size = 1 := rfl; (try have h0_ := of_decide_eq_true c51b1); (try have h1_ := of_decide_eq_true c52b1); (try have h2_ := of_decide_eq_true c53b1); (try have h3_ := of_decide_eq_true c54b1); (try have h4_ := of_decide_eq_true c56b1); (try have h5_ := of_decide_eq_true c57b1); simp only [ByteArray.size_append, ByteArray.size_extract] at q_; omega))
               try have c59b4 : (9223372036854775807 < x5_3.size + min 1 t608.size + 1 + ((t608.size - 1)) + x7_47.size + t611.size) = False := eq_false (Nat.not_lt.2 (by have q_ := c59; have l0_ : (⟨#[46]⟩ : ByteArray).size = 1 := rfl; (try have h0_ := of_decide_eq_true c51b1); (try have h1_ := of_decide_eq_true c52b1); (try have h2_ := of_decide_eq_true c53b1); (try have h3_ := of_decide_eq_true c54b1); (try have h4_ := of_decide_eq_true c56b1); (try have h5_ := of_decide_eq_true c57b1); simp only [ByteArray.size_append, ByteArray.size_extract] at q_; omega))
               obtain rfl := Option.some.inj H
               try go_wp2
               replace HO_608001 := am (Kd.R_drew HO_608001.out)
               replace BK601 := am (blk_drew BK601.out)
               replace BK607 := am (blk_drew BK607.out)
               replace HB := am (below_drew1 HB.out)
               refine start_ (n := 14) (S := fun w' => True) (ds := []) #[false, false, false, false, false, false, false, false, false, false, false, false, false, false] (by kernel_rfl) rfl rfl trivial (fun hHeld => ?_); refine with_tabW bolterref02_Word.tab19 bolterref02_Word.bits19 (fun HT_ HW_ => ?_)
               generalize wc.drew = w60 at HO_608001 BK601 BK607 HB hHeld ⊢
               refine pu 0 (some 88) #[true, false, false, false, false, false, false, false, false, false, false, false, false, false] (h := ?_)
               refine pu 1 (some 89) #[true, true, false, false, false, false, false, false, false, false, false, false, false, false] (h := ?_)
               refine pu 2 (some 90) #[true, true, true, false, false, false, false, false, false, false, false, false, false, false] (h := ?_)
               refine pu 3 (some 91) #[true, true, true, true, false, false, false, false, false, false, false, false, false, false] (h := ?_)
               refine pu 4 (some 92) #[true, true, true, true, true, false, false, false, false, false, false, false, false, false] (h := ?_)
               refine pu 5 (some 93) #[true, true, true, true, true, true, false, false, false, false, false, false, false, false] (h := ?_)
               refine pu 6 (some 94) #[true, true, true, true, true, true, true, false, false, false, false, false, false, false] (h := ?_)
               refine pu 7 (some 95) #[true, true, true, true, true, true, true, true, false, false, false, false, false, false] (h := ?_)
               refine pu 8 (some 96) #[true, true, true, true, true, true, true, true, true, false, false, false, false, false] (h := ?_)
               refine pu 9 (some 97) #[true, true, true, true, true, true, true, true, true, true, false, false, false, false] (h := ?_)
               refine pu 10 (some 98) #[true, true, true, true, true, true, true, true, true, true, true, false, false, false] (h := ?_)
               refine one_ (i := 11) (N := some 99) #[true, true, true, true, true, true, true, true, true, true, true, true, false, false] rfl rfl (one_of HT_.out (by kernel_rfl)) (by decide) (fun K hK => ?_)
               refine goes_ Tryz.func120 (by kernel_rfl) rfl #[.int .i64 x6_47] (by rfl) rfl rfl pA ?_
               with_reducible refine (bolterref02_plain.calls kj47 x6_47 t611 _ A58.out).mono ?_
               rintro e w61 ⟨rfl, hb⟩
               refine ⟨_, rfl, ?_⟩
               replace HO_608001 := rbl HO_608001 hb
               replace BK601 := bb BK601 hb
               replace BK607 := bb BK607 hb
               replace HB := bS hb
               (try clear hb); (try clear hb2); (try clear hk); (try clear hi)
               refine hK.out _ _ trivial (fun hHeld => ?_)
               clear hK K
               refine norm_ (a' := ?_) ?_ ?_
               rotate_left
               ·show Act.put _ (some 99) _ = _
                simp only [Act.put, List.setIfInBounds_toArray, List.set_cons_zero, List.set_cons_succ, i64_w, i32_w]
                rfl
               refine pu 12 (some 100) #[true, true, true, true, true, true, true, true, true, true, true, true, true, false] (h := ?_)
               refine pu 13 (some 2) #[true, true, true, true, true, true, true, true, true, true, true, true, true, true] (h := ?_)
               refine done_ (done_of HT_.out (by kernel_rfl)) ?_
               try go_wp2
               go_ret
               exact ⟨pE, pB⟩
              ·rw [if_neg c59] at H
               exact absurd H (by simp)
             ·rw [if_neg c57] at H
              exact absurd H (by simp)
            ·rw [if_neg c56] at H
             exact absurd H (by simp)
           ·rw [if_neg c54] at H
            exact absurd H (by simp)
          ·rw [if_neg c53] at H
           exact absurd H (by simp)
         ·rw [if_neg c52] at H
          exact absurd H (by simp)
        ·rw [if_neg c51] at H
         exact absurd H (by simp)
       ·rw [if_neg c50] at H
        have c50b0 : decide (1 < (t608.size : Int)) = false := decide_eq_false c50
        have c50b1 : decide (1 < t608.size) = false := decide_eq_false (by omega)
        clear c50
        by_cases c62 : x5_3.size + t608.size <= 9223372036854775807
        ·rw [if_pos c62] at H
         have c62b0 := eq_true c62
         have c62b1 : decide (x5_3.size + t608.size <= 9223372036854775807) = true := decide_eq_true c62
         try have c62b2 : (9223372036854775807 < x5_3.size + t608.size) = False := eq_false (Nat.not_lt.2 c62)
         by_cases c63 : (x5_3 ++ t608).size + x7_47.size <= 9223372036854775807
         ·rw [if_pos c63] at H
          have c63b0 := eq_true c63
          have c63b1 : decide ((x5_3 ++ t608).size + x7_47.size <= 9223372036854775807) = true := decide_eq_true c63
          try have c63b2 : (9223372036854775807 < (x5_3 ++ t608).size + x7_47.size) = False := eq_false (Nat.not_lt.2 c63)
          try have c63b3 : (9223372036854775807 < x5_3.size + t608.size + x7_47.size) = False := eq_false (Nat.not_lt.2 (by have q_ := c63; (try have h0_ := of_decide_eq_true c62b1); simp only [ByteArray.size_append, ByteArray.size_extract] at q_; omega))
          obtain ⟨t612, A64, H⟩ := ob H
          by_cases c65 : ((x5_3 ++ t608) ++ x7_47).size + t612.size <= 9223372036854775807
          ·rw [if_pos c65] at H
           have c65b0 := eq_true c65
           have c65b1 : decide (((x5_3 ++ t608) ++ x7_47).size + t612.size <= 9223372036854775807) = true := decide_eq_true c65
           try have c65b2 : (9223372036854775807 < ((x5_3 ++ t608) ++ x7_47).size + t612.size) = False := eq_false (Nat.not_lt.2 c65)
           try have c65b3 : (9223372036854775807 < x5_3.size + t608.size + x7_47.size + t612.size) = False := eq_false (Nat.not_lt.2 (by have q_ := c65; (try have h0_ := of_decide_eq_true c62b1); (try have h1_ := of_decide_eq_true c63b1); simp only [ByteArray.size_append, ByteArray.size_extract] at q_; omega))
           obtain rfl := Option.some.inj H
           go_wp2_with (first | (refine gL (some 107) Tryz.func120 #[.int .i64 x6_47] (h := ?_); (with_reducible refine (bolterref02_plain.calls kj47 x6_47 t612 _ A64.out).mono ?_); rintro e w66 ⟨rfl, hb⟩; refine ⟨_, rfl, ?_⟩; replace HO_608001 := rbl HO_608001 hb; replace BK601 := bb BK601 hb; replace BK607 := bb BK607 hb; replace HB := bS hb; (try clear hb); (try clear hb2); (try clear hk); (try clear hi)))
           go_ret
           exact ⟨pE, pB⟩
          ·rw [if_neg c65] at H
           exact absurd H (by simp)
         ·rw [if_neg c63] at H
          exact absurd H (by simp)
        ·rw [if_neg c62] at H
         exact absurd H (by simp)
def bolterlaw03_alive.f (k : Nat)  : Option (Bool) := (bolterlaw02_Of.f k (⟨#[49]⟩ : ByteArray)).bind fun bt613 => ((bolterlaw02_Of.f k (⟨#[51]⟩ : ByteArray)).bind fun bt618 => ((quot_Div.f k bt613.1 bt613.2.1 bt613.2.2 bt618.1 bt618.2.1 bt618.2.2).bind fun bt623 => ((bolterlaw02_Of.f k (⟨#[52]⟩ : ByteArray)).bind fun bt630 => ((quot_Sqrt.f k bt630.1 bt630.2.1 bt630.2.2).bind fun bt635 => ((bolterlaw03_num.f bt623.2.2.2).bind fun t642 => ((bolterlaw03_num.f bt635.2.2.2).bind fun t643 => (if (wrap64 (t642 + t643)) = 0 then ((bolterref02_Word.f k bt623.1 bt623.2.1 bt623.2.2.1).bind fun t644 => (if t644.toList = ([48, 46, 51, 51, 51, 51, 51, 51, 51, 51, 51, 51, 51, 51, 51, 51, 51, 51, 51, 51, 51, 51, 51, 51, 51, 51, 51, 51, 51, 51, 51, 51, 51, 51, 51, 51, 51, 51, 51, 51, 51, 51] : List UInt8) then ((bolterref02_Word.f k bt635.1 bt635.2.1 bt635.2.2.1).bind fun t645 => (some (t645.toList == ([50] : List UInt8)))) else (some false))) else (some false))))))))
theorem bolterlaw03_alive.leaf {P : Prop} (h : P := by
 go_enter Tryz.func16, Tryz.ntmps16
 go_wp2_with (first | (refine gL (some 6) Tryz.func62 #[.string (⟨#[49]⟩ : ByteArray)] (h := ?_); (with_reducible refine (bolterlaw02_Of.calls k (⟨#[49]⟩ : ByteArray) t613 t614 t617 _ A1.out).mono ?_); rintro e w0z ⟨v1z, rfl, ho2z, hb⟩; refine ⟨_, rfl, ?_⟩; have HO3z := am (Kd.R_lower ho2z (below_size pB)); replace HB := bS hb; (try clear hb); (try clear hb4z); (try clear hk); (try clear hi); (try clear ho2z)) | (refine gL (some 7) Tryz.func62 #[.string (⟨#[51]⟩ : ByteArray)] (h := ?_); (with_reducible refine (bolterlaw02_Of.calls k (⟨#[51]⟩ : ByteArray) t618 t619 t622 _ A2.out).mono ?_); rintro e w5z ⟨v6z, rfl, ho2z, hb⟩; refine ⟨_, rfl, ?_⟩; have HO7z := am (Kd.R_lower (Kd.R_new' ho2z (Kd.R_lt (Kd.R_below HO3z.out pl))) (below_size pB)); replace HO3z := reR HO3z ho2z hb; replace HB := bS hb; (try clear hb); (try clear hb4z); (try clear hk); (try clear hi); (try clear ho2z); obtain ⟨Ao8z, co9z, eo10z⟩ := Kd.R_slice HO3z.out; subst eo10z; obtain ⟨Ao11z, co12z, eo13z⟩ := Kd.R_slice HO7z.out; subst eo13z) | (refine gL (some 8) Tryz.func19 #[.agg #[.bool t613, .slice Ao8z t614.length co9z, .int .i64 t617], .agg #[.bool t618, .slice Ao11z t619.length co12z, .int .i64 t622]] (h := ?_); (with_reducible refine (quot_Div.calls k t613 (fun k_ => some k_ = (.slice Ao8z t614.length co9z : Value).ownBlock) _ _ t614 t617 t618 (fun k_ => some k_ = (.slice Ao11z t619.length co12z : Value).ownBlock) _ _ t619 t622 t623 t624 t627 t628 _ ?side1 ?side2 A3.out).mono ?_); (case side1 => exact Kd.R_V (Kd.R_tight rfl (HO3z.out))); (case side2 => exact Kd.R_V (Kd.R_tight rfl (HO7z.out))); rintro e w14z ⟨v15z, rfl, ho2z, hb⟩; refine ⟨_, rfl, ?_⟩; have HO16z := am (Kd.R_lower (Kd.R_new' (Kd.R_new' (Kd.R_mono (ok' := fun k_ => True) ho2z (fun _ hk_ => trivial)) (Kd.R_lt (Kd.R_below HO3z.out pl))) (Kd.R_lt (Kd.R_below HO7z.out pl))) (below_size pB)); replace HO3z := reR HO3z ho2z hb; replace HO7z := reR HO7z ho2z hb; replace HB := bS hb; (try clear hb); (try clear hb4z); (try clear hk); (try clear hi); (try clear ho2z)) | ((with_reducible refine gd 1 ?_); refine bx 1 #[.bool false, .slice none 0 0, .int .i64 0] 24 (h := ?_); intro gb17z hg w18z hbox hb; have BK19z := am hbox; have GW20z := gW hg; have GE21z := gW hg; replace HO3z := rbl HO3z hb; replace HO7z := rbl HO7z hb; replace HO16z := rbl HO16z hb; replace HB := bS hb; clear hb hbox hg; obtain ⟨hcz22z, hcz23z, hcz24z, hfz25z, hfz26z, hfz27z⟩ := cEc BK19z.out; obtain ⟨Ao28z, co29z, eo30z⟩ := Kd.R_slice HO16z.out; subst eo30z) | (refine gL (some 12) Tryz.func62 #[.string (⟨#[52]⟩ : ByteArray)] (h := ?_); (with_reducible refine (bolterlaw02_Of.calls k (⟨#[52]⟩ : ByteArray) t630 t631 t634 _ A4.out).mono ?_); rintro e w31z ⟨v32z, rfl, ho2z, hb⟩; refine ⟨_, rfl, ?_⟩; have HO33z := am (Kd.R_lower (Kd.R_new' (Kd.R_new' (Kd.R_new' ho2z (Kd.R_lt (Kd.R_below (z3 HO3z.out BK19z.out (by decide) (.bool t623) (.slice Ao28z t624.length co29z) (.int .i64 t627)) pl))) (Kd.R_lt (Kd.R_below (z3 HO7z.out BK19z.out (by decide) (.bool t623) (.slice Ao28z t624.length co29z) (.int .i64 t627)) pl))) (Kd.R_lt (Kd.R_below (z3 HO16z.out BK19z.out (by decide) (.bool t623) (.slice Ao28z t624.length co29z) (.int .i64 t627)) pl))) (below_size pB)); replace HO3z := am (Kd.R_elder' (Kd.R_below (z3 HO3z.out BK19z.out (by decide) (.bool t623) (.slice Ao28z t624.length co29z) (.int .i64 t627)) pl) (Kd.R_base ho2z) hb); replace HO7z := am (Kd.R_elder' (Kd.R_below (z3 HO7z.out BK19z.out (by decide) (.bool t623) (.slice Ao28z t624.length co29z) (.int .i64 t627)) pl) (Kd.R_base ho2z) hb); replace HO16z := am (Kd.R_elder' (Kd.R_below (z3 HO16z.out BK19z.out (by decide) (.bool t623) (.slice Ao28z t624.length co29z) (.int .i64 t627)) pl) (Kd.R_base ho2z) hb); replace BK19z := am (blk_below (g := gb17z) (o := .cells #[.bool t623, .slice Ao28z t624.length co29z, .int .i64 t627] 24 (0, 0)) (by refine bp ?_; refine blk_put (cs := #[.bool t623, .slice Ao28z t624.length co29z, .int .i64 0]) ?_ 2 _ rfl; refine bp ?_; refine blk_put (cs := #[.bool t623, .slice none 0 0, .int .i64 0]) ?_ 1 _ rfl; refine bp ?_; refine blk_put (cs := #[.bool false, .slice none 0 0, .int .i64 0]) ?_ 0 _ rfl; exact bp BK19z.out) hb); replace HB := bS hb; (try clear hb); (try clear hb4z); (try clear hk); (try clear hi); (try clear ho2z); obtain ⟨Ao34z, co35z, eo36z⟩ := Kd.R_slice HO33z.out; subst eo36z) | (refine gL (some 13) Tryz.func26 #[.agg #[.bool t630, .slice Ao34z t631.length co35z, .int .i64 t634]] (h := ?_); (with_reducible refine (quot_Sqrt.calls k t630 _ _ t631 t634 t635 t636 t639 t640 _ ?side1 ?side2 A5.out).mono ?_); (case side1 => exact Kd.C_below (Kd.R_reads' HO33z.out).2.2 pl); (case side2 => exact (Kd.R_reads' HO33z.out).2.1); rintro e w37z ⟨v38z, rfl, ho2z, hb⟩; refine ⟨_, rfl, ?_⟩; have HO39z := am (Kd.R_lower (Kd.R_new' (Kd.R_new' (Kd.R_new' (Kd.R_new' ho2z (Kd.R_lt (Kd.R_below HO3z.out pl))) (Kd.R_lt (Kd.R_below HO7z.out pl))) (Kd.R_lt (Kd.R_below HO16z.out pl))) (Kd.R_lt (Kd.R_below HO33z.out pl))) (below_size pB)); replace HO3z := reR HO3z ho2z hb; replace HO7z := reR HO7z ho2z hb; replace HO16z := reR HO16z ho2z hb; replace HO33z := reR HO33z ho2z hb; replace BK19z := bb BK19z hb; replace HB := bS hb; (try clear hb); (try clear hb4z); (try clear hk); (try clear hi); (try clear ho2z)) | ((with_reducible refine gd 3 ?_); refine bx 3 #[.bool false, .slice none 0 0, .int .i64 0] 24 (h := ?_); intro gb40z hg w41z hbox hb; have BK42z := am hbox; have GW43z := gW hg; have GE44z := gW hg; have NB45z := nL hg BK19z; have NB46z := nG hg BK19z; replace HO3z := rbl HO3z hb; replace HO7z := rbl HO7z hb; replace HO16z := rbl HO16z hb; replace HO33z := rbl HO33z hb; replace HO39z := rbl HO39z hb; replace BK19z := bb BK19z hb; replace HB := bS hb; clear hb hbox hg; have hnb47z := NB46z.out; have hnc48z := NB45z.out; obtain ⟨hcz49z, hcz50z, hcz51z, hfz52z, hfz53z, hfz54z⟩ := cEc BK42z.out; obtain ⟨Ao55z, co56z, eo57z⟩ := Kd.R_slice HO39z.out; subst eo57z) | (refine gL (some 17) Tryz.func20 #[.int .i64 t628] (h := ?_); (with_reducible refine (bolterlaw03_num.calls t628 t642 _ A6.out).mono ?_); rintro e w' ⟨rfl, ⟨nd, rfl⟩⟩; refine ⟨_, rfl, ?_⟩) | ((have q_ := A9; clear q_); refine gL (some 19) Tryz.func20 #[.int .i64 t640] (h := ?_); (with_reducible refine (bolterlaw03_num.calls t640 t643 _ A7.out).mono ?_); rintro e w' ⟨rfl, ⟨nd, rfl⟩⟩; refine ⟨_, rfl, ?_⟩; obtain ⟨hcz58z, hcz59z, hcz60z, hfz61z, hfz62z, hfz63z⟩ := cEc BK19z.out) | ((have q_ := A11; clear q_); go_at_call 63; (with_reducible refine (bolterref02_Word.calls k t623 _ _ t624 t627 t644 _ ?side1 ?side2 A9.out).mono ?_); (case side1 => refine (Kd.R_reads' (e := 85) (base := w.heap.size) (ok := fun k_ => ((((True /\ some k_ ≠ (.slice Ao8z t614.length co9z : Value).ownBlock) /\ some k_ ≠ (.slice Ao11z t619.length co12z : Value).ownBlock) /\ some k_ ≠ (.slice Ao34z t631.length co35z : Value).ownBlock) /\ some k_ ≠ (.slice Ao55z t636.length co56z : Value).ownBlock)) (n := t624.length) (c := co29z) ?_).2.2; exact (Kd.R_below (z3 HO16z.out BK42z.out (by decide) (.bool t635) (.slice Ao55z t636.length co56z) (.int .i64 t639)) pl)); (case side2 => exact (Kd.R_reads' HO16z.out).2.1); rintro e w64z ⟨rfl, hb⟩; replace HO3z := am (Kd.R_below (Kd.R_below (z3 HO3z.out BK42z.out (by decide) (.bool t635) (.slice Ao55z t636.length co56z) (.int .i64 t639)) pl) hb); replace HO7z := am (Kd.R_below (Kd.R_below (z3 HO7z.out BK42z.out (by decide) (.bool t635) (.slice Ao55z t636.length co56z) (.int .i64 t639)) pl) hb); replace HO16z := am (Kd.R_below (Kd.R_below (z3 HO16z.out BK42z.out (by decide) (.bool t635) (.slice Ao55z t636.length co56z) (.int .i64 t639)) pl) hb); replace HO33z := am (Kd.R_below (Kd.R_below (z3 HO33z.out BK42z.out (by decide) (.bool t635) (.slice Ao55z t636.length co56z) (.int .i64 t639)) pl) hb); replace HO39z := am (Kd.R_below (Kd.R_below (z3 HO39z.out BK42z.out (by decide) (.bool t635) (.slice Ao55z t636.length co56z) (.int .i64 t639)) pl) hb); replace BK19z := bfb NB45z BK19z hb; replace BK42z := am (blk_below (g := gb40z) (o := .cells #[.bool t635, .slice Ao55z t636.length co56z, .int .i64 t639] 24 (0, 0)) (by refine bp ?_; refine blk_put (cs := #[.bool t635, .slice Ao55z t636.length co56z, .int .i64 0]) ?_ 2 _ rfl; refine bp ?_; refine blk_put (cs := #[.bool t635, .slice none 0 0, .int .i64 0]) ?_ 1 _ rfl; refine bp ?_; refine blk_put (cs := #[.bool false, .slice none 0 0, .int .i64 0]) ?_ 0 _ rfl; exact bp BK42z.out) hb); replace HB := bS hb; (try clear hb); (try clear hb4z); (try clear hk); (try clear hi); obtain ⟨hcz65z, hcz66z, hcz67z, hfz68z, hfz69z, hfz70z⟩ := cEc BK42z.out) | (go_at_call 63; (with_reducible refine (bolterref02_Word.calls k t635 _ _ t636 t639 t645 _ ?side1 ?side2 A11.out).mono ?_); (case side1 => exact Kd.C_below (Kd.R_reads' HO39z.out).2.2 pl); (case side2 => exact (Kd.R_reads' HO39z.out).2.1); rintro e w71z ⟨rfl, hb⟩; replace HO3z := rbl HO3z hb; replace HO7z := rbl HO7z hb; replace HO16z := rbl HO16z hb; replace HO33z := rbl HO33z hb; replace HO39z := rbl HO39z hb; replace BK19z := bb BK19z hb; replace BK42z := bb BK42z hb; replace HB := bS hb; (try clear hb); (try clear hb4z); (try clear hk); (try clear hi)) | ((have q_ : (t644.toList != ([48, 46, 51, 51, 51, 51, 51, 51, 51, 51, 51, 51, 51, 51, 51, 51, 51, 51, 51, 51, 51, 51, 51, 51, 51, 51, 51, 51, 51, 51, 51, 51, 51, 51, 51, 51, 51, 51, 51, 51, 51, 51] : List UInt8)) = true := c10b1; clear q_); go_at_call 63; (with_reducible refine (bolterref02_Word.calls k t623 _ _ t624 t627 t644 _ ?side1 ?side2 A9.out).mono ?_); (case side1 => refine (Kd.R_reads' (e := 85) (base := w.heap.size) (ok := fun k_ => ((((True /\ some k_ ≠ (.slice Ao8z t614.length co9z : Value).ownBlock) /\ some k_ ≠ (.slice Ao11z t619.length co12z : Value).ownBlock) /\ some k_ ≠ (.slice Ao34z t631.length co35z : Value).ownBlock) /\ some k_ ≠ (.slice Ao55z t636.length co56z : Value).ownBlock)) (n := t624.length) (c := co29z) ?_).2.2; exact (Kd.R_below (z3 HO16z.out BK42z.out (by decide) (.bool t635) (.slice Ao55z t636.length co56z) (.int .i64 t639)) pl)); (case side2 => exact (Kd.R_reads' HO16z.out).2.1); rintro e w64z ⟨rfl, hb⟩; replace HO3z := am (Kd.R_below (Kd.R_below (z3 HO3z.out BK42z.out (by decide) (.bool t635) (.slice Ao55z t636.length co56z) (.int .i64 t639)) pl) hb); replace HO7z := am (Kd.R_below (Kd.R_below (z3 HO7z.out BK42z.out (by decide) (.bool t635) (.slice Ao55z t636.length co56z) (.int .i64 t639)) pl) hb); replace HO16z := am (Kd.R_below (Kd.R_below (z3 HO16z.out BK42z.out (by decide) (.bool t635) (.slice Ao55z t636.length co56z) (.int .i64 t639)) pl) hb); replace HO33z := am (Kd.R_below (Kd.R_below (z3 HO33z.out BK42z.out (by decide) (.bool t635) (.slice Ao55z t636.length co56z) (.int .i64 t639)) pl) hb); replace HO39z := am (Kd.R_below (Kd.R_below (z3 HO39z.out BK42z.out (by decide) (.bool t635) (.slice Ao55z t636.length co56z) (.int .i64 t639)) pl) hb); replace BK19z := bfb NB45z BK19z hb; replace BK42z := am (blk_below (g := gb40z) (o := .cells #[.bool t635, .slice Ao55z t636.length co56z, .int .i64 t639] 24 (0, 0)) (by refine bp ?_; refine blk_put (cs := #[.bool t635, .slice Ao55z t636.length co56z, .int .i64 0]) ?_ 2 _ rfl; refine bp ?_; refine blk_put (cs := #[.bool t635, .slice none 0 0, .int .i64 0]) ?_ 1 _ rfl; refine bp ?_; refine blk_put (cs := #[.bool false, .slice none 0 0, .int .i64 0]) ?_ 0 _ rfl; exact bp BK42z.out) hb); replace HB := bS hb; (try clear hb); (try clear hb4z); (try clear hk); (try clear hi)) | ((have q_ : ((wrap64 (t642 + t643)) != 0) = true := c8b1; clear q_); refine gL (some 19) Tryz.func20 #[.int .i64 t640] (h := ?_); (with_reducible refine (bolterlaw03_num.calls t640 t643 _ A7.out).mono ?_); rintro e w' ⟨rfl, ⟨nd, rfl⟩⟩; refine ⟨_, rfl, ?_⟩))
 go_ret
 exact ⟨pE, pB⟩) : P := h
theorem bolterlaw03_alive.calls (k : Nat)  (r : Bool) (w : World) (h : bolterlaw03_alive.f k  = some r) :
  Calls Tryz.prog 16 #[] w fun e w' => e = .returned (.bool r) /\ Below w.heap.size w w' := by
 have hu24 := Tryz.underlying24
 have HB := am (Below.refl w.heap.size w)
 have H : ((bolterlaw02_Of.f k (⟨#[49]⟩ : ByteArray)).bind fun bt613 => ((bolterlaw02_Of.f k (⟨#[51]⟩ : ByteArray)).bind fun bt618 => ((quot_Div.f k bt613.1 bt613.2.1 bt613.2.2 bt618.1 bt618.2.1 bt618.2.2).bind fun bt623 => ((bolterlaw02_Of.f k (⟨#[52]⟩ : ByteArray)).bind fun bt630 => ((quot_Sqrt.f k bt630.1 bt630.2.1 bt630.2.2).bind fun bt635 => ((bolterlaw03_num.f bt623.2.2.2).bind fun t642 => ((bolterlaw03_num.f bt635.2.2.2).bind fun t643 => (if (wrap64 (t642 + t643)) = 0 then ((bolterref02_Word.f k bt623.1 bt623.2.1 bt623.2.2.1).bind fun t644 => (if t644.toList = ([48, 46, 51, 51, 51, 51, 51, 51, 51, 51, 51, 51, 51, 51, 51, 51, 51, 51, 51, 51, 51, 51, 51, 51, 51, 51, 51, 51, 51, 51, 51, 51, 51, 51, 51, 51, 51, 51, 51, 51, 51, 51] : List UInt8) then ((bolterref02_Word.f k bt635.1 bt635.2.1 bt635.2.2.1).bind fun t645 => (some (t645.toList == ([50] : List UInt8)))) else (some false))) else (some false))))))))) = some r := h
 clear h
 obtain ⟨⟨t613, t614, t617⟩, A1, H⟩ := ob H; (try dsimp only at H)
 obtain ⟨⟨t618, t619, t622⟩, A2, H⟩ := ob H; (try dsimp only at H)
 obtain ⟨⟨t623, t624, t627, t628⟩, A3, H⟩ := ob H; (try dsimp only at H)
 obtain ⟨⟨t630, t631, t634⟩, A4, H⟩ := ob H; (try dsimp only at H)
 obtain ⟨⟨t635, t636, t639, t640⟩, A5, H⟩ := ob H; (try dsimp only at H)
 obtain ⟨t642, A6, H⟩ := ob H
 obtain ⟨t643, A7, H⟩ := ob H
 by_cases c8 : (wrap64 (t642 + t643)) = 0
 ·rw [if_pos c8] at H
  have c8b0 : ((wrap64 (t642 + t643)) == 0) = true := beq_iff_eq.mpr c8
  have c8b1 : ((wrap64 (t642 + t643)) != 0) = false := bne_eq_false_iff_eq.mpr c8
  clear c8
  obtain ⟨t644, A9, H⟩ := ob H
  by_cases c10 : t644.toList = ([48, 46, 51, 51, 51, 51, 51, 51, 51, 51, 51, 51, 51, 51, 51, 51, 51, 51, 51, 51, 51, 51, 51, 51, 51, 51, 51, 51, 51, 51, 51, 51, 51, 51, 51, 51, 51, 51, 51, 51, 51, 51] : List UInt8)
  ·rw [if_pos c10] at H
   have c10b0 : (t644.toList == ([48, 46, 51, 51, 51, 51, 51, 51, 51, 51, 51, 51, 51, 51, 51, 51, 51, 51, 51, 51, 51, 51, 51, 51, 51, 51, 51, 51, 51, 51, 51, 51, 51, 51, 51, 51, 51, 51, 51, 51, 51, 51] : List UInt8)) = true := beq_iff_eq.mpr c10
   have c10b1 : (t644.toList != ([48, 46, 51, 51, 51, 51, 51, 51, 51, 51, 51, 51, 51, 51, 51, 51, 51, 51, 51, 51, 51, 51, 51, 51, 51, 51, 51, 51, 51, 51, 51, 51, 51, 51, 51, 51, 51, 51, 51, 51, 51, 51] : List UInt8)) = false := bne_eq_false_iff_eq.mpr c10
   clear c10
   obtain ⟨t645, A11, H⟩ := ob H
   obtain rfl := Option.some.inj H
   exact bolterlaw03_alive.leaf
  ·rw [if_neg c10] at H
   have c10b0 : (t644.toList == ([48, 46, 51, 51, 51, 51, 51, 51, 51, 51, 51, 51, 51, 51, 51, 51, 51, 51, 51, 51, 51, 51, 51, 51, 51, 51, 51, 51, 51, 51, 51, 51, 51, 51, 51, 51, 51, 51, 51, 51, 51, 51] : List UInt8)) = false := beq_eq_false_iff_ne.mpr c10
   have c10b1 : (t644.toList != ([48, 46, 51, 51, 51, 51, 51, 51, 51, 51, 51, 51, 51, 51, 51, 51, 51, 51, 51, 51, 51, 51, 51, 51, 51, 51, 51, 51, 51, 51, 51, 51, 51, 51, 51, 51, 51, 51, 51, 51, 51, 51] : List UInt8)) = true := bne_iff_ne.mpr c10
   obtain rfl := Option.some.inj H
   exact bolterlaw03_alive.leaf
 ·rw [if_neg c8] at H
  have c8b0 : ((wrap64 (t642 + t643)) == 0) = false := beq_eq_false_iff_ne.mpr c8
  have c8b1 : ((wrap64 (t642 + t643)) != 0) = true := bne_iff_ne.mpr c8
  obtain rfl := Option.some.inj H
  exact bolterlaw03_alive.leaf
end YtjbjkmccfocikaaGreatDoor.B
end
section
namespace YtjbjkmccfocikaaGreatDoor.P.Nm
open Go.RowKit YtjbjkmccfocikaaGreatDoorW.PrintWords YtjbjkmccfocikaaGreatDoor.B YtjbjkmccfocikaaGreatDoor.P
theorem alive03 : Tells (fun k => bolterlaw03_alive.f k) true := Tells.at 200 fun k => by kernel_rfl
end YtjbjkmccfocikaaGreatDoor.P.Nm
end
section
namespace YtjbjkmccfocikaaGreatDoor.B
open Go.RowKit YtjbjkmccfocikaaGreatDoorW.PrintWords YtjbjkmccfocikaaGreatDoorW.PrintLast YtjbjkmccfocikaaGreatDoorW.PrintMore
attribute [local go_sem] max2_int min2_int max_two min_two max_three min_three max_four min_four
def bolterlaw03_QuotRests.f (k : Nat) (a0 : Int) (a1 : Int) : Option (Bool) := (bolterlaw03_alive.f k).bind fun t1106 => (if t1106 = true then ((bolterref02_Int.f k (Int.tmod a0 1099511627776)).bind fun bt1107 => ((bolterref02_Int.f k (Int.tmod a1 1099511627776)).bind fun bt1112 => ((quot_Mod.f k bt1107.1 bt1107.2.1 bt1107.2.2 bt1112.1 bt1112.2.1 bt1112.2.2).bind fun bt1117 => (if (Int.tmod a1 1099511627776) = 0 then ((bolterlaw03_num.f bt1117.2.2.2).bind fun t1124 => (some (t1124 == 53))) else ((bolterlaw03_num.f bt1117.2.2.2).bind fun t1125 => (if t1125 = 0 then ((bolterref02_Int.f k (Int.tmod (Int.tmod a0 1099511627776) (Int.tmod a1 1099511627776))).bind fun bt1126 => ((bolterref02_Same.f k bt1117.1 bt1117.2.1 bt1117.2.2.1 bt1126.1 bt1126.2.1 bt1126.2.2).bind fun t1131 => (some t1131))) else (some false))))))) else (some false))
def bolterlaw03_QuotRests.T7 : Bool × List (List Nat × List Nat) := (true, [([], []), ([0], [0]), ([1], [1]), ([2, 1], [2]), ([3], [3]), ([3], [3]), ([3], [3]), ([5, 6, 3], [3, 5, 6]), ([7, 3, 3], [3, 7]), ([4, 8, 8, 3], [3, 4, 8]), ([3, 9], [3, 9]), ([10, 9, 0, 1, 2, 3, 4, 5, 6, 7, 8, 9, 10], [10])])
def bolterlaw03_QuotRests.B7 : List Nat := [0, 1, 3, 7, 15, 15, 15, 111, 239, 511, 1023, 2047]
theorem bolterlaw03_QuotRests.tab7 : rtab .any (opsOf Tryz.f6 7) = bolterlaw03_QuotRests.T7 := by kernel_rfl
theorem bolterlaw03_QuotRests.bits7 : waitsOk bolterlaw03_QuotRests.T7.2 bolterlaw03_QuotRests.B7 = true := by kernel_rfl
theorem bolterlaw03_QuotRests.leaf {P : Prop} (h : P := by
 go_enter Tryz.func6, Tryz.ntmps6
 try go_wp2_with (first | (refine gL (some 7) Tryz.func16 #[] (h := ?_); (with_reducible refine (bolterlaw03_alive.calls k  true _ A3.out).mono ?_); rintro e w0z ⟨rfl, hb⟩; refine ⟨_, rfl, ?_⟩; replace HB := bS hb; (try clear hb); (try clear hb1z); (try clear hk); (try clear hi)) | (refine gL (some 15) Tryz.func29 #[.int .i64 (Int.tmod a0 1099511627776)] (h := ?_); (with_reducible refine (bolterref02_Int.calls k (Int.tmod a0 1099511627776) t1107 t1108 t1111 _ A5.out).mono ?_); rintro e w2z ⟨v3z, rfl, ho4z, hb⟩; refine ⟨_, rfl, ?_⟩; have HO5z := am (Kd.R_lower ho4z (below_size pB)); replace HB := bS hb; (try clear hb); (try clear hb1z); (try clear hk); (try clear hi); (try clear ho4z)) | (refine gL (some 17) Tryz.func29 #[.int .i64 (Int.tmod a1 1099511627776)] (h := ?_); (with_reducible refine (bolterref02_Int.calls k (Int.tmod a1 1099511627776) t1112 t1113 t1116 _ A6.out).mono ?_); rintro e w6z ⟨v7z, rfl, ho4z, hb⟩; refine ⟨_, rfl, ?_⟩; have HO8z := am (Kd.R_lower (Kd.R_new' ho4z (Kd.R_lt (Kd.R_below HO5z.out pl))) (below_size pB)); replace HO5z := reR HO5z ho4z hb; replace HB := bS hb; (try clear hb); (try clear hb1z); (try clear hk); (try clear hi); (try clear ho4z); obtain ⟨Ao9z, co10z, eo11z⟩ := Kd.R_slice HO5z.out; subst eo11z; obtain ⟨Ao12z, co13z, eo14z⟩ := Kd.R_slice HO8z.out; subst eo14z) | (refine gL (some 18) Tryz.func28 #[.agg #[.bool t1107, .slice Ao9z t1108.length co10z, .int .i64 t1111], .agg #[.bool t1112, .slice Ao12z t1113.length co13z, .int .i64 t1116]] (h := ?_); (with_reducible refine (quot_Mod.calls k t1107 (fun k_ => some k_ = (.slice Ao9z t1108.length co10z : Value).ownBlock) _ _ t1108 t1111 t1112 (fun k_ => some k_ = (.slice Ao12z t1113.length co13z : Value).ownBlock) _ _ t1113 t1116 t1117 t1118 t1121 t1122 _ ?side1 ?side2 A7.out).mono ?_); (case side1 => exact Kd.R_V (Kd.R_tight rfl (HO5z.out))); (case side2 => exact Kd.R_V (Kd.R_tight rfl (HO8z.out))); rintro e w15z ⟨v16z, rfl, ho4z, hb⟩; refine ⟨_, rfl, ?_⟩; have HO17z := am (Kd.R_lower (Kd.R_new' (Kd.R_new' (Kd.R_mono (ok' := fun k_ => True) ho4z (fun _ hk_ => trivial)) (Kd.R_lt (Kd.R_below HO5z.out pl))) (Kd.R_lt (Kd.R_below HO8z.out pl))) (below_size pB)); replace HO5z := reR HO5z ho4z hb; replace HO8z := reR HO8z ho4z hb; replace HB := bS hb; (try clear hb); (try clear hb1z); (try clear hk); (try clear hi); (try clear ho4z)) | ((with_reducible refine gd 5 ?_); refine bx 5 #[.bool false, .slice none 0 0, .int .i64 0] 24 (h := ?_); intro gb18z hg w19z hbox hb; have BK20z := am hbox; have GW21z := gW hg; have GE22z := gW hg; replace HO5z := rbl HO5z hb; replace HO8z := rbl HO8z hb; replace HO17z := rbl HO17z hb; replace HB := bS hb; clear hb hbox hg; obtain ⟨hcz23z, hcz24z, hcz25z, hfz26z, hfz27z, hfz28z⟩ := cEc BK20z.out; obtain ⟨Ao29z, co30z, eo31z⟩ := Kd.R_slice HO17z.out; subst eo31z) | (refine gL (some 24) Tryz.func20 #[.int .i64 t1122] (h := ?_); (with_reducible refine (bolterlaw03_num.calls t1122 t1124 _ A9.out).mono ?_); rintro e w' ⟨rfl, ⟨nd, rfl⟩⟩; refine ⟨_, rfl, ?_⟩))
 first
  | have q_ := A22
    have n0_ : Aside0 (Kd.R (Kd.int .u32) 85 (((w19z.setCell ⟨gb18z, 0, none⟩ (.bool t1117)).setCell ⟨gb18z, 1, none⟩ (.slice Ao29z t1118.length co30z)).setCell ⟨gb18z, 2, none⟩ (.int .i64 t1121)) w.heap.size (fun k_ => some k_ ≠ (.slice Ao12z t1113.length co13z : Value).ownBlock /\ some k_ ≠ (.slice Ao29z t1118.length co30z : Value).ownBlock) (.slice Ao9z t1108.length co10z) t1108) := ⟨by refine rp ?_; exact Kd.R_mono (Kd.R_far (p := ⟨gb18z, 2, none⟩) (Kd.R_far (p := ⟨gb18z, 1, none⟩) (Kd.R_far (p := ⟨gb18z, 0, none⟩) (Kd.R_types HO5z.out BK20z.out (by decide)) (fun _ hk => hk.2) (.bool t1117)) (fun _ hk => hk.2) (.slice Ao29z t1118.length co30z)) (fun _ hk => hk.2) (.int .i64 t1121)) (fun _ hk => ⟨hk.1.1.2, hk.1.2⟩)⟩
    have n1_ : Aside0 (Kd.R (Kd.int .u32) 85 (((w19z.setCell ⟨gb18z, 0, none⟩ (.bool t1117)).setCell ⟨gb18z, 1, none⟩ (.slice Ao29z t1118.length co30z)).setCell ⟨gb18z, 2, none⟩ (.int .i64 t1121)) w.heap.size (fun k_ => some k_ ≠ (.slice Ao9z t1108.length co10z : Value).ownBlock /\ some k_ ≠ (.slice Ao29z t1118.length co30z : Value).ownBlock) (.slice Ao12z t1113.length co13z) t1113) := ⟨by refine rp ?_; exact Kd.R_mono (Kd.R_far (p := ⟨gb18z, 2, none⟩) (Kd.R_far (p := ⟨gb18z, 1, none⟩) (Kd.R_far (p := ⟨gb18z, 0, none⟩) (Kd.R_types HO8z.out BK20z.out (by decide)) (fun _ hk => hk.2) (.bool t1117)) (fun _ hk => hk.2) (.slice Ao29z t1118.length co30z)) (fun _ hk => hk.2) (.int .i64 t1121)) (fun _ hk => ⟨hk.1.1.2, hk.1.2⟩)⟩
    have n2_ : Aside0 (Kd.R (Kd.int .u32) 85 (((w19z.setCell ⟨gb18z, 0, none⟩ (.bool t1117)).setCell ⟨gb18z, 1, none⟩ (.slice Ao29z t1118.length co30z)).setCell ⟨gb18z, 2, none⟩ (.int .i64 t1121)) w.heap.size (fun k_ => some k_ ≠ (.slice Ao9z t1108.length co10z : Value).ownBlock /\ some k_ ≠ (.slice Ao12z t1113.length co13z : Value).ownBlock) (.slice Ao29z t1118.length co30z) t1118) := ⟨by refine rp ?_; exact Kd.R_mono (Kd.R_far (p := ⟨gb18z, 2, none⟩) (Kd.R_far (p := ⟨gb18z, 1, none⟩) (Kd.R_far (p := ⟨gb18z, 0, none⟩) (Kd.R_types HO17z.out BK20z.out (by decide)) (fun _ hk => hk.2) (.bool t1117)) (fun _ hk => hk.2) (.slice Ao29z t1118.length co30z)) (fun _ hk => hk.2) (.int .i64 t1121)) (fun _ hk => ⟨hk.1.1.2, hk.1.2⟩)⟩
    have n3_ : Aside0 ((((w19z.setCell ⟨gb18z, 0, none⟩ (.bool t1117)).setCell ⟨gb18z, 1, none⟩ (.slice Ao29z t1118.length co30z)).setCell ⟨gb18z, 2, none⟩ (.int .i64 t1121)).heap[gb18z]? = some (.cells #[.bool t1117, .slice Ao29z t1118.length co30z, .int .i64 t1121] 24 (0, 0))) := ⟨by refine bp ?_; refine blk_put (cs := #[.bool t1117, .slice Ao29z t1118.length co30z, .int .i64 0]) ?_ 2 _ rfl; refine bp ?_; refine blk_put (cs := #[.bool t1117, .slice none 0 0, .int .i64 0]) ?_ 1 _ rfl; refine bp ?_; refine blk_put (cs := #[.bool false, .slice none 0 0, .int .i64 0]) ?_ 0 _ rfl; exact bp BK20z.out⟩
    have n4_ : Aside0 (Below w.heap.size w (((w19z.setCell ⟨gb18z, 0, none⟩ (.bool t1117)).setCell ⟨gb18z, 1, none⟩ (.slice Ao29z t1118.length co30z)).setCell ⟨gb18z, 2, none⟩ (.int .i64 t1121))) := ⟨pB⟩
    (try clear HO5z); (try clear HO8z); (try clear HO17z); (try clear BK20z); (try clear HB)
    generalize (((w19z.setCell ⟨gb18z, 0, none⟩ (.bool t1117)).setCell ⟨gb18z, 1, none⟩ (.slice Ao29z t1118.length co30z)).setCell ⟨gb18z, 2, none⟩ (.int .i64 t1121)) = w32z at n0_ n1_ n2_ n3_ n4_ ⊢
    have HO5z := n0_
    have HO8z := n1_
    have HO17z := n2_
    have BK20z := n3_
    have HB := n4_
    clear n0_ n1_ n2_ n3_ n4_
    replace HO5z := am (Kd.R_drew HO5z.out)
    replace HO8z := am (Kd.R_drew HO8z.out)
    replace HO17z := am (Kd.R_drew HO17z.out)
    replace BK20z := am (blk_drew BK20z.out)
    replace HB := am (below_drew1 HB.out)
    refine start_ (n := 12) (S := fun w' => w'.cell? ⟨gb18z, 0, none⟩ = some (.bool t1117) /\ w'.cell? ⟨gb18z, 1, none⟩ = some (.slice Ao29z t1118.length co30z) /\ w'.cell? ⟨gb18z, 2, none⟩ = some (.int .i64 t1121)) (ds := []) #[false, false, false, false, false, false, false, false, false, false, false, false] (by kernel_rfl) rfl rfl ⟨(blk_cell BK20z.out 0).trans rfl, (blk_cell BK20z.out 1).trans rfl, (blk_cell BK20z.out 2).trans rfl⟩ (fun hHeld => ?_); refine with_tabW bolterlaw03_QuotRests.tab7 bolterlaw03_QuotRests.bits7 (fun HT_ HW_ => ?_)
    generalize w32z.drew = w33z at HO5z HO8z HO17z BK20z HB hHeld ⊢
    refine pu 0 (some 26) #[true, false, false, false, false, false, false, false, false, false, false, false] (h := ?_)
    refine one_ (i := 1) (N := some 27) #[true, true, false, false, false, false, false, false, false, false, false, false] rfl rfl (one_of HT_.out (by kernel_rfl)) (by decide) (fun K hK => ?_)
    refine goes_ Tryz.func20 (by kernel_rfl) rfl #[.int .i64 t1122] (by rfl) rfl rfl pA ?_
    with_reducible refine (bolterlaw03_num.calls t1122 t1125 _ A19.out).mono ?_
    rintro e w' ⟨rfl, ⟨nd, rfl⟩⟩
    refine ⟨_, rfl, ?_⟩
    refine hK.out _ _ ⟨(blk_cell BK20z.out 0).trans rfl, (blk_cell BK20z.out 1).trans rfl, (blk_cell BK20z.out 2).trans rfl⟩ (fun hHeld => ?_)
    clear hK K
    refine norm_ (a' := ?_) ?_ ?_
    rotate_left
    ·show Act.put _ (some 27) _ = _
     simp only [Act.put, List.setIfInBounds_toArray, List.set_cons_zero, List.set_cons_succ, i64_w, i32_w]
     rfl
    refine pu 2 (some 28) #[true, true, true, false, false, false, false, false, false, false, false, false] (h := ?_)
    refine pu 3 (some 29) #[true, true, true, true, false, false, false, false, false, false, false, false] (h := ?_)
    refine pu 5 (some 31) #[true, true, true, true, false, true, false, false, false, false, false, false] (h := ?_)
    refine pu 6 (some 32) #[true, true, true, true, false, true, true, false, false, false, false, false] (h := ?_)
    refine pu 7 (some 33) #[true, true, true, true, false, true, true, true, false, false, false, false] (h := ?_)
    refine take_ (i := 4) (N := some 30) (v := ?_) (a' := ?_) #[true, true, true, true, true, true, true, true, false, false, false, false] rfl rfl (take_ofW HT_.out HW_.out (by kernel_rfl)) (fun _ _ _ h => h) (Or.inl ⟨by rfl, ?_⟩) hHeld ?_ ?_
    rotate_left
    ·rintro w' ⟨s34z, s35z, s36z⟩
     go_simp
     with_reducible rfl
    rotate_left
    ·simp only [Act.put, List.setIfInBounds_toArray, List.set_cons_zero, List.set_cons_succ, i64_w, i32_w]
     rfl
    refine one_ (i := 8) (N := some 34) #[true, true, true, true, true, true, true, true, true, false, false, false] rfl rfl (one_of HT_.out (by kernel_rfl)) (by decide) (fun K hK => ?_)
    refine goes_ Tryz.func29 (by kernel_rfl) rfl #[.int .i64 (Int.tmod (Int.tmod a0 1099511627776) (Int.tmod a1 1099511627776))] (by rfl) rfl rfl pA ?_
    with_reducible refine (bolterref02_Int.calls k (Int.tmod (Int.tmod a0 1099511627776) (Int.tmod a1 1099511627776)) t1126 t1127 t1130 _ A21.out).mono ?_
    rintro e w37z ⟨v38z, rfl, ho4z, hb⟩
    refine ⟨_, rfl, ?_⟩
    have HO39z := am (Kd.R_lower (Kd.R_new' (Kd.R_new' (Kd.R_new' ho4z (Kd.R_lt (Kd.R_below HO5z.out pl))) (Kd.R_lt (Kd.R_below HO8z.out pl))) (Kd.R_lt (Kd.R_below HO17z.out pl))) (below_size pB))
    replace HO5z := reR HO5z ho4z hb
    replace HO8z := reR HO8z ho4z hb
    replace HO17z := reR HO17z ho4z hb
    replace BK20z := bb BK20z hb
    replace HB := bS hb
    (try clear hb); (try clear hb1z); (try clear hk); (try clear hi); (try clear ho4z)
    obtain ⟨Ao40z, co41z, eo42z⟩ := Kd.R_slice HO39z.out
    (first | subst eo42z | (injection eo42z with f1_ f2_ f3_; have f4_ := f1_.symm; have f5_ := f3_.symm; clear f1_ f2_ f3_; subst f4_; subst f5_))
    refine hK.out _ _ ⟨(blk_cell BK20z.out 0).trans rfl, (blk_cell BK20z.out 1).trans rfl, (blk_cell BK20z.out 2).trans rfl⟩ (fun hHeld => ?_)
    clear hK K
    refine norm_ (a' := ?_) ?_ ?_
    rotate_left
    ·show Act.put _ (some 34) _ = _
     simp only [Act.put, List.setIfInBounds_toArray, List.set_cons_zero, List.set_cons_succ, i64_w, i32_w]
     rfl
    refine one_ (i := 9) (N := some 35) #[true, true, true, true, true, true, true, true, true, true, false, false] rfl rfl (one_of HT_.out (by kernel_rfl)) (by decide) (fun K hK => ?_)
    refine goes_ Tryz.func21 (by kernel_rfl) rfl #[.agg #[.bool t1117, .slice Ao29z t1118.length co30z, .int .i64 t1121], .agg #[.bool t1126, .slice Ao40z t1127.length co41z, .int .i64 t1130]] (by rfl) rfl rfl pA ?_
    with_reducible refine (bolterref02_Same.calls k t1117 _ _ t1118 t1121 t1126 _ _ t1127 t1130 t1131 _ ?side1 ?side2 ?side3 ?side4 A22.out).mono ?_
    (case side1 => exact Kd.C_below (Kd.R_reads' HO17z.out).2.2 pl)
    (case side2 => exact (Kd.R_reads' HO17z.out).2.1)
    (case side3 => exact Kd.C_below (Kd.R_reads' HO39z.out).2.2 pl)
    (case side4 => exact (Kd.R_reads' HO39z.out).2.1)
    rintro e w43z ⟨rfl, hb⟩
    refine ⟨_, rfl, ?_⟩
    replace HO5z := rbl HO5z hb
    replace HO8z := rbl HO8z hb
    replace HO17z := rbl HO17z hb
    replace HO39z := rbl HO39z hb
    replace BK20z := bb BK20z hb
    replace HB := bS hb
    (try clear hb); (try clear hb1z); (try clear hk); (try clear hi)
    refine hK.out _ _ ⟨(blk_cell BK20z.out 0).trans rfl, (blk_cell BK20z.out 1).trans rfl, (blk_cell BK20z.out 2).trans rfl⟩ (fun hHeld => ?_)
    clear hK K
    refine norm_ (a' := ?_) ?_ ?_
    rotate_left
    ·show Act.put _ (some 35) _ = _
     simp only [Act.put, List.setIfInBounds_toArray, List.set_cons_zero, List.set_cons_succ, i64_w, i32_w]
     rfl
    refine pu 10 (some 36) #[true, true, true, true, true, true, true, true, true, true, true, false] (h := ?_)
    refine pu 11 (some 4) #[true, true, true, true, true, true, true, true, true, true, true, true] (h := ?_)
    refine done_ (done_of HT_.out (by kernel_rfl)) ?_
    try go_wp2
    go_ret
    exact ⟨pE, pB⟩
  | go_ret
    exact ⟨pE, pB⟩) : P := h
theorem bolterlaw03_QuotRests.calls (k : Nat) (a0 : Int) (a1 : Int) (r : Bool) (w : World) (h : bolterlaw03_QuotRests.f k a0 a1 = some r) (hr : r = true) :
  Calls Tryz.prog 6 #[.int .i64 a0, .int .i64 a1] w fun e w' => e = .returned (.bool r) /\ Below w.heap.size w w' := by
 have hu24 := Tryz.underlying24
 have HB := am (Below.refl w.heap.size w)
 have H : ((bolterlaw03_alive.f k).bind fun t1106 => (if t1106 = true then ((bolterref02_Int.f k (Int.tmod a0 1099511627776)).bind fun bt1107 => ((bolterref02_Int.f k (Int.tmod a1 1099511627776)).bind fun bt1112 => ((quot_Mod.f k bt1107.1 bt1107.2.1 bt1107.2.2 bt1112.1 bt1112.2.1 bt1112.2.2).bind fun bt1117 => (if (Int.tmod a1 1099511627776) = 0 then ((bolterlaw03_num.f bt1117.2.2.2).bind fun t1124 => (some (t1124 == 53))) else ((bolterlaw03_num.f bt1117.2.2.2).bind fun t1125 => (if t1125 = 0 then ((bolterref02_Int.f k (Int.tmod (Int.tmod a0 1099511627776) (Int.tmod a1 1099511627776))).bind fun bt1126 => ((bolterref02_Same.f k bt1117.1 bt1117.2.1 bt1117.2.2.1 bt1126.1 bt1126.2.1 bt1126.2.2).bind fun t1131 => (some t1131))) else (some false))))))) else (some false))) = some r := h
 clear h
 obtain ⟨t1106, A3, H⟩ := ob H
 by_cases c4 : t1106 = true
 ·subst c4
  rw [if_pos rfl] at H
  obtain ⟨⟨t1107, t1108, t1111⟩, A5, H⟩ := ob H; (try dsimp only at H)
  obtain ⟨⟨t1112, t1113, t1116⟩, A6, H⟩ := ob H; (try dsimp only at H)
  obtain ⟨⟨t1117, t1118, t1121, t1122⟩, A7, H⟩ := ob H; (try dsimp only at H)
  by_cases c8 : (Int.tmod a1 1099511627776) = 0
  ·rw [if_pos c8] at H
   have c8b0 : ((Int.tmod a1 1099511627776) == 0) = true := beq_iff_eq.mpr c8
   have c8b1 : ((Int.tmod a1 1099511627776) != 0) = false := bne_eq_false_iff_eq.mpr c8
   clear c8
   obtain ⟨t1124, A9, H⟩ := ob H
   obtain rfl := Option.some.inj H
   exact bolterlaw03_QuotRests.leaf
  ·rw [if_neg c8] at H
   have c8b0 : ((Int.tmod a1 1099511627776) == 0) = false := beq_eq_false_iff_ne.mpr c8
   have c8b1 : ((Int.tmod a1 1099511627776) != 0) = true := bne_iff_ne.mpr c8
   obtain ⟨t1125, A19, H⟩ := ob H
   by_cases c20 : t1125 = 0
   ·rw [if_pos c20] at H
    have c20b0 : (t1125 == 0) = true := beq_iff_eq.mpr c20
    have c20b1 : (t1125 != 0) = false := bne_eq_false_iff_eq.mpr c20
    clear c20
    obtain ⟨⟨t1126, t1127, t1130⟩, A21, H⟩ := ob H; (try dsimp only at H)
    obtain ⟨t1131, A22, H⟩ := ob H
    obtain rfl := Option.some.inj H
    exact bolterlaw03_QuotRests.leaf
   ·rw [if_neg c20] at H
    have c20b0 : (t1125 == 0) = false := beq_eq_false_iff_ne.mpr c20
    have c20b1 : (t1125 != 0) = true := bne_iff_ne.mpr c20
    exact absurd ((Option.some.inj H).trans hr) Bool.false_ne_true
 ·replace c4 := Bool.eq_false_iff.mpr c4
  subst c4
  rw [if_neg (show ¬ (false = true) by decide)] at H
  exact absurd ((Option.some.inj H).trans hr) Bool.false_ne_true
end YtjbjkmccfocikaaGreatDoor.B
end
section
namespace YtjbjkmccfocikaaGreatDoor.P.Nm
open Go.RowKit YtjbjkmccfocikaaGreatDoorW.PrintWords YtjbjkmccfocikaaGreatDoor.B YtjbjkmccfocikaaGreatDoor.P
theorem intD_is {n : Int} (h1 : -9223372036854775808 <= n) (h2 : n <= 9223372036854775807) : OkD (intD n) /\ 0 <= (intD n).e /\ wholeN (intD n) = n.natAbs /\ (n ≠ 0 -> (intD n).neg = decide (n < 0)) := by
 have ok : OkD (intD n) := settle_ok _
 have h20 : nd n.natAbs <= 20 := nd_20 (by omega)
 refine ⟨ok, ?_⟩
 by_cases h0 : n = 0
 ·subst h0
  exact ⟨by decide, by decide, fun h => absurd rfl h⟩
 ·have hn : n.natAbs ≠ 0 := by omega
  have hc := nd_core hn
  have he : settleD ⟨decide (n < 0), n.natAbs, 0⟩ = (⟨decide (n < 0), core n.natAbs, (tz n.natAbs : Int)⟩, 0) := by
   unfold settleD
   simp only
   rw [if_neg hn, if_neg (by omega), if_neg (by omega)]
   simp
  have : intD n = ⟨decide (n < 0), core n.natAbs, (tz n.natAbs : Int)⟩ := by unfold intD; rw [he]
  rw [this]
  refine ⟨by simp, ?_, fun _ => rfl⟩
  unfold wholeN
  simp only
  rw [if_pos (by omega), Int.toNat_natCast]
  exact (tz_is hn).1.symm
theorem tmod_parts (a b : Int) (hb : b ≠ 0) : (Int.tmod a b).natAbs = a.natAbs % b.natAbs /\ (Int.tmod a b ≠ 0 -> decide (Int.tmod a b < 0) = decide (a < 0)) := by
 refine ⟨Int.natAbs_tmod a b, fun h => ?_⟩
 by_cases ha : a < 0
 ·rw [decide_eq_true ha, decide_eq_true_eq]
  have := Int.tmod_nonneg (a := -a) b (by omega)
  rw [Int.neg_tmod] at this
  omega
 ·rw [decide_eq_false ha, decide_eq_false_iff_not]
  have := Int.tmod_nonneg (a := a) b (by omega)
  omega
theorem modD_int {a b : Int} (ha1 : -1099511627776 <= a) (ha2 : a <= 1099511627776) (hb1 : -1099511627776 <= b) (hb2 : b <= 1099511627776) (hb : b ≠ 0) : modD (intD a) (intD b) = (intD (Int.tmod a b), 0) := by
 obtain ⟨_, _, wa, sa⟩ := intD_is (n := a) (by omega) (by omega)
 obtain ⟨_, _, wb, _⟩ := intD_is (n := b) (by omega) (by omega)
 obtain ⟨m1, m2⟩ := tmod_parts a b hb
 have hbn : b.natAbs ≠ 0 := by omega
 unfold modD
 rw [wa, wb, if_neg hbn, <- m1]
 have hlt : (Int.tmod a b).natAbs < b.natAbs := by rw [m1]; exact Nat.mod_lt _ (by omega)
 have h20 : nd (Int.tmod a b).natAbs <= 20 := nd_20 (by omega)
 by_cases h0 : Int.tmod a b = 0
 ·rw [h0]
  exact settle_zero _ _
 ·have ha0 : a ≠ 0 := fun e => h0 (by rw [e]; simp)
  rw [sa ha0, <- m2 h0]
  have hn : (Int.tmod a b).natAbs ≠ 0 := by omega
  have hc := nd_core hn
  unfold intD settleD
  simp only
  rw [if_neg hn, if_neg (by omega), if_neg (by omega)]
theorem tmod_40 (a : Int) : -1099511627776 <= Int.tmod a 1099511627776 /\ Int.tmod a 1099511627776 <= 1099511627776 := by
 have h1 := Int.natAbs_tmod a 1099511627776
 have h2 := Nat.mod_lt a.natAbs (show 0 < (1099511627776 : Int).natAbs by decide)
 have h3 : (1099511627776 : Int).natAbs = 1099511627776 := by decide
 omega
theorem QuotRests_plain {a b : Int} : Tells (fun k => bolterlaw03_QuotRests.f k a b) true := by
 obtain ⟨a1, a2⟩ := tmod_40 a
 obtain ⟨b1, b2⟩ := tmod_40 b
 unfold bolterlaw03_QuotRests.f bolterlaw03_num.f
 refine alive03.bind (Tells.ifp rfl ?_)
 obtain ⟨x, hx⟩ : ∃ x, Int.tmod a 1099511627776 = x := ⟨_, rfl⟩
 obtain ⟨y, hy⟩ : ∃ y, Int.tmod b 1099511627776 = y := ⟨_, rfl⟩
 rw [hx] at a1 a2 ⊢
 rw [hy] at b1 b2 ⊢
 obtain ⟨ox, _, wx, _⟩ := intD_is (n := x) (by omega) (by omega)
 obtain ⟨oy, _, wy, _⟩ := intD_is (n := y) (by omega) (by omega)
 refine (RInt_tells x (by omega) (by omega)).bind ((RInt_tells y (by omega) (by omega)).bind ((QMod ox oy).bind ?_))
 by_cases h0 : y = 0
 ·refine Tells.ifp h0 ((Tells.pure _).bind ((Tells.pure _).val ?_))
  unfold modD
  rw [wy, h0]; rfl
 ·rw [modD_int a1 a2 b1 b2 h0]
  have h1 : (Int.tmod x y).natAbs <= x.natAbs := by rw [Int.natAbs_tmod]; exact Nat.mod_le _ _
  have hm : -9223372036854775808 <= Int.tmod x y /\ Int.tmod x y <= 9223372036854775807 := by omega
  obtain ⟨om, _⟩ := intD_is hm.1 hm.2
  exact Tells.ifn h0 ((Tells.pure _).bind (Tells.ifp rfl ((RInt_tells _ hm.1 hm.2).bind ((Same_self (intD (Int.tmod x y)) (by have := om.len; omega)).bind (Tells.pure _)))))
end YtjbjkmccfocikaaGreatDoor.P.Nm
end
section
namespace YtjbjkmccfocikaaGreatDoor.R.quotRests
open Go.ChangeShapes Go.WideShapes Go.ChangeAt Go.RowKit
open Go.ChangeMaps (open_string shut_string)
theorem reads (os : Os) {H : Type} (enc : TypeId × Value -> H) : ∃ places, DataW.whole enc Tryz.prog ((laidWorld os).forCall (fun _ _ => 0) ⟨#[], #[Value.int .i64 0, Value.int .i64 0], []⟩).memory Tryz.f6.params.toList Rows.quotRestsSpec.vars false (#[Value.int .i64 0, Value.int .i64 0] : Array Value).toList 8 = some ([.lit (.int .i64 0), .lit (.int .i64 0)], [], places) :=
 ⟨[], by kernel_rfl⟩
theorem contract (H : Type) (enc : TypeId × Value -> H) (W : World) (base : Nat) (args : Array Value) (ds gs : List (DataW H)) (before : List MemPlace)
  (hval : ∀ (j : Nat) t v, Tryz.f6.params[j]? = some t -> args[j]? = some v -> Value.okWide Tryz.prog W .any base t v)
  (hW : DataW.Whole enc Tryz.prog Tryz.f6.params.toList Rows.quotRestsSpec.vars false W args.toList ds gs before) (hk : (DataW.weightsEach Tryz.prog (Tryz.f6.params.toList ++ (OpenSpec.ofChange Rows.quotRestsSpec).bare.plain.varTypes Tryz.prog) (ds ++ gs)).all (· <= reachBytes) = true) (hL : laidMetH Tryz.prog laidL W) (hsh : W.ShapedOpen Tryz.prog) :
  Calls Tryz.prog 6 args W fun e W' => ∃ v, e = .returned v /\ Rows.quotRestsSpec.post enc Tryz.prog Tryz.f6 false true false false W args v W' := by
 have hG := glob hL hsh
 have hW' := hW
 obtain ⟨p, q, hA0, hV, rfl, hfz, hnd⟩ := hW
 have hA : DataW.TrodAll enc Tryz.prog W 0 (fun _ => true) true Tryz.f6.params.toList args.toList ds p := hA0
 rw [Tryz.params6] at hA hval hk
 obtain ⟨v0, vs0, d0, ds0, p0, q0, hargs, rfl, rfl, h0, r0⟩ := trodAll_cons hA
 obtain ⟨v1, vs1, d1, ds1, p1, q1, rfl, rfl, rfl, h1, r1⟩ := trodAll_cons r0
 obtain ⟨rfl, rfl, rfl⟩ := trodAll_nil r1
 obtain rfl : args = #[v0, v1] := by cases args; simp_all
 obtain ⟨rfl, rfl⟩ := trodVars_none hV
 obtain ⟨a0, rfl, rfl, rfl, y0⟩ := open_int Tryz.underlying3 (hval 0 3 v0 rfl rfl) h0
 obtain ⟨a1, rfl, rfl, rfl, y1⟩ := open_int Tryz.underlying3 (hval 1 3 v1 rfl rfl) h1
 simp only [List.append_nil] at hW'
 clear hA0 hA hk hL
 obtain ⟨k, hp⟩ := (P.Nm.QuotRests_plain (a := a0) (b := a1)).ex
 refine (B.bolterlaw03_QuotRests.calls k a0 a1 true W hp rfl).mono fun e W' ⟨he, bel⟩ => ?_
 subst he
 exact ⟨_, rfl, _, _, _, [], _, [], hW', trodAll_mk1 (shut_bool Tryz.underlying4 _), (trodAll_cons_mk (shut_int Tryz.underlying3 y0) (trodAll_cons_mk (shut_int Tryz.underlying3 y1) trodAll_mk0)), rfl, bel.frame _, fun h => by cases h⟩
theorem lifted (os : Os) (started : os.Started) (H : Type) (enc : TypeId × Value -> H) (F : Stop.Interp) :
  ReturnsInHanded {} Tryz.checked os 6 .any ((OpenSpec.ofChange Rows.quotRestsSpec).preRow enc Tryz.prog Tryz.f6 Rows.quotRestsRow.domain false Rows.quotRestsRow.laid) (((OpenSpec.ofChange Rows.quotRestsSpec).at F).post enc Tryz.prog Tryz.f6 false true false false) := by
 obtain ⟨places, hx⟩ := reads os enc
 refine returnsInHanded_of_row (C := Tryz.checked) (s := OpenSpec.ofChange Rows.quotRestsSpec) own started (by kernel_rfl) Tryz.func6
  (witness_row_at (enc := enc) (C := Tryz.checked) false (laidWorld os) #[Value.int .i64 0, Value.int .i64 0] rfl (by kernel_rfl) (by kernel_rfl) (by kernel_rfl)
   (OpenSpec.preRow_of_cond 8 hx (by kernel_rfl) (fun k hk => by cases hk) (by kernel_rfl) (laid_met os _))) ?_
 intro W base args ds gs before hval hW _ _ hk hL hsh _
 exact contract H enc W base args ds gs before hval hW hk hL hsh
theorem said : Rows.QuotRestsSaid :=
 OpenClaim.holds_of_cond 6 Tryz.f6 rfl rfl rfl rfl rfl rfl rfl ⟨rfl, rfl, rfl, rfl, rfl⟩ rfl rfl rfl rfl rfl (by kernel_rfl) Tryz.func6 (by kernel_rfl)
  (of_decide_eq_true (by kernel_rfl)) (by unfold Func.isWrapper; first | (rw [if_pos (by decide +kernel)]; kernel_rfl) | (rw [if_neg (by decide +kernel)]; exact ⟨rfl, rfl⟩))
  (fun os started H enc _ F => by rw [OpenClaim.pre_eq_preRow]; exact lifted os started H enc F)
theorem plain (f : FuncId) (fn : Func) (hf : Tryz.pinned.checked.prog.funcNamed "bolter/bolterlaw03.QuotRests" = some f) (hfn : Tryz.pinned.checked.prog.funcs[f]? = some fn) :
  false = Tryz.pinned.checked.prog.looks [] /\ ∀ (j : Nat) t, fn.params[j]? = some t -> Tryz.pinned.checked.prog.wantsStandIn t = false := by
 obtain rfl : f = 6 := Option.some.inj ((show Tryz.prog.funcNamed "bolter/bolterlaw03.QuotRests" = some 6 by kernel_rfl).symm.trans hf) |>.symm
 obtain rfl : fn = Tryz.f6 := (Option.some.inj (Tryz.func6.symm.trans hfn)).symm
 refine ⟨by kernel_rfl, fun j t ht => ?_⟩
 rw [Tryz.params6] at ht
 have hm : t ∈ (#[3, 3] : Array TypeId) := Array.mem_of_getElem? ht
 have hall : ∀ t ∈ [3, 3], Tryz.prog.wantsStandIn t = false := by
  intro t h
  simp only [List.mem_cons, List.mem_nil_iff, or_false] at h
  rcases h with rfl | rfl <;> kernel_rfl
 exact hall t (by simpa using hm)
theorem card : Rows.QuotRestsCardSaid :=
 Claim7.holds_tied_plain_at .later [] _ _ _ _ said (fun _ h => by cases h) (by kernel_rfl) (fun _ h => by cases h) quotRests_row_tie rfl ⟨rfl, rfl⟩ (by kernel_rfl) rfl plain (by kernel_rfl)
#print axioms card
end YtjbjkmccfocikaaGreatDoor.R.quotRests
end
end Go.Proofs
