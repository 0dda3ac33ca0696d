/- QuotRests: part 5 of 6: the texts B62 B63 PLaw2 PQuot B34 B35 B36 B37 B42 B43 B49 B51 B55 B93 B94 PQuotF PAlive B52 B68 B69 of this claim, one behind the other. -/
import Derived.Test.YtjbjkmccfocikaaGreatDoorZQuotRests3
import Derived.KernelRfl
set_option linter.unusedVariables false
set_option linter.unusedSimpArgs false
set_option maxRecDepth 100000
set_option maxHeartbeats 8000000
namespace Go.Proofs
section
namespace YtjbjkmccfocikaaGreatDoor.B
open Go.RowKit YtjbjkmccfocikaaGreatDoorW.PrintWords YtjbjkmccfocikaaGreatDoorW.PrintLast YtjbjkmccfocikaaGreatDoorW.PrintMore
attribute [local go_sem] max2_int min2_int max_two min_two max_three min_three max_four min_four
mutual
def bolterref02_Parse.j0 : Nat -> ByteArray -> Bool -> Option (Bool × List Int × Int × Int)
 | 0, _, _ => none
 | k + 1, x0, x18 => if x18 = true then (some (false, ([] : List Int), 0, 32)) else (if (x0.size : Int) > 2000 then (some (false, ([] : List Int), 0, 5)) else (if 0 < (x0.size : Int) then (bolterref02_Parse.l0 k x0 ([] : List Int) false 0 ((bt x0 0) == 45) 0) else (none)))
def bolterref02_Parse.l0 : Nat -> ByteArray -> List Int -> Bool -> Int -> Bool -> Int -> Option (Bool × List Int × Int × Int)
 | 0, _, _, _, _, _, _ => none
 | k + 1, x0, x7, x8, x9, x544000, x544002 => if x9 < (x0.size : Int) then (if 0 <= x9 then (if (bt x0 x9) = 101 then (bolterref02_Parse.j2 k x0 x7 x8 x9 false x544000 x544002) else (bolterref02_Parse.j2 k x0 x7 x8 x9 ((bt x0 x9) != 69) x544000 x544002)) else (none)) else (bolterref02_Parse.j2 k x0 x7 x8 x9 false x544000 x544002)
def bolterref02_Parse.j2 : Nat -> ByteArray -> List Int -> Bool -> Int -> Bool -> Bool -> Int -> Option (Bool × List Int × Int × Int)
 | 0, _, _, _, _, _, _, _ => none
 | k + 1, x0, x7, x8, x9, x52, x544000, x544002 => if x52 = true then (if 0 <= x9 then (if x9 < (x0.size : Int) then (if (bt x0 x9) = 46 then (bolterref02_Parse.l0 k x0 x7 true (wrap64 (x9 + 1)) x544000 x544002) else (if (bt x0 x9) = 45 then (bolterref02_Parse.l0 k x0 x7 x8 (wrap64 (x9 + 1)) x544000 x544002) else ((some (([((bt x0 x9) - 48) % 256] : List Int) : List Int)).bind fun y544 => (if y544.length + x7.length < 17592186044416 then ((some (y544 ++ x7 : List Int)).bind fun y547 => (if x8 = true then (bolterref02_Parse.l0 k x0 y547 x8 (wrap64 (x9 + 1)) x544000 (wrap64 (x544002 - 1))) else (bolterref02_Parse.l0 k x0 y547 x8 (wrap64 (x9 + 1)) x544000 x544002))) else (none))))) else (none)) else (none)) else (if x9 < (x0.size : Int) then (bolterref02_Parse.l1 k x0 x7 (wrap64 (x9 + 1)) false 0 0 x544000 x544002) else ((bolterref02_Made.f k x544000 x7 x544002).bind fun bt562 => (some (bt562.1, bt562.2.1, bt562.2.2.1, bt562.2.2.2))))
def bolterref02_Parse.l1 : Nat -> ByteArray -> List Int -> Int -> Bool -> Int -> Int -> Bool -> Int -> Option (Bool × List Int × Int × Int)
 | 0, _, _, _, _, _, _, _, _ => none
 | k + 1, x0, x7, x9, x10, x11, x12, x544000, x544002 => if x9 < (x0.size : Int) then (if 0 <= x9 then (if (bt x0 x9) = 45 then (bolterref02_Parse.l1 k x0 x7 (wrap64 (x9 + 1)) true x11 x12 x544000 x544002) else (if (bt x0 x9) = 43 then (bolterref02_Parse.l1 k x0 x7 (wrap64 (x9 + 1)) x10 x11 x12 x544000 x544002) else (if x11 > 0 then (bolterref02_Parse.j4 k x0 x7 x9 x10 x11 x12 true x544000 x544002) else (bolterref02_Parse.j4 k x0 x7 x9 x10 x11 x12 ((bt x0 x9) != 48) x544000 x544002)))) else (none)) else (if x10 = true then ((bolterref02_Made.f k x544000 x7 (wrap64 (x544002 + (wrap64 (-x11))))).bind fun bt550 => (some (bt550.1, bt550.2.1, bt550.2.2.1, bt550.2.2.2))) else ((bolterref02_Made.f k x544000 x7 (wrap64 (x544002 + x11))).bind fun bt556 => (some (bt556.1, bt556.2.1, bt556.2.2.1, bt556.2.2.2))))
def bolterref02_Parse.j4 : Nat -> ByteArray -> List Int -> Int -> Bool -> Int -> Int -> Bool -> Bool -> Int -> Option (Bool × List Int × Int × Int)
 | 0, _, _, _, _, _, _, _, _, _ => none
 | k + 1, x0, x7, x9, x10, x11, x12, x107, x544000, x544002 => if x107 = true then (if (wrap64 (x12 + 1)) > 6 then (some (false, ([] : List Int), 0, 52)) else (if 0 <= x9 then (if x9 < (x0.size : Int) then (bolterref02_Parse.l1 k x0 x7 (wrap64 (x9 + 1)) x10 (wrap64 ((wrap64 (10 * x11)) + (((bt x0 x9) - 48) % 256))) (wrap64 (x12 + 1)) x544000 x544002) else (none)) else (none))) else (if x12 > 6 then (some (false, ([] : List Int), 0, 52)) else (if 0 <= x9 then (if x9 < (x0.size : Int) then (bolterref02_Parse.l1 k x0 x7 (wrap64 (x9 + 1)) x10 (wrap64 ((wrap64 (10 * x11)) + (((bt x0 x9) - 48) % 256))) x12 x544000 x544002) else (none)) else (none)))
end
def bolterref02_Parse.f (k : Nat) (a0 : ByteArray) : Option (Bool × List Int × Int × Int) := (bolterref02_Ends.f k a0 0).bind fun bt541 => (if bt541.2 = true then (bolterref02_Parse.j0 k a0 (bt541.1 != (a0.size : Int))) else (bolterref02_Parse.j0 k a0 true))
theorem bolterref02_Parse.calls (k : Nat) (a0 : ByteArray) (r1 : Bool) (r2 : List Int) (r3 : Int) (r4 : Int) (w : World) (h : bolterref02_Parse.f k a0 = some (r1, r2, r3, r4)) :
  Calls Tryz.prog 58 #[.string a0] w fun e w' => ∃ v1_ : Value, e = .returned (.tuple #[.agg #[.bool r1, v1_, .int .i64 r3], .int .i64 r4]) /\ Kd.R (Kd.int .u32) 85 w' w.heap.size (fun _ => True) v1_ r2 /\ Below w.heap.size w w' := by
 have hu24 := Tryz.underlying24
 have hu30 := Tryz.underlying30
 have HB := am (Below.refl w.heap.size w)
 have H : ((bolterref02_Ends.f k a0 0).bind fun bt541 => (if bt541.2 = true then (bolterref02_Parse.j0 k a0 (bt541.1 != (a0.size : Int))) else (bolterref02_Parse.j0 k a0 true))) = some (r1, r2, r3, r4) := h
 clear h
 obtain ⟨⟨t541, t542⟩, A2, H⟩ := ob H; (try dsimp only at H)
 have HC3 := am H
 clear H
 go_enter Tryz.func58, Tryz.ntmps58
 go_upto_region 2 with (first | ((with_reducible refine gd 2 ?_); (try (refine gate_guard (by rfl) ?_; dsimp only)); refine bx 2 #[.bool false, .slice none 0 0, .int .i64 0] 24 (h := ?_); intro gb540 hg w4 hbox hb; have BK540 := am hbox; have GW540 := gW hg; have GE540 := gW hg; replace HB := bS hb; clear hb hbox hg) | (refine gL (some 15) Tryz.func117 #[.string a0, .int .i64 0] (h := ?_); (with_reducible refine (bolterref02_Ends.calls k a0 0 t541 t542 _ A2.out).mono ?_); rintro e w' ⟨rfl, ⟨nd, rfl⟩⟩; refine ⟨_, rfl, ?_⟩))
 (try simp only [Act.put, List.setIfInBounds_toArray, List.set_cons_zero, List.set_cons_succ])
 go_cut [18] (fun v18 wc => ∃ (kq : Nat) (x18_2 : Bool), v18 = .bool x18_2 /\ Aside0 (bolterref02_Parse.j0 kq a0 x18_2 = some (r1, r2, r3, r4)) /\ Aside0 (kq <= k) /\ Aside0 (wc.heap[gb540]? = some (.cells #[.bool false, (.slice none 0 0), .int .i64 0] 24 (0, 0))) /\ Aside0 (Below w.heap.size w wc))
 case first =>
  have H := HC3.out
  clear HC3
  by_cases c5 : t542 = true
  ·subst c5
   rw [if_pos rfl] at H
   have H' := am H
   clear H
   go_wp2
   go_meet
   case rel => exact ⟨_, ((t541 != (a0.size : Int))), pR, H', ⟨by first | omega | exact Nat.le_refl _⟩, ⟨blk_below BK540.out pl⟩, ⟨pB⟩⟩
  ·replace c5 := Bool.eq_false_iff.mpr c5
   subst c5
   rw [if_neg (show ¬ (false = true) by decide)] at H
   have H' := am H
   clear H
   go_wp2
   go_meet
   case rel => exact ⟨_, (true), pR, H', ⟨by first | omega | exact Nat.le_refl _⟩, ⟨blk_below BK540.out pl⟩, ⟨pB⟩⟩
 case rest =>
  clear HC3
  obtain ⟨kq, x18_2, rfl, HA, HJ2, BK540, HB⟩ := hcut
  cases kq with
  | zero => exact absurd HA.out (by simp [bolterref02_Parse.j0])
  | succ kj2 =>
   have H := HA.out
   clear HA
   simp only [bolterref02_Parse.j0] at H
   by_cases c6 : x18_2 = true
   ·subst c6
    rw [if_pos rfl] at H
    simp only [Option.some.injEq, Prod.mk.injEq] at H
    obtain ⟨rfl, rfl, rfl, rfl⟩ := H
    obtain ⟨hcz7_0, hcz7_1, hcz7_2, hfz7_0, hfz7_1, hfz7_2⟩ := cEc BK540.out
    go_wp2
    refine bodyPost_ret (results_ct rfl _ _ gb540 24 #[.bool false, .slice none 0 0, .int .i64 0] (0, 0) _ rfl (by refine bp ?_; refine blk_put (cs := #[.bool false, .slice none 0 0, .int .i64 0]) ?_ 2 _ rfl; refine bp ?_; refine blk_put (cs := #[.bool false, .slice none 0 0, .int .i64 0]) ?_ 1 _ rfl; refine bp ?_; refine blk_put (cs := #[.bool false, .slice none 0 0, .int .i64 0]) ?_ 0 _ rfl; exact bp BK540.out) Tryz.underlying24 rfl (by kernel_rfl)) rfl ?_
    exact ⟨_, pE, pN, pB⟩
   ·replace c6 := Bool.eq_false_iff.mpr c6
    subst c6
    rw [if_neg (show ¬ (false = true) by decide)] at H
    by_cases c8 : (a0.size : Int) > 2000
    ·rw [if_pos c8] at H
     have c8b0 : decide (2000 < (a0.size : Int)) = true := decide_eq_true c8
     have c8b1 : decide (2000 < a0.size) = true := decide_eq_true (by omega)
     clear c8
     simp only [Option.some.injEq, Prod.mk.injEq] at H
     obtain ⟨rfl, rfl, rfl, rfl⟩ := H
     obtain ⟨hcz9_0, hcz9_1, hcz9_2, hfz9_0, hfz9_1, hfz9_2⟩ := cEc BK540.out
     go_wp2
     refine bodyPost_ret (results_ct rfl _ _ gb540 24 #[.bool false, .slice none 0 0, .int .i64 0] (0, 0) _ rfl (by refine bp ?_; refine blk_put (cs := #[.bool false, .slice none 0 0, .int .i64 0]) ?_ 2 _ rfl; refine bp ?_; refine blk_put (cs := #[.bool false, .slice none 0 0, .int .i64 0]) ?_ 1 _ rfl; refine bp ?_; refine blk_put (cs := #[.bool false, .slice none 0 0, .int .i64 0]) ?_ 0 _ rfl; exact bp BK540.out) Tryz.underlying24 rfl (by kernel_rfl)) rfl ?_
     exact ⟨_, pE, pN, pB⟩
    ·rw [if_neg c8] at H
     have c8b0 : decide (2000 < (a0.size : Int)) = false := decide_eq_false c8
     have c8b1 : decide (2000 < a0.size) = false := decide_eq_false (by omega)
     clear c8
     by_cases c10 : 0 < (a0.size : Int)
     ·rw [if_pos c10] at H
      have c10b0 : decide (0 < (a0.size : Int)) = true := decide_eq_true c10
      have c10b1 : decide (0 < a0.size) = true := decide_eq_true (by omega)
      clear c10
      have H' := am H
      clear H
      have p11 : 0 <= (0 : Int) := (by omega)
      have q11 : 0 < a0.size := (by have : (0 : Int) < (a0.size : Int) := of_decide_eq_true pQ; omega)
      have hx11 : ∀ h : 0 < a0.size, ((a0[0]'h).toNat : Int) = bt a0 0 := bt_at a0 0
      clear p11
      have qi11 : (0 < (a0.size : Int)) = True := eq_true (of_decide_eq_true pQ)
      replace q11 := eq_true q11
      go_wp2_with (first | ((with_reducible refine gd 6 ?_); (try (refine gate_guard (by rfl) ?_; dsimp only)); refine bx 6 #[.bool false, .slice none 0 0, .int .i64 0] 30 (h := ?_); intro gb543 hg w12 hbox hb; have BK543 := am hbox; have GW543 := gW hg; have GE543 := gW hg; have NB540_543 := nL hg BK540; have NB543_540 := nG hg BK540; replace BK540 := bb BK540 hb; replace HB := bS hb; clear hb hbox hg; have hnb13 := NB543_540.out; have hnc13 := NB540_543.out; obtain ⟨hcz14_0, hcz14_1, hcz14_2, hfz14_0, hfz14_1, hfz14_2⟩ := cEc BK543.out))
      go_loopg [7, 8, 9] kj2 (fun kq v7 v8 v9 w' => ∃ (x7_2 : List Int) (x8_2 : Bool) (x9_2 : Int) (x544002_2 : Int), v8 = .bool x8_2 /\ v9 = .int .i64 x9_2 /\ Aside0 (bolterref02_Parse.l0 kq a0 x7_2 x8_2 x9_2 ((bt a0 0) == 45) x544002_2 = some (r1, r2, r3, r4)) /\ Aside0 (kq <= kj2) /\ Aside0 (Kd.R (Kd.int .i64) 3 w' w.heap.size (fun _ => True) v7 x7_2) /\ Aside0 (w'.heap[gb540]? = some (.cells #[.bool false, (.slice none 0 0), .int .i64 0] 24 (0, 0))) /\ Aside0 (w'.heap[gb543]? = some (.cells #[.bool ((bt a0 0) == 45), (.slice none 0 0), .int .i64 x544002_2] 30 (0, 0))) /\ Aside0 (Below w.heap.size w w'))
      case atStart => exact ⟨(([] : List Int)), (false), (0), (0), pR, pR, H', ⟨Nat.le_refl _⟩, ⟨pN⟩, ⟨bf NB540_543.out BK540.out⟩, ⟨by refine bp ?_; refine blk_put (cs := #[.bool ((bt a0 0) == 45), .slice none 0 0, .int .i64 0]) ?_ 2 _ rfl; refine bp ?_; refine blk_put (cs := #[.bool ((bt a0 0) == 45), .slice none 0 0, .int .i64 0]) ?_ 1 _ rfl; refine bp ?_; refine blk_put (cs := #[.bool false, .slice none 0 0, .int .i64 0]) ?_ 0 _ rfl; exact bp BK543.out⟩, ⟨pB⟩⟩
      case round =>
       clear H'
       (try clear c6); (try clear c8); (try clear c8b0); (try clear c8b1); (try clear c10); (try clear c10b0); (try clear c10b1); (try clear p11); (try clear q11); (try clear hx11); (try clear qi11); (try clear hcz14_0); (try clear hcz14_1); (try clear hcz14_2); (try clear hfz14_0); (try clear hfz14_1); (try clear hfz14_2); (try clear p11); (try clear q11)
       obtain ⟨x7_2, x8_2, x9_2, x544002_2, rfl, rfl, HA, HK2, HO_7, BK540, BK543, HB⟩ := hrel
       cases gk with
       | zero => exact absurd HA.out (by simp [bolterref02_Parse.l0])
       | succ k2 =>
        have H := HA.out
        clear HA
        simp only [bolterref02_Parse.l0] at H
        have HC15 := am H
        clear H
        go_upto_region 10 with (fail)
        go_cut [52] (fun v52 wc => ∃ (kq : Nat) (x52_14 : Bool), v52 = .bool x52_14 /\ Aside0 (bolterref02_Parse.j2 kq a0 x7_2 x8_2 x9_2 x52_14 ((bt a0 0) == 45) x544002_2 = some (r1, r2, r3, r4)) /\ Aside0 (kq <= k2) /\ Aside0 (Kd.R (Kd.int .i64) 3 wc w.heap.size (fun _ => True) u7 x7_2) /\ Aside0 (wc.heap[gb540]? = some (.cells #[.bool false, (.slice none 0 0), .int .i64 0] 24 (0, 0))) /\ Aside0 (wc.heap[gb543]? = some (.cells #[.bool ((bt a0 0) == 45), (.slice none 0 0), .int .i64 x544002_2] 30 (0, 0))) /\ Aside0 (Below w.heap.size w wc))
        case first =>
         have H := HC15.out
         clear HC15
         by_cases c16 : x9_2 < (a0.size : Int)
         ·rw [if_pos c16] at H
          have c16b0 : decide (x9_2 < (a0.size : Int)) = true := decide_eq_true c16
          clear c16
          (first | rw [c16b0] | (simp only [i64_w, i32_w]; rw [c16b0]) | skip)
          by_cases c17 : 0 <= x9_2
          ·rw [if_pos c17] at H
           have c17b0 : decide (0 <= x9_2) = true := decide_eq_true c17
           clear c17
           by_cases c19 : (bt a0 x9_2) = 101
           ·rw [if_pos c19] at H
            have c19b0 : ((bt a0 x9_2) == 101) = true := beq_iff_eq.mpr c19
            have c19b1 : ((bt a0 x9_2) != 101) = false := bne_eq_false_iff_eq.mpr c19
            clear c19
            have H' := am H
            clear H
            have p18 : 0 <= (x9_2 : Int) := of_decide_eq_true pQ
            have q18 : x9_2 < (a0.size : Int) := of_decide_eq_true pQ
            have hx18 := bt_at a0 x9_2
            replace p18 := eq_true p18
            replace q18 := eq_true q18
            go_wp2
            go_meet
            case rel => exact ⟨_, (false), pR, H', ⟨by have := HJ2.out; have := HK2.out; first | omega | exact Nat.le_refl _⟩, ⟨by refine rp ?_; exact HO_7.out⟩, ⟨blk_below BK540.out pl⟩, ⟨blk_below BK543.out pl⟩, ⟨pB⟩⟩
           ·rw [if_neg c19] at H
            have c19b0 : ((bt a0 x9_2) == 101) = false := beq_eq_false_iff_ne.mpr c19
            have c19b1 : ((bt a0 x9_2) != 101) = true := bne_iff_ne.mpr c19
            have H' := am H
            clear H
            have p18 : 0 <= (x9_2 : Int) := of_decide_eq_true pQ
            have q18 : x9_2 < (a0.size : Int) := of_decide_eq_true pQ
            have hx18 := bt_at a0 x9_2
            replace p18 := eq_true p18
            replace q18 := eq_true q18
            have p20 : 0 <= (x9_2 : Int) := of_decide_eq_true pQ
            have q20 : x9_2 < (a0.size : Int) := of_decide_eq_true pQ
            have hx20 := bt_at a0 x9_2
            replace p20 := eq_true p20
            replace q20 := eq_true q20
            go_wp2
            go_meet
            case rel => exact ⟨_, (((bt a0 x9_2) != 69)), pR, H', ⟨by have := HJ2.out; have := HK2.out; first | omega | exact Nat.le_refl _⟩, ⟨by refine rp ?_; exact HO_7.out⟩, ⟨blk_below BK540.out pl⟩, ⟨blk_below BK543.out pl⟩, ⟨pB⟩⟩
          ·rw [if_neg c17] at H
           exact absurd H (by simp)
         ·rw [if_neg c16] at H
          have c16b0 : decide (x9_2 < (a0.size : Int)) = false := decide_eq_false c16
          clear c16
          (first | rw [c16b0] | (simp only [i64_w, i32_w]; rw [c16b0]) | skip)
          have H' := am H
          clear H
          go_wp2
          go_meet
          case rel => exact ⟨_, (false), pR, H', ⟨by have := HJ2.out; have := HK2.out; first | omega | exact Nat.le_refl _⟩, ⟨by refine rp ?_; exact HO_7.out⟩, ⟨blk_below BK540.out pl⟩, ⟨blk_below BK543.out pl⟩, ⟨pB⟩⟩
        case rest =>
         clear HC15
         (try clear c6); (try clear c8); (try clear c8b0); (try clear c8b1); (try clear c10); (try clear c10b0); (try clear c10b1); (try clear p11); (try clear q11); (try clear hx11); (try clear qi11); (try clear hcz14_0); (try clear hcz14_1); (try clear hcz14_2); (try clear hfz14_0); (try clear hfz14_1); (try clear hfz14_2); (try clear p11); (try clear q11)
         obtain ⟨kq, x52_14, rfl, HA, HJ14, HO_7, BK540, BK543, HB⟩ := hcut
         cases kq with
         | zero => exact absurd HA.out (by simp [bolterref02_Parse.j2])
         | succ kj14 =>
          have H := HA.out
          clear HA
          simp only [bolterref02_Parse.j2] at H
          by_cases c21 : x52_14 = true
          ·subst c21
           rw [if_pos rfl] at H
           by_cases c22 : 0 <= x9_2
           ·rw [if_pos c22] at H
            have c22b0 : decide (0 <= x9_2) = true := decide_eq_true c22
            clear c22
            by_cases c23 : x9_2 < (a0.size : Int)
            ·rw [if_pos c23] at H
             have c23b0 : decide (x9_2 < (a0.size : Int)) = true := decide_eq_true c23
             clear c23
             by_cases c25 : (bt a0 x9_2) = 46
             ·rw [if_pos c25] at H
              have c25b0 : ((bt a0 x9_2) == 46) = true := beq_iff_eq.mpr c25
              have c25b1 : ((bt a0 x9_2) != 46) = false := bne_eq_false_iff_eq.mpr c25
              clear c25
              have H' := am H
              clear H
              have p24 : 0 <= (x9_2 : Int) := of_decide_eq_true pQ
              have q24 : x9_2 < (a0.size : Int) := of_decide_eq_true pQ
              have hx24 := bt_at a0 x9_2
              replace p24 := eq_true p24
              replace q24 := eq_true q24
              go_wp2
              go_roundg kj14
              case measure => have := HJ2.out; have := HK2.out; have := HJ14.out; omega
              case rel => exact ⟨(x7_2), (true), (wrap64 (x9_2 + 1)), (x544002_2), pR, pR, H', ⟨by have := HJ2.out; have := HK2.out; have := HJ14.out; omega⟩, ⟨by refine rp ?_; exact HO_7.out⟩, ⟨blk_below BK540.out pl⟩, ⟨blk_below BK543.out pl⟩, ⟨pB⟩⟩
             ·rw [if_neg c25] at H
              have c25b0 : ((bt a0 x9_2) == 46) = false := beq_eq_false_iff_ne.mpr c25
              have c25b1 : ((bt a0 x9_2) != 46) = true := bne_iff_ne.mpr c25
              by_cases c27 : (bt a0 x9_2) = 45
              ·rw [if_pos c27] at H
               have c27b0 : ((bt a0 x9_2) == 45) = true := beq_iff_eq.mpr c27
               have c27b1 : ((bt a0 x9_2) != 45) = false := bne_eq_false_iff_eq.mpr c27
               clear c27
               have H' := am H
               clear H
               have p24 : 0 <= (x9_2 : Int) := of_decide_eq_true pQ
               have q24 : x9_2 < (a0.size : Int) := of_decide_eq_true pQ
               have hx24 := bt_at a0 x9_2
               replace p24 := eq_true p24
               replace q24 := eq_true q24
               have p26 : 0 <= (x9_2 : Int) := of_decide_eq_true pQ
               have q26 : x9_2 < (a0.size : Int) := of_decide_eq_true pQ
               have hx26 := bt_at a0 x9_2
               replace p26 := eq_true p26
               replace q26 := eq_true q26
               go_wp2
               go_roundg kj14
               case measure => have := HJ2.out; have := HK2.out; have := HJ14.out; omega
               case rel => exact ⟨(x7_2), (x8_2), (wrap64 (x9_2 + 1)), (x544002_2), pR, pR, H', ⟨by have := HJ2.out; have := HK2.out; have := HJ14.out; omega⟩, ⟨by refine rp ?_; exact HO_7.out⟩, ⟨blk_below BK540.out pl⟩, ⟨blk_below BK543.out pl⟩, ⟨pB⟩⟩
              ·rw [if_neg c27] at H
               have c27b0 : ((bt a0 x9_2) == 45) = false := beq_eq_false_iff_ne.mpr c27
               have c27b1 : ((bt a0 x9_2) != 45) = true := bne_iff_ne.mpr c27
               obtain ⟨y544, hy544⟩ : ∃ y_ : List Int, y_ = (([((bt a0 x9_2) - 48) % 256] : List Int)) := ⟨_, rfl⟩
               replace H : (if y544.length + x7_2.length < 17592186044416 then ((some (y544 ++ x7_2 : List Int)).bind fun y547 => (if x8_2 = true then (bolterref02_Parse.l0 kj14 a0 y547 x8_2 (wrap64 (x9_2 + 1)) ((bt a0 0) == 45) (wrap64 (x544002_2 - 1))) else (bolterref02_Parse.l0 kj14 a0 y547 x8_2 (wrap64 (x9_2 + 1)) ((bt a0 0) == 45) x544002_2))) else (none)) = some (r1, r2, r3, r4) := by have hy_ := hy544; exact pH
               have Ny544 := am hy544
               clear hy544
               by_cases c29 : y544.length + x7_2.length < 17592186044416
               ·rw [if_pos c29] at H
                have LMc29 := am c29
                clear c29
                obtain ⟨y547, hy547⟩ : ∃ y_ : List Int, y_ = (y544 ++ x7_2) := ⟨_, rfl⟩
                replace H : (if x8_2 = true then (bolterref02_Parse.l0 kj14 a0 y547 x8_2 (wrap64 (x9_2 + 1)) ((bt a0 0) == 45) (wrap64 (x544002_2 - 1))) else (bolterref02_Parse.l0 kj14 a0 y547 x8_2 (wrap64 (x9_2 + 1)) ((bt a0 0) == 45) x544002_2)) = some (r1, r2, r3, r4) := by have hy_ := hy547; exact pH
                have Ny547 := am hy547
                clear hy547
                by_cases c30 : x8_2 = true
                ·subst c30
                 rw [if_pos rfl] at H
                 have H' := am H
                 clear H
                 have p24 : 0 <= (x9_2 : Int) := of_decide_eq_true pQ
                 have q24 : x9_2 < (a0.size : Int) := of_decide_eq_true pQ
                 have hx24 := bt_at a0 x9_2
                 replace p24 := eq_true p24
                 replace q24 := eq_true q24
                 have p26 : 0 <= (x9_2 : Int) := of_decide_eq_true pQ
                 have q26 : x9_2 < (a0.size : Int) := of_decide_eq_true pQ
                 have hx26 := bt_at a0 x9_2
                 replace p26 := eq_true p26
                 replace q26 := eq_true q26
                 have p28 : 0 <= (x9_2 : Int) := of_decide_eq_true pQ
                 have q28 : x9_2 < (a0.size : Int) := of_decide_eq_true pQ
                 have hx28 := bt_at a0 x9_2
                 replace p28 := eq_true p28
                 replace q28 := eq_true q28
                 go_wp2_with (first | ((with_reducible refine gd 70 ?_); (try (refine gate_guard (by rfl) ?_; dsimp only)); refine Kd.R_lit (Kd.int .i64) _ 3 ?hg (N := 70) ?hd (xs := ([((bt a0 x9_2) - 48) % 256] : List Int)) (inner := [.int .i64 (((bt a0 x9_2) - 48) % 256)]) (ok := fun _ => True) (okp := fun _ => True) ?hr ?hp (fun _ hk => hk) trivial (Below.refl _ _) (Nat.le_refl _) (by simp) ?_; (case hd => rfl); (case hg => rfl); (case hr => first | (go_simp; done) | (go_simp; rfl)); (case hp => exact (Reps.one (show Kd.M (Kd.int .i64) _ _ _ (((bt a0 x9_2) - 48) % 256) [.int .i64 (((bt a0 x9_2) - 48) % 256)] from rfl) (Reps.none _ _))); intro v545 w31 ho32 hb hg_ hnew_; clear hg_ hnew_; (first | rw [<- Ny544.out] at ho32 | (simp only [Int.reduceToNat] at ho32; rw [<- Ny544.out] at ho32)); have HO546 := am (Kd.R_lower (Kd.R_new' ho32 (Kd.R_lt (Kd.R_below HO_7.out pl))) (below_size pB)); replace HO_7 := reR HO_7 ho32 hb; replace BK540 := bb BK540 hb; replace BK543 := bb BK543 hb; replace HB := bS hb; clear hb ho32; obtain ⟨Ao34, co34, eo34⟩ := Kd.R_slice HO_7.out; subst eo34) | ((with_reducible refine gate_builtin (b := .append) (xs := #[.tmp 70, .tmp 71]) rfl ?_); (try (refine gate_guard (by rfl) ?_; dsimp only)); at_builtin; refine Kd.R_append_rows (Kd.int .i64) (w0 := w) w.heap.size rfl (.tmp 70) (.tmp 71) 28 3 (.int .i64 0) 8 rfl Tryz.underlying28 info3 rfl (by decide) (by omega) v545 y544 x7_2 _ _ _ (fun k_ => some k_ ≠ (.slice Ao34 x7_2.length co34 : Value).ownBlock) (fun _ => False) rfl rfl ?aO ?aR (fun _ _ h => h) (fun _ h => h.elim) ?aF ?aB ?aS ?aL ?_; (case aR => exact Kd.C_below (Kd.R_reads' HO_7.out).2.2 pl); (case aB => exact pB); (case aF => exact (fun k_ hk => Kd.fresh' (Kd.R_lt (Kd.R_below HO_7.out pl)) k_ hk)); (case aO => exact (Kd.R_below (Kd.R_mono HO546.out (fun _ hk => hk.2)) pl)); (case aS => exact (below_size pB)); (case aL => have := LMc29.out; omega); intro v548 w33 ho hb hg hat; rw [<- Ny547.out] at ho; have HO549 := am ho; replace HO_7 := am (Kd.R_after (ok := (fun _ => True)) (Kd.R_below HO_7.out pl) hg hat); replace BK540 := am (blk_grown (g := gb540) (o := .cells #[.bool false, .slice none 0 0, .int .i64 0] 24 (0, 0)) (blk_below BK540.out pl) hg (Kd.R_ne HO546.out BK540.out (by decide))); replace BK543 := am (blk_grown (g := gb543) (o := .cells #[.bool ((bt a0 0) == 45), .slice none 0 0, .int .i64 x544002_2] 30 (0, 0)) (blk_below BK543.out pl) hg (Kd.R_ne HO546.out BK543.out (by decide))); replace HB := am hb; clear HO546 ho hb hg hat; have hnb35 := NB543_540.out; have hnc35 := NB540_543.out; obtain ⟨hcz36_0, hcz36_1, hcz36_2, hfz36_0, hfz36_1, hfz36_2⟩ := cEc BK543.out))
                 go_roundg kj14
                 case measure => have := HJ2.out; have := HK2.out; have := HJ14.out; omega
                 case rel => exact ⟨(y547), (true), (wrap64 (x9_2 + 1)), (wrap64 (x544002_2 - 1)), pR, pR, H', ⟨by have := HJ2.out; have := HK2.out; have := HJ14.out; omega⟩, ⟨by refine rp ?_; exact Kd.R_mono (Kd.R_far (p := ⟨gb543, 2, none⟩) (Kd.R_types HO549.out BK543.out (by decide)) (fun _ hk => hk.2) (.int .i64 (wrap64 (x544002_2 - 1)))) (fun _ hk => trivial)⟩, ⟨bf NB540_543.out BK540.out⟩, ⟨by refine bp ?_; refine blk_put (cs := #[.bool ((bt a0 0) == 45), .slice none 0 0, .int .i64 x544002_2]) ?_ 2 _ rfl; exact bp BK543.out⟩, ⟨pB⟩⟩
                ·replace c30 := Bool.eq_false_iff.mpr c30
                 subst c30
                 rw [if_neg (show ¬ (false = true) by decide)] at H
                 have H' := am H
                 clear H
                 have p24 : 0 <= (x9_2 : Int) := of_decide_eq_true pQ
                 have q24 : x9_2 < (a0.size : Int) := of_decide_eq_true pQ
                 have hx24 := bt_at a0 x9_2
                 replace p24 := eq_true p24
                 replace q24 := eq_true q24
                 have p26 : 0 <= (x9_2 : Int) := of_decide_eq_true pQ
                 have q26 : x9_2 < (a0.size : Int) := of_decide_eq_true pQ
                 have hx26 := bt_at a0 x9_2
                 replace p26 := eq_true p26
                 replace q26 := eq_true q26
                 have p28 : 0 <= (x9_2 : Int) := of_decide_eq_true pQ
                 have q28 : x9_2 < (a0.size : Int) := of_decide_eq_true pQ
                 have hx28 := bt_at a0 x9_2
                 replace p28 := eq_true p28
                 replace q28 := eq_true q28
                 go_wp2_with (first | ((with_reducible refine gd 70 ?_); (try (refine gate_guard (by rfl) ?_; dsimp only)); refine Kd.R_lit (Kd.int .i64) _ 3 ?hg (N := 70) ?hd (xs := ([((bt a0 x9_2) - 48) % 256] : List Int)) (inner := [.int .i64 (((bt a0 x9_2) - 48) % 256)]) (ok := fun _ => True) (okp := fun _ => True) ?hr ?hp (fun _ hk => hk) trivial (Below.refl _ _) (Nat.le_refl _) (by simp) ?_; (case hd => rfl); (case hg => rfl); (case hr => first | (go_simp; done) | (go_simp; rfl)); (case hp => exact (Reps.one (show Kd.M (Kd.int .i64) _ _ _ (((bt a0 x9_2) - 48) % 256) [.int .i64 (((bt a0 x9_2) - 48) % 256)] from rfl) (Reps.none _ _))); intro v545 w37 ho38 hb hg_ hnew_; clear hg_ hnew_; (first | rw [<- Ny544.out] at ho38 | (simp only [Int.reduceToNat] at ho38; rw [<- Ny544.out] at ho38)); have HO546 := am (Kd.R_lower (Kd.R_new' ho38 (Kd.R_lt (Kd.R_below HO_7.out pl))) (below_size pB)); replace HO_7 := reR HO_7 ho38 hb; replace BK540 := bb BK540 hb; replace BK543 := bb BK543 hb; replace HB := bS hb; clear hb ho38; obtain ⟨Ao40, co40, eo40⟩ := Kd.R_slice HO_7.out; subst eo40) | ((with_reducible refine gate_builtin (b := .append) (xs := #[.tmp 70, .tmp 71]) rfl ?_); (try (refine gate_guard (by rfl) ?_; dsimp only)); at_builtin; refine Kd.R_append_rows (Kd.int .i64) (w0 := w) w.heap.size rfl (.tmp 70) (.tmp 71) 28 3 (.int .i64 0) 8 rfl Tryz.underlying28 info3 rfl (by decide) (by omega) v545 y544 x7_2 _ _ _ (fun k_ => some k_ ≠ (.slice Ao40 x7_2.length co40 : Value).ownBlock) (fun _ => False) rfl rfl ?aO ?aR (fun _ _ h => h) (fun _ h => h.elim) ?aF ?aB ?aS ?aL ?_; (case aR => exact Kd.C_below (Kd.R_reads' HO_7.out).2.2 pl); (case aB => exact pB); (case aF => exact (fun k_ hk => Kd.fresh' (Kd.R_lt (Kd.R_below HO_7.out pl)) k_ hk)); (case aO => exact (Kd.R_below (Kd.R_mono HO546.out (fun _ hk => hk.2)) pl)); (case aS => exact (below_size pB)); (case aL => have := LMc29.out; omega); intro v548 w39 ho hb hg hat; rw [<- Ny547.out] at ho; have HO549 := am ho; replace HO_7 := am (Kd.R_after (ok := (fun _ => True)) (Kd.R_below HO_7.out pl) hg hat); replace BK540 := am (blk_grown (g := gb540) (o := .cells #[.bool false, .slice none 0 0, .int .i64 0] 24 (0, 0)) (blk_below BK540.out pl) hg (Kd.R_ne HO546.out BK540.out (by decide))); replace BK543 := am (blk_grown (g := gb543) (o := .cells #[.bool ((bt a0 0) == 45), .slice none 0 0, .int .i64 x544002_2] 30 (0, 0)) (blk_below BK543.out pl) hg (Kd.R_ne HO546.out BK543.out (by decide))); replace HB := am hb; clear HO546 ho hb hg hat))
                 go_roundg kj14
                 case measure => have := HJ2.out; have := HK2.out; have := HJ14.out; omega
                 case rel => exact ⟨(y547), (false), (wrap64 (x9_2 + 1)), (x544002_2), pR, pR, H', ⟨by have := HJ2.out; have := HK2.out; have := HJ14.out; omega⟩, ⟨by refine rp ?_; exact Kd.R_mono HO549.out (fun _ hk => trivial)⟩, ⟨blk_below BK540.out pl⟩, ⟨blk_below BK543.out pl⟩, ⟨pB⟩⟩
               ·rw [if_neg c29] at H
                exact absurd H (by simp)
            ·rw [if_neg c23] at H
             exact absurd H (by simp)
           ·rw [if_neg c22] at H
            exact absurd H (by simp)
          ·replace c21 := Bool.eq_false_iff.mpr c21
           subst c21
           rw [if_neg (show ¬ (false = true) by decide)] at H
           by_cases c41 : x9_2 < (a0.size : Int)
           ·rw [if_pos c41] at H
            have c41b0 : decide (x9_2 < (a0.size : Int)) = true := decide_eq_true c41
            clear c41
            have H' := am H
            clear H
            go_wp2
            go_loopg [9, 10, 11, 12] kj14 (fun kq v9 v10 v11 v12 w' => ∃ (x9_4 : Int) (x10_4 : Bool) (x11_4 : Int) (x12_4 : Int) (x541000_4 : Bool) (x541002_4 : Int), v9 = .int .i64 x9_4 /\ v10 = .bool x10_4 /\ v11 = .int .i64 x11_4 /\ v12 = .int .i64 x12_4 /\ Aside0 (bolterref02_Parse.l1 kq a0 x7_2 x9_4 x10_4 x11_4 x12_4 ((bt a0 0) == 45) x544002_2 = some (r1, r2, r3, r4)) /\ Aside0 (kq <= kj14) /\ Aside0 (Kd.R (Kd.int .i64) 3 w' w.heap.size (fun _ => True) u7 x7_2) /\ Aside0 (w'.heap[gb540]? = some (.cells #[.bool x541000_4, (.slice none 0 0), .int .i64 x541002_4] 24 (0, 0))) /\ Aside0 (w'.heap[gb543]? = some (.cells #[.bool ((bt a0 0) == 45), (.slice none 0 0), .int .i64 x544002_2] 30 (0, 0))) /\ Aside0 (Below w.heap.size w w'))
            case atStart => exact ⟨(wrap64 (x9_2 + 1)), (false), (0), (0), (false), (0), pR, pR, pR, pR, H', ⟨Nat.le_refl _⟩, ⟨by refine rp ?_; exact HO_7.out⟩, ⟨blk_below BK540.out pl⟩, ⟨blk_below BK543.out pl⟩, ⟨pB⟩⟩
            case round =>
             clear H'
             (try clear c6); (try clear c8); (try clear c8b0); (try clear c8b1); (try clear c10); (try clear c10b0); (try clear c10b1); (try clear p11); (try clear q11); (try clear hx11); (try clear qi11); (try clear c21); (try clear c41); (try clear c41b0); (try clear hcz14_0); (try clear hcz14_1); (try clear hcz14_2); (try clear hfz14_0); (try clear hfz14_1); (try clear hfz14_2); (try clear p11); (try clear q11)
             obtain ⟨x9_4, x10_4, x11_4, x12_4, x541000_4, x541002_4, rfl, rfl, rfl, rfl, HA, HK4, HO_7, BK540, BK543, HB⟩ := hrel
             cases gk with
             | zero => exact absurd HA.out (by simp [bolterref02_Parse.l1])
             | succ k4 =>
              have H := HA.out
              clear HA
              simp only [bolterref02_Parse.l1] at H
              by_cases c42 : x9_4 < (a0.size : Int)
              ·rw [if_pos c42] at H
               have c42b0 : decide (x9_4 < (a0.size : Int)) = true := decide_eq_true c42
               clear c42
               by_cases c43 : 0 <= x9_4
               ·rw [if_pos c43] at H
                have c43b0 : decide (0 <= x9_4) = true := decide_eq_true c43
                clear c43
                by_cases c45 : (bt a0 x9_4) = 45
                ·rw [if_pos c45] at H
                 have c45b0 : ((bt a0 x9_4) == 45) = true := beq_iff_eq.mpr c45
                 have c45b1 : ((bt a0 x9_4) != 45) = false := bne_eq_false_iff_eq.mpr c45
                 clear c45
                 have H' := am H
                 clear H
                 have p44 : 0 <= (x9_4 : Int) := of_decide_eq_true pQ
                 have q44 : x9_4 < (a0.size : Int) := of_decide_eq_true pQ
                 have hx44 := bt_at a0 x9_4
                 replace p44 := eq_true p44
                 replace q44 := eq_true q44
                 go_wp2
                 go_roundg k4
                 case measure => have := HJ2.out; have := HK2.out; have := HJ14.out; have := HK4.out; omega
                 case rel => exact ⟨(wrap64 (x9_4 + 1)), (true), (x11_4), (x12_4), (x541000_4), (x541002_4), pR, pR, pR, pR, H', ⟨by have := HJ2.out; have := HK2.out; have := HJ14.out; have := HK4.out; omega⟩, ⟨by refine rp ?_; exact HO_7.out⟩, ⟨blk_below BK540.out pl⟩, ⟨blk_below BK543.out pl⟩, ⟨pB⟩⟩
                ·rw [if_neg c45] at H
                 have c45b0 : ((bt a0 x9_4) == 45) = false := beq_eq_false_iff_ne.mpr c45
                 have c45b1 : ((bt a0 x9_4) != 45) = true := bne_iff_ne.mpr c45
                 by_cases c47 : (bt a0 x9_4) = 43
                 ·rw [if_pos c47] at H
                  have c47b0 : ((bt a0 x9_4) == 43) = true := beq_iff_eq.mpr c47
                  have c47b1 : ((bt a0 x9_4) != 43) = false := bne_eq_false_iff_eq.mpr c47
                  clear c47
                  have H' := am H
                  clear H
                  have p44 : 0 <= (x9_4 : Int) := of_decide_eq_true pQ
                  have q44 : x9_4 < (a0.size : Int) := of_decide_eq_true pQ
                  have hx44 := bt_at a0 x9_4
                  replace p44 := eq_true p44
                  replace q44 := eq_true q44
                  have p46 : 0 <= (x9_4 : Int) := of_decide_eq_true pQ
                  have q46 : x9_4 < (a0.size : Int) := of_decide_eq_true pQ
                  have hx46 := bt_at a0 x9_4
                  replace p46 := eq_true p46
                  replace q46 := eq_true q46
                  go_wp2
                  go_roundg k4
                  case measure => have := HJ2.out; have := HK2.out; have := HJ14.out; have := HK4.out; omega
                  case rel => exact ⟨(wrap64 (x9_4 + 1)), (x10_4), (x11_4), (x12_4), (x541000_4), (x541002_4), pR, pR, pR, pR, H', ⟨by have := HJ2.out; have := HK2.out; have := HJ14.out; have := HK4.out; omega⟩, ⟨by refine rp ?_; exact HO_7.out⟩, ⟨blk_below BK540.out pl⟩, ⟨blk_below BK543.out pl⟩, ⟨pB⟩⟩
                 ·rw [if_neg c47] at H
                  have c47b0 : ((bt a0 x9_4) == 43) = false := beq_eq_false_iff_ne.mpr c47
                  have c47b1 : ((bt a0 x9_4) != 43) = true := bne_iff_ne.mpr c47
                  have HC48 := am H
                  clear H
                  have p44 : 0 <= (x9_4 : Int) := of_decide_eq_true pQ
                  have q44 : x9_4 < (a0.size : Int) := of_decide_eq_true pQ
                  have hx44 := bt_at a0 x9_4
                  replace p44 := eq_true p44
                  replace q44 := eq_true q44
                  have p46 : 0 <= (x9_4 : Int) := of_decide_eq_true pQ
                  have q46 : x9_4 < (a0.size : Int) := of_decide_eq_true pQ
                  have hx46 := bt_at a0 x9_4
                  replace p46 := eq_true p46
                  replace q46 := eq_true q46
                  go_upto_region 26 with (fail)
                  go_cut [107] (fun v107 wc => ∃ (kq : Nat) (x107_47 : Bool), v107 = .bool x107_47 /\ Aside0 (bolterref02_Parse.j4 kq a0 x7_2 x9_4 x10_4 x11_4 x12_4 x107_47 ((bt a0 0) == 45) x544002_2 = some (r1, r2, r3, r4)) /\ Aside0 (kq <= k4) /\ Aside0 (Kd.R (Kd.int .i64) 3 wc w.heap.size (fun _ => True) u7 x7_2) /\ Aside0 (wc.heap[gb540]? = some (.cells #[.bool x541000_4, (.slice none 0 0), .int .i64 x541002_4] 24 (0, 0))) /\ Aside0 (wc.heap[gb543]? = some (.cells #[.bool ((bt a0 0) == 45), (.slice none 0 0), .int .i64 x544002_2] 30 (0, 0))) /\ Aside0 (Below w.heap.size w wc))
                  case first =>
                   have H := HC48.out
                   clear HC48
                   by_cases c49 : x11_4 > 0
                   ·rw [if_pos c49] at H
                    have c49b0 : decide (0 < x11_4) = true := decide_eq_true c49
                    clear c49
                    (first | rw [c49b0] | (simp only [i64_w, i32_w]; rw [c49b0]) | skip)
                    have H' := am H
                    clear H
                    go_wp2
                    go_meet
                    case rel => exact ⟨_, (true), pR, H', ⟨by have := HJ2.out; have := HK2.out; have := HJ14.out; have := HK4.out; first | omega | exact Nat.le_refl _⟩, ⟨by refine rp ?_; exact HO_7.out⟩, ⟨blk_below BK540.out pl⟩, ⟨blk_below BK543.out pl⟩, ⟨pB⟩⟩
                   ·rw [if_neg c49] at H
                    have c49b0 : decide (0 < x11_4) = false := decide_eq_false c49
                    clear c49
                    (first | rw [c49b0] | (simp only [i64_w, i32_w]; rw [c49b0]) | skip)
                    have H' := am H
                    clear H
                    have p50 : 0 <= (x9_4 : Int) := of_decide_eq_true pQ
                    have q50 : x9_4 < (a0.size : Int) := of_decide_eq_true pQ
                    have hx50 := bt_at a0 x9_4
                    replace p50 := eq_true p50
                    replace q50 := eq_true q50
                    go_wp2
                    go_meet
                    case rel => exact ⟨_, (((bt a0 x9_4) != 48)), pR, H', ⟨by have := HJ2.out; have := HK2.out; have := HJ14.out; have := HK4.out; first | omega | exact Nat.le_refl _⟩, ⟨by refine rp ?_; exact HO_7.out⟩, ⟨blk_below BK540.out pl⟩, ⟨blk_below BK543.out pl⟩, ⟨pB⟩⟩
                  case rest =>
                   clear HC48
                   (try clear c6); (try clear c8); (try clear c8b0); (try clear c8b1); (try clear c10); (try clear c10b0); (try clear c10b1); (try clear p11); (try clear q11); (try clear hx11); (try clear qi11); (try clear c21); (try clear c41); (try clear c41b0); (try clear c42); (try clear c42b0); (try clear c43); (try clear c43b0); (try clear p44); (try clear q44); (try clear hx44); (try clear c45); (try clear c45b0); (try clear c45b1); (try clear p46); (try clear q46); (try clear hx46); (try clear c47); (try clear c47b0); (try clear c47b1); (try clear hcz14_0); (try clear hcz14_1); (try clear hcz14_2); (try clear hfz14_0); (try clear hfz14_1); (try clear hfz14_2); (try clear p11); (try clear p44); (try clear p46); (try clear q11); (try clear q44); (try clear q46)
                   obtain ⟨kq, x107_47, rfl, HA, HJ47, HO_7, BK540, BK543, HB⟩ := hcut
                   cases kq with
                   | zero => exact absurd HA.out (by simp [bolterref02_Parse.j4])
                   | succ kj47 =>
                    have H := HA.out
                    clear HA
                    simp only [bolterref02_Parse.j4] at H
                    by_cases c51 : x107_47 = true
                    ·subst c51
                     rw [if_pos rfl] at H
                     by_cases c52 : (wrap64 (x12_4 + 1)) > 6
                     ·rw [if_pos c52] at H
                      have c52b0 : decide (6 < (wrap64 (x12_4 + 1))) = true := decide_eq_true c52
                      clear c52
                      simp only [Option.some.injEq, Prod.mk.injEq] at H
                      obtain ⟨rfl, rfl, rfl, rfl⟩ := H
                      have hnb53 := NB540_543.out
                      have hnc53 := NB543_540.out
                      obtain ⟨hcz54_0, hcz54_1, hcz54_2, hfz54_0, hfz54_1, hfz54_2⟩ := cEc BK540.out
                      go_wp2
                      refine bodyPost_ret (results_ct rfl _ _ gb540 24 #[.bool false, .slice none 0 0, .int .i64 0] (0, 0) _ rfl (by refine bp ?_; refine blk_put (cs := #[.bool false, .slice none 0 0, .int .i64 x541002_4]) ?_ 2 _ rfl; refine bp ?_; refine blk_put (cs := #[.bool false, .slice none 0 0, .int .i64 x541002_4]) ?_ 1 _ rfl; refine bp ?_; refine blk_put (cs := #[.bool x541000_4, .slice none 0 0, .int .i64 x541002_4]) ?_ 0 _ rfl; exact bp BK540.out) Tryz.underlying24 rfl (by kernel_rfl)) rfl ?_
                      exact ⟨_, pE, pN, pB⟩
                     ·rw [if_neg c52] at H
                      have c52b0 : decide (6 < (wrap64 (x12_4 + 1))) = false := decide_eq_false c52
                      clear c52
                      by_cases c55 : 0 <= x9_4
                      ·rw [if_pos c55] at H
                       have c55b0 : decide (0 <= x9_4) = true := decide_eq_true c55
                       clear c55
                       by_cases c56 : x9_4 < (a0.size : Int)
                       ·rw [if_pos c56] at H
                        have c56b0 : decide (x9_4 < (a0.size : Int)) = true := decide_eq_true c56
                        clear c56
                        have H' := am H
                        clear H
                        have p57 : 0 <= (x9_4 : Int) := of_decide_eq_true pQ
                        have q57 : x9_4 < (a0.size : Int) := of_decide_eq_true pQ
                        have hx57 := bt_at a0 x9_4
                        replace p57 := eq_true p57
                        replace q57 := eq_true q57
                        go_wp2
                        go_roundg kj47
                        case measure => have := HJ2.out; have := HK2.out; have := HJ14.out; have := HK4.out; have := HJ47.out; omega
                        case rel => exact ⟨(wrap64 (x9_4 + 1)), (x10_4), (wrap64 ((wrap64 (10 * x11_4)) + (((bt a0 x9_4) - 48) % 256))), (wrap64 (x12_4 + 1)), (x541000_4), (x541002_4), pR, pR, pR, pR, H', ⟨by have := HJ2.out; have := HK2.out; have := HJ14.out; have := HK4.out; have := HJ47.out; omega⟩, ⟨by refine rp ?_; exact HO_7.out⟩, ⟨blk_below BK540.out pl⟩, ⟨blk_below BK543.out pl⟩, ⟨pB⟩⟩
                       ·rw [if_neg c56] at H
                        exact absurd H (by simp)
                      ·rw [if_neg c55] at H
                       exact absurd H (by simp)
                    ·replace c51 := Bool.eq_false_iff.mpr c51
                     subst c51
                     rw [if_neg (show ¬ (false = true) by decide)] at H
                     by_cases c58 : x12_4 > 6
                     ·rw [if_pos c58] at H
                      have c58b0 : decide (6 < x12_4) = true := decide_eq_true c58
                      clear c58
                      simp only [Option.some.injEq, Prod.mk.injEq] at H
                      obtain ⟨rfl, rfl, rfl, rfl⟩ := H
                      have hnb59 := NB540_543.out
                      have hnc59 := NB543_540.out
                      obtain ⟨hcz60_0, hcz60_1, hcz60_2, hfz60_0, hfz60_1, hfz60_2⟩ := cEc BK540.out
                      go_wp2
                      refine bodyPost_ret (results_ct rfl _ _ gb540 24 #[.bool false, .slice none 0 0, .int .i64 0] (0, 0) _ rfl (by refine bp ?_; refine blk_put (cs := #[.bool false, .slice none 0 0, .int .i64 x541002_4]) ?_ 2 _ rfl; refine bp ?_; refine blk_put (cs := #[.bool false, .slice none 0 0, .int .i64 x541002_4]) ?_ 1 _ rfl; refine bp ?_; refine blk_put (cs := #[.bool x541000_4, .slice none 0 0, .int .i64 x541002_4]) ?_ 0 _ rfl; exact bp BK540.out) Tryz.underlying24 rfl (by kernel_rfl)) rfl ?_
                      exact ⟨_, pE, pN, pB⟩
                     ·rw [if_neg c58] at H
                      have c58b0 : decide (6 < x12_4) = false := decide_eq_false c58
                      clear c58
                      by_cases c61 : 0 <= x9_4
                      ·rw [if_pos c61] at H
                       have c61b0 : decide (0 <= x9_4) = true := decide_eq_true c61
                       clear c61
                       by_cases c62 : x9_4 < (a0.size : Int)
                       ·rw [if_pos c62] at H
                        have c62b0 : decide (x9_4 < (a0.size : Int)) = true := decide_eq_true c62
                        clear c62
                        have H' := am H
                        clear H
                        have p63 : 0 <= (x9_4 : Int) := of_decide_eq_true pQ
                        have q63 : x9_4 < (a0.size : Int) := of_decide_eq_true pQ
                        have hx63 := bt_at a0 x9_4
                        replace p63 := eq_true p63
                        replace q63 := eq_true q63
                        go_wp2
                        go_roundg kj47
                        case measure => have := HJ2.out; have := HK2.out; have := HJ14.out; have := HK4.out; have := HJ47.out; omega
                        case rel => exact ⟨(wrap64 (x9_4 + 1)), (x10_4), (wrap64 ((wrap64 (10 * x11_4)) + (((bt a0 x9_4) - 48) % 256))), (x12_4), (x541000_4), (x541002_4), pR, pR, pR, pR, H', ⟨by have := HJ2.out; have := HK2.out; have := HJ14.out; have := HK4.out; have := HJ47.out; omega⟩, ⟨by refine rp ?_; exact HO_7.out⟩, ⟨blk_below BK540.out pl⟩, ⟨blk_below BK543.out pl⟩, ⟨pB⟩⟩
                       ·rw [if_neg c62] at H
                        exact absurd H (by simp)
                      ·rw [if_neg c61] at H
                       exact absurd H (by simp)
               ·rw [if_neg c43] at H
                exact absurd H (by simp)
              ·rw [if_neg c42] at H
               have c42b0 : decide (x9_4 < (a0.size : Int)) = false := decide_eq_false c42
               clear c42
               by_cases c64 : x10_4 = true
               ·subst c64
                rw [if_pos rfl] at H
                obtain ⟨⟨t550, t551, t554, t555⟩, A65, H⟩ := ob H; (try dsimp only at H)
                simp only [Option.some.injEq, Prod.mk.injEq] at H
                obtain ⟨rfl, rfl, rfl, rfl⟩ := H
                have hnb66 := NB543_540.out
                have hnc66 := NB540_543.out
                obtain ⟨hcz67_0, hcz67_1, hcz67_2, hfz67_0, hfz67_1, hfz67_2⟩ := cEc BK543.out
                go_wp2_with (first | ((with_reducible refine gate_store (t := 3) (p := 128) rfl ?_); refine store_event (t := 3) (p := 128) (v := ?vo_w68) (w1 := (wr.setCell ⟨gb543, 2, none⟩ (.int .i64 (wrap64 (x544002_2 + (wrap64 (-x11_4))))))) ?hg ?ho ?hn ?hr ?_; (case ho => rfl); (case hg => rfl); (case hn => rfl); (case hr => first | (go_simp; done) | (go_simp; rfl)); intro w68 hw; replace HO_7 : Aside0 (Kd.R (Kd.int .i64) 3 w68 w.heap.size (fun _ => True) u7 x7_2) := ⟨(by rw [hw]; exact (Kd.R_below (Kd.R_mono (Kd.R_far (p := ⟨gb543, 2, none⟩) (Kd.R_types HO_7.out BK543.out (by decide)) (fun _ hk => hk.2) (.int .i64 (wrap64 (x544002_2 + (wrap64 (-x11_4)))))) (fun _ hk => trivial)) pl))⟩; replace BK540 : Aside0 (w68.heap[gb540]? = some (.cells #[.bool x541000_4, .slice none 0 0, .int .i64 x541002_4] 24 (0, 0))) := ⟨(by rw [hw]; exact (bf NB540_543.out BK540.out))⟩; replace BK543 : Aside0 (w68.heap[gb543]? = some (.cells #[.bool ((bt a0 0) == 45), .slice none 0 0, .int .i64 (wrap64 (x544002_2 + (wrap64 (-x11_4))))] 30 (0, 0))) := ⟨(by rw [hw]; exact (by refine bp ?_; refine blk_put (cs := #[.bool ((bt a0 0) == 45), .slice none 0 0, .int .i64 x544002_2]) ?_ 2 _ rfl; exact bp BK543.out))⟩; replace HB : Aside0 (Below w.heap.size w w68) := ⟨(by rw [hw]; exact pB)⟩; clear hw; obtain ⟨Ao69, co69, eo69⟩ := Kd.R_slice HO_7.out; subst eo69; obtain ⟨hcz70_0, hcz70_1, hcz70_2, hfz70_0, hfz70_1, hfz70_2⟩ := cEc BK543.out) | ((with_reducible refine gate_store (t := 28) (p := 130) rfl ?_); refine store_event (t := 28) (p := 130) (v := ?vo_w71) (w1 := (w68.setCell ⟨gb543, 1, none⟩ (.slice Ao69 x7_2.length co69))) ?hg ?ho ?hn ?hr ?_; (case ho => rfl); (case hg => rfl); (case hn => rfl); (case hr => first | (go_simp; done) | (go_simp; rfl)); intro w71 hw; replace HO_7 : Aside0 (Kd.R (Kd.int .i64) 3 w71 w.heap.size (fun _ => True) (.slice Ao69 x7_2.length co69) x7_2) := ⟨(by rw [hw]; exact (Kd.R_below (Kd.R_mono (Kd.R_far (p := ⟨gb543, 1, none⟩) (Kd.R_types HO_7.out BK543.out (by decide)) (fun _ hk => hk.2) (.slice Ao69 x7_2.length co69)) (fun _ hk => trivial)) pl))⟩; replace BK540 : Aside0 (w71.heap[gb540]? = some (.cells #[.bool x541000_4, .slice none 0 0, .int .i64 x541002_4] 24 (0, 0))) := ⟨(by rw [hw]; exact (bf NB540_543.out BK540.out))⟩; replace BK543 : Aside0 (w71.heap[gb543]? = some (.cells #[.bool ((bt a0 0) == 45), .slice Ao69 x7_2.length co69, .int .i64 (wrap64 (x544002_2 + (wrap64 (-x11_4))))] 30 (0, 0))) := ⟨(by rw [hw]; exact (by refine bp ?_; refine blk_put (cs := #[.bool ((bt a0 0) == 45), .slice none 0 0, .int .i64 (wrap64 (x544002_2 + (wrap64 (-x11_4))))]) ?_ 1 _ rfl; exact bp BK543.out))⟩; replace HB : Aside0 (Below w.heap.size w w71) := ⟨(by rw [hw]; exact pB)⟩; clear hw; obtain ⟨hcz72_0, hcz72_1, hcz72_2, hfz72_0, hfz72_1, hfz72_2⟩ := cEc BK543.out) | (refine gL (some 132) Tryz.func23 #[.agg #[.bool ((bt a0 0) == 45), .slice Ao69 x7_2.length co69, .int .i64 (wrap64 (x544002_2 + (wrap64 (-x11_4))))]] (h := ?_); (with_reducible refine (bolterref02_Made.calls k4 ((bt a0 0) == 45) (fun k_ => some k_ = (.slice Ao69 x7_2.length co69 : Value).ownBlock) (.slice Ao69 x7_2.length co69) x7_2 (wrap64 (x544002_2 + (wrap64 (-x11_4)))) t550 t551 t554 t555 w _ ?side1 ?side2 A65.out).mono ?_); (case side1 => exact pB); (case side2 => exact Kd.R_tight rfl HO_7.out); rintro e w73 ⟨v552, rfl, ho0, hb, hkp⟩; refine ⟨_, rfl, ?_⟩; have HO553 := am (Kd.R_mono (ok' := fun k_ => True) ho0 (fun k_ hk_ => trivial)); replace BK540 := am (blk_kept (blk_below BK540.out pl) hkp (fun hs_ => (fun e_ => (Kd.R_ne HO_7.out BK540.out (by decide)) e_) hs_)); replace BK543 := am (blk_kept (blk_below BK543.out pl) hkp (fun hs_ => (fun e_ => (Kd.R_ne HO_7.out BK543.out (by decide)) e_) hs_)); replace HB := am hb; clear HO_7; (try clear hb); (try clear hkp); (try clear ho0); obtain ⟨hcz74_0, hcz74_1, hcz74_2, hfz74_0, hfz74_1, hfz74_2⟩ := cEc BK540.out; obtain ⟨Ao75, co75, eo75⟩ := Kd.R_slice HO553.out; subst eo75))
                refine bodyPost_ret (results_ct rfl _ _ gb540 24 #[.bool t550, .slice Ao75 t551.length co75, .int .i64 t554] (0, 0) _ rfl (by refine bp ?_; refine blk_put (cs := #[.bool t550, .slice Ao75 t551.length co75, .int .i64 x541002_4]) ?_ 2 _ rfl; refine bp ?_; refine blk_put (cs := #[.bool t550, .slice none 0 0, .int .i64 x541002_4]) ?_ 1 _ rfl; refine bp ?_; refine blk_put (cs := #[.bool x541000_4, .slice none 0 0, .int .i64 x541002_4]) ?_ 0 _ rfl; exact bp BK540.out) Tryz.underlying24 rfl (by kernel_rfl)) rfl ?_
                exact ⟨_, pE, by refine rp ?_; exact Kd.R_mono (Kd.R_far (p := ⟨gb540, 2, none⟩) (Kd.R_far (p := ⟨gb540, 1, none⟩) (Kd.R_far (p := ⟨gb540, 0, none⟩) (Kd.R_types HO553.out BK540.out (by decide)) (fun _ hk => hk.2) (.bool t550)) (fun _ hk => hk.2) (.slice Ao75 t551.length co75)) (fun _ hk => hk.2) (.int .i64 t554)) (fun _ hk => trivial), pB⟩
               ·replace c64 := Bool.eq_false_iff.mpr c64
                subst c64
                rw [if_neg (show ¬ (false = true) by decide)] at H
                obtain ⟨⟨t556, t557, t560, t561⟩, A76, H⟩ := ob H; (try dsimp only at H)
                simp only [Option.some.injEq, Prod.mk.injEq] at H
                obtain ⟨rfl, rfl, rfl, rfl⟩ := H
                have hnb77 := NB543_540.out
                have hnc77 := NB540_543.out
                obtain ⟨hcz78_0, hcz78_1, hcz78_2, hfz78_0, hfz78_1, hfz78_2⟩ := cEc BK543.out
                go_wp2_with (first | ((with_reducible refine gate_store (t := 3) (p := 128) rfl ?_); refine store_event (t := 3) (p := 128) (v := ?vo_w79) (w1 := (wr.setCell ⟨gb543, 2, none⟩ (.int .i64 (wrap64 (x544002_2 + x11_4))))) ?hg ?ho ?hn ?hr ?_; (case ho => rfl); (case hg => rfl); (case hn => rfl); (case hr => first | (go_simp; done) | (go_simp; rfl)); intro w79 hw; replace HO_7 : Aside0 (Kd.R (Kd.int .i64) 3 w79 w.heap.size (fun _ => True) u7 x7_2) := ⟨(by rw [hw]; exact (Kd.R_below (Kd.R_mono (Kd.R_far (p := ⟨gb543, 2, none⟩) (Kd.R_types HO_7.out BK543.out (by decide)) (fun _ hk => hk.2) (.int .i64 (wrap64 (x544002_2 + x11_4)))) (fun _ hk => trivial)) pl))⟩; replace BK540 : Aside0 (w79.heap[gb540]? = some (.cells #[.bool x541000_4, .slice none 0 0, .int .i64 x541002_4] 24 (0, 0))) := ⟨(by rw [hw]; exact (bf NB540_543.out BK540.out))⟩; replace BK543 : Aside0 (w79.heap[gb543]? = some (.cells #[.bool ((bt a0 0) == 45), .slice none 0 0, .int .i64 (wrap64 (x544002_2 + x11_4))] 30 (0, 0))) := ⟨(by rw [hw]; exact (by refine bp ?_; refine blk_put (cs := #[.bool ((bt a0 0) == 45), .slice none 0 0, .int .i64 x544002_2]) ?_ 2 _ rfl; exact bp BK543.out))⟩; replace HB : Aside0 (Below w.heap.size w w79) := ⟨(by rw [hw]; exact pB)⟩; clear hw; obtain ⟨Ao80, co80, eo80⟩ := Kd.R_slice HO_7.out; subst eo80; obtain ⟨hcz81_0, hcz81_1, hcz81_2, hfz81_0, hfz81_1, hfz81_2⟩ := cEc BK543.out) | ((with_reducible refine gate_store (t := 28) (p := 130) rfl ?_); refine store_event (t := 28) (p := 130) (v := ?vo_w82) (w1 := (w79.setCell ⟨gb543, 1, none⟩ (.slice Ao80 x7_2.length co80))) ?hg ?ho ?hn ?hr ?_; (case ho => rfl); (case hg => rfl); (case hn => rfl); (case hr => first | (go_simp; done) | (go_simp; rfl)); intro w82 hw; replace HO_7 : Aside0 (Kd.R (Kd.int .i64) 3 w82 w.heap.size (fun _ => True) (.slice Ao80 x7_2.length co80) x7_2) := ⟨(by rw [hw]; exact (Kd.R_below (Kd.R_mono (Kd.R_far (p := ⟨gb543, 1, none⟩) (Kd.R_types HO_7.out BK543.out (by decide)) (fun _ hk => hk.2) (.slice Ao80 x7_2.length co80)) (fun _ hk => trivial)) pl))⟩; replace BK540 : Aside0 (w82.heap[gb540]? = some (.cells #[.bool x541000_4, .slice none 0 0, .int .i64 x541002_4] 24 (0, 0))) := ⟨(by rw [hw]; exact (bf NB540_543.out BK540.out))⟩; replace BK543 : Aside0 (w82.heap[gb543]? = some (.cells #[.bool ((bt a0 0) == 45), .slice Ao80 x7_2.length co80, .int .i64 (wrap64 (x544002_2 + x11_4))] 30 (0, 0))) := ⟨(by rw [hw]; exact (by refine bp ?_; refine blk_put (cs := #[.bool ((bt a0 0) == 45), .slice none 0 0, .int .i64 (wrap64 (x544002_2 + x11_4))]) ?_ 1 _ rfl; exact bp BK543.out))⟩; replace HB : Aside0 (Below w.heap.size w w82) := ⟨(by rw [hw]; exact pB)⟩; clear hw; obtain ⟨hcz83_0, hcz83_1, hcz83_2, hfz83_0, hfz83_1, hfz83_2⟩ := cEc BK543.out) | (refine gL (some 132) Tryz.func23 #[.agg #[.bool ((bt a0 0) == 45), .slice Ao80 x7_2.length co80, .int .i64 (wrap64 (x544002_2 + x11_4))]] (h := ?_); (with_reducible refine (bolterref02_Made.calls k4 ((bt a0 0) == 45) (fun k_ => some k_ = (.slice Ao80 x7_2.length co80 : Value).ownBlock) (.slice Ao80 x7_2.length co80) x7_2 (wrap64 (x544002_2 + x11_4)) t556 t557 t560 t561 w _ ?side1 ?side2 A76.out).mono ?_); (case side1 => exact pB); (case side2 => exact Kd.R_tight rfl HO_7.out); rintro e w84 ⟨v558, rfl, ho0, hb, hkp⟩; refine ⟨_, rfl, ?_⟩; have HO559 := am (Kd.R_mono (ok' := fun k_ => True) ho0 (fun k_ hk_ => trivial)); replace BK540 := am (blk_kept (blk_below BK540.out pl) hkp (fun hs_ => (fun e_ => (Kd.R_ne HO_7.out BK540.out (by decide)) e_) hs_)); replace BK543 := am (blk_kept (blk_below BK543.out pl) hkp (fun hs_ => (fun e_ => (Kd.R_ne HO_7.out BK543.out (by decide)) e_) hs_)); replace HB := am hb; clear HO_7; (try clear hb); (try clear hkp); (try clear ho0); obtain ⟨hcz85_0, hcz85_1, hcz85_2, hfz85_0, hfz85_1, hfz85_2⟩ := cEc BK540.out; obtain ⟨Ao86, co86, eo86⟩ := Kd.R_slice HO559.out; subst eo86))
                refine bodyPost_ret (results_ct rfl _ _ gb540 24 #[.bool t556, .slice Ao86 t557.length co86, .int .i64 t560] (0, 0) _ rfl (by refine bp ?_; refine blk_put (cs := #[.bool t556, .slice Ao86 t557.length co86, .int .i64 x541002_4]) ?_ 2 _ rfl; refine bp ?_; refine blk_put (cs := #[.bool t556, .slice none 0 0, .int .i64 x541002_4]) ?_ 1 _ rfl; refine bp ?_; refine blk_put (cs := #[.bool x541000_4, .slice none 0 0, .int .i64 x541002_4]) ?_ 0 _ rfl; exact bp BK540.out) Tryz.underlying24 rfl (by kernel_rfl)) rfl ?_
                exact ⟨_, pE, by refine rp ?_; exact Kd.R_mono (Kd.R_far (p := ⟨gb540, 2, none⟩) (Kd.R_far (p := ⟨gb540, 1, none⟩) (Kd.R_far (p := ⟨gb540, 0, none⟩) (Kd.R_types HO559.out BK540.out (by decide)) (fun _ hk => hk.2) (.bool t556)) (fun _ hk => hk.2) (.slice Ao86 t557.length co86)) (fun _ hk => hk.2) (.int .i64 t560)) (fun _ hk => trivial), pB⟩
           ·rw [if_neg c41] at H
            have c41b0 : decide (x9_2 < (a0.size : Int)) = false := decide_eq_false c41
            clear c41
            obtain ⟨⟨t562, t563, t566, t567⟩, A87, H⟩ := ob H; (try dsimp only at H)
            simp only [Option.some.injEq, Prod.mk.injEq] at H
            obtain ⟨rfl, rfl, rfl, rfl⟩ := H
            obtain ⟨Ao88, co88, eo88⟩ := Kd.R_slice HO_7.out
            subst eo88
            have hnb89 := NB543_540.out
            have hnc89 := NB540_543.out
            obtain ⟨hcz90_0, hcz90_1, hcz90_2, hfz90_0, hfz90_1, hfz90_2⟩ := cEc BK543.out
            go_wp2_with (first | ((with_reducible refine gate_store (t := 28) (p := 130) rfl ?_); refine store_event (t := 28) (p := 130) (v := ?vo_w91) (w1 := (wc.setCell ⟨gb543, 1, none⟩ (.slice Ao88 x7_2.length co88))) ?hg ?ho ?hn ?hr ?_; (case ho => rfl); (case hg => rfl); (case hn => rfl); (case hr => first | (go_simp; done) | (go_simp; rfl)); intro w91 hw; replace HO_7 : Aside0 (Kd.R (Kd.int .i64) 3 w91 w.heap.size (fun _ => True) (.slice Ao88 x7_2.length co88) x7_2) := ⟨(by rw [hw]; exact (Kd.R_below (Kd.R_mono (Kd.R_far (p := ⟨gb543, 1, none⟩) (Kd.R_types HO_7.out BK543.out (by decide)) (fun _ hk => hk.2) (.slice Ao88 x7_2.length co88)) (fun _ hk => trivial)) pl))⟩; replace BK540 : Aside0 (w91.heap[gb540]? = some (.cells #[.bool false, .slice none 0 0, .int .i64 0] 24 (0, 0))) := ⟨(by rw [hw]; exact (bf NB540_543.out BK540.out))⟩; replace BK543 : Aside0 (w91.heap[gb543]? = some (.cells #[.bool ((bt a0 0) == 45), .slice Ao88 x7_2.length co88, .int .i64 x544002_2] 30 (0, 0))) := ⟨(by rw [hw]; exact (by refine bp ?_; refine blk_put (cs := #[.bool ((bt a0 0) == 45), .slice none 0 0, .int .i64 x544002_2]) ?_ 1 _ rfl; exact bp BK543.out))⟩; replace HB : Aside0 (Below w.heap.size w w91) := ⟨(by rw [hw]; exact pB)⟩; clear hw; obtain ⟨hcz92_0, hcz92_1, hcz92_2, hfz92_0, hfz92_1, hfz92_2⟩ := cEc BK543.out) | (refine gL (some 132) Tryz.func23 #[.agg #[.bool ((bt a0 0) == 45), .slice Ao88 x7_2.length co88, .int .i64 x544002_2]] (h := ?_); (with_reducible refine (bolterref02_Made.calls kj14 ((bt a0 0) == 45) (fun k_ => some k_ = (.slice Ao88 x7_2.length co88 : Value).ownBlock) (.slice Ao88 x7_2.length co88) x7_2 x544002_2 t562 t563 t566 t567 w _ ?side1 ?side2 A87.out).mono ?_); (case side1 => exact pB); (case side2 => exact Kd.R_tight rfl HO_7.out); rintro e w93 ⟨v564, rfl, ho0, hb, hkp⟩; refine ⟨_, rfl, ?_⟩; have HO565 := am (Kd.R_mono (ok' := fun k_ => True) ho0 (fun k_ hk_ => trivial)); replace BK540 := am (blk_kept (blk_below BK540.out pl) hkp (fun hs_ => (fun e_ => (Kd.R_ne HO_7.out BK540.out (by decide)) e_) hs_)); replace BK543 := am (blk_kept (blk_below BK543.out pl) hkp (fun hs_ => (fun e_ => (Kd.R_ne HO_7.out BK543.out (by decide)) e_) hs_)); replace HB := am hb; clear HO_7; (try clear hb); (try clear hkp); (try clear ho0); obtain ⟨hcz94_0, hcz94_1, hcz94_2, hfz94_0, hfz94_1, hfz94_2⟩ := cEc BK540.out; obtain ⟨Ao95, co95, eo95⟩ := Kd.R_slice HO565.out; subst eo95))
            refine bodyPost_ret (results_ct rfl _ _ gb540 24 #[.bool t562, .slice Ao95 t563.length co95, .int .i64 t566] (0, 0) _ rfl (by refine bp ?_; refine blk_put (cs := #[.bool t562, .slice Ao95 t563.length co95, .int .i64 0]) ?_ 2 _ rfl; refine bp ?_; refine blk_put (cs := #[.bool t562, .slice none 0 0, .int .i64 0]) ?_ 1 _ rfl; refine bp ?_; refine blk_put (cs := #[.bool false, .slice none 0 0, .int .i64 0]) ?_ 0 _ rfl; exact bp BK540.out) Tryz.underlying24 rfl (by kernel_rfl)) rfl ?_
            exact ⟨_, pE, by refine rp ?_; exact Kd.R_mono (Kd.R_far (p := ⟨gb540, 2, none⟩) (Kd.R_far (p := ⟨gb540, 1, none⟩) (Kd.R_far (p := ⟨gb540, 0, none⟩) (Kd.R_types HO565.out BK540.out (by decide)) (fun _ hk => hk.2) (.bool t562)) (fun _ hk => hk.2) (.slice Ao95 t563.length co95)) (fun _ hk => hk.2) (.int .i64 t566)) (fun _ hk => trivial), pB⟩
     ·rw [if_neg c10] at H
      exact absurd H (by simp)
def bolterlaw02_Of.f (k : Nat) (a0 : ByteArray) : Option (Bool × List Int × Int) := (bolterref02_Parse.f k a0).bind fun bt569 => (some (bt569.1, bt569.2.1, bt569.2.2.1))
theorem bolterlaw02_Of.calls (k : Nat) (a0 : ByteArray) (r1 : Bool) (r2 : List Int) (r3 : Int) (w : World) (h : bolterlaw02_Of.f k a0 = some (r1, r2, r3)) :
  Calls Tryz.prog 62 #[.string a0] w fun e w' => ∃ v1_ : Value, e = .returned (.agg #[.bool r1, v1_, .int .i64 r3]) /\ Kd.R (Kd.int .u32) 85 w' w.heap.size (fun _ => True) v1_ r2 /\ Below w.heap.size w w' := by
 have hu24 := Tryz.underlying24
 have HB := am (Below.refl w.heap.size w)
 have H : ((bolterref02_Parse.f k a0).bind fun bt569 => (some (bt569.1, bt569.2.1, bt569.2.2.1))) = some (r1, r2, r3) := h
 clear h
 obtain ⟨⟨t569, t570, t573, t574⟩, A2, H⟩ := ob H; (try dsimp only at H)
 simp only [Option.some.injEq, Prod.mk.injEq] at H
 obtain ⟨rfl, rfl, rfl⟩ := H
 go_enter Tryz.func62, Tryz.ntmps62
 go_wp2_with (first | ((with_reducible refine gd 2 ?_); refine bx 2 #[.bool false, .slice none 0 0, .int .i64 0] 24 (h := ?_); intro gb568 hg w3 hbox hb; have BK568 := am hbox; have GW568 := gW hg; have GE568 := gW hg; replace HB := bS hb; clear hb hbox hg) | (refine gL (some 7) Tryz.func58 #[.string a0] (h := ?_); (with_reducible refine (bolterref02_Parse.calls k a0 t569 t570 t573 t574 _ A2.out).mono ?_); rintro e w4 ⟨v571, rfl, ho0, hb⟩; refine ⟨_, rfl, ?_⟩; have HO572 := am (Kd.R_lower ho0 (below_size pB)); replace BK568 := bb BK568 hb; replace HB := bS hb; (try clear hb); (try clear hb2); (try clear hk); (try clear hi); (try clear ho0)) | ((with_reducible refine gd 3 ?_); refine bx 3 #[.bool false, .slice none 0 0, .int .i64 0] 24 (h := ?_); intro gb575 hg w5 hbox hb; have BK575 := am hbox; have GW575 := gW hg; have GE575 := gW hg; have NB568_575 := nL hg BK568; have NB575_568 := nG hg BK568; replace HO572 := rbl HO572 hb; replace BK568 := bb BK568 hb; replace HB := bS hb; clear hb hbox hg; have hnb6 := NB575_568.out; have hnc6 := NB568_575.out; obtain ⟨hcz7_0, hcz7_1, hcz7_2, hfz7_0, hfz7_1, hfz7_2⟩ := cEc BK575.out; obtain ⟨Ao8, co8, eo8⟩ := Kd.R_slice HO572.out; subst eo8; obtain ⟨hcz9_0, hcz9_1, hcz9_2, hfz9_0, hfz9_1, hfz9_2⟩ := cEc BK568.out))
 refine bodyPost_ret (results_cell_row rfl _ _ gb568 24 #[.bool t569, .slice Ao8 t570.length co8, .int .i64 t573] (0, 0) _ rfl (by refine bp ?_; refine blk_put (cs := #[.bool t569, .slice Ao8 t570.length co8, .int .i64 0]) ?_ 2 _ rfl; refine bp ?_; refine blk_put (cs := #[.bool t569, .slice none 0 0, .int .i64 0]) ?_ 1 _ rfl; refine bp ?_; refine blk_put (cs := #[.bool false, .slice none 0 0, .int .i64 0]) ?_ 0 _ rfl; refine bp ?_; refine blk_far ?_ NB568_575.out _; refine bp ?_; refine blk_far ?_ NB568_575.out _; refine bp ?_; refine blk_far ?_ NB568_575.out _; exact bp BK568.out) Tryz.underlying24 rfl (by kernel_rfl)) rfl ?_
 exact ⟨_, pE, by refine rp ?_; exact Kd.R_mono (Kd.R_far (p := ⟨gb568, 2, none⟩) (Kd.R_far (p := ⟨gb568, 1, none⟩) (Kd.R_far (p := ⟨gb568, 0, none⟩) (Kd.R_far (p := ⟨gb575, 2, none⟩) (Kd.R_far (p := ⟨gb575, 1, none⟩) (Kd.R_far (p := ⟨gb575, 0, none⟩) (Kd.R_types (Kd.R_types HO572.out BK575.out (by decide)) BK568.out (by decide)) (fun _ hk => hk.1.2) (.bool t569)) (fun _ hk => hk.1.2) (.slice Ao8 t570.length co8)) (fun _ hk => hk.1.2) (.int .i64 t573)) (fun _ hk => hk.2) (.bool t569)) (fun _ hk => hk.2) (.slice Ao8 t570.length co8)) (fun _ hk => hk.2) (.int .i64 t573)) (fun _ hk => trivial), pB⟩
end YtjbjkmccfocikaaGreatDoor.B
end
section
namespace YtjbjkmccfocikaaGreatDoor.P.Nm
open Go.RowKit YtjbjkmccfocikaaGreatDoorW.PrintWords YtjbjkmccfocikaaGreatDoor.B YtjbjkmccfocikaaGreatDoor.P
theorem Same_self (D : Dm) (h : nd D.n <= 1000000) : Tells (fun k => bolterref02_Same.f k D.neg (limbs D.n) D.e D.neg (limbs D.n) D.e) true := (Same_D D D h).val (decide_eq_true rfl)
end YtjbjkmccfocikaaGreatDoor.P.Nm
end
section
namespace YtjbjkmccfocikaaGreatDoor.P.Nm
theorem settle_zero (s : Bool) (e : Int) : settleD ⟨s, 0, e⟩ = (zeroD, 0) := by unfold settleD; rw [if_pos rfl]
end YtjbjkmccfocikaaGreatDoor.P.Nm
end
section
namespace YtjbjkmccfocikaaGreatDoor.B
open Go.RowKit YtjbjkmccfocikaaGreatDoorW.PrintWords YtjbjkmccfocikaaGreatDoorW.PrintLast YtjbjkmccfocikaaGreatDoorW.PrintMore
attribute [local go_sem] max2_int min2_int max_two min_two max_three min_three max_four min_four
def quot_ask.f (k : Nat) (l0 : List (S24)) : Option (Int) := (quot_ask_any.f k l0).bind fun t297 => (if t297 = true then (some 9) else (some 0))
theorem quot_ask.calls (k : Nat) (A0 : Option Addr) (c0 : Nat) (l0 : List (S24)) (r : Int) (w : World) (hr0 : Kd.C k24 w A0 l0.length l0) (hc0 : l0.length <= c0) (h : quot_ask.f k l0 = some r) :
  Calls Tryz.prog 67 #[.slice A0 l0.length c0] w fun e w' => e = .returned (.int .i64 r) /\ Below w.heap.size w w' := by
 have HR0 := am hr0
 have HC0 := am hc0
 clear hr0 hc0
 have HB := am (Below.refl w.heap.size w)
 have H : ((quot_ask_any.f k l0).bind fun t297 => (if t297 = true then (some 9) else (some 0))) = some r := h
 clear h
 obtain ⟨t297, A2, H⟩ := ob H
 by_cases c3 : t297 = true
 ·subst c3
  rw [if_pos rfl] at H
  obtain rfl := Option.some.inj H
  go_enter Tryz.func67, Tryz.ntmps67
  go_wp2_with (first | (refine gL (some 4) Tryz.func123 #[.slice A0 l0.length c0, .func (.func 124) #[] #[]] (h := ?_); (with_reducible refine (quot_ask_any.calls k _ _ l0 true _ ?side1 ?side2 A2.out).mono ?_); (case side1 => refine cp ?_; exact HR0.out); (case side2 => exact HC0.out); rintro e w4 ⟨rfl, hb⟩; refine ⟨_, rfl, ?_⟩; replace HB := bS hb; (try clear hb); (try clear hb2); (try clear hk); (try clear hi)))
  go_ret
  exact ⟨pE, pB⟩
 ·replace c3 := Bool.eq_false_iff.mpr c3
  subst c3
  rw [if_neg (show ¬ (false = true) by decide)] at H
  obtain rfl := Option.some.inj H
  go_enter Tryz.func67, Tryz.ntmps67
  go_wp2_with (first | (refine gL (some 4) Tryz.func123 #[.slice A0 l0.length c0, .func (.func 124) #[] #[]] (h := ?_); (with_reducible refine (quot_ask_any.calls k _ _ l0 false _ ?side1 ?side2 A2.out).mono ?_); (case side1 => refine cp ?_; exact HR0.out); (case side2 => exact HC0.out); rintro e w5 ⟨rfl, hb⟩; refine ⟨_, rfl, ?_⟩; replace HB := bS hb; (try clear hb); (try clear hb2); (try clear hk); (try clear hi)))
  go_ret
  exact ⟨pE, pB⟩
def quot_first_string.f (a0 : ByteArray) (a1 : Int) : Option (ByteArray) := some a0
theorem quot_first_string.calls (a0 : ByteArray) (a1 : Int) (r : ByteArray) (w : World) (h : quot_first_string.f a0 a1 = some r) :
  Calls Tryz.prog 125 #[.string a0, .int .i64 a1] w fun e w' => e = .returned (.string r) /\ Drawn0 w w' := by
 have H : (some a0) = some r := h
 clear h
 obtain rfl := Option.some.inj H
 go_enter Tryz.func125, Tryz.ntmps125
 go_wp2
 go_ret
 exact ⟨pR, pD⟩
def quot_digits.f (k : Nat) (l0 : List Int) : Option (Int) := (nat_Print.f k l0).bind fun bt298 => ((quot_first_string.f bt298.1 bt298.2).bind fun t300 => (some (t300.size : Int)))
theorem quot_digits.calls (k : Nat) (A0 : Option Addr) (c0 : Nat) (l0 : List Int) (r : Int) (w : World) (hr0 : Kd.C (Kd.int .u32) w A0 l0.length l0) (hc0 : l0.length <= c0) (h : quot_digits.f k l0 = some r) :
  Calls Tryz.prog 68 #[.slice A0 l0.length c0] w fun e w' => e = .returned (.int .i64 r) /\ Below w.heap.size w w' := by
 have HR0 := am hr0
 have HC0 := am hc0
 clear hr0 hc0
 have HB := am (Below.refl w.heap.size w)
 have H : ((nat_Print.f k l0).bind fun bt298 => ((quot_first_string.f bt298.1 bt298.2).bind fun t300 => (some (t300.size : Int)))) = some r := h
 clear h
 obtain ⟨⟨t298, t299⟩, A2, H⟩ := ob H; (try dsimp only at H)
 obtain ⟨t300, A3, H⟩ := ob H
 obtain rfl := Option.some.inj H
 go_enter Tryz.func68, Tryz.ntmps68
 go_wp2_with (first | (refine gL (some 4) Tryz.func112 #[.slice A0 l0.length c0] (h := ?_); (with_reducible refine (nat_Print.calls k (fun k_ => k_ < w.heap.size) _ _ l0 t298 t299 _ ?side1 A2.out).mono ?_); (case side1 => exact Kd.V_mk HC0.out (Kd.F_below (Kd.C_F (Kd.heap_int .u32) HR0.out) pB)); rintro e w4 ⟨rfl, hb⟩; refine ⟨_, rfl, ?_⟩; replace HB := bS hb; (try clear hb); (try clear hb2); (try clear hk); (try clear hi)) | (refine gL (some 7) Tryz.func125 #[.string t298, .int .i64 t299] (h := ?_); (with_reducible refine (quot_first_string.calls t298 t299 t300 _ A3.out).mono ?_); rintro e w' ⟨rfl, ⟨nd, rfl⟩⟩; refine ⟨_, rfl, ?_⟩))
 go_ret
 exact ⟨pE, pB⟩
def quot_first_uint32.f (l0 : List Int) (a1 : Int) : Option (List Int) := some l0
theorem quot_first_uint32.calls (P0_ : Nat -> Prop) (u9000_ : Value) (l0 : List Int) (a1 : Int) (r : List Int) (w0 w : World) (hB : Below w0.heap.size w0 w) (ho0 : Kd.R (Kd.int .u32) 85 w w0.heap.size P0_ u9000_ l0) (h : quot_first_uint32.f l0 a1 = some r) :
  Calls Tryz.prog 70 #[u9000_, .int .i64 a1] w fun e w' => ∃ v0_ : Value, e = .returned (v0_) /\ Kd.R (Kd.int .u32) 85 w' w0.heap.size (fun k_ => (P0_ k_ \/ w.heap.size <= k_)) v0_ r /\ Below w0.heap.size w0 w' /\ Kept w w' (fun k_ => P0_ k_) := by
 have HO0 := am (show Kd.R (Kd.int .u32) 85 w w0.heap.size (fun k_ => (P0_ k_ \/ w.heap.size <= k_)) u9000_ l0 from Kd.R_mono ho0 (fun k_ hk => (.inl hk)))
 have HK := am (Kept.refl w (fun k_ => P0_ k_))
 have HW0 := am hB.size
 have HB := am hB
 clear hB
 have H : (some l0) = some r := h
 clear h
 obtain rfl := Option.some.inj H
 go_enter Tryz.func70, Tryz.ntmps70
 go_wp2
 go_ret
 exact ⟨_, pE, by refine rp ?_; exact HO0.out, pB, by repeat (first | (with_reducible first | exact HK.out | apply Kept.alloc | apply Kept.drewN | apply Kept.drew) | exact HK.out)⟩
def quot_pow.f (k : Nat) (a0 : Int) : Option (List Int) := (nat_Pow.f k a0).bind fun bt327 => ((quot_first_uint32.f bt327.1 bt327.2).bind fun t331 => (some t331))
theorem quot_pow.calls (k : Nat) (a0 : Int) (r : List Int) (w : World) (h : quot_pow.f k a0 = some r) :
  Calls Tryz.prog 72 #[.int .i64 a0] w fun e w' => ∃ v0_ : Value, e = .returned (v0_) /\ Kd.R (Kd.int .u32) 85 w' w.heap.size (fun _ => True) v0_ r /\ Below w.heap.size w w' := by
 have HB := am (Below.refl w.heap.size w)
 have H : ((nat_Pow.f k a0).bind fun bt327 => ((quot_first_uint32.f bt327.1 bt327.2).bind fun t331 => (some t331))) = some r := h
 clear h
 obtain ⟨⟨t327, t328⟩, A2, H⟩ := ob H; (try dsimp only at H)
 obtain ⟨t331, A3, H⟩ := ob H
 obtain rfl := Option.some.inj H
 go_enter Tryz.func72, Tryz.ntmps72
 go_wp2_with (first | (refine gL (some 4) Tryz.func130 #[.int .i64 a0] (h := ?_); (with_reducible refine (nat_Pow.calls k a0 t327 t328 _ A2.out).mono ?_); rintro e w4 ⟨v329, rfl, ho0, hb⟩; refine ⟨_, rfl, ?_⟩; have HO330 := am (Kd.R_lower ho0 (below_size pB)); replace HB := bS hb; (try clear hb); (try clear hb2); (try clear hk); (try clear hi); (try clear ho0); obtain ⟨Ao5, co5, eo5⟩ := Kd.R_slice HO330.out; subst eo5) | (refine gL (some 7) Tryz.func70 #[.slice Ao5 t327.length co5, .int .i64 t328] (h := ?_); (with_reducible refine (quot_first_uint32.calls (fun k_ => some k_ = (.slice Ao5 t327.length co5 : Value).ownBlock) (.slice Ao5 t327.length co5) t327 t328 t331 w _ ?side1 ?side2 A3.out).mono ?_); (case side1 => exact pB); (case side2 => exact Kd.R_tight rfl HO330.out); rintro e w6 ⟨v332, rfl, ho0, hb, hkp⟩; refine ⟨_, rfl, ?_⟩; have HO333 := am (Kd.R_mono (ok' := fun k_ => True) ho0 (fun k_ hk_ => trivial)); replace HB := am hb; clear HO330; (try clear hb); (try clear hkp); (try clear ho0)))
 go_ret
 exact ⟨_, pE, by refine rp ?_; exact HO333.out, pB⟩
def quot_parted.f (k : Nat) (l0 : List Int) (a1 : Int) : Option (List Int × List Int × Int) := (quot_digits.f k l0).bind fun t334 => ((quot_pow.f k (mx (wrap64 (t334 - a1)) 0)).bind fun t335 => ((nat_Div.f k l0 t335).bind fun bt338 => (some (bt338.1, bt338.2.1, mx (wrap64 (t334 - a1)) 0))))
theorem quot_parted.calls (k : Nat) (A0 : Option Addr) (c0 : Nat) (l0 : List Int) (a1 : Int) (r1 : List Int) (r2 : List Int) (r3 : Int) (w : World) (hr0 : Kd.C (Kd.int .u32) w A0 l0.length l0) (hc0 : l0.length <= c0) (h : quot_parted.f k l0 a1 = some (r1, r2, r3)) :
  Calls Tryz.prog 73 #[.slice A0 l0.length c0, .int .i64 a1] w fun e w' => ∃ v0_ v1_ : Value, e = .returned (.tuple #[v0_, v1_, .int .i64 r3]) /\ Kd.R (Kd.int .u32) 85 w' w.heap.size (fun k_ => some k_ ≠ (v1_ : Value).ownBlock) v0_ r1 /\ Kd.R (Kd.int .u32) 85 w' w.heap.size (fun k_ => some k_ ≠ (v0_ : Value).ownBlock) v1_ r2 /\ Below w.heap.size w w' := by
 have HR0 := am hr0
 have HC0 := am hc0
 clear hr0 hc0
 have HB := am (Below.refl w.heap.size w)
 have H : ((quot_digits.f k l0).bind fun t334 => ((quot_pow.f k (mx (wrap64 (t334 - a1)) 0)).bind fun t335 => ((nat_Div.f k l0 t335).bind fun bt338 => (some (bt338.1, bt338.2.1, mx (wrap64 (t334 - a1)) 0))))) = some (r1, r2, r3) := h
 clear h
 obtain ⟨t334, A3, H⟩ := ob H
 obtain ⟨ji4, hji4⟩ : ∃ j_ : Int, (mx (wrap64 (t334 - a1)) 0) = j_ := ⟨_, rfl⟩
 replace H : ((quot_pow.f k (ji4)).bind fun t335 => ((nat_Div.f k l0 t335).bind fun bt338 => (some (bt338.1, bt338.2.1, ji4)))) = some (r1, r2, r3) := by first | (rw [hji4] at H; exact H) | (simp only [hji4] at H ⊢; exact H)
 (try rw [hji4] at A3)
 (try (have hji4l : 0 <= ji4 := by (rw [<- hji4]; unfold mx; (repeat' split) <;> omega)))
 (try (have hji4m : 0 <= ji4 := by omega))
 have hji4_ : (if (wrap64 (t334 - a1)) < 0 then 0 else (wrap64 (t334 - a1))) = ji4 := hji4
 obtain ⟨t335, A5, H⟩ := ob H
 obtain ⟨⟨t338, t339, t340⟩, A6, H⟩ := ob H; (try dsimp only at H)
 simp only [Option.some.injEq, Prod.mk.injEq] at H
 obtain ⟨rfl, rfl, rfl⟩ := H
 go_enter Tryz.func73, Tryz.ntmps73
 go_wp2_with (first | (refine gL (some 8) Tryz.func68 #[.slice A0 l0.length c0] (h := ?_); (with_reducible refine (quot_digits.calls k _ _ l0 t334 _ ?side1 ?side2 A3.out).mono ?_); (case side1 => refine cp ?_; exact HR0.out); (case side2 => exact HC0.out); rintro e w7 ⟨rfl, hb⟩; refine ⟨_, rfl, ?_⟩; replace HB := bS hb; (try clear hb); (try clear hb2); (try clear hk); (try clear hi)) | ((with_reducible refine gate_callee (f := 72) rfl ?_); refine goesL_ (some 15) rfl rfl Tryz.func72 (by kernel_rfl) rfl #[.int .i64 ji4] rfl (by (try simp only [List.map_toArray, List.map_cons, List.map_nil]); first | done | (simp only [hji4]; rfl) | rfl | (simp only [List.length_drop, List.length_take]; rfl)) ?_; (with_reducible refine (quot_pow.calls k ji4 t335 _ A5.out).mono ?_); rintro e w8 ⟨v336, rfl, ho0, hb⟩; refine ⟨_, rfl, ?_⟩; have HO337 := am (Kd.R_lower ho0 (below_size pB)); replace HB := bS hb; (try clear hb); (try clear hb2); (try clear hk); (try clear hi); (try clear ho0); obtain ⟨Ao9, co9, eo9⟩ := Kd.R_slice HO337.out; subst eo9) | (refine gL (some 16) Tryz.func69 #[.slice A0 l0.length c0, .slice Ao9 t335.length co9] (h := ?_); (with_reducible refine (nat_Div.calls k _ _ l0 _ _ t335 t338 t339 t340 _ ?side1 ?side2 ?side3 ?side4 A6.out).mono ?_); (case side1 => refine cp ?_; exact (Kd.C_below HR0.out HB.out)); (case side2 => exact HC0.out); (case side3 => exact Kd.C_below (Kd.R_reads' HO337.out).2.2 pl); (case side4 => exact (Kd.R_reads' HO337.out).2.1); rintro e w10 ⟨v341, v343, rfl, ho0, ho1, hb⟩; refine ⟨_, rfl, ?_⟩; have HO342 := am (Kd.R_lower (Kd.R_new' ho0 (Kd.R_lt (Kd.R_below HO337.out pl))) (below_size pB)); have HO344 := am (Kd.R_lower (Kd.R_new' ho1 (Kd.R_lt (Kd.R_below HO337.out pl))) (below_size pB)); replace HO337 := am (Kd.R_mono (Kd.R_told (Kd.R_told (Kd.R_old (Kd.R_below HO337.out pl) hb) (Kd.R_base ho0)) (Kd.R_base ho1)) (fun _ h_ => h_.1)); replace HB := bS hb; (try clear hb); (try clear hb2); (try clear hk); (try clear hi); (try clear ho0); (try clear ho1)))
 go_ret3
 exact ⟨_, _, by first | rfl | (simp [errW_none, errW_some] <;> rfl) | (simp only [<- hji4]; first | rfl | (simp [errW_none, errW_some] <;> rfl)) | (simp [*, errW_none, errW_some] <;> rfl), by refine rp ?_; exact Kd.R_mono HO342.out (fun _ hk => hk.1), by refine rp ?_; exact Kd.R_mono HO344.out (fun _ hk => hk.1), pB⟩
def quot_upward.f (k : Nat) (l0 : List Int) (l1 : List Int) (a2 : Int) (a3 : Bool) : Option (Bool) := if a2 = 0 then (some false) else ((quot_pow.f k (wrap64 (a2 - 1))).bind fun t356 => ((nat_From.f k 5).bind fun t359 => ((nat_Mul.f k t356 t359).bind fun bt362 => ((quot_first_uint32.f bt362.1 bt362.2).bind fun t366 => ((nat_Compare.f k l1 t366).bind fun bt369 => (if (l0.length : Int) > 0 then (if 0 < (l0.length : Int) then (if bt369.1 > 0 then (some true) else (if bt369.1 = 0 then (if a3 = true then (some true) else (some ((Int.tmod (rd l0 0) 2) == 1))) else (some false))) else (none)) else (if bt369.1 > 0 then (some true) else (if bt369.1 = 0 then (if a3 = true then (some true) else (some false)) else (some false)))))))))
theorem quot_upward.leaf {P : Prop} (h : P := by
 go_enter Tryz.func74, Tryz.ntmps74
 go_wp2_with (first | (refine gL (some 17) Tryz.func72 #[.int .i64 (wrap64 (a2 - 1))] (h := ?_); (with_reducible refine (quot_pow.calls k (wrap64 (a2 - 1)) t356 _ A6.out).mono ?_); rintro e w0z ⟨v1z, rfl, ho2z, hb⟩; refine ⟨_, rfl, ?_⟩; have HO3z := am (Kd.R_lower ho2z (below_size pB)); replace HB := bS hb; (try clear hb); (try clear hb4z); (try clear hk); (try clear hi); (try clear ho2z)) | (refine gL (some 18) Tryz.func76 #[.int .u64 5] (h := ?_); (with_reducible refine (nat_From.calls k 5 t359 _ A7.out).mono ?_); rintro e w5z ⟨v6z, rfl, ho2z, hb⟩; refine ⟨_, rfl, ?_⟩; have HO7z := am (Kd.R_lower (Kd.R_new' ho2z (Kd.R_lt (Kd.R_below HO3z.out pl))) (below_size pB)); replace HO3z := reR HO3z ho2z hb; replace HB := bS hb; (try clear hb); (try clear hb4z); (try clear hk); (try clear hi); (try clear ho2z); obtain ⟨Ao8z, co9z, eo10z⟩ := Kd.R_slice HO3z.out; subst eo10z; obtain ⟨Ao11z, co12z, eo13z⟩ := Kd.R_slice HO7z.out; subst eo13z) | (refine gL (some 19) Tryz.func71 #[.slice Ao8z t356.length co9z, .slice Ao11z t359.length co12z] (h := ?_); (with_reducible refine (nat_Mul.calls k _ _ t356 _ _ t359 t362 t363 _ ?side1 ?side2 ?side3 ?side4 A8.out).mono ?_); (case side1 => exact Kd.C_below (Kd.R_reads' HO3z.out).2.2 pl); (case side2 => exact (Kd.R_reads' HO3z.out).2.1); (case side3 => exact Kd.C_below (Kd.R_reads' HO7z.out).2.2 pl); (case side4 => exact (Kd.R_reads' HO7z.out).2.1); rintro e w14z ⟨v15z, rfl, ho2z, hb⟩; refine ⟨_, rfl, ?_⟩; have HO16z := am (Kd.R_lower (Kd.R_new' (Kd.R_new' ho2z (Kd.R_lt (Kd.R_below HO3z.out pl))) (Kd.R_lt (Kd.R_below HO7z.out pl))) (below_size pB)); replace HO3z := reR HO3z ho2z hb; replace HO7z := reR HO7z ho2z hb; replace HB := bS hb; (try clear hb); (try clear hb4z); (try clear hk); (try clear hi); (try clear ho2z); obtain ⟨Ao17z, co18z, eo19z⟩ := Kd.R_slice HO16z.out; subst eo19z) | (refine gL (some 22) Tryz.func70 #[.slice Ao17z t362.length co18z, .int .i64 t363] (h := ?_); (with_reducible refine (quot_first_uint32.calls (fun k_ => some k_ = (.slice Ao17z t362.length co18z : Value).ownBlock) (.slice Ao17z t362.length co18z) t362 t363 t366 w _ ?side1 ?side2 A9.out).mono ?_); (case side1 => exact pB); (case side2 => exact Kd.R_tight rfl HO16z.out); rintro e w20z ⟨v21z, rfl, ho2z, hb, hkp⟩; refine ⟨_, rfl, ?_⟩; have HO22z := am (Kd.R_mono (ok' := fun k_ => some k_ ≠ (.slice Ao8z t356.length co9z : Value).ownBlock /\ some k_ ≠ (.slice Ao11z t359.length co12z : Value).ownBlock) ho2z (fun k_ hk_ => ⟨Or.elim hk_ (fun hs_ => fun e_ => (((HO3z.out).1 k_ e_.symm).2) hs_) (fun hn_ => (Kd.fresh' (Kd.R_lt (Kd.R_below HO3z.out pl)) k_ hn_)), Or.elim hk_ (fun hs_ => fun e_ => (((HO7z.out).1 k_ e_.symm).2) hs_) (fun hn_ => (Kd.fresh' (Kd.R_lt (Kd.R_below HO7z.out pl)) k_ hn_))⟩)); replace HO3z := am (Kd.R_mono (ok' := fun k_ => some k_ ≠ (.slice Ao11z t359.length co12z : Value).ownBlock /\ some k_ ≠ (v21z : Value).ownBlock) (Kd.R_keptB (HO3z.out) hkp (fun k_ hk_ hs_ => (hk_.2) hs_)) (fun k_ hk_ => ⟨hk_.1.1.2, fun e_ => Or.elim (ho2z.1 k_ e_.symm) (fun hs_ => hk_.2.1 hs_) (fun hn_ => Nat.not_le.2 hk_.2.2 hn_)⟩)); replace HO7z := am (Kd.R_mono (ok' := fun k_ => some k_ ≠ (.slice Ao8z t356.length co9z : Value).ownBlock /\ some k_ ≠ (v21z : Value).ownBlock) (Kd.R_keptB (HO7z.out) hkp (fun k_ hk_ hs_ => (hk_.2) hs_)) (fun k_ hk_ => ⟨hk_.1.1.2, fun e_ => Or.elim (ho2z.1 k_ e_.symm) (fun hs_ => hk_.2.1 hs_) (fun hn_ => Nat.not_le.2 hk_.2.2 hn_)⟩)); replace HB := am hb; clear HO16z; (try clear hb); (try clear hkp); (try clear ho2z); obtain ⟨Ao23z, co24z, eo25z⟩ := Kd.R_slice HO22z.out; subst eo25z) | ((have q_ : decide (0 < l0.length) = true := c12b1; clear q_); refine gL (some 26) Tryz.func90 #[.slice A1 l1.length c1, .slice Ao23z t366.length co24z] (h := ?_); (with_reducible refine (nat_Compare.calls k _ _ l1 _ _ t366 t369 t370 _ ?side1 ?side2 ?side3 ?side4 A10.out).mono ?_); (case side1 => refine cp ?_; exact (Kd.C_below HR1.out HB.out)); (case side2 => exact HC1.out); (case side3 => exact Kd.C_below (Kd.R_reads' HO22z.out).2.2 pl); (case side4 => exact (Kd.R_reads' HO22z.out).2.1); rintro e w26z ⟨rfl, hb⟩; refine ⟨_, rfl, ?_⟩; replace HO3z := rbl HO3z hb; replace HO7z := rbl HO7z hb; replace HO22z := rbl HO22z hb; replace HB := bS hb; (try clear hb); (try clear hb4z); (try clear hk); (try clear hi); have p27z : 0 <= (0 : Int) := (by omega); have q28z : 0 < (l0.length : Int) := of_decide_eq_true pQ; obtain ⟨ad29z, e30z, hx31z⟩ := Kd.at_int HR0.out 0 p27z q28z; cases e30z; have qi32z : (0 < l0.length) = True := eq_true (by omega); (try rw [show ((0 : Int)).toNat = 0 from rfl] at hx31z); (try rw [Addr.add_zero'] at hx31z); replace hx31z := (HB.out.cell (World.block_lt_of_cell? w _ hx31z)).trans hx31z; replace p27z := eq_true p27z; replace q28z := eq_true q28z) | ((have q_ : decide (0 < l0.length) = false := c11b1; clear q_); refine gL (some 26) Tryz.func90 #[.slice A1 l1.length c1, .slice Ao23z t366.length co24z] (h := ?_); (with_reducible refine (nat_Compare.calls k _ _ l1 _ _ t366 t369 t370 _ ?side1 ?side2 ?side3 ?side4 A10.out).mono ?_); (case side1 => refine cp ?_; exact (Kd.C_below HR1.out HB.out)); (case side2 => exact HC1.out); (case side3 => exact Kd.C_below (Kd.R_reads' HO22z.out).2.2 pl); (case side4 => exact (Kd.R_reads' HO22z.out).2.1); rintro e w26z ⟨rfl, hb⟩; refine ⟨_, rfl, ?_⟩; replace HO3z := rbl HO3z hb; replace HO7z := rbl HO7z hb; replace HO22z := rbl HO22z hb; replace HB := bS hb; (try clear hb); (try clear hb4z); (try clear hk); (try clear hi)))
 go_ret
 exact ⟨pE, pB⟩) : P := h
theorem quot_upward.calls (k : Nat) (A0 : Option Addr) (c0 : Nat) (l0 : List Int) (A1 : Option Addr) (c1 : Nat) (l1 : List Int) (a2 : Int) (a3 : Bool) (r : Bool) (w : World) (hr0 : Kd.C (Kd.int .u32) w A0 l0.length l0) (hc0 : l0.length <= c0) (hr1 : Kd.C (Kd.int .u32) w A1 l1.length l1) (hc1 : l1.length <= c1) (h : quot_upward.f k l0 l1 a2 a3 = some r) :
  Calls Tryz.prog 74 #[.slice A0 l0.length c0, .slice A1 l1.length c1, .int .i64 a2, .bool a3] w fun e w' => e = .returned (.bool r) /\ Below w.heap.size w w' := by
 have HR0 := am hr0
 have HC0 := am hc0
 clear hr0 hc0
 have HR1 := am hr1
 have HC1 := am hc1
 clear hr1 hc1
 have HB := am (Below.refl w.heap.size w)
 have H : (if a2 = 0 then (some false) else ((quot_pow.f k (wrap64 (a2 - 1))).bind fun t356 => ((nat_From.f k 5).bind fun t359 => ((nat_Mul.f k t356 t359).bind fun bt362 => ((quot_first_uint32.f bt362.1 bt362.2).bind fun t366 => ((nat_Compare.f k l1 t366).bind fun bt369 => (if (l0.length : Int) > 0 then (if 0 < (l0.length : Int) then (if bt369.1 > 0 then (some true) else (if bt369.1 = 0 then (if a3 = true then (some true) else (some ((Int.tmod (rd l0 0) 2) == 1))) else (some false))) else (none)) else (if bt369.1 > 0 then (some true) else (if bt369.1 = 0 then (if a3 = true then (some true) else (some false)) else (some false)))))))))) = some r := h
 clear h
 by_cases c5 : a2 = 0
 ·rw [if_pos c5] at H
  have c5b0 : (a2 == 0) = true := beq_iff_eq.mpr c5
  have c5b1 : (a2 != 0) = false := bne_eq_false_iff_eq.mpr c5
  clear c5
  obtain rfl := Option.some.inj H
  exact quot_upward.leaf
 ·rw [if_neg c5] at H
  have c5b0 : (a2 == 0) = false := beq_eq_false_iff_ne.mpr c5
  have c5b1 : (a2 != 0) = true := bne_iff_ne.mpr c5
  obtain ⟨t356, A6, H⟩ := ob H
  obtain ⟨t359, A7, H⟩ := ob H
  obtain ⟨⟨t362, t363⟩, A8, H⟩ := ob H; (try dsimp only at H)
  obtain ⟨t366, A9, H⟩ := ob H
  obtain ⟨⟨t369, t370⟩, A10, H⟩ := ob H; (try dsimp only at H)
  by_cases c11 : (l0.length : Int) > 0
  ·rw [if_pos c11] at H
   have c11b0 : decide (0 < (l0.length : Int)) = true := decide_eq_true c11
   have c11b1 : decide (0 < l0.length) = true := decide_eq_true (by omega)
   clear c11
   by_cases c12 : 0 < (l0.length : Int)
   ·rw [if_pos c12] at H
    have c12b0 : decide (0 < (l0.length : Int)) = true := decide_eq_true c12
    have c12b1 : decide (0 < l0.length) = true := decide_eq_true (by omega)
    clear c12
    by_cases c13 : t369 > 0
    ·rw [if_pos c13] at H
     have c13b0 : decide (0 < t369) = true := decide_eq_true c13
     clear c13
     obtain rfl := Option.some.inj H
     exact quot_upward.leaf
    ·rw [if_neg c13] at H
     have c13b0 : decide (0 < t369) = false := decide_eq_false c13
     clear c13
     by_cases c23 : t369 = 0
     ·rw [if_pos c23] at H
      have c23b0 : (t369 == 0) = true := beq_iff_eq.mpr c23
      have c23b1 : (t369 != 0) = false := bne_eq_false_iff_eq.mpr c23
      clear c23
      by_cases c24 : a3 = true
      ·subst c24
       rw [if_pos rfl] at H
       obtain rfl := Option.some.inj H
       exact quot_upward.leaf
      ·replace c24 := Bool.eq_false_iff.mpr c24
       subst c24
       rw [if_neg (show ¬ (false = true) by decide)] at H
       obtain rfl := Option.some.inj H
       exact quot_upward.leaf
     ·rw [if_neg c23] at H
      have c23b0 : (t369 == 0) = false := beq_eq_false_iff_ne.mpr c23
      have c23b1 : (t369 != 0) = true := bne_iff_ne.mpr c23
      obtain rfl := Option.some.inj H
      exact quot_upward.leaf
   ·rw [if_neg c12] at H
    exact absurd H (by simp)
  ·rw [if_neg c11] at H
   have c11b0 : decide (0 < (l0.length : Int)) = false := decide_eq_false c11
   have c11b1 : decide (0 < l0.length) = false := decide_eq_false (by omega)
   clear c11
   by_cases c52 : t369 > 0
   ·rw [if_pos c52] at H
    have c52b0 : decide (0 < t369) = true := decide_eq_true c52
    clear c52
    obtain rfl := Option.some.inj H
    exact quot_upward.leaf
   ·rw [if_neg c52] at H
    have c52b0 : decide (0 < t369) = false := decide_eq_false c52
    clear c52
    by_cases c62 : t369 = 0
    ·rw [if_pos c62] at H
     have c62b0 : (t369 == 0) = true := beq_iff_eq.mpr c62
     have c62b1 : (t369 != 0) = false := bne_eq_false_iff_eq.mpr c62
     clear c62
     by_cases c63 : a3 = true
     ·subst c63
      rw [if_pos rfl] at H
      obtain rfl := Option.some.inj H
      exact quot_upward.leaf
     ·replace c63 := Bool.eq_false_iff.mpr c63
      subst c63
      rw [if_neg (show ¬ (false = true) by decide)] at H
      obtain rfl := Option.some.inj H
      exact quot_upward.leaf
    ·rw [if_neg c62] at H
     have c62b0 : (t369 == 0) = false := beq_eq_false_iff_ne.mpr c62
     have c62b1 : (t369 != 0) = true := bne_iff_ne.mpr c62
     obtain rfl := Option.some.inj H
     exact quot_upward.leaf
def quot_Div.f (k : Nat) (a0_0 : Bool) (l0_1 : List Int) (a0_2 : Int) (a1_0 : Bool) (l1_1 : List Int) (a1_2 : Int) : Option (Bool × List Int × Int × Int) := (quot_ask.f k (([(⟨a0_0, l0_1, a0_2⟩ : S24), (⟨a1_0, l1_1, a1_2⟩ : S24)] : List (S24)))).bind fun t386 => (if t386 = 0 then (if (l1_1.length : Int) = 0 then (some (false, ([] : List Int), 0, 53)) else ((quot_digits.f k l1_1).bind fun t387 => ((quot_digits.f k l0_1).bind fun t388 => ((quot_pow.f k (mx (wrap64 ((wrap64 ((wrap64 (t387 - t388)) + 40)) + 2)) 0)).bind fun t389 => ((nat_Mul.f k l0_1 t389).bind fun bt392 => ((quot_first_uint32.f bt392.1 bt392.2).bind fun t396 => ((nat_Div.f k t396 l1_1).bind fun bt399 => ((quot_parted.f k bt399.1 40).bind fun bt406 => ((quot_upward.f k bt406.1 bt406.2.1 bt406.2.2 (decide ((bt399.2.1.length : Int) > 0))).bind fun t413 => (if t413 = true then ((nat_From.f k 1).bind fun t414 => ((nat_Add.f k bt406.1 t414).bind fun bt417 => ((quot_first_uint32.f bt417.1 bt417.2).bind fun t421 => ((dec_Settle.f k (a0_0 != a1_0) t421 (wrap64 ((wrap64 ((wrap64 (a0_2 - a1_2)) - (mx (wrap64 ((wrap64 ((wrap64 (t387 - t388)) + 40)) + 2)) 0))) + bt406.2.2))).bind fun bt424 => (some (bt424.1, bt424.2.1, bt424.2.2.1, bt424.2.2.2)))))) else ((dec_Settle.f k (a0_0 != a1_0) bt406.1 (wrap64 ((wrap64 ((wrap64 (a0_2 - a1_2)) - (mx (wrap64 ((wrap64 ((wrap64 (t387 - t388)) + 40)) + 2)) 0))) + bt406.2.2))).bind fun bt430 => (some (bt430.1, bt430.2.1, bt430.2.2.1, bt430.2.2.2))))))))))))) else (some (false, ([] : List Int), 0, t386)))
def quot_Div.T6 : Bool × List (List Nat × List Nat) := (true, [([], []), ([0], [0]), ([1], [1]), ([], []), ([3], [3]), ([4, 2], [4]), ([2, 5], [2, 5]), ([6], [6]), ([7], [7]), ([8], [8]), ([9, 5, 0, 1, 2, 3, 4, 5, 6, 7, 8, 9], [9])])
def quot_Div.B6 : List Nat := [0, 1, 3, 0, 8, 31, 63, 127, 255, 511, 1023]
theorem quot_Div.tab6 : rtab .any (opsOf Tryz.f19 6) = quot_Div.T6 := by kernel_rfl
theorem quot_Div.bits6 : waitsOk quot_Div.T6.2 quot_Div.B6 = true := by kernel_rfl
def quot_Div.T7 : Bool × List (List Nat × List Nat) := (true, [([], []), ([0], [0]), ([], []), ([2], [2]), ([1, 3, 3], [1, 3]), ([4], [4]), ([4], [4]), ([5, 6, 4], [5, 6]), ([], []), ([8], [8]), ([7, 9, 7], [7, 9]), ([10], [10]), ([11], [11]), ([11], [11]), ([11], [11]), ([12, 10, 0, 1, 2, 3, 4, 5, 6, 7, 8, 9, 10, 11, 12], [12]), ([13, 15, 0, 1, 2, 3, 4, 5, 6, 7, 8, 9, 10, 11, 12, 13, 15], [13]), ([14, 16, 0, 1, 2, 3, 4, 5, 6, 7, 8, 9, 10, 11, 12, 13, 14, 15, 16], [14])])
def quot_Div.B7 : List Nat := [0, 1, 0, 4, 15, 31, 31, 127, 0, 256, 1023, 2047, 4095, 4095, 4095, 8191, 49151, 131071]
theorem quot_Div.tab7 : rtab .any (opsOf Tryz.f19 7) = quot_Div.T7 := by kernel_rfl
theorem quot_Div.bits7 : waitsOk quot_Div.T7.2 quot_Div.B7 = true := by kernel_rfl
theorem quot_Div.leaf {P : Prop} (h : P := by
 go_enter Tryz.func19, Tryz.ntmps19
 try go_wp2_with (first | ((with_reducible refine gd 2 ?_); refine bx 2 #[.bool a0_0, .slice A0_1 l0_1.length c0_1, .int .i64 a0_2] 24 (h := ?_); intro gb0z hg w1z hbox hb; have BK2z := am hbox; have GW3z := gW hg; have GE4z := gW hg; replace HO0_1 := vE HO0_1 gb0z hg hb; replace HO1_1 := vE HO1_1 gb0z hg hb; replace HB := bS hb; clear hb hbox hg) | ((with_reducible refine gd 3 ?_); refine bx 3 #[.bool a1_0, .slice A1_1 l1_1.length c1_1, .int .i64 a1_2] 24 (h := ?_); intro gb5z hg w6z hbox hb; have BK7z := am hbox; have GW8z := gW hg; have GE9z := gW hg; have NB10z := nL hg BK2z; have NB11z := nG hg BK2z; replace HO0_1 := vE HO0_1 gb5z hg hb; replace HO1_1 := vE HO1_1 gb5z hg hb; replace BK2z := bb BK2z hb; replace HB := bS hb; clear hb hbox hg) | ((with_reducible refine gd 4 ?_); refine bx 4 #[.bool false, .slice none 0 0, .int .i64 0] 24 (h := ?_); intro gb12z hg w13z hbox hb; have BK14z := am hbox; have GW15z := gW hg; have GE16z := gW hg; have NB17z := nL hg BK2z; have NB18z := nG hg BK2z; have NB19z := nL hg BK7z; have NB20z := nG hg BK7z; replace HO0_1 := vE HO0_1 gb12z hg hb; replace HO1_1 := vE HO1_1 gb12z hg hb; replace BK2z := bb BK2z hb; replace BK7z := bb BK7z hb; replace HB := bS hb; clear hb hbox hg; have hnb21z := NB10z.out; have hnc22z := NB11z.out; have hnb23z := NB17z.out; have hnc24z := NB18z.out; obtain ⟨hcz25z, hcz26z, hcz27z, hfz28z, hfz29z, hfz30z⟩ := cEc BK2z.out; have hnb31z := NB19z.out; have hnc32z := NB20z.out; obtain ⟨hcz33z, hcz34z, hcz35z, hfz36z, hfz37z, hfz38z⟩ := cEc BK7z.out) | ((with_reducible refine gd 16 ?_); refine Kd.N_lit k24 _ 24 ?hg (N' := 16) ?hd (xs := ([(⟨a0_0, l0_1, a0_2⟩ : S24), (⟨a1_0, l1_1, a1_2⟩ : S24)] : List (S24))) (inner := [.bool a0_0, .slice A0_1 l0_1.length c0_1, .int .i64 a0_2, .bool a1_0, .slice A1_1 l1_1.length c1_1, .int .i64 a1_2]) (ok := (fun k_ => ((P0_1_ k_ \/ P1_1_ k_) \/ w.heap.size <= k_) /\ k_ ≠ gb0z /\ k_ ≠ gb5z /\ k_ ≠ gb12z)) (okp := (fun k_ => ((P0_1_ k_ \/ P1_1_ k_) \/ w.heap.size <= k_) /\ k_ ≠ gb0z /\ k_ ≠ gb5z /\ k_ ≠ gb12z)) ?hr ?hp (fun _ hk => hk) ((show ∀ k_, w13z.heap.size <= k_ -> (fun k_ => ((P0_1_ k_ \/ P1_1_ k_) \/ w.heap.size <= k_) /\ k_ ≠ gb0z /\ k_ ≠ gb5z /\ k_ ≠ gb12z) k_ from fun k_ hk => ⟨(.inr (Nat.le_trans (below_size pB) hk)), Kd.freshB (g := gb0z) (o := .cells #[.bool a0_0, .slice A0_1 l0_1.length c0_1, .int .i64 a0_2] 24 (0, 0)) (blk_below BK2z.out pl) k_ hk, Kd.freshB (g := gb5z) (o := .cells #[.bool a1_0, .slice A1_1 l1_1.length c1_1, .int .i64 a1_2] 24 (0, 0)) (blk_below BK7z.out pl) k_ hk, Kd.freshB (g := gb12z) (o := .cells #[.bool false, .slice none 0 0, .int .i64 0] 24 (0, 0)) (blk_below BK14z.out pl) k_ hk⟩) _ (Nat.le_refl _)) (Below.refl _ _) (Nat.le_refl _) (by simp) ?_; (case hd => rfl); (case hg => rfl); (case hr => first | (go_simp; done) | (go_simp; rfl)); (case hp => exact (Reps.c3 (show Kd.FK k24 _ _ (⟨a0_0, l0_1, a0_2⟩ : S24) [.bool a0_0, .slice A0_1 l0_1.length c0_1, .int .i64 a0_2] from (k24_mkF _ _ (⟨a0_0, l0_1, a0_2⟩ : S24) (Kd.V_reads' (Kd.V_mono (ok' := (fun k_ => ((P0_1_ k_ \/ P1_1_ k_) \/ w.heap.size <= k_) /\ k_ ≠ gb0z /\ k_ ≠ gb5z /\ k_ ≠ gb12z)) (HO0_1.out) (fun k_ hk => ⟨hk.1.1.1, ⟨hk.1.1.2, ⟨hk.1.2, hk.2⟩⟩⟩))).2.1 (Kd.V_F (Kd.V_mono (ok' := (fun k_ => ((P0_1_ k_ \/ P1_1_ k_) \/ w.heap.size <= k_) /\ k_ ≠ gb0z /\ k_ ≠ gb5z /\ k_ ≠ gb12z)) (HO0_1.out) (fun k_ hk => ⟨hk.1.1.1, ⟨hk.1.1.2, ⟨hk.1.2, hk.2⟩⟩⟩))))) (Reps.c3 (show Kd.FK k24 _ _ (⟨a1_0, l1_1, a1_2⟩ : S24) [.bool a1_0, .slice A1_1 l1_1.length c1_1, .int .i64 a1_2] from (k24_mkF _ _ (⟨a1_0, l1_1, a1_2⟩ : S24) (Kd.V_reads' (Kd.V_mono (ok' := (fun k_ => ((P0_1_ k_ \/ P1_1_ k_) \/ w.heap.size <= k_) /\ k_ ≠ gb0z /\ k_ ≠ gb5z /\ k_ ≠ gb12z)) (HO1_1.out) (fun k_ hk => ⟨hk.1.1.1, ⟨hk.1.1.2, ⟨hk.1.2, hk.2⟩⟩⟩))).2.1 (Kd.V_F (Kd.V_mono (ok' := (fun k_ => ((P0_1_ k_ \/ P1_1_ k_) \/ w.heap.size <= k_) /\ k_ ≠ gb0z /\ k_ ≠ gb5z /\ k_ ≠ gb12z)) (HO1_1.out) (fun k_ hk => ⟨hk.1.1.1, ⟨hk.1.1.2, ⟨hk.1.2, hk.2⟩⟩⟩))))) (Reps.none _ _)))); intro v39z w40z ho41z hb hg_ hnew_; clear hg_ hnew_; (first | rw [<- Ny383.out] at ho41z | (simp only [Int.reduceToNat] at ho41z; rw [<- Ny383.out] at ho41z)); replace HO0_1 := am (Kd.V_elder' (Kd.V_below HO0_1.out pl) (Kd.N_base ho41z) hb); replace HO1_1 := am (Kd.V_elder' (Kd.V_below HO1_1.out pl) (Kd.N_base ho41z) hb); have HO42z := am (Kd.N_lower ho41z (below_size pB)); replace BK2z := bb BK2z hb; replace BK7z := bb BK7z hb; replace BK14z := bb BK14z hb; replace HB := bS hb; clear hb ho41z; obtain ⟨Ao43z, co44z, eo45z⟩ := Kd.N_slice HO42z.out; subst eo45z) | ((have q_ : ((l1_1.length : Int) != 0) = false := c5b1; clear q_); refine gL (some 17) Tryz.func67 #[.slice Ao43z y383.length co44z] (h := ?_); (with_reducible refine (quot_ask.calls k _ _ y383 t386 _ ?side1 ?side2 A3.out).mono ?_); (case side1 => exact Kd.C_below (Kd.N_reads' HO42z.out).2.2 pl); (case side2 => exact (Kd.N_reads' HO42z.out).2.1); rintro e w46z ⟨rfl, hb⟩; refine ⟨_, rfl, ?_⟩; replace HO0_1 := vbl HO0_1 hb; replace HO1_1 := vbl HO1_1 hb; replace HO42z := nbl HO42z hb; replace BK2z := bb BK2z hb; replace BK7z := bb BK7z hb; replace BK14z := bb BK14z hb; replace HB := bS hb; (try clear hb); (try clear hb47z); (try clear hk); (try clear hi); obtain ⟨hcz48z, hcz49z, hcz50z, hfz51z, hfz52z, hfz53z⟩ := cEc BK7z.out; obtain ⟨hcz54z, hcz55z, hcz56z, hfz57z, hfz58z, hfz59z⟩ := cEc BK14z.out) | ((have q_ := A28; clear q_); refine gL (some 17) Tryz.func67 #[.slice Ao43z y383.length co44z] (h := ?_); (with_reducible refine (quot_ask.calls k _ _ y383 t386 _ ?side1 ?side2 A3.out).mono ?_); (case side1 => exact Kd.C_below (Kd.N_reads' HO42z.out).2.2 pl); (case side2 => exact (Kd.N_reads' HO42z.out).2.1); rintro e w46z ⟨rfl, hb⟩; refine ⟨_, rfl, ?_⟩; replace HO0_1 := vbl HO0_1 hb; replace HO1_1 := vbl HO1_1 hb; replace HO42z := nbl HO42z hb; replace BK2z := bb BK2z hb; replace BK7z := bb BK7z hb; replace BK14z := bb BK14z hb; replace HB := bS hb; (try clear hb); (try clear hb47z); (try clear hk); (try clear hi); obtain ⟨hcz48z, hcz49z, hcz50z, hfz51z, hfz52z, hfz53z⟩ := cEc BK7z.out) | ((have q_ : (t386 != 0) = true := c4b1; clear q_); refine gL (some 17) Tryz.func67 #[.slice Ao43z y383.length co44z] (h := ?_); (with_reducible refine (quot_ask.calls k _ _ y383 t386 _ ?side1 ?side2 A3.out).mono ?_); (case side1 => exact Kd.C_below (Kd.N_reads' HO42z.out).2.2 pl); (case side2 => exact (Kd.N_reads' HO42z.out).2.1); rintro e w46z ⟨rfl, hb⟩; refine ⟨_, rfl, ?_⟩; replace HO0_1 := vbl HO0_1 hb; replace HO1_1 := vbl HO1_1 hb; replace HO42z := nbl HO42z hb; replace BK2z := bb BK2z hb; replace BK7z := bb BK7z hb; replace BK14z := bb BK14z hb; replace HB := bS hb; (try clear hb); (try clear hb47z); (try clear hk); (try clear hi); obtain ⟨hcz48z, hcz49z, hcz50z, hfz51z, hfz52z, hfz53z⟩ := cEc BK14z.out))
 first
  | have q_ := A28
    replace HO0_1 := am (Kd.V_drew HO0_1.out)
    replace HO1_1 := am (Kd.V_drew HO1_1.out)
    replace HO42z := am (Kd.N_drew HO42z.out)
    replace BK2z := am (blk_drew BK2z.out)
    replace BK7z := am (blk_drew BK7z.out)
    replace BK14z := am (blk_drew BK14z.out)
    replace HB := am (below_drew1 HB.out)
    refine start_ (n := 11) (S := fun w' => w'.cell? ⟨gb5z, 0, none⟩ = some (.bool a1_0) /\ w'.cell? ⟨gb5z, 1, none⟩ = some (.slice A1_1 l1_1.length c1_1) /\ w'.cell? ⟨gb5z, 2, none⟩ = some (.int .i64 a1_2) /\ w'.cell? ⟨gb0z, 0, none⟩ = some (.bool a0_0) /\ w'.cell? ⟨gb0z, 1, none⟩ = some (.slice A0_1 l0_1.length c0_1) /\ w'.cell? ⟨gb0z, 2, none⟩ = some (.int .i64 a0_2)) (ds := []) #[false, false, false, false, false, false, false, false, false, false, false] (by kernel_rfl) rfl rfl ⟨(blk_cell BK7z.out 0).trans rfl, (blk_cell BK7z.out 1).trans rfl, (blk_cell BK7z.out 2).trans rfl, (blk_cell BK2z.out 0).trans rfl, (blk_cell BK2z.out 1).trans rfl, (blk_cell BK2z.out 2).trans rfl⟩ (fun hHeld => ?_); refine with_tabW quot_Div.tab6 quot_Div.bits6 (fun HT_ HW_ => ?_)
    generalize w46z.drew = w54z at HO0_1 HO1_1 HO42z BK2z BK7z BK14z HB hHeld ⊢
    refine pu 0 (some 27) #[true, false, false, false, false, false, false, false, false, false, false] (h := ?_)
    refine pu 3 (some 30) #[true, false, false, true, false, false, false, false, false, false, false] (h := ?_)
    refine take_ (i := 1) (N := some 28) (v := ?_) (a' := ?_) #[true, true, false, true, false, false, false, false, false, false, false] rfl rfl (take_ofW HT_.out HW_.out (by kernel_rfl)) (fun _ _ _ h => h) (Or.inl ⟨by rfl, ?_⟩) hHeld ?_ ?_
    rotate_left
    ·rintro w' ⟨s55z, s56z, s57z, s58z, s59z, s60z⟩
     go_simp
     with_reducible rfl
    rotate_left
    ·simp only [Act.put, List.setIfInBounds_toArray, List.set_cons_zero, List.set_cons_succ, i64_w, i32_w]
     rfl
    refine take_ (i := 4) (N := some 31) (v := ?_) (a' := ?_) #[true, true, false, true, true, false, false, false, false, false, false] rfl rfl (take_ofW HT_.out HW_.out (by kernel_rfl)) (fun _ _ _ h => h) (Or.inl ⟨by rfl, ?_⟩) hHeld ?_ ?_
    rotate_left
    ·rintro w' ⟨s55z, s56z, s57z, s58z, s59z, s60z⟩
     go_simp
     with_reducible rfl
    rotate_left
    ·simp only [Act.put, List.setIfInBounds_toArray, List.set_cons_zero, List.set_cons_succ, i64_w, i32_w]
     rfl
    refine one_ (i := 2) (N := some 29) #[true, true, true, true, true, false, false, false, false, false, false] rfl rfl (one_of HT_.out (by kernel_rfl)) (by decide) (fun K hK => ?_)
    refine goes_ Tryz.func68 (by kernel_rfl) rfl #[.slice A1_1 l1_1.length c1_1] (by rfl) rfl rfl pA ?_
    with_reducible refine (quot_digits.calls k _ _ l1_1 t387 _ ?side1 ?side2 A20.out).mono ?_
    (case side1 => exact Kd.C_below (Kd.V_reads' HO1_1.out).2.2 pl)
    (case side2 => exact (Kd.V_reads' HO1_1.out).2.1)
    rintro e w61z ⟨rfl, hb⟩
    refine ⟨_, rfl, ?_⟩
    replace HO0_1 := vbl HO0_1 hb
    replace HO1_1 := vbl HO1_1 hb
    replace HO42z := nbl HO42z hb
    replace BK2z := bb BK2z hb
    replace BK7z := bb BK7z hb
    replace BK14z := bb BK14z hb
    replace HB := bS hb
    (try clear hb); (try clear hb47z); (try clear hk); (try clear hi)
    refine hK.out _ _ ⟨(blk_cell BK7z.out 0).trans rfl, (blk_cell BK7z.out 1).trans rfl, (blk_cell BK7z.out 2).trans rfl, (blk_cell BK2z.out 0).trans rfl, (blk_cell BK2z.out 1).trans rfl, (blk_cell BK2z.out 2).trans rfl⟩ (fun hHeld => ?_)
    clear hK K
    refine norm_ (a' := ?_) ?_ ?_
    rotate_left
    ·show Act.put _ (some 29) _ = _
     simp only [Act.put, List.setIfInBounds_toArray, List.set_cons_zero, List.set_cons_succ, i64_w, i32_w]
     rfl
    refine one_ (i := 5) (N := some 32) #[true, true, true, true, true, true, false, false, false, false, false] rfl rfl (one_of HT_.out (by kernel_rfl)) (by decide) (fun K hK => ?_)
    refine goes_ Tryz.func68 (by kernel_rfl) rfl #[.slice A0_1 l0_1.length c0_1] (by rfl) rfl rfl pA ?_
    with_reducible refine (quot_digits.calls k _ _ l0_1 t388 _ ?side1 ?side2 A21.out).mono ?_
    (case side1 => exact Kd.C_below (Kd.V_reads' HO0_1.out).2.2 pl)
    (case side2 => exact (Kd.V_reads' HO0_1.out).2.1)
    rintro e w62z ⟨rfl, hb⟩
    refine ⟨_, rfl, ?_⟩
    replace HO0_1 := vbl HO0_1 hb
    replace HO1_1 := vbl HO1_1 hb
    replace HO42z := nbl HO42z hb
    replace BK2z := bb BK2z hb
    replace BK7z := bb BK7z hb
    replace BK14z := bb BK14z hb
    replace HB := bS hb
    (try clear hb); (try clear hb47z); (try clear hk); (try clear hi)
    refine hK.out _ _ ⟨(blk_cell BK7z.out 0).trans rfl, (blk_cell BK7z.out 1).trans rfl, (blk_cell BK7z.out 2).trans rfl, (blk_cell BK2z.out 0).trans rfl, (blk_cell BK2z.out 1).trans rfl, (blk_cell BK2z.out 2).trans rfl⟩ (fun hHeld => ?_)
    clear hK K
    refine norm_ (a' := ?_) ?_ ?_
    rotate_left
    ·show Act.put _ (some 32) _ = _
     simp only [Act.put, List.setIfInBounds_toArray, List.set_cons_zero, List.set_cons_succ, i64_w, i32_w]
     rfl
    refine pu 6 (some 33) #[true, true, true, true, true, true, true, false, false, false, false] (h := ?_)
    refine pu 7 (some 34) #[true, true, true, true, true, true, true, true, false, false, false] (h := ?_)
    refine pu 8 (some 35) #[true, true, true, true, true, true, true, true, true, false, false] (h := ?_)
    refine pu 9 (some 36) #[true, true, true, true, true, true, true, true, true, true, false] (h := ?_)
    refine pu 10 (some 7) #[true, true, true, true, true, true, true, true, true, true, true] (h := ?_)
    refine done_ (done_of HT_.out (by kernel_rfl)) ?_
    try go_wp2
    replace HO0_1 := am (Kd.V_drew HO0_1.out)
    replace HO1_1 := am (Kd.V_drew HO1_1.out)
    replace HO42z := am (Kd.N_drew HO42z.out)
    replace BK2z := am (blk_drew BK2z.out)
    replace BK7z := am (blk_drew BK7z.out)
    replace BK14z := am (blk_drew BK14z.out)
    replace HB := am (below_drew1 HB.out)
    refine start_ (n := 18) (S := fun w' => w'.cell? ⟨gb0z, 0, none⟩ = some (.bool a0_0) /\ w'.cell? ⟨gb0z, 1, none⟩ = some (.slice A0_1 l0_1.length c0_1) /\ w'.cell? ⟨gb0z, 2, none⟩ = some (.int .i64 a0_2) /\ w'.cell? ⟨gb5z, 0, none⟩ = some (.bool a1_0) /\ w'.cell? ⟨gb5z, 1, none⟩ = some (.slice A1_1 l1_1.length c1_1) /\ w'.cell? ⟨gb5z, 2, none⟩ = some (.int .i64 a1_2)) (ds := []) #[false, false, false, false, false, false, false, false, false, false, false, false, false, false, false, false, false, false] (by kernel_rfl) rfl rfl ⟨(blk_cell BK2z.out 0).trans rfl, (blk_cell BK2z.out 1).trans rfl, (blk_cell BK2z.out 2).trans rfl, (blk_cell BK7z.out 0).trans rfl, (blk_cell BK7z.out 1).trans rfl, (blk_cell BK7z.out 2).trans rfl⟩ (fun hHeld => ?_); refine with_tabW quot_Div.tab7 quot_Div.bits7 (fun HT_ HW_ => ?_)
    generalize w62z.drew = w63z at HO0_1 HO1_1 HO42z BK2z BK7z BK14z HB hHeld ⊢
    refine pu 0 (some 38) #[true, false, false, false, false, false, false, false, false, false, false, false, false, false, false, false, false, false] (h := ?_)
    refine pu 2 (some 40) #[true, false, true, false, false, false, false, false, false, false, false, false, false, false, false, false, false, false] (h := ?_)
    refine pu 8 (some 46) #[true, false, true, false, false, false, false, false, true, false, false, false, false, false, false, false, false, false] (h := ?_)
    refine take_ (i := 1) (N := some 39) (v := ?_) (a' := ?_) #[true, true, true, false, false, false, false, false, true, false, false, false, false, false, false, false, false, false] rfl rfl (take_ofW HT_.out HW_.out (by kernel_rfl)) (fun _ _ _ h => h) (Or.inl ⟨by rfl, ?_⟩) hHeld ?_ ?_
    rotate_left
    ·rintro w' ⟨s55z, s56z, s57z, s58z, s59z, s60z⟩
     go_simp
     with_reducible rfl
    rotate_left
    ·simp only [Act.put, List.setIfInBounds_toArray, List.set_cons_zero, List.set_cons_succ, i64_w, i32_w]
     rfl
    refine take_ (i := 9) (N := some 47) (v := ?_) (a' := ?_) #[true, true, true, false, false, false, false, false, true, true, false, false, false, false, false, false, false, false] rfl rfl (take_ofW HT_.out HW_.out (by kernel_rfl)) (fun _ _ _ h => h) (Or.inl ⟨by rfl, ?_⟩) hHeld ?_ ?_
    rotate_left
    ·rintro w' ⟨s55z, s56z, s57z, s58z, s59z, s60z⟩
     go_simp
     with_reducible rfl
    rotate_left
    ·simp only [Act.put, List.setIfInBounds_toArray, List.set_cons_zero, List.set_cons_succ, i64_w, i32_w]
     rfl
    refine one_ (i := 3) (N := some 41) #[true, true, true, true, false, false, false, false, true, true, false, false, false, false, false, false, false, false] rfl rfl (one_of HT_.out (by kernel_rfl)) (by decide) (fun K hK => ?_)
    refine goes_ Tryz.func72 (by kernel_rfl) rfl #[.int .i64 ji22] (by rfl) rfl rfl (by (try simp only [List.map_toArray, List.map_cons, List.map_nil]); first | done | (simp only [hji22]; rfl) | rfl | (simp only [List.length_drop, List.length_take]; rfl)) ?_
    with_reducible refine (quot_pow.calls k ji22 t389 _ A23.out).mono ?_
    rintro e w64z ⟨v65z, rfl, ho66z, hb⟩
    refine ⟨_, rfl, ?_⟩
    replace HO0_1 := am (Kd.V_elder' (Kd.V_below HO0_1.out pl) (Kd.R_base ho66z) hb)
    replace HO1_1 := am (Kd.V_elder' (Kd.V_below HO1_1.out pl) (Kd.R_base ho66z) hb)
    replace HO42z := am (Kd.N_elder' (Kd.N_below HO42z.out pl) (Kd.R_base ho66z) hb)
    have HO67z := am (Kd.R_lower (Kd.R_newM (M := fun k_ => (w.heap.size <= k_)) ho66z (below_size pB) (fun k_ h_ => h_)) (below_size pB))
    replace BK2z := bb BK2z hb
    replace BK7z := bb BK7z hb
    replace BK14z := bb BK14z hb
    replace HB := bS hb
    (try clear hb); (try clear hb47z); (try clear hk); (try clear hi); (try clear ho66z)
    obtain ⟨Ao68z, co69z, eo70z⟩ := Kd.R_slice HO67z.out
    (first | subst eo70z | (injection eo70z with f1_ f2_ f3_; have f4_ := f1_.symm; have f5_ := f3_.symm; clear f1_ f2_ f3_; subst f4_; subst f5_))
    refine hK.out _ _ ⟨(blk_cell BK2z.out 0).trans rfl, (blk_cell BK2z.out 1).trans rfl, (blk_cell BK2z.out 2).trans rfl, (blk_cell BK7z.out 0).trans rfl, (blk_cell BK7z.out 1).trans rfl, (blk_cell BK7z.out 2).trans rfl⟩ (fun hHeld => ?_)
    clear hK K
    refine norm_ (a' := ?_) ?_ ?_
    rotate_left
    ·show Act.put _ (some 41) _ = _
     simp only [Act.put, List.setIfInBounds_toArray, List.set_cons_zero, List.set_cons_succ, i64_w, i32_w]
     rfl
    refine one_ (i := 4) (N := some 42) #[true, true, true, true, true, false, false, false, true, true, false, false, false, false, false, false, false, false] rfl rfl (one_of HT_.out (by kernel_rfl)) (by decide) (fun K hK => ?_)
    refine goes_ Tryz.func71 (by kernel_rfl) rfl #[.slice A0_1 l0_1.length c0_1, .slice Ao68z t389.length co69z] (by rfl) rfl rfl pA ?_
    with_reducible refine (nat_Mul.calls k _ _ l0_1 _ _ t389 t392 t393 _ ?side1 ?side2 ?side3 ?side4 A24.out).mono ?_
    (case side1 => exact Kd.C_below (Kd.V_reads' HO0_1.out).2.2 pl)
    (case side2 => exact (Kd.V_reads' HO0_1.out).2.1)
    (case side3 => exact Kd.C_below (Kd.R_reads' HO67z.out).2.2 pl)
    (case side4 => exact (Kd.R_reads' HO67z.out).2.1)
    rintro e w71z ⟨v72z, rfl, ho66z, hb⟩
    refine ⟨_, rfl, ?_⟩
    have HO73z := am (Kd.R_lower (Kd.R_new' (Kd.R_newM (M := fun k_ => (w.heap.size <= k_)) ho66z (below_size pB) (fun k_ h_ => h_)) (Kd.R_lt (Kd.R_below HO67z.out pl))) (below_size pB))
    replace HO0_1 := am (Kd.V_elder' (Kd.V_below HO0_1.out pl) (Kd.R_base ho66z) hb)
    replace HO1_1 := am (Kd.V_elder' (Kd.V_below HO1_1.out pl) (Kd.R_base ho66z) hb)
    replace HO42z := am (Kd.N_elder' (Kd.N_below HO42z.out pl) (Kd.R_base ho66z) hb)
    replace HO67z := reR HO67z ho66z hb
    replace BK2z := bb BK2z hb
    replace BK7z := bb BK7z hb
    replace BK14z := bb BK14z hb
    replace HB := bS hb
    (try clear hb); (try clear hb47z); (try clear hk); (try clear hi); (try clear ho66z)
    obtain ⟨Ao74z, co75z, eo76z⟩ := Kd.R_slice HO73z.out
    (first | subst eo76z | (injection eo76z with f1_ f2_ f3_; have f4_ := f1_.symm; have f5_ := f3_.symm; clear f1_ f2_ f3_; subst f4_; subst f5_))
    refine hK.out _ _ ⟨(blk_cell BK2z.out 0).trans rfl, (blk_cell BK2z.out 1).trans rfl, (blk_cell BK2z.out 2).trans rfl, (blk_cell BK7z.out 0).trans rfl, (blk_cell BK7z.out 1).trans rfl, (blk_cell BK7z.out 2).trans rfl⟩ (fun hHeld => ?_)
    clear hK K
    refine norm_ (a' := ?_) ?_ ?_
    rotate_left
    ·show Act.put _ (some 42) _ = _
     simp only [Act.put, List.setIfInBounds_toArray, List.set_cons_zero, List.set_cons_succ, i64_w, i32_w]
     rfl
    refine pu 5 (some 43) #[true, true, true, true, true, true, false, false, true, true, false, false, false, false, false, false, false, false] (h := ?_)
    refine pu 6 (some 44) #[true, true, true, true, true, true, true, false, true, true, false, false, false, false, false, false, false, false] (h := ?_)
    refine one_ (i := 7) (N := some 45) #[true, true, true, true, true, true, true, true, true, true, false, false, false, false, false, false, false, false] rfl rfl (one_of HT_.out (by kernel_rfl)) (by decide) (fun K hK => ?_)
    refine goes_ Tryz.func70 (by kernel_rfl) rfl #[.slice Ao74z t392.length co75z, .int .i64 t393] (by rfl) rfl rfl pA ?_
    with_reducible refine (quot_first_uint32.calls (fun k_ => some k_ = (.slice Ao74z t392.length co75z : Value).ownBlock) (.slice Ao74z t392.length co75z) t392 t393 t396 w _ ?side1 ?side2 A25.out).mono ?_
    (case side1 => exact pB)
    (case side2 => exact Kd.R_tight rfl HO73z.out)
    rintro e w77z ⟨v78z, rfl, ho66z, hb, hkp⟩
    refine ⟨_, rfl, ?_⟩
    have HO79z := am (Kd.R_mono (ok' := fun k_ => (w.heap.size <= k_) /\ some k_ ≠ (.slice Ao68z t389.length co69z : Value).ownBlock) ho66z (fun k_ hk_ => ⟨Or.elim hk_ (fun hs_ => (HO73z.out.1 k_ (hs_).symm).1.1) (fun hn_ => (Nat.le_trans (below_size pB) hn_)), Or.elim hk_ (fun hs_ => fun e_ => (((HO67z.out).1 k_ e_.symm).2) hs_) (fun hn_ => (Kd.fresh' (Kd.R_lt (Kd.R_below HO67z.out pl)) k_ hn_))⟩))
    replace HO0_1 := am (Kd.V_mono (ok' := fun k_ => ((P0_1_ k_ \/ P1_1_ k_) \/ w.heap.size <= k_) /\ some k_ ≠ (.slice Ao43z y383.length co44z : Value).ownBlock /\ some k_ ≠ (.slice Ao68z t389.length co69z : Value).ownBlock /\ k_ ≠ gb0z /\ k_ ≠ gb5z /\ k_ ≠ gb12z /\ some k_ ≠ (v78z : Value).ownBlock) (Kd.V_keptB (HO0_1.out) hkp (fun k_ hk_ hs_ => (hk_.2) hs_)) (fun k_ hk_ => ⟨hk_.1.1.1.1.1.1.1, hk_.1.1.1.2, hk_.1.1.2, hk_.1.1.1.1.1.1.2, hk_.1.1.1.1.1.2, hk_.1.1.1.1.2, fun e_ => Or.elim (ho66z.1 k_ e_.symm) (fun hs_ => hk_.2.1 hs_) (fun hn_ => Nat.not_le.2 hk_.2.2 hn_)⟩))
    replace HO1_1 := am (Kd.V_mono (ok' := fun k_ => ((P0_1_ k_ \/ P1_1_ k_) \/ w.heap.size <= k_) /\ some k_ ≠ (.slice Ao43z y383.length co44z : Value).ownBlock /\ some k_ ≠ (.slice Ao68z t389.length co69z : Value).ownBlock /\ k_ ≠ gb0z /\ k_ ≠ gb5z /\ k_ ≠ gb12z /\ some k_ ≠ (v78z : Value).ownBlock) (Kd.V_keptB (HO1_1.out) hkp (fun k_ hk_ hs_ => (hk_.2) hs_)) (fun k_ hk_ => ⟨hk_.1.1.1.1.1.1.1, hk_.1.1.1.2, hk_.1.1.2, hk_.1.1.1.1.1.1.2, hk_.1.1.1.1.1.2, hk_.1.1.1.1.2, fun e_ => Or.elim (ho66z.1 k_ e_.symm) (fun hs_ => hk_.2.1 hs_) (fun hn_ => Nat.not_le.2 hk_.2.2 hn_)⟩))
    replace BK2z := am (blk_kept (blk_below BK2z.out pl) hkp (fun hs_ => (fun e_ => (Kd.R_ne HO73z.out BK2z.out (by decide)) e_) hs_))
    replace BK7z := am (blk_kept (blk_below BK7z.out pl) hkp (fun hs_ => (fun e_ => (Kd.R_ne HO73z.out BK7z.out (by decide)) e_) hs_))
    replace BK14z := am (blk_kept (blk_below BK14z.out pl) hkp (fun hs_ => (fun e_ => (Kd.R_ne HO73z.out BK14z.out (by decide)) e_) hs_))
    replace HO42z := am (Kd.N_mono (ok' := fun k_ => ((P0_1_ k_ \/ P1_1_ k_) \/ w.heap.size <= k_) /\ some k_ ≠ (.slice Ao68z t389.length co69z : Value).ownBlock /\ k_ ≠ gb0z /\ k_ ≠ gb5z /\ k_ ≠ gb12z /\ some k_ ≠ (v78z : Value).ownBlock) (Kd.N_keptB (HO42z.out) hkp (fun k_ hk_ hs_ => (hk_.2) hs_)) (fun k_ hk_ => ⟨hk_.1.1.1.1, hk_.1.1.2, hk_.1.1.1.2.1, hk_.1.1.1.2.2.1, hk_.1.1.1.2.2.2, fun e_ => Or.elim (ho66z.1 k_ e_.symm) (fun hs_ => hk_.2.1 hs_) (fun hn_ => Nat.not_le.2 hk_.2.2 hn_)⟩))
    replace HO67z := am (Kd.R_mono (ok' := fun k_ => (w.heap.size <= k_) /\ some k_ ≠ (v78z : Value).ownBlock) (Kd.R_keptB (HO67z.out) hkp (fun k_ hk_ hs_ => (hk_.2) hs_)) (fun k_ hk_ => ⟨hk_.1.1.1, fun e_ => Or.elim (ho66z.1 k_ e_.symm) (fun hs_ => hk_.2.1 hs_) (fun hn_ => Nat.not_le.2 hk_.2.2 hn_)⟩))
    replace HB := am hb
    clear HO73z
    (try clear hb); (try clear hkp); (try clear ho66z)
    obtain ⟨Ao80z, co81z, eo82z⟩ := Kd.R_slice HO79z.out
    (first | subst eo82z | (injection eo82z with f1_ f2_ f3_; have f4_ := f1_.symm; have f5_ := f3_.symm; clear f1_ f2_ f3_; subst f4_; subst f5_))
    refine hK.out _ _ ⟨(blk_cell BK2z.out 0).trans rfl, (blk_cell BK2z.out 1).trans rfl, (blk_cell BK2z.out 2).trans rfl, (blk_cell BK7z.out 0).trans rfl, (blk_cell BK7z.out 1).trans rfl, (blk_cell BK7z.out 2).trans rfl⟩ (fun hHeld => ?_)
    clear hK K
    refine norm_ (a' := ?_) ?_ ?_
    rotate_left
    ·show Act.put _ (some 45) _ = _
     simp only [Act.put, List.setIfInBounds_toArray, List.set_cons_zero, List.set_cons_succ, i64_w, i32_w]
     rfl
    refine one_ (i := 10) (N := some 48) #[true, true, true, true, true, true, true, true, true, true, true, false, false, false, false, false, false, false] rfl rfl (one_of HT_.out (by kernel_rfl)) (by decide) (fun K hK => ?_)
    refine goes_ Tryz.func69 (by kernel_rfl) rfl #[.slice Ao80z t396.length co81z, .slice A1_1 l1_1.length c1_1] (by rfl) rfl rfl pA ?_
    with_reducible refine (nat_Div.calls k _ _ t396 _ _ l1_1 t399 t400 t401 _ ?side1 ?side2 ?side3 ?side4 A26.out).mono ?_
    (case side1 => exact Kd.C_below (Kd.R_reads' HO79z.out).2.2 pl)
    (case side2 => exact (Kd.R_reads' HO79z.out).2.1)
    (case side3 => exact Kd.C_below (Kd.V_reads' HO1_1.out).2.2 pl)
    (case side4 => exact (Kd.V_reads' HO1_1.out).2.1)
    rintro e w83z ⟨v84z, v85z, rfl, ho66z, ho86z, hb⟩
    refine ⟨_, rfl, ?_⟩
    have HO87z := am (Kd.R_lower (Kd.R_new' (Kd.R_new' (Kd.R_newM (M := fun k_ => (w.heap.size <= k_)) ho66z (below_size pB) (fun k_ h_ => h_)) (Kd.R_lt (Kd.R_below HO67z.out pl))) (Kd.R_lt (Kd.R_below HO79z.out pl))) (below_size pB))
    have HO88z := am (Kd.R_lower (Kd.R_new' (Kd.R_new' (Kd.R_newM (M := fun k_ => (w.heap.size <= k_)) ho86z (below_size pB) (fun k_ h_ => h_)) (Kd.R_lt (Kd.R_below HO67z.out pl))) (Kd.R_lt (Kd.R_below HO79z.out pl))) (below_size pB))
    replace HO0_1 := am (Kd.V_mono (Kd.V_told (Kd.V_told (Kd.V_old (Kd.V_below HO0_1.out pl) hb) (Kd.R_base ho66z)) (Kd.R_base ho86z)) (fun _ h_ => h_.1))
    replace HO1_1 := am (Kd.V_mono (Kd.V_told (Kd.V_told (Kd.V_old (Kd.V_below HO1_1.out pl) hb) (Kd.R_base ho66z)) (Kd.R_base ho86z)) (fun _ h_ => h_.1))
    replace HO42z := am (Kd.N_mono (Kd.N_told (Kd.N_told (Kd.N_old (Kd.N_below HO42z.out pl) hb) (Kd.R_base ho66z)) (Kd.R_base ho86z)) (fun _ h_ => h_.1))
    replace HO67z := am (Kd.R_mono (Kd.R_told (Kd.R_told (Kd.R_old (Kd.R_below HO67z.out pl) hb) (Kd.R_base ho66z)) (Kd.R_base ho86z)) (fun _ h_ => h_.1))
    replace HO79z := am (Kd.R_mono (Kd.R_told (Kd.R_told (Kd.R_old (Kd.R_below HO79z.out pl) hb) (Kd.R_base ho66z)) (Kd.R_base ho86z)) (fun _ h_ => h_.1))
    replace BK2z := bb BK2z hb
    replace BK7z := bb BK7z hb
    replace BK14z := bb BK14z hb
    replace HB := bS hb
    (try clear hb); (try clear hb47z); (try clear hk); (try clear hi); (try clear ho66z); (try clear ho86z)
    refine hK.out _ _ ⟨(blk_cell BK2z.out 0).trans rfl, (blk_cell BK2z.out 1).trans rfl, (blk_cell BK2z.out 2).trans rfl, (blk_cell BK7z.out 0).trans rfl, (blk_cell BK7z.out 1).trans rfl, (blk_cell BK7z.out 2).trans rfl⟩ (fun hHeld => ?_)
    clear hK K
    refine norm_ (a' := ?_) ?_ ?_
    rotate_left
    ·show Act.put _ (some 48) _ = _
     simp only [Act.put, List.setIfInBounds_toArray, List.set_cons_zero, List.set_cons_succ, i64_w, i32_w]
     rfl
    refine pu 11 (some 37) #[true, true, true, true, true, true, true, true, true, true, true, true, false, false, false, false, false, false] (h := ?_)
    refine pu 12 (some 49) #[true, true, true, true, true, true, true, true, true, true, true, true, true, false, false, false, false, false] (h := ?_)
    refine pu 13 (some 50) #[true, true, true, true, true, true, true, true, true, true, true, true, true, true, false, false, false, false] (h := ?_)
    refine pu 14 (some 51) #[true, true, true, true, true, true, true, true, true, true, true, true, true, true, true, false, false, false] (h := ?_)
    refine pu 15 (some 8) #[true, true, true, true, true, true, true, true, true, true, true, true, true, true, true, true, false, false] (h := ?_)
    refine pu 16 (some 9) #[true, true, true, true, true, true, true, true, true, true, true, true, true, true, true, true, true, false] (h := ?_)
    refine pu 17 (some 10) #[true, true, true, true, true, true, true, true, true, true, true, true, true, true, true, true, true, true] (h := ?_)
    refine done_ (done_of HT_.out (by kernel_rfl)) ?_
    obtain ⟨Ao89z, co90z, eo91z⟩ := Kd.R_slice HO87z.out
    subst eo91z
    try go_wp2_with (first | (refine gL (some 54) Tryz.func73 #[.slice Ao89z t399.length co90z, .int .i64 40] (h := ?_); (with_reducible refine (quot_parted.calls k _ _ t399 40 t406 t407 t408 _ ?side1 ?side2 A27.out).mono ?_); (case side1 => exact Kd.C_below (Kd.R_reads' HO87z.out).2.2 pl); (case side2 => exact (Kd.R_reads' HO87z.out).2.1); rintro e w92z ⟨v93z, v94z, rfl, ho66z, ho86z, hb⟩; refine ⟨_, rfl, ?_⟩; have HO95z := am (Kd.R_lower (Kd.R_new' (Kd.R_new' (Kd.R_new' (Kd.R_new' (Kd.R_newM (M := fun k_ => (w.heap.size <= k_)) ho66z (below_size pB) (fun k_ h_ => h_)) (Kd.R_lt (Kd.R_below HO67z.out pl))) (Kd.R_lt (Kd.R_below HO79z.out pl))) (Kd.R_lt (Kd.R_below HO87z.out pl))) (Kd.R_lt (Kd.R_below HO88z.out pl))) (below_size pB)); have HO96z := am (Kd.R_lower (Kd.R_new' (Kd.R_new' (Kd.R_new' (Kd.R_new' (Kd.R_newM (M := fun k_ => (w.heap.size <= k_)) ho86z (below_size pB) (fun k_ h_ => h_)) (Kd.R_lt (Kd.R_below HO67z.out pl))) (Kd.R_lt (Kd.R_below HO79z.out pl))) (Kd.R_lt (Kd.R_below HO87z.out pl))) (Kd.R_lt (Kd.R_below HO88z.out pl))) (below_size pB)); replace HO0_1 := am (Kd.V_mono (Kd.V_told (Kd.V_told (Kd.V_old (Kd.V_below HO0_1.out pl) hb) (Kd.R_base ho66z)) (Kd.R_base ho86z)) (fun _ h_ => h_.1)); replace HO1_1 := am (Kd.V_mono (Kd.V_told (Kd.V_told (Kd.V_old (Kd.V_below HO1_1.out pl) hb) (Kd.R_base ho66z)) (Kd.R_base ho86z)) (fun _ h_ => h_.1)); replace HO42z := am (Kd.N_mono (Kd.N_told (Kd.N_told (Kd.N_old (Kd.N_below HO42z.out pl) hb) (Kd.R_base ho66z)) (Kd.R_base ho86z)) (fun _ h_ => h_.1)); replace HO67z := am (Kd.R_mono (Kd.R_told (Kd.R_told (Kd.R_old (Kd.R_below HO67z.out pl) hb) (Kd.R_base ho66z)) (Kd.R_base ho86z)) (fun _ h_ => h_.1)); replace HO79z := am (Kd.R_mono (Kd.R_told (Kd.R_told (Kd.R_old (Kd.R_below HO79z.out pl) hb) (Kd.R_base ho66z)) (Kd.R_base ho86z)) (fun _ h_ => h_.1)); replace HO87z := am (Kd.R_mono (Kd.R_told (Kd.R_told (Kd.R_old (Kd.R_below HO87z.out pl) hb) (Kd.R_base ho66z)) (Kd.R_base ho86z)) (fun _ h_ => h_.1)); replace HO88z := am (Kd.R_mono (Kd.R_told (Kd.R_told (Kd.R_old (Kd.R_below HO88z.out pl) hb) (Kd.R_base ho66z)) (Kd.R_base ho86z)) (fun _ h_ => h_.1)); replace BK2z := bb BK2z hb; replace BK7z := bb BK7z hb; replace BK14z := bb BK14z hb; replace HB := bS hb; (try clear hb); (try clear hb47z); (try clear hk); (try clear hi); (try clear ho66z); (try clear ho86z); obtain ⟨Ao97z, co98z, eo99z⟩ := Kd.R_slice HO88z.out; subst eo99z; obtain ⟨Ao100z, co101z, eo102z⟩ := Kd.R_slice HO95z.out; subst eo102z; obtain ⟨Ao103z, co104z, eo105z⟩ := Kd.R_slice HO96z.out; subst eo105z) | (refine gL (some 64) Tryz.func74 #[.slice Ao100z t406.length co101z, .slice Ao103z t407.length co104z, .int .i64 t408, .bool (decide (0 < t400.length))] (h := ?_); (with_reducible refine (quot_upward.calls k _ _ t406 _ _ t407 t408 (decide (0 < t400.length)) true _ ?side1 ?side2 ?side3 ?side4 A28.out).mono ?_); (case side1 => exact Kd.C_below (Kd.R_reads' HO95z.out).2.2 pl); (case side2 => exact (Kd.R_reads' HO95z.out).2.1); (case side3 => exact Kd.C_below (Kd.R_reads' HO96z.out).2.2 pl); (case side4 => exact (Kd.R_reads' HO96z.out).2.1); rintro e w106z ⟨rfl, hb⟩; refine ⟨_, rfl, ?_⟩; replace HO0_1 := vbl HO0_1 hb; replace HO1_1 := vbl HO1_1 hb; replace HO42z := nbl HO42z hb; replace HO67z := rbl HO67z hb; replace HO79z := rbl HO79z hb; replace HO87z := rbl HO87z hb; replace HO88z := rbl HO88z hb; replace HO95z := rbl HO95z hb; replace HO96z := rbl HO96z hb; replace BK2z := bb BK2z hb; replace BK7z := bb BK7z hb; replace BK14z := bb BK14z hb; replace HB := bS hb; (try clear hb); (try clear hb47z); (try clear hk); (try clear hi)) | (refine gL (some 66) Tryz.func76 #[.int .u64 1] (h := ?_); (with_reducible refine (nat_From.calls k 1 t414 _ A30.out).mono ?_); rintro e w107z ⟨v108z, rfl, ho66z, hb⟩; refine ⟨_, rfl, ?_⟩; have HO109z := am (Kd.R_lower (Kd.R_new' (Kd.R_new' (Kd.R_new' (Kd.R_new' (Kd.R_new' (Kd.R_new' (Kd.R_newM (M := fun k_ => (w.heap.size <= k_)) ho66z (below_size pB) (fun k_ h_ => h_)) (Kd.R_lt (Kd.R_below HO67z.out pl))) (Kd.R_lt (Kd.R_below HO79z.out pl))) (Kd.R_lt (Kd.R_below HO87z.out pl))) (Kd.R_lt (Kd.R_below HO88z.out pl))) (Kd.R_lt (Kd.R_below HO95z.out pl))) (Kd.R_lt (Kd.R_below HO96z.out pl))) (below_size pB)); replace HO0_1 := am (Kd.V_elder' (Kd.V_below HO0_1.out pl) (Kd.R_base ho66z) hb); replace HO1_1 := am (Kd.V_elder' (Kd.V_below HO1_1.out pl) (Kd.R_base ho66z) hb); replace HO42z := am (Kd.N_elder' (Kd.N_below HO42z.out pl) (Kd.R_base ho66z) hb); replace HO67z := reR HO67z ho66z hb; replace HO79z := reR HO79z ho66z hb; replace HO87z := reR HO87z ho66z hb; replace HO88z := reR HO88z ho66z hb; replace HO95z := reR HO95z ho66z hb; replace HO96z := reR HO96z ho66z hb; replace BK2z := bb BK2z hb; replace BK7z := bb BK7z hb; replace BK14z := bb BK14z hb; replace HB := bS hb; (try clear hb); (try clear hb47z); (try clear hk); (try clear hi); (try clear ho66z); obtain ⟨Ao110z, co111z, eo112z⟩ := Kd.R_slice HO109z.out; subst eo112z) | (refine gL (some 67) Tryz.func75 #[.slice Ao100z t406.length co101z, .slice Ao110z t414.length co111z] (h := ?_); (with_reducible refine (nat_Add.calls k _ _ t406 _ _ t414 t417 t418 _ ?side1 ?side2 ?side3 ?side4 A31.out).mono ?_); (case side1 => exact Kd.C_below (Kd.R_reads' HO95z.out).2.2 pl); (case side2 => exact (Kd.R_reads' HO95z.out).2.1); (case side3 => exact Kd.C_below (Kd.R_reads' HO109z.out).2.2 pl); (case side4 => exact (Kd.R_reads' HO109z.out).2.1); rintro e w113z ⟨v114z, rfl, ho66z, hb⟩; refine ⟨_, rfl, ?_⟩; have HO115z := am (Kd.R_lower (Kd.R_new' (Kd.R_new' (Kd.R_new' (Kd.R_new' (Kd.R_new' (Kd.R_new' (Kd.R_new' (Kd.R_newM (M := fun k_ => (w.heap.size <= k_)) ho66z (below_size pB) (fun k_ h_ => h_)) (Kd.R_lt (Kd.R_below HO67z.out pl))) (Kd.R_lt (Kd.R_below HO79z.out pl))) (Kd.R_lt (Kd.R_below HO87z.out pl))) (Kd.R_lt (Kd.R_below HO88z.out pl))) (Kd.R_lt (Kd.R_below HO95z.out pl))) (Kd.R_lt (Kd.R_below HO96z.out pl))) (Kd.R_lt (Kd.R_below HO109z.out pl))) (below_size pB)); replace HO0_1 := am (Kd.V_elder' (Kd.V_below HO0_1.out pl) (Kd.R_base ho66z) hb); replace HO1_1 := am (Kd.V_elder' (Kd.V_below HO1_1.out pl) (Kd.R_base ho66z) hb); replace HO42z := am (Kd.N_elder' (Kd.N_below HO42z.out pl) (Kd.R_base ho66z) hb); replace HO67z := reR HO67z ho66z hb; replace HO79z := reR HO79z ho66z hb; replace HO87z := reR HO87z ho66z hb; replace HO88z := reR HO88z ho66z hb; replace HO95z := reR HO95z ho66z hb; replace HO96z := reR HO96z ho66z hb; replace HO109z := reR HO109z ho66z hb; replace BK2z := bb BK2z hb; replace BK7z := bb BK7z hb; replace BK14z := bb BK14z hb; replace HB := bS hb; (try clear hb); (try clear hb47z); (try clear hk); (try clear hi); (try clear ho66z); obtain ⟨Ao116z, co117z, eo118z⟩ := Kd.R_slice HO115z.out; subst eo118z) | (refine gL (some 70) Tryz.func70 #[.slice Ao116z t417.length co117z, .int .i64 t418] (h := ?_); (with_reducible refine (quot_first_uint32.calls (fun k_ => some k_ = (.slice Ao116z t417.length co117z : Value).ownBlock) (.slice Ao116z t417.length co117z) t417 t418 t421 w _ ?side1 ?side2 A32.out).mono ?_); (case side1 => exact pB); (case side2 => exact Kd.R_tight rfl HO115z.out); rintro e w119z ⟨v120z, rfl, ho66z, hb, hkp⟩; refine ⟨_, rfl, ?_⟩; have HO121z := am (Kd.R_mono (ok' := fun k_ => (w.heap.size <= k_) /\ some k_ ≠ (.slice Ao68z t389.length co69z : Value).ownBlock /\ some k_ ≠ (.slice Ao80z t396.length co81z : Value).ownBlock /\ some k_ ≠ (.slice Ao89z t399.length co90z : Value).ownBlock /\ some k_ ≠ (.slice Ao97z t400.length co98z : Value).ownBlock /\ some k_ ≠ (.slice Ao100z t406.length co101z : Value).ownBlock /\ some k_ ≠ (.slice Ao103z t407.length co104z : Value).ownBlock /\ some k_ ≠ (.slice Ao110z t414.length co111z : Value).ownBlock) ho66z (fun k_ hk_ => ⟨Or.elim hk_ (fun hs_ => (HO115z.out.1 k_ (hs_).symm).1.1.1.1.1.1.1.1) (fun hn_ => (Nat.le_trans (below_size pB) hn_)), Or.elim hk_ (fun hs_ => fun e_ => (((HO67z.out).1 k_ e_.symm).2) hs_) (fun hn_ => (Kd.fresh' (Kd.R_lt (Kd.R_below HO67z.out pl)) k_ hn_)), Or.elim hk_ (fun hs_ => fun e_ => (((HO79z.out).1 k_ e_.symm).2) hs_) (fun hn_ => (Kd.fresh' (Kd.R_lt (Kd.R_below HO79z.out pl)) k_ hn_)), Or.elim hk_ (fun hs_ => fun e_ => (((HO87z.out).1 k_ e_.symm).2) hs_) (fun hn_ => (Kd.fresh' (Kd.R_lt (Kd.R_below HO87z.out pl)) k_ hn_)), Or.elim hk_ (fun hs_ => fun e_ => (((HO88z.out).1 k_ e_.symm).2) hs_) (fun hn_ => (Kd.fresh' (Kd.R_lt (Kd.R_below HO88z.out pl)) k_ hn_)), Or.elim hk_ (fun hs_ => fun e_ => (((HO95z.out).1 k_ e_.symm).2) hs_) (fun hn_ => (Kd.fresh' (Kd.R_lt (Kd.R_below HO95z.out pl)) k_ hn_)), Or.elim hk_ (fun hs_ => fun e_ => (((HO96z.out).1 k_ e_.symm).2) hs_) (fun hn_ => (Kd.fresh' (Kd.R_lt (Kd.R_below HO96z.out pl)) k_ hn_)), Or.elim hk_ (fun hs_ => fun e_ => (((HO109z.out).1 k_ e_.symm).2) hs_) (fun hn_ => (Kd.fresh' (Kd.R_lt (Kd.R_below HO109z.out pl)) k_ hn_))⟩)); replace HO0_1 := am (Kd.V_mono (ok' := fun k_ => ((P0_1_ k_ \/ P1_1_ k_) \/ w.heap.size <= k_) /\ some k_ ≠ (.slice Ao43z y383.length co44z : Value).ownBlock /\ some k_ ≠ (.slice Ao68z t389.length co69z : Value).ownBlock /\ some k_ ≠ (.slice Ao80z t396.length co81z : Value).ownBlock /\ some k_ ≠ (.slice Ao89z t399.length co90z : Value).ownBlock /\ some k_ ≠ (.slice Ao97z t400.length co98z : Value).ownBlock /\ some k_ ≠ (.slice Ao100z t406.length co101z : Value).ownBlock /\ some k_ ≠ (.slice Ao103z t407.length co104z : Value).ownBlock /\ some k_ ≠ (.slice Ao110z t414.length co111z : Value).ownBlock /\ k_ ≠ gb0z /\ k_ ≠ gb5z /\ k_ ≠ gb12z /\ some k_ ≠ (v120z : Value).ownBlock) (Kd.V_keptB (HO0_1.out) hkp (fun k_ hk_ hs_ => (hk_.2) hs_)) (fun k_ hk_ => ⟨hk_.1.1.1.1.1.1.1.1, hk_.1.1.1.1.1.1.1.2.1, hk_.1.1.1.1.1.1.1.2.2.1, hk_.1.1.1.1.1.1.1.2.2.2.2.2.2, hk_.1.1.1.1.1.1.2, hk_.1.1.1.1.1.2, hk_.1.1.1.1.2, hk_.1.1.1.2, hk_.1.1.2, hk_.1.1.1.1.1.1.1.2.2.2.1, hk_.1.1.1.1.1.1.1.2.2.2.2.1, hk_.1.1.1.1.1.1.1.2.2.2.2.2.1, fun e_ => Or.elim (ho66z.1 k_ e_.symm) (fun hs_ => hk_.2.1 hs_) (fun hn_ => Nat.not_le.2 hk_.2.2 hn_)⟩)); replace HO1_1 := am (Kd.V_mono (ok' := fun k_ => ((P0_1_ k_ \/ P1_1_ k_) \/ w.heap.size <= k_) /\ some k_ ≠ (.slice Ao43z y383.length co44z : Value).ownBlock /\ some k_ ≠ (.slice Ao68z t389.length co69z : Value).ownBlock /\ some k_ ≠ (.slice Ao80z t396.length co81z : Value).ownBlock /\ some k_ ≠ (.slice Ao89z t399.length co90z : Value).ownBlock /\ some k_ ≠ (.slice Ao97z t400.length co98z : Value).ownBlock /\ some k_ ≠ (.slice Ao100z t406.length co101z : Value).ownBlock /\ some k_ ≠ (.slice Ao103z t407.length co104z : Value).ownBlock /\ some k_ ≠ (.slice Ao110z t414.length co111z : Value).ownBlock /\ k_ ≠ gb0z /\ k_ ≠ gb5z /\ k_ ≠ gb12z /\ some k_ ≠ (v120z : Value).ownBlock) (Kd.V_keptB (HO1_1.out) hkp (fun k_ hk_ hs_ => (hk_.2) hs_)) (fun k_ hk_ => ⟨hk_.1.1.1.1.1.1.1.1, hk_.1.1.1.1.1.1.1.2.1, hk_.1.1.1.1.1.1.1.2.2.1, hk_.1.1.1.1.1.1.1.2.2.2.2.2.2, hk_.1.1.1.1.1.1.2, hk_.1.1.1.1.1.2, hk_.1.1.1.1.2, hk_.1.1.1.2, hk_.1.1.2, hk_.1.1.1.1.1.1.1.2.2.2.1, hk_.1.1.1.1.1.1.1.2.2.2.2.1, hk_.1.1.1.1.1.1.1.2.2.2.2.2.1, fun e_ => Or.elim (ho66z.1 k_ e_.symm) (fun hs_ => hk_.2.1 hs_) (fun hn_ => Nat.not_le.2 hk_.2.2 hn_)⟩)); replace BK2z := am (blk_kept (blk_below BK2z.out pl) hkp (fun hs_ => (fun e_ => (Kd.R_ne HO115z.out BK2z.out (by decide)) e_) hs_)); replace BK7z := am (blk_kept (blk_below BK7z.out pl) hkp (fun hs_ => (fun e_ => (Kd.R_ne HO115z.out BK7z.out (by decide)) e_) hs_)); replace BK14z := am (blk_kept (blk_below BK14z.out pl) hkp (fun hs_ => (fun e_ => (Kd.R_ne HO115z.out BK14z.out (by decide)) e_) hs_)); replace HO42z := am (Kd.N_mono (ok' := fun k_ => ((P0_1_ k_ \/ P1_1_ k_) \/ w.heap.size <= k_) /\ some k_ ≠ (.slice Ao68z t389.length co69z : Value).ownBlock /\ some k_ ≠ (.slice Ao80z t396.length co81z : Value).ownBlock /\ some k_ ≠ (.slice Ao89z t399.length co90z : Value).ownBlock /\ some k_ ≠ (.slice Ao97z t400.length co98z : Value).ownBlock /\ some k_ ≠ (.slice Ao100z t406.length co101z : Value).ownBlock /\ some k_ ≠ (.slice Ao103z t407.length co104z : Value).ownBlock /\ some k_ ≠ (.slice Ao110z t414.length co111z : Value).ownBlock /\ k_ ≠ gb0z /\ k_ ≠ gb5z /\ k_ ≠ gb12z /\ some k_ ≠ (v120z : Value).ownBlock) (Kd.N_keptB (HO42z.out) hkp (fun k_ hk_ hs_ => (hk_.2) hs_)) (fun k_ hk_ => ⟨hk_.1.1.1.1.1.1.1.1, hk_.1.1.1.1.1.1.1.2.1, hk_.1.1.1.1.1.1.1.2.2.2.2.2, hk_.1.1.1.1.1.1.2, hk_.1.1.1.1.1.2, hk_.1.1.1.1.2, hk_.1.1.1.2, hk_.1.1.2, hk_.1.1.1.1.1.1.1.2.2.1, hk_.1.1.1.1.1.1.1.2.2.2.1, hk_.1.1.1.1.1.1.1.2.2.2.2.1, fun e_ => Or.elim (ho66z.1 k_ e_.symm) (fun hs_ => hk_.2.1 hs_) (fun hn_ => Nat.not_le.2 hk_.2.2 hn_)⟩)); replace HO67z := am (Kd.R_mono (ok' := fun k_ => (w.heap.size <= k_) /\ some k_ ≠ (.slice Ao80z t396.length co81z : Value).ownBlock /\ some k_ ≠ (.slice Ao89z t399.length co90z : Value).ownBlock /\ some k_ ≠ (.slice Ao97z t400.length co98z : Value).ownBlock /\ some k_ ≠ (.slice Ao100z t406.length co101z : Value).ownBlock /\ some k_ ≠ (.slice Ao103z t407.length co104z : Value).ownBlock /\ some k_ ≠ (.slice Ao110z t414.length co111z : Value).ownBlock /\ some k_ ≠ (v120z : Value).ownBlock) (Kd.R_keptB (HO67z.out) hkp (fun k_ hk_ hs_ => (hk_.2) hs_)) (fun k_ hk_ => ⟨hk_.1.1.1.1.1.1.1.1, hk_.1.1.1.1.1.1.1.2, hk_.1.1.1.1.1.1.2, hk_.1.1.1.1.1.2, hk_.1.1.1.1.2, hk_.1.1.1.2, hk_.1.1.2, fun e_ => Or.elim (ho66z.1 k_ e_.symm) (fun hs_ => hk_.2.1 hs_) (fun hn_ => Nat.not_le.2 hk_.2.2 hn_)⟩)); replace HO79z := am (Kd.R_mono (ok' := fun k_ => (w.heap.size <= k_) /\ some k_ ≠ (.slice Ao68z t389.length co69z : Value).ownBlock /\ some k_ ≠ (.slice Ao89z t399.length co90z : Value).ownBlock /\ some k_ ≠ (.slice Ao97z t400.length co98z : Value).ownBlock /\ some k_ ≠ (.slice Ao100z t406.length co101z : Value).ownBlock /\ some k_ ≠ (.slice Ao103z t407.length co104z : Value).ownBlock /\ some k_ ≠ (.slice Ao110z t414.length co111z : Value).ownBlock /\ some k_ ≠ (v120z : Value).ownBlock) (Kd.R_keptB (HO79z.out) hkp (fun k_ hk_ hs_ => (hk_.2) hs_)) (fun k_ hk_ => ⟨hk_.1.1.1.1.1.1.1.1, hk_.1.1.1.1.1.1.1.2, hk_.1.1.1.1.1.1.2, hk_.1.1.1.1.1.2, hk_.1.1.1.1.2, hk_.1.1.1.2, hk_.1.1.2, fun e_ => Or.elim (ho66z.1 k_ e_.symm) (fun hs_ => hk_.2.1 hs_) (fun hn_ => Nat.not_le.2 hk_.2.2 hn_)⟩)); replace HO87z := am (Kd.R_mono (ok' := fun k_ => (w.heap.size <= k_) /\ some k_ ≠ (.slice Ao68z t389.length co69z : Value).ownBlock /\ some k_ ≠ (.slice Ao80z t396.length co81z : Value).ownBlock /\ some k_ ≠ (.slice Ao97z t400.length co98z : Value).ownBlock /\ some k_ ≠ (.slice Ao100z t406.length co101z : Value).ownBlock /\ some k_ ≠ (.slice Ao103z t407.length co104z : Value).ownBlock /\ some k_ ≠ (.slice Ao110z t414.length co111z : Value).ownBlock /\ some k_ ≠ (v120z : Value).ownBlock) (Kd.R_keptB (HO87z.out) hkp (fun k_ hk_ hs_ => (hk_.2) hs_)) (fun k_ hk_ => ⟨hk_.1.1.1.1.1.1.1.1, hk_.1.1.1.1.1.1.2, hk_.1.1.1.1.1.2, hk_.1.1.1.1.1.1.1.2, hk_.1.1.1.1.2, hk_.1.1.1.2, hk_.1.1.2, fun e_ => Or.elim (ho66z.1 k_ e_.symm) (fun hs_ => hk_.2.1 hs_) (fun hn_ => Nat.not_le.2 hk_.2.2 hn_)⟩)); replace HO88z := am (Kd.R_mono (ok' := fun k_ => (w.heap.size <= k_) /\ some k_ ≠ (.slice Ao68z t389.length co69z : Value).ownBlock /\ some k_ ≠ (.slice Ao80z t396.length co81z : Value).ownBlock /\ some k_ ≠ (.slice Ao89z t399.length co90z : Value).ownBlock /\ some k_ ≠ (.slice Ao100z t406.length co101z : Value).ownBlock /\ some k_ ≠ (.slice Ao103z t407.length co104z : Value).ownBlock /\ some k_ ≠ (.slice Ao110z t414.length co111z : Value).ownBlock /\ some k_ ≠ (v120z : Value).ownBlock) (Kd.R_keptB (HO88z.out) hkp (fun k_ hk_ hs_ => (hk_.2) hs_)) (fun k_ hk_ => ⟨hk_.1.1.1.1.1.1.1.1, hk_.1.1.1.1.1.1.2, hk_.1.1.1.1.1.2, hk_.1.1.1.1.1.1.1.2, hk_.1.1.1.1.2, hk_.1.1.1.2, hk_.1.1.2, fun e_ => Or.elim (ho66z.1 k_ e_.symm) (fun hs_ => hk_.2.1 hs_) (fun hn_ => Nat.not_le.2 hk_.2.2 hn_)⟩)); replace HO95z := am (Kd.R_mono (ok' := fun k_ => (w.heap.size <= k_) /\ some k_ ≠ (.slice Ao68z t389.length co69z : Value).ownBlock /\ some k_ ≠ (.slice Ao80z t396.length co81z : Value).ownBlock /\ some k_ ≠ (.slice Ao89z t399.length co90z : Value).ownBlock /\ some k_ ≠ (.slice Ao97z t400.length co98z : Value).ownBlock /\ some k_ ≠ (.slice Ao103z t407.length co104z : Value).ownBlock /\ some k_ ≠ (.slice Ao110z t414.length co111z : Value).ownBlock /\ some k_ ≠ (v120z : Value).ownBlock) (Kd.R_keptB (HO95z.out) hkp (fun k_ hk_ hs_ => (hk_.2) hs_)) (fun k_ hk_ => ⟨hk_.1.1.1.1.1.1.1.1, hk_.1.1.1.1.1.1.2, hk_.1.1.1.1.1.2, hk_.1.1.1.1.2, hk_.1.1.1.2, hk_.1.1.1.1.1.1.1.2, hk_.1.1.2, fun e_ => Or.elim (ho66z.1 k_ e_.symm) (fun hs_ => hk_.2.1 hs_) (fun hn_ => Nat.not_le.2 hk_.2.2 hn_)⟩)); replace HO96z := am (Kd.R_mono (ok' := fun k_ => (w.heap.size <= k_) /\ some k_ ≠ (.slice Ao68z t389.length co69z : Value).ownBlock /\ some k_ ≠ (.slice Ao80z t396.length co81z : Value).ownBlock /\ some k_ ≠ (.slice Ao89z t399.length co90z : Value).ownBlock /\ some k_ ≠ (.slice Ao97z t400.length co98z : Value).ownBlock /\ some k_ ≠ (.slice Ao100z t406.length co101z : Value).ownBlock /\ some k_ ≠ (.slice Ao110z t414.length co111z : Value).ownBlock /\ some k_ ≠ (v120z : Value).ownBlock) (Kd.R_keptB (HO96z.out) hkp (fun k_ hk_ hs_ => (hk_.2) hs_)) (fun k_ hk_ => ⟨hk_.1.1.1.1.1.1.1.1, hk_.1.1.1.1.1.1.2, hk_.1.1.1.1.1.2, hk_.1.1.1.1.2, hk_.1.1.1.2, hk_.1.1.1.1.1.1.1.2, hk_.1.1.2, fun e_ => Or.elim (ho66z.1 k_ e_.symm) (fun hs_ => hk_.2.1 hs_) (fun hn_ => Nat.not_le.2 hk_.2.2 hn_)⟩)); replace HO109z := am (Kd.R_mono (ok' := fun k_ => (w.heap.size <= k_) /\ some k_ ≠ (.slice Ao68z t389.length co69z : Value).ownBlock /\ some k_ ≠ (.slice Ao80z t396.length co81z : Value).ownBlock /\ some k_ ≠ (.slice Ao89z t399.length co90z : Value).ownBlock /\ some k_ ≠ (.slice Ao97z t400.length co98z : Value).ownBlock /\ some k_ ≠ (.slice Ao100z t406.length co101z : Value).ownBlock /\ some k_ ≠ (.slice Ao103z t407.length co104z : Value).ownBlock /\ some k_ ≠ (v120z : Value).ownBlock) (Kd.R_keptB (HO109z.out) hkp (fun k_ hk_ hs_ => (hk_.2) hs_)) (fun k_ hk_ => ⟨hk_.1.1.1.1.1.1.1.1.1, hk_.1.1.1.1.1.1.1.2, hk_.1.1.1.1.1.1.2, hk_.1.1.1.1.1.2, hk_.1.1.1.1.2, hk_.1.1.1.2, hk_.1.1.2, fun e_ => Or.elim (ho66z.1 k_ e_.symm) (fun hs_ => hk_.2.1 hs_) (fun hn_ => Nat.not_le.2 hk_.2.2 hn_)⟩)); replace HB := am hb; clear HO115z; (try clear hb); (try clear hkp); (try clear ho66z); obtain ⟨hcz122z, hcz123z, hcz124z, hfz125z, hfz126z, hfz127z⟩ := cEc BK2z.out; obtain ⟨hcz128z, hcz129z, hcz130z, hfz131z, hfz132z, hfz133z⟩ := cEc BK7z.out; obtain ⟨Ao134z, co135z, eo136z⟩ := Kd.R_slice HO121z.out; subst eo136z) | ((with_reducible refine gate_callee (f := 60) rfl ?_); refine goesL_ (some 86) rfl rfl Tryz.func60 (by kernel_rfl) rfl #[.bool (a0_0 != a1_0), .slice Ao134z t421.length co135z, .int .i64 (wrap64 ((wrap64 ((wrap64 (a0_2 - a1_2)) - (ji22))) + t408))] rfl (by (try simp only [List.map_toArray, List.map_cons, List.map_nil]); first | done | (simp only [hji22]; rfl) | rfl | (simp only [List.length_drop, List.length_take]; rfl)) ?_; (with_reducible refine (dec_Settle.calls k (a0_0 != a1_0) _ _ t421 (wrap64 ((wrap64 ((wrap64 (a0_2 - a1_2)) - (ji22))) + t408)) t424 t425 t428 t429 _ ?side1 ?side2 A33.out).mono ?_); (case side1 => exact Kd.C_below (Kd.R_reads' HO121z.out).2.2 pl); (case side2 => exact (Kd.R_reads' HO121z.out).2.1); rintro e w137z ⟨v138z, rfl, ho66z, hb⟩; refine ⟨_, rfl, ?_⟩; have HO139z := am (Kd.R_lower (Kd.R_new' (Kd.R_new' (Kd.R_new' (Kd.R_new' (Kd.R_new' (Kd.R_new' (Kd.R_new' (Kd.R_new' (Kd.R_newM (M := fun k_ => (w.heap.size <= k_)) ho66z (below_size pB) (fun k_ h_ => h_)) (Kd.R_lt (Kd.R_below HO67z.out pl))) (Kd.R_lt (Kd.R_below HO79z.out pl))) (Kd.R_lt (Kd.R_below HO87z.out pl))) (Kd.R_lt (Kd.R_below HO88z.out pl))) (Kd.R_lt (Kd.R_below HO95z.out pl))) (Kd.R_lt (Kd.R_below HO96z.out pl))) (Kd.R_lt (Kd.R_below HO109z.out pl))) (Kd.R_lt (Kd.R_below HO121z.out pl))) (below_size pB)); replace HO0_1 := am (Kd.V_elder' (Kd.V_below HO0_1.out pl) (Kd.R_base ho66z) hb); replace HO1_1 := am (Kd.V_elder' (Kd.V_below HO1_1.out pl) (Kd.R_base ho66z) hb); replace HO42z := am (Kd.N_elder' (Kd.N_below HO42z.out pl) (Kd.R_base ho66z) hb); replace HO67z := reR HO67z ho66z hb; replace HO79z := reR HO79z ho66z hb; replace HO87z := reR HO87z ho66z hb; replace HO88z := reR HO88z ho66z hb; replace HO95z := reR HO95z ho66z hb; replace HO96z := reR HO96z ho66z hb; replace HO109z := reR HO109z ho66z hb; replace HO121z := reR HO121z ho66z hb; replace BK2z := bb BK2z hb; replace BK7z := bb BK7z hb; replace BK14z := bb BK14z hb; replace HB := bS hb; (try clear hb); (try clear hb47z); (try clear hk); (try clear hi); (try clear ho66z); obtain ⟨hcz140z, hcz141z, hcz142z, hfz143z, hfz144z, hfz145z⟩ := cEc BK14z.out; obtain ⟨Ao146z, co147z, eo148z⟩ := Kd.R_slice HO139z.out; subst eo148z) | (refine gL (some 64) Tryz.func74 #[.slice Ao100z t406.length co101z, .slice Ao103z t407.length co104z, .int .i64 t408, .bool (decide (0 < t400.length))] (h := ?_); (with_reducible refine (quot_upward.calls k _ _ t406 _ _ t407 t408 (decide (0 < t400.length)) false _ ?side1 ?side2 ?side3 ?side4 A28.out).mono ?_); (case side1 => exact Kd.C_below (Kd.R_reads' HO95z.out).2.2 pl); (case side2 => exact (Kd.R_reads' HO95z.out).2.1); (case side3 => exact Kd.C_below (Kd.R_reads' HO96z.out).2.2 pl); (case side4 => exact (Kd.R_reads' HO96z.out).2.1); rintro e w106z ⟨rfl, hb⟩; refine ⟨_, rfl, ?_⟩; replace HO0_1 := vbl HO0_1 hb; replace HO1_1 := vbl HO1_1 hb; replace HO42z := nbl HO42z hb; replace HO67z := rbl HO67z hb; replace HO79z := rbl HO79z hb; replace HO87z := rbl HO87z hb; replace HO88z := rbl HO88z hb; replace HO95z := rbl HO95z hb; replace HO96z := rbl HO96z hb; replace BK2z := bb BK2z hb; replace BK7z := bb BK7z hb; replace BK14z := bb BK14z hb; replace HB := bS hb; (try clear hb); (try clear hb47z); (try clear hk); (try clear hi); obtain ⟨hcz107z, hcz108z, hcz109z, hfz110z, hfz111z, hfz112z⟩ := cEc BK2z.out; obtain ⟨hcz113z, hcz114z, hcz115z, hfz116z, hfz117z, hfz118z⟩ := cEc BK7z.out) | ((with_reducible refine gate_callee (f := 60) rfl ?_); refine goesL_ (some 86) rfl rfl Tryz.func60 (by kernel_rfl) rfl #[.bool (a0_0 != a1_0), .slice Ao100z t406.length co101z, .int .i64 (wrap64 ((wrap64 ((wrap64 (a0_2 - a1_2)) - (ji22))) + t408))] rfl (by (try simp only [List.map_toArray, List.map_cons, List.map_nil]); first | done | (simp only [hji22]; rfl) | rfl | (simp only [List.length_drop, List.length_take]; rfl)) ?_; (with_reducible refine (dec_Settle.calls k (a0_0 != a1_0) _ _ t406 (wrap64 ((wrap64 ((wrap64 (a0_2 - a1_2)) - (ji22))) + t408)) t430 t431 t434 t435 _ ?side1 ?side2 A75.out).mono ?_); (case side1 => exact Kd.C_below (Kd.R_reads' HO95z.out).2.2 pl); (case side2 => exact (Kd.R_reads' HO95z.out).2.1); rintro e w119z ⟨v120z, rfl, ho66z, hb⟩; refine ⟨_, rfl, ?_⟩; have HO121z := am (Kd.R_lower (Kd.R_new' (Kd.R_new' (Kd.R_new' (Kd.R_new' (Kd.R_new' (Kd.R_new' (Kd.R_newM (M := fun k_ => (w.heap.size <= k_)) ho66z (below_size pB) (fun k_ h_ => h_)) (Kd.R_lt (Kd.R_below HO67z.out pl))) (Kd.R_lt (Kd.R_below HO79z.out pl))) (Kd.R_lt (Kd.R_below HO87z.out pl))) (Kd.R_lt (Kd.R_below HO88z.out pl))) (Kd.R_lt (Kd.R_below HO95z.out pl))) (Kd.R_lt (Kd.R_below HO96z.out pl))) (below_size pB)); replace HO0_1 := am (Kd.V_elder' (Kd.V_below HO0_1.out pl) (Kd.R_base ho66z) hb); replace HO1_1 := am (Kd.V_elder' (Kd.V_below HO1_1.out pl) (Kd.R_base ho66z) hb); replace HO42z := am (Kd.N_elder' (Kd.N_below HO42z.out pl) (Kd.R_base ho66z) hb); replace HO67z := reR HO67z ho66z hb; replace HO79z := reR HO79z ho66z hb; replace HO87z := reR HO87z ho66z hb; replace HO88z := reR HO88z ho66z hb; replace HO95z := reR HO95z ho66z hb; replace HO96z := reR HO96z ho66z hb; replace BK2z := bb BK2z hb; replace BK7z := bb BK7z hb; replace BK14z := bb BK14z hb; replace HB := bS hb; (try clear hb); (try clear hb47z); (try clear hk); (try clear hi); (try clear ho66z); obtain ⟨hcz122z, hcz123z, hcz124z, hfz125z, hfz126z, hfz127z⟩ := cEc BK14z.out; obtain ⟨Ao128z, co129z, eo130z⟩ := Kd.R_slice HO121z.out; subst eo130z))
    first
     | have q_ := A33
       refine bodyPost_ret (results_ct rfl _ _ gb12z 24 #[.bool t424, .slice Ao146z t425.length co147z, .int .i64 t428] (0, 0) _ rfl (by refine bp ?_; refine blk_put (cs := #[.bool t424, .slice Ao146z t425.length co147z, .int .i64 0]) ?_ 2 _ rfl; refine bp ?_; refine blk_put (cs := #[.bool t424, .slice none 0 0, .int .i64 0]) ?_ 1 _ rfl; refine bp ?_; refine blk_put (cs := #[.bool false, .slice none 0 0, .int .i64 0]) ?_ 0 _ rfl; exact bp BK14z.out) Tryz.underlying24 rfl (by kernel_rfl)) rfl ?_
       exact ⟨_, by first | rfl | (simp [errW_none, errW_some] <;> rfl) | (simp only [<- hji22]; first | rfl | (simp [errW_none, errW_some] <;> rfl)) | (simp [*, errW_none, errW_some] <;> rfl), by refine rp ?_; exact Kd.R_mono (Kd.R_far (p := ⟨gb12z, 2, none⟩) (Kd.R_far (p := ⟨gb12z, 1, none⟩) (Kd.R_far (p := ⟨gb12z, 0, none⟩) (Kd.R_types HO139z.out BK14z.out (by decide)) (fun _ hk => hk.2) (.bool t424)) (fun _ hk => hk.2) (.slice Ao146z t425.length co147z)) (fun _ hk => hk.2) (.int .i64 t428)) (fun _ hk => hk.1.1.1.1.1.1.1.1.1.1), pB⟩
     | refine bodyPost_ret (results_ct rfl _ _ gb12z 24 #[.bool t430, .slice Ao128z t431.length co129z, .int .i64 t434] (0, 0) _ rfl (by refine bp ?_; refine blk_put (cs := #[.bool t430, .slice Ao128z t431.length co129z, .int .i64 0]) ?_ 2 _ rfl; refine bp ?_; refine blk_put (cs := #[.bool t430, .slice none 0 0, .int .i64 0]) ?_ 1 _ rfl; refine bp ?_; refine blk_put (cs := #[.bool false, .slice none 0 0, .int .i64 0]) ?_ 0 _ rfl; exact bp BK14z.out) Tryz.underlying24 rfl (by kernel_rfl)) rfl ?_
       exact ⟨_, by first | rfl | (simp [errW_none, errW_some] <;> rfl) | (simp only [<- hji22]; first | rfl | (simp [errW_none, errW_some] <;> rfl)) | (simp [*, errW_none, errW_some] <;> rfl), by refine rp ?_; exact Kd.R_mono (Kd.R_far (p := ⟨gb12z, 2, none⟩) (Kd.R_far (p := ⟨gb12z, 1, none⟩) (Kd.R_far (p := ⟨gb12z, 0, none⟩) (Kd.R_types HO121z.out BK14z.out (by decide)) (fun _ hk => hk.2) (.bool t430)) (fun _ hk => hk.2) (.slice Ao128z t431.length co129z)) (fun _ hk => hk.2) (.int .i64 t434)) (fun _ hk => hk.1.1.1.1.1.1.1.1), pB⟩
  | refine bodyPost_ret (results_ct rfl _ _ gb12z 24 #[.bool false, .slice none 0 0, .int .i64 0] (0, 0) _ rfl (by refine bp ?_; refine blk_put (cs := #[.bool false, .slice none 0 0, .int .i64 0]) ?_ 2 _ rfl; refine bp ?_; refine blk_put (cs := #[.bool false, .slice none 0 0, .int .i64 0]) ?_ 1 _ rfl; refine bp ?_; refine blk_put (cs := #[.bool false, .slice none 0 0, .int .i64 0]) ?_ 0 _ rfl; exact bp BK14z.out) Tryz.underlying24 rfl (by kernel_rfl)) rfl ?_
    exact ⟨_, pE, pN, pB⟩) : P := h
theorem quot_Div.calls (k : Nat) (a0_0 : Bool) (P0_1_ : Nat -> Prop) (A0_1 : Option Addr) (c0_1 : Nat) (l0_1 : List Int) (a0_2 : Int) (a1_0 : Bool) (P1_1_ : Nat -> Prop) (A1_1 : Option Addr) (c1_1 : Nat) (l1_1 : List Int) (a1_2 : Int) (r1 : Bool) (r2 : List Int) (r3 : Int) (r4 : Int) (w : World) (hs0_1 : Kd.V (Kd.int .u32) 85 w w.heap.size (fun k_ => P0_1_ k_) (.slice A0_1 l0_1.length c0_1) l0_1) (hs1_1 : Kd.V (Kd.int .u32) 85 w w.heap.size (fun k_ => P1_1_ k_) (.slice A1_1 l1_1.length c1_1) l1_1) (h : quot_Div.f k a0_0 l0_1 a0_2 a1_0 l1_1 a1_2 = some (r1, r2, r3, r4)) :
  Calls Tryz.prog 19 #[.agg #[.bool a0_0, .slice A0_1 l0_1.length c0_1, .int .i64 a0_2], .agg #[.bool a1_0, .slice A1_1 l1_1.length c1_1, .int .i64 a1_2]] w fun e w' => ∃ v1_ : Value, e = .returned (.tuple #[.agg #[.bool r1, v1_, .int .i64 r3], .int .i64 r4]) /\ Kd.R (Kd.int .u32) 85 w' w.heap.size (fun k_ => (w.heap.size <= k_)) v1_ r2 /\ Below w.heap.size w w' := by
 have hu24 := Tryz.underlying24
 have HO0_1 := am (show Kd.V (Kd.int .u32) 85 w w.heap.size (fun k_ => ((P0_1_ k_ \/ P1_1_ k_) \/ w.heap.size <= k_)) (.slice A0_1 l0_1.length c0_1) l0_1 from Kd.V_mono hs0_1 (fun k_ hk => .inl (.inl hk)))
 have HO1_1 := am (show Kd.V (Kd.int .u32) 85 w w.heap.size (fun k_ => ((P0_1_ k_ \/ P1_1_ k_) \/ w.heap.size <= k_)) (.slice A1_1 l1_1.length c1_1) l1_1 from Kd.V_mono hs1_1 (fun k_ hk => .inl (.inr hk)))
 have HB := am (Below.refl w.heap.size w)
 have H : ((quot_ask.f k (([(⟨a0_0, l0_1, a0_2⟩ : S24), (⟨a1_0, l1_1, a1_2⟩ : S24)] : List (S24)))).bind fun t386 => (if t386 = 0 then (if (l1_1.length : Int) = 0 then (some (false, ([] : List Int), 0, 53)) else ((quot_digits.f k l1_1).bind fun t387 => ((quot_digits.f k l0_1).bind fun t388 => ((quot_pow.f k (mx (wrap64 ((wrap64 ((wrap64 (t387 - t388)) + 40)) + 2)) 0)).bind fun t389 => ((nat_Mul.f k l0_1 t389).bind fun bt392 => ((quot_first_uint32.f bt392.1 bt392.2).bind fun t396 => ((nat_Div.f k t396 l1_1).bind fun bt399 => ((quot_parted.f k bt399.1 40).bind fun bt406 => ((quot_upward.f k bt406.1 bt406.2.1 bt406.2.2 (decide ((bt399.2.1.length : Int) > 0))).bind fun t413 => (if t413 = true then ((nat_From.f k 1).bind fun t414 => ((nat_Add.f k bt406.1 t414).bind fun bt417 => ((quot_first_uint32.f bt417.1 bt417.2).bind fun t421 => ((dec_Settle.f k (a0_0 != a1_0) t421 (wrap64 ((wrap64 ((wrap64 (a0_2 - a1_2)) - (mx (wrap64 ((wrap64 ((wrap64 (t387 - t388)) + 40)) + 2)) 0))) + bt406.2.2))).bind fun bt424 => (some (bt424.1, bt424.2.1, bt424.2.2.1, bt424.2.2.2)))))) else ((dec_Settle.f k (a0_0 != a1_0) bt406.1 (wrap64 ((wrap64 ((wrap64 (a0_2 - a1_2)) - (mx (wrap64 ((wrap64 ((wrap64 (t387 - t388)) + 40)) + 2)) 0))) + bt406.2.2))).bind fun bt430 => (some (bt430.1, bt430.2.1, bt430.2.2.1, bt430.2.2.2))))))))))))) else (some (false, ([] : List Int), 0, t386)))) = some (r1, r2, r3, r4) := h
 clear h
 obtain ⟨y383, hy383⟩ : ∃ y_ : List (S24), y_ = (([(⟨a0_0, l0_1, a0_2⟩ : S24), (⟨a1_0, l1_1, a1_2⟩ : S24)] : List (S24))) := ⟨_, rfl⟩
 replace H : ((quot_ask.f k y383).bind fun t386 => (if t386 = 0 then (if (l1_1.length : Int) = 0 then (some (false, ([] : List Int), 0, 53)) else ((quot_digits.f k l1_1).bind fun t387 => ((quot_digits.f k l0_1).bind fun t388 => ((quot_pow.f k (mx (wrap64 ((wrap64 ((wrap64 (t387 - t388)) + 40)) + 2)) 0)).bind fun t389 => ((nat_Mul.f k l0_1 t389).bind fun bt392 => ((quot_first_uint32.f bt392.1 bt392.2).bind fun t396 => ((nat_Div.f k t396 l1_1).bind fun bt399 => ((quot_parted.f k bt399.1 40).bind fun bt406 => ((quot_upward.f k bt406.1 bt406.2.1 bt406.2.2 (decide ((bt399.2.1.length : Int) > 0))).bind fun t413 => (if t413 = true then ((nat_From.f k 1).bind fun t414 => ((nat_Add.f k bt406.1 t414).bind fun bt417 => ((quot_first_uint32.f bt417.1 bt417.2).bind fun t421 => ((dec_Settle.f k (a0_0 != a1_0) t421 (wrap64 ((wrap64 ((wrap64 (a0_2 - a1_2)) - (mx (wrap64 ((wrap64 ((wrap64 (t387 - t388)) + 40)) + 2)) 0))) + bt406.2.2))).bind fun bt424 => (some (bt424.1, bt424.2.1, bt424.2.2.1, bt424.2.2.2)))))) else ((dec_Settle.f k (a0_0 != a1_0) bt406.1 (wrap64 ((wrap64 ((wrap64 (a0_2 - a1_2)) - (mx (wrap64 ((wrap64 ((wrap64 (t387 - t388)) + 40)) + 2)) 0))) + bt406.2.2))).bind fun bt430 => (some (bt430.1, bt430.2.1, bt430.2.2.1, bt430.2.2.2))))))))))))) else (some (false, ([] : List Int), 0, t386)))) = some (r1, r2, r3, r4) := by have hy_ := hy383; exact pH
 have Ny383 := am hy383
 clear hy383
 obtain ⟨t386, A3, H⟩ := ob H
 by_cases c4 : t386 = 0
 ·rw [if_pos c4] at H
  have c4b0 : (t386 == 0) = true := beq_iff_eq.mpr c4
  have c4b1 : (t386 != 0) = false := bne_eq_false_iff_eq.mpr c4
  clear c4
  by_cases c5 : (l1_1.length : Int) = 0
  ·rw [if_pos c5] at H
   have c5b0 : ((l1_1.length : Int) == 0) = true := beq_iff_eq.mpr c5
   have c5b1 : ((l1_1.length : Int) != 0) = false := bne_eq_false_iff_eq.mpr c5
   clear c5
   simp only [Option.some.injEq, Prod.mk.injEq] at H
   obtain ⟨rfl, rfl, rfl, rfl⟩ := H
   exact quot_Div.leaf
  ·rw [if_neg c5] at H
   have c5b0 : ((l1_1.length : Int) == 0) = false := beq_eq_false_iff_ne.mpr c5
   have c5b1 : ((l1_1.length : Int) != 0) = true := bne_iff_ne.mpr c5
   have c5b2 : ¬ (l1_1 = []) := fun h_ => c5 (by rw [h_]; rfl)
   obtain ⟨t387, A20, H⟩ := ob H
   obtain ⟨t388, A21, H⟩ := ob H
   obtain ⟨ji22, hji22⟩ : ∃ j_ : Int, (mx (wrap64 ((wrap64 ((wrap64 (t387 - t388)) + 40)) + 2)) 0) = j_ := ⟨_, rfl⟩
   replace H : ((quot_pow.f k (ji22)).bind fun t389 => ((nat_Mul.f k l0_1 t389).bind fun bt392 => ((quot_first_uint32.f bt392.1 bt392.2).bind fun t396 => ((nat_Div.f k t396 l1_1).bind fun bt399 => ((quot_parted.f k bt399.1 40).bind fun bt406 => ((quot_upward.f k bt406.1 bt406.2.1 bt406.2.2 (decide ((bt399.2.1.length : Int) > 0))).bind fun t413 => (if t413 = true then ((nat_From.f k 1).bind fun t414 => ((nat_Add.f k bt406.1 t414).bind fun bt417 => ((quot_first_uint32.f bt417.1 bt417.2).bind fun t421 => ((dec_Settle.f k (a0_0 != a1_0) t421 (wrap64 ((wrap64 ((wrap64 (a0_2 - a1_2)) - (ji22))) + bt406.2.2))).bind fun bt424 => (some (bt424.1, bt424.2.1, bt424.2.2.1, bt424.2.2.2)))))) else ((dec_Settle.f k (a0_0 != a1_0) bt406.1 (wrap64 ((wrap64 ((wrap64 (a0_2 - a1_2)) - (ji22))) + bt406.2.2))).bind fun bt430 => (some (bt430.1, bt430.2.1, bt430.2.2.1, bt430.2.2.2)))))))))) = some (r1, r2, r3, r4) := by first | (rw [hji22] at H; exact H) | (simp only [hji22] at H ⊢; exact H)
   (try rw [hji22] at A3)
   (try rw [hji22] at A20)
   (try rw [hji22] at A21)
   (try (have hji22l : 0 <= ji22 := by (rw [<- hji22]; unfold mx; (repeat' split) <;> omega)))
   (try (have hji22m : 0 <= ji22 := by omega))
   have hji22_ : (if (wrap64 ((wrap64 ((wrap64 (t387 - t388)) + 40)) + 2)) < 0 then 0 else (wrap64 ((wrap64 ((wrap64 (t387 - t388)) + 40)) + 2))) = ji22 := hji22
   obtain ⟨t389, A23, H⟩ := ob H
   obtain ⟨⟨t392, t393⟩, A24, H⟩ := ob H; (try dsimp only at H)
   obtain ⟨t396, A25, H⟩ := ob H
   replace H := Option.bind_eq_some_iff.mp H
   obtain ⟨⟨t399, t400, t401⟩, A260, H⟩ := H
   replace H : ((quot_parted.f k t399 40).bind fun bt406 => ((quot_upward.f k bt406.1 bt406.2.1 bt406.2.2 (decide (0 < t400.length))).bind fun t413 => (if t413 = true then ((nat_From.f k 1).bind fun t414 => ((nat_Add.f k bt406.1 t414).bind fun bt417 => ((quot_first_uint32.f bt417.1 bt417.2).bind fun t421 => ((dec_Settle.f k (a0_0 != a1_0) t421 (wrap64 ((wrap64 ((wrap64 (a0_2 - a1_2)) - (ji22))) + bt406.2.2))).bind fun bt424 => (some (bt424.1, bt424.2.1, bt424.2.2.1, bt424.2.2.2)))))) else ((dec_Settle.f k (a0_0 != a1_0) bt406.1 (wrap64 ((wrap64 ((wrap64 (a0_2 - a1_2)) - (ji22))) + bt406.2.2))).bind fun bt430 => (some (bt430.1, bt430.2.1, bt430.2.2.1, bt430.2.2.2)))))) = some (r1, r2, r3, r4) := by rw [show decide (0 < t400.length) = decide ((t400.length : Int) > 0) by simp]; exact H
   have A26 := am A260
   clear A260
   obtain ⟨⟨t406, t407, t408⟩, A27, H⟩ := ob H; (try dsimp only at H)
   obtain ⟨t413, A28, H⟩ := ob H
   by_cases c29 : t413 = true
   ·subst c29
    rw [if_pos rfl] at H
    obtain ⟨t414, A30, H⟩ := ob H
    obtain ⟨⟨t417, t418⟩, A31, H⟩ := ob H; (try dsimp only at H)
    obtain ⟨t421, A32, H⟩ := ob H
    obtain ⟨⟨t424, t425, t428, t429⟩, A33, H⟩ := ob H; (try dsimp only at H)
    simp only [Option.some.injEq, Prod.mk.injEq] at H
    obtain ⟨rfl, rfl, rfl, rfl⟩ := H
    exact quot_Div.leaf
   ·replace c29 := Bool.eq_false_iff.mpr c29
    subst c29
    rw [if_neg (show ¬ (false = true) by decide)] at H
    obtain ⟨⟨t430, t431, t434, t435⟩, A75, H⟩ := ob H; (try dsimp only at H)
    simp only [Option.some.injEq, Prod.mk.injEq] at H
    obtain ⟨rfl, rfl, rfl, rfl⟩ := H
    exact quot_Div.leaf
 ·rw [if_neg c4] at H
  have c4b0 : (t386 == 0) = false := beq_eq_false_iff_ne.mpr c4
  have c4b1 : (t386 != 0) = true := bne_iff_ne.mpr c4
  simp only [Option.some.injEq, Prod.mk.injEq] at H
  obtain ⟨rfl, rfl, rfl, rfl⟩ := H
  exact quot_Div.leaf
def quot_Sqrt.f (k : Nat) (a0_0 : Bool) (l0_1 : List Int) (a0_2 : Int) : Option (Bool × List Int × Int × Int) := (dec_Check.f k a0_0 l0_1 a0_2).bind fun t461 => (if t461 = 0 then (if a0_0 = true then (some (false, ([] : List Int), 0, 4)) else ((quot_digits.f k l0_1).bind fun t462 => ((quot_pow.f k (wrap64 ((mx (wrap64 (80 - t462)) 0) + (Go.bits .and .i64 (wrap64 (a0_2 - (mx (wrap64 (80 - t462)) 0))) 1)))).bind fun t463 => ((nat_Mul.f k l0_1 t463).bind fun bt466 => ((quot_first_uint32.f bt466.1 bt466.2).bind fun t470 => ((nat_Root.f k t470).bind fun bt473 => ((quot_first_uint32.f bt473.1 bt473.2).bind fun t477 => ((quot_parted.f k t477 40).bind fun bt480 => ((dec_Settle.f k false bt480.1 (wrap64 ((wrap64 (Int.tdiv (wrap64 (a0_2 - (wrap64 ((mx (wrap64 (80 - t462)) 0) + (Go.bits .and .i64 (wrap64 (a0_2 - (mx (wrap64 (80 - t462)) 0))) 1))))) 2)) + bt480.2.2))).bind fun bt487 => (some (bt487.1, bt487.2.1, bt487.2.2.1, bt487.2.2.2))))))))))) else (some (false, ([] : List Int), 0, t461)))
def quot_Sqrt.T8 : Bool × List (List Nat × List Nat) := (true, [([], []), ([0], [0]), ([], []), ([2], [2]), ([1, 3, 3], [1, 3]), ([4], [4]), ([4], [4]), ([5, 6, 4], [5, 6]), ([7, 7], [7]), ([8], [8]), ([8], [8]), ([9, 10, 8], [9, 10]), ([11, 11, 0, 1, 2, 3, 4, 5, 6, 7, 8, 9, 10, 11], [11])])
def quot_Sqrt.B8 : List Nat := [0, 1, 0, 4, 15, 31, 31, 127, 255, 511, 511, 2047, 4095]
theorem quot_Sqrt.tab8 : rtab .any (opsOf Tryz.f26 8) = quot_Sqrt.T8 := by kernel_rfl
theorem quot_Sqrt.bits8 : waitsOk quot_Sqrt.T8.2 quot_Sqrt.B8 = true := by kernel_rfl
theorem quot_Sqrt.leaf {P : Prop} (h : P := by
 go_enter Tryz.func26, Tryz.ntmps26
 try go_wp2_with (first | ((with_reducible refine gd 1 ?_); refine bx 1 #[.bool false, .slice A0_1 l0_1.length c0_1, .int .i64 a0_2] 24 (h := ?_); intro gb0z hg w1z hbox hb; have BK2z := am hbox; have GW3z := gW hg; have GE4z := gW hg; replace HB := bS hb; clear hb hbox hg) | ((with_reducible refine gd 2 ?_); refine bx 2 #[.bool false, .slice none 0 0, .int .i64 0] 24 (h := ?_); intro gb5z hg w6z hbox hb; have BK7z := am hbox; have GW8z := gW hg; have GE9z := gW hg; have NB10z := nL hg BK2z; have NB11z := nG hg BK2z; replace BK2z := bb BK2z hb; replace HB := bS hb; clear hb hbox hg; have hnb12z := NB10z.out; have hnc13z := NB11z.out; obtain ⟨hcz14z, hcz15z, hcz16z, hfz17z, hfz18z, hfz19z⟩ := cEc BK2z.out) | (refine gL (some 11) Tryz.func55 #[.agg #[.bool false, .slice A0_1 l0_1.length c0_1, .int .i64 a0_2]] (h := ?_); (with_reducible refine (dec_Check.calls k false _ _ l0_1 a0_2 t461 _ ?side1 ?side2 A2.out).mono ?_); (case side1 => refine cp ?_; exact (Kd.C_below HR0_1.out HB.out)); (case side2 => exact HC0_1.out); rintro e w20z ⟨rfl, hb⟩; refine ⟨_, rfl, ?_⟩; replace BK2z := bb BK2z hb; replace BK7z := bb BK7z hb; replace HB := bS hb; (try clear hb); (try clear hb21z); (try clear hk); (try clear hi); obtain ⟨hcz22z, hcz23z, hcz24z, hfz25z, hfz26z, hfz27z⟩ := cEc BK2z.out) | (refine gL (some 21) Tryz.func68 #[.slice A0_1 l0_1.length c0_1] (h := ?_); (with_reducible refine (quot_digits.calls k _ _ l0_1 t462 _ ?side1 ?side2 A12.out).mono ?_); (case side1 => refine cp ?_; exact (Kd.C_below HR0_1.out HB.out)); (case side2 => exact HC0_1.out); rintro e w28z ⟨rfl, hb⟩; refine ⟨_, rfl, ?_⟩; replace BK2z := bb BK2z hb; replace BK7z := bb BK7z hb; replace HB := bS hb; (try clear hb); (try clear hb21z); (try clear hk); (try clear hi); obtain ⟨hcz29z, hcz30z, hcz31z, hfz32z, hfz33z, hfz34z⟩ := cEc BK2z.out) | ((with_reducible refine gd 1 ?_); refine bx 1 #[.bool true, .slice A0_1 l0_1.length c0_1, .int .i64 a0_2] 24 (h := ?_); intro gb0z hg w1z hbox hb; have BK2z := am hbox; have GW3z := gW hg; have GE4z := gW hg; replace HB := bS hb; clear hb hbox hg) | (refine gL (some 11) Tryz.func55 #[.agg #[.bool true, .slice A0_1 l0_1.length c0_1, .int .i64 a0_2]] (h := ?_); (with_reducible refine (dec_Check.calls k true _ _ l0_1 a0_2 t461 _ ?side1 ?side2 A2.out).mono ?_); (case side1 => refine cp ?_; exact (Kd.C_below HR0_1.out HB.out)); (case side2 => exact HC0_1.out); rintro e w20z ⟨rfl, hb⟩; refine ⟨_, rfl, ?_⟩; replace BK2z := bb BK2z hb; replace BK7z := bb BK7z hb; replace HB := bS hb; (try clear hb); (try clear hb21z); (try clear hk); (try clear hi); obtain ⟨hcz22z, hcz23z, hcz24z, hfz25z, hfz26z, hfz27z⟩ := cEc BK2z.out; obtain ⟨hcz28z, hcz29z, hcz30z, hfz31z, hfz32z, hfz33z⟩ := cEc BK7z.out) | ((with_reducible refine gd 1 ?_); refine bx 1 #[.bool a0_0, .slice A0_1 l0_1.length c0_1, .int .i64 a0_2] 24 (h := ?_); intro gb0z hg w1z hbox hb; have BK2z := am hbox; have GW3z := gW hg; have GE4z := gW hg; replace HB := bS hb; clear hb hbox hg) | (refine gL (some 11) Tryz.func55 #[.agg #[.bool a0_0, .slice A0_1 l0_1.length c0_1, .int .i64 a0_2]] (h := ?_); (with_reducible refine (dec_Check.calls k a0_0 _ _ l0_1 a0_2 t461 _ ?side1 ?side2 A2.out).mono ?_); (case side1 => refine cp ?_; exact (Kd.C_below HR0_1.out HB.out)); (case side2 => exact HC0_1.out); rintro e w20z ⟨rfl, hb⟩; refine ⟨_, rfl, ?_⟩; replace BK2z := bb BK2z hb; replace BK7z := bb BK7z hb; replace HB := bS hb; (try clear hb); (try clear hb21z); (try clear hk); (try clear hi); obtain ⟨hcz22z, hcz23z, hcz24z, hfz25z, hfz26z, hfz27z⟩ := cEc BK7z.out))
 first
  | have q_ := A20
    replace BK2z := am (blk_drew BK2z.out)
    replace BK7z := am (blk_drew BK7z.out)
    replace HB := am (below_drew1 HB.out)
    refine start_ (n := 13) (S := fun w' => w'.cell? ⟨gb0z, 0, none⟩ = some (.bool false) /\ w'.cell? ⟨gb0z, 1, none⟩ = some (.slice A0_1 l0_1.length c0_1) /\ w'.cell? ⟨gb0z, 2, none⟩ = some (.int .i64 a0_2)) (ds := []) #[false, false, false, false, false, false, false, false, false, false, false, false, false] (by kernel_rfl) rfl rfl ⟨(blk_cell BK2z.out 0).trans rfl, (blk_cell BK2z.out 1).trans rfl, (blk_cell BK2z.out 2).trans rfl⟩ (fun hHeld => ?_); refine with_tabW quot_Sqrt.tab8 quot_Sqrt.bits8 (fun HT_ HW_ => ?_)
    generalize w28z.drew = w35z at BK2z BK7z HB hHeld ⊢
    refine pu 0 (some 31) #[true, false, false, false, false, false, false, false, false, false, false, false, false] (h := ?_)
    refine pu 2 (some 33) #[true, false, true, false, false, false, false, false, false, false, false, false, false] (h := ?_)
    refine take_ (i := 1) (N := some 32) (v := ?_) (a' := ?_) #[true, true, true, false, false, false, false, false, false, false, false, false, false] rfl rfl (take_ofW HT_.out HW_.out (by kernel_rfl)) (fun _ _ _ h => h) (Or.inl ⟨by rfl, ?_⟩) hHeld ?_ ?_
    rotate_left
    ·rintro w' ⟨s36z, s37z, s38z⟩
     go_simp
     with_reducible rfl
    rotate_left
    ·simp only [Act.put, List.setIfInBounds_toArray, List.set_cons_zero, List.set_cons_succ, i64_w, i32_w]
     rfl
    refine one_ (i := 3) (N := some 34) #[true, true, true, true, false, false, false, false, false, false, false, false, false] rfl rfl (one_of HT_.out (by kernel_rfl)) (by decide) (fun K hK => ?_)
    refine goes_ Tryz.func72 (by kernel_rfl) rfl #[.int .i64 (wrap64 ((ji13) + (Go.bits .and .i64 (wrap64 (a0_2 - (ji13))) 1)))] (by rfl) rfl rfl (by (try simp only [List.map_toArray, List.map_cons, List.map_nil]); first | done | (simp only [hji13]; rfl) | rfl | (simp only [List.length_drop, List.length_take]; rfl)) ?_
    with_reducible refine (quot_pow.calls k (wrap64 ((ji13) + (Go.bits .and .i64 (wrap64 (a0_2 - (ji13))) 1))) t463 _ A14.out).mono ?_
    rintro e w39z ⟨v40z, rfl, ho41z, hb⟩
    refine ⟨_, rfl, ?_⟩
    have HO42z := am (Kd.R_lower ho41z (below_size pB))
    replace BK2z := bb BK2z hb
    replace BK7z := bb BK7z hb
    replace HB := bS hb
    (try clear hb); (try clear hb21z); (try clear hk); (try clear hi); (try clear ho41z)
    obtain ⟨Ao43z, co44z, eo45z⟩ := Kd.R_slice HO42z.out
    (first | subst eo45z | (injection eo45z with f1_ f2_ f3_; have f4_ := f1_.symm; have f5_ := f3_.symm; clear f1_ f2_ f3_; subst f4_; subst f5_))
    refine hK.out _ _ ⟨(blk_cell BK2z.out 0).trans rfl, (blk_cell BK2z.out 1).trans rfl, (blk_cell BK2z.out 2).trans rfl⟩ (fun hHeld => ?_)
    clear hK K
    refine norm_ (a' := ?_) ?_ ?_
    rotate_left
    ·show Act.put _ (some 34) _ = _
     simp only [Act.put, List.setIfInBounds_toArray, List.set_cons_zero, List.set_cons_succ, i64_w, i32_w]
     rfl
    refine one_ (i := 4) (N := some 35) #[true, true, true, true, true, false, false, false, false, false, false, false, false] rfl rfl (one_of HT_.out (by kernel_rfl)) (by decide) (fun K hK => ?_)
    refine goes_ Tryz.func71 (by kernel_rfl) rfl #[.slice A0_1 l0_1.length c0_1, .slice Ao43z t463.length co44z] (by rfl) rfl rfl pA ?_
    with_reducible refine (nat_Mul.calls k _ _ l0_1 _ _ t463 t466 t467 _ ?side1 ?side2 ?side3 ?side4 A15.out).mono ?_
    (case side1 => refine cp ?_; exact (Kd.C_below HR0_1.out HB.out))
    (case side2 => exact HC0_1.out)
    (case side3 => exact Kd.C_below (Kd.R_reads' HO42z.out).2.2 pl)
    (case side4 => exact (Kd.R_reads' HO42z.out).2.1)
    rintro e w46z ⟨v47z, rfl, ho41z, hb⟩
    refine ⟨_, rfl, ?_⟩
    have HO48z := am (Kd.R_lower (Kd.R_new' ho41z (Kd.R_lt (Kd.R_below HO42z.out pl))) (below_size pB))
    replace HO42z := reR HO42z ho41z hb
    replace BK2z := bb BK2z hb
    replace BK7z := bb BK7z hb
    replace HB := bS hb
    (try clear hb); (try clear hb21z); (try clear hk); (try clear hi); (try clear ho41z)
    obtain ⟨Ao49z, co50z, eo51z⟩ := Kd.R_slice HO48z.out
    (first | subst eo51z | (injection eo51z with f1_ f2_ f3_; have f4_ := f1_.symm; have f5_ := f3_.symm; clear f1_ f2_ f3_; subst f4_; subst f5_))
    refine hK.out _ _ ⟨(blk_cell BK2z.out 0).trans rfl, (blk_cell BK2z.out 1).trans rfl, (blk_cell BK2z.out 2).trans rfl⟩ (fun hHeld => ?_)
    clear hK K
    refine norm_ (a' := ?_) ?_ ?_
    rotate_left
    ·show Act.put _ (some 35) _ = _
     simp only [Act.put, List.setIfInBounds_toArray, List.set_cons_zero, List.set_cons_succ, i64_w, i32_w]
     rfl
    refine pu 5 (some 36) #[true, true, true, true, true, true, false, false, false, false, false, false, false] (h := ?_)
    refine pu 6 (some 37) #[true, true, true, true, true, true, true, false, false, false, false, false, false] (h := ?_)
    refine one_ (i := 7) (N := some 38) #[true, true, true, true, true, true, true, true, false, false, false, false, false] rfl rfl (one_of HT_.out (by kernel_rfl)) (by decide) (fun K hK => ?_)
    refine goes_ Tryz.func70 (by kernel_rfl) rfl #[.slice Ao49z t466.length co50z, .int .i64 t467] (by rfl) rfl rfl pA ?_
    with_reducible refine (quot_first_uint32.calls (fun k_ => some k_ = (.slice Ao49z t466.length co50z : Value).ownBlock) (.slice Ao49z t466.length co50z) t466 t467 t470 w _ ?side1 ?side2 A16.out).mono ?_
    (case side1 => exact pB)
    (case side2 => exact Kd.R_tight rfl HO48z.out)
    rintro e w52z ⟨v53z, rfl, ho41z, hb, hkp⟩
    refine ⟨_, rfl, ?_⟩
    have HO54z := am (Kd.R_mono (ok' := fun k_ => some k_ ≠ (.slice Ao43z t463.length co44z : Value).ownBlock) ho41z (fun k_ hk_ => Or.elim hk_ (fun hs_ => fun e_ => (((HO42z.out).1 k_ e_.symm).2) hs_) (fun hn_ => (Kd.fresh' (Kd.R_lt (Kd.R_below HO42z.out pl)) k_ hn_))))
    replace BK2z := am (blk_kept (blk_below BK2z.out pl) hkp (fun hs_ => (fun e_ => (Kd.R_ne HO48z.out BK2z.out (by decide)) e_) hs_))
    replace BK7z := am (blk_kept (blk_below BK7z.out pl) hkp (fun hs_ => (fun e_ => (Kd.R_ne HO48z.out BK7z.out (by decide)) e_) hs_))
    replace HO42z := am (Kd.R_mono (ok' := fun k_ => some k_ ≠ (v53z : Value).ownBlock) (Kd.R_keptB (HO42z.out) hkp (fun k_ hk_ hs_ => (hk_.2) hs_)) (fun k_ hk_ => fun e_ => Or.elim (ho41z.1 k_ e_.symm) (fun hs_ => hk_.2.1 hs_) (fun hn_ => Nat.not_le.2 hk_.2.2 hn_)))
    replace HB := am hb
    clear HO48z
    (try clear hb); (try clear hkp); (try clear ho41z)
    obtain ⟨Ao55z, co56z, eo57z⟩ := Kd.R_slice HO54z.out
    (first | subst eo57z | (injection eo57z with f1_ f2_ f3_; have f4_ := f1_.symm; have f5_ := f3_.symm; clear f1_ f2_ f3_; subst f4_; subst f5_))
    refine hK.out _ _ ⟨(blk_cell BK2z.out 0).trans rfl, (blk_cell BK2z.out 1).trans rfl, (blk_cell BK2z.out 2).trans rfl⟩ (fun hHeld => ?_)
    clear hK K
    refine norm_ (a' := ?_) ?_ ?_
    rotate_left
    ·show Act.put _ (some 38) _ = _
     simp only [Act.put, List.setIfInBounds_toArray, List.set_cons_zero, List.set_cons_succ, i64_w, i32_w]
     rfl
    refine one_ (i := 8) (N := some 39) #[true, true, true, true, true, true, true, true, true, false, false, false, false] rfl rfl (one_of HT_.out (by kernel_rfl)) (by decide) (fun K hK => ?_)
    refine goes_ Tryz.func82 (by kernel_rfl) rfl #[.slice Ao55z t470.length co56z] (by rfl) rfl rfl pA ?_
    with_reducible refine (nat_Root.calls k _ _ t470 t473 t474 _ ?side1 ?side2 A17.out).mono ?_
    (case side1 => exact Kd.C_below (Kd.R_reads' HO54z.out).2.2 pl)
    (case side2 => exact (Kd.R_reads' HO54z.out).2.1)
    rintro e w58z ⟨v59z, rfl, ho41z, hb⟩
    refine ⟨_, rfl, ?_⟩
    have HO60z := am (Kd.R_lower (Kd.R_new' (Kd.R_new' ho41z (Kd.R_lt (Kd.R_below HO42z.out pl))) (Kd.R_lt (Kd.R_below HO54z.out pl))) (below_size pB))
    replace HO42z := reR HO42z ho41z hb
    replace HO54z := reR HO54z ho41z hb
    replace BK2z := bb BK2z hb
    replace BK7z := bb BK7z hb
    replace HB := bS hb
    (try clear hb); (try clear hb21z); (try clear hk); (try clear hi); (try clear ho41z)
    obtain ⟨Ao61z, co62z, eo63z⟩ := Kd.R_slice HO60z.out
    (first | subst eo63z | (injection eo63z with f1_ f2_ f3_; have f4_ := f1_.symm; have f5_ := f3_.symm; clear f1_ f2_ f3_; subst f4_; subst f5_))
    refine hK.out _ _ ⟨(blk_cell BK2z.out 0).trans rfl, (blk_cell BK2z.out 1).trans rfl, (blk_cell BK2z.out 2).trans rfl⟩ (fun hHeld => ?_)
    clear hK K
    refine norm_ (a' := ?_) ?_ ?_
    rotate_left
    ·show Act.put _ (some 39) _ = _
     simp only [Act.put, List.setIfInBounds_toArray, List.set_cons_zero, List.set_cons_succ, i64_w, i32_w]
     rfl
    refine pu 9 (some 40) #[true, true, true, true, true, true, true, true, true, true, false, false, false] (h := ?_)
    refine pu 10 (some 41) #[true, true, true, true, true, true, true, true, true, true, true, false, false] (h := ?_)
    refine one_ (i := 11) (N := some 42) #[true, true, true, true, true, true, true, true, true, true, true, true, false] rfl rfl (one_of HT_.out (by kernel_rfl)) (by decide) (fun K hK => ?_)
    refine goes_ Tryz.func70 (by kernel_rfl) rfl #[.slice Ao61z t473.length co62z, .int .i64 t474] (by rfl) rfl rfl pA ?_
    with_reducible refine (quot_first_uint32.calls (fun k_ => some k_ = (.slice Ao61z t473.length co62z : Value).ownBlock) (.slice Ao61z t473.length co62z) t473 t474 t477 w _ ?side1 ?side2 A18.out).mono ?_
    (case side1 => exact pB)
    (case side2 => exact Kd.R_tight rfl HO60z.out)
    rintro e w64z ⟨v65z, rfl, ho41z, hb, hkp⟩
    refine ⟨_, rfl, ?_⟩
    have HO66z := am (Kd.R_mono (ok' := fun k_ => some k_ ≠ (.slice Ao43z t463.length co44z : Value).ownBlock /\ some k_ ≠ (.slice Ao55z t470.length co56z : Value).ownBlock) ho41z (fun k_ hk_ => ⟨Or.elim hk_ (fun hs_ => fun e_ => (((HO42z.out).1 k_ e_.symm).2) hs_) (fun hn_ => (Kd.fresh' (Kd.R_lt (Kd.R_below HO42z.out pl)) k_ hn_)), Or.elim hk_ (fun hs_ => fun e_ => (((HO54z.out).1 k_ e_.symm).2) hs_) (fun hn_ => (Kd.fresh' (Kd.R_lt (Kd.R_below HO54z.out pl)) k_ hn_))⟩))
    replace BK2z := am (blk_kept (blk_below BK2z.out pl) hkp (fun hs_ => (fun e_ => (Kd.R_ne HO60z.out BK2z.out (by decide)) e_) hs_))
    replace BK7z := am (blk_kept (blk_below BK7z.out pl) hkp (fun hs_ => (fun e_ => (Kd.R_ne HO60z.out BK7z.out (by decide)) e_) hs_))
    replace HO42z := am (Kd.R_mono (ok' := fun k_ => some k_ ≠ (.slice Ao55z t470.length co56z : Value).ownBlock /\ some k_ ≠ (v65z : Value).ownBlock) (Kd.R_keptB (HO42z.out) hkp (fun k_ hk_ hs_ => (hk_.2) hs_)) (fun k_ hk_ => ⟨hk_.1.1, fun e_ => Or.elim (ho41z.1 k_ e_.symm) (fun hs_ => hk_.2.1 hs_) (fun hn_ => Nat.not_le.2 hk_.2.2 hn_)⟩))
    replace HO54z := am (Kd.R_mono (ok' := fun k_ => some k_ ≠ (.slice Ao43z t463.length co44z : Value).ownBlock /\ some k_ ≠ (v65z : Value).ownBlock) (Kd.R_keptB (HO54z.out) hkp (fun k_ hk_ hs_ => (hk_.2) hs_)) (fun k_ hk_ => ⟨hk_.1.1, fun e_ => Or.elim (ho41z.1 k_ e_.symm) (fun hs_ => hk_.2.1 hs_) (fun hn_ => Nat.not_le.2 hk_.2.2 hn_)⟩))
    replace HB := am hb
    clear HO60z
    (try clear hb); (try clear hkp); (try clear ho41z)
    refine hK.out _ _ ⟨(blk_cell BK2z.out 0).trans rfl, (blk_cell BK2z.out 1).trans rfl, (blk_cell BK2z.out 2).trans rfl⟩ (fun hHeld => ?_)
    clear hK K
    refine norm_ (a' := ?_) ?_ ?_
    rotate_left
    ·show Act.put _ (some 42) _ = _
     simp only [Act.put, List.setIfInBounds_toArray, List.set_cons_zero, List.set_cons_succ, i64_w, i32_w]
     rfl
    refine pu 12 (some 6) #[true, true, true, true, true, true, true, true, true, true, true, true, true] (h := ?_)
    refine done_ (done_of HT_.out (by kernel_rfl)) ?_
    obtain ⟨Ao67z, co68z, eo69z⟩ := Kd.R_slice HO66z.out
    subst eo69z
    try go_wp2_with (first | (refine gL (some 45) Tryz.func73 #[.slice Ao67z t477.length co68z, .int .i64 40] (h := ?_); (with_reducible refine (quot_parted.calls k _ _ t477 40 t480 t481 t482 _ ?side1 ?side2 A19.out).mono ?_); (case side1 => exact Kd.C_below (Kd.R_reads' HO66z.out).2.2 pl); (case side2 => exact (Kd.R_reads' HO66z.out).2.1); rintro e w70z ⟨v71z, v72z, rfl, ho41z, ho73z, hb⟩; refine ⟨_, rfl, ?_⟩; have HO74z := am (Kd.R_lower (Kd.R_new' (Kd.R_new' (Kd.R_new' ho41z (Kd.R_lt (Kd.R_below HO42z.out pl))) (Kd.R_lt (Kd.R_below HO54z.out pl))) (Kd.R_lt (Kd.R_below HO66z.out pl))) (below_size pB)); have HO75z := am (Kd.R_lower (Kd.R_new' (Kd.R_new' (Kd.R_new' ho73z (Kd.R_lt (Kd.R_below HO42z.out pl))) (Kd.R_lt (Kd.R_below HO54z.out pl))) (Kd.R_lt (Kd.R_below HO66z.out pl))) (below_size pB)); replace HO42z := am (Kd.R_mono (Kd.R_told (Kd.R_told (Kd.R_old (Kd.R_below HO42z.out pl) hb) (Kd.R_base ho41z)) (Kd.R_base ho73z)) (fun _ h_ => h_.1)); replace HO54z := am (Kd.R_mono (Kd.R_told (Kd.R_told (Kd.R_old (Kd.R_below HO54z.out pl) hb) (Kd.R_base ho41z)) (Kd.R_base ho73z)) (fun _ h_ => h_.1)); replace HO66z := am (Kd.R_mono (Kd.R_told (Kd.R_told (Kd.R_old (Kd.R_below HO66z.out pl) hb) (Kd.R_base ho41z)) (Kd.R_base ho73z)) (fun _ h_ => h_.1)); replace BK2z := bb BK2z hb; replace BK7z := bb BK7z hb; replace HB := bS hb; (try clear hb); (try clear hb21z); (try clear hk); (try clear hi); (try clear ho41z); (try clear ho73z); obtain ⟨hcz76z, hcz77z, hcz78z, hfz79z, hfz80z, hfz81z⟩ := cEc BK2z.out; obtain ⟨Ao82z, co83z, eo84z⟩ := Kd.R_slice HO74z.out; subst eo84z) | ((with_reducible refine gate_callee (f := 60) rfl ?_); refine goesL_ (some 57) rfl rfl Tryz.func60 (by kernel_rfl) rfl #[.bool false, .slice Ao82z t480.length co83z, .int .i64 (wrap64 ((wrap64 (Int.tdiv (wrap64 (a0_2 - (wrap64 ((ji13) + (Go.bits .and .i64 (wrap64 (a0_2 - (ji13))) 1))))) 2)) + t482))] rfl (by (try simp only [List.map_toArray, List.map_cons, List.map_nil]); first | done | (simp only [hji13]; rfl) | rfl | (simp only [List.length_drop, List.length_take]; rfl)) ?_; (with_reducible refine (dec_Settle.calls k false _ _ t480 (wrap64 ((wrap64 (Int.tdiv (wrap64 (a0_2 - (wrap64 ((ji13) + (Go.bits .and .i64 (wrap64 (a0_2 - (ji13))) 1))))) 2)) + t482)) t487 t488 t491 t492 _ ?side1 ?side2 A20.out).mono ?_); (case side1 => exact Kd.C_below (Kd.R_reads' HO74z.out).2.2 pl); (case side2 => exact (Kd.R_reads' HO74z.out).2.1); rintro e w85z ⟨v86z, rfl, ho41z, hb⟩; refine ⟨_, rfl, ?_⟩; have HO87z := am (Kd.R_lower (Kd.R_new' (Kd.R_new' (Kd.R_new' (Kd.R_new' (Kd.R_new' ho41z (Kd.R_lt (Kd.R_below HO42z.out pl))) (Kd.R_lt (Kd.R_below HO54z.out pl))) (Kd.R_lt (Kd.R_below HO66z.out pl))) (Kd.R_lt (Kd.R_below HO74z.out pl))) (Kd.R_lt (Kd.R_below HO75z.out pl))) (below_size pB)); replace HO42z := reR HO42z ho41z hb; replace HO54z := reR HO54z ho41z hb; replace HO66z := reR HO66z ho41z hb; replace HO74z := reR HO74z ho41z hb; replace HO75z := reR HO75z ho41z hb; replace BK2z := bb BK2z hb; replace BK7z := bb BK7z hb; replace HB := bS hb; (try clear hb); (try clear hb21z); (try clear hk); (try clear hi); (try clear ho41z); obtain ⟨hcz88z, hcz89z, hcz90z, hfz91z, hfz92z, hfz93z⟩ := cEc BK7z.out; obtain ⟨Ao94z, co95z, eo96z⟩ := Kd.R_slice HO87z.out; subst eo96z))
    refine bodyPost_ret (results_ct rfl _ _ gb5z 24 #[.bool t487, .slice Ao94z t488.length co95z, .int .i64 t491] (0, 0) _ rfl (by refine bp ?_; refine blk_put (cs := #[.bool t487, .slice Ao94z t488.length co95z, .int .i64 0]) ?_ 2 _ rfl; refine bp ?_; refine blk_put (cs := #[.bool t487, .slice none 0 0, .int .i64 0]) ?_ 1 _ rfl; refine bp ?_; refine blk_put (cs := #[.bool false, .slice none 0 0, .int .i64 0]) ?_ 0 _ rfl; exact bp BK7z.out) Tryz.underlying24 rfl (by kernel_rfl)) rfl ?_
    exact ⟨_, by first | rfl | (simp [errW_none, errW_some] <;> rfl) | (simp only [<- hji13]; first | rfl | (simp [errW_none, errW_some] <;> rfl)) | (simp [*, errW_none, errW_some] <;> rfl), by refine rp ?_; exact Kd.R_mono (Kd.R_far (p := ⟨gb5z, 2, none⟩) (Kd.R_far (p := ⟨gb5z, 1, none⟩) (Kd.R_far (p := ⟨gb5z, 0, none⟩) (Kd.R_types HO87z.out BK7z.out (by decide)) (fun _ hk => hk.2) (.bool t487)) (fun _ hk => hk.2) (.slice Ao94z t488.length co95z)) (fun _ hk => hk.2) (.int .i64 t491)) (fun _ hk => trivial), pB⟩
  | refine bodyPost_ret (results_ct rfl _ _ gb5z 24 #[.bool false, .slice none 0 0, .int .i64 0] (0, 0) _ rfl (by refine bp ?_; refine blk_put (cs := #[.bool false, .slice none 0 0, .int .i64 0]) ?_ 2 _ rfl; refine bp ?_; refine blk_put (cs := #[.bool false, .slice none 0 0, .int .i64 0]) ?_ 1 _ rfl; refine bp ?_; refine blk_put (cs := #[.bool false, .slice none 0 0, .int .i64 0]) ?_ 0 _ rfl; exact bp BK7z.out) Tryz.underlying24 rfl (by kernel_rfl)) rfl ?_
    exact ⟨_, pE, pN, pB⟩) : P := h
theorem quot_Sqrt.calls (k : Nat) (a0_0 : Bool) (A0_1 : Option Addr) (c0_1 : Nat) (l0_1 : List Int) (a0_2 : Int) (r1 : Bool) (r2 : List Int) (r3 : Int) (r4 : Int) (w : World) (hr0_1 : Kd.C (Kd.int .u32) w A0_1 l0_1.length l0_1) (hc0_1 : l0_1.length <= c0_1) (h : quot_Sqrt.f k a0_0 l0_1 a0_2 = some (r1, r2, r3, r4)) :
  Calls Tryz.prog 26 #[.agg #[.bool a0_0, .slice A0_1 l0_1.length c0_1, .int .i64 a0_2]] w fun e w' => ∃ v1_ : Value, e = .returned (.tuple #[.agg #[.bool r1, v1_, .int .i64 r3], .int .i64 r4]) /\ Kd.R (Kd.int .u32) 85 w' w.heap.size (fun _ => True) v1_ r2 /\ Below w.heap.size w w' := by
 have hu24 := Tryz.underlying24
 have HR0_1 := am hr0_1
 have HC0_1 := am hc0_1
 clear hr0_1 hc0_1
 have HB := am (Below.refl w.heap.size w)
 have H : ((dec_Check.f k a0_0 l0_1 a0_2).bind fun t461 => (if t461 = 0 then (if a0_0 = true then (some (false, ([] : List Int), 0, 4)) else ((quot_digits.f k l0_1).bind fun t462 => ((quot_pow.f k (wrap64 ((mx (wrap64 (80 - t462)) 0) + (Go.bits .and .i64 (wrap64 (a0_2 - (mx (wrap64 (80 - t462)) 0))) 1)))).bind fun t463 => ((nat_Mul.f k l0_1 t463).bind fun bt466 => ((quot_first_uint32.f bt466.1 bt466.2).bind fun t470 => ((nat_Root.f k t470).bind fun bt473 => ((quot_first_uint32.f bt473.1 bt473.2).bind fun t477 => ((quot_parted.f k t477 40).bind fun bt480 => ((dec_Settle.f k false bt480.1 (wrap64 ((wrap64 (Int.tdiv (wrap64 (a0_2 - (wrap64 ((mx (wrap64 (80 - t462)) 0) + (Go.bits .and .i64 (wrap64 (a0_2 - (mx (wrap64 (80 - t462)) 0))) 1))))) 2)) + bt480.2.2))).bind fun bt487 => (some (bt487.1, bt487.2.1, bt487.2.2.1, bt487.2.2.2))))))))))) else (some (false, ([] : List Int), 0, t461)))) = some (r1, r2, r3, r4) := h
 clear h
 obtain ⟨t461, A2, H⟩ := ob H
 by_cases c3 : t461 = 0
 ·rw [if_pos c3] at H
  have c3b0 : (t461 == 0) = true := beq_iff_eq.mpr c3
  have c3b1 : (t461 != 0) = false := bne_eq_false_iff_eq.mpr c3
  clear c3
  by_cases c4 : a0_0 = true
  ·subst c4
   rw [if_pos rfl] at H
   simp only [Option.some.injEq, Prod.mk.injEq] at H
   obtain ⟨rfl, rfl, rfl, rfl⟩ := H
   exact quot_Sqrt.leaf
  ·replace c4 := Bool.eq_false_iff.mpr c4
   subst c4
   rw [if_neg (show ¬ (false = true) by decide)] at H
   obtain ⟨t462, A12, H⟩ := ob H
   obtain ⟨ji13, hji13⟩ : ∃ j_ : Int, (mx (wrap64 (80 - t462)) 0) = j_ := ⟨_, rfl⟩
   replace H : ((quot_pow.f k (wrap64 ((ji13) + (Go.bits .and .i64 (wrap64 (a0_2 - (ji13))) 1)))).bind fun t463 => ((nat_Mul.f k l0_1 t463).bind fun bt466 => ((quot_first_uint32.f bt466.1 bt466.2).bind fun t470 => ((nat_Root.f k t470).bind fun bt473 => ((quot_first_uint32.f bt473.1 bt473.2).bind fun t477 => ((quot_parted.f k t477 40).bind fun bt480 => ((dec_Settle.f k false bt480.1 (wrap64 ((wrap64 (Int.tdiv (wrap64 (a0_2 - (wrap64 ((ji13) + (Go.bits .and .i64 (wrap64 (a0_2 - (ji13))) 1))))) 2)) + bt480.2.2))).bind fun bt487 => (some (bt487.1, bt487.2.1, bt487.2.2.1, bt487.2.2.2))))))))) = some (r1, r2, r3, r4) := by first | (rw [hji13] at H; exact H) | (simp only [hji13] at H ⊢; exact H)
   (try rw [hji13] at A2)
   (try rw [hji13] at A12)
   (try (have hji13l : 0 <= ji13 := by (rw [<- hji13]; unfold mx; (repeat' split) <;> omega)))
   (try (have hji13m : 0 <= ji13 := by omega))
   have hji13_ : (if (wrap64 (80 - t462)) < 0 then 0 else (wrap64 (80 - t462))) = ji13 := hji13
   obtain ⟨t463, A14, H⟩ := ob H
   obtain ⟨⟨t466, t467⟩, A15, H⟩ := ob H; (try dsimp only at H)
   obtain ⟨t470, A16, H⟩ := ob H
   obtain ⟨⟨t473, t474⟩, A17, H⟩ := ob H; (try dsimp only at H)
   obtain ⟨t477, A18, H⟩ := ob H
   obtain ⟨⟨t480, t481, t482⟩, A19, H⟩ := ob H; (try dsimp only at H)
   obtain ⟨⟨t487, t488, t491, t492⟩, A20, H⟩ := ob H; (try dsimp only at H)
   simp only [Option.some.injEq, Prod.mk.injEq] at H
   obtain ⟨rfl, rfl, rfl, rfl⟩ := H
   exact quot_Sqrt.leaf
 ·rw [if_neg c3] at H
  have c3b0 : (t461 == 0) = false := beq_eq_false_iff_ne.mpr c3
  have c3b1 : (t461 != 0) = true := bne_iff_ne.mpr c3
  simp only [Option.some.injEq, Prod.mk.injEq] at H
  obtain ⟨rfl, rfl, rfl, rfl⟩ := H
  exact quot_Sqrt.leaf
def quot_split.f (k : Nat) (a0_0 : Bool) (l0_1 : List Int) (a0_2 : Int) : Option (List Int × List Int × Int) := if a0_2 >= 0 then ((quot_pow.f k a0_2).bind fun t1012 => ((nat_Mul.f k l0_1 t1012).bind fun bt1015 => ((quot_first_uint32.f bt1015.1 bt1015.2).bind fun t1019 => (some (t1019, ([] : List Int), 0))))) else ((quot_pow.f k (wrap64 (-a0_2))).bind fun t1022 => ((nat_Div.f k l0_1 t1022).bind fun bt1025 => (some (bt1025.1, bt1025.2.1, wrap64 (-a0_2)))))
def quot_split.T2 : Bool × List (List Nat × List Nat) := (true, [([], []), ([0], [0]), ([], []), ([2], [2]), ([3], [3]), ([1, 4, 4], [1, 4]), ([5], [5]), ([5], [5]), ([6, 7, 5], [6, 7]), ([8, 8, 0, 1, 2, 3, 4, 5, 6, 7, 8], [8]), ([9, 0, 1, 2, 3, 4, 5, 6, 7, 8, 9], []), ([10, 0, 1, 2, 3, 4, 5, 6, 7, 8, 9, 10], [])])
def quot_split.B2 : List Nat := [0, 1, 0, 4, 12, 31, 63, 63, 255, 511, 1023, 2047]
theorem quot_split.tab2 : rtab .any (opsOf Tryz.f83 2) = quot_split.T2 := by kernel_rfl
theorem quot_split.bits2 : waitsOk quot_split.T2.2 quot_split.B2 = true := by kernel_rfl
def quot_split.T3 : Bool × List (List Nat × List Nat) := (true, [([], []), ([0], [0]), ([], []), ([2], [2]), ([3], [3]), ([4], [4]), ([1, 5, 5], [1, 5]), ([6], [6]), ([7], [7]), ([7], [7]), ([7], [7]), ([8, 6, 0, 1, 2, 3, 4, 5, 6, 7, 8], [8]), ([9, 11, 0, 1, 2, 3, 4, 5, 6, 7, 8, 9, 11], [9])])
def quot_split.B3 : List Nat := [0, 1, 0, 4, 12, 28, 63, 127, 255, 255, 255, 511, 3071]
theorem quot_split.tab3 : rtab .any (opsOf Tryz.f83 3) = quot_split.T3 := by kernel_rfl
theorem quot_split.bits3 : waitsOk quot_split.T3.2 quot_split.B3 = true := by kernel_rfl
def quot_split.T4 : Bool × List (List Nat × List Nat) := (true, [([], []), ([], []), ([], []), ([2], [2]), ([3], [3]), ([0, 0], [0]), ([1, 5, 0, 1, 5], [1]), ([4, 6, 0, 1, 2, 3, 4, 5, 6], [4])])
def quot_split.B4 : List Nat := [0, 0, 0, 4, 12, 1, 35, 127]
theorem quot_split.tab4 : rtab .any (opsOf Tryz.f83 4) = quot_split.T4 := by kernel_rfl
theorem quot_split.bits4 : waitsOk quot_split.T4.2 quot_split.B4 = true := by kernel_rfl
theorem quot_split.leaf {P : Prop} (h : P := by
 go_enter Tryz.func83, Tryz.ntmps83
 try go_wp2_with (first | ((with_reducible refine gd 1 ?_); refine bx 1 #[.bool a0_0, .slice A0_1 l0_1.length c0_1, .int .i64 a0_2] 24 (h := ?_); intro gb0z hg w1z hbox hb; have BK2z := am hbox; have GW3z := gW hg; have GE4z := gW hg; replace HB := bS hb; clear hb hbox hg; obtain ⟨hcz5z, hcz6z, hcz7z, hfz8z, hfz9z, hfz10z⟩ := cEc BK2z.out))
 replace BK2z := am (blk_drew BK2z.out)
 replace HB := am (below_drew1 HB.out)
 first
  | have q_ := A5
    refine start_ (n := 12) (S := fun w' => w'.cell? ⟨gb0z, 0, none⟩ = some (.bool a0_0) /\ w'.cell? ⟨gb0z, 1, none⟩ = some (.slice A0_1 l0_1.length c0_1) /\ w'.cell? ⟨gb0z, 2, none⟩ = some (.int .i64 a0_2)) (ds := []) #[false, false, false, false, false, false, false, false, false, false, false, false] (by kernel_rfl) rfl rfl ⟨(blk_cell BK2z.out 0).trans rfl, (blk_cell BK2z.out 1).trans rfl, (blk_cell BK2z.out 2).trans rfl⟩ (fun hHeld => ?_); refine with_tabW quot_split.tab2 quot_split.bits2 (fun HT_ HW_ => ?_)
    generalize w1z.drew = w11z at BK2z HB hHeld ⊢
    refine pu 0 (some 8) #[true, false, false, false, false, false, false, false, false, false, false, false] (h := ?_)
    refine pu 2 (some 10) #[true, false, true, false, false, false, false, false, false, false, false, false] (h := ?_)
    refine take_ (i := 1) (N := some 9) (v := ?_) (a' := ?_) #[true, true, true, false, false, false, false, false, false, false, false, false] rfl rfl (take_ofW HT_.out HW_.out (by kernel_rfl)) (fun _ _ _ h => h) (Or.inl ⟨by rfl, ?_⟩) hHeld ?_ ?_
    rotate_left
    ·rintro w' ⟨s12z, s13z, s14z⟩
     go_simp
     with_reducible rfl
    rotate_left
    ·simp only [Act.put, List.setIfInBounds_toArray, List.set_cons_zero, List.set_cons_succ, i64_w, i32_w]
     rfl
    refine take_ (i := 3) (N := some 11) (v := ?_) (a' := ?_) #[true, true, true, true, false, false, false, false, false, false, false, false] rfl rfl (take_ofW HT_.out HW_.out (by kernel_rfl)) (fun _ _ _ h => h) (Or.inl ⟨by rfl, ?_⟩) hHeld ?_ ?_
    rotate_left
    ·rintro w' ⟨s12z, s13z, s14z⟩
     go_simp
     with_reducible rfl
    rotate_left
    ·simp only [Act.put, List.setIfInBounds_toArray, List.set_cons_zero, List.set_cons_succ, i64_w, i32_w]
     rfl
    refine one_ (i := 4) (N := some 12) #[true, true, true, true, true, false, false, false, false, false, false, false] rfl rfl (one_of HT_.out (by kernel_rfl)) (by decide) (fun K hK => ?_)
    refine goes_ Tryz.func72 (by kernel_rfl) rfl #[.int .i64 a0_2] (by rfl) rfl rfl pA ?_
    with_reducible refine (quot_pow.calls k a0_2 t1012 _ A3.out).mono ?_
    rintro e w15z ⟨v16z, rfl, ho17z, hb⟩
    refine ⟨_, rfl, ?_⟩
    have HO18z := am (Kd.R_lower ho17z (below_size pB))
    replace BK2z := bb BK2z hb
    replace HB := bS hb
    (try clear hb); (try clear ho17z)
    obtain ⟨Ao19z, co20z, eo21z⟩ := Kd.R_slice HO18z.out
    (first | subst eo21z | (injection eo21z with f1_ f2_ f3_; have f4_ := f1_.symm; have f5_ := f3_.symm; clear f1_ f2_ f3_; subst f4_; subst f5_))
    refine hK.out _ _ ⟨(blk_cell BK2z.out 0).trans rfl, (blk_cell BK2z.out 1).trans rfl, (blk_cell BK2z.out 2).trans rfl⟩ (fun hHeld => ?_)
    clear hK K
    refine norm_ (a' := ?_) ?_ ?_
    rotate_left
    ·show Act.put _ (some 12) _ = _
     simp only [Act.put, List.setIfInBounds_toArray, List.set_cons_zero, List.set_cons_succ, i64_w, i32_w]
     rfl
    refine one_ (i := 5) (N := some 13) #[true, true, true, true, true, true, false, false, false, false, false, false] rfl rfl (one_of HT_.out (by kernel_rfl)) (by decide) (fun K hK => ?_)
    refine goes_ Tryz.func71 (by kernel_rfl) rfl #[.slice A0_1 l0_1.length c0_1, .slice Ao19z t1012.length co20z] (by rfl) rfl rfl pA ?_
    with_reducible refine (nat_Mul.calls k _ _ l0_1 _ _ t1012 t1015 t1016 _ ?side1 ?side2 ?side3 ?side4 A4.out).mono ?_
    (case side1 => refine cp ?_; exact (Kd.C_below HR0_1.out HB.out))
    (case side2 => exact HC0_1.out)
    (case side3 => exact Kd.C_below (Kd.R_reads' HO18z.out).2.2 pl)
    (case side4 => exact (Kd.R_reads' HO18z.out).2.1)
    rintro e w22z ⟨v23z, rfl, ho17z, hb⟩
    refine ⟨_, rfl, ?_⟩
    have HO24z := am (Kd.R_lower (Kd.R_new' ho17z (Kd.R_lt (Kd.R_below HO18z.out pl))) (below_size pB))
    replace HO18z := reR HO18z ho17z hb
    replace BK2z := bb BK2z hb
    replace HB := bS hb
    (try clear hb); (try clear ho17z)
    obtain ⟨Ao25z, co26z, eo27z⟩ := Kd.R_slice HO24z.out
    (first | subst eo27z | (injection eo27z with f1_ f2_ f3_; have f4_ := f1_.symm; have f5_ := f3_.symm; clear f1_ f2_ f3_; subst f4_; subst f5_))
    refine hK.out _ _ ⟨(blk_cell BK2z.out 0).trans rfl, (blk_cell BK2z.out 1).trans rfl, (blk_cell BK2z.out 2).trans rfl⟩ (fun hHeld => ?_)
    clear hK K
    refine norm_ (a' := ?_) ?_ ?_
    rotate_left
    ·show Act.put _ (some 13) _ = _
     simp only [Act.put, List.setIfInBounds_toArray, List.set_cons_zero, List.set_cons_succ, i64_w, i32_w]
     rfl
    refine pu 6 (some 14) #[true, true, true, true, true, true, true, false, false, false, false, false] (h := ?_)
    refine pu 7 (some 15) #[true, true, true, true, true, true, true, true, false, false, false, false] (h := ?_)
    refine one_ (i := 8) (N := some 16) #[true, true, true, true, true, true, true, true, true, false, false, false] rfl rfl (one_of HT_.out (by kernel_rfl)) (by decide) (fun K hK => ?_)
    refine goes_ Tryz.func70 (by kernel_rfl) rfl #[.slice Ao25z t1015.length co26z, .int .i64 t1016] (by rfl) rfl rfl pA ?_
    with_reducible refine (quot_first_uint32.calls (fun k_ => some k_ = (.slice Ao25z t1015.length co26z : Value).ownBlock) (.slice Ao25z t1015.length co26z) t1015 t1016 t1019 w _ ?side1 ?side2 A5.out).mono ?_
    (case side1 => exact pB)
    (case side2 => exact Kd.R_tight rfl HO24z.out)
    rintro e w28z ⟨v29z, rfl, ho17z, hb, hkp⟩
    refine ⟨_, rfl, ?_⟩
    have HO30z := am (Kd.R_mono (ok' := fun k_ => some k_ ≠ (.slice Ao19z t1012.length co20z : Value).ownBlock) ho17z (fun k_ hk_ => Or.elim hk_ (fun hs_ => fun e_ => (((HO18z.out).1 k_ e_.symm).2) hs_) (fun hn_ => (Kd.fresh' (Kd.R_lt (Kd.R_below HO18z.out pl)) k_ hn_))))
    replace BK2z := am (blk_kept (blk_below BK2z.out pl) hkp (fun hs_ => (fun e_ => (Kd.R_ne HO24z.out BK2z.out (by decide)) e_) hs_))
    replace HO18z := am (Kd.R_mono (ok' := fun k_ => some k_ ≠ (v29z : Value).ownBlock) (Kd.R_keptB (HO18z.out) hkp (fun k_ hk_ hs_ => (hk_.2) hs_)) (fun k_ hk_ => fun e_ => Or.elim (ho17z.1 k_ e_.symm) (fun hs_ => hk_.2.1 hs_) (fun hn_ => Nat.not_le.2 hk_.2.2 hn_)))
    replace HB := am hb
    clear HO24z
    (try clear hb); (try clear hkp); (try clear ho17z)
    refine hK.out _ _ ⟨(blk_cell BK2z.out 0).trans rfl, (blk_cell BK2z.out 1).trans rfl, (blk_cell BK2z.out 2).trans rfl⟩ (fun hHeld => ?_)
    clear hK K
    refine norm_ (a' := ?_) ?_ ?_
    rotate_left
    ·show Act.put _ (some 16) _ = _
     simp only [Act.put, List.setIfInBounds_toArray, List.set_cons_zero, List.set_cons_succ, i64_w, i32_w]
     rfl
    refine pu 9 (some 2) #[true, true, true, true, true, true, true, true, true, true, false, false] (h := ?_)
    refine pu 10 (some 3) #[true, true, true, true, true, true, true, true, true, true, true, false] (h := ?_)
    refine pu 11 (some 4) #[true, true, true, true, true, true, true, true, true, true, true, true] (h := ?_)
    refine done_ (done_of HT_.out (by kernel_rfl)) ?_
    try go_wp2
    go_ret3
    exact ⟨_, _, pE, by refine rp ?_; exact Kd.R_mono HO30z.out (fun _ hk => (by simp [Value.ownBlock])), pN, pB⟩
  | refine start_ (n := 13) (S := fun w' => w'.cell? ⟨gb0z, 0, none⟩ = some (.bool a0_0) /\ w'.cell? ⟨gb0z, 1, none⟩ = some (.slice A0_1 l0_1.length c0_1) /\ w'.cell? ⟨gb0z, 2, none⟩ = some (.int .i64 a0_2)) (ds := []) #[false, false, false, false, false, false, false, false, false, false, false, false, false] (by kernel_rfl) rfl rfl ⟨(blk_cell BK2z.out 0).trans rfl, (blk_cell BK2z.out 1).trans rfl, (blk_cell BK2z.out 2).trans rfl⟩ (fun hHeld => ?_); refine with_tabW quot_split.tab3 quot_split.bits3 (fun HT_ HW_ => ?_)
    generalize w1z.drew = w11z at BK2z HB hHeld ⊢
    refine pu 0 (some 18) #[true, false, false, false, false, false, false, false, false, false, false, false, false] (h := ?_)
    refine pu 2 (some 20) #[true, false, true, false, false, false, false, false, false, false, false, false, false] (h := ?_)
    refine take_ (i := 1) (N := some 19) (v := ?_) (a' := ?_) #[true, true, true, false, false, false, false, false, false, false, false, false, false] rfl rfl (take_ofW HT_.out HW_.out (by kernel_rfl)) (fun _ _ _ h => h) (Or.inl ⟨by rfl, ?_⟩) hHeld ?_ ?_
    rotate_left
    ·rintro w' ⟨s12z, s13z, s14z⟩
     go_simp
     with_reducible rfl
    rotate_left
    ·simp only [Act.put, List.setIfInBounds_toArray, List.set_cons_zero, List.set_cons_succ, i64_w, i32_w]
     rfl
    refine take_ (i := 3) (N := some 21) (v := ?_) (a' := ?_) #[true, true, true, true, false, false, false, false, false, false, false, false, false] rfl rfl (take_ofW HT_.out HW_.out (by kernel_rfl)) (fun _ _ _ h => h) (Or.inl ⟨by rfl, ?_⟩) hHeld ?_ ?_
    rotate_left
    ·rintro w' ⟨s12z, s13z, s14z⟩
     go_simp
     with_reducible rfl
    rotate_left
    ·simp only [Act.put, List.setIfInBounds_toArray, List.set_cons_zero, List.set_cons_succ, i64_w, i32_w]
     rfl
    refine pu 4 (some 22) #[true, true, true, true, true, false, false, false, false, false, false, false, false] (h := ?_)
    refine one_ (i := 5) (N := some 23) #[true, true, true, true, true, true, false, false, false, false, false, false, false] rfl rfl (one_of HT_.out (by kernel_rfl)) (by decide) (fun K hK => ?_)
    refine goes_ Tryz.func72 (by kernel_rfl) rfl #[.int .i64 (wrap64 (-a0_2))] (by rfl) rfl rfl pA ?_
    with_reducible refine (quot_pow.calls k (wrap64 (-a0_2)) t1022 _ A14.out).mono ?_
    rintro e w15z ⟨v16z, rfl, ho17z, hb⟩
    refine ⟨_, rfl, ?_⟩
    have HO18z := am (Kd.R_lower ho17z (below_size pB))
    replace BK2z := bb BK2z hb
    replace HB := bS hb
    (try clear hb); (try clear ho17z)
    obtain ⟨Ao19z, co20z, eo21z⟩ := Kd.R_slice HO18z.out
    (first | subst eo21z | (injection eo21z with f1_ f2_ f3_; have f4_ := f1_.symm; have f5_ := f3_.symm; clear f1_ f2_ f3_; subst f4_; subst f5_))
    refine hK.out _ _ ⟨(blk_cell BK2z.out 0).trans rfl, (blk_cell BK2z.out 1).trans rfl, (blk_cell BK2z.out 2).trans rfl⟩ (fun hHeld => ?_)
    clear hK K
    refine norm_ (a' := ?_) ?_ ?_
    rotate_left
    ·show Act.put _ (some 23) _ = _
     simp only [Act.put, List.setIfInBounds_toArray, List.set_cons_zero, List.set_cons_succ, i64_w, i32_w]
     rfl
    refine one_ (i := 6) (N := some 24) #[true, true, true, true, true, true, true, false, false, false, false, false, false] rfl rfl (one_of HT_.out (by kernel_rfl)) (by decide) (fun K hK => ?_)
    refine goes_ Tryz.func69 (by kernel_rfl) rfl #[.slice A0_1 l0_1.length c0_1, .slice Ao19z t1022.length co20z] (by rfl) rfl rfl pA ?_
    with_reducible refine (nat_Div.calls k _ _ l0_1 _ _ t1022 t1025 t1026 t1027 _ ?side1 ?side2 ?side3 ?side4 A15.out).mono ?_
    (case side1 => refine cp ?_; exact (Kd.C_below HR0_1.out HB.out))
    (case side2 => exact HC0_1.out)
    (case side3 => exact Kd.C_below (Kd.R_reads' HO18z.out).2.2 pl)
    (case side4 => exact (Kd.R_reads' HO18z.out).2.1)
    rintro e w22z ⟨v23z, v24z, rfl, ho17z, ho25z, hb⟩
    refine ⟨_, rfl, ?_⟩
    have HO26z := am (Kd.R_lower (Kd.R_new' ho17z (Kd.R_lt (Kd.R_below HO18z.out pl))) (below_size pB))
    have HO27z := am (Kd.R_lower (Kd.R_new' ho25z (Kd.R_lt (Kd.R_below HO18z.out pl))) (below_size pB))
    replace HO18z := am (Kd.R_mono (Kd.R_told (Kd.R_told (Kd.R_old (Kd.R_below HO18z.out pl) hb) (Kd.R_base ho17z)) (Kd.R_base ho25z)) (fun _ h_ => h_.1))
    replace BK2z := bb BK2z hb
    replace HB := bS hb
    (try clear hb); (try clear ho17z); (try clear ho25z)
    refine hK.out _ _ ⟨(blk_cell BK2z.out 0).trans rfl, (blk_cell BK2z.out 1).trans rfl, (blk_cell BK2z.out 2).trans rfl⟩ (fun hHeld => ?_)
    clear hK K
    refine norm_ (a' := ?_) ?_ ?_
    rotate_left
    ·show Act.put _ (some 24) _ = _
     simp only [Act.put, List.setIfInBounds_toArray, List.set_cons_zero, List.set_cons_succ, i64_w, i32_w]
     rfl
    refine pu 7 (some 17) #[true, true, true, true, true, true, true, true, false, false, false, false, false] (h := ?_)
    refine pu 8 (some 25) #[true, true, true, true, true, true, true, true, true, false, false, false, false] (h := ?_)
    refine pu 9 (some 26) #[true, true, true, true, true, true, true, true, true, true, false, false, false] (h := ?_)
    refine pu 10 (some 27) #[true, true, true, true, true, true, true, true, true, true, true, false, false] (h := ?_)
    refine pu 11 (some 2) #[true, true, true, true, true, true, true, true, true, true, true, true, false] (h := ?_)
    refine pu 12 (some 3) #[true, true, true, true, true, true, true, true, true, true, true, true, true] (h := ?_)
    refine done_ (done_of HT_.out (by kernel_rfl)) ?_
    try go_wp2
    replace HO18z := am (Kd.R_drew HO18z.out)
    replace HO26z := am (Kd.R_drew HO26z.out)
    replace HO27z := am (Kd.R_drew HO27z.out)
    replace BK2z := am (blk_drew BK2z.out)
    replace HB := am (below_drew1 HB.out)
    refine start_ (n := 8) (S := fun w' => w'.cell? ⟨gb0z, 0, none⟩ = some (.bool a0_0) /\ w'.cell? ⟨gb0z, 1, none⟩ = some (.slice A0_1 l0_1.length c0_1) /\ w'.cell? ⟨gb0z, 2, none⟩ = some (.int .i64 a0_2)) (ds := []) #[false, false, false, false, false, false, false, false] (by kernel_rfl) rfl rfl ⟨(blk_cell BK2z.out 0).trans rfl, (blk_cell BK2z.out 1).trans rfl, (blk_cell BK2z.out 2).trans rfl⟩ (fun hHeld => ?_); refine with_tabW quot_split.tab4 quot_split.bits4 (fun HT_ HW_ => ?_)
    generalize w22z.drew = w28z at HO18z HO26z HO27z BK2z HB hHeld ⊢
    refine pu 0 (some 28) #[true, false, false, false, false, false, false, false] (h := ?_)
    refine pu 1 (some 29) #[true, true, false, false, false, false, false, false] (h := ?_)
    refine pu 2 (some 30) #[true, true, true, false, false, false, false, false] (h := ?_)
    refine pu 5 (some 2) #[true, true, true, false, false, true, false, false] (h := ?_)
    refine pu 6 (some 3) #[true, true, true, false, false, true, true, false] (h := ?_)
    refine take_ (i := 3) (N := some 31) (v := ?_) (a' := ?_) #[true, true, true, true, false, true, true, false] rfl rfl (take_ofW HT_.out HW_.out (by kernel_rfl)) (fun _ _ _ h => h) (Or.inl ⟨by rfl, ?_⟩) hHeld ?_ ?_
    rotate_left
    ·rintro w' ⟨s12z, s13z, s14z⟩
     go_simp
     with_reducible rfl
    rotate_left
    ·simp only [Act.put, List.setIfInBounds_toArray, List.set_cons_zero, List.set_cons_succ, i64_w, i32_w]
     rfl
    refine pu 4 (some 32) #[true, true, true, true, true, true, true, false] (h := ?_)
    refine pu 7 (some 4) #[true, true, true, true, true, true, true, true] (h := ?_)
    refine done_ (done_of HT_.out (by kernel_rfl)) ?_
    try go_wp2
    go_ret3
    exact ⟨_, _, pE, by refine rp ?_; exact Kd.R_mono HO26z.out (fun _ hk => hk.1), by refine rp ?_; exact Kd.R_mono HO27z.out (fun _ hk => hk.1), pB⟩) : P := h
theorem quot_split.calls (k : Nat) (a0_0 : Bool) (A0_1 : Option Addr) (c0_1 : Nat) (l0_1 : List Int) (a0_2 : Int) (r1 : List Int) (r2 : List Int) (r3 : Int) (w : World) (hr0_1 : Kd.C (Kd.int .u32) w A0_1 l0_1.length l0_1) (hc0_1 : l0_1.length <= c0_1) (h : quot_split.f k a0_0 l0_1 a0_2 = some (r1, r2, r3)) :
  Calls Tryz.prog 83 #[.agg #[.bool a0_0, .slice A0_1 l0_1.length c0_1, .int .i64 a0_2]] w fun e w' => ∃ v0_ v1_ : Value, e = .returned (.tuple #[v0_, v1_, .int .i64 r3]) /\ Kd.R (Kd.int .u32) 85 w' w.heap.size (fun k_ => some k_ ≠ (v1_ : Value).ownBlock) v0_ r1 /\ Kd.R (Kd.int .u32) 85 w' w.heap.size (fun k_ => some k_ ≠ (v0_ : Value).ownBlock) v1_ r2 /\ Below w.heap.size w w' := by
 have hu24 := Tryz.underlying24
 have HR0_1 := am hr0_1
 have HC0_1 := am hc0_1
 clear hr0_1 hc0_1
 have HB := am (Below.refl w.heap.size w)
 have H : (if a0_2 >= 0 then ((quot_pow.f k a0_2).bind fun t1012 => ((nat_Mul.f k l0_1 t1012).bind fun bt1015 => ((quot_first_uint32.f bt1015.1 bt1015.2).bind fun t1019 => (some (t1019, ([] : List Int), 0))))) else ((quot_pow.f k (wrap64 (-a0_2))).bind fun t1022 => ((nat_Div.f k l0_1 t1022).bind fun bt1025 => (some (bt1025.1, bt1025.2.1, wrap64 (-a0_2)))))) = some (r1, r2, r3) := h
 clear h
 by_cases c2 : a0_2 >= 0
 ·rw [if_pos c2] at H
  have c2b0 : decide (0 <= a0_2) = true := decide_eq_true c2
  clear c2
  obtain ⟨t1012, A3, H⟩ := ob H
  obtain ⟨⟨t1015, t1016⟩, A4, H⟩ := ob H; (try dsimp only at H)
  obtain ⟨t1019, A5, H⟩ := ob H
  simp only [Option.some.injEq, Prod.mk.injEq] at H
  obtain ⟨rfl, rfl, rfl⟩ := H
  exact quot_split.leaf
 ·rw [if_neg c2] at H
  have c2b0 : decide (0 <= a0_2) = false := decide_eq_false c2
  clear c2
  obtain ⟨t1022, A14, H⟩ := ob H
  obtain ⟨⟨t1025, t1026, t1027⟩, A15, H⟩ := ob H; (try dsimp only at H)
  simp only [Option.some.injEq, Prod.mk.injEq] at H
  obtain ⟨rfl, rfl, rfl⟩ := H
  exact quot_split.leaf
def quot_Mod.f (k : Nat) (a0_0 : Bool) (l0_1 : List Int) (a0_2 : Int) (a1_0 : Bool) (l1_1 : List Int) (a1_2 : Int) : Option (Bool × List Int × Int × Int) := (quot_ask.f k (([(⟨a0_0, l0_1, a0_2⟩ : S24), (⟨a1_0, l1_1, a1_2⟩ : S24)] : List (S24)))).bind fun t1038 => (if t1038 = 0 then ((quot_split.f k a0_0 l0_1 a0_2).bind fun bt1039 => ((quot_split.f k a1_0 l1_1 a1_2).bind fun bt1046 => ((nat_Div.f k bt1039.1 bt1046.1).bind fun bt1053 => (if bt1053.2.2 = 0 then ((dec_Settle.f k a0_0 bt1053.2.1 0).bind fun bt1060 => (some (bt1060.1, bt1060.2.1, bt1060.2.2.1, bt1060.2.2.2))) else (some (false, ([] : List Int), 0, bt1053.2.2)))))) else (some (false, ([] : List Int), 0, t1038)))
theorem quot_Mod.leaf {P : Prop} (h : P := by
 go_enter Tryz.func28, Tryz.ntmps28
 go_wp2_with (first | ((with_reducible refine gd 2 ?_); refine bx 2 #[.bool a0_0, .slice A0_1 l0_1.length c0_1, .int .i64 a0_2] 24 (h := ?_); intro gb0z hg w1z hbox hb; have BK2z := am hbox; have GW3z := gW hg; have GE4z := gW hg; replace HO0_1 := vE HO0_1 gb0z hg hb; replace HO1_1 := vE HO1_1 gb0z hg hb; replace HB := bS hb; clear hb hbox hg) | ((with_reducible refine gd 3 ?_); refine bx 3 #[.bool a1_0, .slice A1_1 l1_1.length c1_1, .int .i64 a1_2] 24 (h := ?_); intro gb5z hg w6z hbox hb; have BK7z := am hbox; have GW8z := gW hg; have GE9z := gW hg; have NB10z := nL hg BK2z; have NB11z := nG hg BK2z; replace HO0_1 := vE HO0_1 gb5z hg hb; replace HO1_1 := vE HO1_1 gb5z hg hb; replace BK2z := bb BK2z hb; replace HB := bS hb; clear hb hbox hg) | ((with_reducible refine gd 4 ?_); refine bx 4 #[.bool false, .slice none 0 0, .int .i64 0] 24 (h := ?_); intro gb12z hg w13z hbox hb; have BK14z := am hbox; have GW15z := gW hg; have GE16z := gW hg; have NB17z := nL hg BK2z; have NB18z := nG hg BK2z; have NB19z := nL hg BK7z; have NB20z := nG hg BK7z; replace HO0_1 := vE HO0_1 gb12z hg hb; replace HO1_1 := vE HO1_1 gb12z hg hb; replace BK2z := bb BK2z hb; replace BK7z := bb BK7z hb; replace HB := bS hb; clear hb hbox hg; have hnb21z := NB10z.out; have hnc22z := NB11z.out; have hnb23z := NB17z.out; have hnc24z := NB18z.out; obtain ⟨hcz25z, hcz26z, hcz27z, hfz28z, hfz29z, hfz30z⟩ := cEc BK2z.out; have hnb31z := NB19z.out; have hnc32z := NB20z.out; obtain ⟨hcz33z, hcz34z, hcz35z, hfz36z, hfz37z, hfz38z⟩ := cEc BK7z.out) | ((with_reducible refine gd 18 ?_); refine Kd.N_lit k24 _ 24 ?hg (N' := 18) ?hd (xs := ([(⟨a0_0, l0_1, a0_2⟩ : S24), (⟨a1_0, l1_1, a1_2⟩ : S24)] : List (S24))) (inner := [.bool a0_0, .slice A0_1 l0_1.length c0_1, .int .i64 a0_2, .bool a1_0, .slice A1_1 l1_1.length c1_1, .int .i64 a1_2]) (ok := (fun k_ => ((P0_1_ k_ \/ P1_1_ k_) \/ w.heap.size <= k_) /\ k_ ≠ gb0z /\ k_ ≠ gb5z /\ k_ ≠ gb12z)) (okp := (fun k_ => ((P0_1_ k_ \/ P1_1_ k_) \/ w.heap.size <= k_) /\ k_ ≠ gb0z /\ k_ ≠ gb5z /\ k_ ≠ gb12z)) ?hr ?hp (fun _ hk => hk) ((show ∀ k_, w13z.heap.size <= k_ -> (fun k_ => ((P0_1_ k_ \/ P1_1_ k_) \/ w.heap.size <= k_) /\ k_ ≠ gb0z /\ k_ ≠ gb5z /\ k_ ≠ gb12z) k_ from fun k_ hk => ⟨(.inr (Nat.le_trans (below_size pB) hk)), Kd.freshB (g := gb0z) (o := .cells #[.bool a0_0, .slice A0_1 l0_1.length c0_1, .int .i64 a0_2] 24 (0, 0)) (blk_below BK2z.out pl) k_ hk, Kd.freshB (g := gb5z) (o := .cells #[.bool a1_0, .slice A1_1 l1_1.length c1_1, .int .i64 a1_2] 24 (0, 0)) (blk_below BK7z.out pl) k_ hk, Kd.freshB (g := gb12z) (o := .cells #[.bool false, .slice none 0 0, .int .i64 0] 24 (0, 0)) (blk_below BK14z.out pl) k_ hk⟩) _ (Nat.le_refl _)) (Below.refl _ _) (Nat.le_refl _) (by simp) ?_; (case hd => rfl); (case hg => rfl); (case hr => first | (go_simp; done) | (go_simp; rfl)); (case hp => exact (Reps.c3 (show Kd.FK k24 _ _ (⟨a0_0, l0_1, a0_2⟩ : S24) [.bool a0_0, .slice A0_1 l0_1.length c0_1, .int .i64 a0_2] from (k24_mkF _ _ (⟨a0_0, l0_1, a0_2⟩ : S24) (Kd.V_reads' (Kd.V_mono (ok' := (fun k_ => ((P0_1_ k_ \/ P1_1_ k_) \/ w.heap.size <= k_) /\ k_ ≠ gb0z /\ k_ ≠ gb5z /\ k_ ≠ gb12z)) (HO0_1.out) (fun k_ hk => ⟨hk.1.1.1, ⟨hk.1.1.2, ⟨hk.1.2, hk.2⟩⟩⟩))).2.1 (Kd.V_F (Kd.V_mono (ok' := (fun k_ => ((P0_1_ k_ \/ P1_1_ k_) \/ w.heap.size <= k_) /\ k_ ≠ gb0z /\ k_ ≠ gb5z /\ k_ ≠ gb12z)) (HO0_1.out) (fun k_ hk => ⟨hk.1.1.1, ⟨hk.1.1.2, ⟨hk.1.2, hk.2⟩⟩⟩))))) (Reps.c3 (show Kd.FK k24 _ _ (⟨a1_0, l1_1, a1_2⟩ : S24) [.bool a1_0, .slice A1_1 l1_1.length c1_1, .int .i64 a1_2] from (k24_mkF _ _ (⟨a1_0, l1_1, a1_2⟩ : S24) (Kd.V_reads' (Kd.V_mono (ok' := (fun k_ => ((P0_1_ k_ \/ P1_1_ k_) \/ w.heap.size <= k_) /\ k_ ≠ gb0z /\ k_ ≠ gb5z /\ k_ ≠ gb12z)) (HO1_1.out) (fun k_ hk => ⟨hk.1.1.1, ⟨hk.1.1.2, ⟨hk.1.2, hk.2⟩⟩⟩))).2.1 (Kd.V_F (Kd.V_mono (ok' := (fun k_ => ((P0_1_ k_ \/ P1_1_ k_) \/ w.heap.size <= k_) /\ k_ ≠ gb0z /\ k_ ≠ gb5z /\ k_ ≠ gb12z)) (HO1_1.out) (fun k_ hk => ⟨hk.1.1.1, ⟨hk.1.1.2, ⟨hk.1.2, hk.2⟩⟩⟩))))) (Reps.none _ _)))); intro v39z w40z ho41z hb hg_ hnew_; clear hg_ hnew_; (first | rw [<- Ny1035.out] at ho41z | (simp only [Int.reduceToNat] at ho41z; rw [<- Ny1035.out] at ho41z)); replace HO0_1 := am (Kd.V_elder' (Kd.V_below HO0_1.out pl) (Kd.N_base ho41z) hb); replace HO1_1 := am (Kd.V_elder' (Kd.V_below HO1_1.out pl) (Kd.N_base ho41z) hb); have HO42z := am (Kd.N_lower ho41z (below_size pB)); replace BK2z := bb BK2z hb; replace BK7z := bb BK7z hb; replace BK14z := bb BK14z hb; replace HB := bS hb; clear hb ho41z; obtain ⟨Ao43z, co44z, eo45z⟩ := Kd.N_slice HO42z.out; subst eo45z) | ((have q_ := A7; clear q_); refine gL (some 19) Tryz.func67 #[.slice Ao43z y1035.length co44z] (h := ?_); (with_reducible refine (quot_ask.calls k _ _ y1035 t1038 _ ?side1 ?side2 A3.out).mono ?_); (case side1 => exact Kd.C_below (Kd.N_reads' HO42z.out).2.2 pl); (case side2 => exact (Kd.N_reads' HO42z.out).2.1); rintro e w46z ⟨rfl, hb⟩; refine ⟨_, rfl, ?_⟩; replace HO0_1 := vbl HO0_1 hb; replace HO1_1 := vbl HO1_1 hb; replace HO42z := nbl HO42z hb; replace BK2z := bb BK2z hb; replace BK7z := bb BK7z hb; replace BK14z := bb BK14z hb; replace HB := bS hb; (try clear hb); (try clear hb47z); (try clear hk); (try clear hi); obtain ⟨hcz48z, hcz49z, hcz50z, hfz51z, hfz52z, hfz53z⟩ := cEc BK2z.out) | (refine gL (some 26) Tryz.func83 #[.agg #[.bool a0_0, .slice A0_1 l0_1.length c0_1, .int .i64 a0_2]] (h := ?_); (with_reducible refine (quot_split.calls k a0_0 _ _ l0_1 a0_2 t1039 t1042 t1045 _ ?side1 ?side2 A5.out).mono ?_); (case side1 => exact Kd.C_below (Kd.V_reads' HO0_1.out).2.2 pl); (case side2 => exact (Kd.V_reads' HO0_1.out).2.1); rintro e w54z ⟨v55z, v56z, rfl, ho57z, ho58z, hb⟩; refine ⟨_, rfl, ?_⟩; replace HO0_1 := am (Kd.V_mono (Kd.V_told (Kd.V_told (Kd.V_old (Kd.V_below HO0_1.out pl) hb) (Kd.R_base ho57z)) (Kd.R_base ho58z)) (fun _ h_ => h_.1)); replace HO1_1 := am (Kd.V_mono (Kd.V_told (Kd.V_told (Kd.V_old (Kd.V_below HO1_1.out pl) hb) (Kd.R_base ho57z)) (Kd.R_base ho58z)) (fun _ h_ => h_.1)); replace HO42z := am (Kd.N_mono (Kd.N_told (Kd.N_told (Kd.N_old (Kd.N_below HO42z.out pl) hb) (Kd.R_base ho57z)) (Kd.R_base ho58z)) (fun _ h_ => h_.1)); have HO59z := am (Kd.R_lower (Kd.R_newM (M := fun k_ => (w.heap.size <= k_)) ho57z (below_size pB) (fun k_ h_ => h_)) (below_size pB)); have HO60z := am (Kd.R_lower (Kd.R_newM (M := fun k_ => (w.heap.size <= k_)) ho58z (below_size pB) (fun k_ h_ => h_)) (below_size pB)); replace BK2z := bb BK2z hb; replace BK7z := bb BK7z hb; replace BK14z := bb BK14z hb; replace HB := bS hb; (try clear hb); (try clear hb47z); (try clear hk); (try clear hi); (try clear ho57z); (try clear ho58z); obtain ⟨hcz61z, hcz62z, hcz63z, hfz64z, hfz65z, hfz66z⟩ := cEc BK7z.out) | (refine gL (some 32) Tryz.func83 #[.agg #[.bool a1_0, .slice A1_1 l1_1.length c1_1, .int .i64 a1_2]] (h := ?_); (with_reducible refine (quot_split.calls k a1_0 _ _ l1_1 a1_2 t1046 t1049 t1052 _ ?side1 ?side2 A6.out).mono ?_); (case side1 => exact Kd.C_below (Kd.V_reads' HO1_1.out).2.2 pl); (case side2 => exact (Kd.V_reads' HO1_1.out).2.1); rintro e w67z ⟨v68z, v69z, rfl, ho57z, ho58z, hb⟩; refine ⟨_, rfl, ?_⟩; have HO70z := am (Kd.R_lower (Kd.R_new' (Kd.R_new' (Kd.R_newM (M := fun k_ => (w.heap.size <= k_)) ho57z (below_size pB) (fun k_ h_ => h_)) (Kd.R_lt (Kd.R_below HO59z.out pl))) (Kd.R_lt (Kd.R_below HO60z.out pl))) (below_size pB)); have HO71z := am (Kd.R_lower (Kd.R_new' (Kd.R_new' (Kd.R_newM (M := fun k_ => (w.heap.size <= k_)) ho58z (below_size pB) (fun k_ h_ => h_)) (Kd.R_lt (Kd.R_below HO59z.out pl))) (Kd.R_lt (Kd.R_below HO60z.out pl))) (below_size pB)); replace HO0_1 := am (Kd.V_mono (Kd.V_told (Kd.V_told (Kd.V_old (Kd.V_below HO0_1.out pl) hb) (Kd.R_base ho57z)) (Kd.R_base ho58z)) (fun _ h_ => h_.1)); replace HO1_1 := am (Kd.V_mono (Kd.V_told (Kd.V_told (Kd.V_old (Kd.V_below HO1_1.out pl) hb) (Kd.R_base ho57z)) (Kd.R_base ho58z)) (fun _ h_ => h_.1)); replace HO42z := am (Kd.N_mono (Kd.N_told (Kd.N_told (Kd.N_old (Kd.N_below HO42z.out pl) hb) (Kd.R_base ho57z)) (Kd.R_base ho58z)) (fun _ h_ => h_.1)); replace HO59z := am (Kd.R_mono (Kd.R_told (Kd.R_told (Kd.R_old (Kd.R_below HO59z.out pl) hb) (Kd.R_base ho57z)) (Kd.R_base ho58z)) (fun _ h_ => h_.1)); replace HO60z := am (Kd.R_mono (Kd.R_told (Kd.R_told (Kd.R_old (Kd.R_below HO60z.out pl) hb) (Kd.R_base ho57z)) (Kd.R_base ho58z)) (fun _ h_ => h_.1)); replace BK2z := bb BK2z hb; replace BK7z := bb BK7z hb; replace BK14z := bb BK14z hb; replace HB := bS hb; (try clear hb); (try clear hb47z); (try clear hk); (try clear hi); (try clear ho57z); (try clear ho58z); obtain ⟨Ao72z, co73z, eo74z⟩ := Kd.R_slice HO59z.out; subst eo74z; obtain ⟨Ao75z, co76z, eo77z⟩ := Kd.R_slice HO70z.out; subst eo77z) | ((have q_ := A9; clear q_); refine gL (some 39) Tryz.func69 #[.slice Ao72z t1039.length co73z, .slice Ao75z t1046.length co76z] (h := ?_); (with_reducible refine (nat_Div.calls k _ _ t1039 _ _ t1046 t1053 t1054 t1055 _ ?side1 ?side2 ?side3 ?side4 A7.out).mono ?_); (case side1 => exact Kd.C_below (Kd.R_reads' HO59z.out).2.2 pl); (case side2 => exact (Kd.R_reads' HO59z.out).2.1); (case side3 => exact Kd.C_below (Kd.R_reads' HO70z.out).2.2 pl); (case side4 => exact (Kd.R_reads' HO70z.out).2.1); rintro e w78z ⟨v79z, v80z, rfl, ho57z, ho58z, hb⟩; refine ⟨_, rfl, ?_⟩; have HO81z := am (Kd.R_lower (Kd.R_new' (Kd.R_new' (Kd.R_new' (Kd.R_new' (Kd.R_newM (M := fun k_ => (w.heap.size <= k_)) ho57z (below_size pB) (fun k_ h_ => h_)) (Kd.R_lt (Kd.R_below HO59z.out pl))) (Kd.R_lt (Kd.R_below HO60z.out pl))) (Kd.R_lt (Kd.R_below HO70z.out pl))) (Kd.R_lt (Kd.R_below HO71z.out pl))) (below_size pB)); have HO82z := am (Kd.R_lower (Kd.R_new' (Kd.R_new' (Kd.R_new' (Kd.R_new' (Kd.R_newM (M := fun k_ => (w.heap.size <= k_)) ho58z (below_size pB) (fun k_ h_ => h_)) (Kd.R_lt (Kd.R_below HO59z.out pl))) (Kd.R_lt (Kd.R_below HO60z.out pl))) (Kd.R_lt (Kd.R_below HO70z.out pl))) (Kd.R_lt (Kd.R_below HO71z.out pl))) (below_size pB)); replace HO0_1 := am (Kd.V_mono (Kd.V_told (Kd.V_told (Kd.V_old (Kd.V_below HO0_1.out pl) hb) (Kd.R_base ho57z)) (Kd.R_base ho58z)) (fun _ h_ => h_.1)); replace HO1_1 := am (Kd.V_mono (Kd.V_told (Kd.V_told (Kd.V_old (Kd.V_below HO1_1.out pl) hb) (Kd.R_base ho57z)) (Kd.R_base ho58z)) (fun _ h_ => h_.1)); replace HO42z := am (Kd.N_mono (Kd.N_told (Kd.N_told (Kd.N_old (Kd.N_below HO42z.out pl) hb) (Kd.R_base ho57z)) (Kd.R_base ho58z)) (fun _ h_ => h_.1)); replace HO59z := am (Kd.R_mono (Kd.R_told (Kd.R_told (Kd.R_old (Kd.R_below HO59z.out pl) hb) (Kd.R_base ho57z)) (Kd.R_base ho58z)) (fun _ h_ => h_.1)); replace HO60z := am (Kd.R_mono (Kd.R_told (Kd.R_told (Kd.R_old (Kd.R_below HO60z.out pl) hb) (Kd.R_base ho57z)) (Kd.R_base ho58z)) (fun _ h_ => h_.1)); replace HO70z := am (Kd.R_mono (Kd.R_told (Kd.R_told (Kd.R_old (Kd.R_below HO70z.out pl) hb) (Kd.R_base ho57z)) (Kd.R_base ho58z)) (fun _ h_ => h_.1)); replace HO71z := am (Kd.R_mono (Kd.R_told (Kd.R_told (Kd.R_old (Kd.R_below HO71z.out pl) hb) (Kd.R_base ho57z)) (Kd.R_base ho58z)) (fun _ h_ => h_.1)); replace BK2z := bb BK2z hb; replace BK7z := bb BK7z hb; replace BK14z := bb BK14z hb; replace HB := bS hb; (try clear hb); (try clear hb47z); (try clear hk); (try clear hi); (try clear ho57z); (try clear ho58z); obtain ⟨hcz83z, hcz84z, hcz85z, hfz86z, hfz87z, hfz88z⟩ := cEc BK2z.out; obtain ⟨Ao89z, co90z, eo91z⟩ := Kd.R_slice HO82z.out; subst eo91z) | (refine gL (some 50) Tryz.func60 #[.bool a0_0, .slice Ao89z t1054.length co90z, .int .i64 0] (h := ?_); (with_reducible refine (dec_Settle.calls k a0_0 _ _ t1054 0 t1060 t1061 t1064 t1065 _ ?side1 ?side2 A9.out).mono ?_); (case side1 => exact Kd.C_below (Kd.R_reads' HO82z.out).2.2 pl); (case side2 => exact (Kd.R_reads' HO82z.out).2.1); rintro e w92z ⟨v93z, rfl, ho57z, hb⟩; refine ⟨_, rfl, ?_⟩; have HO94z := am (Kd.R_lower (Kd.R_new' (Kd.R_new' (Kd.R_new' (Kd.R_new' (Kd.R_new' (Kd.R_new' (Kd.R_newM (M := fun k_ => (w.heap.size <= k_)) ho57z (below_size pB) (fun k_ h_ => h_)) (Kd.R_lt (Kd.R_below HO59z.out pl))) (Kd.R_lt (Kd.R_below HO60z.out pl))) (Kd.R_lt (Kd.R_below HO70z.out pl))) (Kd.R_lt (Kd.R_below HO71z.out pl))) (Kd.R_lt (Kd.R_below HO81z.out pl))) (Kd.R_lt (Kd.R_below HO82z.out pl))) (below_size pB)); replace HO0_1 := am (Kd.V_elder' (Kd.V_below HO0_1.out pl) (Kd.R_base ho57z) hb); replace HO1_1 := am (Kd.V_elder' (Kd.V_below HO1_1.out pl) (Kd.R_base ho57z) hb); replace HO42z := am (Kd.N_elder' (Kd.N_below HO42z.out pl) (Kd.R_base ho57z) hb); replace HO59z := reR HO59z ho57z hb; replace HO60z := reR HO60z ho57z hb; replace HO70z := reR HO70z ho57z hb; replace HO71z := reR HO71z ho57z hb; replace HO81z := reR HO81z ho57z hb; replace HO82z := reR HO82z ho57z hb; replace BK2z := bb BK2z hb; replace BK7z := bb BK7z hb; replace BK14z := bb BK14z hb; replace HB := bS hb; (try clear hb); (try clear hb47z); (try clear hk); (try clear hi); (try clear ho57z); obtain ⟨hcz95z, hcz96z, hcz97z, hfz98z, hfz99z, hfz100z⟩ := cEc BK14z.out; obtain ⟨Ao101z, co102z, eo103z⟩ := Kd.R_slice HO94z.out; subst eo103z) | ((have q_ : (t1055 != 0) = true := c8b1; clear q_); refine gL (some 39) Tryz.func69 #[.slice Ao72z t1039.length co73z, .slice Ao75z t1046.length co76z] (h := ?_); (with_reducible refine (nat_Div.calls k _ _ t1039 _ _ t1046 t1053 t1054 t1055 _ ?side1 ?side2 ?side3 ?side4 A7.out).mono ?_); (case side1 => exact Kd.C_below (Kd.R_reads' HO59z.out).2.2 pl); (case side2 => exact (Kd.R_reads' HO59z.out).2.1); (case side3 => exact Kd.C_below (Kd.R_reads' HO70z.out).2.2 pl); (case side4 => exact (Kd.R_reads' HO70z.out).2.1); rintro e w78z ⟨v79z, v80z, rfl, ho57z, ho58z, hb⟩; refine ⟨_, rfl, ?_⟩; have HO81z := am (Kd.R_lower (Kd.R_new' (Kd.R_new' (Kd.R_new' (Kd.R_new' (Kd.R_newM (M := fun k_ => (w.heap.size <= k_)) ho57z (below_size pB) (fun k_ h_ => h_)) (Kd.R_lt (Kd.R_below HO59z.out pl))) (Kd.R_lt (Kd.R_below HO60z.out pl))) (Kd.R_lt (Kd.R_below HO70z.out pl))) (Kd.R_lt (Kd.R_below HO71z.out pl))) (below_size pB)); have HO82z := am (Kd.R_lower (Kd.R_new' (Kd.R_new' (Kd.R_new' (Kd.R_new' (Kd.R_newM (M := fun k_ => (w.heap.size <= k_)) ho58z (below_size pB) (fun k_ h_ => h_)) (Kd.R_lt (Kd.R_below HO59z.out pl))) (Kd.R_lt (Kd.R_below HO60z.out pl))) (Kd.R_lt (Kd.R_below HO70z.out pl))) (Kd.R_lt (Kd.R_below HO71z.out pl))) (below_size pB)); replace HO0_1 := am (Kd.V_mono (Kd.V_told (Kd.V_told (Kd.V_old (Kd.V_below HO0_1.out pl) hb) (Kd.R_base ho57z)) (Kd.R_base ho58z)) (fun _ h_ => h_.1)); replace HO1_1 := am (Kd.V_mono (Kd.V_told (Kd.V_told (Kd.V_old (Kd.V_below HO1_1.out pl) hb) (Kd.R_base ho57z)) (Kd.R_base ho58z)) (fun _ h_ => h_.1)); replace HO42z := am (Kd.N_mono (Kd.N_told (Kd.N_told (Kd.N_old (Kd.N_below HO42z.out pl) hb) (Kd.R_base ho57z)) (Kd.R_base ho58z)) (fun _ h_ => h_.1)); replace HO59z := am (Kd.R_mono (Kd.R_told (Kd.R_told (Kd.R_old (Kd.R_below HO59z.out pl) hb) (Kd.R_base ho57z)) (Kd.R_base ho58z)) (fun _ h_ => h_.1)); replace HO60z := am (Kd.R_mono (Kd.R_told (Kd.R_told (Kd.R_old (Kd.R_below HO60z.out pl) hb) (Kd.R_base ho57z)) (Kd.R_base ho58z)) (fun _ h_ => h_.1)); replace HO70z := am (Kd.R_mono (Kd.R_told (Kd.R_told (Kd.R_old (Kd.R_below HO70z.out pl) hb) (Kd.R_base ho57z)) (Kd.R_base ho58z)) (fun _ h_ => h_.1)); replace HO71z := am (Kd.R_mono (Kd.R_told (Kd.R_told (Kd.R_old (Kd.R_below HO71z.out pl) hb) (Kd.R_base ho57z)) (Kd.R_base ho58z)) (fun _ h_ => h_.1)); replace BK2z := bb BK2z hb; replace BK7z := bb BK7z hb; replace BK14z := bb BK14z hb; replace HB := bS hb; (try clear hb); (try clear hb47z); (try clear hk); (try clear hi); (try clear ho57z); (try clear ho58z); obtain ⟨hcz83z, hcz84z, hcz85z, hfz86z, hfz87z, hfz88z⟩ := cEc BK14z.out) | ((have q_ : (t1038 != 0) = true := c4b1; clear q_); refine gL (some 19) Tryz.func67 #[.slice Ao43z y1035.length co44z] (h := ?_); (with_reducible refine (quot_ask.calls k _ _ y1035 t1038 _ ?side1 ?side2 A3.out).mono ?_); (case side1 => exact Kd.C_below (Kd.N_reads' HO42z.out).2.2 pl); (case side2 => exact (Kd.N_reads' HO42z.out).2.1); rintro e w46z ⟨rfl, hb⟩; refine ⟨_, rfl, ?_⟩; replace HO0_1 := vbl HO0_1 hb; replace HO1_1 := vbl HO1_1 hb; replace HO42z := nbl HO42z hb; replace BK2z := bb BK2z hb; replace BK7z := bb BK7z hb; replace BK14z := bb BK14z hb; replace HB := bS hb; (try clear hb); (try clear hb47z); (try clear hk); (try clear hi); obtain ⟨hcz48z, hcz49z, hcz50z, hfz51z, hfz52z, hfz53z⟩ := cEc BK14z.out))
 first
  | have q_ := A9
    refine bodyPost_ret (results_ct rfl _ _ gb12z 24 #[.bool t1060, .slice Ao101z t1061.length co102z, .int .i64 t1064] (0, 0) _ rfl (by refine bp ?_; refine blk_put (cs := #[.bool t1060, .slice Ao101z t1061.length co102z, .int .i64 0]) ?_ 2 _ rfl; refine bp ?_; refine blk_put (cs := #[.bool t1060, .slice none 0 0, .int .i64 0]) ?_ 1 _ rfl; refine bp ?_; refine blk_put (cs := #[.bool false, .slice none 0 0, .int .i64 0]) ?_ 0 _ rfl; exact bp BK14z.out) Tryz.underlying24 rfl (by kernel_rfl)) rfl ?_
    exact ⟨_, pE, by refine rp ?_; exact Kd.R_mono (Kd.R_far (p := ⟨gb12z, 2, none⟩) (Kd.R_far (p := ⟨gb12z, 1, none⟩) (Kd.R_far (p := ⟨gb12z, 0, none⟩) (Kd.R_types HO94z.out BK14z.out (by decide)) (fun _ hk => hk.2) (.bool t1060)) (fun _ hk => hk.2) (.slice Ao101z t1061.length co102z)) (fun _ hk => hk.2) (.int .i64 t1064)) (fun _ hk => hk.1.1.1.1.1.1.1.1), pB⟩
  | refine bodyPost_ret (results_ct rfl _ _ gb12z 24 #[.bool false, .slice none 0 0, .int .i64 0] (0, 0) _ rfl (by refine bp ?_; refine blk_put (cs := #[.bool false, .slice none 0 0, .int .i64 0]) ?_ 2 _ rfl; refine bp ?_; refine blk_put (cs := #[.bool false, .slice none 0 0, .int .i64 0]) ?_ 1 _ rfl; refine bp ?_; refine blk_put (cs := #[.bool false, .slice none 0 0, .int .i64 0]) ?_ 0 _ rfl; exact bp BK14z.out) Tryz.underlying24 rfl (by kernel_rfl)) rfl ?_
    exact ⟨_, pE, pN, pB⟩) : P := h
theorem quot_Mod.calls (k : Nat) (a0_0 : Bool) (P0_1_ : Nat -> Prop) (A0_1 : Option Addr) (c0_1 : Nat) (l0_1 : List Int) (a0_2 : Int) (a1_0 : Bool) (P1_1_ : Nat -> Prop) (A1_1 : Option Addr) (c1_1 : Nat) (l1_1 : List Int) (a1_2 : Int) (r1 : Bool) (r2 : List Int) (r3 : Int) (r4 : Int) (w : World) (hs0_1 : Kd.V (Kd.int .u32) 85 w w.heap.size (fun k_ => P0_1_ k_) (.slice A0_1 l0_1.length c0_1) l0_1) (hs1_1 : Kd.V (Kd.int .u32) 85 w w.heap.size (fun k_ => P1_1_ k_) (.slice A1_1 l1_1.length c1_1) l1_1) (h : quot_Mod.f k a0_0 l0_1 a0_2 a1_0 l1_1 a1_2 = some (r1, r2, r3, r4)) :
  Calls Tryz.prog 28 #[.agg #[.bool a0_0, .slice A0_1 l0_1.length c0_1, .int .i64 a0_2], .agg #[.bool a1_0, .slice A1_1 l1_1.length c1_1, .int .i64 a1_2]] w fun e w' => ∃ v1_ : Value, e = .returned (.tuple #[.agg #[.bool r1, v1_, .int .i64 r3], .int .i64 r4]) /\ Kd.R (Kd.int .u32) 85 w' w.heap.size (fun k_ => (w.heap.size <= k_)) v1_ r2 /\ Below w.heap.size w w' := by
 have hu24 := Tryz.underlying24
 have HO0_1 := am (show Kd.V (Kd.int .u32) 85 w w.heap.size (fun k_ => ((P0_1_ k_ \/ P1_1_ k_) \/ w.heap.size <= k_)) (.slice A0_1 l0_1.length c0_1) l0_1 from Kd.V_mono hs0_1 (fun k_ hk => .inl (.inl hk)))
 have HO1_1 := am (show Kd.V (Kd.int .u32) 85 w w.heap.size (fun k_ => ((P0_1_ k_ \/ P1_1_ k_) \/ w.heap.size <= k_)) (.slice A1_1 l1_1.length c1_1) l1_1 from Kd.V_mono hs1_1 (fun k_ hk => .inl (.inr hk)))
 have HB := am (Below.refl w.heap.size w)
 have H : ((quot_ask.f k (([(⟨a0_0, l0_1, a0_2⟩ : S24), (⟨a1_0, l1_1, a1_2⟩ : S24)] : List (S24)))).bind fun t1038 => (if t1038 = 0 then ((quot_split.f k a0_0 l0_1 a0_2).bind fun bt1039 => ((quot_split.f k a1_0 l1_1 a1_2).bind fun bt1046 => ((nat_Div.f k bt1039.1 bt1046.1).bind fun bt1053 => (if bt1053.2.2 = 0 then ((dec_Settle.f k a0_0 bt1053.2.1 0).bind fun bt1060 => (some (bt1060.1, bt1060.2.1, bt1060.2.2.1, bt1060.2.2.2))) else (some (false, ([] : List Int), 0, bt1053.2.2)))))) else (some (false, ([] : List Int), 0, t1038)))) = some (r1, r2, r3, r4) := h
 clear h
 obtain ⟨y1035, hy1035⟩ : ∃ y_ : List (S24), y_ = (([(⟨a0_0, l0_1, a0_2⟩ : S24), (⟨a1_0, l1_1, a1_2⟩ : S24)] : List (S24))) := ⟨_, rfl⟩
 replace H : ((quot_ask.f k y1035).bind fun t1038 => (if t1038 = 0 then ((quot_split.f k a0_0 l0_1 a0_2).bind fun bt1039 => ((quot_split.f k a1_0 l1_1 a1_2).bind fun bt1046 => ((nat_Div.f k bt1039.1 bt1046.1).bind fun bt1053 => (if bt1053.2.2 = 0 then ((dec_Settle.f k a0_0 bt1053.2.1 0).bind fun bt1060 => (some (bt1060.1, bt1060.2.1, bt1060.2.2.1, bt1060.2.2.2))) else (some (false, ([] : List Int), 0, bt1053.2.2)))))) else (some (false, ([] : List Int), 0, t1038)))) = some (r1, r2, r3, r4) := by have hy_ := hy1035; exact pH
 have Ny1035 := am hy1035
 clear hy1035
 obtain ⟨t1038, A3, H⟩ := ob H
 by_cases c4 : t1038 = 0
 ·rw [if_pos c4] at H
  have c4b0 : (t1038 == 0) = true := beq_iff_eq.mpr c4
  have c4b1 : (t1038 != 0) = false := bne_eq_false_iff_eq.mpr c4
  clear c4
  obtain ⟨⟨t1039, t1042, t1045⟩, A5, H⟩ := ob H; (try dsimp only at H)
  obtain ⟨⟨t1046, t1049, t1052⟩, A6, H⟩ := ob H; (try dsimp only at H)
  obtain ⟨⟨t1053, t1054, t1055⟩, A7, H⟩ := ob H; (try dsimp only at H)
  by_cases c8 : t1055 = 0
  ·rw [if_pos c8] at H
   have c8b0 : (t1055 == 0) = true := beq_iff_eq.mpr c8
   have c8b1 : (t1055 != 0) = false := bne_eq_false_iff_eq.mpr c8
   clear c8
   obtain ⟨⟨t1060, t1061, t1064, t1065⟩, A9, H⟩ := ob H; (try dsimp only at H)
   simp only [Option.some.injEq, Prod.mk.injEq] at H
   obtain ⟨rfl, rfl, rfl, rfl⟩ := H
   exact quot_Mod.leaf
  ·rw [if_neg c8] at H
   have c8b0 : (t1055 == 0) = false := beq_eq_false_iff_ne.mpr c8
   have c8b1 : (t1055 != 0) = true := bne_iff_ne.mpr c8
   simp only [Option.some.injEq, Prod.mk.injEq] at H
   obtain ⟨rfl, rfl, rfl, rfl⟩ := H
   exact quot_Mod.leaf
 ·rw [if_neg c4] at H
  have c4b0 : (t1038 == 0) = false := beq_eq_false_iff_ne.mpr c4
  have c4b1 : (t1038 != 0) = true := bne_iff_ne.mpr c4
  simp only [Option.some.injEq, Prod.mk.injEq] at H
  obtain ⟨rfl, rfl, rfl, rfl⟩ := H
  exact quot_Mod.leaf
end YtjbjkmccfocikaaGreatDoor.B
end
section
namespace YtjbjkmccfocikaaGreatDoor.P.Nm
open Go.RowKit YtjbjkmccfocikaaGreatDoorW.PrintWords YtjbjkmccfocikaaGreatDoorW.PrintLast YtjbjkmccfocikaaGreatDoorW.PrintMore YtjbjkmccfocikaaGreatDoor.B YtjbjkmccfocikaaGreatDoor.P
theorem qask1_tells (a : Bool) (l : List Int) (e : Int) (hd : Dg 4294967296 l) (hl : l.length <= 9223372036854775807) : Tells (fun k => quot_ask_1.f k a l e) (decide (chk a l e ≠ 0)) := by
 unfold quot_ask_1.f
 refine (DCheck_tells a l e hd hl).bind ((Tells.pure _).val ?_)
 by_cases h : chk a l e = 0 <;> simp [h]
theorem qask_tells (a : Bool) (l : List Int) (e : Int) (b : Bool) (m : List Int) (g : Int) (hd : Dg 4294967296 l) (hl : l.length <= 9223372036854775807) (hd2 : Dg 4294967296 m) (hl2 : m.length <= 9223372036854775807) : Tells (fun k => quot_ask.f k [⟨a, l, e⟩, ⟨b, m, g⟩]) (if chk a l e = 0 /\ chk b m g = 0 then 0 else 9) := by
 have h1 : Tells (fun k => quot_ask_any.f k [⟨a, l, e⟩, ⟨b, m, g⟩]) (decide (¬ (chk a l e = 0 /\ chk b m g = 0))) := by
  unfold quot_ask_any.f
  simp only [anyO]
  refine (qask1_tells a l e hd hl).bind ?_
  by_cases h : chk a l e = 0
  ·refine Tells.ifn (by simp [h]) ((qask1_tells b m g hd2 hl2).bind ?_)
   by_cases h2 : chk b m g = 0
   ·exact Tells.ifn (by simp [h2]) ((Tells.pure _).val (by simp [h, h2]))
   ·exact Tells.ifp (by simp [h2]) ((Tells.pure _).val (by simp [h, h2]))
  ·exact Tells.ifp (by simp [h]) ((Tells.pure _).val (by simp [h]))
 unfold quot_ask.f
 refine h1.bind ?_
 by_cases h : chk a l e = 0 /\ chk b m g = 0
 ·rw [if_pos h]
  exact Tells.ifn (by simp [h]) (Tells.pure _)
 ·rw [if_neg h]
  exact Tells.ifp (decide_eq_true h) (Tells.pure _)
theorem qask_D (D E : Dm) (hD : OkD D) (hE : OkD E) : Tells (fun k => quot_ask.f k [⟨D.neg, limbs D.n, D.e⟩, ⟨E.neg, limbs E.n, E.e⟩]) 0 := by
 have h1 := okd_limbs hD
 have h2 := okd_limbs hE
 have := qask_tells D.neg (limbs D.n) D.e E.neg (limbs E.n) E.e (limbs_dg _) (by omega) (limbs_dg _) (by omega)
 rw [if_pos ⟨chk_of hD, chk_of hE⟩] at this
 exact this
theorem qpow_tells {n : Nat} (h : n <= 2400) : Tells (fun k => quot_pow.f k (n : Int)) (limbs (10 ^ n)) := by
 unfold quot_pow.f quot_first_uint32.f
 exact (Pow_tells n h).bind ((Tells.pure _).bind (Tells.pure _))
def wholeN (D : Dm) : Nat := if 0 <= D.e then D.n * 10 ^ D.e.toNat else D.n / 10 ^ (-D.e).toNat
def lowN (D : Dm) : Nat := if 0 <= D.e then 0 else D.n % 10 ^ (-D.e).toNat
theorem wholeN_nd {D : Dm} (hD : OkD D) : nd (wholeN D) <= 1300 /\ nd (lowN D) <= 300 := by
 have l1 := hD.len; have l2 := hD.high
 unfold wholeN lowN
 split
 ·exact ⟨Nat.le_trans (nd_shift_le _ _) (by omega), by decide⟩
 ·exact ⟨Nat.le_trans (nd_mono (Nat.div_le_self _ _)) (by omega), Nat.le_trans (nd_mono (Nat.mod_le _ _)) (by omega)⟩
theorem QSplit {D : Dm} (hD : OkD D) : Tells (fun k => quot_split.f k D.neg (limbs D.n) D.e) (limbs (wholeN D), limbs (lowN D), ((-D.e).toNat : Int)) := by
 have l1 := hD.len; have l2 := hD.high; have l3 := hD.low
 have hw := wholeN_nd hD
 unfold quot_split.f quot_first_uint32.f wholeN lowN
 unfold wholeN at hw
 by_cases h : 0 <= D.e
 ·rw [if_pos h] at hw
  rw [if_pos h, if_pos h]
  have hm := Mul_tells (m := D.n) (n := 10 ^ D.e.toNat) (len_nd (by omega)) (len_nd (by rw [nd_pow]; omega))
  rw [fit_of (len_nd (by omega))] at hm
  have hp := qpow_tells (n := D.e.toNat) (by omega)
  rw [Int.toNat_of_nonneg h] at hp
  have e0 : (((-D.e).toNat : Nat) : Int) = 0 := by omega
  rw [e0]
  exact Tells.ifp h (hp.bind (hm.bind ((Tells.pure _).bind (Tells.pure _))))
 ·rw [if_neg h, if_neg h]
  have hp := qpow_tells (n := (-D.e).toNat) (by omega)
  have e1 : (((-D.e).toNat : Nat) : Int) = -D.e := by omega
  rw [e1] at hp
  have hd := Div_tells (m := D.n) (n := 10 ^ (-D.e).toNat) (len_nd (by omega)) (len_nd (by rw [nd_pow]; omega))
  have hp0 : 10 ^ (-D.e).toNat ≠ 0 := by have := pow10_pos (-D.e).toNat; omega
  rw [if_neg hp0] at hd
  rw [w64n (by omega) (by omega), e1]
  exact Tells.ifn (by omega) (hp.bind (hd.bind (Tells.pure _)))
def modD (D E : Dm) : Dm × Int := if wholeN E = 0 then (zeroD, 53) else settleD ⟨D.neg, wholeN D % wholeN E, 0⟩
theorem QMod {D E : Dm} (hD : OkD D) (hE : OkD E) : Tells (fun k => quot_Mod.f k D.neg (limbs D.n) D.e E.neg (limbs E.n) E.e) (outD (modD D E)) := by
 have w1 := (wholeN_nd hD).1
 have w2 := (wholeN_nd hE).1
 have hd := Div_tells (m := wholeN D) (n := wholeN E) (len_nd (by omega)) (len_nd (by omega))
 unfold quot_Mod.f modD
 refine (qask_D D E hD hE).bind (Tells.ifp rfl ((QSplit hD).bind ((QSplit hE).bind (hd.bind ?_))))
 by_cases h0 : wholeN E = 0
 ·rw [if_pos h0, if_pos h0]
  exact Tells.ifn (by decide) (Tells.pure _)
 ·rw [if_neg h0, if_neg h0]
  have hr : nd (wholeN D % wholeN E) <= 1300 := Nat.le_trans (nd_mono (Nat.mod_le _ _)) w1
  have hs := DSettle_tells D.neg (wholeN D % wholeN E) 0 (len_nd (by omega)) (by omega)
  rw [if_neg (by omega)] at hs
  exact Tells.ifp rfl (hs.bind (Tells.pure _))
end YtjbjkmccfocikaaGreatDoor.P.Nm
end
section
namespace YtjbjkmccfocikaaGreatDoor.P.Nm
open Go.RowKit YtjbjkmccfocikaaGreatDoorW.PrintWords YtjbjkmccfocikaaGreatDoor.B YtjbjkmccfocikaaGreatDoor.P
theorem Tells.at {α : Type} {f : Nat -> Option α} {v : α} (n : Nat) (h : ∀ k, f (k + n) = some v) : Tells f v := ⟨n, fun k hk => by
 obtain ⟨j, rfl⟩ : ∃ j, k = j + n := ⟨k - n, by omega⟩
 exact h j⟩
end YtjbjkmccfocikaaGreatDoor.P.Nm
end
section
namespace YtjbjkmccfocikaaGreatDoor.B
open Go.RowKit YtjbjkmccfocikaaGreatDoorW.PrintWords YtjbjkmccfocikaaGreatDoorW.PrintLast YtjbjkmccfocikaaGreatDoorW.PrintMore
attribute [local go_sem] max2_int min2_int max_two min_two max_three min_three max_four min_four
def bolterlaw03_num.f (a0 : Int) : Option (Int) := some a0
theorem bolterlaw03_num.calls (a0 : Int) (r : Int) (w : World) (h : bolterlaw03_num.f a0 = some r) :
  Calls Tryz.prog 20 #[.int .i64 a0] w fun e w' => e = .returned (.int .i64 r) /\ Drawn0 w w' := by
 have H : (some a0) = some r := h
 clear h
 obtain rfl := Option.some.inj H
 go_enter Tryz.func20, Tryz.ntmps20
 go_wp2
 go_ret
 exact ⟨pR, pD⟩
def bolterref02_zeros.l0 : Nat -> Int -> ByteArray -> Int -> Option (ByteArray)
 | 0, _, _, _ => none
 | k + 1, x0, x3, x4 => if x4 < x0 then (if x3.size + 1 <= 9223372036854775807 then (bolterref02_zeros.l0 k x0 (x3 ++ (⟨#[48]⟩ : ByteArray)) (wrap64 (x4 + 1))) else (none)) else (some x3)
def bolterref02_zeros.f (k : Nat) (a0 : Int) : Option (ByteArray) := bolterref02_zeros.l0 k a0 (⟨#[]⟩ : ByteArray) 0
theorem bolterref02_zeros.calls (k : Nat) (a0 : Int) (r : ByteArray) (w : World) (h : bolterref02_zeros.f k a0 = some r) :
  Calls Tryz.prog 119 #[.int .i64 a0] w fun e w' => e = .returned (.string r) /\ Drawn0 w w' := by
 have H : (bolterref02_zeros.l0 k a0 (⟨#[]⟩ : ByteArray) 0) = some r := h
 clear h
 have H' := am H
 clear H
 go_enter Tryz.func119, Tryz.ntmps119
 go_wp2
 go_loopg [3, 4] k (fun kq v3 v4 w' => ∃ (x3_1 : ByteArray) (x4_1 : Int), v3 = .string x3_1 /\ v4 = .int .i64 x4_1 /\ Aside0 (bolterref02_zeros.l0 kq a0 x3_1 x4_1 = some r) /\ Aside0 (kq <= k) /\ Drawn0 w w')
 case atStart => exact ⟨((⟨#[]⟩ : ByteArray)), (0), pR, pR, H', ⟨Nat.le_refl _⟩, pD⟩
 case round =>
  clear H'
  obtain ⟨x3_1, x4_1, rfl, rfl, HA, HK1, ⟨m1, rfl⟩⟩ := hrel
  cases gk with
  | zero => exact absurd HA.out (by simp [bolterref02_zeros.l0])
  | succ k1 =>
   have H := HA.out
   clear HA
   simp only [bolterref02_zeros.l0] at H
   by_cases c2 : x4_1 < a0
   ·rw [if_pos c2] at H
    have c2b0 : decide (x4_1 < a0) = true := decide_eq_true c2
    clear c2
    by_cases c3 : x3_1.size + 1 <= 9223372036854775807
    ·rw [if_pos c3] at H
     have c3b0 := eq_true c3
     have c3b1 : decide (x3_1.size + 1 <= 9223372036854775807) = true := decide_eq_true c3
     try have c3b2 : (9223372036854775807 < x3_1.size + 1) = False := eq_false (Nat.not_lt.2 c3)
     have H' := am H
     clear H
     go_wp2
     go_roundg k1
     case measure => have := HK1.out; omega
     case rel => exact ⟨(x3_1 ++ (⟨#[48]⟩ : ByteArray)), (wrap64 (x4_1 + 1)), pR, pR, H', ⟨by have := HK1.out; omega⟩, pD⟩
    ·rw [if_neg c3] at H
     exact absurd H (by simp)
   ·rw [if_neg c2] at H
    have c2b0 : decide (x4_1 < a0) = false := decide_eq_false c2
    clear c2
    obtain rfl := Option.some.inj H
    go_wp2
    go_ret
    exact ⟨pR, pD⟩
def bolterref02_plain.f : Nat -> Int -> Option (ByteArray)
 | 0, _ => none
 | k + 1, a0 => if a0 < 10 then (some (strOfNums (([(wrap64 (48 + a0)) % 256] : List Int)))) else ((bolterref02_plain.f k (wrap64 (Int.tdiv a0 10))).bind fun t599 => ((bolterref02_plain.f k (Int.tmod a0 10)).bind fun t600 => (if t599.size + t600.size <= 9223372036854775807 then (some (t599 ++ t600)) else (none))))
theorem bolterref02_plain.calls (k : Nat) : ∀ (a0 : Int) (r : ByteArray) (w : World) (h : bolterref02_plain.f k a0 = some r),
  Calls Tryz.prog 120 #[.int .i64 a0] w fun e w' => e = .returned (.string r) /\ Below w.heap.size w w' := by
 induction k using Nat.strongRecOn with
 | _ k ih =>
 intro a0 r w h
 cases k with
 | zero => exact absurd h (by simp [bolterref02_plain.f])
 | succ k =>
 simp only [bolterref02_plain.f] at h
 have HB := am (Below.refl w.heap.size w)
 have H : (if a0 < 10 then (some (strOfNums (([(wrap64 (48 + a0)) % 256] : List Int)))) else ((bolterref02_plain.f k (wrap64 (Int.tdiv a0 10))).bind fun t599 => ((bolterref02_plain.f k (Int.tmod a0 10)).bind fun t600 => (if t599.size + t600.size <= 9223372036854775807 then (some (t599 ++ t600)) else (none))))) = some r := h
 clear h
 by_cases c2 : a0 < 10
 ·rw [if_pos c2] at H
  have c2b0 : decide (a0 < 10) = true := decide_eq_true c2
  clear c2
  obtain ⟨y596, hy596⟩ : ∃ y_ : List Int, y_ = (([(wrap64 (48 + a0)) % 256] : List Int)) := ⟨_, rfl⟩
  replace H : (some (strOfNums y596)) = some r := by have hy_ := hy596; exact pH
  have Ny596 := am hy596
  clear hy596
  obtain rfl := Option.some.inj H
  go_enter Tryz.func120, Tryz.ntmps120
  go_wp2_with (first | ((with_reducible refine gd 8 ?_); refine Kd.R_lit (Kd.int .u8) _ 5 ?hg (N := 8) ?hd (xs := ([(wrap64 (48 + a0)) % 256] : List Int)) (inner := [.int .u8 ((wrap64 (48 + a0)) % 256)]) (ok := fun _ => True) (okp := fun _ => True) ?hr ?hp (fun _ hk => hk) trivial (Below.refl _ _) (Nat.le_refl _) (by simp) ?_; (case hd => rfl); (case hg => rfl); (case hr => first | (go_simp; done) | (go_simp; rfl)); (case hp => exact (Reps.one (show Kd.M (Kd.int .u8) _ _ _ ((wrap64 (48 + a0)) % 256) [.int .u8 ((wrap64 (48 + a0)) % 256)] from rfl) (Reps.none _ _))); intro v597 w3 ho4 hb hg_ hnew_; clear hg_ hnew_; (first | rw [<- Ny596.out] at ho4 | (simp only [Int.reduceToNat] at ho4; rw [<- Ny596.out] at ho4)); have HO598 := am (Kd.R_lower ho4 (below_size pB)); replace HB := bS hb; clear hb ho4; have hcv5 := own_string (P := Tryz.prog) Tryz.underlying146 Tryz.underlying5 Tryz.underlying9 (Kd.own_of_R HO598.out)))
  go_ret
  exact ⟨pE, pB⟩
 ·rw [if_neg c2] at H
  have c2b0 : decide (a0 < 10) = false := decide_eq_false c2
  clear c2
  obtain ⟨t599, A6, H⟩ := ob H
  obtain ⟨t600, A7, H⟩ := ob H
  by_cases c8 : t599.size + t600.size <= 9223372036854775807
  ·rw [if_pos c8] at H
   have c8b0 := eq_true c8
   have c8b1 : decide (t599.size + t600.size <= 9223372036854775807) = true := decide_eq_true c8
   try have c8b2 : (9223372036854775807 < t599.size + t600.size) = False := eq_false (Nat.not_lt.2 c8)
   obtain rfl := Option.some.inj H
   go_enter Tryz.func120, Tryz.ntmps120
   go_wp2_with (first | (refine gL (some 12) Tryz.func120 #[.int .i64 (wrap64 (Int.tdiv a0 10))] (h := ?_); (with_reducible refine (ih k (by omega) (wrap64 (Int.tdiv a0 10)) t599 _ A6.out).mono ?_); rintro e w9 ⟨rfl, hb⟩; refine ⟨_, rfl, ?_⟩; replace HB := bS hb; (try clear hb); (try clear hb2); (try clear hk); (try clear hi)) | (refine gL (some 15) Tryz.func120 #[.int .i64 (Int.tmod a0 10)] (h := ?_); (with_reducible refine (ih k (by omega) (Int.tmod a0 10) t600 _ A7.out).mono ?_); rintro e w10 ⟨rfl, hb⟩; refine ⟨_, rfl, ?_⟩; replace HB := bS hb; (try clear hb); (try clear hb2); (try clear hk); (try clear hi)))
   go_ret
   exact ⟨pE, pB⟩
  ·rw [if_neg c8] at H
   exact absurd H (by simp)
end YtjbjkmccfocikaaGreatDoor.B
end
end Go.Proofs
