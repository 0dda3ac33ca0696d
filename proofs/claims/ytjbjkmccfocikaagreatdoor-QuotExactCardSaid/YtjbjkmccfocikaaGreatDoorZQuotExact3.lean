/- QuotExact: part 4 of 6: the texts B59 B66 B73 B74 HPair B76 B77 PR2 PAny B10 B14 B15 B17 HAsk B19 B20 B21 B27 B18 HNParse B28 HLibT B29 B30 B31 of this claim, one behind the other. -/
import Derived.Test.YtjbjkmccfocikaaGreatDoorZQuotExact2
import Derived.WalkKit
import Derived.Lib.Hide
import Derived.Outline
import Derived.Deep.DeepFit
import Derived.Laws.Rows
import Derived.Lib.TrimByte
set_option linter.unusedVariables false
set_option linter.unusedSimpArgs false
set_option maxRecDepth 100000
set_option maxHeartbeats 8000000
namespace Go.Proofs
section
namespace YtjbjkmccfocikaaGreatDoor.B
open Go.RowKit YtjbjkmccfocikaaGreatDoorW.PrintWords YtjbjkmccfocikaaGreatDoorW.PrintLast YtjbjkmccfocikaaGreatDoorW.PrintMore
attribute [local go_sem] max2_int min2_int max_two min_two max_three min_three max_four min_four
def bolterref02_Made.l0 : Nat -> List Int -> Bool -> List Int -> Int -> Option (Bool × List Int × Int × Int)
 | 0, _, _, _, _ => none
 | k + 1, x4, x523000, x523001, x523002 => if 0 < (x4.length : Int) then (if (rd x4 0) = 0 then (if 1 <= (x4.length : Int) then (bolterref02_Made.l0 k (x4.drop (1 : Int).toNat) x523000 x523001 (wrap64 (x523002 + 1))) else (none)) else (if (x4.length : Int) > 300 then (some (false, ([] : List Int), 0, 51)) else (if x523002 < (-1000) then (some (false, ([] : List Int), 0, 52)) else (if x523002 > 1000 then (some (false, ([] : List Int), 0, 52)) else ((bolterref01_Limbs.f k x4).bind fun t531 => (some (x523000, t531, x523002, 0))))))) else (none)
def bolterref02_Made.f (k : Nat) (a0_0 : Bool) (l0_1 : List Int) (a0_2 : Int) : Option (Bool × List Int × Int × Int) := (bolterref01_Trim.f k l0_1).bind fun t524 => (if (t524.length : Int) = 0 then (some (false, ([] : List Int), 0, 0)) else (bolterref02_Made.l0 k t524 a0_0 ([] : List Int) a0_2))
def bolterref02_Made.T11 : Bool × List (List Nat × List Nat) := (true, [([], []), ([0], [0]), ([], []), ([2], [2]), ([], []), ([4], [4]), ([1, 3, 5], [1, 3, 5]), ([6, 3, 0, 1, 2, 3, 4, 5, 6], [6]), ([7, 0, 1, 2, 3, 4, 5, 6, 7], [])])
def bolterref02_Made.B11 : List Nat := [0, 1, 0, 4, 0, 16, 63, 127, 255]
theorem bolterref02_Made.tab11 : rtab .any (opsOf Tryz.f23 11) = bolterref02_Made.T11 := by kernel_rfl
theorem bolterref02_Made.bits11 : waitsOk bolterref02_Made.T11.2 bolterref02_Made.B11 = true := by kernel_rfl
theorem bolterref02_Made.calls (k : Nat) (a0_0 : Bool) (P0_1_ : Nat -> Prop) (u9000_ : Value) (l0_1 : List Int) (a0_2 : Int) (r1 : Bool) (r2 : List Int) (r3 : Int) (r4 : Int) (w0 w : World) (hB : Below w0.heap.size w0 w) (ho0_1 : Kd.R (Kd.int .i64) 3 w w0.heap.size P0_1_ u9000_ l0_1) (h : bolterref02_Made.f k a0_0 l0_1 a0_2 = some (r1, r2, r3, r4)) :
  Calls Tryz.prog 23 #[.agg #[.bool a0_0, u9000_, .int .i64 a0_2]] w fun e w' => ∃ v1_ : Value, e = .returned (.tuple #[.agg #[.bool r1, v1_, .int .i64 r3], .int .i64 r4]) /\ Kd.R (Kd.int .u32) 85 w' w0.heap.size (fun k_ => (P0_1_ k_ \/ w.heap.size <= k_)) v1_ r2 /\ Below w0.heap.size w0 w' /\ Kept w w' (fun k_ => P0_1_ k_) := by
 have hu30 := Tryz.underlying30
 have hu24 := Tryz.underlying24
 have HO0_1 := am (show Kd.R (Kd.int .i64) 3 w w0.heap.size (fun k_ => (P0_1_ k_ \/ w.heap.size <= k_)) u9000_ l0_1 from Kd.R_mono ho0_1 (fun k_ hk => (.inl hk)))
 have HK := am (Kept.refl w (fun k_ => P0_1_ k_))
 have HW0 := am hB.size
 have HB := am hB
 clear hB
 have H : ((bolterref01_Trim.f k l0_1).bind fun t524 => (if (t524.length : Int) = 0 then (some (false, ([] : List Int), 0, 0)) else (bolterref02_Made.l0 k t524 a0_0 ([] : List Int) a0_2))) = some (r1, r2, r3, r4) := h
 clear h
 obtain ⟨t524, A2, H⟩ := ob H
 by_cases c3 : (t524.length : Int) = 0
 ·rw [if_pos c3] at H
  have c3b0 : ((t524.length : Int) == 0) = true := beq_iff_eq.mpr c3
  have c3b1 : ((t524.length : Int) != 0) = false := bne_eq_false_iff_eq.mpr c3
  clear c3
  simp only [Option.some.injEq, Prod.mk.injEq] at H
  obtain ⟨rfl, rfl, rfl, rfl⟩ := H
  obtain ⟨Ao4, co4, eo4⟩ := Kd.R_slice HO0_1.out
  subst eo4
  go_enter Tryz.func23, Tryz.ntmps23
  go_wp2_with (first | ((with_reducible refine gd 1 ?_); refine bx 1 #[.bool a0_0, .slice Ao4 l0_1.length co4, .int .i64 a0_2] 30 (h := ?_); intro gb522 hg w5 hbox hb; have BK522 := am hbox; have GW522 := am ((by rw [hg]; exact (by first | exact HK.out.1 | exact (show Kept w _ (fun k_ => P0_1_ k_) from by repeat (first | (with_reducible first | exact HK.out | apply Kept.alloc | apply Kept.drewN | apply Kept.drew) | exact HK.out)).1) : w.heap.size <= gb522)); have GE522 := am ((gw hg pB : w0.heap.size <= gb522)); replace HO0_1 := rbl HO0_1 hb; replace HK := am (Kept.below (S := (fun k_ => P0_1_ k_)) (by repeat (first | (with_reducible first | exact HK.out | apply Kept.alloc | apply Kept.drewN | apply Kept.drew) | exact HK.out)) hb); replace HB := bS hb; clear hb hbox hg) | ((with_reducible refine gd 2 ?_); refine bx 2 #[.bool false, .slice none 0 0, .int .i64 0] 24 (h := ?_); intro gb523 hg w6 hbox hb; have BK523 := am hbox; have GW523 := am ((by rw [hg]; exact (by first | exact HK.out.1 | exact (show Kept w _ (fun k_ => P0_1_ k_) from by repeat (first | (with_reducible first | exact HK.out | apply Kept.alloc | apply Kept.drewN | apply Kept.drew | refine Kept.setCell ?_ (.inr GW522.out) _) | exact HK.out)).1) : w.heap.size <= gb523)); have GE523 := am ((gw hg pB : w0.heap.size <= gb523)); have NB522_523 := nL hg BK522; have NB523_522 := nG hg BK522; replace HO0_1 := rbl HO0_1 hb; replace BK522 := bb BK522 hb; replace HK := am (Kept.below (S := (fun k_ => P0_1_ k_)) (by repeat (first | (with_reducible first | exact HK.out | apply Kept.alloc | apply Kept.drewN | apply Kept.drew | refine Kept.setCell ?_ (.inr GW522.out) _) | exact HK.out)) hb); replace HB := bS hb; clear hb hbox hg; have hnb7 := NB522_523.out; have hnc7 := NB523_522.out; obtain ⟨hcz8_0, hcz8_1, hcz8_2, hfz8_0, hfz8_1, hfz8_2⟩ := cEc BK522.out) | (refine gL (some 7) Tryz.func79 #[.slice Ao4 l0_1.length co4] (h := ?_); (with_reducible refine (bolterref01_Trim.calls k (fun k_ => some k_ = (.slice Ao4 l0_1.length co4 : Value).ownBlock) (.slice Ao4 l0_1.length co4) l0_1 t524 w0 _ ?side1 ?side2 A2.out).mono ?_); (case side1 => exact pB); (case side2 => exact Kd.R_tight rfl HO0_1.out); rintro e w9 ⟨v525, rfl, ho0, hb, hkp⟩; refine ⟨_, rfl, ?_⟩; have HO526 := am (Kd.R_mono (ok' := fun k_ => (P0_1_ k_ \/ w.heap.size <= k_)) ho0 (fun k_ hk_ => Or.elim hk_ (fun hs_ => (HO0_1.out.1 k_ (hs_).symm)) (fun hn_ => (.inr (Nat.le_trans (by first | exact HK.out.1 | exact (show Kept w _ (fun k_ => P0_1_ k_) from by repeat (first | (with_reducible first | exact HK.out | apply Kept.alloc | apply Kept.drewN | apply Kept.drew | refine Kept.setCell ?_ (.inr GW522.out) _ | refine Kept.setCell ?_ (.inr GW523.out) _) | exact HK.out)).1) hn_))))); replace BK522 := am (blk_kept (blk_below BK522.out pl) hkp (fun e_ => Kd.R_ne HO0_1.out BK522.out (by decide) e_)); replace BK523 := am (blk_kept (blk_below BK523.out pl) hkp (fun e_ => Kd.R_ne HO0_1.out BK523.out (by decide) e_)); replace HK := am (Kept.then_ (S := (fun k_ => P0_1_ k_)) (by repeat (first | (with_reducible first | exact HK.out | apply Kept.alloc | apply Kept.drewN | apply Kept.drew | refine Kept.setCell ?_ (.inr GW522.out) _ | refine Kept.setCell ?_ (.inr GW523.out) _) | exact HK.out)) hkp (fun k_ hs_ => (fun e_ => (HO0_1.out.1 k_ e_.symm)) hs_)); replace HB := am hb; clear HO0_1; obtain ⟨Ao10, co10, eo10⟩ := Kd.R_slice HO526.out; subst eo10; obtain ⟨hcz11_0, hcz11_1, hcz11_2, hfz11_0, hfz11_1, hfz11_2⟩ := cEc BK523.out))
  refine bodyPost_ret (results_ct rfl _ _ gb523 24 #[.bool false, .slice none 0 0, .int .i64 0] (0, 0) _ rfl (by exact p3 BK523) Tryz.underlying24 rfl (by kernel_rfl)) rfl ?_
  exact ⟨_, pE, pN, pB, by repeat (first | (with_reducible first | exact HK.out | apply Kept.alloc | apply Kept.drewN | apply Kept.drew | refine Kept.setCell ?_ (.inr GW522.out) _ | refine Kept.setCell ?_ (.inr GW523.out) _) | exact HK.out)⟩
 ·rw [if_neg c3] at H
  have c3b0 : ((t524.length : Int) == 0) = false := beq_eq_false_iff_ne.mpr c3
  have c3b1 : ((t524.length : Int) != 0) = true := bne_iff_ne.mpr c3
  have c3b2 : ¬ (t524 = []) := fun h_ => c3 (by rw [h_]; rfl)
  have H' := am H
  clear H
  obtain ⟨Ao12, co12, eo12⟩ := Kd.R_slice HO0_1.out
  subst eo12
  go_enter Tryz.func23, Tryz.ntmps23
  go_wp2_with (first | ((with_reducible refine gd 1 ?_); refine bx 1 #[.bool a0_0, .slice Ao12 l0_1.length co12, .int .i64 a0_2] 30 (h := ?_); intro gb522 hg w13 hbox hb; have BK522 := am hbox; have GW522 := am ((by rw [hg]; exact (by first | exact HK.out.1 | exact (show Kept w _ (fun k_ => P0_1_ k_) from by repeat (first | (with_reducible first | exact HK.out | apply Kept.alloc | apply Kept.drewN | apply Kept.drew) | exact HK.out)).1) : w.heap.size <= gb522)); have GE522 := am ((gw hg pB : w0.heap.size <= gb522)); replace HO0_1 := rbl HO0_1 hb; replace HK := am (Kept.below (S := (fun k_ => P0_1_ k_)) (by repeat (first | (with_reducible first | exact HK.out | apply Kept.alloc | apply Kept.drewN | apply Kept.drew) | exact HK.out)) hb); replace HB := bS hb; clear hb hbox hg) | ((with_reducible refine gd 2 ?_); refine bx 2 #[.bool false, .slice none 0 0, .int .i64 0] 24 (h := ?_); intro gb523 hg w14 hbox hb; have BK523 := am hbox; have GW523 := am ((by rw [hg]; exact (by first | exact HK.out.1 | exact (show Kept w _ (fun k_ => P0_1_ k_) from by repeat (first | (with_reducible first | exact HK.out | apply Kept.alloc | apply Kept.drewN | apply Kept.drew | refine Kept.setCell ?_ (.inr GW522.out) _) | exact HK.out)).1) : w.heap.size <= gb523)); have GE523 := am ((gw hg pB : w0.heap.size <= gb523)); have NB522_523 := nL hg BK522; have NB523_522 := nG hg BK522; replace HO0_1 := rbl HO0_1 hb; replace BK522 := bb BK522 hb; replace HK := am (Kept.below (S := (fun k_ => P0_1_ k_)) (by repeat (first | (with_reducible first | exact HK.out | apply Kept.alloc | apply Kept.drewN | apply Kept.drew | refine Kept.setCell ?_ (.inr GW522.out) _) | exact HK.out)) hb); replace HB := bS hb; clear hb hbox hg; have hnb15 := NB522_523.out; have hnc15 := NB523_522.out; obtain ⟨hcz16_0, hcz16_1, hcz16_2, hfz16_0, hfz16_1, hfz16_2⟩ := cEc BK522.out) | (refine gL (some 7) Tryz.func79 #[.slice Ao12 l0_1.length co12] (h := ?_); (with_reducible refine (bolterref01_Trim.calls k (fun k_ => some k_ = (.slice Ao12 l0_1.length co12 : Value).ownBlock) (.slice Ao12 l0_1.length co12) l0_1 t524 w0 _ ?side1 ?side2 A2.out).mono ?_); (case side1 => exact pB); (case side2 => exact Kd.R_tight rfl HO0_1.out); rintro e w17 ⟨v525, rfl, ho0, hb, hkp⟩; refine ⟨_, rfl, ?_⟩; have HO526 := am (Kd.R_mono (ok' := fun k_ => (P0_1_ k_ \/ w.heap.size <= k_)) ho0 (fun k_ hk_ => Or.elim hk_ (fun hs_ => (HO0_1.out.1 k_ (hs_).symm)) (fun hn_ => (.inr (Nat.le_trans (by first | exact HK.out.1 | exact (show Kept w _ (fun k_ => P0_1_ k_) from by repeat (first | (with_reducible first | exact HK.out | apply Kept.alloc | apply Kept.drewN | apply Kept.drew | refine Kept.setCell ?_ (.inr GW522.out) _ | refine Kept.setCell ?_ (.inr GW523.out) _) | exact HK.out)).1) hn_))))); replace BK522 := am (blk_kept (blk_below BK522.out pl) hkp (fun e_ => Kd.R_ne HO0_1.out BK522.out (by decide) e_)); replace BK523 := am (blk_kept (blk_below BK523.out pl) hkp (fun e_ => Kd.R_ne HO0_1.out BK523.out (by decide) e_)); replace HK := am (Kept.then_ (S := (fun k_ => P0_1_ k_)) (by repeat (first | (with_reducible first | exact HK.out | apply Kept.alloc | apply Kept.drewN | apply Kept.drew | refine Kept.setCell ?_ (.inr GW522.out) _ | refine Kept.setCell ?_ (.inr GW523.out) _) | exact HK.out)) hkp (fun k_ hs_ => (fun e_ => (HO0_1.out.1 k_ e_.symm)) hs_)); replace HB := am hb; clear HO0_1; obtain ⟨Ao18, co18, eo18⟩ := Kd.R_slice HO526.out; subst eo18))
  go_loopg [4] k (fun kq v4 w' => ∃ (x4_1 : List Int) (x523002_1 : Int), Aside0 (bolterref02_Made.l0 kq x4_1 a0_0 ([] : List Int) x523002_1 = some (r1, r2, r3, r4)) /\ Aside0 (kq <= k) /\ Aside0 (Kd.Q (Kd.int .i64) 3 w' w0.heap.size (fun k_ => (P0_1_ k_ \/ w.heap.size <= k_)) v4 x4_1) /\ Aside0 (w'.heap[gb522]? = some (.cells #[.bool a0_0, (.slice Ao12 l0_1.length co12), .int .i64 x523002_1] 30 (0, 0))) /\ Aside0 (w'.heap[gb523]? = some (.cells #[.bool false, (.slice none 0 0), .int .i64 0] 24 (0, 0))) /\ Aside0 (Kept w w' (fun k_ => P0_1_ k_)) /\ Aside0 (Below w0.heap.size w0 w'))
  case atStart => exact ⟨(t524), (a0_2), H', ⟨Nat.le_refl _⟩, ⟨Kd.Q_of_R (Kd.R_below HO526.out pl)⟩, ⟨blk_below BK522.out pl⟩, ⟨blk_below BK523.out pl⟩, ⟨by repeat (first | (with_reducible first | exact HK.out | apply Kept.alloc | apply Kept.drewN | apply Kept.drew | refine Kept.setCell ?_ (.inr GW522.out) _ | refine Kept.setCell ?_ (.inr GW523.out) _) | exact HK.out)⟩, ⟨pB⟩⟩
  case round =>
   clear H'
   obtain ⟨x4_1, x523002_1, HA, HK1, HO_4, BK522, BK523, HK, HB⟩ := hrel
   cases gk with
   | zero => exact absurd HA.out (by simp [bolterref02_Made.l0])
   | succ k1 =>
    have H := HA.out
    clear HA
    simp only [bolterref02_Made.l0] at H
    by_cases c19 : 0 < (x4_1.length : Int)
    ·rw [if_pos c19] at H
     have c19b0 : decide (0 < (x4_1.length : Int)) = true := decide_eq_true c19
     have c19b1 : decide (0 < x4_1.length) = true := decide_eq_true (by omega)
     clear c19
     by_cases c20 : (rd x4_1 0) = 0
     ·rw [if_pos c20] at H
      have c20b0 : ((rd x4_1 0) == 0) = true := beq_iff_eq.mpr c20
      have c20b1 : ((rd x4_1 0) != 0) = false := bne_eq_false_iff_eq.mpr c20
      clear c20
      by_cases c21 : 1 <= (x4_1.length : Int)
      ·rw [if_pos c21] at H
       have c21b0 := eq_true c21
       have c21b1 : decide (1 <= (x4_1.length : Int)) = true := decide_eq_true c21
       clear c21
       obtain ⟨y528, hy528⟩ : ∃ y_ : List Int, y_ = (x4_1.drop (1 : Int).toNat) := ⟨_, rfl⟩
       replace H : (bolterref02_Made.l0 k1 y528 a0_0 ([] : List Int) (wrap64 (x523002_1 + 1))) = some (r1, r2, r3, r4) := by have hy_ := hy528; exact pH
       have Ny528 := am hy528
       clear hy528
       have H' := am H
       clear H
       obtain ⟨Ao22, co22, eo22, _⟩ := Kd.Q_slice HO_4.out
       subst eo22
       have p527 : 0 <= (0 : Int) := (by omega)
       have q527 : 0 < (x4_1.length : Int) := of_decide_eq_true pQ
       obtain ⟨ad527, e527, hx527_0⟩ := Kd.at_int (Kd.Q_reads' HO_4.out).2.2 0 p527 q527
       cases e527
       have qi527 : (0 < x4_1.length) = True := eq_true (by omega)
       (try rw [show ((0 : Int)).toNat = 0 from rfl] at hx527_0)
       (try rw [Addr.add_zero'] at hx527_0)
       replace p527 := eq_true p527
       replace q527 := eq_true q527
       have q23 : (1 : Int) <= ((x4_1.length : Int) : Int) := of_decide_eq_true pQ
       obtain ⟨i023, hi023, _, hsz23, _⟩ := info_parts info3
       have hcut23 := cut_from (P := Tryz.prog) 28 3 .i64 Tryz.underlying28 hi023 1 hsz23 (some ad527) x4_1.length co22 1 (by omega) q23
       have hr23 := Kd.Q_drop (k := (1 : Int).toNat) HO_4.out (by omega)
       obtain ⟨A23, hA23⟩ : ∃ A1, A1 = (if co22 = (1 : Int).toNat then (some ad527) else ((some ad527) : Option Addr).map (·.add ((1 : Int).toNat * 1))) := ⟨_, rfl⟩
       obtain ⟨c23, hc23⟩ : ∃ c1, c1 = co22 - (1 : Int).toNat := ⟨_, rfl⟩
       have hy23 : y528.length = x4_1.length - (1 : Int).toNat := (by rw [Ny528.out, List.length_drop])
       rw [<- Ny528.out] at hr23
       rw [<- hy23, <- hA23, <- hc23] at hcut23
       replace hr23 : Kd.Q (Kd.int .i64) 3 wr w0.heap.size (fun k_ => (P0_1_ k_ \/ w.heap.size <= k_)) (.slice A23 y528.length c23) y528 := (by rw [hA23, hc23, hy23]; exact hr23)
       have HE23 : Aside0 ((Value.slice A23 y528.length c23).ownBlock = (.slice (some ad527) x4_1.length co22 : Value).ownBlock) := ⟨by rw [hA23]; split <;> (cases ((some ad527) : Option Addr) <;> rfl)⟩
       clear hy23 hi023 hsz23 HO_4 hA23 hc23
       have HO530 := am hr23
       clear hr23
       replace q23 := eq_true q23
       have hnb24 := NB522_523.out
       have hnc24 := NB523_522.out
       obtain ⟨hcz25_0, hcz25_1, hcz25_2, hfz25_0, hfz25_1, hfz25_2⟩ := cEc BK522.out
       go_wp2
       go_roundg k1
       case measure => have := HK1.out; omega
       case rel => exact ⟨(y528), (wrap64 (x523002_1 + 1)), H', ⟨by have := HK1.out; omega⟩, ⟨by (with_reducible repeat (first | apply Kd.Q_alloc | apply Kd.Q_drewN | apply Kd.Q_drew)); exact Kd.Q_mono (Kd.Q_far (p := ⟨gb522, 2, none⟩) (Kd.Q_types HO530.out BK522.out (by decide)) (fun _ hk => hk.2) (.int .i64 (wrap64 (x523002_1 + 1)))) (fun _ hk => hk.1)⟩, ⟨by refine bp ?_; refine blk_put (cs := #[.bool a0_0, (.slice Ao12 l0_1.length co12), .int .i64 x523002_1]) ?_ 2 _ rfl; exact bp BK522.out⟩, ⟨bf NB523_522.out BK523.out⟩, ⟨by repeat (first | (with_reducible first | exact HK.out | apply Kept.alloc | apply Kept.drewN | apply Kept.drew | refine Kept.setCell ?_ (.inr GW522.out) _ | refine Kept.setCell ?_ (.inr GW523.out) _) | exact HK.out)⟩, ⟨pB⟩⟩
      ·rw [if_neg c21] at H
       exact absurd H (by simp)
     ·rw [if_neg c20] at H
      have c20b0 : ((rd x4_1 0) == 0) = false := beq_eq_false_iff_ne.mpr c20
      have c20b1 : ((rd x4_1 0) != 0) = true := bne_iff_ne.mpr c20
      by_cases c26 : (x4_1.length : Int) > 300
      ·rw [if_pos c26] at H
       have c26b0 : decide (300 < (x4_1.length : Int)) = true := decide_eq_true c26
       have c26b1 : decide (300 < x4_1.length) = true := decide_eq_true (by omega)
       clear c26
       simp only [Option.some.injEq, Prod.mk.injEq] at H
       obtain ⟨rfl, rfl, rfl, rfl⟩ := H
       obtain ⟨Ao27, co27, eo27, _⟩ := Kd.Q_slice HO_4.out
       subst eo27
       have p527 : 0 <= (0 : Int) := (by omega)
       have q527 : 0 < (x4_1.length : Int) := of_decide_eq_true pQ
       obtain ⟨ad527, e527, hx527_0⟩ := Kd.at_int (Kd.Q_reads' HO_4.out).2.2 0 p527 q527
       cases e527
       have qi527 : (0 < x4_1.length) = True := eq_true (by omega)
       (try rw [show ((0 : Int)).toNat = 0 from rfl] at hx527_0)
       (try rw [Addr.add_zero'] at hx527_0)
       replace p527 := eq_true p527
       replace q527 := eq_true q527
       have hnb28 := NB523_522.out
       have hnc28 := NB522_523.out
       obtain ⟨hcz29_0, hcz29_1, hcz29_2, hfz29_0, hfz29_1, hfz29_2⟩ := cEc BK523.out
       go_wp2
       refine bodyPost_ret (results_ct rfl _ _ gb523 24 #[.bool false, .slice none 0 0, .int .i64 0] (0, 0) _ rfl (by exact p3 BK523) Tryz.underlying24 rfl (by kernel_rfl)) rfl ?_
       exact ⟨_, pE, pN, pB, by repeat (first | (with_reducible first | exact HK.out | apply Kept.alloc | apply Kept.drewN | apply Kept.drew | refine Kept.setCell ?_ (.inr GW522.out) _ | refine Kept.setCell ?_ (.inr GW523.out) _) | exact HK.out)⟩
      ·rw [if_neg c26] at H
       have c26b0 : decide (300 < (x4_1.length : Int)) = false := decide_eq_false c26
       have c26b1 : decide (300 < x4_1.length) = false := decide_eq_false (by omega)
       clear c26
       by_cases c30 : x523002_1 < (-1000)
       ·rw [if_pos c30] at H
        have c30b0 : decide (x523002_1 < (-1000)) = true := decide_eq_true c30
        clear c30
        simp only [Option.some.injEq, Prod.mk.injEq] at H
        obtain ⟨rfl, rfl, rfl, rfl⟩ := H
        obtain ⟨Ao31, co31, eo31, _⟩ := Kd.Q_slice HO_4.out
        subst eo31
        have p527 : 0 <= (0 : Int) := (by omega)
        have q527 : 0 < (x4_1.length : Int) := of_decide_eq_true pQ
        obtain ⟨ad527, e527, hx527_0⟩ := Kd.at_int (Kd.Q_reads' HO_4.out).2.2 0 p527 q527
        cases e527
        have qi527 : (0 < x4_1.length) = True := eq_true (by omega)
        (try rw [show ((0 : Int)).toNat = 0 from rfl] at hx527_0)
        (try rw [Addr.add_zero'] at hx527_0)
        replace p527 := eq_true p527
        replace q527 := eq_true q527
        have hnb32 := NB522_523.out
        have hnc32 := NB523_522.out
        obtain ⟨hcz33_0, hcz33_1, hcz33_2, hfz33_0, hfz33_1, hfz33_2⟩ := cEc BK522.out
        obtain ⟨hcz34_0, hcz34_1, hcz34_2, hfz34_0, hfz34_1, hfz34_2⟩ := cEc BK523.out
        go_wp2
        refine bodyPost_ret (results_ct rfl _ _ gb523 24 #[.bool false, .slice none 0 0, .int .i64 0] (0, 0) _ rfl (by exact p3 BK523) Tryz.underlying24 rfl (by kernel_rfl)) rfl ?_
        exact ⟨_, pE, pN, pB, by repeat (first | (with_reducible first | exact HK.out | apply Kept.alloc | apply Kept.drewN | apply Kept.drew | refine Kept.setCell ?_ (.inr GW522.out) _ | refine Kept.setCell ?_ (.inr GW523.out) _) | exact HK.out)⟩
       ·rw [if_neg c30] at H
        have c30b0 : decide (x523002_1 < (-1000)) = false := decide_eq_false c30
        clear c30
        by_cases c35 : x523002_1 > 1000
        ·rw [if_pos c35] at H
         have c35b0 : decide (1000 < x523002_1) = true := decide_eq_true c35
         clear c35
         simp only [Option.some.injEq, Prod.mk.injEq] at H
         obtain ⟨rfl, rfl, rfl, rfl⟩ := H
         obtain ⟨Ao36, co36, eo36, _⟩ := Kd.Q_slice HO_4.out
         subst eo36
         have p527 : 0 <= (0 : Int) := (by omega)
         have q527 : 0 < (x4_1.length : Int) := of_decide_eq_true pQ
         obtain ⟨ad527, e527, hx527_0⟩ := Kd.at_int (Kd.Q_reads' HO_4.out).2.2 0 p527 q527
         cases e527
         have qi527 : (0 < x4_1.length) = True := eq_true (by omega)
         (try rw [show ((0 : Int)).toNat = 0 from rfl] at hx527_0)
         (try rw [Addr.add_zero'] at hx527_0)
         replace p527 := eq_true p527
         replace q527 := eq_true q527
         have hnb37 := NB522_523.out
         have hnc37 := NB523_522.out
         obtain ⟨hcz38_0, hcz38_1, hcz38_2, hfz38_0, hfz38_1, hfz38_2⟩ := cEc BK522.out
         obtain ⟨hcz39_0, hcz39_1, hcz39_2, hfz39_0, hfz39_1, hfz39_2⟩ := cEc BK523.out
         go_wp2
         refine bodyPost_ret (results_ct rfl _ _ gb523 24 #[.bool false, .slice none 0 0, .int .i64 0] (0, 0) _ rfl (by exact p3 BK523) Tryz.underlying24 rfl (by kernel_rfl)) rfl ?_
         exact ⟨_, pE, pN, pB, by repeat (first | (with_reducible first | exact HK.out | apply Kept.alloc | apply Kept.drewN | apply Kept.drew | refine Kept.setCell ?_ (.inr GW522.out) _ | refine Kept.setCell ?_ (.inr GW523.out) _) | exact HK.out)⟩
        ·rw [if_neg c35] at H
         have c35b0 : decide (1000 < x523002_1) = false := decide_eq_false c35
         clear c35
         obtain ⟨t531, A40, H⟩ := ob H
         simp only [Option.some.injEq, Prod.mk.injEq] at H
         obtain ⟨rfl, rfl, rfl, rfl⟩ := H
         obtain ⟨Ao41, co41, eo41, _⟩ := Kd.Q_slice HO_4.out
         subst eo41
         have p527 : 0 <= (0 : Int) := (by omega)
         have q527 : 0 < (x4_1.length : Int) := of_decide_eq_true pQ
         obtain ⟨ad527, e527, hx527_0⟩ := Kd.at_int (Kd.Q_reads' HO_4.out).2.2 0 p527 q527
         cases e527
         have qi527 : (0 < x4_1.length) = True := eq_true (by omega)
         (try rw [show ((0 : Int)).toNat = 0 from rfl] at hx527_0)
         (try rw [Addr.add_zero'] at hx527_0)
         replace p527 := eq_true p527
         replace q527 := eq_true q527
         have hnb42 := NB522_523.out
         have hnc42 := NB523_522.out
         obtain ⟨hcz43_0, hcz43_1, hcz43_2, hfz43_0, hfz43_1, hfz43_2⟩ := cEc BK522.out
         try go_wp2
         replace HO_4 := am (Kd.Q_drew HO_4.out)
         replace BK522 := am (blk_drew BK522.out)
         replace BK523 := am (blk_drew BK523.out)
         replace HK := am (Kept.drew HK.out)
         replace HB := am (below_drew1 HB.out)
         refine start_ (n := 9) (S := fun w' => w'.cell? ⟨gb522, 0, none⟩ = some (.bool a0_0) /\ w'.cell? ⟨gb522, 1, none⟩ = some ((.slice Ao12 l0_1.length co12)) /\ w'.cell? ⟨gb522, 2, none⟩ = some (.int .i64 x523002_1)) (ds := []) #[false, false, false, false, false, false, false, false, false] (by kernel_rfl) rfl rfl ⟨k0 BK522 0, k0 BK522 1, k0 BK522 2⟩ (fun hHeld => ?_); refine with_tabW bolterref02_Made.tab11 bolterref02_Made.bits11 (fun HT_ HW_ => ?_)
         generalize wr.drew = w44 at HO_4 BK522 BK523 HK HB hHeld ⊢
         refine pu 0 (some 37) #[true, false, false, false, false, false, false, false, false] (h := ?_)
         refine pu 2 (some 39) #[true, false, true, false, false, false, false, false, false] (h := ?_)
         refine pu 4 (some 41) #[true, false, true, false, true, false, false, false, false] (h := ?_)
         refine take_ (i := 1) (N := some 38) (v := ?_) (a' := ?_) #[true, true, true, false, true, false, false, false, false] rfl rfl (take_ofW HT_.out HW_.out (by kernel_rfl)) (fun _ _ _ h => h) (Or.inl ⟨by rfl, ?_⟩) hHeld ?_ ?_
         rotate_left
         ·rintro w' ⟨s0, s1, s2⟩
          go_simp
          with_reducible rfl
         rotate_left
         ·exact pP
         refine take_ (i := 5) (N := some 42) (v := ?_) (a' := ?_) #[true, true, true, false, true, true, false, false, false] rfl rfl (take_ofW HT_.out HW_.out (by kernel_rfl)) (fun _ _ _ h => h) (Or.inl ⟨by rfl, ?_⟩) hHeld ?_ ?_
         rotate_left
         ·rintro w' ⟨s0, s1, s2⟩
          go_simp
          with_reducible rfl
         rotate_left
         ·exact pP
         refine one_ (i := 3) (N := some 40) #[true, true, true, true, true, true, false, false, false] rfl rfl (one_of HT_.out (by kernel_rfl)) (by decide) (fun K hK => ?_)
         refine goes_ Tryz.func80 (by kernel_rfl) rfl #[.slice (some ad527) x4_1.length co41] (by rfl) rfl rfl pA ?_
         with_reducible refine (bolterref01_Limbs.calls k1 _ _ x4_1 t531 _ ?side1 ?side2 A40.out).mono ?_
         (case side1 => exact Kd.C_below (Kd.Q_reads' HO_4.out).2.2 pl)
         (case side2 => exact (Kd.Q_reads' HO_4.out).2.1)
         rintro e w45 ⟨v532, rfl, ho0, hb⟩
         refine ⟨_, rfl, ?_⟩
         replace HO_4 := am (Kd.Q_below (by (with_reducible repeat (first | apply Kd.Q_alloc | apply Kd.Q_drewN | apply Kd.Q_drew)); exact HO_4.out) hb)
         have HO533 := am (Kd.R_lower (Kd.R_newM (M := fun k_ => (P0_1_ k_ \/ w.heap.size <= k_)) ho0 (by first | exact HK.out.1 | exact (show Kept w _ (fun k_ => P0_1_ k_) from by repeat (first | (with_reducible first | exact HK.out | apply Kept.alloc | apply Kept.drewN | apply Kept.drew | refine Kept.setCell ?_ (.inr GW522.out) _ | refine Kept.setCell ?_ (.inr GW523.out) _) | exact HK.out)).1) (fun k_ h_ => .inr h_)) (below_size pB))
         replace BK522 := bb BK522 hb
         replace BK523 := bb BK523 hb
         replace HK := am (Kept.below (S := (fun k_ => P0_1_ k_)) (by repeat (first | (with_reducible first | exact HK.out | apply Kept.alloc | apply Kept.drewN | apply Kept.drew | refine Kept.setCell ?_ (.inr GW522.out) _ | refine Kept.setCell ?_ (.inr GW523.out) _) | exact HK.out)) hb)
         replace HB := bS hb
         obtain ⟨Ao46, co46, eo46⟩ := Kd.R_slice HO533.out
         (first | subst eo46 | (injection eo46 with f1_ f2_ f3_; have f4_ := f1_.symm; have f5_ := f3_.symm; clear f1_ f2_ f3_; subst f4_; subst f5_))
         refine hK.out _ _ ⟨k0 BK522 0, k0 BK522 1, k0 BK522 2⟩ (fun hHeld => ?_)
         clear hK K
         refine norm_ (a' := ?_) ?_ ?_
         rotate_left
         ·show Act.put _ (some 40) _ = _
          exact pP
         refine pu 6 (some 43) #[true, true, true, true, true, true, true, false, false] (h := ?_)
         refine one_ (i := 7) (N := none) #[true, true, true, true, true, true, true, true, false] rfl rfl (one_of HT_.out (by kernel_rfl)) (by decide) (fun K hK => ?_)
         have hs47 : w45.cell? ⟨gb523, 0, none⟩ = some (.bool false) := k0 BK523 0
         have hfs47 := blk_frozen BK523.out 0
         have hns47_0 := NB522_523.out
         have hms47_0 := NB523_522.out
         have hs48 : w45.cell? ⟨gb523, 1, none⟩ = some (.slice none 0 0) := k0 BK523 1
         have hfs48 := blk_frozen BK523.out 1
         have hns48_0 := NB522_523.out
         have hms48_0 := NB523_522.out
         have hs49 : w45.cell? ⟨gb523, 2, none⟩ = some (.int .i64 0) := k0 BK523 2
         have hfs49 := blk_frozen BK523.out 2
         have hns49_0 := NB522_523.out
         have hms49_0 := NB523_522.out
         refine skip_ (w1 := ?_) (by rfl) rfl ?_ ?_
         rotate_left
         ·go_simp
          rfl
         refine hK.out _ _ ⟨((cell_far (p := ⟨gb523, _, none⟩) NB522_523.out _).trans (((cell_far (p := ⟨gb523, _, none⟩) NB522_523.out _).trans (((cell_far (p := ⟨gb523, _, none⟩) NB522_523.out _).trans (hHeld.1)))))), ((cell_far (p := ⟨gb523, _, none⟩) NB522_523.out _).trans (((cell_far (p := ⟨gb523, _, none⟩) NB522_523.out _).trans (((cell_far (p := ⟨gb523, _, none⟩) NB522_523.out _).trans (hHeld.2.1)))))), ((cell_far (p := ⟨gb523, _, none⟩) NB522_523.out _).trans (((cell_far (p := ⟨gb523, _, none⟩) NB522_523.out _).trans (((cell_far (p := ⟨gb523, _, none⟩) NB522_523.out _).trans (hHeld.2.2))))))⟩ (fun hHeld => ?_)
         clear hK K
         refine pu 8 (some 3) #[true, true, true, true, true, true, true, true, true] (h := ?_)
         refine done_ (done_of HT_.out (by kernel_rfl)) ?_
         try go_wp2
         refine bodyPost_ret (results_ct rfl _ _ gb523 24 #[.bool a0_0, .slice Ao46 t531.length co46, .int .i64 x523002_1] (0, 0) _ rfl (by exact p3 BK523) Tryz.underlying24 rfl (by kernel_rfl)) rfl ?_
         exact ⟨_, pE, by refine rp ?_; exact Kd.R_mono (Kd.R_far (p := ⟨gb523, 2, none⟩) (Kd.R_far (p := ⟨gb523, 1, none⟩) (Kd.R_far (p := ⟨gb523, 0, none⟩) (Kd.R_types HO533.out BK523.out (by decide)) (fun _ hk => hk.2) (.bool a0_0)) (fun _ hk => hk.2) (.slice Ao46 t531.length co46)) (fun _ hk => hk.2) (.int .i64 x523002_1)) (fun _ hk => hk.1.1), pB, by repeat (first | (with_reducible first | exact HK.out | apply Kept.alloc | apply Kept.drewN | apply Kept.drew | refine Kept.setCell ?_ (.inr GW522.out) _ | refine Kept.setCell ?_ (.inr GW523.out) _) | exact HK.out)⟩
    ·rw [if_neg c19] at H
     exact absurd H (by simp)
def bolterref02_Of.f (k : Nat) (a0_0 : Bool) (l0_1 : List Int) (a0_2 : Int) : Option (Bool × List Int × Int) := (bolterref01_Digits.f k l0_1).bind fun t589 => (some (a0_0, t589, a0_2))
def bolterref02_Of.T1 : Bool × List (List Nat × List Nat) := (true, [([], []), ([0], [0]), ([], []), ([2], [2]), ([3], [3]), ([], []), ([5], [5]), ([1, 4, 6], [1, 4, 6]), ([7, 4, 0, 1, 2, 3, 4, 5, 6, 7], [7])])
def bolterref02_Of.B1 : List Nat := [0, 1, 0, 4, 12, 0, 32, 127, 255]
theorem bolterref02_Of.tab1 : rtab .any (opsOf Tryz.f18 1) = bolterref02_Of.T1 := by kernel_rfl
theorem bolterref02_Of.bits1 : waitsOk bolterref02_Of.T1.2 bolterref02_Of.B1 = true := by kernel_rfl
theorem bolterref02_Of.calls (k : Nat) (a0_0 : Bool) (A0_1 : Option Addr) (c0_1 : Nat) (l0_1 : List Int) (a0_2 : Int) (r1 : Bool) (r2 : List Int) (r3 : Int) (w : World) (hr0_1 : Kd.C (Kd.int .u32) w A0_1 l0_1.length l0_1) (hc0_1 : l0_1.length <= c0_1) (h : bolterref02_Of.f k a0_0 l0_1 a0_2 = some (r1, r2, r3)) :
  Calls Tryz.prog 18 #[.agg #[.bool a0_0, .slice A0_1 l0_1.length c0_1, .int .i64 a0_2]] w fun e w' => ∃ v1_ : Value, e = .returned (.agg #[.bool r1, v1_, .int .i64 r3]) /\ Kd.R (Kd.int .i64) 3 w' w.heap.size (fun _ => True) v1_ r2 /\ Below w.heap.size w w' := by
 have hu24 := Tryz.underlying24
 have hu30 := Tryz.underlying30
 have HR0_1 := am hr0_1
 have HC0_1 := am hc0_1
 clear hr0_1 hc0_1
 have HB := am (Below.refl w.heap.size w)
 have H : ((bolterref01_Digits.f k l0_1).bind fun t589 => (some (a0_0, t589, a0_2))) = some (r1, r2, r3) := h
 clear h
 obtain ⟨t589, A2, H⟩ := ob H
 simp only [Option.some.injEq, Prod.mk.injEq] at H
 obtain ⟨rfl, rfl, rfl⟩ := H
 go_enter Tryz.func18, Tryz.ntmps18
 try go_wp2_with (first | ((with_reducible refine gd 1 ?_); refine bx 1 #[.bool a0_0, .slice A0_1 l0_1.length c0_1, .int .i64 a0_2] 24 (h := ?_); intro gb587 hg w3 hbox hb; have BK587 := am hbox; have GW587 := gW hg; have GE587 := gW hg; replace HB := bS hb; clear hb hbox hg) | ((with_reducible refine gd 2 ?_); refine bx 2 #[.bool false, .slice none 0 0, .int .i64 0] 30 (h := ?_); intro gb588 hg w4 hbox hb; have BK588 := am hbox; have GW588 := gW hg; have GE588 := gW hg; have NB587_588 := nL hg BK587; have NB588_587 := nG hg BK587; replace BK587 := bb BK587 hb; replace HB := bS hb; clear hb hbox hg))
 replace BK587 := am (blk_drew BK587.out)
 replace BK588 := am (blk_drew BK588.out)
 replace HB := am (below_drew1 HB.out)
 refine start_ (n := 9) (S := fun w' => w'.cell? ⟨gb587, 0, none⟩ = some (.bool a0_0) /\ w'.cell? ⟨gb587, 1, none⟩ = some (.slice A0_1 l0_1.length c0_1) /\ w'.cell? ⟨gb587, 2, none⟩ = some (.int .i64 a0_2)) (ds := []) #[false, false, false, false, false, false, false, false, false] (by kernel_rfl) rfl rfl ⟨k0 BK587 0, k0 BK587 1, k0 BK587 2⟩ (fun hHeld => ?_); refine with_tabW bolterref02_Of.tab1 bolterref02_Of.bits1 (fun HT_ HW_ => ?_)
 generalize w4.drew = w5 at BK587 BK588 HB hHeld ⊢
 refine pu 0 (some 3) #[true, false, false, false, false, false, false, false, false] (h := ?_)
 refine pu 2 (some 5) #[true, false, true, false, false, false, false, false, false] (h := ?_)
 refine pu 5 (some 8) #[true, false, true, false, false, true, false, false, false] (h := ?_)
 refine take_ (i := 1) (N := some 4) (v := ?_) (a' := ?_) #[true, true, true, false, false, true, false, false, false] rfl rfl (take_ofW HT_.out HW_.out (by kernel_rfl)) (fun _ _ _ h => h) (Or.inl ⟨by rfl, ?_⟩) hHeld ?_ ?_
 rotate_left
 ·rintro w' ⟨s0, s1, s2⟩
  go_simp
  with_reducible rfl
 rotate_left
 ·exact pP
 refine take_ (i := 3) (N := some 6) (v := ?_) (a' := ?_) #[true, true, true, true, false, true, false, false, false] rfl rfl (take_ofW HT_.out HW_.out (by kernel_rfl)) (fun _ _ _ h => h) (Or.inl ⟨by rfl, ?_⟩) hHeld ?_ ?_
 rotate_left
 ·rintro w' ⟨s0, s1, s2⟩
  go_simp
  with_reducible rfl
 rotate_left
 ·exact pP
 refine take_ (i := 6) (N := some 9) (v := ?_) (a' := ?_) #[true, true, true, true, false, true, true, false, false] rfl rfl (take_ofW HT_.out HW_.out (by kernel_rfl)) (fun _ _ _ h => h) (Or.inl ⟨by rfl, ?_⟩) hHeld ?_ ?_
 rotate_left
 ·rintro w' ⟨s0, s1, s2⟩
  go_simp
  with_reducible rfl
 rotate_left
 ·exact pP
 refine one_ (i := 4) (N := some 7) #[true, true, true, true, true, true, true, false, false] rfl rfl (one_of HT_.out (by kernel_rfl)) (by decide) (fun K hK => ?_)
 refine goes_ Tryz.func66 (by kernel_rfl) rfl #[.slice A0_1 l0_1.length c0_1] (by rfl) rfl rfl pA ?_
 with_reducible refine (bolterref01_Digits.calls k _ _ l0_1 t589 _ ?side1 ?side2 A2.out).mono ?_
 (case side1 => refine cp ?_; exact (Kd.C_below HR0_1.out HB.out))
 (case side2 => exact HC0_1.out)
 rintro e w6 ⟨v590, rfl, ho0, hb⟩
 refine ⟨_, rfl, ?_⟩
 have HO591 := am (Kd.R_lower ho0 (below_size pB))
 replace BK587 := bb BK587 hb
 replace BK588 := bb BK588 hb
 replace HB := bS hb
 obtain ⟨Ao7, co7, eo7⟩ := Kd.R_slice HO591.out
 (first | subst eo7 | (injection eo7 with f1_ f2_ f3_; have f4_ := f1_.symm; have f5_ := f3_.symm; clear f1_ f2_ f3_; subst f4_; subst f5_))
 refine hK.out _ _ ⟨k0 BK587 0, k0 BK587 1, k0 BK587 2⟩ (fun hHeld => ?_)
 clear hK K
 refine norm_ (a' := ?_) ?_ ?_
 rotate_left
 ·show Act.put _ (some 7) _ = _
  exact pP
 refine pu 7 (some 10) #[true, true, true, true, true, true, true, true, false] (h := ?_)
 refine one_ (i := 8) (N := none) #[true, true, true, true, true, true, true, true, true] rfl rfl (one_of HT_.out (by kernel_rfl)) (by decide) (fun K hK => ?_)
 have hs8 : w6.cell? ⟨gb588, 0, none⟩ = some (.bool false) := k0 BK588 0
 have hfs8 := blk_frozen BK588.out 0
 have hns8_0 := NB587_588.out
 have hms8_0 := NB588_587.out
 have hs9 : w6.cell? ⟨gb588, 1, none⟩ = some (.slice none 0 0) := k0 BK588 1
 have hfs9 := blk_frozen BK588.out 1
 have hns9_0 := NB587_588.out
 have hms9_0 := NB588_587.out
 have hs10 : w6.cell? ⟨gb588, 2, none⟩ = some (.int .i64 0) := k0 BK588 2
 have hfs10 := blk_frozen BK588.out 2
 have hns10_0 := NB587_588.out
 have hms10_0 := NB588_587.out
 refine skip_ (w1 := ?_) (by rfl) rfl ?_ ?_
 rotate_left
 ·go_simp
  rfl
 refine hK.out _ _ ⟨((cell_far (p := ⟨gb588, _, none⟩) NB587_588.out _).trans (((cell_far (p := ⟨gb588, _, none⟩) NB587_588.out _).trans (((cell_far (p := ⟨gb588, _, none⟩) NB587_588.out _).trans (hHeld.1)))))), ((cell_far (p := ⟨gb588, _, none⟩) NB587_588.out _).trans (((cell_far (p := ⟨gb588, _, none⟩) NB587_588.out _).trans (((cell_far (p := ⟨gb588, _, none⟩) NB587_588.out _).trans (hHeld.2.1)))))), ((cell_far (p := ⟨gb588, _, none⟩) NB587_588.out _).trans (((cell_far (p := ⟨gb588, _, none⟩) NB587_588.out _).trans (((cell_far (p := ⟨gb588, _, none⟩) NB587_588.out _).trans (hHeld.2.2))))))⟩ (fun hHeld => ?_)
 clear hK K
 refine done_ (done_of HT_.out (by kernel_rfl)) ?_
 try go_wp2
 refine bodyPost_ret (results_cell_row rfl _ _ gb588 30 #[.bool a0_0, .slice Ao7 t589.length co7, .int .i64 a0_2] (0, 0) _ rfl (by exact p3 BK588) Tryz.underlying30 rfl (by kernel_rfl)) rfl ?_
 exact ⟨_, pE, by refine rp ?_; exact Kd.R_mono (Kd.R_far (p := ⟨gb588, 2, none⟩) (Kd.R_far (p := ⟨gb588, 1, none⟩) (Kd.R_far (p := ⟨gb588, 0, none⟩) (Kd.R_types HO591.out BK588.out (by decide)) (fun _ hk => hk.2) (.bool a0_0)) (fun _ hk => hk.2) (.slice Ao7 t589.length co7)) (fun _ hk => hk.2) (.int .i64 a0_2)) (fun _ hk => trivial), pB⟩
mutual
def bolterref02_Check.j0 : Nat -> Bool -> Bool -> List Int -> Int -> Option (Int)
 | 0, _, _, _, _ => none
 | k + 1, x13, x648000, x648001, x648002 => if x13 = true then (some 9) else ((bolterref02_Of.f k x648000 x648001 x648002).bind fun bt649 => (if (bt649.2.1.length : Int) = 0 then (if x648000 = true then (bolterref02_Check.j1 k true) else (bolterref02_Check.j1 k (x648002 != 0))) else (if 0 < (bt649.2.1.length : Int) then (if (rd bt649.2.1 0) = 0 then (some 9) else (if (bt649.2.1.length : Int) > 300 then (some 9) else (if x648002 < (-1000) then (some 9) else (if x648002 > 1000 then (some 9) else (some 0))))) else (none))))
def bolterref02_Check.j1 : Nat -> Bool -> Option (Int)
 | 0, _ => none
 | k + 1, x26 => if x26 = true then (some 9) else (some 0)
end
def bolterref02_Check.f (k : Nat) (a0_0 : Bool) (l0_1 : List Int) (a0_2 : Int) : Option (Int) := (bolterref01_Check.f l0_1).bind fun t648 => (if t648 = 0 then (bolterref02_Check.j0 k (decide ((l0_1.length : Int) > 40)) a0_0 l0_1 a0_2) else (bolterref02_Check.j0 k true a0_0 l0_1 a0_2))
theorem bolterref02_Check.calls (k : Nat) (a0_0 : Bool) (A0_1 : Option Addr) (c0_1 : Nat) (l0_1 : List Int) (a0_2 : Int) (r : Int) (w : World) (hr0_1 : Kd.C (Kd.int .u32) w A0_1 l0_1.length l0_1) (hc0_1 : l0_1.length <= c0_1) (h : bolterref02_Check.f k a0_0 l0_1 a0_2 = some r) :
  Calls Tryz.prog 33 #[.agg #[.bool a0_0, .slice A0_1 l0_1.length c0_1, .int .i64 a0_2]] w fun e w' => e = .returned (.int .i64 r) /\ Below w.heap.size w w' := by
 have hu24 := Tryz.underlying24
 have hu30 := Tryz.underlying30
 have HR0_1 := am hr0_1
 have HC0_1 := am hc0_1
 clear hr0_1 hc0_1
 have HB := am (Below.refl w.heap.size w)
 have H : ((bolterref01_Check.f l0_1).bind fun t648 => (if t648 = 0 then (bolterref02_Check.j0 k (decide ((l0_1.length : Int) > 40)) a0_0 l0_1 a0_2) else (bolterref02_Check.j0 k true a0_0 l0_1 a0_2))) = some r := h
 clear h
 have HC2 := am H
 clear H
 go_enter Tryz.func33, Tryz.ntmps33
 go_upto_region 1 with (first | ((with_reducible refine gd 1 ?_); (try (refine gate_guard (by rfl) ?_; dsimp only)); refine bx 1 #[.bool a0_0, .slice A0_1 l0_1.length c0_1, .int .i64 a0_2] 24 (h := ?_); intro gb647 hg w3 hbox hb; have BK647 := am hbox; have GW647 := gW hg; have GE647 := gW hg; replace HB := bS hb; clear hb hbox hg))
 (try simp only [Act.put, List.setIfInBounds_toArray, List.set_cons_zero, List.set_cons_succ])
 go_cut [13] (fun v13 wc => ∃ (kq : Nat) (x13_1 : Bool), v13 = .bool x13_1 /\ Aside0 (bolterref02_Check.j0 kq x13_1 a0_0 l0_1 a0_2 = some r) /\ Aside0 (kq <= k) /\ Aside0 (wc.heap[gb647]? = some (.cells #[.bool a0_0, (.slice A0_1 l0_1.length c0_1), .int .i64 a0_2] 24 (0, 0))) /\ Aside0 (Below w.heap.size w wc))
 case first =>
  have H := HC2.out
  clear HC2
  obtain ⟨t648, A4, H⟩ := ob H
  by_cases c5 : t648 = 0
  ·rw [if_pos c5] at H
   have c5b0 : (t648 == 0) = true := beq_iff_eq.mpr c5
   have c5b1 : (t648 != 0) = false := bne_eq_false_iff_eq.mpr c5
   clear c5
   (first | rw [c5b0] | (simp only [i64_w, i32_w]; rw [c5b0]) | skip)
   have H' := am H
   clear H
   obtain ⟨hcz6_0, hcz6_1, hcz6_2, hfz6_0, hfz6_1, hfz6_2⟩ := cEc BK647.out
   go_wp2_with (first | (refine gL (some 6) Tryz.func91 #[.slice A0_1 l0_1.length c0_1] (h := ?_); (with_reducible refine (bolterref01_Check.calls _ _ l0_1 t648 _ ?side1 ?side2 A4.out).mono ?_); (case side1 => refine cp ?_; exact (Kd.C_below HR0_1.out HB.out)); (case side2 => exact HC0_1.out); rintro e w' ⟨rfl, ⟨nd, rfl⟩⟩; refine ⟨_, rfl, ?_⟩))
   go_meet
   case rel => exact ⟨_, (decide ((l0_1.length : Int) > 40)), pR, H', ⟨by first | omega | exact Nat.le_refl _⟩, ⟨blk_below BK647.out pl⟩, ⟨pB⟩⟩
  ·rw [if_neg c5] at H
   have c5b0 : (t648 == 0) = false := beq_eq_false_iff_ne.mpr c5
   have c5b1 : (t648 != 0) = true := bne_iff_ne.mpr c5
   (first | rw [c5b0] | (simp only [i64_w, i32_w]; rw [c5b0]) | skip)
   have H' := am H
   clear H
   obtain ⟨hcz7_0, hcz7_1, hcz7_2, hfz7_0, hfz7_1, hfz7_2⟩ := cEc BK647.out
   go_wp2_with (first | (refine gL (some 6) Tryz.func91 #[.slice A0_1 l0_1.length c0_1] (h := ?_); (with_reducible refine (bolterref01_Check.calls _ _ l0_1 t648 _ ?side1 ?side2 A4.out).mono ?_); (case side1 => refine cp ?_; exact (Kd.C_below HR0_1.out HB.out)); (case side2 => exact HC0_1.out); rintro e w' ⟨rfl, ⟨nd, rfl⟩⟩; refine ⟨_, rfl, ?_⟩))
   go_meet
   case rel => exact ⟨_, (true), pR, H', ⟨by first | omega | exact Nat.le_refl _⟩, ⟨blk_below BK647.out pl⟩, ⟨pB⟩⟩
 case rest =>
  clear HC2
  obtain ⟨kq, x13_1, rfl, HA, HJ1, BK647, HB⟩ := hcut
  cases kq with
  | zero => exact absurd HA.out (by simp [bolterref02_Check.j0])
  | succ kj1 =>
   have H := HA.out
   clear HA
   simp only [bolterref02_Check.j0] at H
   by_cases c8 : x13_1 = true
   ·subst c8
    rw [if_pos rfl] at H
    obtain rfl := Option.some.inj H
    go_wp2
    go_ret
    exact ⟨pE, pB⟩
   ·replace c8 := Bool.eq_false_iff.mpr c8
    subst c8
    rw [if_neg (show ¬ (false = true) by decide)] at H
    obtain ⟨⟨t649, t650, t653⟩, A9, H⟩ := ob H; (try dsimp only at H)
    by_cases c10 : (t650.length : Int) = 0
    ·rw [if_pos c10] at H
     have c10b0 : ((t650.length : Int) == 0) = true := beq_iff_eq.mpr c10
     have c10b1 : ((t650.length : Int) != 0) = false := bne_eq_false_iff_eq.mpr c10
     clear c10
     have HC11 := am H
     clear H
     obtain ⟨hcz12_0, hcz12_1, hcz12_2, hfz12_0, hfz12_1, hfz12_2⟩ := cEc BK647.out
     go_upto_region 5 with (first | (refine gL (some 15) Tryz.func18 #[.agg #[.bool a0_0, .slice A0_1 l0_1.length c0_1, .int .i64 a0_2]] (h := ?_); (with_reducible refine (bolterref02_Of.calls kj1 a0_0 _ _ l0_1 a0_2 t649 t650 t653 _ ?side1 ?side2 A9.out).mono ?_); (case side1 => refine cp ?_; exact (Kd.C_below HR0_1.out HB.out)); (case side2 => exact HC0_1.out); rintro e w13 ⟨v651, rfl, ho0, hb⟩; refine ⟨_, rfl, ?_⟩; have HO652 := am (Kd.R_lower ho0 (below_size pB)); replace BK647 := bb BK647 hb; replace HB := bS hb) | ((with_reducible refine gd 3 ?_); (try (refine gate_guard (by rfl) ?_; dsimp only)); refine bx 3 #[.bool false, .slice none 0 0, .int .i64 0] 30 (h := ?_); intro gb654 hg w14 hbox hb; have BK654 := am hbox; have GW654 := gW hg; have GE654 := gW hg; have NB647_654 := nL hg BK647; have NB654_647 := nG hg BK647; replace HO652 := rbl HO652 hb; replace BK647 := bb BK647 hb; replace HB := bS hb; clear hb hbox hg; have hnb15 := NB654_647.out; have hnc15 := NB647_654.out; obtain ⟨hcz16_0, hcz16_1, hcz16_2, hfz16_0, hfz16_1, hfz16_2⟩ := cEc BK654.out; obtain ⟨Ao17, co17, eo17⟩ := Kd.R_slice HO652.out; subst eo17))
     (try simp only [Act.put, List.setIfInBounds_toArray, List.set_cons_zero, List.set_cons_succ])
     go_cut [26] (fun v26 wc => ∃ (kq : Nat) (x26_10 : Bool), v26 = .bool x26_10 /\ Aside0 (bolterref02_Check.j1 kq x26_10 = some r) /\ Aside0 (kq <= kj1) /\ Aside0 (Kd.R (Kd.int .i64) 3 wc w.heap.size (fun _ => True) (.slice Ao17 t650.length co17) t650) /\ Aside0 (wc.heap[gb647]? = some (.cells #[.bool a0_0, (.slice A0_1 l0_1.length c0_1), .int .i64 a0_2] 24 (0, 0))) /\ Aside0 (wc.heap[gb654]? = some (.cells #[.bool t649, (.slice Ao17 t650.length co17), .int .i64 t653] 30 (0, 0))) /\ Aside0 (Below w.heap.size w wc))
     case first =>
      have H := HC11.out
      clear HC11
      by_cases c18 : a0_0 = true
      ·subst c18
       rw [if_pos rfl] at H
       have H' := am H
       clear H
       have hnb19 := NB647_654.out
       have hnc19 := NB654_647.out
       obtain ⟨hcz20_0, hcz20_1, hcz20_2, hfz20_0, hfz20_1, hfz20_2⟩ := cEc BK647.out
       go_wp2
       go_meet
       case rel => exact ⟨_, (true), pR, H', ⟨by have := HJ1.out; first | omega | exact Nat.le_refl _⟩, ⟨by refine rp ?_; exact Kd.R_mono (Kd.R_far (p := ⟨gb654, 2, none⟩) (Kd.R_far (p := ⟨gb654, 1, none⟩) (Kd.R_far (p := ⟨gb654, 0, none⟩) (Kd.R_types HO652.out BK654.out (by decide)) (fun _ hk => hk.2) (.bool t649)) (fun _ hk => hk.2) (.slice Ao17 t650.length co17)) (fun _ hk => hk.2) (.int .i64 t653)) (fun _ hk => trivial)⟩, ⟨bf NB647_654.out BK647.out⟩, ⟨by exact p3 BK654⟩, ⟨pB⟩⟩
      ·replace c18 := Bool.eq_false_iff.mpr c18
       subst c18
       rw [if_neg (show ¬ (false = true) by decide)] at H
       have H' := am H
       clear H
       have hnb21 := NB647_654.out
       have hnc21 := NB654_647.out
       obtain ⟨hcz22_0, hcz22_1, hcz22_2, hfz22_0, hfz22_1, hfz22_2⟩ := cEc BK647.out
       go_wp2
       go_meet
       case rel => exact ⟨_, ((a0_2 != 0)), pR, H', ⟨by have := HJ1.out; first | omega | exact Nat.le_refl _⟩, ⟨by refine rp ?_; exact Kd.R_mono (Kd.R_far (p := ⟨gb654, 2, none⟩) (Kd.R_far (p := ⟨gb654, 1, none⟩) (Kd.R_far (p := ⟨gb654, 0, none⟩) (Kd.R_types HO652.out BK654.out (by decide)) (fun _ hk => hk.2) (.bool t649)) (fun _ hk => hk.2) (.slice Ao17 t650.length co17)) (fun _ hk => hk.2) (.int .i64 t653)) (fun _ hk => trivial)⟩, ⟨bf NB647_654.out BK647.out⟩, ⟨by exact p3 BK654⟩, ⟨pB⟩⟩
     case rest =>
      clear HC11
      obtain ⟨kq, x26_10, rfl, HA, HJ10, HO_655001, BK647, BK654, HB⟩ := hcut
      cases kq with
      | zero => exact absurd HA.out (by simp [bolterref02_Check.j1])
      | succ kj10 =>
       have H := HA.out
       clear HA
       simp only [bolterref02_Check.j1] at H
       by_cases c23 : x26_10 = true
       ·subst c23
        rw [if_pos rfl] at H
        obtain rfl := Option.some.inj H
        go_wp2
        go_ret
        exact ⟨pE, pB⟩
       ·replace c23 := Bool.eq_false_iff.mpr c23
        subst c23
        rw [if_neg (show ¬ (false = true) by decide)] at H
        obtain rfl := Option.some.inj H
        go_wp2
        go_ret
        exact ⟨pE, pB⟩
    ·rw [if_neg c10] at H
     have c10b0 : ((t650.length : Int) == 0) = false := beq_eq_false_iff_ne.mpr c10
     have c10b1 : ((t650.length : Int) != 0) = true := bne_iff_ne.mpr c10
     have c10b2 : ¬ (t650 = []) := fun h_ => c10 (by rw [h_]; rfl)
     by_cases c24 : 0 < (t650.length : Int)
     ·rw [if_pos c24] at H
      have c24b0 : decide (0 < (t650.length : Int)) = true := decide_eq_true c24
      have c24b1 : decide (0 < t650.length) = true := decide_eq_true (by omega)
      clear c24
      by_cases c25 : (rd t650 0) = 0
      ·rw [if_pos c25] at H
       have c25b0 : ((rd t650 0) == 0) = true := beq_iff_eq.mpr c25
       have c25b1 : ((rd t650 0) != 0) = false := bne_eq_false_iff_eq.mpr c25
       clear c25
       obtain rfl := Option.some.inj H
       obtain ⟨hcz26_0, hcz26_1, hcz26_2, hfz26_0, hfz26_1, hfz26_2⟩ := cEc BK647.out
       go_wp2_with (first | (refine gL (some 15) Tryz.func18 #[.agg #[.bool a0_0, .slice A0_1 l0_1.length c0_1, .int .i64 a0_2]] (h := ?_); (with_reducible refine (bolterref02_Of.calls kj1 a0_0 _ _ l0_1 a0_2 t649 t650 t653 _ ?side1 ?side2 A9.out).mono ?_); (case side1 => refine cp ?_; exact (Kd.C_below HR0_1.out HB.out)); (case side2 => exact HC0_1.out); rintro e w27 ⟨v651, rfl, ho0, hb⟩; refine ⟨_, rfl, ?_⟩; have HO652 := am (Kd.R_lower ho0 (below_size pB)); replace BK647 := bb BK647 hb; replace HB := bS hb) | ((with_reducible refine gd 3 ?_); (try (refine gate_guard (by rfl) ?_; dsimp only)); refine bx 3 #[.bool false, .slice none 0 0, .int .i64 0] 30 (h := ?_); intro gb654 hg w28 hbox hb; have BK654 := am hbox; have GW654 := gW hg; have GE654 := gW hg; have NB647_654 := nL hg BK647; have NB654_647 := nG hg BK647; replace HO652 := rbl HO652 hb; replace BK647 := bb BK647 hb; replace HB := bS hb; clear hb hbox hg; have hnb29 := NB654_647.out; have hnc29 := NB647_654.out; obtain ⟨hcz30_0, hcz30_1, hcz30_2, hfz30_0, hfz30_1, hfz30_2⟩ := cEc BK654.out; obtain ⟨Ao31, co31, eo31⟩ := Kd.R_slice HO652.out; subst eo31; have p655 : 0 <= (0 : Int) := (by omega); have q655 : 0 < (t650.length : Int) := of_decide_eq_true pQ; obtain ⟨ad655, e655, hx655_0⟩ := Kd.at_int (Kd.R_reads' HO652.out).2.2 0 p655 q655; cases e655; have qi655 : (0 < t650.length) = True := eq_true (by omega); (try rw [show ((0 : Int)).toNat = 0 from rfl] at hx655_0); (try rw [Addr.add_zero'] at hx655_0); have hn655_0 : ad655.block ≠ gb654 := Kd.own_blk (Kd.R_ne HO652.out BK654.out (by decide)); have hn655_1 : ad655.block ≠ gb654 := Kd.own_blk (Kd.R_ne HO652.out BK654.out (by decide)); have hn655_2 : ad655.block ≠ gb654 := Kd.own_blk (Kd.R_ne HO652.out BK654.out (by decide)); replace hx655_0 := (cell_far (p := ⟨gb654, 0, none⟩) (by first | (rw [add_block]; exact hn655_0) | (show (Addr.add _ _).block ≠ _; rw [add_block]; exact hn655_0) | exact hn655_0) (.bool t649)).trans hx655_0; replace hx655_0 := (cell_far (p := ⟨gb654, 1, none⟩) (by first | (rw [add_block]; exact hn655_1) | (show (Addr.add _ _).block ≠ _; rw [add_block]; exact hn655_1) | exact hn655_1) (.slice (some ad655) t650.length co31)).trans hx655_0; replace hx655_0 := (cell_far (p := ⟨gb654, 2, none⟩) (by first | (rw [add_block]; exact hn655_2) | (show (Addr.add _ _).block ≠ _; rw [add_block]; exact hn655_2) | exact hn655_2) (.int .i64 t653)).trans hx655_0; clear hn655_0 hn655_1 hn655_2; replace p655 := eq_true p655; replace q655 := eq_true q655))
       go_ret
       exact ⟨pE, pB⟩
      ·rw [if_neg c25] at H
       have c25b0 : ((rd t650 0) == 0) = false := beq_eq_false_iff_ne.mpr c25
       have c25b1 : ((rd t650 0) != 0) = true := bne_iff_ne.mpr c25
       by_cases c32 : (t650.length : Int) > 300
       ·rw [if_pos c32] at H
        have c32b0 : decide (300 < (t650.length : Int)) = true := decide_eq_true c32
        have c32b1 : decide (300 < t650.length) = true := decide_eq_true (by omega)
        clear c32
        obtain rfl := Option.some.inj H
        obtain ⟨hcz33_0, hcz33_1, hcz33_2, hfz33_0, hfz33_1, hfz33_2⟩ := cEc BK647.out
        go_wp2_with (first | (refine gL (some 15) Tryz.func18 #[.agg #[.bool a0_0, .slice A0_1 l0_1.length c0_1, .int .i64 a0_2]] (h := ?_); (with_reducible refine (bolterref02_Of.calls kj1 a0_0 _ _ l0_1 a0_2 t649 t650 t653 _ ?side1 ?side2 A9.out).mono ?_); (case side1 => refine cp ?_; exact (Kd.C_below HR0_1.out HB.out)); (case side2 => exact HC0_1.out); rintro e w34 ⟨v651, rfl, ho0, hb⟩; refine ⟨_, rfl, ?_⟩; have HO652 := am (Kd.R_lower ho0 (below_size pB)); replace BK647 := bb BK647 hb; replace HB := bS hb) | ((with_reducible refine gd 3 ?_); (try (refine gate_guard (by rfl) ?_; dsimp only)); refine bx 3 #[.bool false, .slice none 0 0, .int .i64 0] 30 (h := ?_); intro gb654 hg w35 hbox hb; have BK654 := am hbox; have GW654 := gW hg; have GE654 := gW hg; have NB647_654 := nL hg BK647; have NB654_647 := nG hg BK647; replace HO652 := rbl HO652 hb; replace BK647 := bb BK647 hb; replace HB := bS hb; clear hb hbox hg; have hnb36 := NB654_647.out; have hnc36 := NB647_654.out; obtain ⟨hcz37_0, hcz37_1, hcz37_2, hfz37_0, hfz37_1, hfz37_2⟩ := cEc BK654.out; obtain ⟨Ao38, co38, eo38⟩ := Kd.R_slice HO652.out; subst eo38; have p655 : 0 <= (0 : Int) := (by omega); have q655 : 0 < (t650.length : Int) := of_decide_eq_true pQ; obtain ⟨ad655, e655, hx655_0⟩ := Kd.at_int (Kd.R_reads' HO652.out).2.2 0 p655 q655; cases e655; have qi655 : (0 < t650.length) = True := eq_true (by omega); (try rw [show ((0 : Int)).toNat = 0 from rfl] at hx655_0); (try rw [Addr.add_zero'] at hx655_0); have hn655_0 : ad655.block ≠ gb654 := Kd.own_blk (Kd.R_ne HO652.out BK654.out (by decide)); have hn655_1 : ad655.block ≠ gb654 := Kd.own_blk (Kd.R_ne HO652.out BK654.out (by decide)); have hn655_2 : ad655.block ≠ gb654 := Kd.own_blk (Kd.R_ne HO652.out BK654.out (by decide)); replace hx655_0 := (cell_far (p := ⟨gb654, 0, none⟩) (by first | (rw [add_block]; exact hn655_0) | (show (Addr.add _ _).block ≠ _; rw [add_block]; exact hn655_0) | exact hn655_0) (.bool t649)).trans hx655_0; replace hx655_0 := (cell_far (p := ⟨gb654, 1, none⟩) (by first | (rw [add_block]; exact hn655_1) | (show (Addr.add _ _).block ≠ _; rw [add_block]; exact hn655_1) | exact hn655_1) (.slice (some ad655) t650.length co38)).trans hx655_0; replace hx655_0 := (cell_far (p := ⟨gb654, 2, none⟩) (by first | (rw [add_block]; exact hn655_2) | (show (Addr.add _ _).block ≠ _; rw [add_block]; exact hn655_2) | exact hn655_2) (.int .i64 t653)).trans hx655_0; clear hn655_0 hn655_1 hn655_2; replace p655 := eq_true p655; replace q655 := eq_true q655))
        go_ret
        exact ⟨pE, pB⟩
       ·rw [if_neg c32] at H
        have c32b0 : decide (300 < (t650.length : Int)) = false := decide_eq_false c32
        have c32b1 : decide (300 < t650.length) = false := decide_eq_false (by omega)
        clear c32
        by_cases c39 : a0_2 < (-1000)
        ·rw [if_pos c39] at H
         have c39b0 : decide (a0_2 < (-1000)) = true := decide_eq_true c39
         clear c39
         obtain rfl := Option.some.inj H
         obtain ⟨hcz40_0, hcz40_1, hcz40_2, hfz40_0, hfz40_1, hfz40_2⟩ := cEc BK647.out
         go_wp2_with (first | (refine gL (some 15) Tryz.func18 #[.agg #[.bool a0_0, .slice A0_1 l0_1.length c0_1, .int .i64 a0_2]] (h := ?_); (with_reducible refine (bolterref02_Of.calls kj1 a0_0 _ _ l0_1 a0_2 t649 t650 t653 _ ?side1 ?side2 A9.out).mono ?_); (case side1 => refine cp ?_; exact (Kd.C_below HR0_1.out HB.out)); (case side2 => exact HC0_1.out); rintro e w41 ⟨v651, rfl, ho0, hb⟩; refine ⟨_, rfl, ?_⟩; have HO652 := am (Kd.R_lower ho0 (below_size pB)); replace BK647 := bb BK647 hb; replace HB := bS hb) | ((with_reducible refine gd 3 ?_); (try (refine gate_guard (by rfl) ?_; dsimp only)); refine bx 3 #[.bool false, .slice none 0 0, .int .i64 0] 30 (h := ?_); intro gb654 hg w42 hbox hb; have BK654 := am hbox; have GW654 := gW hg; have GE654 := gW hg; have NB647_654 := nL hg BK647; have NB654_647 := nG hg BK647; replace HO652 := rbl HO652 hb; replace BK647 := bb BK647 hb; replace HB := bS hb; clear hb hbox hg; have hnb43 := NB654_647.out; have hnc43 := NB647_654.out; obtain ⟨hcz44_0, hcz44_1, hcz44_2, hfz44_0, hfz44_1, hfz44_2⟩ := cEc BK654.out; obtain ⟨Ao45, co45, eo45⟩ := Kd.R_slice HO652.out; subst eo45; have p655 : 0 <= (0 : Int) := (by omega); have q655 : 0 < (t650.length : Int) := of_decide_eq_true pQ; obtain ⟨ad655, e655, hx655_0⟩ := Kd.at_int (Kd.R_reads' HO652.out).2.2 0 p655 q655; cases e655; have qi655 : (0 < t650.length) = True := eq_true (by omega); (try rw [show ((0 : Int)).toNat = 0 from rfl] at hx655_0); (try rw [Addr.add_zero'] at hx655_0); have hn655_0 : ad655.block ≠ gb654 := Kd.own_blk (Kd.R_ne HO652.out BK654.out (by decide)); have hn655_1 : ad655.block ≠ gb654 := Kd.own_blk (Kd.R_ne HO652.out BK654.out (by decide)); have hn655_2 : ad655.block ≠ gb654 := Kd.own_blk (Kd.R_ne HO652.out BK654.out (by decide)); replace hx655_0 := (cell_far (p := ⟨gb654, 0, none⟩) (by first | (rw [add_block]; exact hn655_0) | (show (Addr.add _ _).block ≠ _; rw [add_block]; exact hn655_0) | exact hn655_0) (.bool t649)).trans hx655_0; replace hx655_0 := (cell_far (p := ⟨gb654, 1, none⟩) (by first | (rw [add_block]; exact hn655_1) | (show (Addr.add _ _).block ≠ _; rw [add_block]; exact hn655_1) | exact hn655_1) (.slice (some ad655) t650.length co45)).trans hx655_0; replace hx655_0 := (cell_far (p := ⟨gb654, 2, none⟩) (by first | (rw [add_block]; exact hn655_2) | (show (Addr.add _ _).block ≠ _; rw [add_block]; exact hn655_2) | exact hn655_2) (.int .i64 t653)).trans hx655_0; clear hn655_0 hn655_1 hn655_2; replace p655 := eq_true p655; replace q655 := eq_true q655; obtain ⟨hcz46_0, hcz46_1, hcz46_2, hfz46_0, hfz46_1, hfz46_2⟩ := cEc BK647.out))
         go_ret
         exact ⟨pE, pB⟩
        ·rw [if_neg c39] at H
         have c39b0 : decide (a0_2 < (-1000)) = false := decide_eq_false c39
         clear c39
         by_cases c47 : a0_2 > 1000
         ·rw [if_pos c47] at H
          have c47b0 : decide (1000 < a0_2) = true := decide_eq_true c47
          clear c47
          obtain rfl := Option.some.inj H
          obtain ⟨hcz48_0, hcz48_1, hcz48_2, hfz48_0, hfz48_1, hfz48_2⟩ := cEc BK647.out
          go_wp2_with (first | (refine gL (some 15) Tryz.func18 #[.agg #[.bool a0_0, .slice A0_1 l0_1.length c0_1, .int .i64 a0_2]] (h := ?_); (with_reducible refine (bolterref02_Of.calls kj1 a0_0 _ _ l0_1 a0_2 t649 t650 t653 _ ?side1 ?side2 A9.out).mono ?_); (case side1 => refine cp ?_; exact (Kd.C_below HR0_1.out HB.out)); (case side2 => exact HC0_1.out); rintro e w49 ⟨v651, rfl, ho0, hb⟩; refine ⟨_, rfl, ?_⟩; have HO652 := am (Kd.R_lower ho0 (below_size pB)); replace BK647 := bb BK647 hb; replace HB := bS hb) | ((with_reducible refine gd 3 ?_); (try (refine gate_guard (by rfl) ?_; dsimp only)); refine bx 3 #[.bool false, .slice none 0 0, .int .i64 0] 30 (h := ?_); intro gb654 hg w50 hbox hb; have BK654 := am hbox; have GW654 := gW hg; have GE654 := gW hg; have NB647_654 := nL hg BK647; have NB654_647 := nG hg BK647; replace HO652 := rbl HO652 hb; replace BK647 := bb BK647 hb; replace HB := bS hb; clear hb hbox hg; have hnb51 := NB654_647.out; have hnc51 := NB647_654.out; obtain ⟨hcz52_0, hcz52_1, hcz52_2, hfz52_0, hfz52_1, hfz52_2⟩ := cEc BK654.out; obtain ⟨Ao53, co53, eo53⟩ := Kd.R_slice HO652.out; subst eo53; have p655 : 0 <= (0 : Int) := (by omega); have q655 : 0 < (t650.length : Int) := of_decide_eq_true pQ; obtain ⟨ad655, e655, hx655_0⟩ := Kd.at_int (Kd.R_reads' HO652.out).2.2 0 p655 q655; cases e655; have qi655 : (0 < t650.length) = True := eq_true (by omega); (try rw [show ((0 : Int)).toNat = 0 from rfl] at hx655_0); (try rw [Addr.add_zero'] at hx655_0); have hn655_0 : ad655.block ≠ gb654 := Kd.own_blk (Kd.R_ne HO652.out BK654.out (by decide)); have hn655_1 : ad655.block ≠ gb654 := Kd.own_blk (Kd.R_ne HO652.out BK654.out (by decide)); have hn655_2 : ad655.block ≠ gb654 := Kd.own_blk (Kd.R_ne HO652.out BK654.out (by decide)); replace hx655_0 := (cell_far (p := ⟨gb654, 0, none⟩) (by first | (rw [add_block]; exact hn655_0) | (show (Addr.add _ _).block ≠ _; rw [add_block]; exact hn655_0) | exact hn655_0) (.bool t649)).trans hx655_0; replace hx655_0 := (cell_far (p := ⟨gb654, 1, none⟩) (by first | (rw [add_block]; exact hn655_1) | (show (Addr.add _ _).block ≠ _; rw [add_block]; exact hn655_1) | exact hn655_1) (.slice (some ad655) t650.length co53)).trans hx655_0; replace hx655_0 := (cell_far (p := ⟨gb654, 2, none⟩) (by first | (rw [add_block]; exact hn655_2) | (show (Addr.add _ _).block ≠ _; rw [add_block]; exact hn655_2) | exact hn655_2) (.int .i64 t653)).trans hx655_0; clear hn655_0 hn655_1 hn655_2; replace p655 := eq_true p655; replace q655 := eq_true q655; obtain ⟨hcz54_0, hcz54_1, hcz54_2, hfz54_0, hfz54_1, hfz54_2⟩ := cEc BK647.out))
          go_ret
          exact ⟨pE, pB⟩
         ·rw [if_neg c47] at H
          have c47b0 : decide (1000 < a0_2) = false := decide_eq_false c47
          clear c47
          obtain rfl := Option.some.inj H
          obtain ⟨hcz55_0, hcz55_1, hcz55_2, hfz55_0, hfz55_1, hfz55_2⟩ := cEc BK647.out
          go_wp2_with (first | (refine gL (some 15) Tryz.func18 #[.agg #[.bool a0_0, .slice A0_1 l0_1.length c0_1, .int .i64 a0_2]] (h := ?_); (with_reducible refine (bolterref02_Of.calls kj1 a0_0 _ _ l0_1 a0_2 t649 t650 t653 _ ?side1 ?side2 A9.out).mono ?_); (case side1 => refine cp ?_; exact (Kd.C_below HR0_1.out HB.out)); (case side2 => exact HC0_1.out); rintro e w56 ⟨v651, rfl, ho0, hb⟩; refine ⟨_, rfl, ?_⟩; have HO652 := am (Kd.R_lower ho0 (below_size pB)); replace BK647 := bb BK647 hb; replace HB := bS hb) | ((with_reducible refine gd 3 ?_); (try (refine gate_guard (by rfl) ?_; dsimp only)); refine bx 3 #[.bool false, .slice none 0 0, .int .i64 0] 30 (h := ?_); intro gb654 hg w57 hbox hb; have BK654 := am hbox; have GW654 := gW hg; have GE654 := gW hg; have NB647_654 := nL hg BK647; have NB654_647 := nG hg BK647; replace HO652 := rbl HO652 hb; replace BK647 := bb BK647 hb; replace HB := bS hb; clear hb hbox hg; have hnb58 := NB654_647.out; have hnc58 := NB647_654.out; obtain ⟨hcz59_0, hcz59_1, hcz59_2, hfz59_0, hfz59_1, hfz59_2⟩ := cEc BK654.out; obtain ⟨Ao60, co60, eo60⟩ := Kd.R_slice HO652.out; subst eo60; have p655 : 0 <= (0 : Int) := (by omega); have q655 : 0 < (t650.length : Int) := of_decide_eq_true pQ; obtain ⟨ad655, e655, hx655_0⟩ := Kd.at_int (Kd.R_reads' HO652.out).2.2 0 p655 q655; cases e655; have qi655 : (0 < t650.length) = True := eq_true (by omega); (try rw [show ((0 : Int)).toNat = 0 from rfl] at hx655_0); (try rw [Addr.add_zero'] at hx655_0); have hn655_0 : ad655.block ≠ gb654 := Kd.own_blk (Kd.R_ne HO652.out BK654.out (by decide)); have hn655_1 : ad655.block ≠ gb654 := Kd.own_blk (Kd.R_ne HO652.out BK654.out (by decide)); have hn655_2 : ad655.block ≠ gb654 := Kd.own_blk (Kd.R_ne HO652.out BK654.out (by decide)); replace hx655_0 := (cell_far (p := ⟨gb654, 0, none⟩) (by first | (rw [add_block]; exact hn655_0) | (show (Addr.add _ _).block ≠ _; rw [add_block]; exact hn655_0) | exact hn655_0) (.bool t649)).trans hx655_0; replace hx655_0 := (cell_far (p := ⟨gb654, 1, none⟩) (by first | (rw [add_block]; exact hn655_1) | (show (Addr.add _ _).block ≠ _; rw [add_block]; exact hn655_1) | exact hn655_1) (.slice (some ad655) t650.length co60)).trans hx655_0; replace hx655_0 := (cell_far (p := ⟨gb654, 2, none⟩) (by first | (rw [add_block]; exact hn655_2) | (show (Addr.add _ _).block ≠ _; rw [add_block]; exact hn655_2) | exact hn655_2) (.int .i64 t653)).trans hx655_0; clear hn655_0 hn655_1 hn655_2; replace p655 := eq_true p655; replace q655 := eq_true q655; obtain ⟨hcz61_0, hcz61_1, hcz61_2, hfz61_0, hfz61_1, hfz61_2⟩ := cEc BK647.out))
          go_ret
          exact ⟨pE, pB⟩
     ·rw [if_neg c24] at H
      exact absurd H (by simp)
def bolterref02_checks.f (k : Nat) (a0_0 : Bool) (l0_1 : List Int) (a0_2 : Int) (a1_0 : Bool) (l1_1 : List Int) (a1_2 : Int) : Option (Int) := (bolterref02_Check.f k a0_0 l0_1 a0_2).bind fun t658 => (if t658 = 0 then ((bolterref02_Check.f k a1_0 l1_1 a1_2).bind fun t659 => (if t659 = 0 then (some 0) else (some 9))) else (some 9))
theorem bolterref02_checks.calls (k : Nat) (a0_0 : Bool) (A0_1 : Option Addr) (c0_1 : Nat) (l0_1 : List Int) (a0_2 : Int) (a1_0 : Bool) (A1_1 : Option Addr) (c1_1 : Nat) (l1_1 : List Int) (a1_2 : Int) (r : Int) (w : World) (hr0_1 : Kd.C (Kd.int .u32) w A0_1 l0_1.length l0_1) (hc0_1 : l0_1.length <= c0_1) (hr1_1 : Kd.C (Kd.int .u32) w A1_1 l1_1.length l1_1) (hc1_1 : l1_1.length <= c1_1) (h : bolterref02_checks.f k a0_0 l0_1 a0_2 a1_0 l1_1 a1_2 = some r) :
  Calls Tryz.prog 64 #[.agg #[.bool a0_0, .slice A0_1 l0_1.length c0_1, .int .i64 a0_2], .agg #[.bool a1_0, .slice A1_1 l1_1.length c1_1, .int .i64 a1_2]] w fun e w' => e = .returned (.int .i64 r) /\ Below w.heap.size w w' := by
 have hu24 := Tryz.underlying24
 have HR0_1 := am hr0_1
 have HC0_1 := am hc0_1
 clear hr0_1 hc0_1
 have HR1_1 := am hr1_1
 have HC1_1 := am hc1_1
 clear hr1_1 hc1_1
 have HB := am (Below.refl w.heap.size w)
 have H : ((bolterref02_Check.f k a0_0 l0_1 a0_2).bind fun t658 => (if t658 = 0 then ((bolterref02_Check.f k a1_0 l1_1 a1_2).bind fun t659 => (if t659 = 0 then (some 0) else (some 9))) else (some 9))) = some r := h
 clear h
 obtain ⟨t658, A3, H⟩ := ob H
 by_cases c4 : t658 = 0
 ·rw [if_pos c4] at H
  have c4b0 : (t658 == 0) = true := beq_iff_eq.mpr c4
  have c4b1 : (t658 != 0) = false := bne_eq_false_iff_eq.mpr c4
  clear c4
  obtain ⟨t659, A5, H⟩ := ob H
  by_cases c6 : t659 = 0
  ·rw [if_pos c6] at H
   have c6b0 : (t659 == 0) = true := beq_iff_eq.mpr c6
   have c6b1 : (t659 != 0) = false := bne_eq_false_iff_eq.mpr c6
   clear c6
   obtain rfl := Option.some.inj H
   go_enter Tryz.func64, Tryz.ntmps64
   go_wp2_with (first | ((with_reducible refine gd 2 ?_); refine bx 2 #[.bool a0_0, .slice A0_1 l0_1.length c0_1, .int .i64 a0_2] 24 (h := ?_); intro gb656 hg w7 hbox hb; have BK656 := am hbox; have GW656 := gW hg; have GE656 := gW hg; replace HB := bS hb; clear hb hbox hg) | ((with_reducible refine gd 3 ?_); refine bx 3 #[.bool a1_0, .slice A1_1 l1_1.length c1_1, .int .i64 a1_2] 24 (h := ?_); intro gb657 hg w8 hbox hb; have BK657 := am hbox; have GW657 := gW hg; have GE657 := gW hg; have NB656_657 := nL hg BK656; have NB657_656 := nG hg BK656; replace BK656 := bb BK656 hb; replace HB := bS hb; clear hb hbox hg; have hnb9 := NB656_657.out; have hnc9 := NB657_656.out; obtain ⟨hcz10_0, hcz10_1, hcz10_2, hfz10_0, hfz10_1, hfz10_2⟩ := cEc BK656.out) | (refine gL (some 6) Tryz.func33 #[.agg #[.bool a0_0, .slice A0_1 l0_1.length c0_1, .int .i64 a0_2]] (h := ?_); (with_reducible refine (bolterref02_Check.calls k a0_0 _ _ l0_1 a0_2 t658 _ ?side1 ?side2 A3.out).mono ?_); (case side1 => refine cp ?_; exact (Kd.C_below HR0_1.out HB.out)); (case side2 => exact HC0_1.out); rintro e w11 ⟨rfl, hb⟩; refine ⟨_, rfl, ?_⟩; replace BK656 := bb BK656 hb; replace BK657 := bb BK657 hb; replace HB := bS hb; obtain ⟨hcz12_0, hcz12_1, hcz12_2, hfz12_0, hfz12_1, hfz12_2⟩ := cEc BK657.out) | (go_at_call 33; (with_reducible refine (bolterref02_Check.calls k a1_0 _ _ l1_1 a1_2 t659 _ ?side1 ?side2 A5.out).mono ?_); (case side1 => refine cp ?_; exact (Kd.C_below HR1_1.out HB.out)); (case side2 => exact HC1_1.out); rintro e w13 ⟨rfl, hb⟩; replace BK656 := bb BK656 hb; replace BK657 := bb BK657 hb; replace HB := bS hb))
   go_ret
   exact ⟨pE, pB⟩
  ·rw [if_neg c6] at H
   have c6b0 : (t659 == 0) = false := beq_eq_false_iff_ne.mpr c6
   have c6b1 : (t659 != 0) = true := bne_iff_ne.mpr c6
   obtain rfl := Option.some.inj H
   go_enter Tryz.func64, Tryz.ntmps64
   go_wp2_with (first | ((with_reducible refine gd 2 ?_); refine bx 2 #[.bool a0_0, .slice A0_1 l0_1.length c0_1, .int .i64 a0_2] 24 (h := ?_); intro gb656 hg w14 hbox hb; have BK656 := am hbox; have GW656 := gW hg; have GE656 := gW hg; replace HB := bS hb; clear hb hbox hg) | ((with_reducible refine gd 3 ?_); refine bx 3 #[.bool a1_0, .slice A1_1 l1_1.length c1_1, .int .i64 a1_2] 24 (h := ?_); intro gb657 hg w15 hbox hb; have BK657 := am hbox; have GW657 := gW hg; have GE657 := gW hg; have NB656_657 := nL hg BK656; have NB657_656 := nG hg BK656; replace BK656 := bb BK656 hb; replace HB := bS hb; clear hb hbox hg; have hnb16 := NB656_657.out; have hnc16 := NB657_656.out; obtain ⟨hcz17_0, hcz17_1, hcz17_2, hfz17_0, hfz17_1, hfz17_2⟩ := cEc BK656.out) | (refine gL (some 6) Tryz.func33 #[.agg #[.bool a0_0, .slice A0_1 l0_1.length c0_1, .int .i64 a0_2]] (h := ?_); (with_reducible refine (bolterref02_Check.calls k a0_0 _ _ l0_1 a0_2 t658 _ ?side1 ?side2 A3.out).mono ?_); (case side1 => refine cp ?_; exact (Kd.C_below HR0_1.out HB.out)); (case side2 => exact HC0_1.out); rintro e w18 ⟨rfl, hb⟩; refine ⟨_, rfl, ?_⟩; replace BK656 := bb BK656 hb; replace BK657 := bb BK657 hb; replace HB := bS hb; obtain ⟨hcz19_0, hcz19_1, hcz19_2, hfz19_0, hfz19_1, hfz19_2⟩ := cEc BK657.out) | (go_at_call 33; (with_reducible refine (bolterref02_Check.calls k a1_0 _ _ l1_1 a1_2 t659 _ ?side1 ?side2 A5.out).mono ?_); (case side1 => refine cp ?_; exact (Kd.C_below HR1_1.out HB.out)); (case side2 => exact HC1_1.out); rintro e w20 ⟨rfl, hb⟩; replace BK656 := bb BK656 hb; replace BK657 := bb BK657 hb; replace HB := bS hb))
   go_ret
   exact ⟨pE, pB⟩
 ·rw [if_neg c4] at H
  have c4b0 : (t658 == 0) = false := beq_eq_false_iff_ne.mpr c4
  have c4b1 : (t658 != 0) = true := bne_iff_ne.mpr c4
  obtain rfl := Option.some.inj H
  go_enter Tryz.func64, Tryz.ntmps64
  go_wp2_with (first | ((with_reducible refine gd 2 ?_); refine bx 2 #[.bool a0_0, .slice A0_1 l0_1.length c0_1, .int .i64 a0_2] 24 (h := ?_); intro gb656 hg w21 hbox hb; have BK656 := am hbox; have GW656 := gW hg; have GE656 := gW hg; replace HB := bS hb; clear hb hbox hg) | ((with_reducible refine gd 3 ?_); refine bx 3 #[.bool a1_0, .slice A1_1 l1_1.length c1_1, .int .i64 a1_2] 24 (h := ?_); intro gb657 hg w22 hbox hb; have BK657 := am hbox; have GW657 := gW hg; have GE657 := gW hg; have NB656_657 := nL hg BK656; have NB657_656 := nG hg BK656; replace BK656 := bb BK656 hb; replace HB := bS hb; clear hb hbox hg; have hnb23 := NB656_657.out; have hnc23 := NB657_656.out; obtain ⟨hcz24_0, hcz24_1, hcz24_2, hfz24_0, hfz24_1, hfz24_2⟩ := cEc BK656.out) | (refine gL (some 6) Tryz.func33 #[.agg #[.bool a0_0, .slice A0_1 l0_1.length c0_1, .int .i64 a0_2]] (h := ?_); (with_reducible refine (bolterref02_Check.calls k a0_0 _ _ l0_1 a0_2 t658 _ ?side1 ?side2 A3.out).mono ?_); (case side1 => refine cp ?_; exact (Kd.C_below HR0_1.out HB.out)); (case side2 => exact HC0_1.out); rintro e w25 ⟨rfl, hb⟩; refine ⟨_, rfl, ?_⟩; replace BK656 := bb BK656 hb; replace BK657 := bb BK657 hb; replace HB := bS hb))
  go_ret
  exact ⟨pE, pB⟩
end YtjbjkmccfocikaaGreatDoor.B
end
section
namespace YtjbjkmccfocikaaGreatDoor.B
open Go.RowKit YtjbjkmccfocikaaGreatDoorW.PrintWords YtjbjkmccfocikaaGreatDoorW.PrintMore YtjbjkmccfocikaaGreatDoorW.PrintLast
section
variable {P : Program} {ops : Array Oper} {Q : Exit -> Act -> World -> Prop} {md : Region.Mode} {S : World -> Prop} {ds : List Nat}
def blkOf : Value -> Option Nat
 | .pointer (some p) => some p.block
 | .agg cs => match cs[1]? with | some v => v.ownBlock | none => none
 | _ => none
structure Mk where
 i : Nat
 N : Tmp
 R : Value -> World -> Prop
def okM (md : Region.Mode) (ops : Array Oper) (ds is : List Nat) (lf : Array Bool) : Nat -> Array Bool -> Bool
 | 0, l => l == lf && is.all (fun i => l.getD i false)
 | n + 1, l => (Region.ready md ops l != []) && (Region.ready md ops l).all fun i => is.contains i && (!ds.contains i && (l.getD i true == false && okM md ops ds is lf n (l.setIfInBounds i true)))
def fillF (a : Act) : List Tmp -> (Tmp -> Value) -> Act
 | [], _ => a
 | n :: ns, f => fillF (a.put (some n) (f n)) ns f
def upd (f : Tmp -> Value) (n : Tmp) (v : Value) : Tmp -> Value := fun m => if m = n then v else f m
theorem put_comm (a : Act) {n m : Tmp} (h : n ≠ m) (x y : Value) : (a.put (some n) x).put (some m) y = (a.put (some m) y).put (some n) x := by
 simp only [Act.put]
 rw [Array.setIfInBounds_comm _ _ h]
theorem put_twice (a : Act) (n : Tmp) (x y : Value) : (a.put (some n) x).put (some n) y = a.put (some n) y := by
 simp only [Act.put, Array.setIfInBounds_setIfInBounds]
theorem fill_put : ∀ (ns : List Tmp) (a : Act) (f : Tmp -> Value) (n : Tmp) (v : Value), n ∉ ns -> (fillF a ns f).put (some n) v = fillF (a.put (some n) v) ns f
 | [], _, _, _, _, _ => rfl
 | m :: ns, a, f, n, v, h => by
  have h1 : n ≠ m := fun e => h (e ▸ List.mem_cons_self)
  rw [fillF, fillF, fill_put ns _ f n v (fun e => h (List.mem_cons_of_mem _ e)), put_comm a (Ne.symm h1)]
theorem fill_upd_no : ∀ (ns : List Tmp) (a : Act) (f : Tmp -> Value) (n : Tmp) (v : Value), n ∉ ns -> fillF a ns (upd f n v) = fillF a ns f
 | [], _, _, _, _, _ => rfl
 | m :: ns, a, f, n, v, h => by
  have h1 : m ≠ n := fun e => h (e ▸ List.mem_cons_self)
  rw [fillF, fillF, fill_upd_no ns _ f n v (fun e => h (List.mem_cons_of_mem _ e))]
  simp only [upd, if_neg h1]
theorem fill_upd : ∀ (ns : List Tmp) (a : Act) (f : Tmp -> Value) (n : Tmp) (v : Value), ns.Nodup -> n ∈ ns -> (fillF a ns f).put (some n) v = fillF a ns (upd f n v)
 | [], _, _, _, _, _, h => by cases h
 | m :: ns, a, f, n, v, hd, h => by
  have hd' := List.nodup_cons.1 hd
  by_cases e : m = n
  ·subst e
   rw [fillF, fillF, fill_put ns _ f m v hd'.1, fill_upd_no ns _ f m v hd'.1, put_twice]
   simp only [upd, if_true]
  ·have hn : n ∈ ns := (List.mem_cons.1 h).resolve_left (Ne.symm e)
   rw [fillF, fillF, fill_upd ns _ f n v hd'.2 hn]
   simp only [upd, if_neg e]
theorem pair_or {r : Mk -> Mk -> Prop} (hs : ∀ x y, r x y -> r y x) : ∀ {l : List Mk}, l.Pairwise r -> ∀ m ∈ l, ∀ m' ∈ l, m = m' \/ r m m'
 | [], _, m, h, _, _ => by cases h
 | x :: l, h, m, hm, m', hm' => by
  obtain ⟨h1, h2⟩ := List.pairwise_cons.1 h
  rcases List.mem_cons.1 hm with rfl | q1 <;> rcases List.mem_cons.1 hm' with rfl | q2
  ·exact .inl rfl
  ·exact .inr (h1 _ q2)
  ·exact .inr (hs _ _ (h1 _ q1))
  ·exact pair_or hs h2 m q1 m' q2
theorem makers (ms : List Mk) (a : Act) (J : World -> Prop) (lf : Array Bool) (fuel : Nat)
  (hp : ms.Pairwise (fun m m' => m.N ≠ m'.N /\ m.i ≠ m'.i))
  (hJ : ∀ w w', J w -> Below w.heap.size w w' -> J w') (hJS : ∀ w, J w -> S w)
  (hR : ∀ m ∈ ms, ∀ v w w', m.R v w -> Below w.heap.size w w' -> m.R v w')
  (hlt : ∀ m ∈ ms, ∀ v w, m.R v w -> ∀ g, blkOf v = some g -> g < w.heap.size)
  (hstep : ∀ m ∈ ms, ∃ o, ops[m.i]? = some o /\ ∀ (f : Tmp -> Value) w, J w -> ∀ K : Act -> World -> Prop, (∀ v w', m.R v w' -> Below w.heap.size w w' -> (∀ g, blkOf v = some g -> w.heap.size <= g) -> K ((fillF a (ms.map Mk.N) f).put (some m.N) v) w') ->
   if Region.wanted o (yielded ops (fillF a (ms.map Mk.N) f).tmps) = true then Oper.wp P o (fillF a (ms.map Mk.N) f) w K Q else K ((fillF a (ms.map Mk.N) f).put o.dst undef) w)
  (hcont : ∀ (f : Tmp -> Value) w, J w -> (∀ m ∈ ms, m.R (f m.N) w) -> (∀ m ∈ ms, ∀ m' ∈ ms, m.N ≠ m'.N -> ∀ g, blkOf (f m.N) = some g -> blkOf (f m'.N) ≠ some g) -> wpAnyLast P md ops Q S ds fuel lf (fillF a (ms.map Mk.N) f) w) :
  ∀ (n : Nat) (l : Array Bool) (f : Tmp -> Value) (w : World), okM md ops ds (ms.map Mk.i) lf n l = true -> J w -> (∀ m ∈ ms, l.getD m.i true = true -> m.R (f m.N) w) ->
   (∀ m ∈ ms, ∀ m' ∈ ms, m.N ≠ m'.N -> l.getD m.i true = true -> l.getD m'.i true = true -> ∀ g, blkOf (f m.N) = some g -> blkOf (f m'.N) ≠ some g) -> wpAnyLast P md ops Q S ds (fuel + n) l (fillF a (ms.map Mk.N) f) w
 | 0, l, f, w, hk, hj, hr, hx => by
  simp only [okM, Bool.and_eq_true, beq_iff_eq, List.all_eq_true] at hk
  obtain ⟨rfl, hk⟩ := hk
  have hd : ∀ m ∈ ms, l.getD m.i true = true := fun m hm => by
   have h1 := hk m.i (List.mem_map_of_mem hm)
   rcases Nat.lt_or_ge m.i l.size with h' | h'
   ·simp [h'] at h1 ⊢; exact h1
   ·simp [Array.getElem?_eq_none h'] at h1
  exact hcont f w hj (fun m hm => hr m hm (hd m hm)) (fun m hm m' hm' hn => hx m hm m' hm' hn (hd m hm) (hd m' hm'))
 | n + 1, l, f, w, hk, hj, hr, hx => by
  simp only [okM, Bool.and_eq_true, bne_iff_ne, List.all_eq_true] at hk
  obtain ⟨hne, hk⟩ := hk
  refine wpAnyLast_all rfl hne (fun i hi => ?_)
  have h1 := hk i hi
  simp only [Bool.not_eq_true', List.contains_iff_mem, beq_iff_eq] at h1
  obtain ⟨h2, h3, h4, h5⟩ := h1
  obtain ⟨m, hm, rfl⟩ := List.mem_map.1 h2
  obtain ⟨o, ho, hst⟩ := hstep m hm
  have hnd : (ms.map Mk.N).Nodup := by
   unfold List.Nodup
   rw [List.pairwise_map]
   exact hp.imp (fun h => h.1)
  have hor := pair_or (fun x y h => ⟨h.1.symm, h.2.symm⟩) hp
  refine wpOp_step ho (fun K' hK => hst f w hj K' (fun v w' hv hb hf => hK _ w' ⟨fun _ _ => hJS w' (hJ w w' hj hb), ?_⟩))
  rw [fill_upd _ _ _ _ _ hnd (List.mem_map_of_mem hm)]
  have hold : ∀ m' ∈ ms, m' ≠ m -> upd f m.N v m'.N = f m'.N /\ ∀ b, (l.setIfInBounds m.i true).getD m'.i b = l.getD m'.i b := fun m' hm' hne => by
   rcases hor m' hm' m hm with e | e
   ·exact absurd e hne
   ·exact ⟨by simp only [upd, if_neg e.1], fun b => getD_set_ne b (Ne.symm e.2)⟩
  have hnew : upd f m.N v m.N = v := by simp only [upd, if_true]
  refine makers ms a J lf fuel hp hJ hJS hR hlt hstep hcont n _ _ w' h5 (hJ w w' hj hb) (fun m' hm' hd => ?_) (fun m1 hm1 m2 hm2 hn hd1 hd2 g hg => ?_)
  ·by_cases e : m' = m
   ·subst e; rw [hnew]; exact hv
   ·obtain ⟨e1, e2⟩ := hold m' hm' e
    rw [e1]; rw [e2] at hd
    exact hR m' hm' _ w w' (hr m' hm' hd) hb
  ·by_cases e1 : m1 = m
   ·subst e1
    have e2 : m2 ≠ m1 := fun e => hn (by rw [e])
    obtain ⟨f2, l2⟩ := hold m2 hm2 e2
    rw [hnew] at hg; rw [f2]; rw [l2] at hd2
    intro hg2
    have := hlt m2 hm2 _ w (hr m2 hm2 hd2) g hg2
    have := hf g hg
    omega
   ·obtain ⟨f1, l1⟩ := hold m1 hm1 e1
    rw [f1] at hg; rw [l1] at hd1
    by_cases e2 : m2 = m
    ·subst e2
     rw [hnew]
     intro hg2
     have := hlt m1 hm1 _ w (hr m1 hm1 hd1) g hg
     have := hf g hg2
     omega
    ·obtain ⟨f2, l2⟩ := hold m2 hm2 e2
     rw [f2]; rw [l2] at hd2
     exact hx m1 hm1 m2 hm2 hn hd1 hd2 g hg
theorem put_self (a : Act) (n : Tmp) : a.put (some n) (a.tmps.getD n undef) = a := by
 obtain ⟨t, d⟩ := a
 simp only [Act.put]
 congr 1
 rcases Nat.lt_or_ge n t.size with h | h
 ·simp [Array.setIfInBounds, h]
 ·simp [Array.setIfInBounds, Nat.not_lt.2 h]
theorem fill_self : ∀ (ns : List Tmp) (a : Act), fillF a ns (fun n => a.tmps.getD n undef) = a
 | [], _ => rfl
 | n :: ns, a => by
  rw [fillF, put_self]
  exact fill_self ns a
theorem R_free {ik : IntKind} {e : Nat} {w : World} {base : Nat} {ok : Nat -> Prop} {v : Value} {xs : List Int} (h : Kd.R (Kd.int ik) e w base ok v xs) : Kd.R (Kd.int ik) e w base (fun _ => True) v xs := Kd.R_mono h (fun _ _ => trivial)
theorem R_ok {ik : IntKind} {e : Nat} {w : World} {base : Nat} {ok ok' : Nat -> Prop} {v : Value} {xs : List Int} (h : Kd.R (Kd.int ik) e w base ok v xs) (ho : ∀ k, v.ownBlock = some k -> ok' k) : Kd.R (Kd.int ik) e w base ok' v xs :=
 ⟨ho, h.2.imp_ (fun _ _ hp => hp)⟩
theorem pair2 {a : Act} {w0 : World} {lf l : Array Bool} {fuel : Nat} (i1 i3 i4 i5 : Nat) (N1 N3 N4 N5 : Tmp) (base : Nat) {ik1 ik3 : IntKind} {e1 e3 : Nat} {xs1 xs3 : List Int} (b1 n1 b3 n3 : Value) (Z : Array Value) (t : TypeId)
  {o1 o3 o4 o5 : Oper} (hb0 : base <= w0.heap.size) (hS : ∀ w', Below w0.heap.size w0 w' -> S w')
  (h1 : ∀ (f : Tmp -> Value) w', Below w0.heap.size w0 w' -> ∀ K : Act -> World -> Prop, (∀ u w'' ok, Kd.R (Kd.int ik1) e1 w'' w'.heap.size ok u xs1 -> Below w'.heap.size w' w'' -> K ((fillF a [N1, N3, N4, N5] f).put (some N1) (.agg #[b1, u, n1])) w'') ->
   if Region.wanted o1 (yielded ops (fillF a [N1, N3, N4, N5] f).tmps) = true then Oper.wp P o1 (fillF a [N1, N3, N4, N5] f) w' K Q else K ((fillF a [N1, N3, N4, N5] f).put (some N1) undef) w')
  (h3 : ∀ (f : Tmp -> Value) w', Below w0.heap.size w0 w' -> ∀ K : Act -> World -> Prop, (∀ u w'' ok, Kd.R (Kd.int ik3) e3 w'' w'.heap.size ok u xs3 -> Below w'.heap.size w' w'' -> K ((fillF a [N1, N3, N4, N5] f).put (some N3) (.agg #[b3, u, n3])) w'') ->
   if Region.wanted o3 (yielded ops (fillF a [N1, N3, N4, N5] f).tmps) = true then Oper.wp P o3 (fillF a [N1, N3, N4, N5] f) w' K Q else K ((fillF a [N1, N3, N4, N5] f).put (some N3) undef) w')
  (hcont : ∀ u1 u3 g4 g5 w', Below w0.heap.size w0 w' -> Kd.R (Kd.int ik1) e1 w' base (fun k => some k ≠ u3.ownBlock) u1 xs1 -> Kd.R (Kd.int ik3) e3 w' base (fun k => some k ≠ u1.ownBlock) u3 xs3 ->
   w'.heap[g4]? = some (.cells Z t (0, 0)) -> w'.heap[g5]? = some (.cells Z t (0, 0)) -> w0.heap.size <= g4 -> w0.heap.size <= g5 -> g4 ≠ g5 ->
   wpAnyLast P md ops Q S ds fuel lf (putAll a [(N1, .agg #[b1, u1, n1]), (N3, .agg #[b3, u3, n3]), (N4, .pointer (some ⟨g4, 0, none⟩)), (N5, .pointer (some ⟨g5, 0, none⟩))]) w')
  (q1 : ops[i1]? = some o1 := by rfl) (q3 : ops[i3]? = some o3 := by rfl) (q4 : ops[i4]? = some o4 := by rfl) (q5 : ops[i5]? = some o5 := by rfl)
  (d1 : o1.dst = some N1 := by rfl) (d3 : o3.dst = some N3 := by rfl) (d4 : o4.dst = some N4 := by rfl) (d5 : o5.dst = some N5 := by rfl)
  (hw4 : ∀ y, Region.wanted o4 y = true := by intro y; rfl) (hw5 : ∀ y, Region.wanted o5 y = true := by intro y; rfl)
  (hr4 : ∀ (a : Act) (w : World), (execOp a.eval o4).run P w = .ok (.value (.pointer (some ⟨w.heap.size, 0, none⟩))) (w.alloc (.cells Z t (0, 0))) := by intro a w; first | (go_simp; done) | (go_simp; rfl))
  (hr5 : ∀ (a : Act) (w : World), (execOp a.eval o5).run P w = .ok (.value (.pointer (some ⟨w.heap.size, 0, none⟩))) (w.alloc (.cells Z t (0, 0))) := by intro a w; first | (go_simp; done) | (go_simp; rfl))
  (hn : ((N1 != N3 && N1 != N4 && N1 != N5 && N3 != N4 && N3 != N5 && N4 != N5) && (i1 != i3 && i1 != i4 && i1 != i5 && i3 != i4 && i3 != i5 && i4 != i5)) = true := by rfl)
  (hck : (okM md ops ds [i1, i3, i4, i5] lf 4 l && (l.getD i1 true == false && (l.getD i3 true == false && (l.getD i4 true == false && l.getD i5 true == false)))) = true := by kernel_rfl) :
  wpAnyLast P md ops Q S ds (fuel + 4) l a w0 := by
 simp only [Bool.and_eq_true, beq_iff_eq, bne_iff_ne, ne_eq] at hck hn
 obtain ⟨hck, c1, c3, c4, c5⟩ := hck
 obtain ⟨⟨⟨⟨⟨⟨m1, m2⟩, m3⟩, m4⟩, m5⟩, m6⟩, ⟨⟨⟨⟨j1, j2⟩, j3⟩, j4⟩, j5⟩, j6⟩ := hn
 have bstep : ∀ (o : Oper) (N : Tmp), o.dst = some N -> (∀ y, Region.wanted o y = true) -> (∀ (a : Act) (w : World), (execOp a.eval o).run P w = .ok (.value (.pointer (some ⟨w.heap.size, 0, none⟩))) (w.alloc (.cells Z t (0, 0)))) ->
   ∀ (a' : Act) (w : World), Below w0.heap.size w0 w -> ∀ K : Act -> World -> Prop, (∀ v w', (∃ g, v = Value.pointer (some ⟨g, 0, none⟩) /\ w'.heap[g]? = some (.cells Z t (0, 0)) /\ w0.heap.size <= g) -> Below w.heap.size w w' -> (∀ g, blkOf v = some g -> w.heap.size <= g) -> K (a'.put (some N) v) w') ->
   if Region.wanted o (yielded ops a'.tmps) = true then Oper.wp P o a' w K Q else K (a'.put o.dst undef) w := by
  intro o N hd hw hr a' w hb K hK
  refine box_step (hw _) hd (hr a' w) (fun g hg w1 hbox hb1 => ?_)
  rw [hd]
  subst hg
  exact hK _ w1 ⟨_, rfl, hbox, (below_size hb)⟩ hb1 (fun g hg => by simp only [blkOf, Option.some.injEq] at hg; omega)
 have key := makers (P := P) (ops := ops) (Q := Q) (md := md) (S := S) (ds := ds)
  [⟨i1, N1, fun v w' => ∃ u, v = .agg #[b1, u, n1] /\ Kd.R (Kd.int ik1) e1 w' base (fun _ => True) u xs1⟩, ⟨i3, N3, fun v w' => ∃ u, v = .agg #[b3, u, n3] /\ Kd.R (Kd.int ik3) e3 w' base (fun _ => True) u xs3⟩,
   ⟨i4, N4, fun v w' => ∃ g, v = .pointer (some ⟨g, 0, none⟩) /\ w'.heap[g]? = some (.cells Z t (0, 0)) /\ w0.heap.size <= g⟩, ⟨i5, N5, fun v w' => ∃ g, v = .pointer (some ⟨g, 0, none⟩) /\ w'.heap[g]? = some (.cells Z t (0, 0)) /\ w0.heap.size <= g⟩]
  a (fun w' => Below w0.heap.size w0 w') lf fuel
  (by simp [m1, m2, m3, m4, m5, m6, j1, j2, j3, j4, j5, j6])
  (fun w w' h hb => below_step h hb) hS
  (by
   intro m hm v w w' hv hb
   simp only [List.mem_cons, List.not_mem_nil, or_false] at hm
   rcases hm with rfl | rfl | rfl | rfl
   ·obtain ⟨u, rfl, h⟩ := hv; exact ⟨u, rfl, Kd.R_below h hb⟩
   ·obtain ⟨u, rfl, h⟩ := hv; exact ⟨u, rfl, Kd.R_below h hb⟩
   ·obtain ⟨g, rfl, h, h2⟩ := hv; exact ⟨g, rfl, blk_below h hb, h2⟩
   ·obtain ⟨g, rfl, h, h2⟩ := hv; exact ⟨g, rfl, blk_below h hb, h2⟩)
  (by
   intro m hm v w hv g hg
   simp only [List.mem_cons, List.not_mem_nil, or_false] at hm
   rcases hm with rfl | rfl | rfl | rfl
   ·obtain ⟨u, rfl, h⟩ := hv; exact Kd.R_lt h g (by simpa [blkOf] using hg)
   ·obtain ⟨u, rfl, h⟩ := hv; exact Kd.R_lt h g (by simpa [blkOf] using hg)
   ·obtain ⟨g', rfl, h, h2⟩ := hv
    obtain rfl : g' = g := by simpa [blkOf] using hg
    exact blk_lt h
   ·obtain ⟨g', rfl, h, h2⟩ := hv
    obtain rfl : g' = g := by simpa [blkOf] using hg
    exact blk_lt h)
  (by
   intro m hm
   simp only [List.mem_cons, List.not_mem_nil, or_false] at hm
   rcases hm with rfl | rfl | rfl | rfl
   ·refine ⟨o1, q1, fun f w hb K hK => ?_⟩
    rw [d1]
    exact h1 f w hb K (fun u w'' ok hr hb2 => hK _ w'' ⟨u, rfl, R_free (Kd.R_lower hr (Nat.le_trans hb0 (below_size hb)))⟩ hb2 (fun g hg => Kd.R_base hr g (by simpa [blkOf] using hg)))
   ·refine ⟨o3, q3, fun f w hb K hK => ?_⟩
    rw [d3]
    exact h3 f w hb K (fun u w'' ok hr hb2 => hK _ w'' ⟨u, rfl, R_free (Kd.R_lower hr (Nat.le_trans hb0 (below_size hb)))⟩ hb2 (fun g hg => Kd.R_base hr g (by simpa [blkOf] using hg)))
   ·exact ⟨o4, q4, fun f w hb K hK => bstep o4 N4 d4 hw4 hr4 _ w hb K hK⟩
   ·exact ⟨o5, q5, fun f w hb K hK => bstep o5 N5 d5 hw5 hr5 _ w hb K hK⟩)
  (by
   intro f w hb hR hX
   obtain ⟨u1, e1', r1⟩ := hR _ List.mem_cons_self
   obtain ⟨u3, e3', r3⟩ := hR _ (List.mem_cons_of_mem _ List.mem_cons_self)
   obtain ⟨g4, e4', b4, s4⟩ := hR _ (List.mem_cons_of_mem _ (List.mem_cons_of_mem _ List.mem_cons_self))
   obtain ⟨g5, e5', b5, s5⟩ := hR _ (List.mem_cons_of_mem _ (List.mem_cons_of_mem _ (List.mem_cons_of_mem _ List.mem_cons_self)))
   have x13 := hX _ List.mem_cons_self _ (List.mem_cons_of_mem _ List.mem_cons_self) m1
   have x45 := hX _ (List.mem_cons_of_mem _ (List.mem_cons_of_mem _ List.mem_cons_self)) _ (List.mem_cons_of_mem _ (List.mem_cons_of_mem _ (List.mem_cons_of_mem _ List.mem_cons_self))) m6
   dsimp only at e1' e3' e4' e5' x13 x45
   rw [e1', e3'] at x13
   rw [e4', e5'] at x45
   have := hcont u1 u3 g4 g5 w hb (R_ok r1 (fun k hk he => x13 k (by simpa [blkOf] using hk) (by simpa [blkOf] using he.symm))) (R_ok r3 (fun k hk he => x13 k (by simpa [blkOf] using he.symm) (by simpa [blkOf] using hk))) b4 b5 s4 s5
    (fun he => x45 g4 (by simp [blkOf]) (by simp [blkOf, he]))
   simp only [List.map_cons, List.map_nil, fillF, e1', e3', e4', e5']
   exact this)
  4 l (fun n => a.tmps.getD n undef) w0 hck (Below.refl _ _)
  (by
   intro m hm hd
   simp only [List.mem_cons, List.not_mem_nil, or_false] at hm
   rcases hm with rfl | rfl | rfl | rfl
   ·rw [c1] at hd; cases hd
   ·rw [c3] at hd; cases hd
   ·rw [c4] at hd; cases hd
   ·rw [c5] at hd; cases hd)
  (by
   intro m hm m' hm' hne hd
   simp only [List.mem_cons, List.not_mem_nil, or_false] at hm
   rcases hm with rfl | rfl | rfl | rfl
   ·rw [c1] at hd; cases hd
   ·rw [c3] at hd; cases hd
   ·rw [c4] at hd; cases hd
   ·rw [c5] at hd; cases hd)
 rw [fill_self] at key
 exact key
theorem nW {w0 : World} {k g : Nat} {o : Obj} (h : Aside0 (w0.heap[k]? = some o)) (m : w0.heap.size <= g) : k ≠ g := Nat.ne_of_lt (Nat.lt_of_lt_of_le (blk_lt h.out) m)
theorem nV {w0 : World} {k g : Nat} {o : Obj} (h : Aside0 (w0.heap[k]? = some o)) (m : w0.heap.size <= g) : g ≠ k := Ne.symm (nW h m)
end
end YtjbjkmccfocikaaGreatDoor.B
end
section
namespace YtjbjkmccfocikaaGreatDoor.B
open Go.RowKit YtjbjkmccfocikaaGreatDoorW.PrintWords YtjbjkmccfocikaaGreatDoorW.PrintLast YtjbjkmccfocikaaGreatDoorW.PrintMore
attribute [local go_sem] max2_int min2_int max_two min_two max_three min_three max_four min_four
def bolterref02_Mul.f (k : Nat) (a0_0 : Bool) (l0_1 : List Int) (a0_2 : Int) (a1_0 : Bool) (l1_1 : List Int) (a1_2 : Int) : Option (Bool × List Int × Int × Int) := (bolterref02_checks.f k a0_0 l0_1 a0_2 a1_0 l1_1 a1_2).bind fun t673 => (if t673 = 0 then ((bolterref02_Of.f k a0_0 l0_1 a0_2).bind fun bt674 => ((bolterref02_Of.f k a1_0 l1_1 a1_2).bind fun bt679 => ((bolterref01_Product.f k bt674.2.1 bt679.2.1).bind fun t686 => ((bolterref02_Made.f k (bt674.1 != bt679.1) t686 (wrap64 (bt674.2.2 + bt679.2.2))).bind fun bt689 => (some (bt689.1, bt689.2.1, bt689.2.2.1, bt689.2.2.2)))))) else (some (false, ([] : List Int), 0, 9)))
def bolterref02_Mul.T3 : Bool × List (List Nat × List Nat) := (true, [([], []), ([0], [0]), ([], []), ([2, 1], [2]), ([], []), ([], []), ([4, 1, 3, 0, 1, 4, 5], [1, 4]), ([5, 3, 6, 0, 1, 2, 3, 4, 5, 6], [3, 5])])
def bolterref02_Mul.B3 : List Nat := [0, 1, 0, 7, 0, 0, 63, 127]
theorem bolterref02_Mul.tab3 : rtab .any (opsOf Tryz.f17 3) = bolterref02_Mul.T3 := by kernel_rfl
theorem bolterref02_Mul.bits3 : waitsOk bolterref02_Mul.T3.2 bolterref02_Mul.B3 = true := by kernel_rfl
def bolterref02_Mul.T4 : Bool × List (List Nat × List Nat) := (true, [([], []), ([0], [0]), ([], []), ([2], [2]), ([1, 3], [1, 3]), ([], []), ([5], [5]), ([], []), ([7], [7]), ([6, 8], [6, 8]), ([], []), ([10], [10]), ([], []), ([12], [12]), ([11, 13], [11, 13]), ([4, 9, 14], [4, 9, 14]), ([15, 9], [15]), ([16], [16]), ([16], [16]), ([17, 16, 0, 1, 2, 3, 4, 5, 6, 7, 8, 9, 10, 11, 12, 13, 14, 15, 16, 17, 18], [17]), ([18, 19, 0, 1, 2, 3, 4, 5, 6, 7, 8, 9, 10, 11, 12, 13, 14, 15, 16, 17, 18, 19], [18])])
def bolterref02_Mul.B4 : List Nat := [0, 1, 0, 4, 15, 0, 32, 0, 128, 480, 0, 1024, 0, 4096, 15360, 32767, 65535, 131071, 131071, 524287, 1048575]
theorem bolterref02_Mul.tab4 : rtab .any (opsOf Tryz.f17 4) = bolterref02_Mul.T4 := by kernel_rfl
theorem bolterref02_Mul.bits4 : waitsOk bolterref02_Mul.T4.2 bolterref02_Mul.B4 = true := by kernel_rfl
theorem bolterref02_Mul.leaf {P : Prop} (h : P := by
 go_enter Tryz.func17, Tryz.ntmps17
 try go_wp2_with (first | ((with_reducible refine gd 2 ?_); refine bx 2 #[.bool a0_0, .slice A0_1 l0_1.length c0_1, .int .i64 a0_2] 24 (h := ?_); intro gb0z hg w1z hbox hb; have BK2z := am hbox; have GW3z := gW hg; have GE4z := gW hg; replace HB := bS hb; clear hb hbox hg) | ((with_reducible refine gd 3 ?_); refine bx 3 #[.bool a1_0, .slice A1_1 l1_1.length c1_1, .int .i64 a1_2] 24 (h := ?_); intro gb5z hg w6z hbox hb; have BK7z := am hbox; have GW8z := gW hg; have GE9z := gW hg; have NB10z := nL hg BK2z; have NB11z := nG hg BK2z; replace BK2z := bb BK2z hb; replace HB := bS hb; clear hb hbox hg) | ((with_reducible refine gd 4 ?_); refine bx 4 #[.bool false, .slice none 0 0, .int .i64 0] 24 (h := ?_); intro gb12z hg w13z hbox hb; have BK14z := am hbox; have GW15z := gW hg; have GE16z := gW hg; have NB17z := nL hg BK2z; have NB18z := nG hg BK2z; have NB19z := nL hg BK7z; have NB20z := nG hg BK7z; replace BK2z := bb BK2z hb; replace BK7z := bb BK7z hb; replace HB := bS hb; clear hb hbox hg; have hnb21z := NB10z.out; have hnc22z := NB11z.out; have hnb23z := NB17z.out; have hnc24z := NB18z.out; obtain ⟨hcz25z, hcz26z, hcz27z, hfz28z, hfz29z, hfz30z⟩ := cEc BK2z.out; have hnb31z := NB19z.out; have hnc32z := NB20z.out; obtain ⟨hcz33z, hcz34z, hcz35z, hfz36z, hfz37z, hfz38z⟩ := cEc BK7z.out) | ((have q_ := A8; clear q_); refine gL (some 10) Tryz.func64 #[.agg #[.bool a0_0, .slice A0_1 l0_1.length c0_1, .int .i64 a0_2], .agg #[.bool a1_0, .slice A1_1 l1_1.length c1_1, .int .i64 a1_2]] (h := ?_); (with_reducible refine (bolterref02_checks.calls k a0_0 _ _ l0_1 a0_2 a1_0 _ _ l1_1 a1_2 t673 _ ?side1 ?side2 ?side3 ?side4 A3.out).mono ?_); (case side1 => refine cp ?_; exact (Kd.C_below HR0_1.out HB.out)); (case side2 => exact HC0_1.out); (case side3 => refine cp ?_; exact (Kd.C_below HR1_1.out HB.out)); (case side4 => exact HC1_1.out); rintro e w39z ⟨rfl, hb⟩; refine ⟨_, rfl, ?_⟩; replace BK2z := bb BK2z hb; replace BK7z := bb BK7z hb; replace BK14z := bb BK14z hb; replace HB := bS hb) | ((have q_ : (t673 != 0) = true := c4b1; clear q_); refine gL (some 10) Tryz.func64 #[.agg #[.bool a0_0, .slice A0_1 l0_1.length c0_1, .int .i64 a0_2], .agg #[.bool a1_0, .slice A1_1 l1_1.length c1_1, .int .i64 a1_2]] (h := ?_); (with_reducible refine (bolterref02_checks.calls k a0_0 _ _ l0_1 a0_2 a1_0 _ _ l1_1 a1_2 t673 _ ?side1 ?side2 ?side3 ?side4 A3.out).mono ?_); (case side1 => refine cp ?_; exact (Kd.C_below HR0_1.out HB.out)); (case side2 => exact HC0_1.out); (case side3 => refine cp ?_; exact (Kd.C_below HR1_1.out HB.out)); (case side4 => exact HC1_1.out); rintro e w39z ⟨rfl, hb⟩; refine ⟨_, rfl, ?_⟩; replace BK2z := bb BK2z hb; replace BK7z := bb BK7z hb; replace BK14z := bb BK14z hb; replace HB := bS hb; obtain ⟨hcz40z, hcz41z, hcz42z, hfz43z, hfz44z, hfz45z⟩ := cEc BK14z.out))
 first
  | have q_ := A8
    replace BK2z := am (blk_drew BK2z.out)
    replace BK7z := am (blk_drew BK7z.out)
    replace BK14z := am (blk_drew BK14z.out)
    replace HB := am (below_drew1 HB.out)
    refine start_ (n := 8) (S := fun w' => w'.cell? ⟨gb0z, 0, none⟩ = some (.bool a0_0) /\ w'.cell? ⟨gb0z, 1, none⟩ = some (.slice A0_1 l0_1.length c0_1) /\ w'.cell? ⟨gb0z, 2, none⟩ = some (.int .i64 a0_2) /\ w'.cell? ⟨gb5z, 0, none⟩ = some (.bool a1_0) /\ w'.cell? ⟨gb5z, 1, none⟩ = some (.slice A1_1 l1_1.length c1_1) /\ w'.cell? ⟨gb5z, 2, none⟩ = some (.int .i64 a1_2)) (ds := []) #[false, false, false, false, false, false, false, false] (by kernel_rfl) rfl rfl ⟨k0 BK2z 0, k0 BK2z 1, k0 BK2z 2, k0 BK7z 0, k0 BK7z 1, k0 BK7z 2⟩ (fun hHeld => ?_); refine with_tabW bolterref02_Mul.tab3 bolterref02_Mul.bits3 (fun HT_ HW_ => ?_)
    generalize w39z.drew = w40z at BK2z BK7z BK14z HB hHeld ⊢
    refine take_ (i := 0) (N := some 13) (v := ?_) (a' := ?_) #[true, false, false, false, false, false, false, false] rfl rfl (take_ofW HT_.out HW_.out (by kernel_rfl)) (fun _ _ _ h => h) (Or.inl ⟨by rfl, ?_⟩) hHeld ?_ ?_
    rotate_left
    ·rintro w' ⟨s41z, s42z, s43z, s44z, s45z, s46z⟩
     go_simp
     with_reducible rfl
    rotate_left
    ·exact pP
    refine take_ (i := 2) (N := some 15) (v := ?_) (a' := ?_) #[true, false, true, false, false, false, false, false] rfl rfl (take_ofW HT_.out HW_.out (by kernel_rfl)) (fun _ _ _ h => h) (Or.inl ⟨by rfl, ?_⟩) hHeld ?_ ?_
    rotate_left
    ·rintro w' ⟨s41z, s42z, s43z, s44z, s45z, s46z⟩
     go_simp
     with_reducible rfl
    rotate_left
    ·exact pP
    refine join_ (σ := Value × Value × Nat × Nat) 2 #[true, true, true, true, true, true, false, false] (fun s_ => [(14, .agg #[.bool t674, s_.1, .int .i64 t678]), (16, .agg #[.bool t679, s_.2.1, .int .i64 t683]), (6, .pointer (some ⟨s_.2.2.1, 0, none⟩)), (7, .pointer (some ⟨s_.2.2.2, 0, none⟩))]) (fun s_ w' => (w'.cell? ⟨gb0z, 0, none⟩ = some (.bool a0_0) /\ w'.cell? ⟨gb0z, 1, none⟩ = some (.slice A0_1 l0_1.length c0_1) /\ w'.cell? ⟨gb0z, 2, none⟩ = some (.int .i64 a0_2) /\ w'.cell? ⟨gb5z, 0, none⟩ = some (.bool a1_0) /\ w'.cell? ⟨gb5z, 1, none⟩ = some (.slice A1_1 l1_1.length c1_1) /\ w'.cell? ⟨gb5z, 2, none⟩ = some (.int .i64 a1_2)) /\ (Kd.R (Kd.int .i64) 3 w' w.heap.size (fun k_ => some k_ ≠ (s_.2.1 : Value).ownBlock) s_.1 t675) /\ (Kd.R (Kd.int .i64) 3 w' w.heap.size (fun k_ => some k_ ≠ (s_.1 : Value).ownBlock) s_.2.1 t680) /\ (w'.heap[gb0z]? = some (.cells #[.bool a0_0, .slice A0_1 l0_1.length c0_1, .int .i64 a0_2] 24 (0, 0))) /\ (w'.heap[gb5z]? = some (.cells #[.bool a1_0, .slice A1_1 l1_1.length c1_1, .int .i64 a1_2] 24 (0, 0))) /\ (w'.heap[gb12z]? = some (.cells #[.bool false, .slice none 0 0, .int .i64 0] 24 (0, 0))) /\ (w'.heap[s_.2.2.1]? = some (.cells #[.bool false, .slice none 0 0, .int .i64 0] 30 (0, 0))) /\ (w'.heap[s_.2.2.2]? = some (.cells #[.bool false, .slice none 0 0, .int .i64 0] 30 (0, 0))) /\ (w.heap.size <= s_.2.2.1) /\ (w.heap.size <= s_.2.2.1) /\ (gb0z ≠ s_.2.2.1) /\ (s_.2.2.1 ≠ gb0z) /\ (gb5z ≠ s_.2.2.1) /\ (s_.2.2.1 ≠ gb5z) /\ (gb12z ≠ s_.2.2.1) /\ (s_.2.2.1 ≠ gb12z) /\ (s_.2.2.2 ≠ s_.2.2.1) /\ (s_.2.2.1 ≠ s_.2.2.2) /\ (w.heap.size <= s_.2.2.2) /\ (w.heap.size <= s_.2.2.2) /\ (gb0z ≠ s_.2.2.2) /\ (s_.2.2.2 ≠ gb0z) /\ (gb5z ≠ s_.2.2.2) /\ (s_.2.2.2 ≠ gb5z) /\ (gb12z ≠ s_.2.2.2) /\ (s_.2.2.2 ≠ gb12z) /\ (Below w.heap.size w w')) ?_ ?_
    rotate_left
    ·intro hJ1_3_4_5
     refine pair2 1 3 4 5 14 16 6 7 w.heap.size (.bool t674) (.int .i64 t678) (.bool t679) (.int .i64 t683) #[.bool false, .slice none 0 0, .int .i64 0] 30 (below_size HB.out) (fun w_ hb_ => ⟨k0 (bb BK2z hb_) 0, k0 (bb BK2z hb_) 1, k0 (bb BK2z hb_) 2, k0 (bb BK7z hb_) 0, k0 (bb BK7z hb_) 1, k0 (bb BK7z hb_) 2⟩) (fun f_ w_ hb_ K_ hK_ => ?_) (fun f_ w_ hb_ K_ hK_ => ?_) (fun u1_ u3_ g4_ g5_ w_ hb_ r1_ r2_ q4_ q5_ m4_ m5_ hne_ => hJ1_3_4_5 (u1_, u3_, g4_, g5_) _ ⟨⟨k0 (bb BK2z hb_) 0, k0 (bb BK2z hb_) 1, k0 (bb BK2z hb_) 2, k0 (bb BK7z hb_) 0, k0 (bb BK7z hb_) 1, k0 (bb BK7z hb_) 2⟩, r1_, r2_, (bb BK2z hb_).out, (bb BK7z hb_).out, (bb BK14z hb_).out, q4_, q5_, (Nat.le_trans (below_size HB.out) m4_), (Nat.le_trans (below_size HB.out) m4_), (nW BK2z m4_), (nV BK2z m4_), (nW BK7z m4_), (nV BK7z m4_), (nW BK14z m4_), (nV BK14z m4_), hne_.symm, hne_, (Nat.le_trans (below_size HB.out) m5_), (Nat.le_trans (below_size HB.out) m5_), (nW BK2z m5_), (nV BK2z m5_), (nW BK7z m5_), (nV BK7z m5_), (nW BK14z m5_), (nV BK14z m5_), (bS hb_).out⟩)
     ·have HB := bS hb_
      refine goes_ Tryz.func18 (by kernel_rfl) rfl #[.agg #[.bool a0_0, .slice A0_1 l0_1.length c0_1, .int .i64 a0_2]] (by rfl) rfl rfl pA ?_
      with_reducible refine (bolterref02_Of.calls k a0_0 _ _ l0_1 a0_2 t674 t675 t678 _ ?side1 ?side2 A5.out).mono ?_
      (case side1 => refine cp ?_; exact (Kd.C_below HR0_1.out HB.out))
      (case side2 => exact HC0_1.out)
      rintro e w47z ⟨v48z, rfl, ho49z, hb2_⟩
      exact ⟨_, rfl, hK_ v48z _ _ ho49z hb2_⟩
     ·have HB := bS hb_
      refine goes_ Tryz.func18 (by kernel_rfl) rfl #[.agg #[.bool a1_0, .slice A1_1 l1_1.length c1_1, .int .i64 a1_2]] (by rfl) rfl rfl pA ?_
      with_reducible refine (bolterref02_Of.calls k a1_0 _ _ l1_1 a1_2 t679 t680 t683 _ ?side1 ?side2 A6.out).mono ?_
      (case side1 => refine cp ?_; exact (Kd.C_below HR1_1.out HB.out))
      (case side2 => exact HC1_1.out)
      rintro e w50z ⟨v51z, rfl, ho49z, hb2_⟩
      exact ⟨_, rfl, hK_ v51z _ _ ho49z hb2_⟩
    rintro ⟨v48z, v51z, gb52z, gb53z⟩ w54z ⟨hS_, h0_, h1_, h2_, h3_, h4_, h5_, h6_, h7_, h8_, h9_, h10_, h11_, h12_, h13_, h14_, h15_, h16_, h17_, h18_, h19_, h20_, h21_, h22_, h23_, h24_, h25_⟩
    have HO55z : Aside0 (Kd.R (Kd.int .i64) 3 w54z w.heap.size (fun k_ => some k_ ≠ (v51z : Value).ownBlock) v48z t675) := ⟨h0_⟩
    have HO56z : Aside0 (Kd.R (Kd.int .i64) 3 w54z w.heap.size (fun k_ => some k_ ≠ (v48z : Value).ownBlock) v51z t680) := ⟨h1_⟩
    have BK57z : Aside0 (w54z.heap[gb52z]? = some (.cells #[.bool false, .slice none 0 0, .int .i64 0] 30 (0, 0))) := ⟨h5_⟩
    have BK58z : Aside0 (w54z.heap[gb53z]? = some (.cells #[.bool false, .slice none 0 0, .int .i64 0] 30 (0, 0))) := ⟨h6_⟩
    have GW59z : Aside0 (w.heap.size <= gb52z) := ⟨h7_⟩
    have GE60z : Aside0 (w.heap.size <= gb52z) := ⟨h8_⟩
    have NB61z : Aside0 (gb0z ≠ gb52z) := ⟨h9_⟩
    have NB62z : Aside0 (gb52z ≠ gb0z) := ⟨h10_⟩
    have NB63z : Aside0 (gb5z ≠ gb52z) := ⟨h11_⟩
    have NB64z : Aside0 (gb52z ≠ gb5z) := ⟨h12_⟩
    have NB65z : Aside0 (gb12z ≠ gb52z) := ⟨h13_⟩
    have NB66z : Aside0 (gb52z ≠ gb12z) := ⟨h14_⟩
    have NB67z : Aside0 (gb53z ≠ gb52z) := ⟨h15_⟩
    have NB68z : Aside0 (gb52z ≠ gb53z) := ⟨h16_⟩
    have GW69z : Aside0 (w.heap.size <= gb53z) := ⟨h17_⟩
    have GE70z : Aside0 (w.heap.size <= gb53z) := ⟨h18_⟩
    have NB71z : Aside0 (gb0z ≠ gb53z) := ⟨h19_⟩
    have NB72z : Aside0 (gb53z ≠ gb0z) := ⟨h20_⟩
    have NB73z : Aside0 (gb5z ≠ gb53z) := ⟨h21_⟩
    have NB74z : Aside0 (gb53z ≠ gb5z) := ⟨h22_⟩
    have NB75z : Aside0 (gb12z ≠ gb53z) := ⟨h23_⟩
    have NB76z : Aside0 (gb53z ≠ gb12z) := ⟨h24_⟩
    replace BK2z : Aside0 (w54z.heap[gb0z]? = some (.cells #[.bool a0_0, .slice A0_1 l0_1.length c0_1, .int .i64 a0_2] 24 (0, 0))) := ⟨h2_⟩
    replace BK7z : Aside0 (w54z.heap[gb5z]? = some (.cells #[.bool a1_0, .slice A1_1 l1_1.length c1_1, .int .i64 a1_2] 24 (0, 0))) := ⟨h3_⟩
    replace BK14z : Aside0 (w54z.heap[gb12z]? = some (.cells #[.bool false, .slice none 0 0, .int .i64 0] 24 (0, 0))) := ⟨h4_⟩
    replace HB : Aside0 (Below w.heap.size w w54z) := ⟨h25_⟩
    clear h0_ h1_ h2_ h3_ h4_ h5_ h6_ h7_ h8_ h9_ h10_ h11_ h12_ h13_ h14_ h15_ h16_ h17_ h18_ h19_ h20_ h21_ h22_ h23_ h24_ h25_
    have hHeld : w54z.cell? ⟨gb0z, 0, none⟩ = some (.bool a0_0) /\ w54z.cell? ⟨gb0z, 1, none⟩ = some (.slice A0_1 l0_1.length c0_1) /\ w54z.cell? ⟨gb0z, 2, none⟩ = some (.int .i64 a0_2) /\ w54z.cell? ⟨gb5z, 0, none⟩ = some (.bool a1_0) /\ w54z.cell? ⟨gb5z, 1, none⟩ = some (.slice A1_1 l1_1.length c1_1) /\ w54z.cell? ⟨gb5z, 2, none⟩ = some (.int .i64 a1_2) := hS_
    obtain ⟨Ao77z, co78z, eo79z⟩ := Kd.R_slice HO55z.out
    (first | subst eo79z | (injection eo79z with f1_ f2_ f3_; have f4_ := f1_.symm; have f5_ := f3_.symm; clear f1_ f2_ f3_; subst f4_; subst f5_))
    obtain ⟨Ao80z, co81z, eo82z⟩ := Kd.R_slice HO56z.out
    (first | subst eo82z | (injection eo82z with f1_ f2_ f3_; have f4_ := f1_.symm; have f5_ := f3_.symm; clear f1_ f2_ f3_; subst f4_; subst f5_))
    refine norm_ (a' := ?_) ?_ ?_
    rotate_left
    ·simp only [putAll, Act.put, List.setIfInBounds_toArray, List.set_cons_zero, List.set_cons_succ]
     rfl
    refine one_ (i := 6) (N := none) #[true, true, true, true, true, true, true, false] rfl rfl (one_of HT_.out (by kernel_rfl)) (by decide) (fun K hK => ?_)
    have hs83z : w54z.cell? ⟨gb52z, 0, none⟩ = some (.bool false) := k0 BK57z 0
    have hfs84z := blk_frozen BK57z.out 0
    have hns85z := NB61z.out
    have hns86z := NB63z.out
    have hns87z := NB65z.out
    have hns88z := NB67z.out
    have hms89z := NB62z.out
    have hms90z := NB64z.out
    have hms91z := NB66z.out
    have hms92z := NB68z.out
    have hs93z : w54z.cell? ⟨gb52z, 1, none⟩ = some (.slice none 0 0) := k0 BK57z 1
    have hfs94z := blk_frozen BK57z.out 1
    have hns95z := NB61z.out
    have hns96z := NB63z.out
    have hns97z := NB65z.out
    have hns98z := NB67z.out
    have hms99z := NB62z.out
    have hms100z := NB64z.out
    have hms101z := NB66z.out
    have hms102z := NB68z.out
    have hs103z : w54z.cell? ⟨gb52z, 2, none⟩ = some (.int .i64 0) := k0 BK57z 2
    have hfs104z := blk_frozen BK57z.out 2
    have hns105z := NB61z.out
    have hns106z := NB63z.out
    have hns107z := NB65z.out
    have hns108z := NB67z.out
    have hms109z := NB62z.out
    have hms110z := NB64z.out
    have hms111z := NB66z.out
    have hms112z := NB68z.out
    refine skip_ (w1 := ?_) (by rfl) rfl ?_ ?_
    rotate_left
    ·go_simp
     rfl
    refine hK.out _ _ ⟨((cell_far (p := ⟨gb52z, _, none⟩) NB61z.out _).trans (((cell_far (p := ⟨gb52z, _, none⟩) NB61z.out _).trans (((cell_far (p := ⟨gb52z, _, none⟩) NB61z.out _).trans (hHeld.1)))))), ((cell_far (p := ⟨gb52z, _, none⟩) NB61z.out _).trans (((cell_far (p := ⟨gb52z, _, none⟩) NB61z.out _).trans (((cell_far (p := ⟨gb52z, _, none⟩) NB61z.out _).trans (hHeld.2.1)))))), ((cell_far (p := ⟨gb52z, _, none⟩) NB61z.out _).trans (((cell_far (p := ⟨gb52z, _, none⟩) NB61z.out _).trans (((cell_far (p := ⟨gb52z, _, none⟩) NB61z.out _).trans (hHeld.2.2.1)))))), ((cell_far (p := ⟨gb52z, _, none⟩) NB63z.out _).trans (((cell_far (p := ⟨gb52z, _, none⟩) NB63z.out _).trans (((cell_far (p := ⟨gb52z, _, none⟩) NB63z.out _).trans (hHeld.2.2.2.1)))))), ((cell_far (p := ⟨gb52z, _, none⟩) NB63z.out _).trans (((cell_far (p := ⟨gb52z, _, none⟩) NB63z.out _).trans (((cell_far (p := ⟨gb52z, _, none⟩) NB63z.out _).trans (hHeld.2.2.2.2.1)))))), ((cell_far (p := ⟨gb52z, _, none⟩) NB63z.out _).trans (((cell_far (p := ⟨gb52z, _, none⟩) NB63z.out _).trans (((cell_far (p := ⟨gb52z, _, none⟩) NB63z.out _).trans (hHeld.2.2.2.2.2))))))⟩ (fun hHeld => ?_)
    clear hK K
    refine one_ (i := 7) (N := none) #[true, true, true, true, true, true, true, true] rfl rfl (one_of HT_.out (by kernel_rfl)) (by decide) (fun K hK => ?_)
    have hs113z : w54z.cell? ⟨gb53z, 0, none⟩ = some (.bool false) := k0 BK58z 0
    have hfs114z := blk_frozen BK58z.out 0
    have hns115z := NB71z.out
    have hns116z := NB73z.out
    have hns117z := NB75z.out
    have hns118z := NB68z.out
    have hms119z := NB72z.out
    have hms120z := NB74z.out
    have hms121z := NB76z.out
    have hms122z := NB67z.out
    have hs123z : w54z.cell? ⟨gb53z, 1, none⟩ = some (.slice none 0 0) := k0 BK58z 1
    have hfs124z := blk_frozen BK58z.out 1
    have hns125z := NB71z.out
    have hns126z := NB73z.out
    have hns127z := NB75z.out
    have hns128z := NB68z.out
    have hms129z := NB72z.out
    have hms130z := NB74z.out
    have hms131z := NB76z.out
    have hms132z := NB67z.out
    have hs133z : w54z.cell? ⟨gb53z, 2, none⟩ = some (.int .i64 0) := k0 BK58z 2
    have hfs134z := blk_frozen BK58z.out 2
    have hns135z := NB71z.out
    have hns136z := NB73z.out
    have hns137z := NB75z.out
    have hns138z := NB68z.out
    have hms139z := NB72z.out
    have hms140z := NB74z.out
    have hms141z := NB76z.out
    have hms142z := NB67z.out
    refine skip_ (w1 := ?_) (by rfl) rfl ?_ ?_
    rotate_left
    ·go_simp
     rfl
    refine hK.out _ _ ⟨((cell_far (p := ⟨gb53z, _, none⟩) NB71z.out _).trans (((cell_far (p := ⟨gb53z, _, none⟩) NB71z.out _).trans (((cell_far (p := ⟨gb53z, _, none⟩) NB71z.out _).trans (hHeld.1)))))), ((cell_far (p := ⟨gb53z, _, none⟩) NB71z.out _).trans (((cell_far (p := ⟨gb53z, _, none⟩) NB71z.out _).trans (((cell_far (p := ⟨gb53z, _, none⟩) NB71z.out _).trans (hHeld.2.1)))))), ((cell_far (p := ⟨gb53z, _, none⟩) NB71z.out _).trans (((cell_far (p := ⟨gb53z, _, none⟩) NB71z.out _).trans (((cell_far (p := ⟨gb53z, _, none⟩) NB71z.out _).trans (hHeld.2.2.1)))))), ((cell_far (p := ⟨gb53z, _, none⟩) NB73z.out _).trans (((cell_far (p := ⟨gb53z, _, none⟩) NB73z.out _).trans (((cell_far (p := ⟨gb53z, _, none⟩) NB73z.out _).trans (hHeld.2.2.2.1)))))), ((cell_far (p := ⟨gb53z, _, none⟩) NB73z.out _).trans (((cell_far (p := ⟨gb53z, _, none⟩) NB73z.out _).trans (((cell_far (p := ⟨gb53z, _, none⟩) NB73z.out _).trans (hHeld.2.2.2.2.1)))))), ((cell_far (p := ⟨gb53z, _, none⟩) NB73z.out _).trans (((cell_far (p := ⟨gb53z, _, none⟩) NB73z.out _).trans (((cell_far (p := ⟨gb53z, _, none⟩) NB73z.out _).trans (hHeld.2.2.2.2.2))))))⟩ (fun hHeld => ?_)
    clear hK K
    refine done_ (done_of HT_.out (by kernel_rfl)) ?_
    try go_wp2
    have n0_ : Aside0 (Kd.R (Kd.int .i64) 3 ((((((w54z.setCell ⟨gb52z, 0, none⟩ (.bool t674)).setCell ⟨gb52z, 1, none⟩ (.slice Ao77z t675.length co78z)).setCell ⟨gb52z, 2, none⟩ (.int .i64 t678)).setCell ⟨gb53z, 0, none⟩ (.bool t679)).setCell ⟨gb53z, 1, none⟩ (.slice Ao80z t680.length co81z)).setCell ⟨gb53z, 2, none⟩ (.int .i64 t683)) w.heap.size (fun k_ => some k_ ≠ (.slice Ao80z t680.length co81z : Value).ownBlock) (.slice Ao77z t675.length co78z) t675) := ⟨by refine rp ?_; exact Kd.R_mono (Kd.R_far (p := ⟨gb53z, 2, none⟩) (Kd.R_far (p := ⟨gb53z, 1, none⟩) (Kd.R_far (p := ⟨gb53z, 0, none⟩) (Kd.R_far (p := ⟨gb52z, 2, none⟩) (Kd.R_far (p := ⟨gb52z, 1, none⟩) (Kd.R_far (p := ⟨gb52z, 0, none⟩) (Kd.R_types (Kd.R_types HO55z.out BK57z.out (by decide)) BK58z.out (by decide)) (fun _ hk => hk.1.2) (.bool t674)) (fun _ hk => hk.1.2) (.slice Ao77z t675.length co78z)) (fun _ hk => hk.1.2) (.int .i64 t678)) (fun _ hk => hk.2) (.bool t679)) (fun _ hk => hk.2) (.slice Ao80z t680.length co81z)) (fun _ hk => hk.2) (.int .i64 t683)) (fun _ hk => hk.1.1)⟩
    have n1_ : Aside0 (Kd.R (Kd.int .i64) 3 ((((((w54z.setCell ⟨gb52z, 0, none⟩ (.bool t674)).setCell ⟨gb52z, 1, none⟩ (.slice Ao77z t675.length co78z)).setCell ⟨gb52z, 2, none⟩ (.int .i64 t678)).setCell ⟨gb53z, 0, none⟩ (.bool t679)).setCell ⟨gb53z, 1, none⟩ (.slice Ao80z t680.length co81z)).setCell ⟨gb53z, 2, none⟩ (.int .i64 t683)) w.heap.size (fun k_ => some k_ ≠ (.slice Ao77z t675.length co78z : Value).ownBlock) (.slice Ao80z t680.length co81z) t680) := ⟨by refine rp ?_; exact Kd.R_mono (Kd.R_far (p := ⟨gb53z, 2, none⟩) (Kd.R_far (p := ⟨gb53z, 1, none⟩) (Kd.R_far (p := ⟨gb53z, 0, none⟩) (Kd.R_far (p := ⟨gb52z, 2, none⟩) (Kd.R_far (p := ⟨gb52z, 1, none⟩) (Kd.R_far (p := ⟨gb52z, 0, none⟩) (Kd.R_types (Kd.R_types HO56z.out BK57z.out (by decide)) BK58z.out (by decide)) (fun _ hk => hk.1.2) (.bool t674)) (fun _ hk => hk.1.2) (.slice Ao77z t675.length co78z)) (fun _ hk => hk.1.2) (.int .i64 t678)) (fun _ hk => hk.2) (.bool t679)) (fun _ hk => hk.2) (.slice Ao80z t680.length co81z)) (fun _ hk => hk.2) (.int .i64 t683)) (fun _ hk => hk.1.1)⟩
    have n2_ : Aside0 (((((((w54z.setCell ⟨gb52z, 0, none⟩ (.bool t674)).setCell ⟨gb52z, 1, none⟩ (.slice Ao77z t675.length co78z)).setCell ⟨gb52z, 2, none⟩ (.int .i64 t678)).setCell ⟨gb53z, 0, none⟩ (.bool t679)).setCell ⟨gb53z, 1, none⟩ (.slice Ao80z t680.length co81z)).setCell ⟨gb53z, 2, none⟩ (.int .i64 t683)).heap[gb0z]? = some (.cells #[.bool a0_0, .slice A0_1 l0_1.length c0_1, .int .i64 a0_2] 24 (0, 0))) := ⟨by refine bp ?_; refine blk_far ?_ NB71z.out _; refine bp ?_; refine blk_far ?_ NB71z.out _; refine bp ?_; refine blk_far ?_ NB71z.out _; refine bp ?_; refine blk_far ?_ NB61z.out _; refine bp ?_; refine blk_far ?_ NB61z.out _; refine bp ?_; refine blk_far ?_ NB61z.out _; exact bp BK2z.out⟩
    have n3_ : Aside0 (((((((w54z.setCell ⟨gb52z, 0, none⟩ (.bool t674)).setCell ⟨gb52z, 1, none⟩ (.slice Ao77z t675.length co78z)).setCell ⟨gb52z, 2, none⟩ (.int .i64 t678)).setCell ⟨gb53z, 0, none⟩ (.bool t679)).setCell ⟨gb53z, 1, none⟩ (.slice Ao80z t680.length co81z)).setCell ⟨gb53z, 2, none⟩ (.int .i64 t683)).heap[gb5z]? = some (.cells #[.bool a1_0, .slice A1_1 l1_1.length c1_1, .int .i64 a1_2] 24 (0, 0))) := ⟨by refine bp ?_; refine blk_far ?_ NB73z.out _; refine bp ?_; refine blk_far ?_ NB73z.out _; refine bp ?_; refine blk_far ?_ NB73z.out _; refine bp ?_; refine blk_far ?_ NB63z.out _; refine bp ?_; refine blk_far ?_ NB63z.out _; refine bp ?_; refine blk_far ?_ NB63z.out _; exact bp BK7z.out⟩
    have n4_ : Aside0 (((((((w54z.setCell ⟨gb52z, 0, none⟩ (.bool t674)).setCell ⟨gb52z, 1, none⟩ (.slice Ao77z t675.length co78z)).setCell ⟨gb52z, 2, none⟩ (.int .i64 t678)).setCell ⟨gb53z, 0, none⟩ (.bool t679)).setCell ⟨gb53z, 1, none⟩ (.slice Ao80z t680.length co81z)).setCell ⟨gb53z, 2, none⟩ (.int .i64 t683)).heap[gb12z]? = some (.cells #[.bool false, .slice none 0 0, .int .i64 0] 24 (0, 0))) := ⟨by refine bp ?_; refine blk_far ?_ NB75z.out _; refine bp ?_; refine blk_far ?_ NB75z.out _; refine bp ?_; refine blk_far ?_ NB75z.out _; refine bp ?_; refine blk_far ?_ NB65z.out _; refine bp ?_; refine blk_far ?_ NB65z.out _; refine bp ?_; refine blk_far ?_ NB65z.out _; exact bp BK14z.out⟩
    have n5_ : Aside0 (((((((w54z.setCell ⟨gb52z, 0, none⟩ (.bool t674)).setCell ⟨gb52z, 1, none⟩ (.slice Ao77z t675.length co78z)).setCell ⟨gb52z, 2, none⟩ (.int .i64 t678)).setCell ⟨gb53z, 0, none⟩ (.bool t679)).setCell ⟨gb53z, 1, none⟩ (.slice Ao80z t680.length co81z)).setCell ⟨gb53z, 2, none⟩ (.int .i64 t683)).heap[gb52z]? = some (.cells #[.bool t674, .slice Ao77z t675.length co78z, .int .i64 t678] 30 (0, 0))) := ⟨by refine bp ?_; refine blk_far ?_ NB68z.out _; refine bp ?_; refine blk_far ?_ NB68z.out _; refine bp ?_; refine blk_far ?_ NB68z.out _; exact p3 BK57z⟩
    have n6_ : Aside0 (((((((w54z.setCell ⟨gb52z, 0, none⟩ (.bool t674)).setCell ⟨gb52z, 1, none⟩ (.slice Ao77z t675.length co78z)).setCell ⟨gb52z, 2, none⟩ (.int .i64 t678)).setCell ⟨gb53z, 0, none⟩ (.bool t679)).setCell ⟨gb53z, 1, none⟩ (.slice Ao80z t680.length co81z)).setCell ⟨gb53z, 2, none⟩ (.int .i64 t683)).heap[gb53z]? = some (.cells #[.bool t679, .slice Ao80z t680.length co81z, .int .i64 t683] 30 (0, 0))) := ⟨by refine bp ?_; refine blk_put (cs := #[.bool t679, .slice Ao80z t680.length co81z, .int .i64 0]) ?_ 2 _ rfl; refine bp ?_; refine blk_put (cs := #[.bool t679, .slice none 0 0, .int .i64 0]) ?_ 1 _ rfl; refine bp ?_; refine blk_put (cs := #[.bool false, .slice none 0 0, .int .i64 0]) ?_ 0 _ rfl; refine bp ?_; refine blk_far ?_ NB67z.out _; refine bp ?_; refine blk_far ?_ NB67z.out _; refine bp ?_; refine blk_far ?_ NB67z.out _; exact bp BK58z.out⟩
    have n7_ : Aside0 (Below w.heap.size w ((((((w54z.setCell ⟨gb52z, 0, none⟩ (.bool t674)).setCell ⟨gb52z, 1, none⟩ (.slice Ao77z t675.length co78z)).setCell ⟨gb52z, 2, none⟩ (.int .i64 t678)).setCell ⟨gb53z, 0, none⟩ (.bool t679)).setCell ⟨gb53z, 1, none⟩ (.slice Ao80z t680.length co81z)).setCell ⟨gb53z, 2, none⟩ (.int .i64 t683))) := ⟨pB⟩
    generalize ((((((w54z.setCell ⟨gb52z, 0, none⟩ (.bool t674)).setCell ⟨gb52z, 1, none⟩ (.slice Ao77z t675.length co78z)).setCell ⟨gb52z, 2, none⟩ (.int .i64 t678)).setCell ⟨gb53z, 0, none⟩ (.bool t679)).setCell ⟨gb53z, 1, none⟩ (.slice Ao80z t680.length co81z)).setCell ⟨gb53z, 2, none⟩ (.int .i64 t683)) = w143z at n0_ n1_ n2_ n3_ n4_ n5_ n6_ n7_ ⊢
    have HO55z := n0_
    have HO56z := n1_
    have BK2z := n2_
    have BK7z := n3_
    have BK14z := n4_
    have BK57z := n5_
    have BK58z := n6_
    have HB := n7_
    clear n0_ n1_ n2_ n3_ n4_ n5_ n6_ n7_
    replace HO55z := am (Kd.R_drew HO55z.out)
    replace HO56z := am (Kd.R_drew HO56z.out)
    replace BK2z := am (blk_drew BK2z.out)
    replace BK7z := am (blk_drew BK7z.out)
    replace BK14z := am (blk_drew BK14z.out)
    replace BK57z := am (blk_drew BK57z.out)
    replace BK58z := am (blk_drew BK58z.out)
    replace HB := am (below_drew1 HB.out)
    refine start_ (n := 21) (S := fun w' => w'.cell? ⟨gb52z, 0, none⟩ = some (.bool t674) /\ w'.cell? ⟨gb52z, 1, none⟩ = some (.slice Ao77z t675.length co78z) /\ w'.cell? ⟨gb52z, 2, none⟩ = some (.int .i64 t678) /\ w'.cell? ⟨gb53z, 0, none⟩ = some (.bool t679) /\ w'.cell? ⟨gb53z, 1, none⟩ = some (.slice Ao80z t680.length co81z) /\ w'.cell? ⟨gb53z, 2, none⟩ = some (.int .i64 t683)) (ds := []) #[false, false, false, false, false, false, false, false, false, false, false, false, false, false, false, false, false, false, false, false, false] (by kernel_rfl) rfl rfl ⟨k0 BK57z 0, k0 BK57z 1, k0 BK57z 2, k0 BK58z 0, k0 BK58z 1, k0 BK58z 2⟩ (fun hHeld => ?_); refine with_tabW bolterref02_Mul.tab4 bolterref02_Mul.bits4 (fun HT_ HW_ => ?_)
    generalize w143z.drew = w144z at HO55z HO56z BK2z BK7z BK14z BK57z BK58z HB hHeld ⊢
    refine pu 0 (some 17) #[true, false, false, false, false, false, false, false, false, false, false, false, false, false, false, false, false, false, false, false, false] (h := ?_)
    refine pu 2 (some 19) #[true, false, true, false, false, false, false, false, false, false, false, false, false, false, false, false, false, false, false, false, false] (h := ?_)
    refine pu 5 (some 22) #[true, false, true, false, false, true, false, false, false, false, false, false, false, false, false, false, false, false, false, false, false] (h := ?_)
    refine pu 7 (some 24) #[true, false, true, false, false, true, false, true, false, false, false, false, false, false, false, false, false, false, false, false, false] (h := ?_)
    refine pu 10 (some 27) #[true, false, true, false, false, true, false, true, false, false, true, false, false, false, false, false, false, false, false, false, false] (h := ?_)
    refine pu 12 (some 29) #[true, false, true, false, false, true, false, true, false, false, true, false, true, false, false, false, false, false, false, false, false] (h := ?_)
    refine take_ (i := 1) (N := some 18) (v := ?_) (a' := ?_) #[true, true, true, false, false, true, false, true, false, false, true, false, true, false, false, false, false, false, false, false, false] rfl rfl (take_ofW HT_.out HW_.out (by kernel_rfl)) (fun _ _ _ h => h) (Or.inl ⟨by rfl, ?_⟩) hHeld ?_ ?_
    rotate_left
    ·rintro w' ⟨s41z, s42z, s43z, s44z, s45z, s46z⟩
     go_simp
     with_reducible rfl
    rotate_left
    ·exact pP
    refine take_ (i := 3) (N := some 20) (v := ?_) (a' := ?_) #[true, true, true, true, false, true, false, true, false, false, true, false, true, false, false, false, false, false, false, false, false] rfl rfl (take_ofW HT_.out HW_.out (by kernel_rfl)) (fun _ _ _ h => h) (Or.inl ⟨by rfl, ?_⟩) hHeld ?_ ?_
    rotate_left
    ·rintro w' ⟨s41z, s42z, s43z, s44z, s45z, s46z⟩
     go_simp
     with_reducible rfl
    rotate_left
    ·exact pP
    refine pu 4 (some 21) #[true, true, true, true, true, true, false, true, false, false, true, false, true, false, false, false, false, false, false, false, false] (h := ?_)
    refine take_ (i := 6) (N := some 23) (v := ?_) (a' := ?_) #[true, true, true, true, true, true, true, true, false, false, true, false, true, false, false, false, false, false, false, false, false] rfl rfl (take_ofW HT_.out HW_.out (by kernel_rfl)) (fun _ _ _ h => h) (Or.inl ⟨by rfl, ?_⟩) hHeld ?_ ?_
    rotate_left
    ·rintro w' ⟨s41z, s42z, s43z, s44z, s45z, s46z⟩
     go_simp
     with_reducible rfl
    rotate_left
    ·exact pP
    refine take_ (i := 8) (N := some 25) (v := ?_) (a' := ?_) #[true, true, true, true, true, true, true, true, true, false, true, false, true, false, false, false, false, false, false, false, false] rfl rfl (take_ofW HT_.out HW_.out (by kernel_rfl)) (fun _ _ _ h => h) (Or.inl ⟨by rfl, ?_⟩) hHeld ?_ ?_
    rotate_left
    ·rintro w' ⟨s41z, s42z, s43z, s44z, s45z, s46z⟩
     go_simp
     with_reducible rfl
    rotate_left
    ·exact pP
    refine take_ (i := 11) (N := some 28) (v := ?_) (a' := ?_) #[true, true, true, true, true, true, true, true, true, false, true, true, true, false, false, false, false, false, false, false, false] rfl rfl (take_ofW HT_.out HW_.out (by kernel_rfl)) (fun _ _ _ h => h) (Or.inl ⟨by rfl, ?_⟩) hHeld ?_ ?_
    rotate_left
    ·rintro w' ⟨s41z, s42z, s43z, s44z, s45z, s46z⟩
     go_simp
     with_reducible rfl
    rotate_left
    ·exact pP
    refine take_ (i := 13) (N := some 30) (v := ?_) (a' := ?_) #[true, true, true, true, true, true, true, true, true, false, true, true, true, true, false, false, false, false, false, false, false] rfl rfl (take_ofW HT_.out HW_.out (by kernel_rfl)) (fun _ _ _ h => h) (Or.inl ⟨by rfl, ?_⟩) hHeld ?_ ?_
    rotate_left
    ·rintro w' ⟨s41z, s42z, s43z, s44z, s45z, s46z⟩
     go_simp
     with_reducible rfl
    rotate_left
    ·exact pP
    refine pu 14 (some 31) #[true, true, true, true, true, true, true, true, true, false, true, true, true, true, true, false, false, false, false, false, false] (h := ?_)
    refine one_ (i := 9) (N := some 26) #[true, true, true, true, true, true, true, true, true, true, true, true, true, true, true, false, false, false, false, false, false] rfl rfl (one_of HT_.out (by kernel_rfl)) (by decide) (fun K hK => ?_)
    refine goes_ Tryz.func65 (by kernel_rfl) rfl #[.slice Ao77z t675.length co78z, .slice Ao80z t680.length co81z] (by rfl) rfl rfl pA ?_
    with_reducible refine (bolterref01_Product.calls k _ _ t675 _ _ t680 t686 _ ?side1 ?side2 ?side3 ?side4 A7.out).mono ?_
    (case side1 => exact Kd.C_below (Kd.R_reads' HO55z.out).2.2 pl)
    (case side2 => exact (Kd.R_reads' HO55z.out).2.1)
    (case side3 => exact Kd.C_below (Kd.R_reads' HO56z.out).2.2 pl)
    (case side4 => exact (Kd.R_reads' HO56z.out).2.1)
    rintro e w145z ⟨v146z, rfl, ho49z, hb⟩
    refine ⟨_, rfl, ?_⟩
    have HO147z := am (Kd.R_lower (Kd.R_new' (Kd.R_new' ho49z (Kd.R_lt (Kd.R_below HO55z.out pl))) (Kd.R_lt (Kd.R_below HO56z.out pl))) (below_size pB))
    replace HO55z := reR HO55z ho49z hb
    replace HO56z := reR HO56z ho49z hb
    replace BK2z := bb BK2z hb
    replace BK7z := bb BK7z hb
    replace BK14z := bb BK14z hb
    replace BK57z := bb BK57z hb
    replace BK58z := bb BK58z hb
    replace HB := bS hb
    obtain ⟨Ao148z, co149z, eo150z⟩ := Kd.R_slice HO147z.out
    (first | subst eo150z | (injection eo150z with f1_ f2_ f3_; have f4_ := f1_.symm; have f5_ := f3_.symm; clear f1_ f2_ f3_; subst f4_; subst f5_))
    refine hK.out _ _ ⟨k0 BK57z 0, k0 BK57z 1, k0 BK57z 2, k0 BK58z 0, k0 BK58z 1, k0 BK58z 2⟩ (fun hHeld => ?_)
    clear hK K
    refine norm_ (a' := ?_) ?_ ?_
    rotate_left
    ·show Act.put _ (some 26) _ = _
     exact pP
    refine pu 15 (some 32) #[true, true, true, true, true, true, true, true, true, true, true, true, true, true, true, true, false, false, false, false, false] (h := ?_)
    refine one_ (i := 16) (N := some 33) #[true, true, true, true, true, true, true, true, true, true, true, true, true, true, true, true, true, false, false, false, false] rfl rfl (one_of HT_.out (by kernel_rfl)) (by decide) (fun K hK => ?_)
    refine goes_ Tryz.func23 (by kernel_rfl) rfl #[.agg #[.bool (t674 != t679), .slice Ao148z t686.length co149z, .int .i64 (wrap64 (t678 + t683))]] (by rfl) rfl rfl pA ?_
    with_reducible refine (bolterref02_Made.calls k (t674 != t679) (fun k_ => some k_ = (.slice Ao148z t686.length co149z : Value).ownBlock) (.slice Ao148z t686.length co149z) t686 (wrap64 (t678 + t683)) t689 t690 t693 t694 w _ ?side1 ?side2 A8.out).mono ?_
    (case side1 => exact pB)
    (case side2 => exact Kd.R_tight rfl HO147z.out)
    rintro e w151z ⟨v152z, rfl, ho49z, hb, hkp⟩
    refine ⟨_, rfl, ?_⟩
    have HO153z := am (Kd.R_mono (ok' := fun k_ => True) ho49z (fun k_ hk_ => trivial))
    replace BK2z := am (blk_kept (blk_below BK2z.out pl) hkp (fun e_ => Kd.R_ne HO147z.out BK2z.out (by decide) e_))
    replace BK7z := am (blk_kept (blk_below BK7z.out pl) hkp (fun e_ => Kd.R_ne HO147z.out BK7z.out (by decide) e_))
    replace BK14z := am (blk_kept (blk_below BK14z.out pl) hkp (fun e_ => Kd.R_ne HO147z.out BK14z.out (by decide) e_))
    replace HO55z := am (Kd.R_mono (ok' := fun k_ => some k_ ≠ (.slice Ao80z t680.length co81z : Value).ownBlock) (Kd.R_keptB (HO55z.out) hkp (fun k_ hk_ hs_ => (hk_.2) hs_)) (fun k_ hk_ => hk_.1.1))
    replace HO56z := am (Kd.R_mono (ok' := fun k_ => some k_ ≠ (.slice Ao77z t675.length co78z : Value).ownBlock) (Kd.R_keptB (HO56z.out) hkp (fun k_ hk_ hs_ => (hk_.2) hs_)) (fun k_ hk_ => hk_.1.1))
    replace BK57z := am (blk_kept (blk_below BK57z.out pl) hkp (fun e_ => Kd.R_ne HO147z.out BK57z.out (by decide) e_))
    replace BK58z := am (blk_kept (blk_below BK58z.out pl) hkp (fun e_ => Kd.R_ne HO147z.out BK58z.out (by decide) e_))
    replace HB := am hb
    clear HO147z
    obtain ⟨Ao154z, co155z, eo156z⟩ := Kd.R_slice HO153z.out
    (first | subst eo156z | (injection eo156z with f1_ f2_ f3_; have f4_ := f1_.symm; have f5_ := f3_.symm; clear f1_ f2_ f3_; subst f4_; subst f5_))
    refine hK.out _ _ ⟨k0 BK57z 0, k0 BK57z 1, k0 BK57z 2, k0 BK58z 0, k0 BK58z 1, k0 BK58z 2⟩ (fun hHeld => ?_)
    clear hK K
    refine norm_ (a' := ?_) ?_ ?_
    rotate_left
    ·show Act.put _ (some 33) _ = _
     exact pP
    refine pu 17 (some 34) #[true, true, true, true, true, true, true, true, true, true, true, true, true, true, true, true, true, true, false, false, false] (h := ?_)
    refine pu 18 (some 35) #[true, true, true, true, true, true, true, true, true, true, true, true, true, true, true, true, true, true, true, false, false] (h := ?_)
    refine one_ (i := 19) (N := none) #[true, true, true, true, true, true, true, true, true, true, true, true, true, true, true, true, true, true, true, true, false] rfl rfl (one_of HT_.out (by kernel_rfl)) (by decide) (fun K hK => ?_)
    have hs157z : w151z.cell? ⟨gb12z, 0, none⟩ = some (.bool false) := k0 BK14z 0
    have hfs158z := blk_frozen BK14z.out 0
    have hns159z := NB17z.out
    have hns160z := NB19z.out
    have hns161z := NB66z.out
    have hns162z := NB76z.out
    have hms163z := NB18z.out
    have hms164z := NB20z.out
    have hms165z := NB65z.out
    have hms166z := NB75z.out
    have hs167z : w151z.cell? ⟨gb12z, 1, none⟩ = some (.slice none 0 0) := k0 BK14z 1
    have hfs168z := blk_frozen BK14z.out 1
    have hns169z := NB17z.out
    have hns170z := NB19z.out
    have hns171z := NB66z.out
    have hns172z := NB76z.out
    have hms173z := NB18z.out
    have hms174z := NB20z.out
    have hms175z := NB65z.out
    have hms176z := NB75z.out
    have hs177z : w151z.cell? ⟨gb12z, 2, none⟩ = some (.int .i64 0) := k0 BK14z 2
    have hfs178z := blk_frozen BK14z.out 2
    have hns179z := NB17z.out
    have hns180z := NB19z.out
    have hns181z := NB66z.out
    have hns182z := NB76z.out
    have hms183z := NB18z.out
    have hms184z := NB20z.out
    have hms185z := NB65z.out
    have hms186z := NB75z.out
    refine skip_ (w1 := ?_) (by rfl) rfl ?_ ?_
    rotate_left
    ·go_simp
     rfl
    refine hK.out _ _ ⟨((cell_far (p := ⟨gb12z, _, none⟩) NB66z.out _).trans (((cell_far (p := ⟨gb12z, _, none⟩) NB66z.out _).trans (((cell_far (p := ⟨gb12z, _, none⟩) NB66z.out _).trans (hHeld.1)))))), ((cell_far (p := ⟨gb12z, _, none⟩) NB66z.out _).trans (((cell_far (p := ⟨gb12z, _, none⟩) NB66z.out _).trans (((cell_far (p := ⟨gb12z, _, none⟩) NB66z.out _).trans (hHeld.2.1)))))), ((cell_far (p := ⟨gb12z, _, none⟩) NB66z.out _).trans (((cell_far (p := ⟨gb12z, _, none⟩) NB66z.out _).trans (((cell_far (p := ⟨gb12z, _, none⟩) NB66z.out _).trans (hHeld.2.2.1)))))), ((cell_far (p := ⟨gb12z, _, none⟩) NB76z.out _).trans (((cell_far (p := ⟨gb12z, _, none⟩) NB76z.out _).trans (((cell_far (p := ⟨gb12z, _, none⟩) NB76z.out _).trans (hHeld.2.2.2.1)))))), ((cell_far (p := ⟨gb12z, _, none⟩) NB76z.out _).trans (((cell_far (p := ⟨gb12z, _, none⟩) NB76z.out _).trans (((cell_far (p := ⟨gb12z, _, none⟩) NB76z.out _).trans (hHeld.2.2.2.2.1)))))), ((cell_far (p := ⟨gb12z, _, none⟩) NB76z.out _).trans (((cell_far (p := ⟨gb12z, _, none⟩) NB76z.out _).trans (((cell_far (p := ⟨gb12z, _, none⟩) NB76z.out _).trans (hHeld.2.2.2.2.2))))))⟩ (fun hHeld => ?_)
    clear hK K
    refine pu 20 (some 5) #[true, true, true, true, true, true, true, true, true, true, true, true, true, true, true, true, true, true, true, true, true] (h := ?_)
    refine done_ (done_of HT_.out (by kernel_rfl)) ?_
    try go_wp2
    refine bodyPost_ret (results_ct rfl _ _ gb12z 24 #[.bool t689, .slice Ao154z t690.length co155z, .int .i64 t693] (0, 0) _ rfl (by exact p3 BK14z) Tryz.underlying24 rfl (by kernel_rfl)) rfl ?_
    exact ⟨_, pE, by refine rp ?_; exact Kd.R_mono (Kd.R_far (p := ⟨gb12z, 2, none⟩) (Kd.R_far (p := ⟨gb12z, 1, none⟩) (Kd.R_far (p := ⟨gb12z, 0, none⟩) (Kd.R_types HO153z.out BK14z.out (by decide)) (fun _ hk => hk.2) (.bool t689)) (fun _ hk => hk.2) (.slice Ao154z t690.length co155z)) (fun _ hk => hk.2) (.int .i64 t693)) (fun _ hk => trivial), pB⟩
  | refine bodyPost_ret (results_ct rfl _ _ gb12z 24 #[.bool false, .slice none 0 0, .int .i64 0] (0, 0) _ rfl (by exact p3 BK14z) Tryz.underlying24 rfl (by kernel_rfl)) rfl ?_
    exact ⟨_, pE, pN, pB⟩) : P := h
theorem bolterref02_Mul.calls (k : Nat) (a0_0 : Bool) (A0_1 : Option Addr) (c0_1 : Nat) (l0_1 : List Int) (a0_2 : Int) (a1_0 : Bool) (A1_1 : Option Addr) (c1_1 : Nat) (l1_1 : List Int) (a1_2 : Int) (r1 : Bool) (r2 : List Int) (r3 : Int) (r4 : Int) (w : World) (hr0_1 : Kd.C (Kd.int .u32) w A0_1 l0_1.length l0_1) (hc0_1 : l0_1.length <= c0_1) (hr1_1 : Kd.C (Kd.int .u32) w A1_1 l1_1.length l1_1) (hc1_1 : l1_1.length <= c1_1) (h : bolterref02_Mul.f k a0_0 l0_1 a0_2 a1_0 l1_1 a1_2 = some (r1, r2, r3, r4)) :
  Calls Tryz.prog 17 #[.agg #[.bool a0_0, .slice A0_1 l0_1.length c0_1, .int .i64 a0_2], .agg #[.bool a1_0, .slice A1_1 l1_1.length c1_1, .int .i64 a1_2]] w fun e w' => ∃ v1_ : Value, e = .returned (.tuple #[.agg #[.bool r1, v1_, .int .i64 r3], .int .i64 r4]) /\ Kd.R (Kd.int .u32) 85 w' w.heap.size (fun _ => True) v1_ r2 /\ Below w.heap.size w w' := by
 have hu24 := Tryz.underlying24
 have hu30 := Tryz.underlying30
 have HR0_1 := am hr0_1
 have HC0_1 := am hc0_1
 clear hr0_1 hc0_1
 have HR1_1 := am hr1_1
 have HC1_1 := am hc1_1
 clear hr1_1 hc1_1
 have HB := am (Below.refl w.heap.size w)
 have H : ((bolterref02_checks.f k a0_0 l0_1 a0_2 a1_0 l1_1 a1_2).bind fun t673 => (if t673 = 0 then ((bolterref02_Of.f k a0_0 l0_1 a0_2).bind fun bt674 => ((bolterref02_Of.f k a1_0 l1_1 a1_2).bind fun bt679 => ((bolterref01_Product.f k bt674.2.1 bt679.2.1).bind fun t686 => ((bolterref02_Made.f k (bt674.1 != bt679.1) t686 (wrap64 (bt674.2.2 + bt679.2.2))).bind fun bt689 => (some (bt689.1, bt689.2.1, bt689.2.2.1, bt689.2.2.2)))))) else (some (false, ([] : List Int), 0, 9)))) = some (r1, r2, r3, r4) := h
 clear h
 obtain ⟨t673, A3, H⟩ := ob H
 by_cases c4 : t673 = 0
 ·rw [if_pos c4] at H
  have c4b0 : (t673 == 0) = true := beq_iff_eq.mpr c4
  have c4b1 : (t673 != 0) = false := bne_eq_false_iff_eq.mpr c4
  clear c4
  obtain ⟨⟨t674, t675, t678⟩, A5, H⟩ := ob H; (try dsimp only at H)
  obtain ⟨⟨t679, t680, t683⟩, A6, H⟩ := ob H; (try dsimp only at H)
  obtain ⟨t686, A7, H⟩ := ob H
  obtain ⟨⟨t689, t690, t693, t694⟩, A8, H⟩ := ob H; (try dsimp only at H)
  simp only [Option.some.injEq, Prod.mk.injEq] at H
  obtain ⟨rfl, rfl, rfl, rfl⟩ := H
  exact bolterref02_Mul.leaf
 ·rw [if_neg c4] at H
  have c4b0 : (t673 == 0) = false := beq_eq_false_iff_ne.mpr c4
  have c4b1 : (t673 != 0) = true := bne_iff_ne.mpr c4
  simp only [Option.some.injEq, Prod.mk.injEq] at H
  obtain ⟨rfl, rfl, rfl, rfl⟩ := H
  exact bolterref02_Mul.leaf
mutual
def bolterref02_Same.j0 : Nat -> Bool -> Bool -> List Int -> Int -> Bool -> List Int -> Int -> Option (Bool)
 | 0, _, _, _, _, _, _, _ => none
 | k + 1, x26, x696000, x696001, x696002, x697000, x697001, x697002 => if x26 = true then (some false) else (bolterref02_Same.l0 k 0 x696000 x696001 x696002 x697000 x697001 x697002)
def bolterref02_Same.l0 : Nat -> Int -> Bool -> List Int -> Int -> Bool -> List Int -> Int -> Option (Bool)
 | 0, _, _, _, _, _, _, _ => none
 | k + 1, x5, x696000, x696001, x696002, x697000, x697001, x697002 => if x5 < (x696001.length : Int) then (if 0 <= x5 then (if x5 < (x697001.length : Int) then (if (rd x696001 x5) = (rd x697001 x5) then (bolterref02_Same.l0 k (wrap64 (x5 + 1)) x696000 x696001 x696002 x697000 x697001 x697002) else (some false)) else (none)) else (none)) else (some true)
end
def bolterref02_Same.f (k : Nat) (a0_0 : Bool) (l0_1 : List Int) (a0_2 : Int) (a1_0 : Bool) (l1_1 : List Int) (a1_2 : Int) : Option (Bool) := if (a0_0 != a1_0) = true then (bolterref02_Same.j0 k true a0_0 l0_1 a0_2 a1_0 l1_1 a1_2) else (if a0_2 = a1_2 then (bolterref02_Same.j0 k ((l0_1.length : Int) != (l1_1.length : Int)) a0_0 l0_1 a0_2 a1_0 l1_1 a1_2) else (bolterref02_Same.j0 k true a0_0 l0_1 a0_2 a1_0 l1_1 a1_2))
theorem bolterref02_Same.calls (k : Nat) (a0_0 : Bool) (A0_1 : Option Addr) (c0_1 : Nat) (l0_1 : List Int) (a0_2 : Int) (a1_0 : Bool) (A1_1 : Option Addr) (c1_1 : Nat) (l1_1 : List Int) (a1_2 : Int) (r : Bool) (w : World) (hr0_1 : Kd.C (Kd.int .u32) w A0_1 l0_1.length l0_1) (hc0_1 : l0_1.length <= c0_1) (hr1_1 : Kd.C (Kd.int .u32) w A1_1 l1_1.length l1_1) (hc1_1 : l1_1.length <= c1_1) (h : bolterref02_Same.f k a0_0 l0_1 a0_2 a1_0 l1_1 a1_2 = some r) :
  Calls Tryz.prog 21 #[.agg #[.bool a0_0, .slice A0_1 l0_1.length c0_1, .int .i64 a0_2], .agg #[.bool a1_0, .slice A1_1 l1_1.length c1_1, .int .i64 a1_2]] w fun e w' => e = .returned (.bool r) /\ Below w.heap.size w w' := by
 have hu24 := Tryz.underlying24
 have HR0_1 := am hr0_1
 have HC0_1 := am hc0_1
 clear hr0_1 hc0_1
 have HR1_1 := am hr1_1
 have HC1_1 := am hc1_1
 clear hr1_1 hc1_1
 have HB := am (Below.refl w.heap.size w)
 have H : (if (a0_0 != a1_0) = true then (bolterref02_Same.j0 k true a0_0 l0_1 a0_2 a1_0 l1_1 a1_2) else (if a0_2 = a1_2 then (bolterref02_Same.j0 k ((l0_1.length : Int) != (l1_1.length : Int)) a0_0 l0_1 a0_2 a1_0 l1_1 a1_2) else (bolterref02_Same.j0 k true a0_0 l0_1 a0_2 a1_0 l1_1 a1_2))) = some r := h
 clear h
 have HC3 := am H
 clear H
 go_enter Tryz.func21, Tryz.ntmps21
 go_upto_region 1 with (first | ((with_reducible refine gd 2 ?_); (try (refine gate_guard (by rfl) ?_; dsimp only)); refine bx 2 #[.bool a0_0, .slice A0_1 l0_1.length c0_1, .int .i64 a0_2] 24 (h := ?_); intro gb695 hg w4 hbox hb; have BK695 := am hbox; have GW695 := gW hg; have GE695 := gW hg; replace HB := bS hb; clear hb hbox hg) | ((with_reducible refine gd 3 ?_); (try (refine gate_guard (by rfl) ?_; dsimp only)); refine bx 3 #[.bool a1_0, .slice A1_1 l1_1.length c1_1, .int .i64 a1_2] 24 (h := ?_); intro gb696 hg w5 hbox hb; have BK696 := am hbox; have GW696 := gW hg; have GE696 := gW hg; have NB695_696 := nL hg BK695; have NB696_695 := nG hg BK695; replace BK695 := bb BK695 hb; replace HB := bS hb; clear hb hbox hg))
 repeat (go_quiet (first | ((with_reducible refine gd 2 ?_); (try (refine gate_guard (by rfl) ?_; dsimp only)); refine bx 2 #[.bool a0_0, .slice A0_1 l0_1.length c0_1, .int .i64 a0_2] 24 (h := ?_); intro gb695 hg w4 hbox hb; have BK695 := am hbox; have GW695 := gW hg; have GE695 := gW hg; replace HB := bS hb; clear hb hbox hg) | ((with_reducible refine gd 3 ?_); (try (refine gate_guard (by rfl) ?_; dsimp only)); refine bx 3 #[.bool a1_0, .slice A1_1 l1_1.length c1_1, .int .i64 a1_2] 24 (h := ?_); intro gb696 hg w5 hbox hb; have BK696 := am hbox; have GW696 := gW hg; have GE696 := gW hg; have NB695_696 := nL hg BK695; have NB696_695 := nG hg BK695; replace BK695 := bb BK695 hb; replace HB := bS hb; clear hb hbox hg)); go_upto_region 1 with (first | ((with_reducible refine gd 2 ?_); (try (refine gate_guard (by rfl) ?_; dsimp only)); refine bx 2 #[.bool a0_0, .slice A0_1 l0_1.length c0_1, .int .i64 a0_2] 24 (h := ?_); intro gb695 hg w4 hbox hb; have BK695 := am hbox; have GW695 := gW hg; have GE695 := gW hg; replace HB := bS hb; clear hb hbox hg) | ((with_reducible refine gd 3 ?_); (try (refine gate_guard (by rfl) ?_; dsimp only)); refine bx 3 #[.bool a1_0, .slice A1_1 l1_1.length c1_1, .int .i64 a1_2] 24 (h := ?_); intro gb696 hg w5 hbox hb; have BK696 := am hbox; have GW696 := gW hg; have GE696 := gW hg; have NB695_696 := nL hg BK695; have NB696_695 := nG hg BK695; replace BK695 := bb BK695 hb; replace HB := bS hb; clear hb hbox hg)))
 (try simp only [Act.put, List.setIfInBounds_toArray, List.set_cons_zero, List.set_cons_succ])
 go_cut [26] (fun v26 wc => ∃ (kq : Nat) (x26_2 : Bool), v26 = .bool x26_2 /\ Aside0 (bolterref02_Same.j0 kq x26_2 a0_0 l0_1 a0_2 a1_0 l1_1 a1_2 = some r) /\ Aside0 (kq <= k) /\ Aside0 (wc.heap[gb695]? = some (.cells #[.bool a0_0, (.slice A0_1 l0_1.length c0_1), .int .i64 a0_2] 24 (0, 0))) /\ Aside0 (wc.heap[gb696]? = some (.cells #[.bool a1_0, (.slice A1_1 l1_1.length c1_1), .int .i64 a1_2] 24 (0, 0))) /\ Aside0 (Below w.heap.size w wc))
 case first =>
  have H := HC3.out
  clear HC3
  by_cases c6 : (a0_0 != a1_0) = true
  ·rw [if_pos c6] at H
   have c6b0 : (a0_0 != a1_0) = true := c6
   (try (have c6b1 : decide (a0_0 = a1_0) = false := by simpa using c6))
   (try (have c6b2 : (a0_0 == a1_0) = false := by simpa using c6))
   (try (have c6b3 : ¬ (a0_0 = a1_0) := by simpa using c6))
   clear c6
   (first | rw [c6b0] | (simp only [i64_w, i32_w]; rw [c6b0]) | skip)
   have H' := am H
   clear H
   have hnb7 := NB695_696.out
   have hnc7 := NB696_695.out
   obtain ⟨hcz8_0, hcz8_1, hcz8_2, hfz8_0, hfz8_1, hfz8_2⟩ := cEc BK695.out
   obtain ⟨hcz9_0, hcz9_1, hcz9_2, hfz9_0, hfz9_1, hfz9_2⟩ := cEc BK696.out
   go_wp2
   repeat (go_quiet (fail); try go_wp2)
   go_meet
   case rel => exact ⟨_, (true), pR, H', ⟨by first | omega | exact Nat.le_refl _⟩, ⟨blk_below BK695.out pl⟩, ⟨blk_below BK696.out pl⟩, ⟨pB⟩⟩
  ·rw [if_neg c6] at H
   have c6b0 : (a0_0 != a1_0) = false := by simpa using c6
   (try (have c6b1 : decide (a0_0 = a1_0) = true := by simpa using c6))
   (try (have c6b2 : (a0_0 == a1_0) = true := by simpa using c6))
   clear c6
   (first | rw [c6b0] | (simp only [i64_w, i32_w]; rw [c6b0]) | skip)
   by_cases c10 : a0_2 = a1_2
   ·rw [if_pos c10] at H
    have c10b0 : (a0_2 == a1_2) = true := beq_iff_eq.mpr c10
    have c10b1 : (a0_2 != a1_2) = false := bne_eq_false_iff_eq.mpr c10
    clear c10
    have H' := am H
    clear H
    have hnb11 := NB695_696.out
    have hnc11 := NB696_695.out
    obtain ⟨hcz12_0, hcz12_1, hcz12_2, hfz12_0, hfz12_1, hfz12_2⟩ := cEc BK695.out
    obtain ⟨hcz13_0, hcz13_1, hcz13_2, hfz13_0, hfz13_1, hfz13_2⟩ := cEc BK696.out
    go_wp2
    repeat (go_quiet (fail); try go_wp2)
    go_meet
    case rel => exact ⟨_, (((l0_1.length : Int) != (l1_1.length : Int))), pR, H', ⟨by first | omega | exact Nat.le_refl _⟩, ⟨blk_below BK695.out pl⟩, ⟨blk_below BK696.out pl⟩, ⟨pB⟩⟩
   ·rw [if_neg c10] at H
    have c10b0 : (a0_2 == a1_2) = false := beq_eq_false_iff_ne.mpr c10
    have c10b1 : (a0_2 != a1_2) = true := bne_iff_ne.mpr c10
    have H' := am H
    clear H
    have hnb14 := NB695_696.out
    have hnc14 := NB696_695.out
    obtain ⟨hcz15_0, hcz15_1, hcz15_2, hfz15_0, hfz15_1, hfz15_2⟩ := cEc BK695.out
    obtain ⟨hcz16_0, hcz16_1, hcz16_2, hfz16_0, hfz16_1, hfz16_2⟩ := cEc BK696.out
    go_wp2
    repeat (go_quiet (fail); try go_wp2)
    go_meet
    case rel => exact ⟨_, (true), pR, H', ⟨by first | omega | exact Nat.le_refl _⟩, ⟨blk_below BK695.out pl⟩, ⟨blk_below BK696.out pl⟩, ⟨pB⟩⟩
 case rest =>
  clear HC3
  obtain ⟨kq, x26_2, rfl, HA, HJ2, BK695, BK696, HB⟩ := hcut
  cases kq with
  | zero => exact absurd HA.out (by simp [bolterref02_Same.j0])
  | succ kj2 =>
   have H := HA.out
   clear HA
   simp only [bolterref02_Same.j0] at H
   by_cases c17 : x26_2 = true
   ·subst c17
    rw [if_pos rfl] at H
    obtain rfl := Option.some.inj H
    go_wp2
    repeat (go_quiet (fail); try go_wp2)
    go_ret
    exact ⟨pE, pB⟩
   ·replace c17 := Bool.eq_false_iff.mpr c17
    subst c17
    rw [if_neg (show ¬ (false = true) by decide)] at H
    have H' := am H
    clear H
    go_wp2
    repeat (go_quiet (fail); try go_wp2)
    go_loopg [5] kj2 (fun kq v5 w' => ∃ (x5_2 : Int), v5 = .int .i64 x5_2 /\ Aside0 (bolterref02_Same.l0 kq x5_2 a0_0 l0_1 a0_2 a1_0 l1_1 a1_2 = some r) /\ Aside0 (kq <= kj2) /\ Aside0 (w'.heap[gb695]? = some (.cells #[.bool a0_0, (.slice A0_1 l0_1.length c0_1), .int .i64 a0_2] 24 (0, 0))) /\ Aside0 (w'.heap[gb696]? = some (.cells #[.bool a1_0, (.slice A1_1 l1_1.length c1_1), .int .i64 a1_2] 24 (0, 0))) /\ Aside0 (Below w.heap.size w w'))
    case atStart => exact ⟨(0), pR, H', ⟨Nat.le_refl _⟩, ⟨blk_below BK695.out pl⟩, ⟨blk_below BK696.out pl⟩, ⟨pB⟩⟩
    case round =>
     clear H'
     obtain ⟨x5_2, rfl, HA, HK2, BK695, BK696, HB⟩ := hrel
     cases gk with
     | zero => exact absurd HA.out (by simp [bolterref02_Same.l0])
     | succ k2 =>
      have H := HA.out
      clear HA
      simp only [bolterref02_Same.l0] at H
      by_cases c18 : x5_2 < (l0_1.length : Int)
      ·rw [if_pos c18] at H
       have c18b0 : decide (x5_2 < (l0_1.length : Int)) = true := decide_eq_true c18
       clear c18
       by_cases c19 : 0 <= x5_2
       ·rw [if_pos c19] at H
        have c19b0 : decide (0 <= x5_2) = true := decide_eq_true c19
        clear c19
        by_cases c20 : x5_2 < (l1_1.length : Int)
        ·rw [if_pos c20] at H
         have c20b0 : decide (x5_2 < (l1_1.length : Int)) = true := decide_eq_true c20
         clear c20
         by_cases c21 : (rd l0_1 x5_2) = (rd l1_1 x5_2)
         ·rw [if_pos c21] at H
          have c21b0 : ((rd l0_1 x5_2) == (rd l1_1 x5_2)) = true := beq_iff_eq.mpr c21
          have c21b1 : ((rd l0_1 x5_2) != (rd l1_1 x5_2)) = false := bne_eq_false_iff_eq.mpr c21
          clear c21
          have H' := am H
          clear H
          have hnb22 := NB695_696.out
          have hnc22 := NB696_695.out
          obtain ⟨hcz23_0, hcz23_1, hcz23_2, hfz23_0, hfz23_1, hfz23_2⟩ := cEc BK695.out
          have p697 : 0 <= (x5_2 : Int) := of_decide_eq_true pQ
          have q697 : x5_2 < (l0_1.length : Int) := of_decide_eq_true pQ
          obtain ⟨ad697, e697, hx697_0⟩ := Kd.at_int HR0_1.out x5_2 p697 q697
          cases e697
          replace hx697_0 := (HB.out.cell (World.block_lt_of_cell? w _ hx697_0)).trans hx697_0
          replace p697 := eq_true p697
          replace q697 := eq_true q697
          obtain ⟨hcz24_0, hcz24_1, hcz24_2, hfz24_0, hfz24_1, hfz24_2⟩ := cEc BK696.out
          have p698 : 0 <= (x5_2 : Int) := of_decide_eq_true pQ
          have q698 : x5_2 < (l1_1.length : Int) := of_decide_eq_true pQ
          obtain ⟨ad698, e698, hx698_0⟩ := Kd.at_int HR1_1.out x5_2 p698 q698
          cases e698
          replace hx698_0 := (HB.out.cell (World.block_lt_of_cell? w _ hx698_0)).trans hx698_0
          replace p698 := eq_true p698
          replace q698 := eq_true q698
          go_wp2
          repeat (go_quiet (fail); try go_wp2)
          go_roundg k2
          case measure => have := HJ2.out; have := HK2.out; omega
          case rel => exact ⟨(wrap64 (x5_2 + 1)), pR, H', ⟨by have := HJ2.out; have := HK2.out; omega⟩, ⟨blk_below BK695.out pl⟩, ⟨blk_below BK696.out pl⟩, ⟨pB⟩⟩
         ·rw [if_neg c21] at H
          have c21b0 : ((rd l0_1 x5_2) == (rd l1_1 x5_2)) = false := beq_eq_false_iff_ne.mpr c21
          have c21b1 : ((rd l0_1 x5_2) != (rd l1_1 x5_2)) = true := bne_iff_ne.mpr c21
          obtain rfl := Option.some.inj H
          have hnb25 := NB695_696.out
          have hnc25 := NB696_695.out
          obtain ⟨hcz26_0, hcz26_1, hcz26_2, hfz26_0, hfz26_1, hfz26_2⟩ := cEc BK695.out
          have p697 : 0 <= (x5_2 : Int) := of_decide_eq_true pQ
          have q697 : x5_2 < (l0_1.length : Int) := of_decide_eq_true pQ
          obtain ⟨ad697, e697, hx697_0⟩ := Kd.at_int HR0_1.out x5_2 p697 q697
          cases e697
          replace hx697_0 := (HB.out.cell (World.block_lt_of_cell? w _ hx697_0)).trans hx697_0
          replace p697 := eq_true p697
          replace q697 := eq_true q697
          obtain ⟨hcz27_0, hcz27_1, hcz27_2, hfz27_0, hfz27_1, hfz27_2⟩ := cEc BK696.out
          have p698 : 0 <= (x5_2 : Int) := of_decide_eq_true pQ
          have q698 : x5_2 < (l1_1.length : Int) := of_decide_eq_true pQ
          obtain ⟨ad698, e698, hx698_0⟩ := Kd.at_int HR1_1.out x5_2 p698 q698
          cases e698
          replace hx698_0 := (HB.out.cell (World.block_lt_of_cell? w _ hx698_0)).trans hx698_0
          replace p698 := eq_true p698
          replace q698 := eq_true q698
          go_wp2
          repeat (go_quiet (fail); try go_wp2)
          go_ret
          exact ⟨pE, pB⟩
        ·rw [if_neg c20] at H
         exact absurd H (by simp)
       ·rw [if_neg c19] at H
        exact absurd H (by simp)
      ·rw [if_neg c18] at H
       have c18b0 : decide (x5_2 < (l0_1.length : Int)) = false := decide_eq_false c18
       clear c18
       obtain rfl := Option.some.inj H
       have hnb28 := NB695_696.out
       have hnc28 := NB696_695.out
       obtain ⟨hcz29_0, hcz29_1, hcz29_2, hfz29_0, hfz29_1, hfz29_2⟩ := cEc BK695.out
       go_wp2
       repeat (go_quiet (fail); try go_wp2)
       go_ret
       exact ⟨pE, pB⟩
end YtjbjkmccfocikaaGreatDoor.B
end
section
namespace YtjbjkmccfocikaaGreatDoor.P
open Go.RowKit YtjbjkmccfocikaaGreatDoor.B YtjbjkmccfocikaaGreatDoorW.PrintWords YtjbjkmccfocikaaGreatDoorW.PrintLast YtjbjkmccfocikaaGreatDoorW.PrintMore YtjbjkmccfocikaaGreatDoor.P.Nm
def okB (a : Dm) : Bool := if a.n = 0 then (!a.neg && decide (a.e = 0)) else (decide (a.n % 10 ≠ 0) && (decide (nd a.n <= 300) && (decide (-1000 <= a.e) && decide (a.e <= 1000))))
theorem okB_iff {a : Dm} : okB a = true ↔ OkD a := by
 obtain ⟨s, n, e⟩ := a
 unfold okB
 by_cases h : n = 0
 ·subst h
  simp only [if_true]
  constructor
  ·intro h
   simp only [Bool.and_eq_true, Bool.not_eq_true', decide_eq_true_eq] at h
   obtain ⟨rfl, rfl⟩ := h
   exact OkD.zeroD
  ·intro h
   have := h.zero rfl
   unfold zeroD at this
   injection this with h1 h2 h3
   simp [h1, h3]
 ·simp only [if_neg h, Bool.and_eq_true, decide_eq_true_eq]
  constructor
  ·intro ⟨h1, h2, h3, h4⟩
   exact ⟨fun e => absurd e h, fun _ => h1, h2, h3, h4⟩
  ·intro h1
   exact ⟨h1.last h, h1.len, h1.low, h1.high⟩
def chk (a : Bool) (l : List Int) (e : Int) : Int := if chkL l = 0 /\ l.length <= 40 /\ okB ⟨a, num l, e⟩ = true then 0 else 9
theorem limbs_len9 {n k : Nat} (h : nd n <= 9 * k) : (limbs n).length <= k := by
 refine limbs_len_of (Nat.lt_of_lt_of_le (nd_lt n) ?_)
 refine Nat.le_trans (Nat.pow_le_pow_right (by omega) h) ?_
 rw [Nat.pow_mul]
 exact Nat.pow_le_pow_left (by decide) _
theorem okd_limbs {a : Dm} (h : OkD a) : (limbs a.n).length <= 34 := limbs_len9 (by have := h.len; omega)
theorem chk_of {a : Dm} (h : OkD a) : chk a.neg (limbs a.n) a.e = 0 := by
 have h1 := okd_limbs h
 unfold chk
 rw [if_pos ⟨chk_limbs (by omega), by omega, by rw [num_limbs]; exact okB_iff.2 h⟩]
theorem of_chk {a : Bool} {l : List Int} {e : Int} (hd : Dg 4294967296 l) (h : chk a l e = 0) : ∃ D : Dm, OkD D /\ a = D.neg /\ l = limbs D.n /\ e = D.e := by
 unfold chk at h
 by_cases hc : chkL l = 0 /\ l.length <= 40 /\ okB ⟨a, num l, e⟩ = true
 ·obtain ⟨h1, h2, h3⟩ := hc
  exact ⟨⟨a, num l, e⟩, okB_iff.1 h3, rfl, (limbs_num ((chkL_ok hd).1 h1)).symm, rfl⟩
 ·rw [if_neg hc] at h; cases h
abbrev outD (p : Dm × Int) : Bool × List Int × Int × Int := (p.1.neg, limbs p.1.n, p.1.e, p.2)
theorem ROf_tells (a : Bool) (l : List Int) (e : Int) (hd : Dg 4294967296 l) (hl : l.length <= 90000) : Tells (fun k => bolterref02_Of.f k a l e) (a, digs (num l), e) := by
 unfold bolterref02_Of.f
 exact (Digits_tells l hd hl).bind (Tells.pure _)
theorem ROf (D : Dm) (h : nd D.n <= 90000) : Tells (fun k => bolterref02_Of.f k D.neg (limbs D.n) D.e) (D.neg, digs D.n, D.e) := by
 have := ROf_tells D.neg (limbs D.n) D.e (limbs_dg _) (Nat.le_trans (limbs_len _) h)
 rw [num_limbs] at this
 exact this
theorem digs_low {n : Nat} (h : n ≠ 0) : (digs n).getD 0 0 = ((n % 10 : Nat) : Int) := by rw [digs_step h]; rfl
theorem Made_l0 (s : Bool) : ∀ (f n : Nat) (e : Int), n <= f -> n ≠ 0 -> nd n <= 100000 -> -1000000000 <= e -> e + nd n <= 1000000000 -> Tells (fun k => bolterref02_Made.l0 k (digs n) s [] e) (outD (settleD ⟨s, n, e⟩))
 | 0, n, e, hf, h0, hn, he1, he2 => by omega
 | f + 1, n, e, hf, h0, hn, he1, he2 => by
  have hpos := nd_pos h0
  have hlen : (digs n).length = nd n := rfl
  refine Tells.succ ?_
  simp only [bolterref02_Made.l0]
  rw [show (0 : Int) = ((0 : Nat) : Int) from rfl, rd_n, digs_low h0]
  refine Tells.ifp (by omega) ?_
  by_cases hz : n % 10 = 0
  ·have hne : n / 10 ≠ 0 := by omega
   have hnd : nd n = nd (n / 10) + 1 := by
    show (digs n).length = _
    rw [digs_step h0]; rfl
   have ih := Made_l0 s f (n / 10) (e + 1) (by omega) hne (by omega) (by omega) (by omega)
   have hs := settle_shift s (n / 10) (e + 1) 1
   rw [show n / 10 * 10 ^ 1 = n by omega, show e + 1 - ((1 : Nat) : Int) = e by omega] at hs
   rw [hs]
   refine Tells.ifp (by omega) (Tells.ifp (by omega) ?_)
   rw [w64n (by omega) (by omega), digs_step h0]
   exact ih
  ·obtain ⟨hc, ht⟩ := core_self hz
   unfold settleD
   simp only [hc, ht]
   rw [if_neg h0, show e + ((0 : Nat) : Int) = e by omega]
   refine Tells.ifn (by omega) ?_
   by_cases h3 : 300 < nd n
   ·rw [if_pos h3]
    exact Tells.ifp (by omega) (Tells.pure _)
   ·rw [if_neg h3]
    refine Tells.ifn (by omega) ?_
    by_cases h4 : e < -1000
    ·rw [if_pos (.inl h4)]
     exact Tells.ifp h4 (Tells.pure _)
    ·refine Tells.ifn h4 ?_
     by_cases h5 : 1000 < e
     ·rw [if_pos (.inr h5)]
      exact Tells.ifp h5 (Tells.pure _)
     ·rw [if_neg (by omega)]
      exact Tells.ifn h5 ((Limbs_tells n (by omega)).bind (Tells.pure _))
theorem Made_tells (s : Bool) (L : List Int) (n : Nat) (e : Int) (hd : Dg 10 L) (hv : val 10 L = n) (hl : L.length <= 100000) (he1 : -1000000000 <= e) (he2 : e <= 900000000) : Tells (fun k => bolterref02_Made.f k s L e) (outD (settleD ⟨s, n, e⟩)) := by
 have ht := Trim_tells L (by omega)
 rw [digs_trim hd hv] at ht
 have hnd : nd n <= 100000 := by
  have := trim_len L
  rw [digs_trim hd hv] at this
  exact Nat.le_trans this hl
 unfold bolterref02_Made.f
 refine ht.bind ?_
 by_cases h0 : n = 0
 ·subst h0
  exact Tells.ifp rfl (Tells.pure _)
 ·have hpos : 0 < (digs n).length := nd_pos h0
  exact Tells.ifn (by omega) (Made_l0 s n n e (Nat.le_refl _) h0 hnd he1 (by omega))
theorem Made (s : Bool) (n : Nat) (e : Int) (hn : nd n <= 100000) (he1 : -1000000000 <= e) (he2 : e <= 900000000) : Tells (fun k => bolterref02_Made.f k s (digs n) e) (outD (settleD ⟨s, n, e⟩)) :=
 Made_tells s _ n e (digs_dg n) (digs_val n) hn he1 he2
theorem RCheck_tells (a : Bool) (l : List Int) (e : Int) (hd : Dg 4294967296 l) (hl : l.length <= 9223372036854775807) : Tells (fun k => bolterref02_Check.f k a l e) (chk a l e) := by
 unfold bolterref02_Check.f
 rw [Check01_tells l hl]
 refine (Tells.pure _).bind ?_
 have bad : chk a l e = 9 -> Tells (fun k => bolterref02_Check.j0 k true a l e) (chk a l e) := fun h => by
  rw [h]
  refine Tells.succ ?_
  simp only [bolterref02_Check.j0]
  exact Tells.ifp trivial (Tells.pure _)
 by_cases hc : chkL l = 0
 ·refine Tells.ifp hc ?_
  by_cases h40 : l.length <= 40
  ·rw [decide_eq_false (show ¬ ((l.length : Int) > 40) by omega)]
   have hof := ROf_tells a l e hd (by omega)
   obtain ⟨n, hn⟩ : ∃ n, num l = n := ⟨_, rfl⟩
   have hchk : chk a l e = if okB ⟨a, n, e⟩ = true then 0 else 9 := by
    unfold chk
    rw [hn]
    by_cases h : okB ⟨a, n, e⟩ = true
    ·rw [if_pos ⟨hc, h40, h⟩, if_pos h]
    ·rw [if_neg (fun q => h q.2.2), if_neg h]
   rw [hchk]
   rw [hn] at hof
   unfold okB
   simp only
   have hlen : (digs n).length = nd n := rfl
   refine Tells.succ ?_
   simp only [bolterref02_Check.j0]
   refine Tells.ifn (by simp) (hof.bind ?_)
   dsimp only
   by_cases h0 : n = 0
   ·subst h0
    rw [if_pos rfl]
    refine Tells.ifp rfl ?_
    have j1 : ∀ b : Bool, Tells (fun k => bolterref02_Check.j1 k b) (if b = true then 9 else 0) := fun b => by
     refine Tells.succ ?_
     simp only [bolterref02_Check.j1]
     cases b
     ·exact Tells.ifn (by simp) (Tells.pure _)
     ·exact Tells.ifp rfl (Tells.pure _)
    cases a
    ·refine Tells.ifn (by simp) ((j1 _).val ?_)
     by_cases he : e = 0
     ·subst he; rfl
     ·simp [he]
    ·exact Tells.ifp rfl ((j1 true).val rfl)
   ·have hpos := nd_pos h0
    rw [if_neg h0]
    refine Tells.ifn (by omega) (Tells.ifp (by omega) ?_)
    rw [show (0 : Int) = ((0 : Nat) : Int) from rfl, rd_n, digs_low h0]
    by_cases hz : n % 10 = 0
    ·rw [decide_eq_false (not_not_intro hz)]
     exact Tells.ifp (by omega) (Tells.pure _)
    ·rw [decide_eq_true hz]
     refine Tells.ifn (by omega) ?_
     by_cases h3 : nd n <= 300
     ·rw [decide_eq_true h3]
      refine Tells.ifn (by omega) ?_
      by_cases h4 : e < -1000
      ·rw [decide_eq_false (show ¬ (-1000 <= e) by omega)]
       exact Tells.ifp h4 (Tells.pure _)
      ·rw [decide_eq_true (show -1000 <= e by omega)]
       refine Tells.ifn h4 ?_
       by_cases h5 : 1000 < e
       ·rw [decide_eq_false (show ¬ (e <= 1000) by omega)]
        exact Tells.ifp h5 (Tells.pure _)
       ·rw [decide_eq_true (show e <= 1000 by omega)]
        exact Tells.ifn h5 (Tells.pure _)
     ·rw [decide_eq_false h3]
      exact Tells.ifp (by omega) (Tells.pure _)
  ·rw [decide_eq_true (show ((l.length : Int) > 40) by omega)]
   exact bad (by unfold chk; rw [if_neg (fun q => h40 q.2.1)])
 ·exact Tells.ifn hc (bad (by unfold chk; rw [if_neg (fun q => hc q.1)]))
theorem Rchecks_tells (a : Bool) (l : List Int) (e : Int) (b : Bool) (m : List Int) (g : Int) (hd : Dg 4294967296 l) (hl : l.length <= 9223372036854775807) (hd2 : Dg 4294967296 m) (hl2 : m.length <= 9223372036854775807) : Tells (fun k => bolterref02_checks.f k a l e b m g) (if chk a l e = 0 /\ chk b m g = 0 then 0 else 9) := by
 unfold bolterref02_checks.f
 refine (RCheck_tells a l e hd hl).bind ?_
 by_cases h : chk a l e = 0
 ·refine Tells.ifp h ((RCheck_tells b m g hd2 hl2).bind ?_)
  by_cases h2 : chk b m g = 0
  ·exact Tells.ifp h2 ((Tells.pure _).val (by rw [if_pos ⟨h, h2⟩]))
  ·exact Tells.ifn h2 ((Tells.pure _).val (by rw [if_neg (fun q => h2 q.2)]))
 ·exact Tells.ifn h ((Tells.pure _).val (by rw [if_neg (fun q => h q.1)]))
theorem Rchecks (D E : Dm) (hD : OkD D) (hE : OkD E) : Tells (fun k => bolterref02_checks.f k D.neg (limbs D.n) D.e E.neg (limbs E.n) E.e) 0 := by
 have h1 := okd_limbs hD
 have h2 := okd_limbs hE
 have := Rchecks_tells D.neg (limbs D.n) D.e E.neg (limbs E.n) E.e (limbs_dg _) (by omega) (limbs_dg _) (by omega)
 rw [if_pos ⟨chk_of hD, chk_of hE⟩] at this
 exact this
theorem Same_l0 (a : Bool) (l : List Int) (e : Int) (b : Bool) (m : List Int) (g : Int) (hl : l.length = m.length) (hz : l.length < 9223372036854775807) : ∀ (d i : Nat), l.length - i = d -> i <= l.length -> l.take i = m.take i -> Tells (fun k => bolterref02_Same.l0 k (i : Int) a l e b m g) (decide (l = m))
 | 0, i, hd, hi, h => by
  obtain rfl : i = l.length := by omega
  refine Tells.succ ?_
  simp only [bolterref02_Same.l0]
  refine Tells.ifn (by omega) ((Tells.pure _).val ?_)
  rw [List.take_length, hl, List.take_length] at h
  rw [decide_eq_true h]
 | d + 1, i, hd, hi, h => by
  have hil : i < l.length := by omega
  refine Tells.succ ?_
  simp only [bolterref02_Same.l0]
  rw [rd_n, rd_n, w64s (by omega)]
  refine Tells.ifp (by omega) (Tells.ifp (by omega) (Tells.ifp (by omega) ?_))
  by_cases hx : l.getD i 0 = m.getD i 0
  ·exact Tells.ifp hx (Same_l0 a l e b m g hl hz d (i + 1) (by omega) (by omega) (by rw [take_s hil, take_s (by omega), h, hx]))
  ·exact Tells.ifn hx ((Tells.pure _).val (by rw [decide_eq_false (fun q => hx (by rw [q]))]))
def sameB (a : Bool) (l : List Int) (e : Int) (b : Bool) (m : List Int) (g : Int) : Bool := decide (a = b) && (decide (e = g) && decide (l = m))
theorem sameB_iff {a : Bool} {l : List Int} {e : Int} {b : Bool} {m : List Int} {g : Int} : sameB a l e b m g = true ↔ a = b /\ l = m /\ e = g := by
 unfold sameB
 simp only [Bool.and_eq_true, decide_eq_true_eq]
 exact ⟨fun ⟨h1, h2, h3⟩ => ⟨h1, h3, h2⟩, fun ⟨h1, h2, h3⟩ => ⟨h1, h3, h2⟩⟩
theorem Same_tells (a : Bool) (l : List Int) (e : Int) (b : Bool) (m : List Int) (g : Int) (hz : l.length < 9223372036854775807) : Tells (fun k => bolterref02_Same.f k a l e b m g) (sameB a l e b m g) := by
 have no : Tells (fun k => bolterref02_Same.j0 k true a l e b m g) false := by
  refine Tells.succ ?_
  simp only [bolterref02_Same.j0]
  exact Tells.ifp trivial (Tells.pure _)
 unfold bolterref02_Same.f sameB
 by_cases h1 : a = b
 ·subst h1
  rw [decide_eq_true rfl]
  refine Tells.ifn (by simp) ?_
  by_cases h2 : e = g
  ·subst h2
   rw [decide_eq_true rfl]
   refine Tells.ifp rfl ?_
   by_cases h3 : l.length = m.length
   ·refine Tells.succ ?_
    simp only [bolterref02_Same.j0]
    have h := Same_l0 a l e a m e h3 hz l.length 0 (by omega) (by omega) rfl
    exact Tells.ifn (by rw [h3]; simp) (h.val (by simp))
   ·have e1 : ((l.length : Int) != (m.length : Int)) = true := bne_iff_ne.2 (by omega)
    rw [e1]
    refine no.val ?_
    rw [decide_eq_false (fun q : l = m => h3 (by rw [q]))]; rfl
  ·exact Tells.ifn h2 (no.val (by rw [decide_eq_false h2]; rfl))
 ·exact Tells.ifp (by simpa using h1) (no.val (by rw [decide_eq_false h1]; rfl))
theorem limbs_inj {m n : Nat} (h : limbs m = limbs n) : m = n := by rw [<- num_limbs m, h, num_limbs]
theorem Same_D (D E : Dm) (h : nd D.n <= 1000000) : Tells (fun k => bolterref02_Same.f k D.neg (limbs D.n) D.e E.neg (limbs E.n) E.e) (decide (D = E)) := by
 have hl := limbs_len D.n
 refine (Same_tells D.neg (limbs D.n) D.e E.neg (limbs E.n) E.e (by omega)).val ?_
 rw [Bool.eq_iff_iff, sameB_iff, decide_eq_true_eq]
 constructor
 ·intro ⟨h1, h2, h3⟩
  obtain ⟨s, n, e⟩ := D
  obtain ⟨s', n', e'⟩ := E
  have := limbs_inj h2
  simp only at *
  subst h1 h3 this; rfl
 ·intro h; rw [h]; exact ⟨rfl, rfl, rfl⟩
theorem mx_eq (a b : Int) : mx a b = max a b := by unfold mx; omega
theorem nd_shift_le (n k : Nat) : nd (n * 10 ^ k) <= nd n + k := by
 by_cases h : n = 0
 ·subst h; rw [Nat.zero_mul, nd_zero]; omega
 ·rw [nd_shift h]; exact Nat.le_refl _
theorem RMul (D E : Dm) (hD : OkD D) (hE : OkD E) : Tells (fun k => bolterref02_Mul.f k D.neg (limbs D.n) D.e E.neg (limbs E.n) E.e) (outD (timesD D E)) := by
 have d1 := hD.len; have d2 := hD.low; have d3 := hD.high
 have e1 := hE.len; have e2 := hE.low; have e3 := hE.high
 have hm := nd_mul D.n E.n
 unfold bolterref02_Mul.f
 refine (Rchecks D E hD hE).bind (Tells.ifp rfl ((ROf D (by omega)).bind ((ROf E (by omega)).bind ?_)))
 dsimp only
 rw [w64n (by omega) (by omega)]
 refine (Product_tells D.n E.n (by omega) (by omega)).bind ?_
 exact (Made (D.neg != E.neg) (D.n * E.n) (D.e + E.e) (by omega) (by omega) (by omega)).bind (Tells.pure _)
end YtjbjkmccfocikaaGreatDoor.P
end
section
namespace YtjbjkmccfocikaaGreatDoor.P
open Go.RowKit YtjbjkmccfocikaaGreatDoorW.PrintWords
def anyO {α : Type} (f : α -> Option Bool) : List α -> Option Bool
 | [] => some false
 | x :: r => (f x).bind fun t => if t = true then some true else anyO f r
theorem anyO_cons {α : Type} {f : α -> Option Bool} {x : α} {r : List α} {b : Bool} (h : anyO f (x :: r) = some b) : ∃ t, f x = some t /\ ((t = true -> b = true) /\ (t = false -> anyO f r = some b)) := by
 simp only [anyO] at h
 obtain ⟨t, ht, h2⟩ := Option.bind_eq_some_iff.1 h
 refine ⟨t, ht, fun e => ?_, fun e => ?_⟩
 ·rw [if_pos e] at h2; exact (Option.some.inj h2).symm
 ·rw [if_neg (by simp [e])] at h2; exact h2
theorem anyO_nil {α : Type} {f : α -> Option Bool} {b : Bool} (h : anyO f [] = some b) : b = false := (Option.some.inj h).symm
theorem anyO_some {α : Type} {f : α -> Option Bool} (p : α -> Bool) : ∀ l : List α, (∀ x ∈ l, f x = some (p x)) -> anyO f l = some (l.any p)
 | [], _ => rfl
 | x :: r, h => by
  simp only [anyO]
  rw [h x List.mem_cons_self, Option.bind_some, List.any_cons]
  cases p x
  ·rw [if_neg (by simp), Bool.false_or]; exact anyO_some p r (fun y hy => h y (List.mem_cons_of_mem _ hy))
  ·rw [if_pos rfl, Bool.true_or]
def IdxR (b : Bool) (e : Ending) : Prop := ∃ i : Int, e = .returned (.int .i64 i) /\ decide (0 <= i) = b
theorem idxR_at {b : Bool} (h : b = true) (q : Nat) : IdxR b (.returned (.int .i64 (q : Int))) := ⟨q, rfl, by rw [h]; simp⟩
theorem idxR_none {b : Bool} (h : b = false) : IdxR b (.returned (.int .i64 (-1))) := ⟨-1, rfl, by rw [h]; rfl⟩
theorem drop_any {α : Type} {l : List α} {q : Nat} {z : α} (h : q < l.length) : l.drop q = l.getD q z :: l.drop (q + 1) := by
 rw [List.getD, List.getElem?_eq_getElem h]; exact List.drop_eq_getElem_cons h
theorem addr_any {w : World} {a : Addr} {v : Value} (h : w.cell? a = some v) : ∃ b o, a = ⟨b, o, none⟩ := by
 obtain ⟨b, o, s⟩ := a
 cases s with
 | none => exact ⟨b, o, rfl⟩
 | some s =>
  unfold World.cell? at h
  split at h
  ·simp at h
  ·cases h
theorem add_any (b o j : Nat) : (⟨b, o, none⟩ : Addr).add j = ⟨b, o + j, none⟩ := by unfold Addr.add; split <;> simp_all
end YtjbjkmccfocikaaGreatDoor.P
end
section
namespace YtjbjkmccfocikaaGreatDoor.B
open Go.RowKit YtjbjkmccfocikaaGreatDoorW.PrintWords YtjbjkmccfocikaaGreatDoorW.PrintLast YtjbjkmccfocikaaGreatDoorW.PrintMore
attribute [local go_sem] max2_int min2_int max_two min_two max_three min_three max_four min_four
def dec_ten.f (k : Nat) (l0 : List Int) : Option (List Int × Bool) := (nat_From.f k 10).bind fun t147 => ((nat_Div.f k l0 t147).bind fun bt150 => (some (bt150.1, ((bt150.2.1.length : Int) == 0))))
theorem dec_ten.calls (k : Nat) (A0 : Option Addr) (c0 : Nat) (l0 : List Int) (r1 : List Int) (r2 : Bool) (w : World) (hr0 : Kd.C (Kd.int .u32) w A0 l0.length l0) (hc0 : l0.length <= c0) (h : dec_ten.f k l0 = some (r1, r2)) :
  Calls Tryz.prog 109 #[.slice A0 l0.length c0] w fun e w' => ∃ v0_ : Value, e = .returned (.tuple #[v0_, .bool r2]) /\ Kd.R (Kd.int .u32) 85 w' w.heap.size (fun _ => True) v0_ r1 /\ Below w.heap.size w w' := by
 have HR0 := am hr0
 have HC0 := am hc0
 clear hr0 hc0
 have HB := am (Below.refl w.heap.size w)
 have H : ((nat_From.f k 10).bind fun t147 => ((nat_Div.f k l0 t147).bind fun bt150 => (some (bt150.1, ((bt150.2.1.length : Int) == 0))))) = some (r1, r2) := h
 clear h
 obtain ⟨t147, A2, H⟩ := ob H
 obtain ⟨⟨t150, t151, t152⟩, A3, H⟩ := ob H; (try dsimp only at H)
 simp only [Option.some.injEq, Prod.mk.injEq] at H
 obtain ⟨rfl, rfl⟩ := H
 go_enter Tryz.func109, Tryz.ntmps109
 go_wp2_with (first | (refine gL (some 9) Tryz.func76 #[.int .u64 10] (h := ?_); (with_reducible refine (nat_From.calls k 10 t147 _ A2.out).mono ?_); rintro e w4 ⟨v148, rfl, ho0, hb⟩; refine ⟨_, rfl, ?_⟩; have HO149 := am (Kd.R_lower ho0 (below_size pB)); replace HB := bS hb; obtain ⟨Ao5, co5, eo5⟩ := Kd.R_slice HO149.out; subst eo5) | (refine gL (some 10) Tryz.func69 #[.slice A0 l0.length c0, .slice Ao5 t147.length co5] (h := ?_); (with_reducible refine (nat_Div.calls k _ _ l0 _ _ t147 t150 t151 t152 _ ?side1 ?side2 ?side3 ?side4 A3.out).mono ?_); (case side1 => refine cp ?_; exact (Kd.C_below HR0.out HB.out)); (case side2 => exact HC0.out); (case side3 => exact Kd.C_below (Kd.R_reads' HO149.out).2.2 pl); (case side4 => exact (Kd.R_reads' HO149.out).2.1); rintro e w6 ⟨v153, v155, rfl, ho0, ho1, hb⟩; refine ⟨_, rfl, ?_⟩; have HO154 := am (Kd.R_lower (Kd.R_new' ho0 (Kd.R_lt (Kd.R_below HO149.out pl))) (below_size pB)); have HO156 := am (Kd.R_lower (Kd.R_new' ho1 (Kd.R_lt (Kd.R_below HO149.out pl))) (below_size pB)); replace HO149 := am (Kd.R_mono (Kd.R_told (Kd.R_told (Kd.R_old (Kd.R_below HO149.out pl) hb) (Kd.R_base ho0)) (Kd.R_base ho1)) (fun _ h_ => h_.1)); replace HB := bS hb; obtain ⟨Ao7, co7, eo7⟩ := Kd.R_slice HO156.out; subst eo7))
 go_ret2
 exact ⟨_, pE, by refine rp ?_; exact Kd.R_mono HO154.out (fun _ hk => trivial), pB⟩
def dec_digits.f (k : Nat) (l0 : List Int) : Option (Int) := (nat_Print.f k l0).bind fun bt173 => (if (l0.length : Int) = 0 then (some 0) else (some (bt173.1.size : Int)))
theorem dec_digits.calls (k : Nat) (A0 : Option Addr) (c0 : Nat) (l0 : List Int) (r : Int) (w : World) (hr0 : Kd.C (Kd.int .u32) w A0 l0.length l0) (hc0 : l0.length <= c0) (h : dec_digits.f k l0 = some r) :
  Calls Tryz.prog 110 #[.slice A0 l0.length c0] w fun e w' => e = .returned (.int .i64 r) /\ Below w.heap.size w w' := by
 have HR0 := am hr0
 have HC0 := am hc0
 clear hr0 hc0
 have HB := am (Below.refl w.heap.size w)
 have H : ((nat_Print.f k l0).bind fun bt173 => (if (l0.length : Int) = 0 then (some 0) else (some (bt173.1.size : Int)))) = some r := h
 clear h
 obtain ⟨⟨t173, t174⟩, A2, H⟩ := ob H; (try dsimp only at H)
 by_cases c3 : (l0.length : Int) = 0
 ·rw [if_pos c3] at H
  have c3b0 : ((l0.length : Int) == 0) = true := beq_iff_eq.mpr c3
  have c3b1 : ((l0.length : Int) != 0) = false := bne_eq_false_iff_eq.mpr c3
  clear c3
  obtain rfl := Option.some.inj H
  go_enter Tryz.func110, Tryz.ntmps110
  go_wp2_with (first | (refine gL (some 7) Tryz.func112 #[.slice A0 l0.length c0] (h := ?_); (with_reducible refine (nat_Print.calls k (fun k_ => k_ < w.heap.size) _ _ l0 t173 t174 _ ?side1 A2.out).mono ?_); (case side1 => exact Kd.V_mk HC0.out (Kd.F_below (Kd.C_F (Kd.heap_int .u32) HR0.out) pB)); rintro e w4 ⟨rfl, hb⟩; refine ⟨_, rfl, ?_⟩; replace HB := bS hb))
  go_ret
  exact ⟨pE, pB⟩
 ·rw [if_neg c3] at H
  have c3b0 : ((l0.length : Int) == 0) = false := beq_eq_false_iff_ne.mpr c3
  have c3b1 : ((l0.length : Int) != 0) = true := bne_iff_ne.mpr c3
  have c3b2 : ¬ (l0 = []) := fun h_ => c3 (by rw [h_]; rfl)
  obtain rfl := Option.some.inj H
  go_enter Tryz.func110, Tryz.ntmps110
  go_wp2_with (first | (refine gL (some 7) Tryz.func112 #[.slice A0 l0.length c0] (h := ?_); (with_reducible refine (nat_Print.calls k (fun k_ => k_ < w.heap.size) _ _ l0 t173 t174 _ ?side1 A2.out).mono ?_); (case side1 => exact Kd.V_mk HC0.out (Kd.F_below (Kd.C_F (Kd.heap_int .u32) HR0.out) pB)); rintro e w5 ⟨rfl, hb⟩; refine ⟨_, rfl, ?_⟩; replace HB := bS hb))
  go_ret
  exact ⟨pE, pB⟩
def dec_Check.j0 : Nat -> Bool -> Bool -> List Int -> Int -> Option (Int)
 | 0, _, _, _, _ => none
 | k + 1, x14, x176000, x176001, x176002 => if x14 = true then (some 9) else (if (x176001.length : Int) = 0 then (if x176000 = true then (some 9) else (if x176002 = 0 then (some 0) else (some 9))) else ((dec_ten.f k x176001).bind fun bt177 => (if bt177.2 = true then (some 9) else ((dec_digits.f k x176001).bind fun t181 => (if t181 > 300 then (some 9) else (if x176002 < (-1000) then (some 9) else (if x176002 > 1000 then (some 9) else (some 0))))))))
def dec_Check.f (k : Nat) (a0_0 : Bool) (l0_1 : List Int) (a0_2 : Int) : Option (Int) := (nat_Check.f l0_1).bind fun t176 => (if t176 = 0 then (dec_Check.j0 k (decide ((l0_1.length : Int) > 40)) a0_0 l0_1 a0_2) else (dec_Check.j0 k true a0_0 l0_1 a0_2))
theorem dec_Check.calls (k : Nat) (a0_0 : Bool) (A0_1 : Option Addr) (c0_1 : Nat) (l0_1 : List Int) (a0_2 : Int) (r : Int) (w : World) (hr0_1 : Kd.C (Kd.int .u32) w A0_1 l0_1.length l0_1) (hc0_1 : l0_1.length <= c0_1) (h : dec_Check.f k a0_0 l0_1 a0_2 = some r) :
  Calls Tryz.prog 55 #[.agg #[.bool a0_0, .slice A0_1 l0_1.length c0_1, .int .i64 a0_2]] w fun e w' => e = .returned (.int .i64 r) /\ Below w.heap.size w w' := by
 have hu24 := Tryz.underlying24
 have HR0_1 := am hr0_1
 have HC0_1 := am hc0_1
 clear hr0_1 hc0_1
 have HB := am (Below.refl w.heap.size w)
 have H : ((nat_Check.f l0_1).bind fun t176 => (if t176 = 0 then (dec_Check.j0 k (decide ((l0_1.length : Int) > 40)) a0_0 l0_1 a0_2) else (dec_Check.j0 k true a0_0 l0_1 a0_2))) = some r := h
 clear h
 have HC2 := am H
 clear H
 go_enter Tryz.func55, Tryz.ntmps55
 go_upto_region 1 with (first | ((with_reducible refine gd 1 ?_); (try (refine gate_guard (by rfl) ?_; dsimp only)); refine bx 1 #[.bool a0_0, .slice A0_1 l0_1.length c0_1, .int .i64 a0_2] 24 (h := ?_); intro gb175 hg w3 hbox hb; have BK175 := am hbox; have GW175 := gW hg; have GE175 := gW hg; replace HB := bS hb; clear hb hbox hg))
 (try simp only [Act.put, List.setIfInBounds_toArray, List.set_cons_zero, List.set_cons_succ])
 go_cut [14] (fun v14 wc => ∃ (kq : Nat) (x14_1 : Bool), v14 = .bool x14_1 /\ Aside0 (dec_Check.j0 kq x14_1 a0_0 l0_1 a0_2 = some r) /\ Aside0 (kq <= k) /\ Aside0 (wc.heap[gb175]? = some (.cells #[.bool a0_0, (.slice A0_1 l0_1.length c0_1), .int .i64 a0_2] 24 (0, 0))) /\ Aside0 (Below w.heap.size w wc))
 case first =>
  have H := HC2.out
  clear HC2
  obtain ⟨t176, A4, H⟩ := ob H
  by_cases c5 : t176 = 0
  ·rw [if_pos c5] at H
   have c5b0 : (t176 == 0) = true := beq_iff_eq.mpr c5
   have c5b1 : (t176 != 0) = false := bne_eq_false_iff_eq.mpr c5
   clear c5
   (first | rw [c5b0] | (simp only [i64_w, i32_w]; rw [c5b0]) | skip)
   have H' := am H
   clear H
   obtain ⟨hcz6_0, hcz6_1, hcz6_2, hfz6_0, hfz6_1, hfz6_2⟩ := cEc BK175.out
   go_wp2_with (first | (refine gL (some 7) Tryz.func108 #[.slice A0_1 l0_1.length c0_1] (h := ?_); (with_reducible refine (nat_Check.calls _ _ l0_1 t176 _ ?side1 ?side2 A4.out).mono ?_); (case side1 => refine cp ?_; exact (Kd.C_below HR0_1.out HB.out)); (case side2 => exact HC0_1.out); rintro e w' ⟨rfl, ⟨nd, rfl⟩⟩; refine ⟨_, rfl, ?_⟩))
   go_meet
   case rel => exact ⟨_, (decide ((l0_1.length : Int) > 40)), pR, H', ⟨by first | omega | exact Nat.le_refl _⟩, ⟨blk_below BK175.out pl⟩, ⟨pB⟩⟩
  ·rw [if_neg c5] at H
   have c5b0 : (t176 == 0) = false := beq_eq_false_iff_ne.mpr c5
   have c5b1 : (t176 != 0) = true := bne_iff_ne.mpr c5
   (first | rw [c5b0] | (simp only [i64_w, i32_w]; rw [c5b0]) | skip)
   have H' := am H
   clear H
   obtain ⟨hcz7_0, hcz7_1, hcz7_2, hfz7_0, hfz7_1, hfz7_2⟩ := cEc BK175.out
   go_wp2_with (first | (refine gL (some 7) Tryz.func108 #[.slice A0_1 l0_1.length c0_1] (h := ?_); (with_reducible refine (nat_Check.calls _ _ l0_1 t176 _ ?side1 ?side2 A4.out).mono ?_); (case side1 => refine cp ?_; exact (Kd.C_below HR0_1.out HB.out)); (case side2 => exact HC0_1.out); rintro e w' ⟨rfl, ⟨nd, rfl⟩⟩; refine ⟨_, rfl, ?_⟩))
   go_meet
   case rel => exact ⟨_, (true), pR, H', ⟨by first | omega | exact Nat.le_refl _⟩, ⟨blk_below BK175.out pl⟩, ⟨pB⟩⟩
 case rest =>
  clear HC2
  obtain ⟨kq, x14_1, rfl, HA, HJ1, BK175, HB⟩ := hcut
  cases kq with
  | zero => exact absurd HA.out (by simp [dec_Check.j0])
  | succ kj1 =>
   have H := HA.out
   clear HA
   simp only [dec_Check.j0] at H
   by_cases c8 : x14_1 = true
   ·subst c8
    rw [if_pos rfl] at H
    obtain rfl := Option.some.inj H
    go_wp2
    go_ret
    exact ⟨pE, pB⟩
   ·replace c8 := Bool.eq_false_iff.mpr c8
    subst c8
    rw [if_neg (show ¬ (false = true) by decide)] at H
    by_cases c9 : (l0_1.length : Int) = 0
    ·rw [if_pos c9] at H
     have c9b0 : ((l0_1.length : Int) == 0) = true := beq_iff_eq.mpr c9
     have c9b1 : ((l0_1.length : Int) != 0) = false := bne_eq_false_iff_eq.mpr c9
     clear c9
     by_cases c10 : a0_0 = true
     ·subst c10
      rw [if_pos rfl] at H
      obtain rfl := Option.some.inj H
      obtain ⟨hcz11_0, hcz11_1, hcz11_2, hfz11_0, hfz11_1, hfz11_2⟩ := cEc BK175.out
      go_wp2
      go_ret
      exact ⟨pE, pB⟩
     ·replace c10 := Bool.eq_false_iff.mpr c10
      subst c10
      rw [if_neg (show ¬ (false = true) by decide)] at H
      by_cases c12 : a0_2 = 0
      ·rw [if_pos c12] at H
       have c12b0 : (a0_2 == 0) = true := beq_iff_eq.mpr c12
       have c12b1 : (a0_2 != 0) = false := bne_eq_false_iff_eq.mpr c12
       clear c12
       obtain rfl := Option.some.inj H
       obtain ⟨hcz13_0, hcz13_1, hcz13_2, hfz13_0, hfz13_1, hfz13_2⟩ := cEc BK175.out
       go_wp2
       go_ret
       exact ⟨pE, pB⟩
      ·rw [if_neg c12] at H
       have c12b0 : (a0_2 == 0) = false := beq_eq_false_iff_ne.mpr c12
       have c12b1 : (a0_2 != 0) = true := bne_iff_ne.mpr c12
       obtain rfl := Option.some.inj H
       obtain ⟨hcz14_0, hcz14_1, hcz14_2, hfz14_0, hfz14_1, hfz14_2⟩ := cEc BK175.out
       go_wp2
       go_ret
       exact ⟨pE, pB⟩
    ·rw [if_neg c9] at H
     have c9b0 : ((l0_1.length : Int) == 0) = false := beq_eq_false_iff_ne.mpr c9
     have c9b1 : ((l0_1.length : Int) != 0) = true := bne_iff_ne.mpr c9
     have c9b2 : ¬ (l0_1 = []) := fun h_ => c9 (by rw [h_]; rfl)
     obtain ⟨⟨t177, t178⟩, A15, H⟩ := ob H; (try dsimp only at H)
     by_cases c16 : t178 = true
     ·subst c16
      rw [if_pos rfl] at H
      obtain rfl := Option.some.inj H
      obtain ⟨hcz17_0, hcz17_1, hcz17_2, hfz17_0, hfz17_1, hfz17_2⟩ := cEc BK175.out
      go_wp2_with (first | (refine gL (some 29) Tryz.func109 #[.slice A0_1 l0_1.length c0_1] (h := ?_); (with_reducible refine (dec_ten.calls kj1 _ _ l0_1 t177 true _ ?side1 ?side2 A15.out).mono ?_); (case side1 => refine cp ?_; exact (Kd.C_below HR0_1.out HB.out)); (case side2 => exact HC0_1.out); rintro e w18 ⟨v179, rfl, ho0, hb⟩; refine ⟨_, rfl, ?_⟩; have HO180 := am (Kd.R_lower ho0 (below_size pB)); replace BK175 := bb BK175 hb; replace HB := bS hb))
      go_ret
      exact ⟨pE, pB⟩
     ·replace c16 := Bool.eq_false_iff.mpr c16
      subst c16
      rw [if_neg (show ¬ (false = true) by decide)] at H
      obtain ⟨t181, A19, H⟩ := ob H
      by_cases c20 : t181 > 300
      ·rw [if_pos c20] at H
       have c20b0 : decide (300 < t181) = true := decide_eq_true c20
       clear c20
       obtain rfl := Option.some.inj H
       obtain ⟨hcz21_0, hcz21_1, hcz21_2, hfz21_0, hfz21_1, hfz21_2⟩ := cEc BK175.out
       go_wp2_with (first | (refine gL (some 29) Tryz.func109 #[.slice A0_1 l0_1.length c0_1] (h := ?_); (with_reducible refine (dec_ten.calls kj1 _ _ l0_1 t177 false _ ?side1 ?side2 A15.out).mono ?_); (case side1 => refine cp ?_; exact (Kd.C_below HR0_1.out HB.out)); (case side2 => exact HC0_1.out); rintro e w22 ⟨v179, rfl, ho0, hb⟩; refine ⟨_, rfl, ?_⟩; have HO180 := am (Kd.R_lower ho0 (below_size pB)); replace BK175 := bb BK175 hb; replace HB := bS hb; obtain ⟨hcz23_0, hcz23_1, hcz23_2, hfz23_0, hfz23_1, hfz23_2⟩ := cEc BK175.out) | (go_at_call 110; (with_reducible refine (dec_digits.calls kj1 _ _ l0_1 t181 _ ?side1 ?side2 A19.out).mono ?_); (case side1 => refine cp ?_; exact (Kd.C_below HR0_1.out HB.out)); (case side2 => exact HC0_1.out); rintro e w24 ⟨rfl, hb⟩; replace HO180 := rbl HO180 hb; replace BK175 := bb BK175 hb; replace HB := bS hb))
       go_ret
       exact ⟨pE, pB⟩
      ·rw [if_neg c20] at H
       have c20b0 : decide (300 < t181) = false := decide_eq_false c20
       clear c20
       by_cases c25 : a0_2 < (-1000)
       ·rw [if_pos c25] at H
        have c25b0 : decide (a0_2 < (-1000)) = true := decide_eq_true c25
        clear c25
        obtain rfl := Option.some.inj H
        obtain ⟨hcz26_0, hcz26_1, hcz26_2, hfz26_0, hfz26_1, hfz26_2⟩ := cEc BK175.out
        go_wp2_with (first | (refine gL (some 29) Tryz.func109 #[.slice A0_1 l0_1.length c0_1] (h := ?_); (with_reducible refine (dec_ten.calls kj1 _ _ l0_1 t177 false _ ?side1 ?side2 A15.out).mono ?_); (case side1 => refine cp ?_; exact (Kd.C_below HR0_1.out HB.out)); (case side2 => exact HC0_1.out); rintro e w27 ⟨v179, rfl, ho0, hb⟩; refine ⟨_, rfl, ?_⟩; have HO180 := am (Kd.R_lower ho0 (below_size pB)); replace BK175 := bb BK175 hb; replace HB := bS hb; obtain ⟨hcz28_0, hcz28_1, hcz28_2, hfz28_0, hfz28_1, hfz28_2⟩ := cEc BK175.out) | (go_at_call 110; (with_reducible refine (dec_digits.calls kj1 _ _ l0_1 t181 _ ?side1 ?side2 A19.out).mono ?_); (case side1 => refine cp ?_; exact (Kd.C_below HR0_1.out HB.out)); (case side2 => exact HC0_1.out); rintro e w29 ⟨rfl, hb⟩; replace HO180 := rbl HO180 hb; replace BK175 := bb BK175 hb; replace HB := bS hb; obtain ⟨hcz30_0, hcz30_1, hcz30_2, hfz30_0, hfz30_1, hfz30_2⟩ := cEc BK175.out))
        go_ret
        exact ⟨pE, pB⟩
       ·rw [if_neg c25] at H
        have c25b0 : decide (a0_2 < (-1000)) = false := decide_eq_false c25
        clear c25
        by_cases c31 : a0_2 > 1000
        ·rw [if_pos c31] at H
         have c31b0 : decide (1000 < a0_2) = true := decide_eq_true c31
         clear c31
         obtain rfl := Option.some.inj H
         obtain ⟨hcz32_0, hcz32_1, hcz32_2, hfz32_0, hfz32_1, hfz32_2⟩ := cEc BK175.out
         go_wp2_with (first | (refine gL (some 29) Tryz.func109 #[.slice A0_1 l0_1.length c0_1] (h := ?_); (with_reducible refine (dec_ten.calls kj1 _ _ l0_1 t177 false _ ?side1 ?side2 A15.out).mono ?_); (case side1 => refine cp ?_; exact (Kd.C_below HR0_1.out HB.out)); (case side2 => exact HC0_1.out); rintro e w33 ⟨v179, rfl, ho0, hb⟩; refine ⟨_, rfl, ?_⟩; have HO180 := am (Kd.R_lower ho0 (below_size pB)); replace BK175 := bb BK175 hb; replace HB := bS hb; obtain ⟨hcz34_0, hcz34_1, hcz34_2, hfz34_0, hfz34_1, hfz34_2⟩ := cEc BK175.out) | (go_at_call 110; (with_reducible refine (dec_digits.calls kj1 _ _ l0_1 t181 _ ?side1 ?side2 A19.out).mono ?_); (case side1 => refine cp ?_; exact (Kd.C_below HR0_1.out HB.out)); (case side2 => exact HC0_1.out); rintro e w35 ⟨rfl, hb⟩; replace HO180 := rbl HO180 hb; replace BK175 := bb BK175 hb; replace HB := bS hb; obtain ⟨hcz36_0, hcz36_1, hcz36_2, hfz36_0, hfz36_1, hfz36_2⟩ := cEc BK175.out))
         go_ret
         exact ⟨pE, pB⟩
        ·rw [if_neg c31] at H
         have c31b0 : decide (1000 < a0_2) = false := decide_eq_false c31
         clear c31
         obtain rfl := Option.some.inj H
         obtain ⟨hcz37_0, hcz37_1, hcz37_2, hfz37_0, hfz37_1, hfz37_2⟩ := cEc BK175.out
         go_wp2_with (first | (refine gL (some 29) Tryz.func109 #[.slice A0_1 l0_1.length c0_1] (h := ?_); (with_reducible refine (dec_ten.calls kj1 _ _ l0_1 t177 false _ ?side1 ?side2 A15.out).mono ?_); (case side1 => refine cp ?_; exact (Kd.C_below HR0_1.out HB.out)); (case side2 => exact HC0_1.out); rintro e w38 ⟨v179, rfl, ho0, hb⟩; refine ⟨_, rfl, ?_⟩; have HO180 := am (Kd.R_lower ho0 (below_size pB)); replace BK175 := bb BK175 hb; replace HB := bS hb; obtain ⟨hcz39_0, hcz39_1, hcz39_2, hfz39_0, hfz39_1, hfz39_2⟩ := cEc BK175.out) | (go_at_call 110; (with_reducible refine (dec_digits.calls kj1 _ _ l0_1 t181 _ ?side1 ?side2 A19.out).mono ?_); (case side1 => refine cp ?_; exact (Kd.C_below HR0_1.out HB.out)); (case side2 => exact HC0_1.out); rintro e w40 ⟨rfl, hb⟩; replace HO180 := rbl HO180 hb; replace BK175 := bb BK175 hb; replace HB := bS hb; obtain ⟨hcz41_0, hcz41_1, hcz41_2, hfz41_0, hfz41_1, hfz41_2⟩ := cEc BK175.out))
         go_ret
         exact ⟨pE, pB⟩
def quot_ask_1.f (k : Nat) (a0_0 : Bool) (l0_1 : List Int) (a0_2 : Int) : Option (Bool) := (dec_Check.f k a0_0 l0_1 a0_2).bind fun t185 => (some (t185 != 0))
theorem quot_ask_1.calls (k : Nat) (a0_0 : Bool) (A0_1 : Option Addr) (c0_1 : Nat) (l0_1 : List Int) (a0_2 : Int) (r : Bool) (w : World) (hr0_1 : Kd.C (Kd.int .u32) w A0_1 l0_1.length l0_1) (hc0_1 : l0_1.length <= c0_1) (h : quot_ask_1.f k a0_0 l0_1 a0_2 = some r) :
  Calls Tryz.prog 124 #[.agg #[.bool a0_0, .slice A0_1 l0_1.length c0_1, .int .i64 a0_2]] w fun e w' => e = .returned (.bool r) /\ Below w.heap.size w w' := by
 have hu24 := Tryz.underlying24
 have HR0_1 := am hr0_1
 have HC0_1 := am hc0_1
 clear hr0_1 hc0_1
 have HB := am (Below.refl w.heap.size w)
 have H : ((dec_Check.f k a0_0 l0_1 a0_2).bind fun t185 => (some (t185 != 0))) = some r := h
 clear h
 obtain ⟨t185, A2, H⟩ := ob H
 obtain rfl := Option.some.inj H
 go_enter Tryz.func124, Tryz.ntmps124
 go_wp2_with (first | ((with_reducible refine gd 1 ?_); refine bx 1 #[.bool a0_0, .slice A0_1 l0_1.length c0_1, .int .i64 a0_2] 24 (h := ?_); intro gb184 hg w3 hbox hb; have BK184 := am hbox; have GW184 := gW hg; have GE184 := gW hg; replace HB := bS hb; clear hb hbox hg; obtain ⟨hcz4_0, hcz4_1, hcz4_2, hfz4_0, hfz4_1, hfz4_2⟩ := cEc BK184.out) | (refine gL (some 4) Tryz.func55 #[.agg #[.bool a0_0, .slice A0_1 l0_1.length c0_1, .int .i64 a0_2]] (h := ?_); (with_reducible refine (dec_Check.calls k a0_0 _ _ l0_1 a0_2 t185 _ ?side1 ?side2 A2.out).mono ?_); (case side1 => refine cp ?_; exact (Kd.C_below HR0_1.out HB.out)); (case side2 => exact HC0_1.out); rintro e w5 ⟨rfl, hb⟩; refine ⟨_, rfl, ?_⟩; replace BK184 := bb BK184 hb; replace HB := bS hb))
 go_ret
 exact ⟨pE, pB⟩
end YtjbjkmccfocikaaGreatDoor.B
end
section
namespace YtjbjkmccfocikaaGreatDoor.B
open Go.RowKit YtjbjkmccfocikaaGreatDoorW.PrintWords YtjbjkmccfocikaaGreatDoor.P
def quot_ask_any.f (k : Nat) (l : List S24) : Option Bool := anyO (fun x => quot_ask_1.f k x.f0 x.f1 x.f2) l
theorem quot_ask_any.index (k : Nat) (A0 : Option Addr) (c0 : Nat) (l0 : List S24) (b : Bool) (w : World) (hr0 : Kd.C k24 w A0 l0.length l0) (hc0 : l0.length <= c0) (h : quot_ask_any.f k l0 = some b) :
  Calls Tryz.prog 154 #[.slice A0 l0.length c0, .func (.func 124) #[] #[]] w fun e w' => IdxR b e /\ Below w.heap.size w w' := by
 have hm : l0.length <= 9223372036854775807 := Kd.C_max hr0
 have HR := Aside0.mk hr0
 have HC := Aside0.mk hc0
 unfold quot_ask_any.f at h
 have H0 := Aside0.mk h
 obtain ⟨n, hn⟩ : ∃ n, l0.length = n := ⟨_, rfl⟩
 rw [hn] at hm
 have HN := Aside0.mk hn
 clear h hr0 hc0
 rw [hn]
 clear hn
 go_enter Tryz.func154, Tryz.ntmps154
 go_wp2
 go_loopw [8] (fun i wr => ∃ k_ : Nat, k_ <= n /\ i = .int .i64 k_ /\ Aside0 (anyO (fun x => quot_ask_1.f k x.f0 x.f1 x.f2) (l0.drop k_) = some b) /\ Below w.heap.size w wr) (fun i _ => n - (intOf i).toNat)
 case atStart => exact ⟨0, Nat.zero_le _, rfl, ⟨H0.out⟩, Below.refl _ _⟩
 case round =>
  obtain ⟨q, hq, rfl, HP, hb⟩ := hrel
  by_cases hlt : q < n
  ·have hlt' : (q : Int) < (n : Int) := by omega
   have hdrop : l0.drop q = (l0.getD q z24) :: l0.drop (q + 1) := drop_any (by have := HN.out; omega)
   obtain ⟨x, hx⟩ : ∃ x, l0.getD q z24 = x := ⟨_, rfl⟩
   have h1 := HP.out
   rw [hdrop, hx] at h1
   obtain ⟨t, ht, h2⟩ := anyO_cons h1
   obtain ⟨ad, c, hA, _, hK, hcc⟩ := Kd.C_get HR.out z24 (q : Int) (by omega) (by have := HN.out; omega)
   have hx' : l0.getD (q : Int).toNat z24 = x := by rw [Int.toNat_natCast]; exact hx
   rw [hx'] at hK
   obtain ⟨A1, c1, rfl, hl1, hg1⟩ := k24_open hK
   have hcell0 := hcc 0 _ rfl
   have hcell1 := hcc 1 _ rfl
   have hcell2 := hcc 2 _ rfl
   obtain ⟨ad', c', hA', _, hK', hcc'⟩ := Kd.C_get HR.out z24 (0 : Int) (by omega) (by have := HN.out; omega)
   obtain ⟨_, _, rfl, _⟩ := k24_open hK'
   have hfirst := hcc' 0 _ rfl
   obtain rfl : ad = ad' := Option.some.inj (hA.symm.trans hA')
   subst hA
   obtain ⟨b_, o_, rfl⟩ := addr_any (show w.cell? ad = _ from hfirst)
   have hck0 : wr.cell? ⟨b_, o_ + q * 3, none⟩ = some (.bool x.f0) := by
    have h3 := pw_cell_below hb hcell0
    rw [add_any] at h3
    simpa [show k24.sz = 3 from rfl, Nat.add_assoc] using h3
   have hck1 : wr.cell? ⟨b_, o_ + q * 3 + 1, none⟩ = some (.slice A1 x.f1.length c1) := by
    have h3 := pw_cell_below hb hcell1
    rw [add_any] at h3
    simpa [show k24.sz = 3 from rfl, Nat.add_assoc] using h3
   have hck2 : wr.cell? ⟨b_, o_ + q * 3 + 2, none⟩ = some (.int .i64 x.f2) := by
    have h3 := pw_cell_below hb hcell2
    rw [add_any] at h3
    simpa [show k24.sz = 3 from rfl, Nat.add_assoc] using h3
   have hgw : Kd.C (Kd.int .u32) wr A1 x.f1.length x.f1 := Kd.C_below hg1 hb
   have cF := quot_ask_1.calls k x.f0 A1 c1 x.f1 x.f2 t wr hgw hl1 ht
   obtain ⟨y0, hy0⟩ : ∃ y, x.f0 = y := ⟨_, rfl⟩
   obtain ⟨y1, hy1⟩ : ∃ y, x.f1.length = y := ⟨_, rfl⟩
   obtain ⟨y2, hy2⟩ : ∃ y, x.f2 = y := ⟨_, rfl⟩
   rw [hy0] at hck0 cF
   rw [hy1] at hck1 cF
   rw [hy2] at hck2 cF
   have HF := Aside0.mk h2
   clear h1 hdrop hx hx' ht hcc hcell0 hcell1 hcell2 HP h2 hK hl1 hg1 hgw hy0 hy1 hy2 hfirst hcc' hA' hK'
   cases t with
   | true =>
    have HF1 := Aside0.mk (HF.out.1 rfl)
    clear HF
    go_wp2_with (go_at_call 124; refine (cF).mono ?_; rintro e w1 ⟨rfl, hb1⟩)
    go_ret
    exact ⟨idxR_at HF1.out q, hb.trans (hb1.mono hb.size)⟩
   | false =>
    have HF1 := Aside0.mk (HF.out.2 rfl)
    clear HF
    go_wp2_with (go_at_call 124; refine (cF).mono ?_; rintro e w1 ⟨rfl, hb1⟩)
    go_roundw
    case rel => exact ⟨q + 1, by omega, by go_num, HF1, hb.trans (hb1.mono hb.size)⟩
    case measure => simp [intOf]; omega
  ·obtain rfl : q = n := by omega
   have h1 := HP.out
   rw [List.drop_of_length_le (by have := HN.out; omega)] at h1
   have h2 := Aside0.mk (anyO_nil h1)
   clear h1
   go_wp2
   go_ret
   exact ⟨idxR_none h2.out, hb⟩
theorem quot_ask_any.calls (k : Nat) (A0 : Option Addr) (c0 : Nat) (l0 : List S24) (r : Bool) (w : World) (hr0 : Kd.C k24 w A0 l0.length l0) (hc0 : l0.length <= c0) (h : quot_ask_any.f k l0 = some r) :
  Calls Tryz.prog 123 #[.slice A0 l0.length c0, .func (.func 124) #[] #[]] w fun e w' => e = .returned (.bool r) /\ Below w.heap.size w w' := by
 have cI := quot_ask_any.index k A0 c0 l0 r w hr0 hc0 h
 clear h hr0 hc0
 go_enter Tryz.func123, Tryz.ntmps123
 go_wp2_with (go_at_call 154; refine cI.mono ?_; rintro e w1 ⟨⟨i, rfl, hi⟩, hb1⟩)
 go_ret
 exact ⟨by rw [<- hi]; first | rfl | simp, hb1⟩
end YtjbjkmccfocikaaGreatDoor.B
end
section
namespace YtjbjkmccfocikaaGreatDoor.B
open Go.RowKit YtjbjkmccfocikaaGreatDoorW.PrintWords YtjbjkmccfocikaaGreatDoorW.PrintLast YtjbjkmccfocikaaGreatDoorW.PrintMore
attribute [local go_sem] max2_int min2_int max_two min_two max_three min_three max_four min_four
def dec_number_zero.f (a0_0 : Bool) (l0_1 : List Int) (a0_2 : Int) : Option (Bool) := some ((l0_1.length : Int) == 0)
theorem dec_number_zero.calls (a0_0 : Bool) (A0_1 : Option Addr) (c0_1 : Nat) (l0_1 : List Int) (a0_2 : Int) (r : Bool) (w : World) (hr0_1 : Kd.C (Kd.int .u32) w A0_1 l0_1.length l0_1) (hc0_1 : l0_1.length <= c0_1) (h : dec_number_zero.f a0_0 l0_1 a0_2 = some r) :
  Calls Tryz.prog 104 #[.agg #[.bool a0_0, .slice A0_1 l0_1.length c0_1, .int .i64 a0_2]] w fun e w' => e = .returned (.bool r) /\ Below w.heap.size w w' := by
 have hu106 := Tryz.underlying106
 have HR0_1 := am hr0_1
 have HC0_1 := am hc0_1
 clear hr0_1 hc0_1
 have HB := am (Below.refl w.heap.size w)
 have H : (some ((l0_1.length : Int) == 0)) = some r := h
 clear h
 obtain rfl := Option.some.inj H
 go_enter Tryz.func104, Tryz.ntmps104
 go_wp2_with (first | ((with_reducible refine gd 1 ?_); refine bx 1 #[.bool a0_0, .slice A0_1 l0_1.length c0_1, .int .i64 a0_2] 106 (h := ?_); intro gb186 hg w2 hbox hb; have BK186 := am hbox; have GW186 := gW hg; have GE186 := gW hg; replace HB := bS hb; clear hb hbox hg; obtain ⟨hcz3_0, hcz3_1, hcz3_2, hfz3_0, hfz3_1, hfz3_2⟩ := cEc BK186.out))
 go_ret
 exact ⟨pE, pB⟩
def dec_must.f (l0 : List Int) (a1 : Int) : Option (List Int) := some l0
theorem dec_must.calls (P0_ : Nat -> Prop) (u9000_ : Value) (l0 : List Int) (a1 : Int) (r : List Int) (w0 w : World) (hB : Below w0.heap.size w0 w) (ho0 : Kd.R (Kd.int .u32) 85 w w0.heap.size P0_ u9000_ l0) (h : dec_must.f l0 a1 = some r) :
  Calls Tryz.prog 105 #[u9000_, .int .i64 a1] w fun e w' => ∃ v0_ : Value, e = .returned (v0_) /\ Kd.R (Kd.int .u32) 85 w' w0.heap.size (fun k_ => (P0_ k_ \/ w.heap.size <= k_)) v0_ r /\ Below w0.heap.size w0 w' /\ Kept w w' (fun k_ => P0_ k_) := by
 have HO0 := am (show Kd.R (Kd.int .u32) 85 w w0.heap.size (fun k_ => (P0_ k_ \/ w.heap.size <= k_)) u9000_ l0 from Kd.R_mono ho0 (fun k_ hk => (.inl hk)))
 have HK := am (Kept.refl w (fun k_ => P0_ k_))
 have HW0 := am hB.size
 have HB := am hB
 clear hB
 have H : (some l0) = some r := h
 clear h
 obtain rfl := Option.some.inj H
 go_enter Tryz.func105, Tryz.ntmps105
 go_wp2
 go_ret
 exact ⟨_, pE, by refine rp ?_; exact HO0.out, pB, by repeat (first | (with_reducible first | exact HK.out | apply Kept.alloc | apply Kept.drewN | apply Kept.drew) | exact HK.out)⟩
def dec_must2.f (a0 : ByteArray) (a1 : Int) : Option (ByteArray) := some a0
theorem dec_must2.calls (a0 : ByteArray) (a1 : Int) (r : ByteArray) (w : World) (h : dec_must2.f a0 a1 = some r) :
  Calls Tryz.prog 111 #[.string a0, .int .i64 a1] w fun e w' => e = .returned (.string r) /\ Drawn0 w w' := by
 have H : (some a0) = some r := h
 clear h
 obtain rfl := Option.some.inj H
 go_enter Tryz.func111, Tryz.ntmps111
 go_wp2
 go_ret
 exact ⟨pR, pD⟩
def nat_piece.l0 : Nat -> Int -> List Int -> Int -> Int -> Option (Int)
 | 0, _, _, _, _ => none
 | k + 1, x3, x7, x8, x9 => if x9 < x8 then (if 0 <= x9 then (if x9 < (x7.length : Int) then (nat_piece.l0 k ((((x3 * 10) % 4294967296) + (((rd x7 x9) - 48) % 256)) % 4294967296) x7 x8 (wrap64 (x9 + 1))) else (none)) else (none)) else (some x3)
def nat_piece.f (k : Nat) (a0 : ByteArray) : Option (Int) := (conv_bytes146.f a0).bind fun t240 => (nat_piece.l0 k 0 t240 (t240.length : Int) 0)
theorem nat_piece.calls (k : Nat) (a0 : ByteArray) (r : Int) (w : World) (h : nat_piece.f k a0 = some r) :
  Calls Tryz.prog 152 #[.string a0] w fun e w' => e = .returned (.int .u32 r) /\ Below w.heap.size w w' := by
 have HB := am (Below.refl w.heap.size w)
 have H : ((conv_bytes146.f a0).bind fun t240 => (nat_piece.l0 k 0 t240 (t240.length : Int) 0)) = some r := h
 clear h
 obtain ⟨t240, A2, H⟩ := ob H
 have H' := am H
 clear H
 go_enter Tryz.func152, Tryz.ntmps152
 go_wp2_with (first | ((with_reducible refine gd 7 ?_); refine conv_bytes146.op _ _ _ rfl rfl rfl A2.out ?_; intro v241 w3 ho0 hb; have HO242 := am (Kd.V_lower (Kd.V_mono (ok' := fun k_ => True) ho0 (fun k_ hk_ => trivial)) (below_size pB)); replace HB := bS hb; obtain ⟨Ao4, co4, eo4⟩ := Kd.V_slice HO242.out; subst eo4))
 go_loopg [3, 9] k (fun kq v3 v9 w' => ∃ (x3_1 : Int) (x9_1 : Int), v3 = .int .u32 x3_1 /\ v9 = .int .i64 x9_1 /\ Aside0 (nat_piece.l0 kq x3_1 t240 (t240.length : Int) x9_1 = some r) /\ Aside0 (kq <= k) /\ Aside0 (Kd.V (Kd.int .u8) 5 w' w.heap.size (fun _ => True) (.slice Ao4 t240.length co4) t240) /\ Aside0 (Below w.heap.size w w'))
 case atStart => exact ⟨(0), (0), pR, pR, H', ⟨Nat.le_refl _⟩, ⟨by refine vp ?_; exact HO242.out⟩, ⟨pB⟩⟩
 case round =>
  clear H'
  obtain ⟨x3_1, x9_1, rfl, rfl, HA, HK1, HO_7, HB⟩ := hrel
  cases gk with
  | zero => exact absurd HA.out (by simp [nat_piece.l0])
  | succ k1 =>
   have H := HA.out
   clear HA
   simp only [nat_piece.l0] at H
   by_cases c5 : x9_1 < (t240.length : Int)
   ·rw [if_pos c5] at H
    have c5b0 : decide (x9_1 < (t240.length : Int)) = true := decide_eq_true c5
    clear c5
    by_cases c6 : 0 <= x9_1
    ·rw [if_pos c6] at H
     have c6b0 : decide (0 <= x9_1) = true := decide_eq_true c6
     clear c6
     by_cases c7 : x9_1 < (t240.length : Int)
     ·rw [if_pos c7] at H
      have c7b0 : decide (x9_1 < (t240.length : Int)) = true := decide_eq_true c7
      clear c7
      have H' := am H
      clear H
      have p243 : 0 <= (x9_1 : Int) := of_decide_eq_true pQ
      have q243 : x9_1 < (t240.length : Int) := of_decide_eq_true pQ
      obtain ⟨ad243, e243, hx243_0⟩ := Kd.at_int (Kd.V_reads' HO_7.out).2.2 x9_1 p243 q243
      cases e243
      replace p243 := eq_true p243
      replace q243 := eq_true q243
      go_wp2
      go_roundg k1
      case measure => have := HK1.out; omega
      case rel => exact ⟨((((x3_1 * 10) % 4294967296) + (((rd t240 x9_1) - 48) % 256)) % 4294967296), (wrap64 (x9_1 + 1)), pR, pR, H', ⟨by have := HK1.out; omega⟩, ⟨by refine vp ?_; exact HO_7.out⟩, ⟨pB⟩⟩
     ·rw [if_neg c7] at H
      exact absurd H (by simp)
    ·rw [if_neg c6] at H
     exact absurd H (by simp)
   ·rw [if_neg c5] at H
    have c5b0 : decide (x9_1 < (t240.length : Int)) = false := decide_eq_false c5
    clear c5
    obtain rfl := Option.some.inj H
    go_wp2
    go_ret
    exact ⟨pE, pB⟩
def nat_Parse_1.f (a0 : Int) : Option (Bool) := if a0 < 48 then (some true) else (some (decide (a0 > 57)))
theorem nat_Parse_1.calls (a0 : Int) (r : Bool) (w : World) (h : nat_Parse_1.f a0 = some r) :
  Calls Tryz.prog 151 #[.int .u8 a0] w fun e w' => e = .returned (.bool r) /\ Drawn0 w w' := by
 have H : (if a0 < 48 then (some true) else (some (decide (a0 > 57)))) = some r := h
 clear h
 by_cases c2 : a0 < 48
 ·rw [if_pos c2] at H
  have c2b0 : decide (a0 < 48) = true := decide_eq_true c2
  clear c2
  obtain rfl := Option.some.inj H
  go_enter Tryz.func151, Tryz.ntmps151
  go_wp2
  go_ret
  exact ⟨pR, pD⟩
 ·rw [if_neg c2] at H
  have c2b0 : decide (a0 < 48) = false := decide_eq_false c2
  clear c2
  obtain rfl := Option.some.inj H
  go_enter Tryz.func151, Tryz.ntmps151
  go_wp2
  go_ret
  exact ⟨pR, pD⟩
end YtjbjkmccfocikaaGreatDoor.B
end
section
namespace YtjbjkmccfocikaaGreatDoor.B
open Go.RowKit YtjbjkmccfocikaaGreatDoorW.PrintWords YtjbjkmccfocikaaGreatDoor.P
def nat_Parse_any.f (l : List Int) : Option Bool := anyO (fun x => nat_Parse_1.f x) l
theorem nat_Parse_any.index (A0 : Option Addr) (c0 : Nat) (l0 : List Int) (b : Bool) (w : World) (hr0 : Kd.C (Kd.int .u8) w A0 l0.length l0) (hc0 : l0.length <= c0) (h : nat_Parse_any.f l0 = some b) :
  Calls Tryz.prog 182 #[.slice A0 l0.length c0, .func (.func 151) #[] #[]] w fun e w' => IdxR b e /\ Below w.heap.size w w' := by
 have hm : l0.length <= 9223372036854775807 := Kd.C_max hr0
 have HR := Aside0.mk hr0
 have HC := Aside0.mk hc0
 unfold nat_Parse_any.f at h
 have H0 := Aside0.mk h
 obtain ⟨n, hn⟩ : ∃ n, l0.length = n := ⟨_, rfl⟩
 rw [hn] at hm
 have HN := Aside0.mk hn
 clear h hr0 hc0
 rw [hn]
 clear hn
 go_enter Tryz.func182, Tryz.ntmps182
 go_wp2
 go_loopw [8] (fun i wr => ∃ k_ : Nat, k_ <= n /\ i = .int .i64 k_ /\ Aside0 (anyO (fun x => nat_Parse_1.f x) (l0.drop k_) = some b) /\ Below w.heap.size w wr) (fun i _ => n - (intOf i).toNat)
 case atStart => exact ⟨0, Nat.zero_le _, rfl, ⟨H0.out⟩, Below.refl _ _⟩
 case round =>
  obtain ⟨q, hq, rfl, HP, hb⟩ := hrel
  by_cases hlt : q < n
  ·have hlt' : (q : Int) < (n : Int) := by omega
   have hdrop : l0.drop q = (l0.getD q (0 : Int)) :: l0.drop (q + 1) := drop_any (by have := HN.out; omega)
   obtain ⟨x, hx⟩ : ∃ x, l0.getD q (0 : Int) = x := ⟨_, rfl⟩
   have h1 := HP.out
   rw [hdrop, hx] at h1
   obtain ⟨t, ht, h2⟩ := anyO_cons h1
   obtain ⟨ad, c, hA, _, hK, hcc⟩ := Kd.C_get HR.out (0 : Int) (q : Int) (by omega) (by have := HN.out; omega)
   have hx' : l0.getD (q : Int).toNat 0 = x := by rw [Int.toNat_natCast]; exact hx
   obtain rfl : c = [.int .u8 (l0.getD (q : Int).toNat 0)] := hK
   rw [hx'] at hcc
   have hcell0 := hcc 0 _ rfl
   obtain ⟨ad', c', hA', _, hK', hcc'⟩ := Kd.C_get HR.out (0 : Int) (0 : Int) (by omega) (by have := HN.out; omega)
   obtain rfl : c' = [.int .u8 (l0.getD (0 : Int).toNat 0)] := hK'
   have hfirst := hcc' 0 _ rfl
   obtain rfl : ad = ad' := Option.some.inj (hA.symm.trans hA')
   subst hA
   obtain ⟨b_, o_, rfl⟩ := addr_any (show w.cell? ad = _ from hfirst)
   have hck : wr.cell? ⟨b_, o_ + q, none⟩ = some (.int .u8 x) := by
    have h3 := pw_cell_below hb hcell0
    rw [add_any] at h3
    simpa [show (Kd.int .u8).sz = 1 from rfl] using h3
   have cF := fun W : World => nat_Parse_1.calls x t W ht
   have HF := Aside0.mk h2
   clear h1 hdrop hx hx' ht hcc hcell0 HP h2 hfirst hcc' hA'
   cases t with
   | true =>
    have HF1 := Aside0.mk (HF.out.1 rfl)
    clear HF
    go_wp2_with (go_at_call 151; refine (cF _).mono ?_; rintro e w1 ⟨rfl, hb1⟩)
    go_ret
    exact ⟨idxR_at HF1.out q, hb.trans (hb1.below.mono hb.size)⟩
   | false =>
    have HF1 := Aside0.mk (HF.out.2 rfl)
    clear HF
    go_wp2_with (go_at_call 151; refine (cF _).mono ?_; rintro e w1 ⟨rfl, hb1⟩)
    go_roundw
    case rel => exact ⟨q + 1, by omega, by go_num, HF1, hb.trans (hb1.below.mono hb.size)⟩
    case measure => simp [intOf]; omega
  ·obtain rfl : q = n := by omega
   have h1 := HP.out
   rw [List.drop_of_length_le (by have := HN.out; omega)] at h1
   have h2 := Aside0.mk (anyO_nil h1)
   clear h1
   go_wp2
   go_ret
   exact ⟨idxR_none h2.out, hb⟩
theorem nat_Parse_any.calls (A0 : Option Addr) (c0 : Nat) (l0 : List Int) (r : Bool) (w : World) (hr0 : Kd.C (Kd.int .u8) w A0 l0.length l0) (hc0 : l0.length <= c0) (h : nat_Parse_any.f l0 = some r) :
  Calls Tryz.prog 150 #[.slice A0 l0.length c0, .func (.func 151) #[] #[]] w fun e w' => e = .returned (.bool r) /\ Below w.heap.size w w' := by
 have cI := nat_Parse_any.index A0 c0 l0 r w hr0 hc0 h
 clear h hr0 hc0
 go_enter Tryz.func150, Tryz.ntmps150
 go_wp2_with (go_at_call 182; refine cI.mono ?_; rintro e w1 ⟨⟨i, rfl, hi⟩, hb1⟩)
 go_ret
 exact ⟨by rw [<- hi]; first | rfl | simp, hb1⟩
end YtjbjkmccfocikaaGreatDoor.B
end
section
namespace YtjbjkmccfocikaaGreatDoor.B
open Go.RowKit YtjbjkmccfocikaaGreatDoorW.PrintWords YtjbjkmccfocikaaGreatDoorW.PrintLast YtjbjkmccfocikaaGreatDoorW.PrintMore
attribute [local go_sem] max2_int min2_int max_two min_two max_three min_three max_four min_four
def nat_Parse.l0 : Nat -> ByteArray -> List Int -> Option (List Int × Int)
 | 0, _, _ => none
 | k + 1, x0, x4 => if x0.toList = ([] : List UInt8) then (some (x4, 0)) else ((nat_num_mul.f k x4 (([1000000000] : List Int))).bind fun t251 => (if 0 <= (wrap64 ((Int.tmod (wrap64 ((x0.size : Int) - 1)) 9) + 1)) then (if (wrap64 ((Int.tmod (wrap64 ((x0.size : Int) - 1)) 9) + 1)) <= (x0.size : Int) then ((nat_piece.f k (x0.extract 0 ((wrap64 ((Int.tmod (wrap64 ((x0.size : Int) - 1)) 9) + 1)) : Int).toNat)).bind fun t254 => ((nat_num_trim.f k (([t254] : List Int))).bind fun t258 => ((nat_num_add.f k t251 t258).bind fun t261 => (nat_Parse.l0 k (x0.extract ((wrap64 ((Int.tmod (wrap64 ((x0.size : Int) - 1)) 9) + 1)) : Int).toNat x0.size) t261)))) else (none)) else (none)))
def nat_Parse.f (k : Nat) (a0 : ByteArray) : Option (List Int × Int) := if (a0.size : Int) = 0 then (some (([] : List Int), 8)) else (if (a0.size : Int) > 2400 then (some (([] : List Int), 5)) else ((conv_bytes146.f a0).bind fun t244 => ((nat_Parse_any.f t244).bind fun t247 => (if t247 = true then (some (([] : List Int), 32)) else (nat_Parse.l0 k a0 ([] : List Int))))))
def nat_Parse.T10 : Bool × List (List Nat × List Nat) := (true, [([], []), ([], []), ([0, 1], [0, 1]), ([], []), ([], []), ([3, 4], [3, 4]), ([5, 2], [5]), ([6], [6]), ([7, 6], [7]), ([2, 8, 8], [2, 8]), ([9, 9, 0, 1, 2, 3, 4, 5, 6, 7, 8, 9], [0, 9])])
def nat_Parse.B10 : List Nat := [0, 0, 3, 0, 0, 24, 63, 127, 255, 511, 1023]
theorem nat_Parse.tab10 : rtab .any (opsOf Tryz.f116 10) = nat_Parse.T10 := by kernel_rfl
theorem nat_Parse.bits10 : waitsOk nat_Parse.T10.2 nat_Parse.B10 = true := by kernel_rfl
theorem nat_Parse.leaf {P : Prop} (h : P := by
 go_enter Tryz.func116, Tryz.ntmps116
 go_wp2_with (first | ((with_reducible refine gd 16 ?_); refine conv_bytes146.op _ _ _ rfl rfl rfl A4.out ?_; intro v0z w1z ho2z hb; have HO3z := am (Kd.V_lower (Kd.V_mono (ok' := fun k_ => True) ho2z (fun k_ hk_ => trivial)) (below_size pB)); replace HB := bS hb; obtain ⟨Ao4z, co5z, eo6z⟩ := Kd.V_slice HO3z.out; subst eo6z) | (refine gL (some 17) Tryz.func150 #[.slice Ao4z t244.length co5z, .func (.func 151) #[] #[]] (h := ?_); (with_reducible refine (nat_Parse_any.calls _ _ t244 true _ ?side1 ?side2 A5.out).mono ?_); (case side1 => exact Kd.C_below (Kd.V_reads' HO3z.out).2.2 pl); (case side2 => exact (Kd.V_reads' HO3z.out).2.1); rintro e w7z ⟨rfl, hb⟩; refine ⟨_, rfl, ?_⟩; replace HO3z := vbl HO3z hb; replace HB := bS hb) | (refine gL (some 17) Tryz.func150 #[.slice Ao4z t244.length co5z, .func (.func 151) #[] #[]] (h := ?_); (with_reducible refine (nat_Parse_any.calls _ _ t244 false _ ?side1 ?side2 A5.out).mono ?_); (case side1 => exact Kd.C_below (Kd.V_reads' HO3z.out).2.2 pl); (case side2 => exact (Kd.V_reads' HO3z.out).2.1); rintro e w7z ⟨rfl, hb⟩; refine ⟨_, rfl, ?_⟩; replace HO3z := vbl HO3z hb; replace HB := bS hb))
 first
  | have q_ := A5; have q_ : Aside0 (_ = some false) := A5
    go_loopg [0, 4] k (fun kq v8z v9z w' => ∃ (x10z : ByteArray) (x11z : List Int), v8z = .string x10z /\ Aside0 (nat_Parse.l0 kq x10z x11z = some (r1, r2)) /\ Aside0 (kq <= k) /\ Aside0 (Kd.R (Kd.int .u32) 85 w' w.heap.size (fun _ => True) v9z x11z) /\ Aside0 (Below w.heap.size w w'))
    case atStart => exact ⟨(a0), (([] : List Int)), pR, H', ⟨Nat.le_refl _⟩, ⟨pN⟩, ⟨pB⟩⟩
    case round =>
     clear H'
     obtain ⟨x10z, x11z, rfl, HA, HK12z, HO_4, HB⟩ := hrel
     cases gk with
     | zero => exact absurd HA.out (by simp [nat_Parse.l0])
     | succ k1 =>
      have H := HA.out
      clear HA
      simp only [nat_Parse.l0] at H
      by_cases c13z : x10z.toList = ([] : List UInt8)
      ·rw [if_pos c13z] at H
       have c14z : (x10z.toList == ([] : List UInt8)) = true := beq_iff_eq.mpr c13z
       have c15z : (x10z.toList != ([] : List UInt8)) = false := bne_eq_false_iff_eq.mpr c13z
       clear c13z
       simp only [Option.some.injEq, Prod.mk.injEq] at H
       obtain ⟨rfl, rfl⟩ := H
       go_wp2
       go_ret2
       exact ⟨_, pE, by refine rp ?_; exact HO_4.out, pB⟩
      ·rw [if_neg c13z] at H
       have c14z : (x10z.toList == ([] : List UInt8)) = false := beq_eq_false_iff_ne.mpr c13z
       have c15z : (x10z.toList != ([] : List UInt8)) = true := bne_iff_ne.mpr c13z
       obtain ⟨y16z, hy17z⟩ : ∃ y_ : List Int, y_ = (([1000000000] : List Int)) := ⟨_, rfl⟩
       replace H : ((nat_num_mul.f k1 x11z y16z).bind fun t18z => (if 0 <= (wrap64 ((Int.tmod (wrap64 ((x10z.size : Int) - 1)) 9) + 1)) then (if (wrap64 ((Int.tmod (wrap64 ((x10z.size : Int) - 1)) 9) + 1)) <= (x10z.size : Int) then ((nat_piece.f k1 (x10z.extract 0 ((wrap64 ((Int.tmod (wrap64 ((x10z.size : Int) - 1)) 9) + 1)) : Int).toNat)).bind fun t19z => ((nat_num_trim.f k1 (([t19z] : List Int))).bind fun t20z => ((nat_num_add.f k1 t18z t20z).bind fun t21z => (nat_Parse.l0 k1 (x10z.extract ((wrap64 ((Int.tmod (wrap64 ((x10z.size : Int) - 1)) 9) + 1)) : Int).toNat x10z.size) t21z)))) else (none)) else (none))) = some (r1, r2) := by have hy_ := hy17z; exact pH
       have Ny22z := am hy17z
       clear hy17z
       obtain ⟨t18z, A23z, H⟩ := ob H
       obtain ⟨ji24z, hji25z⟩ : ∃ j_ : Int, (wrap64 ((Int.tmod (wrap64 ((x10z.size : Int) - 1)) 9) + 1)) = j_ := ⟨_, rfl⟩
       replace H : (if 0 <= (ji24z) then (if (ji24z) <= (x10z.size : Int) then ((nat_piece.f k1 (x10z.extract 0 ((ji24z) : Int).toNat)).bind fun t19z => ((nat_num_trim.f k1 (([t19z] : List Int))).bind fun t20z => ((nat_num_add.f k1 t18z t20z).bind fun t21z => (nat_Parse.l0 k1 (x10z.extract ((ji24z) : Int).toNat x10z.size) t21z)))) else (none)) else (none)) = some (r1, r2) := by first | (rw [hji25z] at H; exact H) | (simp only [hji25z] at H ⊢; exact H)
       (try rw [hji25z] at A23z)
       have hji26z : (IntKind.i64.wrap ((Int.tmod (wrap64 ((x10z.size : Int) - 1)) 9) + 1)) = ji24z := (i64_w _).trans hji25z
       by_cases c27z : 0 <= (ji24z)
       ·rw [if_pos c27z] at H
        have c28z := eq_true c27z
        have c29z : decide (0 <= (ji24z)) = true := decide_eq_true c27z
        clear c27z
        by_cases c30z : (ji24z) <= (x10z.size : Int)
        ·rw [if_pos c30z] at H
         have c31z := eq_true c30z
         have c32z : decide ((ji24z) <= (x10z.size : Int)) = true := decide_eq_true c30z
         clear c30z
         obtain ⟨t19z, A33z, H⟩ := ob H
         obtain ⟨y34z, hy35z⟩ : ∃ y_ : List Int, y_ = (([t19z] : List Int)) := ⟨_, rfl⟩
         replace H : ((nat_num_trim.f k1 y34z).bind fun t20z => ((nat_num_add.f k1 t18z t20z).bind fun t21z => (nat_Parse.l0 k1 (x10z.extract ((ji24z) : Int).toNat x10z.size) t21z))) = some (r1, r2) := by have hy_ := hy35z; exact pH
         have Ny36z := am hy35z
         clear hy35z
         obtain ⟨t20z, A37z, H⟩ := ob H
         obtain ⟨t21z, A38z, H⟩ := ob H
         have c39z := eq_true (of_decide_eq_true pQ : 0 <= (ji24z))
         have c40z := eq_true (of_decide_eq_true pQ : (ji24z) <= (x10z.size : Int))
         have H' := am H
         clear H
         try go_wp2
         replace HO_4 := am (Kd.R_drew HO_4.out)
         replace HB := am (below_drew1 HB.out)
         refine start_ (n := 11) (S := fun w' => True) (ds := []) #[false, false, false, false, false, false, false, false, false, false, false] (by kernel_rfl) rfl rfl trivial (fun hHeld => ?_); refine with_tabW nat_Parse.tab10 nat_Parse.bits10 (fun HT_ HW_ => ?_)
         generalize wr.drew = w41z at HO_4 HB hHeld ⊢
         refine pu 0 (some 25) #[true, false, false, false, false, false, false, false, false, false, false] (h := ?_)
         refine pu 3 (some 28) #[true, false, false, true, false, false, false, false, false, false, false] (h := ?_)
         refine pu 4 (some 29) #[true, false, false, true, true, false, false, false, false, false, false] (h := ?_)
         refine pu 5 (some 30) #[true, false, false, true, true, true, false, false, false, false, false] (h := ?_)
         refine one_ (i := 1) (N := some 26) #[true, true, false, true, true, true, false, false, false, false, false] rfl rfl (one_of HT_.out (by kernel_rfl)) (by decide) (fun K hK => ?_)
         refine Kd.R_lit_step (Kd.int .u32) _ 85 ?hg (N := 26) ?hd (xs := ([1000000000] : List Int)) (inner := [.int .u32 1000000000]) (ok := fun _ => True) (okp := fun _ => True) ?hr ?hp (fun _ hk => hk) trivial (Below.refl _ _) (Nat.le_refl _) (by simp) ?_; (case hd => rfl); (case hg => rfl); (case hr => first | (go_simp; done) | (go_simp; rfl)); (case hp => exact (Reps.one (show Kd.M (Kd.int .u32) _ _ _ 1000000000 [.int .u32 1000000000] from rfl) (Reps.none _ _)))
         intro v42z w43z ho44z hb hg_ hnew_
         clear hg_ hnew_
         (first | rw [<- Ny22z.out] at ho44z | (simp only [Int.reduceToNat] at ho44z; rw [<- Ny22z.out] at ho44z))
         have HO45z := am (Kd.R_lower (Kd.R_new' ho44z (Kd.R_lt (Kd.R_below HO_4.out pl))) (below_size pB))
         replace HO_4 := reR HO_4 ho44z hb
         replace HB := bS hb
         clear hb ho44z
         obtain ⟨Ao46z, co47z, eo48z⟩ := Kd.R_slice HO_4.out
         (first | subst eo48z | (injection eo48z with f1_ f2_ f3_; have f4_ := f1_.symm; have f5_ := f3_.symm; clear f1_ f2_ f3_; subst f4_; subst f5_))
         obtain ⟨Ao49z, co50z, eo51z⟩ := Kd.R_slice HO45z.out
         (first | subst eo51z | (injection eo51z with f1_ f2_ f3_; have f4_ := f1_.symm; have f5_ := f3_.symm; clear f1_ f2_ f3_; subst f4_; subst f5_))
         refine hK.out _ _ trivial (fun hHeld => ?_)
         clear hK K
         refine norm_ (a' := ?_) ?_ ?_
         rotate_left
         ·show Act.put _ (some 26) _ = _
          exact pP
         refine one_ (i := 2) (N := some 27) #[true, true, true, true, true, true, false, false, false, false, false] rfl rfl (one_of HT_.out (by kernel_rfl)) (by decide) (fun K hK => ?_)
         refine goes_ Tryz.func129 (by kernel_rfl) rfl #[.slice Ao46z x11z.length co47z, .slice Ao49z y16z.length co50z] (by rfl) rfl rfl pA ?_
         with_reducible refine (nat_num_mul.calls k1 _ _ x11z _ _ y16z t18z _ ?side1 ?side2 ?side3 ?side4 A23z.out).mono ?_
         (case side1 => exact Kd.C_below (Kd.R_reads' HO_4.out).2.2 pl)
         (case side2 => exact (Kd.R_reads' HO_4.out).2.1)
         (case side3 => exact Kd.C_below (Kd.R_reads' HO45z.out).2.2 pl)
         (case side4 => exact (Kd.R_reads' HO45z.out).2.1)
         rintro e w52z ⟨v53z, rfl, ho2z, hb⟩
         refine ⟨_, rfl, ?_⟩
         have HO54z := am (Kd.R_lower (Kd.R_new' (Kd.R_new' ho2z (Kd.R_lt (Kd.R_below HO_4.out pl))) (Kd.R_lt (Kd.R_below HO45z.out pl))) (below_size pB))
         replace HO_4 := reR HO_4 ho2z hb
         replace HO45z := reR HO45z ho2z hb
         replace HB := bS hb
         refine hK.out _ _ trivial (fun hHeld => ?_)
         clear hK K
         refine norm_ (a' := ?_) ?_ ?_
         rotate_left
         ·show Act.put _ (some 27) _ = _
          exact pP
         refine one_ (i := 6) (N := some 31) #[true, true, true, true, true, true, true, false, false, false, false] rfl rfl (one_of HT_.out (by kernel_rfl)) (by decide) (fun K hK => ?_)
         refine goes_ Tryz.func152 (by kernel_rfl) rfl #[.string (x10z.extract 0 ((ji24z) : Int).toNat)] (by rfl) rfl rfl (by (try simp only [List.map_toArray, List.map_cons, List.map_nil]); first | done | (simp only [hji25z]; rfl) | rfl | (simp only [List.length_drop, List.length_take]; rfl)) ?_
         with_reducible refine (nat_piece.calls k1 (x10z.extract 0 ((ji24z) : Int).toNat) t19z _ A33z.out).mono ?_
         rintro e w55z ⟨rfl, hb⟩
         refine ⟨_, rfl, ?_⟩
         replace HO_4 := rbl HO_4 hb
         replace HO45z := rbl HO45z hb
         replace HO54z := rbl HO54z hb
         replace HB := bS hb
         refine hK.out _ _ trivial (fun hHeld => ?_)
         clear hK K
         refine norm_ (a' := ?_) ?_ ?_
         rotate_left
         ·show Act.put _ (some 31) _ = _
          exact pP
         refine one_ (i := 7) (N := some 32) #[true, true, true, true, true, true, true, true, false, false, false] rfl rfl (one_of HT_.out (by kernel_rfl)) (by decide) (fun K hK => ?_)
         refine Kd.R_lit_step (Kd.int .u32) _ 85 ?hg (N := 32) ?hd (xs := ([t19z] : List Int)) (inner := [.int .u32 t19z]) (ok := fun _ => True) (okp := fun _ => True) ?hr ?hp (fun _ hk => hk) trivial (Below.refl _ _) (Nat.le_refl _) (by simp) ?_; (case hd => rfl); (case hg => rfl); (case hr => first | (go_simp; done) | (go_simp; rfl)); (case hp => exact (Reps.one (show Kd.M (Kd.int .u32) _ _ _ t19z [.int .u32 t19z] from rfl) (Reps.none _ _)))
         intro v56z w57z ho58z hb hg_ hnew_
         clear hg_ hnew_
         (first | rw [<- Ny36z.out] at ho58z | (simp only [Int.reduceToNat] at ho58z; rw [<- Ny36z.out] at ho58z))
         have HO59z := am (Kd.R_lower (Kd.R_new' (Kd.R_new' (Kd.R_new' ho58z (Kd.R_lt (Kd.R_below HO_4.out pl))) (Kd.R_lt (Kd.R_below HO45z.out pl))) (Kd.R_lt (Kd.R_below HO54z.out pl))) (below_size pB))
         replace HO_4 := reR HO_4 ho58z hb
         replace HO45z := reR HO45z ho58z hb
         replace HO54z := reR HO54z ho58z hb
         replace HB := bS hb
         clear hb ho58z
         obtain ⟨Ao60z, co61z, eo62z⟩ := Kd.R_slice HO59z.out
         (first | subst eo62z | (injection eo62z with f1_ f2_ f3_; have f4_ := f1_.symm; have f5_ := f3_.symm; clear f1_ f2_ f3_; subst f4_; subst f5_))
         refine hK.out _ _ trivial (fun hHeld => ?_)
         clear hK K
         refine norm_ (a' := ?_) ?_ ?_
         rotate_left
         ·show Act.put _ (some 32) _ = _
          exact pP
         refine one_ (i := 8) (N := some 33) #[true, true, true, true, true, true, true, true, true, false, false] rfl rfl (one_of HT_.out (by kernel_rfl)) (by decide) (fun K hK => ?_)
         refine goes_ Tryz.func132 (by kernel_rfl) rfl #[.slice Ao60z y34z.length co61z] (by rfl) rfl rfl pA ?_
         with_reducible refine (nat_num_trim.calls k1 (fun k_ => some k_ = (.slice Ao60z y34z.length co61z : Value).ownBlock) (.slice Ao60z y34z.length co61z) y34z t20z w _ ?side1 ?side2 A37z.out).mono ?_
         (case side1 => exact pB)
         (case side2 => exact Kd.R_tight rfl HO59z.out)
         rintro e w63z ⟨v64z, rfl, ho2z, hb, hkp⟩
         refine ⟨_, rfl, ?_⟩
         have HO65z := am (Kd.R_mono (ok' := fun k_ => some k_ ≠ (.slice Ao46z x11z.length co47z : Value).ownBlock /\ some k_ ≠ (.slice Ao49z y16z.length co50z : Value).ownBlock /\ some k_ ≠ (v53z : Value).ownBlock) ho2z (fun k_ hk_ => ⟨Or.elim hk_ (fun hs_ => fun e_ => (((HO_4.out).1 k_ e_.symm).2) hs_) (fun hn_ => (Kd.fresh' (Kd.R_lt (Kd.R_below HO_4.out pl)) k_ hn_)), Or.elim hk_ (fun hs_ => fun e_ => (((HO45z.out).1 k_ e_.symm).2) hs_) (fun hn_ => (Kd.fresh' (Kd.R_lt (Kd.R_below HO45z.out pl)) k_ hn_)), Or.elim hk_ (fun hs_ => fun e_ => (((HO54z.out).1 k_ e_.symm).2) hs_) (fun hn_ => (Kd.fresh' (Kd.R_lt (Kd.R_below HO54z.out pl)) k_ hn_))⟩))
         replace HO_4 := am (Kd.R_mono (ok' := fun k_ => some k_ ≠ (.slice Ao49z y16z.length co50z : Value).ownBlock /\ some k_ ≠ (v53z : Value).ownBlock /\ some k_ ≠ (v64z : Value).ownBlock) (Kd.R_keptB (HO_4.out) hkp (fun k_ hk_ hs_ => (hk_.2) hs_)) (fun k_ hk_ => ⟨hk_.1.1.1.2, hk_.1.1.2, fun e_ => Or.elim (ho2z.1 k_ e_.symm) (fun hs_ => hk_.2.1 hs_) (fun hn_ => Nat.not_le.2 hk_.2.2 hn_)⟩))
         replace HO45z := am (Kd.R_mono (ok' := fun k_ => some k_ ≠ (.slice Ao46z x11z.length co47z : Value).ownBlock /\ some k_ ≠ (v53z : Value).ownBlock /\ some k_ ≠ (v64z : Value).ownBlock) (Kd.R_keptB (HO45z.out) hkp (fun k_ hk_ hs_ => (hk_.2) hs_)) (fun k_ hk_ => ⟨hk_.1.1.1.2, hk_.1.1.2, fun e_ => Or.elim (ho2z.1 k_ e_.symm) (fun hs_ => hk_.2.1 hs_) (fun hn_ => Nat.not_le.2 hk_.2.2 hn_)⟩))
         replace HO54z := am (Kd.R_mono (ok' := fun k_ => some k_ ≠ (.slice Ao46z x11z.length co47z : Value).ownBlock /\ some k_ ≠ (.slice Ao49z y16z.length co50z : Value).ownBlock /\ some k_ ≠ (v64z : Value).ownBlock) (Kd.R_keptB (HO54z.out) hkp (fun k_ hk_ hs_ => (hk_.2) hs_)) (fun k_ hk_ => ⟨hk_.1.1.1.2, hk_.1.1.2, fun e_ => Or.elim (ho2z.1 k_ e_.symm) (fun hs_ => hk_.2.1 hs_) (fun hn_ => Nat.not_le.2 hk_.2.2 hn_)⟩))
         replace HB := am hb
         clear HO59z
         obtain ⟨Ao66z, co67z, eo68z⟩ := Kd.R_slice HO54z.out
         (first | subst eo68z | (injection eo68z with f1_ f2_ f3_; have f4_ := f1_.symm; have f5_ := f3_.symm; clear f1_ f2_ f3_; subst f4_; subst f5_))
         obtain ⟨Ao69z, co70z, eo71z⟩ := Kd.R_slice HO65z.out
         (first | subst eo71z | (injection eo71z with f1_ f2_ f3_; have f4_ := f1_.symm; have f5_ := f3_.symm; clear f1_ f2_ f3_; subst f4_; subst f5_))
         refine hK.out _ _ trivial (fun hHeld => ?_)
         clear hK K
         refine norm_ (a' := ?_) ?_ ?_
         rotate_left
         ·show Act.put _ (some 33) _ = _
          exact pP
         refine one_ (i := 9) (N := some 34) #[true, true, true, true, true, true, true, true, true, true, false] rfl rfl (one_of HT_.out (by kernel_rfl)) (by decide) (fun K hK => ?_)
         refine goes_ Tryz.func131 (by kernel_rfl) rfl #[.slice Ao66z t18z.length co67z, .slice Ao69z t20z.length co70z] (by rfl) rfl rfl pA ?_
         with_reducible refine (nat_num_add.calls k1 _ _ t18z _ _ t20z t21z _ ?side1 ?side2 ?side3 ?side4 A38z.out).mono ?_
         (case side1 => exact Kd.C_below (Kd.R_reads' HO54z.out).2.2 pl)
         (case side2 => exact (Kd.R_reads' HO54z.out).2.1)
         (case side3 => exact Kd.C_below (Kd.R_reads' HO65z.out).2.2 pl)
         (case side4 => exact (Kd.R_reads' HO65z.out).2.1)
         rintro e w72z ⟨v73z, rfl, ho2z, hb⟩
         refine ⟨_, rfl, ?_⟩
         have HO74z := am (Kd.R_lower (Kd.R_new' (Kd.R_new' (Kd.R_new' (Kd.R_new' ho2z (Kd.R_lt (Kd.R_below HO_4.out pl))) (Kd.R_lt (Kd.R_below HO45z.out pl))) (Kd.R_lt (Kd.R_below HO54z.out pl))) (Kd.R_lt (Kd.R_below HO65z.out pl))) (below_size pB))
         replace HO_4 := reR HO_4 ho2z hb
         replace HO45z := reR HO45z ho2z hb
         replace HO54z := reR HO54z ho2z hb
         replace HO65z := reR HO65z ho2z hb
         replace HB := bS hb
         refine hK.out _ _ trivial (fun hHeld => ?_)
         clear hK K
         refine norm_ (a' := ?_) ?_ ?_
         rotate_left
         ·show Act.put _ (some 34) _ = _
          exact pP
         refine pu 10 (some 4) #[true, true, true, true, true, true, true, true, true, true, true] (h := ?_)
         refine done_ (done_of HT_.out (by kernel_rfl)) ?_
         try go_wp2
         go_roundg k1
         case measure => have := HK12z.out; omega
         case rel => exact ⟨(x10z.extract ((ji24z) : Int).toNat x10z.size), (t21z), (by first | rfl | (simp; done) | (simp only [<- hji25z] <;> (first | rfl | simp)) | (simp [*]; done)), (by first | exact H' | (have H_ := H'.out; simp only [<- hji25z] at H_; exact ⟨H_⟩) | (refine ⟨?_⟩; have H_ := H'.out; simp only [<- hji25z] at H_ ⊢; exact H_)), ⟨by have := HK12z.out; omega⟩, ⟨by refine rp ?_; exact Kd.R_mono HO74z.out (fun _ hk => trivial)⟩, ⟨pB⟩⟩
        ·rw [if_neg c30z] at H
         exact absurd H (by simp)
       ·rw [if_neg c27z] at H
        exact absurd H (by simp)
  | go_ret2
    exact ⟨_, pE, pN, pB⟩) : P := h
theorem nat_Parse.calls (k : Nat) (a0 : ByteArray) (r1 : List Int) (r2 : Int) (w : World) (h : nat_Parse.f k a0 = some (r1, r2)) :
  Calls Tryz.prog 116 #[.string a0] w fun e w' => ∃ v0_ : Value, e = .returned (.tuple #[v0_, .int .i64 r2]) /\ Kd.R (Kd.int .u32) 85 w' w.heap.size (fun _ => True) v0_ r1 /\ Below w.heap.size w w' := by
 have HB := am (Below.refl w.heap.size w)
 have H : (if (a0.size : Int) = 0 then (some (([] : List Int), 8)) else (if (a0.size : Int) > 2400 then (some (([] : List Int), 5)) else ((conv_bytes146.f a0).bind fun t244 => ((nat_Parse_any.f t244).bind fun t247 => (if t247 = true then (some (([] : List Int), 32)) else (nat_Parse.l0 k a0 ([] : List Int))))))) = some (r1, r2) := h
 clear h
 by_cases c2 : (a0.size : Int) = 0
 ·rw [if_pos c2] at H
  have c2b0 : ((a0.size : Int) == 0) = true := beq_iff_eq.mpr c2
  have c2b1 : ((a0.size : Int) != 0) = false := bne_eq_false_iff_eq.mpr c2
  clear c2
  simp only [Option.some.injEq, Prod.mk.injEq] at H
  obtain ⟨rfl, rfl⟩ := H
  exact nat_Parse.leaf
 ·rw [if_neg c2] at H
  have c2b0 : ((a0.size : Int) == 0) = false := beq_eq_false_iff_ne.mpr c2
  have c2b1 : ((a0.size : Int) != 0) = true := bne_iff_ne.mpr c2
  by_cases c3 : (a0.size : Int) > 2400
  ·rw [if_pos c3] at H
   have c3b0 : decide (2400 < (a0.size : Int)) = true := decide_eq_true c3
   have c3b1 : decide (2400 < a0.size) = true := decide_eq_true (by omega)
   clear c3
   simp only [Option.some.injEq, Prod.mk.injEq] at H
   obtain ⟨rfl, rfl⟩ := H
   exact nat_Parse.leaf
  ·rw [if_neg c3] at H
   have c3b0 : decide (2400 < (a0.size : Int)) = false := decide_eq_false c3
   have c3b1 : decide (2400 < a0.size) = false := decide_eq_false (by omega)
   clear c3
   obtain ⟨t244, A4, H⟩ := ob H
   obtain ⟨t247, A5, H⟩ := ob H
   by_cases c6 : t247 = true
   ·subst c6
    rw [if_pos rfl] at H
    simp only [Option.some.injEq, Prod.mk.injEq] at H
    obtain ⟨rfl, rfl⟩ := H
    exact nat_Parse.leaf
   ·replace c6 := Bool.eq_false_iff.mpr c6
    subst c6
    rw [if_neg (show ¬ (false = true) by decide)] at H
    have H' := am H
    clear H
    exact nat_Parse.leaf
end YtjbjkmccfocikaaGreatDoor.B
end
section
namespace YtjbjkmccfocikaaGreatDoor.B
open Go.RowKit Go.Shelf YtjbjkmccfocikaaGreatDoorW.PrintWords
def strings_TrimRight.f (s t : ByteArray) : Option ByteArray := if t = ⟨#[48]⟩ /\ s.size <= 9223372036854775807 then some ⟨(Lib.trimRightB s.data.toList 48).toArray⟩ else none
theorem strings_TrimRight.calls (a0 a1 : ByteArray) (r : ByteArray) (w : World) (h : strings_TrimRight.f a0 a1 = some r) :
  Calls Tryz.prog 167 #[.string a0, .string a1] w fun e w' => e = .returned (.string r) /\ Below w.heap.size w w' := by
 unfold strings_TrimRight.f at h
 split at h
 ·rename_i hh
  obtain ⟨rfl, hs⟩ := hh
  obtain rfl := Option.some.inj h
  exact (Tryz.strings_TrimRight_one a0 48 (by decide) w hs).mono fun e w' ⟨he, hw⟩ => ⟨he, by subst hw; exact Below.refl _ _⟩
 ·cases h
end YtjbjkmccfocikaaGreatDoor.B
end
section
namespace YtjbjkmccfocikaaGreatDoor.B
open Go.RowKit YtjbjkmccfocikaaGreatDoorW.PrintWords YtjbjkmccfocikaaGreatDoorW.PrintLast YtjbjkmccfocikaaGreatDoorW.PrintMore
attribute [local go_sem] max2_int min2_int max_two min_two max_three min_three max_four min_four
def dec_number_strip.f (k : Nat) (a0_0 : Bool) (l0_1 : List Int) (a0_2 : Int) : Option (Bool × List Int × Int) := (nat_Print.f k l0_1).bind fun bt266 => ((dec_must2.f bt266.1 bt266.2).bind fun t268 => ((strings_TrimRight.f t268 (⟨#[48]⟩ : ByteArray)).bind fun t269 => (if (t269.size : Int) = (t268.size : Int) then (some (a0_0, l0_1, a0_2)) else ((nat_Parse.f k t269).bind fun bt270 => ((dec_must.f bt270.1 bt270.2).bind fun t274 => (some (a0_0, t274, wrap64 (a0_2 + (wrap64 ((t268.size : Int) - (t269.size : Int)))))))))))
theorem dec_number_strip.leaf {P : Prop} (h : P := by
 obtain ⟨Ao0z, co1z, eo2z⟩ := Kd.R_slice HO0_1.out
 subst eo2z
 go_enter Tryz.func140, Tryz.ntmps140
 go_wp2_with (first | ((with_reducible refine gd 1 ?_); refine bx 1 #[.bool a0_0, .slice Ao0z l0_1.length co1z, .int .i64 a0_2] 106 (h := ?_); intro gb3z hg w4z hbox hb; have BK5z := am hbox; have GW6z := am ((by rw [hg]; exact (by first | exact HK.out.1 | exact (show Kept w _ (fun k_ => P0_1_ k_) from by repeat (first | (with_reducible first | exact HK.out | apply Kept.alloc | apply Kept.drewN | apply Kept.drew) | exact HK.out)).1) : w.heap.size <= gb3z)); have GE7z := am ((gw hg pB : w0.heap.size <= gb3z)); replace HO0_1 := rbl HO0_1 hb; replace HK := am (Kept.below (S := (fun k_ => P0_1_ k_)) (by repeat (first | (with_reducible first | exact HK.out | apply Kept.alloc | apply Kept.drewN | apply Kept.drew) | exact HK.out)) hb); replace HB := bS hb; clear hb hbox hg) | ((with_reducible refine gd 2 ?_); refine bx 2 #[.bool false, .slice none 0 0, .int .i64 0] 106 (h := ?_); intro gb8z hg w9z hbox hb; have BK10z := am hbox; have GW11z := am ((by rw [hg]; exact (by first | exact HK.out.1 | exact (show Kept w _ (fun k_ => P0_1_ k_) from by repeat (first | (with_reducible first | exact HK.out | apply Kept.alloc | apply Kept.drewN | apply Kept.drew | refine Kept.setCell ?_ (.inr GW6z.out) _) | exact HK.out)).1) : w.heap.size <= gb8z)); have GE12z := am ((gw hg pB : w0.heap.size <= gb8z)); have NB13z := nL hg BK5z; have NB14z := nG hg BK5z; replace HO0_1 := rbl HO0_1 hb; replace BK5z := bb BK5z hb; replace HK := am (Kept.below (S := (fun k_ => P0_1_ k_)) (by repeat (first | (with_reducible first | exact HK.out | apply Kept.alloc | apply Kept.drewN | apply Kept.drew | refine Kept.setCell ?_ (.inr GW6z.out) _) | exact HK.out)) hb); replace HB := bS hb; clear hb hbox hg; have hnb15z := NB13z.out; have hnc16z := NB14z.out; obtain ⟨hcz17z, hcz18z, hcz19z, hfz20z, hfz21z, hfz22z⟩ := cEc BK5z.out) | (refine gL (some 8) Tryz.func112 #[.slice Ao0z l0_1.length co1z] (h := ?_); (with_reducible refine (nat_Print.calls k (fun k_ => some k_ = (.slice Ao0z l0_1.length co1z : Value).ownBlock) _ _ l0_1 t266 t267 _ ?side1 A2.out).mono ?_); (case side1 => exact Kd.R_V (Kd.R_tight rfl (Kd.R_types (Kd.R_types (HO0_1.out) BK5z.out (by decide)) BK10z.out (by decide)))); rintro e w23z ⟨rfl, hb⟩; refine ⟨_, rfl, ?_⟩; replace HO0_1 := rbl HO0_1 hb; replace BK5z := bb BK5z hb; replace BK10z := bb BK10z hb; replace HK := am (Kept.below (S := (fun k_ => P0_1_ k_)) (by repeat (first | (with_reducible first | exact HK.out | apply Kept.alloc | apply Kept.drewN | apply Kept.drew | refine Kept.setCell ?_ (.inr GW6z.out) _ | refine Kept.setCell ?_ (.inr GW11z.out) _) | exact HK.out)) hb); replace HB := bS hb) | (refine gL (some 11) Tryz.func111 #[.string t266, .int .i64 t267] (h := ?_); (with_reducible refine (dec_must2.calls t266 t267 t268 _ A3.out).mono ?_); rintro e w' ⟨rfl, ⟨nd, rfl⟩⟩; refine ⟨_, rfl, ?_⟩; (try (rw [drewN_self w23z]; generalize hq_ : World.drewN w23z _ = w23z; replace HO0_1 : Aside0 (Kd.R (Kd.int .u32) 85 w23z w0.heap.size (fun k_ => (P0_1_ k_ \/ w.heap.size <= k_)) (.slice Ao0z l0_1.length co1z) l0_1) := ⟨by rw [<- hq_]; exact (Kd.R_below HO0_1.out pl)⟩; replace BK5z : Aside0 (w23z.heap[gb3z]? = some (.cells #[.bool a0_0, .slice Ao0z l0_1.length co1z, .int .i64 a0_2] 106 (0, 0))) := ⟨by rw [<- hq_]; exact (blk_below BK5z.out pl)⟩; replace BK10z : Aside0 (w23z.heap[gb8z]? = some (.cells #[.bool false, .slice none 0 0, .int .i64 0] 106 (0, 0))) := ⟨by rw [<- hq_]; exact (blk_below BK10z.out pl)⟩; replace HK : Aside0 (Kept w w23z (fun k_ => P0_1_ k_)) := ⟨by rw [<- hq_]; exact (by repeat (first | (with_reducible first | exact HK.out | apply Kept.alloc | apply Kept.drewN | apply Kept.drew | refine Kept.setCell ?_ (.inr GW6z.out) _ | refine Kept.setCell ?_ (.inr GW11z.out) _) | exact HK.out))⟩; replace HB : Aside0 (Below w0.heap.size w0 w23z) := ⟨by rw [<- hq_]; exact pB⟩; clear hq_))) | ((have q_ := A16; clear q_); refine gL (some 13) Tryz.func167 #[.string t268, .string (⟨#[48]⟩ : ByteArray)] (h := ?_); (with_reducible refine (strings_TrimRight.calls t268 (⟨#[48]⟩ : ByteArray) t269 _ A4.out).mono ?_); rintro e w24z ⟨rfl, hb⟩; refine ⟨_, rfl, ?_⟩; replace HO0_1 := rbl HO0_1 hb; replace BK5z := bb BK5z hb; replace BK10z := bb BK10z hb; replace HK := am (Kept.below (S := (fun k_ => P0_1_ k_)) (by repeat (first | (with_reducible first | exact HK.out | apply Kept.alloc | apply Kept.drewN | apply Kept.drew | refine Kept.setCell ?_ (.inr GW6z.out) _ | refine Kept.setCell ?_ (.inr GW11z.out) _) | exact HK.out)) hb); replace HB := bS hb) | (refine gL (some 21) Tryz.func116 #[.string t269] (h := ?_); (with_reducible refine (nat_Parse.calls k t269 t270 t271 _ A15.out).mono ?_); rintro e w25z ⟨v26z, rfl, ho27z, hb⟩; refine ⟨_, rfl, ?_⟩; have HO28z := am (Kd.R_lower (Kd.R_new' (Kd.R_newM (M := fun k_ => (P0_1_ k_ \/ w.heap.size <= k_)) ho27z (by first | exact HK.out.1 | exact (show Kept w _ (fun k_ => P0_1_ k_) from by repeat (first | (with_reducible first | exact HK.out | apply Kept.alloc | apply Kept.drewN | apply Kept.drew | refine Kept.setCell ?_ (.inr GW6z.out) _ | refine Kept.setCell ?_ (.inr GW11z.out) _) | exact HK.out)).1) (fun k_ h_ => .inr h_)) (Kd.R_lt (Kd.R_below HO0_1.out pl))) (below_size pB)); replace HO0_1 := reR HO0_1 ho27z hb; replace BK5z := bb BK5z hb; replace BK10z := bb BK10z hb; replace HK := am (Kept.below (S := (fun k_ => P0_1_ k_)) (by repeat (first | (with_reducible first | exact HK.out | apply Kept.alloc | apply Kept.drewN | apply Kept.drew | refine Kept.setCell ?_ (.inr GW6z.out) _ | refine Kept.setCell ?_ (.inr GW11z.out) _) | exact HK.out)) hb); replace HB := bS hb; obtain ⟨Ao29z, co30z, eo31z⟩ := Kd.R_slice HO28z.out; subst eo31z) | (refine gL (some 24) Tryz.func105 #[.slice Ao29z t270.length co30z, .int .i64 t271] (h := ?_); (with_reducible refine (dec_must.calls (fun k_ => some k_ = (.slice Ao29z t270.length co30z : Value).ownBlock) (.slice Ao29z t270.length co30z) t270 t271 t274 w0 _ ?side1 ?side2 A16.out).mono ?_); (case side1 => exact pB); (case side2 => exact Kd.R_tight rfl HO28z.out); rintro e w32z ⟨v33z, rfl, ho27z, hb, hkp⟩; refine ⟨_, rfl, ?_⟩; have HO34z := am (Kd.R_mono (ok' := fun k_ => (P0_1_ k_ \/ w.heap.size <= k_) /\ some k_ ≠ (.slice Ao0z l0_1.length co1z : Value).ownBlock) ho27z (fun k_ hk_ => ⟨Or.elim hk_ (fun hs_ => (HO28z.out.1 k_ (hs_).symm).1.1) (fun hn_ => (.inr (Nat.le_trans (by first | exact HK.out.1 | exact (show Kept w _ (fun k_ => P0_1_ k_) from by repeat (first | (with_reducible first | exact HK.out | apply Kept.alloc | apply Kept.drewN | apply Kept.drew | refine Kept.setCell ?_ (.inr GW6z.out) _ | refine Kept.setCell ?_ (.inr GW11z.out) _) | exact HK.out)).1) hn_))), Or.elim hk_ (fun hs_ => fun e_ => (((HO0_1.out).1 k_ e_.symm).2) hs_) (fun hn_ => (Kd.fresh' (Kd.R_lt (Kd.R_below HO0_1.out pl)) k_ hn_))⟩)); replace HO0_1 := am (Kd.R_mono (ok' := fun k_ => (P0_1_ k_ \/ w.heap.size <= k_) /\ some k_ ≠ (v33z : Value).ownBlock) (Kd.R_keptB (HO0_1.out) hkp (fun k_ hk_ hs_ => (hk_.2) hs_)) (fun k_ hk_ => ⟨hk_.1.1, fun e_ => Or.elim (ho27z.1 k_ e_.symm) (fun hs_ => hk_.2.1 hs_) (fun hn_ => Nat.not_le.2 hk_.2.2 hn_)⟩)); replace BK5z := am (blk_kept (blk_below BK5z.out pl) hkp (fun e_ => Kd.R_ne HO28z.out BK5z.out (by decide) e_)); replace BK10z := am (blk_kept (blk_below BK10z.out pl) hkp (fun e_ => Kd.R_ne HO28z.out BK10z.out (by decide) e_)); replace HK := am (Kept.then_ (S := (fun k_ => P0_1_ k_)) (by repeat (first | (with_reducible first | exact HK.out | apply Kept.alloc | apply Kept.drewN | apply Kept.drew | refine Kept.setCell ?_ (.inr GW6z.out) _ | refine Kept.setCell ?_ (.inr GW11z.out) _) | exact HK.out)) hkp (fun k_ hs_ => (fun e_ => (HO28z.out.1 k_ e_.symm).1.1) hs_)); replace HB := am hb; clear HO28z; obtain ⟨Ao35z, co36z, eo37z⟩ := Kd.R_slice HO34z.out; subst eo37z; obtain ⟨hcz38z, hcz39z, hcz40z, hfz41z, hfz42z, hfz43z⟩ := cEc BK5z.out; obtain ⟨hcz44z, hcz45z, hcz46z, hfz47z, hfz48z, hfz49z⟩ := cEc BK10z.out) | ((have q_ : (t269.size == t268.size) = true := c5b2; clear q_); refine gL (some 13) Tryz.func167 #[.string t268, .string (⟨#[48]⟩ : ByteArray)] (h := ?_); (with_reducible refine (strings_TrimRight.calls t268 (⟨#[48]⟩ : ByteArray) t269 _ A4.out).mono ?_); rintro e w24z ⟨rfl, hb⟩; refine ⟨_, rfl, ?_⟩; replace HO0_1 := rbl HO0_1 hb; replace BK5z := bb BK5z hb; replace BK10z := bb BK10z hb; replace HK := am (Kept.below (S := (fun k_ => P0_1_ k_)) (by repeat (first | (with_reducible first | exact HK.out | apply Kept.alloc | apply Kept.drewN | apply Kept.drew | refine Kept.setCell ?_ (.inr GW6z.out) _ | refine Kept.setCell ?_ (.inr GW11z.out) _) | exact HK.out)) hb); replace HB := bS hb; obtain ⟨hcz25z, hcz26z, hcz27z, hfz28z, hfz29z, hfz30z⟩ := cEc BK5z.out; obtain ⟨hcz31z, hcz32z, hcz33z, hfz34z, hfz35z, hfz36z⟩ := cEc BK10z.out))
 first
  | have q_ := A16
    refine bodyPost_ret (results_cell_row rfl _ _ gb8z 106 #[.bool a0_0, .slice Ao35z t274.length co36z, .int .i64 (wrap64 (a0_2 + (wrap64 ((t268.size : Int) - (t269.size : Int)))))] (0, 0) _ rfl (by refine bp ?_; refine blk_put (cs := #[.bool a0_0, .slice Ao35z t274.length co36z, .int .i64 0]) ?_ 2 _ rfl; refine bp ?_; refine blk_put (cs := #[.bool a0_0, .slice none 0 0, .int .i64 0]) ?_ 1 _ rfl; refine bp ?_; refine blk_put (cs := #[.bool false, .slice none 0 0, .int .i64 0]) ?_ 0 _ rfl; refine bp ?_; refine blk_far ?_ NB14z.out _; refine bp ?_; refine blk_far ?_ NB14z.out _; exact bp BK10z.out) Tryz.underlying106 rfl (by kernel_rfl)) rfl ?_
    exact ⟨_, pE, by refine rp ?_; exact Kd.R_mono (Kd.R_far (p := ⟨gb8z, 2, none⟩) (Kd.R_far (p := ⟨gb8z, 1, none⟩) (Kd.R_far (p := ⟨gb8z, 0, none⟩) (Kd.R_far (p := ⟨gb3z, 2, none⟩) (Kd.R_far (p := ⟨gb3z, 1, none⟩) (Kd.R_types (Kd.R_types HO34z.out BK5z.out (by decide)) BK10z.out (by decide)) (fun _ hk => hk.1.2) (.slice Ao35z t274.length co36z)) (fun _ hk => hk.1.2) (.int .i64 (wrap64 (a0_2 + (wrap64 ((t268.size : Int) - (t269.size : Int))))))) (fun _ hk => hk.2) (.bool a0_0)) (fun _ hk => hk.2) (.slice Ao35z t274.length co36z)) (fun _ hk => hk.2) (.int .i64 (wrap64 (a0_2 + (wrap64 ((t268.size : Int) - (t269.size : Int))))))) (fun _ hk => hk.1.1.1), pB, by repeat (first | (with_reducible first | exact HK.out | apply Kept.alloc | apply Kept.drewN | apply Kept.drew | refine Kept.setCell ?_ (.inr GW6z.out) _ | refine Kept.setCell ?_ (.inr GW11z.out) _) | exact HK.out)⟩
  | refine bodyPost_ret (results_cell_row rfl _ _ gb8z 106 #[.bool a0_0, .slice Ao0z l0_1.length co1z, .int .i64 a0_2] (0, 0) _ rfl (by exact p3 BK10z) Tryz.underlying106 rfl (by kernel_rfl)) rfl ?_
    exact ⟨_, pE, by refine rp ?_; exact Kd.R_mono (Kd.R_far (p := ⟨gb8z, 2, none⟩) (Kd.R_far (p := ⟨gb8z, 1, none⟩) (Kd.R_far (p := ⟨gb8z, 0, none⟩) (Kd.R_types HO0_1.out BK10z.out (by decide)) (fun _ hk => hk.2) (.bool a0_0)) (fun _ hk => hk.2) (.slice Ao0z l0_1.length co1z)) (fun _ hk => hk.2) (.int .i64 a0_2)) (fun _ hk => hk.1), pB, by repeat (first | (with_reducible first | exact HK.out | apply Kept.alloc | apply Kept.drewN | apply Kept.drew | refine Kept.setCell ?_ (.inr GW6z.out) _ | refine Kept.setCell ?_ (.inr GW11z.out) _) | exact HK.out)⟩) : P := h
theorem dec_number_strip.calls (k : Nat) (a0_0 : Bool) (P0_1_ : Nat -> Prop) (u9000_ : Value) (l0_1 : List Int) (a0_2 : Int) (r1 : Bool) (r2 : List Int) (r3 : Int) (w0 w : World) (hB : Below w0.heap.size w0 w) (ho0_1 : Kd.R (Kd.int .u32) 85 w w0.heap.size P0_1_ u9000_ l0_1) (h : dec_number_strip.f k a0_0 l0_1 a0_2 = some (r1, r2, r3)) :
  Calls Tryz.prog 140 #[.agg #[.bool a0_0, u9000_, .int .i64 a0_2]] w fun e w' => ∃ v1_ : Value, e = .returned (.agg #[.bool r1, v1_, .int .i64 r3]) /\ Kd.R (Kd.int .u32) 85 w' w0.heap.size (fun k_ => (P0_1_ k_ \/ w.heap.size <= k_)) v1_ r2 /\ Below w0.heap.size w0 w' /\ Kept w w' (fun k_ => P0_1_ k_) := by
 have hu106 := Tryz.underlying106
 have HO0_1 := am (show Kd.R (Kd.int .u32) 85 w w0.heap.size (fun k_ => (P0_1_ k_ \/ w.heap.size <= k_)) u9000_ l0_1 from Kd.R_mono ho0_1 (fun k_ hk => (.inl hk)))
 have HK := am (Kept.refl w (fun k_ => P0_1_ k_))
 have HW0 := am hB.size
 have HB := am hB
 clear hB
 have H : ((nat_Print.f k l0_1).bind fun bt266 => ((dec_must2.f bt266.1 bt266.2).bind fun t268 => ((strings_TrimRight.f t268 (⟨#[48]⟩ : ByteArray)).bind fun t269 => (if (t269.size : Int) = (t268.size : Int) then (some (a0_0, l0_1, a0_2)) else ((nat_Parse.f k t269).bind fun bt270 => ((dec_must.f bt270.1 bt270.2).bind fun t274 => (some (a0_0, t274, wrap64 (a0_2 + (wrap64 ((t268.size : Int) - (t269.size : Int)))))))))))) = some (r1, r2, r3) := h
 clear h
 obtain ⟨⟨t266, t267⟩, A2, H⟩ := ob H; (try dsimp only at H)
 obtain ⟨t268, A3, H⟩ := ob H
 obtain ⟨t269, A4, H⟩ := ob H
 by_cases c5 : (t269.size : Int) = (t268.size : Int)
 ·rw [if_pos c5] at H
  have c5b0 : ((t269.size : Int) == (t268.size : Int)) = true := beq_iff_eq.mpr c5
  have c5b1 : ((t269.size : Int) != (t268.size : Int)) = false := bne_eq_false_iff_eq.mpr c5
  have c5b2 : (t269.size == t268.size) = true := by first | simpa using c5 | (simp at c5 ⊢; omega)
  clear c5
  simp only [Option.some.injEq, Prod.mk.injEq] at H
  obtain ⟨rfl, rfl, rfl⟩ := H
  exact dec_number_strip.leaf
 ·rw [if_neg c5] at H
  have c5b0 : ((t269.size : Int) == (t268.size : Int)) = false := beq_eq_false_iff_ne.mpr c5
  have c5b1 : ((t269.size : Int) != (t268.size : Int)) = true := bne_iff_ne.mpr c5
  have c5b2 : (t269.size == t268.size) = false := by first | simpa using c5 | (simp at c5 ⊢; omega)
  obtain ⟨⟨t270, t271⟩, A15, H⟩ := ob H; (try dsimp only at H)
  obtain ⟨t274, A16, H⟩ := ob H
  simp only [Option.some.injEq, Prod.mk.injEq] at H
  obtain ⟨rfl, rfl, rfl⟩ := H
  exact dec_number_strip.leaf
def dec_settle.f (k : Nat) (a0_0 : Bool) (l0_1 : List Int) (a0_2 : Int) : Option (Bool × List Int × Int × Int) := (dec_number_zero.f a0_0 l0_1 a0_2).bind fun t279 => (if t279 = true then (some (false, ([] : List Int), 0, 0)) else ((dec_number_strip.f k a0_0 l0_1 a0_2).bind fun bt280 => ((dec_digits.f k bt280.2.1).bind fun t285 => (if t285 > 300 then (some (false, ([] : List Int), 0, 51)) else (if bt280.2.2 < (-1000) then (some (false, ([] : List Int), 0, 52)) else (if bt280.2.2 > 1000 then (some (false, ([] : List Int), 0, 52)) else (some (bt280.1, bt280.2.1, bt280.2.2, 0))))))))
theorem dec_settle.leaf {P : Prop} (h : P := by
 obtain ⟨Ao0z, co1z, eo2z⟩ := Kd.R_slice HO0_1.out
 subst eo2z
 go_enter Tryz.func100, Tryz.ntmps100
 go_wp2_with (first | ((with_reducible refine gd 1 ?_); refine bx 1 #[.bool a0_0, .slice Ao0z l0_1.length co1z, .int .i64 a0_2] 106 (h := ?_); intro gb3z hg w4z hbox hb; have BK5z := am hbox; have GW6z := am ((by rw [hg]; exact (by first | exact HK.out.1 | exact (show Kept w _ (fun k_ => P0_1_ k_) from by repeat (first | (with_reducible first | exact HK.out | apply Kept.alloc | apply Kept.drewN | apply Kept.drew) | exact HK.out)).1) : w.heap.size <= gb3z)); have GE7z := am ((gw hg pB : w0.heap.size <= gb3z)); replace HO0_1 := rbl HO0_1 hb; replace HK := am (Kept.below (S := (fun k_ => P0_1_ k_)) (by repeat (first | (with_reducible first | exact HK.out | apply Kept.alloc | apply Kept.drewN | apply Kept.drew) | exact HK.out)) hb); replace HB := bS hb; clear hb hbox hg) | ((with_reducible refine gd 2 ?_); refine bx 2 #[.bool false, .slice none 0 0, .int .i64 0] 24 (h := ?_); intro gb8z hg w9z hbox hb; have BK10z := am hbox; have GW11z := am ((by rw [hg]; exact (by first | exact HK.out.1 | exact (show Kept w _ (fun k_ => P0_1_ k_) from by repeat (first | (with_reducible first | exact HK.out | apply Kept.alloc | apply Kept.drewN | apply Kept.drew | refine Kept.setCell ?_ (.inr GW6z.out) _) | exact HK.out)).1) : w.heap.size <= gb8z)); have GE12z := am ((gw hg pB : w0.heap.size <= gb8z)); have NB13z := nL hg BK5z; have NB14z := nG hg BK5z; replace HO0_1 := rbl HO0_1 hb; replace BK5z := bb BK5z hb; replace HK := am (Kept.below (S := (fun k_ => P0_1_ k_)) (by repeat (first | (with_reducible first | exact HK.out | apply Kept.alloc | apply Kept.drewN | apply Kept.drew | refine Kept.setCell ?_ (.inr GW6z.out) _) | exact HK.out)) hb); replace HB := bS hb; clear hb hbox hg; have hnb15z := NB13z.out; have hnc16z := NB14z.out; obtain ⟨hcz17z, hcz18z, hcz19z, hfz20z, hfz21z, hfz22z⟩ := cEc BK5z.out) | (refine gL (some 5) Tryz.func104 #[.agg #[.bool a0_0, .slice Ao0z l0_1.length co1z, .int .i64 a0_2]] (h := ?_); (with_reducible refine (dec_number_zero.calls a0_0 _ _ l0_1 a0_2 false _ ?side1 ?side2 A2.out).mono ?_); (case side1 => exact Kd.C_below (Kd.R_reads' HO0_1.out).2.2 pl); (case side2 => exact (Kd.R_reads' HO0_1.out).2.1); rintro e w23z ⟨rfl, hb⟩; refine ⟨_, rfl, ?_⟩; replace HO0_1 := rbl HO0_1 hb; replace BK5z := bb BK5z hb; replace BK10z := bb BK10z hb; replace HK := am (Kept.below (S := (fun k_ => P0_1_ k_)) (by repeat (first | (with_reducible first | exact HK.out | apply Kept.alloc | apply Kept.drewN | apply Kept.drew | refine Kept.setCell ?_ (.inr GW6z.out) _ | refine Kept.setCell ?_ (.inr GW11z.out) _) | exact HK.out)) hb); replace HB := bS hb; obtain ⟨hcz24z, hcz25z, hcz26z, hfz27z, hfz28z, hfz29z⟩ := cEc BK5z.out) | (refine gL (some 8) Tryz.func140 #[.agg #[.bool a0_0, .slice Ao0z l0_1.length co1z, .int .i64 a0_2]] (h := ?_); (with_reducible refine (dec_number_strip.calls k a0_0 (fun k_ => some k_ = (.slice Ao0z l0_1.length co1z : Value).ownBlock) (.slice Ao0z l0_1.length co1z) l0_1 a0_2 t280 t281 t284 w0 _ ?side1 ?side2 A11.out).mono ?_); (case side1 => exact pB); (case side2 => exact Kd.R_tight rfl HO0_1.out); rintro e w30z ⟨v31z, rfl, ho32z, hb, hkp⟩; refine ⟨_, rfl, ?_⟩; have HO33z := am (Kd.R_mono (ok' := fun k_ => (P0_1_ k_ \/ w.heap.size <= k_)) ho32z (fun k_ hk_ => Or.elim hk_ (fun hs_ => (HO0_1.out.1 k_ (hs_).symm)) (fun hn_ => (.inr (Nat.le_trans (by first | exact HK.out.1 | exact (show Kept w _ (fun k_ => P0_1_ k_) from by repeat (first | (with_reducible first | exact HK.out | apply Kept.alloc | apply Kept.drewN | apply Kept.drew | refine Kept.setCell ?_ (.inr GW6z.out) _ | refine Kept.setCell ?_ (.inr GW11z.out) _) | exact HK.out)).1) hn_))))); replace BK5z := am (blk_kept (blk_below BK5z.out pl) hkp (fun e_ => Kd.R_ne HO0_1.out BK5z.out (by decide) e_)); replace BK10z := am (blk_kept (blk_below BK10z.out pl) hkp (fun e_ => Kd.R_ne HO0_1.out BK10z.out (by decide) e_)); replace HK := am (Kept.then_ (S := (fun k_ => P0_1_ k_)) (by repeat (first | (with_reducible first | exact HK.out | apply Kept.alloc | apply Kept.drewN | apply Kept.drew | refine Kept.setCell ?_ (.inr GW6z.out) _ | refine Kept.setCell ?_ (.inr GW11z.out) _) | exact HK.out)) hkp (fun k_ hs_ => (fun e_ => (HO0_1.out.1 k_ e_.symm)) hs_)); replace HB := am hb; clear HO0_1; obtain ⟨hcz34z, hcz35z, hcz36z, hfz37z, hfz38z, hfz39z⟩ := cEc BK5z.out; obtain ⟨Ao40z, co41z, eo42z⟩ := Kd.R_slice HO33z.out; subst eo42z) | ((have q_ : decide (300 < t285) = true := c13b0; clear q_); refine gL (some 13) Tryz.func110 #[.slice Ao40z t281.length co41z] (h := ?_); (with_reducible refine (dec_digits.calls k _ _ t281 t285 _ ?side1 ?side2 A12.out).mono ?_); (case side1 => refine (Kd.R_reads' (e := 85) (base := w0.heap.size) (ok := fun k_ => (P0_1_ k_ \/ w.heap.size <= k_)) (n := t281.length) (c := co41z) ?_).2.2; exact (Kd.R_below (z3 HO33z.out BK5z.out (by decide) (.bool t280) (.slice Ao40z t281.length co41z) (.int .i64 t284)) pl)); (case side2 => exact (Kd.R_reads' HO33z.out).2.1); rintro e w43z ⟨rfl, hb⟩; refine ⟨_, rfl, ?_⟩; replace HO33z := am (Kd.R_below (Kd.R_below (z3 HO33z.out BK5z.out (by decide) (.bool t280) (.slice Ao40z t281.length co41z) (.int .i64 t284)) pl) hb); replace BK5z := am (blk_below (g := gb3z) (o := .cells #[.bool t280, .slice Ao40z t281.length co41z, .int .i64 t284] 106 (0, 0)) (by exact p3 BK5z) hb); replace BK10z := bfb NB14z BK10z hb; replace HK := am (Kept.below (S := (fun k_ => P0_1_ k_)) (by repeat (first | (with_reducible first | exact HK.out | apply Kept.alloc | apply Kept.drewN | apply Kept.drew | refine Kept.setCell ?_ (.inr GW6z.out) _ | refine Kept.setCell ?_ (.inr GW11z.out) _) | exact HK.out)) hb); replace HB := bS hb; obtain ⟨hcz44z, hcz45z, hcz46z, hfz47z, hfz48z, hfz49z⟩ := cEc BK10z.out) | ((have q_ : decide (300 < t285) = false := c13b0; clear q_); refine gL (some 13) Tryz.func110 #[.slice Ao40z t281.length co41z] (h := ?_); (with_reducible refine (dec_digits.calls k _ _ t281 t285 _ ?side1 ?side2 A12.out).mono ?_); (case side1 => refine (Kd.R_reads' (e := 85) (base := w0.heap.size) (ok := fun k_ => (P0_1_ k_ \/ w.heap.size <= k_)) (n := t281.length) (c := co41z) ?_).2.2; exact (Kd.R_below (z3 HO33z.out BK5z.out (by decide) (.bool t280) (.slice Ao40z t281.length co41z) (.int .i64 t284)) pl)); (case side2 => exact (Kd.R_reads' HO33z.out).2.1); rintro e w43z ⟨rfl, hb⟩; refine ⟨_, rfl, ?_⟩; replace HO33z := am (Kd.R_below (Kd.R_below (z3 HO33z.out BK5z.out (by decide) (.bool t280) (.slice Ao40z t281.length co41z) (.int .i64 t284)) pl) hb); replace BK5z := am (blk_below (g := gb3z) (o := .cells #[.bool t280, .slice Ao40z t281.length co41z, .int .i64 t284] 106 (0, 0)) (by exact p3 BK5z) hb); replace BK10z := bfb NB14z BK10z hb; replace HK := am (Kept.below (S := (fun k_ => P0_1_ k_)) (by repeat (first | (with_reducible first | exact HK.out | apply Kept.alloc | apply Kept.drewN | apply Kept.drew | refine Kept.setCell ?_ (.inr GW6z.out) _ | refine Kept.setCell ?_ (.inr GW11z.out) _) | exact HK.out)) hb); replace HB := bS hb; obtain ⟨hcz44z, hcz45z, hcz46z, hfz47z, hfz48z, hfz49z⟩ := cEc BK5z.out; obtain ⟨hcz50z, hcz51z, hcz52z, hfz53z, hfz54z, hfz55z⟩ := cEc BK10z.out) | (refine gL (some 5) Tryz.func104 #[.agg #[.bool a0_0, .slice Ao0z l0_1.length co1z, .int .i64 a0_2]] (h := ?_); (with_reducible refine (dec_number_zero.calls a0_0 _ _ l0_1 a0_2 true _ ?side1 ?side2 A2.out).mono ?_); (case side1 => exact Kd.C_below (Kd.R_reads' HO0_1.out).2.2 pl); (case side2 => exact (Kd.R_reads' HO0_1.out).2.1); rintro e w23z ⟨rfl, hb⟩; refine ⟨_, rfl, ?_⟩; replace HO0_1 := rbl HO0_1 hb; replace BK5z := bb BK5z hb; replace BK10z := bb BK10z hb; replace HK := am (Kept.below (S := (fun k_ => P0_1_ k_)) (by repeat (first | (with_reducible first | exact HK.out | apply Kept.alloc | apply Kept.drewN | apply Kept.drew | refine Kept.setCell ?_ (.inr GW6z.out) _ | refine Kept.setCell ?_ (.inr GW11z.out) _) | exact HK.out)) hb); replace HB := bS hb; obtain ⟨hcz24z, hcz25z, hcz26z, hfz27z, hfz28z, hfz29z⟩ := cEc BK10z.out))
 first
  | have q_ := A12; have q_ : decide (1000 < t284) = false := c40b0
    refine bodyPost_ret (results_ct rfl _ _ gb8z 24 #[.bool t280, .slice Ao40z t281.length co41z, .int .i64 t284] (0, 0) _ rfl (by exact p3 BK10z) Tryz.underlying24 rfl (by kernel_rfl)) rfl ?_
    exact ⟨_, pE, by refine rp ?_; exact Kd.R_mono (Kd.R_far (p := ⟨gb8z, 2, none⟩) (Kd.R_far (p := ⟨gb8z, 1, none⟩) (Kd.R_far (p := ⟨gb8z, 0, none⟩) (Kd.R_types HO33z.out BK10z.out (by decide)) (fun _ hk => hk.2) (.bool t280)) (fun _ hk => hk.2) (.slice Ao40z t281.length co41z)) (fun _ hk => hk.2) (.int .i64 t284)) (fun _ hk => hk.1), pB, by repeat (first | (with_reducible first | exact HK.out | apply Kept.alloc | apply Kept.drewN | apply Kept.drew | refine Kept.setCell ?_ (.inr GW6z.out) _ | refine Kept.setCell ?_ (.inr GW11z.out) _) | exact HK.out)⟩
  | refine bodyPost_ret (results_ct rfl _ _ gb8z 24 #[.bool false, .slice none 0 0, .int .i64 0] (0, 0) _ rfl (by exact p3 BK10z) Tryz.underlying24 rfl (by kernel_rfl)) rfl ?_
    exact ⟨_, pE, pN, pB, by repeat (first | (with_reducible first | exact HK.out | apply Kept.alloc | apply Kept.drewN | apply Kept.drew | refine Kept.setCell ?_ (.inr GW6z.out) _ | refine Kept.setCell ?_ (.inr GW11z.out) _) | exact HK.out)⟩) : P := h
theorem dec_settle.calls (k : Nat) (a0_0 : Bool) (P0_1_ : Nat -> Prop) (u9000_ : Value) (l0_1 : List Int) (a0_2 : Int) (r1 : Bool) (r2 : List Int) (r3 : Int) (r4 : Int) (w0 w : World) (hB : Below w0.heap.size w0 w) (ho0_1 : Kd.R (Kd.int .u32) 85 w w0.heap.size P0_1_ u9000_ l0_1) (h : dec_settle.f k a0_0 l0_1 a0_2 = some (r1, r2, r3, r4)) :
  Calls Tryz.prog 100 #[.agg #[.bool a0_0, u9000_, .int .i64 a0_2]] w fun e w' => ∃ v1_ : Value, e = .returned (.tuple #[.agg #[.bool r1, v1_, .int .i64 r3], .int .i64 r4]) /\ Kd.R (Kd.int .u32) 85 w' w0.heap.size (fun k_ => (P0_1_ k_ \/ w.heap.size <= k_)) v1_ r2 /\ Below w0.heap.size w0 w' /\ Kept w w' (fun k_ => P0_1_ k_) := by
 have hu106 := Tryz.underlying106
 have hu24 := Tryz.underlying24
 have HO0_1 := am (show Kd.R (Kd.int .u32) 85 w w0.heap.size (fun k_ => (P0_1_ k_ \/ w.heap.size <= k_)) u9000_ l0_1 from Kd.R_mono ho0_1 (fun k_ hk => (.inl hk)))
 have HK := am (Kept.refl w (fun k_ => P0_1_ k_))
 have HW0 := am hB.size
 have HB := am hB
 clear hB
 have H : ((dec_number_zero.f a0_0 l0_1 a0_2).bind fun t279 => (if t279 = true then (some (false, ([] : List Int), 0, 0)) else ((dec_number_strip.f k a0_0 l0_1 a0_2).bind fun bt280 => ((dec_digits.f k bt280.2.1).bind fun t285 => (if t285 > 300 then (some (false, ([] : List Int), 0, 51)) else (if bt280.2.2 < (-1000) then (some (false, ([] : List Int), 0, 52)) else (if bt280.2.2 > 1000 then (some (false, ([] : List Int), 0, 52)) else (some (bt280.1, bt280.2.1, bt280.2.2, 0))))))))) = some (r1, r2, r3, r4) := h
 clear h
 obtain ⟨t279, A2, H⟩ := ob H
 by_cases c3 : t279 = true
 ·subst c3
  rw [if_pos rfl] at H
  simp only [Option.some.injEq, Prod.mk.injEq] at H
  obtain ⟨rfl, rfl, rfl, rfl⟩ := H
  exact dec_settle.leaf
 ·replace c3 := Bool.eq_false_iff.mpr c3
  subst c3
  rw [if_neg (show ¬ (false = true) by decide)] at H
  obtain ⟨⟨t280, t281, t284⟩, A11, H⟩ := ob H; (try dsimp only at H)
  obtain ⟨t285, A12, H⟩ := ob H
  by_cases c13 : t285 > 300
  ·rw [if_pos c13] at H
   have c13b0 : decide (300 < t285) = true := decide_eq_true c13
   clear c13
   simp only [Option.some.injEq, Prod.mk.injEq] at H
   obtain ⟨rfl, rfl, rfl, rfl⟩ := H
   exact dec_settle.leaf
  ·rw [if_neg c13] at H
   have c13b0 : decide (300 < t285) = false := decide_eq_false c13
   clear c13
   by_cases c26 : t284 < (-1000)
   ·rw [if_pos c26] at H
    have c26b0 : decide (t284 < (-1000)) = true := decide_eq_true c26
    clear c26
    simp only [Option.some.injEq, Prod.mk.injEq] at H
    obtain ⟨rfl, rfl, rfl, rfl⟩ := H
    exact dec_settle.leaf
   ·rw [if_neg c26] at H
    have c26b0 : decide (t284 < (-1000)) = false := decide_eq_false c26
    clear c26
    by_cases c40 : t284 > 1000
    ·rw [if_pos c40] at H
     have c40b0 : decide (1000 < t284) = true := decide_eq_true c40
     clear c40
     simp only [Option.some.injEq, Prod.mk.injEq] at H
     obtain ⟨rfl, rfl, rfl, rfl⟩ := H
     exact dec_settle.leaf
    ·rw [if_neg c40] at H
     have c40b0 : decide (1000 < t284) = false := decide_eq_false c40
     clear c40
     simp only [Option.some.injEq, Prod.mk.injEq] at H
     obtain ⟨rfl, rfl, rfl, rfl⟩ := H
     exact dec_settle.leaf
def dec_Settle.j0 : Nat -> Bool -> List Int -> Int -> Bool -> Option (Bool × List Int × Int × Int)
 | 0, _, _, _, _ => none
 | k + 1, x0, x1, x2, x20 => if x20 = true then (some (false, ([] : List Int), 0, 52)) else ((slices_Clone_uint32_uint32.f x1).bind fun t288 => ((dec_settle.f k x0 t288 x2).bind fun bt291 => (some (bt291.1, bt291.2.1, bt291.2.2.1, bt291.2.2.2))))
def dec_Settle.f (k : Nat) (a0 : Bool) (l1 : List Int) (a2 : Int) : Option (Bool × List Int × Int × Int) := (nat_Check.f l1).bind fun t287 => (if t287 = 0 then (if a2 < (-4000) then (dec_Settle.j0 k a0 l1 a2 true) else (dec_Settle.j0 k a0 l1 a2 (decide (a2 > 4000)))) else (some (false, ([] : List Int), 0, t287)))
theorem dec_Settle.calls (k : Nat) (a0 : Bool) (A1 : Option Addr) (c1 : Nat) (l1 : List Int) (a2 : Int) (r1 : Bool) (r2 : List Int) (r3 : Int) (r4 : Int) (w : World) (hr1 : Kd.C (Kd.int .u32) w A1 l1.length l1) (hc1 : l1.length <= c1) (h : dec_Settle.f k a0 l1 a2 = some (r1, r2, r3, r4)) :
  Calls Tryz.prog 60 #[.bool a0, .slice A1 l1.length c1, .int .i64 a2] w fun e w' => ∃ v1_ : Value, e = .returned (.tuple #[.agg #[.bool r1, v1_, .int .i64 r3], .int .i64 r4]) /\ Kd.R (Kd.int .u32) 85 w' w.heap.size (fun _ => True) v1_ r2 /\ Below w.heap.size w w' := by
 have hu24 := Tryz.underlying24
 have hu106 := Tryz.underlying106
 have HR1 := am hr1
 have HC1 := am hc1
 clear hr1 hc1
 have HB := am (Below.refl w.heap.size w)
 have H : ((nat_Check.f l1).bind fun t287 => (if t287 = 0 then (if a2 < (-4000) then (dec_Settle.j0 k a0 l1 a2 true) else (dec_Settle.j0 k a0 l1 a2 (decide (a2 > 4000)))) else (some (false, ([] : List Int), 0, t287)))) = some (r1, r2, r3, r4) := h
 clear h
 obtain ⟨t287, A4, H⟩ := ob H
 by_cases c5 : t287 = 0
 ·rw [if_pos c5] at H
  have c5b0 : (t287 == 0) = true := beq_iff_eq.mpr c5
  have c5b1 : (t287 != 0) = false := bne_eq_false_iff_eq.mpr c5
  clear c5
  have HC6 := am H
  clear H
  go_enter Tryz.func60, Tryz.ntmps60
  go_upto_region 4 with (first | ((with_reducible refine gd 6 ?_); refine bx 6 #[.bool false, .slice none 0 0, .int .i64 0] 24 (h := ?_); intro gb286 hg w7 hbox hb; have BK286 := am hbox; have GW286 := gW hg; have GE286 := gW hg; replace HB := bS hb; clear hb hbox hg) | (refine gL (some 10) Tryz.func108 #[.slice A1 l1.length c1] (h := ?_); (with_reducible refine (nat_Check.calls _ _ l1 t287 _ ?side1 ?side2 A4.out).mono ?_); (case side1 => refine cp ?_; exact (Kd.C_below HR1.out HB.out)); (case side2 => exact HC1.out); rintro e w' ⟨rfl, ⟨nd, rfl⟩⟩; refine ⟨_, rfl, ?_⟩))
  (try simp only [Act.put, List.setIfInBounds_toArray, List.set_cons_zero, List.set_cons_succ])
  go_cut [20] (fun v20 wc => ∃ (kq : Nat) (x20_5 : Bool), v20 = .bool x20_5 /\ Aside0 (dec_Settle.j0 kq a0 l1 a2 x20_5 = some (r1, r2, r3, r4)) /\ Aside0 (kq <= k) /\ Aside0 (wc.heap[gb286]? = some (.cells #[.bool false, (.slice none 0 0), .int .i64 0] 24 (0, 0))) /\ Aside0 (Below w.heap.size w wc))
  case first =>
   have H := HC6.out
   clear HC6
   by_cases c8 : a2 < (-4000)
   ·rw [if_pos c8] at H
    have c8b0 : decide (a2 < (-4000)) = true := decide_eq_true c8
    clear c8
    (first | rw [c8b0] | (simp only [i64_w, i32_w]; rw [c8b0]) | skip)
    have H' := am H
    clear H
    go_wp2
    go_meet
    case rel => exact ⟨_, (true), pR, H', ⟨by first | omega | exact Nat.le_refl _⟩, ⟨blk_below BK286.out pl⟩, ⟨pB⟩⟩
   ·rw [if_neg c8] at H
    have c8b0 : decide (a2 < (-4000)) = false := decide_eq_false c8
    clear c8
    (first | rw [c8b0] | (simp only [i64_w, i32_w]; rw [c8b0]) | skip)
    have H' := am H
    clear H
    go_wp2
    go_meet
    case rel => exact ⟨_, (decide (a2 > 4000)), pR, H', ⟨by first | omega | exact Nat.le_refl _⟩, ⟨blk_below BK286.out pl⟩, ⟨pB⟩⟩
  case rest =>
   clear HC6
   obtain ⟨kq, x20_5, rfl, HA, HJ5, BK286, HB⟩ := hcut
   cases kq with
   | zero => exact absurd HA.out (by simp [dec_Settle.j0])
   | succ kj5 =>
    have H := HA.out
    clear HA
    simp only [dec_Settle.j0] at H
    by_cases c9 : x20_5 = true
    ·subst c9
     rw [if_pos rfl] at H
     simp only [Option.some.injEq, Prod.mk.injEq] at H
     obtain ⟨rfl, rfl, rfl, rfl⟩ := H
     obtain ⟨hcz10_0, hcz10_1, hcz10_2, hfz10_0, hfz10_1, hfz10_2⟩ := cEc BK286.out
     go_wp2
     refine bodyPost_ret (results_ct rfl _ _ gb286 24 #[.bool false, .slice none 0 0, .int .i64 0] (0, 0) _ rfl (by exact p3 BK286) Tryz.underlying24 rfl (by kernel_rfl)) rfl ?_
     exact ⟨_, pE, pN, pB⟩
    ·replace c9 := Bool.eq_false_iff.mpr c9
     subst c9
     rw [if_neg (show ¬ (false = true) by decide)] at H
     obtain ⟨t288, A11, H⟩ := ob H
     obtain ⟨⟨t291, t292, t295, t296⟩, A12, H⟩ := ob H; (try dsimp only at H)
     simp only [Option.some.injEq, Prod.mk.injEq] at H
     obtain ⟨rfl, rfl, rfl, rfl⟩ := H
     go_wp2_with (first | (refine gL (some 24) Tryz.func102 #[.slice A1 l1.length c1] (h := ?_); (with_reducible refine (slices_Clone_uint32_uint32.calls _ _ l1 t288 _ ?side1 ?side2 A11.out).mono ?_); (case side1 => refine cp ?_; exact (Kd.C_below HR1.out HB.out)); (case side2 => exact HC1.out); rintro e w13 ⟨v289, rfl, ho0, hb⟩; refine ⟨_, rfl, ?_⟩; have HO290 := am (Kd.R_lower ho0 (below_size pB)); replace BK286 := bb BK286 hb; replace HB := bS hb; obtain ⟨Ao14, co14, eo14⟩ := Kd.R_slice HO290.out; subst eo14) | (refine gL (some 28) Tryz.func100 #[.agg #[.bool a0, .slice Ao14 t288.length co14, .int .i64 a2]] (h := ?_); (with_reducible refine (dec_settle.calls kj5 a0 (fun k_ => some k_ = (.slice Ao14 t288.length co14 : Value).ownBlock) (.slice Ao14 t288.length co14) t288 a2 t291 t292 t295 t296 w _ ?side1 ?side2 A12.out).mono ?_); (case side1 => exact pB); (case side2 => exact Kd.R_tight rfl HO290.out); rintro e w15 ⟨v293, rfl, ho0, hb, hkp⟩; refine ⟨_, rfl, ?_⟩; have HO294 := am (Kd.R_mono (ok' := fun k_ => True) ho0 (fun k_ hk_ => trivial)); replace BK286 := am (blk_kept (blk_below BK286.out pl) hkp (fun e_ => Kd.R_ne HO290.out BK286.out (by decide) e_)); replace HB := am hb; clear HO290; obtain ⟨hcz16_0, hcz16_1, hcz16_2, hfz16_0, hfz16_1, hfz16_2⟩ := cEc BK286.out; obtain ⟨Ao17, co17, eo17⟩ := Kd.R_slice HO294.out; subst eo17))
     refine bodyPost_ret (results_ct rfl _ _ gb286 24 #[.bool t291, .slice Ao17 t292.length co17, .int .i64 t295] (0, 0) _ rfl (by exact p3 BK286) Tryz.underlying24 rfl (by kernel_rfl)) rfl ?_
     exact ⟨_, pE, by refine rp ?_; exact Kd.R_mono (Kd.R_far (p := ⟨gb286, 2, none⟩) (Kd.R_far (p := ⟨gb286, 1, none⟩) (Kd.R_far (p := ⟨gb286, 0, none⟩) (Kd.R_types HO294.out BK286.out (by decide)) (fun _ hk => hk.2) (.bool t291)) (fun _ hk => hk.2) (.slice Ao17 t292.length co17)) (fun _ hk => hk.2) (.int .i64 t295)) (fun _ hk => trivial), pB⟩
 ·rw [if_neg c5] at H
  have c5b0 : (t287 == 0) = false := beq_eq_false_iff_ne.mpr c5
  have c5b1 : (t287 != 0) = true := bne_iff_ne.mpr c5
  simp only [Option.some.injEq, Prod.mk.injEq] at H
  obtain ⟨rfl, rfl, rfl, rfl⟩ := H
  go_enter Tryz.func60, Tryz.ntmps60
  go_wp2_with (first | ((with_reducible refine gd 6 ?_); refine bx 6 #[.bool false, .slice none 0 0, .int .i64 0] 24 (h := ?_); intro gb286 hg w18 hbox hb; have BK286 := am hbox; have GW286 := gW hg; have GE286 := gW hg; replace HB := bS hb; clear hb hbox hg) | (refine gL (some 10) Tryz.func108 #[.slice A1 l1.length c1] (h := ?_); (with_reducible refine (nat_Check.calls _ _ l1 t287 _ ?side1 ?side2 A4.out).mono ?_); (case side1 => refine cp ?_; exact (Kd.C_below HR1.out HB.out)); (case side2 => exact HC1.out); rintro e w' ⟨rfl, ⟨nd, rfl⟩⟩; refine ⟨_, rfl, ?_⟩; (try (rw [drewN_self w18]; generalize hq_ : World.drewN w18 _ = w18; replace BK286 : Aside0 (w18.heap[gb286]? = some (.cells #[.bool false, .slice none 0 0, .int .i64 0] 24 (0, 0))) := ⟨by rw [<- hq_]; exact (blk_below BK286.out pl)⟩; replace HB : Aside0 (Below w.heap.size w w18) := ⟨by rw [<- hq_]; exact pB⟩; clear hq_)); obtain ⟨hcz19_0, hcz19_1, hcz19_2, hfz19_0, hfz19_1, hfz19_2⟩ := cEc BK286.out))
  refine bodyPost_ret (results_ct rfl _ _ gb286 24 #[.bool false, .slice none 0 0, .int .i64 0] (0, 0) _ rfl (by exact p3 BK286) Tryz.underlying24 rfl (by kernel_rfl)) rfl ?_
  exact ⟨_, pE, pN, pB⟩
end YtjbjkmccfocikaaGreatDoor.B
end
end Go.Proofs
