/- TextsEnds: part 4 of 5: the texts B10 B11 B12 PRef13 B14 HRef13 B15 B16 PRefB of this claim, one behind the other. -/
import Derived.Test.YtdhjdddjgcfhkaaDoorZTextsEnds2
import Derived.WalkKit
import Derived.Lib.Hide
import Derived.Lib.ConvBytes
import Derived.Shelf.Abstract
import Derived.Outline
import Derived.RangeFuncBox
import Derived.Deep.RegionHeld
import Derived.Lib.SlTrimSet
section
namespace Go.Proofs.YtdhjdddjgcfhkaaDoor.B
open Go.RowKit Go.Proofs.YtdhjdddjgcfhkaaDoorW.PrintWords Go.Proofs.YtdhjdddjgcfhkaaDoorW.PrintLast Go.Proofs.YtdhjdddjgcfhkaaDoorW.PrintMore
attribute [local go_sem] max2_int min2_int max_two min_two max_three min_three max_four min_four   -- for this text's walks alone
set_option linter.unusedVariables false
set_option linter.unusedSimpArgs false

def bolterlaw13_TextsTimes.f (k : Nat) (a0 : ByteArray) (a1 : Int) (a2 : Int) (a3 : ByteArray) : Option (Bool) := (bolterlaw13_alive.f k).bind fun t243 => (if t243 = true then ((texts_Repeat.f k a0 (Int.tmod (wrap64 ((Int.tmod a1 20) + 20)) 20)).bind fun bt244 => ((texts_Repeat.f k a0 (Int.tmod (wrap64 ((Int.tmod a2 20) + 20)) 20)).bind fun bt246 => ((texts_Repeat.f k a0 (wrap64 ((Int.tmod (wrap64 ((Int.tmod a1 20) + 20)) 20) + (Int.tmod (wrap64 ((Int.tmod a2 20) + 20)) 20)))).bind fun bt248 => ((texts_Replace.f k a0 a3 a3).bind fun bt250 => ((bolterlaw13_num.f bt248.2).bind fun t252 => (if t252 = 0 then ((bolterlaw13_num.f bt244.2).bind fun t253 => ((bolterlaw13_num.f bt246.2).bind fun t254 => (if (wrap64 (t253 + t254)) = 0 then (if bt244.1.size + bt246.1.size ≤ 9223372036854775807 then (if (bt244.1 ++ bt246.1).toList = bt248.1.toList then ((bolterlaw13_num.f bt250.2).bind fun t255 => (if t255 = 0 then (some (bt250.1.toList == a0.toList)) else (some true))) else (some false)) else (none)) else (some false)))) else ((bolterlaw13_num.f bt250.2).bind fun t256 => (if t256 = 0 then (some (bt250.1.toList == a0.toList)) else (some true))))))))) else (some false))
def bolterref13_Checks.l0 : Nat → List ByteArray → Int → Option (Int)
  | 0, _, _ => none
  | k + 1, x0, x3 => if x3 < (x0.length : Int) then (if 0 ≤ x3 then ((bolterref04_Check.f k (rdOf ByteArray.empty x0 x3)).bind fun bt258 => (if bt258.2 = 0 then (bolterref13_Checks.l0 k x0 (wrap64 (x3 + 1))) else (some bt258.2))) else (none)) else (some 0)
def bolterref13_Checks.f (k : Nat) (l0 : List ByteArray) : Option (Int) := bolterref13_Checks.l0 k l0 0
set_option maxHeartbeats 8000000 in
set_option maxRecDepth 100000 in
theorem bolterref13_Checks.calls (k : Nat) (A0 : Option Addr) (c0 : Nat) (l0 : List ByteArray) (r : Int) (w : World) (hr0 : Kd.C Kd.string w A0 l0.length l0) (hc0 : l0.length ≤ c0) (h : bolterref13_Checks.f k l0 = some r) :
    Calls Tryd.prog 57 #[.slice A0 l0.length c0] w fun e w' => e = .returned (.int .i64 r) ∧ Below w.heap.size w w' := by
  have HR0 := Aside0.mk hr0
  have HC0 := Aside0.mk hc0
  clear hr0 hc0
  have HB := Aside0.mk (Below.refl w.heap.size w)
  have H : (bolterref13_Checks.l0 k l0 0) = some r := h
  clear h
  have H' := Aside0.mk H
  clear H
  go_enter Tryd.func57, Tryd.ntmps57
  go_wp2
  go_loopg [3] k (fun kq v3 w' => ∃ (x3_1 : Int), v3 = .int .i64 x3_1 ∧ Aside0 (bolterref13_Checks.l0 kq l0 x3_1 = some r) ∧ Aside0 (kq ≤ k) ∧ Aside0 (Below w.heap.size w w'))
  case atStart => exact ⟨(0), (by first | rfl | (simp; done) | (simp [*]; done)), H', ⟨Nat.le_refl _⟩, ⟨by repeat (first | (with_reducible first | exact HB.out | apply below_alloc | apply pw_below_drewN | apply below_drew1) | exact HB.out)⟩⟩
  case round =>
    clear H'
    obtain ⟨x3_1, rfl, HA, HK1, HB⟩ := hrel
    cases gk with
    | zero => exact absurd HA.out (by simp [bolterref13_Checks.l0])
    | succ k1 =>
      have H := HA.out
      clear HA
      simp only [bolterref13_Checks.l0] at H
      by_cases c2 : x3_1 < (l0.length : Int)
      · rw [if_pos c2] at H
        have c2b0 : decide (x3_1 < (l0.length : Int)) = true := decide_eq_true c2
        clear c2
        by_cases c3 : 0 ≤ x3_1
        · rw [if_pos c3] at H
          have c3b0 : decide (0 ≤ x3_1) = true := decide_eq_true c3
          clear c3
          replace H := Option.bind_eq_some_iff.mp H
          obtain ⟨⟨t258, t259⟩, A40, H⟩ := H
          replace H : (if t259 = 0 then (bolterref13_Checks.l0 k1 l0 (wrap64 (x3_1 + 1))) else (some t259)) = some r := H
          have A4 := Aside0.mk A40
          clear A40
          by_cases c5 : t259 = 0
          · rw [if_pos c5] at H
            have c5b0 : (t259 == 0) = true := beq_iff_eq.mpr c5
            have c5b1 : (t259 != 0) = false := bne_eq_false_iff_eq.mpr c5
            clear c5
            have H' := Aside0.mk H
            clear H
            have p257 : 0 ≤ (x3_1 : Int) := of_decide_eq_true (by first | (with_reducible assumption) | assumption)
            have q257 : x3_1 < (l0.length : Int) := of_decide_eq_true (by first | (with_reducible assumption) | assumption)
            obtain ⟨ad257, e257, hx257_0⟩ := Kd.at_string HR0.out x3_1 p257 q257
            cases e257
            replace hx257_0 := (HB.out.cell (World.block_lt_of_cell? w _ hx257_0)).trans hx257_0
            replace p257 := eq_true p257
            replace q257 := eq_true q257
            go_wp2_with (first | ((with_reducible refine gate_callee (f := 20) rfl ?_); refine goesL_ (some 17) rfl rfl Tryd.func20 (by kernel_rfl) rfl #[.string (rdOf ByteArray.empty l0 x3_1)] rfl (by (try simp only [List.map_toArray, List.map_cons, List.map_nil]); first | done | rfl | (simp only [List.length_drop, List.length_take]; rfl)) ?_; (with_reducible refine (bolterref04_Check.calls k1 (rdOf ByteArray.empty l0 x3_1) t258 t259 _ A4.out).mono ?_); rintro e w6 ⟨rfl, hb⟩; refine ⟨_, rfl, ?_⟩; have n0_ := Aside0.mk (below_step (by repeat (first | (with_reducible first | exact HB.out | apply below_alloc | apply pw_below_drewN | apply below_drew1) | exact HB.out)) hb); clear HB; have HB := n0_; clear n0_; (try clear hb); (try clear hb2); (try clear hk); (try clear hi)))
            go_roundg k1
            case measure => have := HK1.out; omega
            case rel => exact ⟨(wrap64 (x3_1 + 1)), (by first | rfl | (simp; done) | (simp [*]; done)), H', ⟨by have := HK1.out; omega⟩, ⟨by repeat (first | (with_reducible first | exact HB.out | apply below_alloc | apply pw_below_drewN | apply below_drew1) | exact HB.out)⟩⟩
          · rw [if_neg c5] at H
            have c5b0 : (t259 == 0) = false := beq_eq_false_iff_ne.mpr c5
            have c5b1 : (t259 != 0) = true := bne_iff_ne.mpr c5
            obtain rfl := Option.some.inj H
            have p257 : 0 ≤ (x3_1 : Int) := of_decide_eq_true (by first | (with_reducible assumption) | assumption)
            have q257 : x3_1 < (l0.length : Int) := of_decide_eq_true (by first | (with_reducible assumption) | assumption)
            obtain ⟨ad257, e257, hx257_0⟩ := Kd.at_string HR0.out x3_1 p257 q257
            cases e257
            replace hx257_0 := (HB.out.cell (World.block_lt_of_cell? w _ hx257_0)).trans hx257_0
            replace p257 := eq_true p257
            replace q257 := eq_true q257
            go_wp2_with (first | ((with_reducible refine gate_callee (f := 20) rfl ?_); refine goesL_ (some 17) rfl rfl Tryd.func20 (by kernel_rfl) rfl #[.string (rdOf ByteArray.empty l0 x3_1)] rfl (by (try simp only [List.map_toArray, List.map_cons, List.map_nil]); first | done | rfl | (simp only [List.length_drop, List.length_take]; rfl)) ?_; (with_reducible refine (bolterref04_Check.calls k1 (rdOf ByteArray.empty l0 x3_1) t258 t259 _ A4.out).mono ?_); rintro e w7 ⟨rfl, hb⟩; refine ⟨_, rfl, ?_⟩; have n0_ := Aside0.mk (below_step (by repeat (first | (with_reducible first | exact HB.out | apply below_alloc | apply pw_below_drewN | apply below_drew1) | exact HB.out)) hb); clear HB; have HB := n0_; clear n0_; (try clear hb); (try clear hb2); (try clear hk); (try clear hi)))
            go_ret
            exact ⟨by first | rfl | (simp [errW_none, errW_some] <;> rfl) | (simp [*, errW_none, errW_some] <;> rfl), by repeat (first | (with_reducible first | exact HB.out | apply below_alloc | apply pw_below_drewN | apply below_drew1) | exact HB.out)⟩
        · rw [if_neg c3] at H
          exact absurd H (by simp)
      · rw [if_neg c2] at H
        have c2b0 : decide (x3_1 < (l0.length : Int)) = false := decide_eq_false c2
        clear c2
        obtain rfl := Option.some.inj H
        go_wp2
        go_ret
        exact ⟨by first | rfl | (simp [errW_none, errW_some] <;> rfl) | (simp [*, errW_none, errW_some] <;> rfl), by repeat (first | (with_reducible first | exact HB.out | apply below_alloc | apply pw_below_drewN | apply below_drew1) | exact HB.out)⟩
def bolterref13_begins.f (a0 : ByteArray) (a1 : ByteArray) : Option (Bool) := if (a0.size : Int) ≥ (a1.size : Int) then (if 0 ≤ (a1.size : Int) then (if (a1.size : Int) ≤ (a0.size : Int) then (some ((a0.extract 0 ((a1.size : Int) : Int).toNat).toList == a1.toList)) else (none)) else (none)) else (some false)
set_option maxHeartbeats 8000000 in
set_option maxRecDepth 100000 in
theorem bolterref13_begins.calls (a0 : ByteArray) (a1 : ByteArray) (r : Bool) (w : World) (h : bolterref13_begins.f a0 a1 = some r) :
    Calls Tryd.prog 58 #[.string a0, .string a1] w fun e w' => e = .returned (.bool r) ∧ Drawn0 w w' := by
  have H : (if (a0.size : Int) ≥ (a1.size : Int) then (if 0 ≤ (a1.size : Int) then (if (a1.size : Int) ≤ (a0.size : Int) then (some ((a0.extract 0 ((a1.size : Int) : Int).toNat).toList == a1.toList)) else (none)) else (none)) else (some false)) = some r := h
  clear h
  by_cases c3 : (a0.size : Int) ≥ (a1.size : Int)
  · rw [if_pos c3] at H
    have c3b0 : decide ((a1.size : Int) ≤ (a0.size : Int)) = true := decide_eq_true c3
    have c3b1 : decide (a1.size ≤ a0.size) = true := decide_eq_true (Int.ofNat_le.mp c3)
    clear c3
    by_cases c4 : 0 ≤ (a1.size : Int)
    · rw [if_pos c4] at H
      have c4b0 := eq_true c4
      have c4b1 : decide (0 ≤ (a1.size : Int)) = true := decide_eq_true c4
      clear c4
      by_cases c5 : (a1.size : Int) ≤ (a0.size : Int)
      · rw [if_pos c5] at H
        have c5b0 := eq_true c5
        have c5b1 : decide ((a1.size : Int) ≤ (a0.size : Int)) = true := decide_eq_true c5
        clear c5
        obtain rfl := Option.some.inj H
        go_enter Tryd.func58, Tryd.ntmps58
        go_wp2
        go_ret
        exact ⟨by first | rfl | (simp; done) | (simp [*]; done), by repeat (first | exact Drawn0.refl _ | apply Drawn0.step)⟩
      · rw [if_neg c5] at H
        exact absurd H (by simp)
    · rw [if_neg c4] at H
      exact absurd H (by simp)
  · rw [if_neg c3] at H
    have c3b0 : decide ((a1.size : Int) ≤ (a0.size : Int)) = false := decide_eq_false c3
    have c3b1 : decide (a1.size ≤ a0.size) = false := decide_eq_false (fun h => c3 (Int.ofNat_le.mpr h))
    clear c3
    obtain rfl := Option.some.inj H
    go_enter Tryd.func58, Tryd.ntmps58
    go_wp2
    go_ret
    exact ⟨by first | rfl | (simp; done) | (simp [*]; done), by repeat (first | exact Drawn0.refl _ | apply Drawn0.step)⟩
def bolterref13_Begins.f (k : Nat) (a0 : ByteArray) (a1 : ByteArray) : Option (Bool × Int) := (bolterref13_Checks.f k (([a0, a1] : List ByteArray))).bind fun t263 => (if t263 = 0 then ((bolterref13_begins.f a0 a1).bind fun t264 => (some (t264, t263))) else (some (false, t263)))
set_option maxHeartbeats 8000000 in
set_option maxRecDepth 100000 in
theorem bolterref13_Begins.calls (k : Nat) (a0 : ByteArray) (a1 : ByteArray) (r1 : Bool) (r2 : Int) (w : World) (h : bolterref13_Begins.f k a0 a1 = some (r1, r2)) :
    Calls Tryd.prog 23 #[.string a0, .string a1] w fun e w' => e = .returned (.tuple #[.bool r1, .int .i64 r2]) ∧ Below w.heap.size w w' := by
  have HB := Aside0.mk (Below.refl w.heap.size w)
  have H : ((bolterref13_Checks.f k (([a0, a1] : List ByteArray))).bind fun t263 => (if t263 = 0 then ((bolterref13_begins.f a0 a1).bind fun t264 => (some (t264, t263))) else (some (false, t263)))) = some (r1, r2) := h
  clear h
  obtain ⟨y260, hy260⟩ : ∃ y_ : List ByteArray, y_ = (([a0, a1] : List ByteArray)) := ⟨_, rfl⟩
  replace H : ((bolterref13_Checks.f k y260).bind fun t263 => (if t263 = 0 then ((bolterref13_begins.f a0 a1).bind fun t264 => (some (t264, t263))) else (some (false, t263)))) = some (r1, r2) := by first | (rw [hy260]; with_reducible exact H) | (have H2_ := (Option.bind_some _ _).symm.trans H; rw [hy260]; with_reducible exact H2_) | (have H2_ := (Option.bind_some _ _).symm.trans H; with_reducible exact H2_) | with_reducible exact H | (rw [hy260]; exact H) | exact H
  have Ny260 := Aside0.mk hy260
  clear hy260
  replace H := Option.bind_eq_some_iff.mp H
  obtain ⟨t263, A30, H⟩ := H
  replace H : (if t263 = 0 then ((bolterref13_begins.f a0 a1).bind fun t264 => (some (t264, t263))) else (some (false, t263))) = some (r1, r2) := H
  have A3 := Aside0.mk A30
  clear A30
  by_cases c4 : t263 = 0
  · rw [if_pos c4] at H
    have c4b0 : (t263 == 0) = true := beq_iff_eq.mpr c4
    have c4b1 : (t263 != 0) = false := bne_eq_false_iff_eq.mpr c4
    clear c4
    replace H := Option.bind_eq_some_iff.mp H
    obtain ⟨t264, A50, H⟩ := H
    replace H : (some (t264, t263)) = some (r1, r2) := H
    have A5 := Aside0.mk A50
    clear A50
    simp only [Option.some.injEq, Prod.mk.injEq] at H
    obtain ⟨rfl, rfl⟩ := H
    go_enter Tryd.func23, Tryd.ntmps23
    go_wp2_with (first | ((with_reducible refine gate_dst (N := 9) rfl ?_); refine Kd.R_lit Kd.string _ 9 ?hg (N := 9) ?hd (xs := ([a0, a1] : List ByteArray)) (inner := [.string a0, .string a1]) (ok := fun _ => True) (okp := fun _ => True) ?hr ?hp (fun _ hk => hk) trivial (Below.refl _ _) (Nat.le_refl _) (by simp) ?_; (case hd => rfl); (case hg => rfl); (case hr => first | (go_simp; done) | (go_simp; rfl)); (case hp => exact (Reps.one (show Kd.M Kd.string _ _ _ a0 [.string a0] from rfl) (Reps.one (show Kd.M Kd.string _ _ _ a1 [.string a1] from rfl) (Reps.none _ _)))); intro v261 w6 ho7 hb hg_ hnew_; clear hg_ hnew_; (first | rw [← Ny260.out] at ho7 | (simp only [Int.reduceToNat] at ho7; rw [← Ny260.out] at ho7)); have n0_ := Aside0.mk (Kd.R_lower ho7 (below_size (by repeat (first | (with_reducible first | exact HB.out | apply below_alloc | apply pw_below_drewN | apply below_drew1) | exact HB.out)))); have n1_ := Aside0.mk (below_step (by repeat (first | (with_reducible first | exact HB.out | apply below_alloc | apply pw_below_drewN | apply below_drew1) | exact HB.out)) hb); clear HB; have HO262 := n0_; have HB := n1_; clear n0_ n1_; clear hb ho7; obtain ⟨Ao8, co8, eo8⟩ := Kd.R_slice HO262.out; subst eo8) | ((with_reducible refine gate_callee (f := 57) rfl ?_); refine goesL_ (some 10) rfl rfl Tryd.func57 (by kernel_rfl) rfl #[.slice Ao8 y260.length co8] rfl (by (try simp only [List.map_toArray, List.map_cons, List.map_nil]); first | done | rfl | (simp only [List.length_drop, List.length_take]; rfl)) ?_; (with_reducible refine (bolterref13_Checks.calls k _ _ y260 t263 _ ?side1 ?side2 A3.out).mono ?_); (case side1 => repeat (first | exact (Kd.R_reads' HO262.out).2.2 | (with_reducible refine Kd.C_alloc ?_ _) | (with_reducible refine Kd.C_drewN ?_ _) | (with_reducible refine Kd.C_drew ?_))); (case side2 => exact (Kd.R_reads' HO262.out).2.1); rintro e w9 ⟨rfl, hb⟩; refine ⟨_, rfl, ?_⟩; have n0_ := Aside0.mk (Kd.R_below (by (with_reducible repeat (first | apply Kd.R_alloc | apply Kd.R_drewN | apply Kd.R_drew)); exact HO262.out) hb); have n1_ := Aside0.mk (below_step (by repeat (first | (with_reducible first | exact HB.out | apply below_alloc | apply pw_below_drewN | apply below_drew1) | exact HB.out)) hb); clear HO262; clear HB; have HO262 := n0_; have HB := n1_; clear n0_ n1_; (try clear hb); (try clear hb2); (try clear hk); (try clear hi)) | (go_at_call 58; (with_reducible refine (bolterref13_begins.calls a0 a1 t264 _ A5.out).mono ?_); rintro e w' ⟨rfl, ⟨nd, rfl⟩⟩))
    go_ret2
    exact ⟨by first | rfl | (simp [errW_none, errW_some] <;> rfl) | (simp [*, errW_none, errW_some] <;> rfl), by repeat (first | (with_reducible first | exact HB.out | apply below_alloc | apply pw_below_drewN | apply below_drew1) | exact HB.out)⟩
  · rw [if_neg c4] at H
    have c4b0 : (t263 == 0) = false := beq_eq_false_iff_ne.mpr c4
    have c4b1 : (t263 != 0) = true := bne_iff_ne.mpr c4
    simp only [Option.some.injEq, Prod.mk.injEq] at H
    obtain ⟨rfl, rfl⟩ := H
    go_enter Tryd.func23, Tryd.ntmps23
    go_wp2_with (first | ((with_reducible refine gate_dst (N := 9) rfl ?_); refine Kd.R_lit Kd.string _ 9 ?hg (N := 9) ?hd (xs := ([a0, a1] : List ByteArray)) (inner := [.string a0, .string a1]) (ok := fun _ => True) (okp := fun _ => True) ?hr ?hp (fun _ hk => hk) trivial (Below.refl _ _) (Nat.le_refl _) (by simp) ?_; (case hd => rfl); (case hg => rfl); (case hr => first | (go_simp; done) | (go_simp; rfl)); (case hp => exact (Reps.one (show Kd.M Kd.string _ _ _ a0 [.string a0] from rfl) (Reps.one (show Kd.M Kd.string _ _ _ a1 [.string a1] from rfl) (Reps.none _ _)))); intro v261 w10 ho11 hb hg_ hnew_; clear hg_ hnew_; (first | rw [← Ny260.out] at ho11 | (simp only [Int.reduceToNat] at ho11; rw [← Ny260.out] at ho11)); have n0_ := Aside0.mk (Kd.R_lower ho11 (below_size (by repeat (first | (with_reducible first | exact HB.out | apply below_alloc | apply pw_below_drewN | apply below_drew1) | exact HB.out)))); have n1_ := Aside0.mk (below_step (by repeat (first | (with_reducible first | exact HB.out | apply below_alloc | apply pw_below_drewN | apply below_drew1) | exact HB.out)) hb); clear HB; have HO262 := n0_; have HB := n1_; clear n0_ n1_; clear hb ho11; obtain ⟨Ao12, co12, eo12⟩ := Kd.R_slice HO262.out; subst eo12) | ((with_reducible refine gate_callee (f := 57) rfl ?_); refine goesL_ (some 10) rfl rfl Tryd.func57 (by kernel_rfl) rfl #[.slice Ao12 y260.length co12] rfl (by (try simp only [List.map_toArray, List.map_cons, List.map_nil]); first | done | rfl | (simp only [List.length_drop, List.length_take]; rfl)) ?_; (with_reducible refine (bolterref13_Checks.calls k _ _ y260 t263 _ ?side1 ?side2 A3.out).mono ?_); (case side1 => repeat (first | exact (Kd.R_reads' HO262.out).2.2 | (with_reducible refine Kd.C_alloc ?_ _) | (with_reducible refine Kd.C_drewN ?_ _) | (with_reducible refine Kd.C_drew ?_))); (case side2 => exact (Kd.R_reads' HO262.out).2.1); rintro e w13 ⟨rfl, hb⟩; refine ⟨_, rfl, ?_⟩; have n0_ := Aside0.mk (Kd.R_below (by (with_reducible repeat (first | apply Kd.R_alloc | apply Kd.R_drewN | apply Kd.R_drew)); exact HO262.out) hb); have n1_ := Aside0.mk (below_step (by repeat (first | (with_reducible first | exact HB.out | apply below_alloc | apply pw_below_drewN | apply below_drew1) | exact HB.out)) hb); clear HO262; clear HB; have HO262 := n0_; have HB := n1_; clear n0_ n1_; (try clear hb); (try clear hb2); (try clear hk); (try clear hi)))
    go_ret2
    exact ⟨by first | rfl | (simp [errW_none, errW_some] <;> rfl) | (simp [*, errW_none, errW_some] <;> rfl), by repeat (first | (with_reducible first | exact HB.out | apply below_alloc | apply pw_below_drewN | apply below_drew1) | exact HB.out)⟩
def bolterref13_ends.f (a0 : ByteArray) (a1 : ByteArray) : Option (Bool) := if (a0.size : Int) ≥ (a1.size : Int) then (if 0 ≤ (wrap64 ((a0.size : Int) - (a1.size : Int))) then (if (wrap64 ((a0.size : Int) - (a1.size : Int))) ≤ (a0.size : Int) then (some ((a0.extract ((wrap64 ((a0.size : Int) - (a1.size : Int))) : Int).toNat a0.size).toList == a1.toList)) else (none)) else (none)) else (some false)
set_option maxHeartbeats 8000000 in
set_option maxRecDepth 100000 in
theorem bolterref13_ends.calls (a0 : ByteArray) (a1 : ByteArray) (r : Bool) (w : World) (h : bolterref13_ends.f a0 a1 = some r) :
    Calls Tryd.prog 59 #[.string a0, .string a1] w fun e w' => e = .returned (.bool r) ∧ Drawn0 w w' := by
  have H : (if (a0.size : Int) ≥ (a1.size : Int) then (if 0 ≤ (wrap64 ((a0.size : Int) - (a1.size : Int))) then (if (wrap64 ((a0.size : Int) - (a1.size : Int))) ≤ (a0.size : Int) then (some ((a0.extract ((wrap64 ((a0.size : Int) - (a1.size : Int))) : Int).toNat a0.size).toList == a1.toList)) else (none)) else (none)) else (some false)) = some r := h
  clear h
  by_cases c3 : (a0.size : Int) ≥ (a1.size : Int)
  · rw [if_pos c3] at H
    have c3b0 : decide ((a1.size : Int) ≤ (a0.size : Int)) = true := decide_eq_true c3
    have c3b1 : decide (a1.size ≤ a0.size) = true := decide_eq_true (Int.ofNat_le.mp c3)
    clear c3
    obtain ⟨ji4, hji4⟩ : ∃ j_ : Int, (wrap64 ((a0.size : Int) - (a1.size : Int))) = j_ := ⟨_, rfl⟩
    replace H : (if 0 ≤ (ji4) then (if (ji4) ≤ (a0.size : Int) then (some ((a0.extract ((ji4) : Int).toNat a0.size).toList == a1.toList)) else (none)) else (none)) = some r := by first | (rw [hji4] at H; exact H) | (simp only [hji4] at H ⊢; exact H)
    have hji4w : (IntKind.i64.wrap ((a0.size : Int) - (a1.size : Int))) = ji4 := (i64_w _).trans hji4
    by_cases c5 : 0 ≤ (ji4)
    · rw [if_pos c5] at H
      have c5b0 := eq_true c5
      have c5b1 : decide (0 ≤ (ji4)) = true := decide_eq_true c5
      clear c5
      by_cases c6 : (ji4) ≤ (a0.size : Int)
      · rw [if_pos c6] at H
        have c6b0 := eq_true c6
        have c6b1 : decide ((ji4) ≤ (a0.size : Int)) = true := decide_eq_true c6
        clear c6
        obtain rfl := Option.some.inj H
        go_enter Tryd.func59, Tryd.ntmps59
        go_wp2
        go_ret
        exact ⟨by first | rfl | (simp; done) | (simp only [← hji4] <;> (first | rfl | simp)) | (simp [*]; done), by repeat (first | exact Drawn0.refl _ | apply Drawn0.step)⟩
      · rw [if_neg c6] at H
        exact absurd H (by simp)
    · rw [if_neg c5] at H
      exact absurd H (by simp)
  · rw [if_neg c3] at H
    have c3b0 : decide ((a1.size : Int) ≤ (a0.size : Int)) = false := decide_eq_false c3
    have c3b1 : decide (a1.size ≤ a0.size) = false := decide_eq_false (fun h => c3 (Int.ofNat_le.mpr h))
    clear c3
    obtain rfl := Option.some.inj H
    go_enter Tryd.func59, Tryd.ntmps59
    go_wp2
    go_ret
    exact ⟨by first | rfl | (simp; done) | (simp [*]; done), by repeat (first | exact Drawn0.refl _ | apply Drawn0.step)⟩
def bolterref13_Ends.f (k : Nat) (a0 : ByteArray) (a1 : ByteArray) : Option (Bool × Int) := (bolterref13_Checks.f k (([a0, a1] : List ByteArray))).bind fun t268 => (if t268 = 0 then ((bolterref13_ends.f a0 a1).bind fun t269 => (some (t269, t268))) else (some (false, t268)))
set_option maxHeartbeats 8000000 in
set_option maxRecDepth 100000 in
theorem bolterref13_Ends.calls (k : Nat) (a0 : ByteArray) (a1 : ByteArray) (r1 : Bool) (r2 : Int) (w : World) (h : bolterref13_Ends.f k a0 a1 = some (r1, r2)) :
    Calls Tryd.prog 24 #[.string a0, .string a1] w fun e w' => e = .returned (.tuple #[.bool r1, .int .i64 r2]) ∧ Below w.heap.size w w' := by
  have HB := Aside0.mk (Below.refl w.heap.size w)
  have H : ((bolterref13_Checks.f k (([a0, a1] : List ByteArray))).bind fun t268 => (if t268 = 0 then ((bolterref13_ends.f a0 a1).bind fun t269 => (some (t269, t268))) else (some (false, t268)))) = some (r1, r2) := h
  clear h
  obtain ⟨y265, hy265⟩ : ∃ y_ : List ByteArray, y_ = (([a0, a1] : List ByteArray)) := ⟨_, rfl⟩
  replace H : ((bolterref13_Checks.f k y265).bind fun t268 => (if t268 = 0 then ((bolterref13_ends.f a0 a1).bind fun t269 => (some (t269, t268))) else (some (false, t268)))) = some (r1, r2) := by first | (rw [hy265]; with_reducible exact H) | (have H2_ := (Option.bind_some _ _).symm.trans H; rw [hy265]; with_reducible exact H2_) | (have H2_ := (Option.bind_some _ _).symm.trans H; with_reducible exact H2_) | with_reducible exact H | (rw [hy265]; exact H) | exact H
  have Ny265 := Aside0.mk hy265
  clear hy265
  replace H := Option.bind_eq_some_iff.mp H
  obtain ⟨t268, A30, H⟩ := H
  replace H : (if t268 = 0 then ((bolterref13_ends.f a0 a1).bind fun t269 => (some (t269, t268))) else (some (false, t268))) = some (r1, r2) := H
  have A3 := Aside0.mk A30
  clear A30
  by_cases c4 : t268 = 0
  · rw [if_pos c4] at H
    have c4b0 : (t268 == 0) = true := beq_iff_eq.mpr c4
    have c4b1 : (t268 != 0) = false := bne_eq_false_iff_eq.mpr c4
    clear c4
    replace H := Option.bind_eq_some_iff.mp H
    obtain ⟨t269, A50, H⟩ := H
    replace H : (some (t269, t268)) = some (r1, r2) := H
    have A5 := Aside0.mk A50
    clear A50
    simp only [Option.some.injEq, Prod.mk.injEq] at H
    obtain ⟨rfl, rfl⟩ := H
    go_enter Tryd.func24, Tryd.ntmps24
    go_wp2_with (first | ((with_reducible refine gate_dst (N := 9) rfl ?_); refine Kd.R_lit Kd.string _ 9 ?hg (N := 9) ?hd (xs := ([a0, a1] : List ByteArray)) (inner := [.string a0, .string a1]) (ok := fun _ => True) (okp := fun _ => True) ?hr ?hp (fun _ hk => hk) trivial (Below.refl _ _) (Nat.le_refl _) (by simp) ?_; (case hd => rfl); (case hg => rfl); (case hr => first | (go_simp; done) | (go_simp; rfl)); (case hp => exact (Reps.one (show Kd.M Kd.string _ _ _ a0 [.string a0] from rfl) (Reps.one (show Kd.M Kd.string _ _ _ a1 [.string a1] from rfl) (Reps.none _ _)))); intro v266 w6 ho7 hb hg_ hnew_; clear hg_ hnew_; (first | rw [← Ny265.out] at ho7 | (simp only [Int.reduceToNat] at ho7; rw [← Ny265.out] at ho7)); have n0_ := Aside0.mk (Kd.R_lower ho7 (below_size (by repeat (first | (with_reducible first | exact HB.out | apply below_alloc | apply pw_below_drewN | apply below_drew1) | exact HB.out)))); have n1_ := Aside0.mk (below_step (by repeat (first | (with_reducible first | exact HB.out | apply below_alloc | apply pw_below_drewN | apply below_drew1) | exact HB.out)) hb); clear HB; have HO267 := n0_; have HB := n1_; clear n0_ n1_; clear hb ho7; obtain ⟨Ao8, co8, eo8⟩ := Kd.R_slice HO267.out; subst eo8) | ((with_reducible refine gate_callee (f := 57) rfl ?_); refine goesL_ (some 10) rfl rfl Tryd.func57 (by kernel_rfl) rfl #[.slice Ao8 y265.length co8] rfl (by (try simp only [List.map_toArray, List.map_cons, List.map_nil]); first | done | rfl | (simp only [List.length_drop, List.length_take]; rfl)) ?_; (with_reducible refine (bolterref13_Checks.calls k _ _ y265 t268 _ ?side1 ?side2 A3.out).mono ?_); (case side1 => repeat (first | exact (Kd.R_reads' HO267.out).2.2 | (with_reducible refine Kd.C_alloc ?_ _) | (with_reducible refine Kd.C_drewN ?_ _) | (with_reducible refine Kd.C_drew ?_))); (case side2 => exact (Kd.R_reads' HO267.out).2.1); rintro e w9 ⟨rfl, hb⟩; refine ⟨_, rfl, ?_⟩; have n0_ := Aside0.mk (Kd.R_below (by (with_reducible repeat (first | apply Kd.R_alloc | apply Kd.R_drewN | apply Kd.R_drew)); exact HO267.out) hb); have n1_ := Aside0.mk (below_step (by repeat (first | (with_reducible first | exact HB.out | apply below_alloc | apply pw_below_drewN | apply below_drew1) | exact HB.out)) hb); clear HO267; clear HB; have HO267 := n0_; have HB := n1_; clear n0_ n1_; (try clear hb); (try clear hb2); (try clear hk); (try clear hi)) | (go_at_call 59; (with_reducible refine (bolterref13_ends.calls a0 a1 t269 _ A5.out).mono ?_); rintro e w' ⟨rfl, ⟨nd, rfl⟩⟩))
    go_ret2
    exact ⟨by first | rfl | (simp [errW_none, errW_some] <;> rfl) | (simp [*, errW_none, errW_some] <;> rfl), by repeat (first | (with_reducible first | exact HB.out | apply below_alloc | apply pw_below_drewN | apply below_drew1) | exact HB.out)⟩
  · rw [if_neg c4] at H
    have c4b0 : (t268 == 0) = false := beq_eq_false_iff_ne.mpr c4
    have c4b1 : (t268 != 0) = true := bne_iff_ne.mpr c4
    simp only [Option.some.injEq, Prod.mk.injEq] at H
    obtain ⟨rfl, rfl⟩ := H
    go_enter Tryd.func24, Tryd.ntmps24
    go_wp2_with (first | ((with_reducible refine gate_dst (N := 9) rfl ?_); refine Kd.R_lit Kd.string _ 9 ?hg (N := 9) ?hd (xs := ([a0, a1] : List ByteArray)) (inner := [.string a0, .string a1]) (ok := fun _ => True) (okp := fun _ => True) ?hr ?hp (fun _ hk => hk) trivial (Below.refl _ _) (Nat.le_refl _) (by simp) ?_; (case hd => rfl); (case hg => rfl); (case hr => first | (go_simp; done) | (go_simp; rfl)); (case hp => exact (Reps.one (show Kd.M Kd.string _ _ _ a0 [.string a0] from rfl) (Reps.one (show Kd.M Kd.string _ _ _ a1 [.string a1] from rfl) (Reps.none _ _)))); intro v266 w10 ho11 hb hg_ hnew_; clear hg_ hnew_; (first | rw [← Ny265.out] at ho11 | (simp only [Int.reduceToNat] at ho11; rw [← Ny265.out] at ho11)); have n0_ := Aside0.mk (Kd.R_lower ho11 (below_size (by repeat (first | (with_reducible first | exact HB.out | apply below_alloc | apply pw_below_drewN | apply below_drew1) | exact HB.out)))); have n1_ := Aside0.mk (below_step (by repeat (first | (with_reducible first | exact HB.out | apply below_alloc | apply pw_below_drewN | apply below_drew1) | exact HB.out)) hb); clear HB; have HO267 := n0_; have HB := n1_; clear n0_ n1_; clear hb ho11; obtain ⟨Ao12, co12, eo12⟩ := Kd.R_slice HO267.out; subst eo12) | ((with_reducible refine gate_callee (f := 57) rfl ?_); refine goesL_ (some 10) rfl rfl Tryd.func57 (by kernel_rfl) rfl #[.slice Ao12 y265.length co12] rfl (by (try simp only [List.map_toArray, List.map_cons, List.map_nil]); first | done | rfl | (simp only [List.length_drop, List.length_take]; rfl)) ?_; (with_reducible refine (bolterref13_Checks.calls k _ _ y265 t268 _ ?side1 ?side2 A3.out).mono ?_); (case side1 => repeat (first | exact (Kd.R_reads' HO267.out).2.2 | (with_reducible refine Kd.C_alloc ?_ _) | (with_reducible refine Kd.C_drewN ?_ _) | (with_reducible refine Kd.C_drew ?_))); (case side2 => exact (Kd.R_reads' HO267.out).2.1); rintro e w13 ⟨rfl, hb⟩; refine ⟨_, rfl, ?_⟩; have n0_ := Aside0.mk (Kd.R_below (by (with_reducible repeat (first | apply Kd.R_alloc | apply Kd.R_drewN | apply Kd.R_drew)); exact HO267.out) hb); have n1_ := Aside0.mk (below_step (by repeat (first | (with_reducible first | exact HB.out | apply below_alloc | apply pw_below_drewN | apply below_drew1) | exact HB.out)) hb); clear HO267; clear HB; have HO267 := n0_; have HB := n1_; clear n0_ n1_; (try clear hb); (try clear hb2); (try clear hk); (try clear hi)))
    go_ret2
    exact ⟨by first | rfl | (simp [errW_none, errW_some] <;> rfl) | (simp [*, errW_none, errW_some] <;> rfl), by repeat (first | (with_reducible first | exact HB.out | apply below_alloc | apply pw_below_drewN | apply below_drew1) | exact HB.out)⟩
def bolterref13_whole.f (l0 : List Int) : Option (ByteArray × Int) := if (l0.length : Int) > 16384 then (some ((⟨#[]⟩ : ByteArray), 5)) else (some (strOfNums l0, 0))
set_option maxHeartbeats 8000000 in
set_option maxRecDepth 100000 in
theorem bolterref13_whole.calls (A0 : Option Addr) (c0 : Nat) (l0 : List Int) (r1 : ByteArray) (r2 : Int) (w : World) (hr0 : Kd.C (Kd.int .u8) w A0 l0.length l0) (hc0 : l0.length ≤ c0) (h : bolterref13_whole.f l0 = some (r1, r2)) :
    Calls Tryd.prog 60 #[.slice A0 l0.length c0] w fun e w' => e = .returned (.tuple #[.string r1, .int .i64 r2]) ∧ Drawn0 w w' := by
  have HR0 := Aside0.mk hr0
  have HC0 := Aside0.mk hc0
  clear hr0 hc0
  have H : (if (l0.length : Int) > 16384 then (some ((⟨#[]⟩ : ByteArray), 5)) else (some (strOfNums l0, 0))) = some (r1, r2) := h
  clear h
  by_cases c2 : (l0.length : Int) > 16384
  · rw [if_pos c2] at H
    have c2b0 : decide (16384 < (l0.length : Int)) = true := decide_eq_true c2
    have c2b1 : decide (16384 < l0.length) = true := decide_eq_true (by omega)
    clear c2
    simp only [Option.some.injEq, Prod.mk.injEq] at H
    obtain ⟨rfl, rfl⟩ := H
    go_enter Tryd.func60, Tryd.ntmps60
    go_wp2
    go_ret2
    exact ⟨by first | rfl | (simp; done) | (simp [*]; done), by repeat (first | exact Drawn0.refl _ | apply Drawn0.step)⟩
  · rw [if_neg c2] at H
    have c2b0 : decide (16384 < (l0.length : Int)) = false := decide_eq_false c2
    have c2b1 : decide (16384 < l0.length) = false := decide_eq_false (by omega)
    clear c2
    simp only [Option.some.injEq, Prod.mk.injEq] at H
    obtain ⟨rfl, rfl⟩ := H
    have hcv3 := Kd.C_string (P := Tryd.prog) (A := A0) (c := c0) Tryd.underlying63 Tryd.underlying5 Tryd.underlying9 HR0.out
    go_enter Tryd.func60, Tryd.ntmps60
    go_wp2
    go_ret2
    exact ⟨by first | rfl | (simp; done) | (simp [*]; done), by repeat (first | exact Drawn0.refl _ | apply Drawn0.step)⟩
def bolterref13_TrimLeft.f (k : Nat) (a0 : ByteArray) (a1 : ByteArray) : Option (ByteArray × Int) := (bolterref13_Checks.f k (([a0, a1] : List ByteArray))).bind fun t273 => (if t273 = 0 then ((bolterref13_begins.f a0 a1).bind fun t274 => (if t274 = true then (if 0 ≤ (a1.size : Int) then (if (a1.size : Int) ≤ (a0.size : Int) then ((conv_bytes63.f (a0.extract ((a1.size : Int) : Int).toNat a0.size)).bind fun t275 => ((bolterref13_whole.f t275).bind fun bt278 => (some (bt278.1, bt278.2)))) else (none)) else (none)) else ((conv_bytes63.f a0).bind fun t280 => ((bolterref13_whole.f t280).bind fun bt283 => (some (bt283.1, bt283.2)))))) else (some ((⟨#[]⟩ : ByteArray), t273)))
set_option maxHeartbeats 8000000 in
set_option maxRecDepth 100000 in
theorem bolterref13_TrimLeft.calls (k : Nat) (a0 : ByteArray) (a1 : ByteArray) (r1 : ByteArray) (r2 : Int) (w : World) (h : bolterref13_TrimLeft.f k a0 a1 = some (r1, r2)) :
    Calls Tryd.prog 25 #[.string a0, .string a1] w fun e w' => e = .returned (.tuple #[.string r1, .int .i64 r2]) ∧ Below w.heap.size w w' := by
  have HB := Aside0.mk (Below.refl w.heap.size w)
  have H : ((bolterref13_Checks.f k (([a0, a1] : List ByteArray))).bind fun t273 => (if t273 = 0 then ((bolterref13_begins.f a0 a1).bind fun t274 => (if t274 = true then (if 0 ≤ (a1.size : Int) then (if (a1.size : Int) ≤ (a0.size : Int) then ((conv_bytes63.f (a0.extract ((a1.size : Int) : Int).toNat a0.size)).bind fun t275 => ((bolterref13_whole.f t275).bind fun bt278 => (some (bt278.1, bt278.2)))) else (none)) else (none)) else ((conv_bytes63.f a0).bind fun t280 => ((bolterref13_whole.f t280).bind fun bt283 => (some (bt283.1, bt283.2)))))) else (some ((⟨#[]⟩ : ByteArray), t273)))) = some (r1, r2) := h
  clear h
  obtain ⟨y270, hy270⟩ : ∃ y_ : List ByteArray, y_ = (([a0, a1] : List ByteArray)) := ⟨_, rfl⟩
  replace H : ((bolterref13_Checks.f k y270).bind fun t273 => (if t273 = 0 then ((bolterref13_begins.f a0 a1).bind fun t274 => (if t274 = true then (if 0 ≤ (a1.size : Int) then (if (a1.size : Int) ≤ (a0.size : Int) then ((conv_bytes63.f (a0.extract ((a1.size : Int) : Int).toNat a0.size)).bind fun t275 => ((bolterref13_whole.f t275).bind fun bt278 => (some (bt278.1, bt278.2)))) else (none)) else (none)) else ((conv_bytes63.f a0).bind fun t280 => ((bolterref13_whole.f t280).bind fun bt283 => (some (bt283.1, bt283.2)))))) else (some ((⟨#[]⟩ : ByteArray), t273)))) = some (r1, r2) := by first | (rw [hy270]; with_reducible exact H) | (have H2_ := (Option.bind_some _ _).symm.trans H; rw [hy270]; with_reducible exact H2_) | (have H2_ := (Option.bind_some _ _).symm.trans H; with_reducible exact H2_) | with_reducible exact H | (rw [hy270]; exact H) | exact H
  have Ny270 := Aside0.mk hy270
  clear hy270
  replace H := Option.bind_eq_some_iff.mp H
  obtain ⟨t273, A30, H⟩ := H
  replace H : (if t273 = 0 then ((bolterref13_begins.f a0 a1).bind fun t274 => (if t274 = true then (if 0 ≤ (a1.size : Int) then (if (a1.size : Int) ≤ (a0.size : Int) then ((conv_bytes63.f (a0.extract ((a1.size : Int) : Int).toNat a0.size)).bind fun t275 => ((bolterref13_whole.f t275).bind fun bt278 => (some (bt278.1, bt278.2)))) else (none)) else (none)) else ((conv_bytes63.f a0).bind fun t280 => ((bolterref13_whole.f t280).bind fun bt283 => (some (bt283.1, bt283.2)))))) else (some ((⟨#[]⟩ : ByteArray), t273))) = some (r1, r2) := H
  have A3 := Aside0.mk A30
  clear A30
  by_cases c4 : t273 = 0
  · rw [if_pos c4] at H
    have c4b0 : (t273 == 0) = true := beq_iff_eq.mpr c4
    have c4b1 : (t273 != 0) = false := bne_eq_false_iff_eq.mpr c4
    clear c4
    replace H := Option.bind_eq_some_iff.mp H
    obtain ⟨t274, A50, H⟩ := H
    replace H : (if t274 = true then (if 0 ≤ (a1.size : Int) then (if (a1.size : Int) ≤ (a0.size : Int) then ((conv_bytes63.f (a0.extract ((a1.size : Int) : Int).toNat a0.size)).bind fun t275 => ((bolterref13_whole.f t275).bind fun bt278 => (some (bt278.1, bt278.2)))) else (none)) else (none)) else ((conv_bytes63.f a0).bind fun t280 => ((bolterref13_whole.f t280).bind fun bt283 => (some (bt283.1, bt283.2))))) = some (r1, r2) := H
    have A5 := Aside0.mk A50
    clear A50
    by_cases c6 : t274 = true
    · subst c6
      have H1 : (if 0 ≤ (a1.size : Int) then (if (a1.size : Int) ≤ (a0.size : Int) then ((conv_bytes63.f (a0.extract ((a1.size : Int) : Int).toNat a0.size)).bind fun t275 => ((bolterref13_whole.f t275).bind fun bt278 => (some (bt278.1, bt278.2)))) else (none)) else (none)) = some (r1, r2) := by rw [if_pos rfl] at H; exact H
      clear H
      have H := H1
      clear H1
      by_cases c7 : 0 ≤ (a1.size : Int)
      · rw [if_pos c7] at H
        have c7b0 := eq_true c7
        have c7b1 : decide (0 ≤ (a1.size : Int)) = true := decide_eq_true c7
        clear c7
        by_cases c8 : (a1.size : Int) ≤ (a0.size : Int)
        · rw [if_pos c8] at H
          have c8b0 := eq_true c8
          have c8b1 : decide ((a1.size : Int) ≤ (a0.size : Int)) = true := decide_eq_true c8
          clear c8
          replace H := Option.bind_eq_some_iff.mp H
          obtain ⟨t275, A90, H⟩ := H
          replace H : ((bolterref13_whole.f t275).bind fun bt278 => (some (bt278.1, bt278.2))) = some (r1, r2) := H
          have A9 := Aside0.mk A90
          clear A90
          replace H := Option.bind_eq_some_iff.mp H
          obtain ⟨⟨t278, t279⟩, A100, H⟩ := H
          replace H : (some (t278, t279)) = some (r1, r2) := H
          have A10 := Aside0.mk A100
          clear A100
          simp only [Option.some.injEq, Prod.mk.injEq] at H
          obtain ⟨rfl, rfl⟩ := H
          go_enter Tryd.func25, Tryd.ntmps25
          go_wp2_with (first | ((with_reducible refine gate_dst (N := 9) rfl ?_); refine Kd.R_lit Kd.string _ 9 ?hg (N := 9) ?hd (xs := ([a0, a1] : List ByteArray)) (inner := [.string a0, .string a1]) (ok := fun _ => True) (okp := fun _ => True) ?hr ?hp (fun _ hk => hk) trivial (Below.refl _ _) (Nat.le_refl _) (by simp) ?_; (case hd => rfl); (case hg => rfl); (case hr => first | (go_simp; done) | (go_simp; rfl)); (case hp => exact (Reps.one (show Kd.M Kd.string _ _ _ a0 [.string a0] from rfl) (Reps.one (show Kd.M Kd.string _ _ _ a1 [.string a1] from rfl) (Reps.none _ _)))); intro v271 w11 ho12 hb hg_ hnew_; clear hg_ hnew_; (first | rw [← Ny270.out] at ho12 | (simp only [Int.reduceToNat] at ho12; rw [← Ny270.out] at ho12)); have n0_ := Aside0.mk (Kd.R_lower ho12 (below_size (by repeat (first | (with_reducible first | exact HB.out | apply below_alloc | apply pw_below_drewN | apply below_drew1) | exact HB.out)))); have n1_ := Aside0.mk (below_step (by repeat (first | (with_reducible first | exact HB.out | apply below_alloc | apply pw_below_drewN | apply below_drew1) | exact HB.out)) hb); clear HB; have HO272 := n0_; have HB := n1_; clear n0_ n1_; clear hb ho12; obtain ⟨Ao13, co13, eo13⟩ := Kd.R_slice HO272.out; subst eo13) | ((with_reducible refine gate_callee (f := 57) rfl ?_); refine goesL_ (some 10) rfl rfl Tryd.func57 (by kernel_rfl) rfl #[.slice Ao13 y270.length co13] rfl (by (try simp only [List.map_toArray, List.map_cons, List.map_nil]); first | done | rfl | (simp only [List.length_drop, List.length_take]; rfl)) ?_; (with_reducible refine (bolterref13_Checks.calls k _ _ y270 t273 _ ?side1 ?side2 A3.out).mono ?_); (case side1 => repeat (first | exact (Kd.R_reads' HO272.out).2.2 | (with_reducible refine Kd.C_alloc ?_ _) | (with_reducible refine Kd.C_drewN ?_ _) | (with_reducible refine Kd.C_drew ?_))); (case side2 => exact (Kd.R_reads' HO272.out).2.1); rintro e w14 ⟨rfl, hb⟩; refine ⟨_, rfl, ?_⟩; have n0_ := Aside0.mk (Kd.R_below (by (with_reducible repeat (first | apply Kd.R_alloc | apply Kd.R_drewN | apply Kd.R_drew)); exact HO272.out) hb); have n1_ := Aside0.mk (below_step (by repeat (first | (with_reducible first | exact HB.out | apply below_alloc | apply pw_below_drewN | apply below_drew1) | exact HB.out)) hb); clear HO272; clear HB; have HO272 := n0_; have HB := n1_; clear n0_ n1_; (try clear hb); (try clear hb2); (try clear hk); (try clear hi)) | ((with_reducible refine gate_callee (f := 58) rfl ?_); refine goesL_ (some 18) rfl rfl Tryd.func58 (by kernel_rfl) rfl #[.string a0, .string a1] rfl (by (try simp only [List.map_toArray, List.map_cons, List.map_nil]); first | done | rfl | (simp only [List.length_drop, List.length_take]; rfl)) ?_; (with_reducible refine (bolterref13_begins.calls a0 a1 true _ A5.out).mono ?_); rintro e w' ⟨rfl, ⟨nd, rfl⟩⟩; refine ⟨_, rfl, ?_⟩) | ((with_reducible refine gate_dst (N := 24) rfl ?_); refine conv_bytes63.op _ _ _ rfl rfl rfl A9.out ?_; intro v276 w15 ho0 hb; have n0_ := Aside0.mk (Kd.R_below (by (with_reducible repeat (first | apply Kd.R_alloc | apply Kd.R_drewN | apply Kd.R_drew)); exact HO272.out) hb); have n1_ := Aside0.mk (Kd.V_lower (Kd.V_mono (ok' := fun k_ => some k_ ≠ (.slice Ao13 y270.length co13 : Value).ownBlock) ho0 (fun k_ hk_ => (Kd.fresh' (Kd.R_lt (by (with_reducible repeat (first | apply Kd.R_alloc | apply Kd.R_drewN | apply Kd.R_drew)); exact HO272.out)) k_ hk_))) (below_size (by repeat (first | (with_reducible first | exact HB.out | apply below_alloc | apply pw_below_drewN | apply below_drew1) | exact HB.out)))); have n2_ := Aside0.mk (below_step (by repeat (first | (with_reducible first | exact HB.out | apply below_alloc | apply pw_below_drewN | apply below_drew1) | exact HB.out)) hb); clear HO272; clear HB; have HO272 := n0_; have HO277 := n1_; have HB := n2_; clear n0_ n1_ n2_; (try clear hb); (try clear hb2); (try clear hk); (try clear hi); (try clear ho0); obtain ⟨Ao16, co16, eo16⟩ := Kd.V_slice HO277.out; subst eo16) | ((with_reducible refine gate_callee (f := 60) rfl ?_); refine goesL_ (some 25) rfl rfl Tryd.func60 (by kernel_rfl) rfl #[.slice Ao16 t275.length co16] rfl (by (try simp only [List.map_toArray, List.map_cons, List.map_nil]); first | done | rfl | (simp only [List.length_drop, List.length_take]; rfl)) ?_; (with_reducible refine (bolterref13_whole.calls _ _ t275 t278 t279 _ ?side1 ?side2 A10.out).mono ?_); (case side1 => repeat (first | exact (Kd.V_reads' HO277.out).2.2 | (with_reducible refine Kd.C_alloc ?_ _) | (with_reducible refine Kd.C_drewN ?_ _) | (with_reducible refine Kd.C_drew ?_))); (case side2 => exact (Kd.V_reads' HO277.out).2.1); rintro e w' ⟨rfl, ⟨nd, rfl⟩⟩; refine ⟨_, rfl, ?_⟩))
          go_ret2
          exact ⟨by first | rfl | (simp [errW_none, errW_some] <;> rfl) | (simp [*, errW_none, errW_some] <;> rfl), by repeat (first | (with_reducible first | exact HB.out | apply below_alloc | apply pw_below_drewN | apply below_drew1) | exact HB.out)⟩
        · rw [if_neg c8] at H
          exact absurd H (by simp)
      · rw [if_neg c7] at H
        exact absurd H (by simp)
    · replace c6 := Bool.eq_false_iff.mpr c6
      subst c6
      have H1 : ((conv_bytes63.f a0).bind fun t280 => ((bolterref13_whole.f t280).bind fun bt283 => (some (bt283.1, bt283.2)))) = some (r1, r2) := by rw [if_neg (show ¬ (false = true) by decide)] at H; exact H
      clear H
      have H := H1
      clear H1
      replace H := Option.bind_eq_some_iff.mp H
      obtain ⟨t280, A170, H⟩ := H
      replace H : ((bolterref13_whole.f t280).bind fun bt283 => (some (bt283.1, bt283.2))) = some (r1, r2) := H
      have A17 := Aside0.mk A170
      clear A170
      replace H := Option.bind_eq_some_iff.mp H
      obtain ⟨⟨t283, t284⟩, A180, H⟩ := H
      replace H : (some (t283, t284)) = some (r1, r2) := H
      have A18 := Aside0.mk A180
      clear A180
      simp only [Option.some.injEq, Prod.mk.injEq] at H
      obtain ⟨rfl, rfl⟩ := H
      go_enter Tryd.func25, Tryd.ntmps25
      go_wp2_with (first | ((with_reducible refine gate_dst (N := 9) rfl ?_); refine Kd.R_lit Kd.string _ 9 ?hg (N := 9) ?hd (xs := ([a0, a1] : List ByteArray)) (inner := [.string a0, .string a1]) (ok := fun _ => True) (okp := fun _ => True) ?hr ?hp (fun _ hk => hk) trivial (Below.refl _ _) (Nat.le_refl _) (by simp) ?_; (case hd => rfl); (case hg => rfl); (case hr => first | (go_simp; done) | (go_simp; rfl)); (case hp => exact (Reps.one (show Kd.M Kd.string _ _ _ a0 [.string a0] from rfl) (Reps.one (show Kd.M Kd.string _ _ _ a1 [.string a1] from rfl) (Reps.none _ _)))); intro v271 w19 ho20 hb hg_ hnew_; clear hg_ hnew_; (first | rw [← Ny270.out] at ho20 | (simp only [Int.reduceToNat] at ho20; rw [← Ny270.out] at ho20)); have n0_ := Aside0.mk (Kd.R_lower ho20 (below_size (by repeat (first | (with_reducible first | exact HB.out | apply below_alloc | apply pw_below_drewN | apply below_drew1) | exact HB.out)))); have n1_ := Aside0.mk (below_step (by repeat (first | (with_reducible first | exact HB.out | apply below_alloc | apply pw_below_drewN | apply below_drew1) | exact HB.out)) hb); clear HB; have HO272 := n0_; have HB := n1_; clear n0_ n1_; clear hb ho20; obtain ⟨Ao21, co21, eo21⟩ := Kd.R_slice HO272.out; subst eo21) | ((with_reducible refine gate_callee (f := 57) rfl ?_); refine goesL_ (some 10) rfl rfl Tryd.func57 (by kernel_rfl) rfl #[.slice Ao21 y270.length co21] rfl (by (try simp only [List.map_toArray, List.map_cons, List.map_nil]); first | done | rfl | (simp only [List.length_drop, List.length_take]; rfl)) ?_; (with_reducible refine (bolterref13_Checks.calls k _ _ y270 t273 _ ?side1 ?side2 A3.out).mono ?_); (case side1 => repeat (first | exact (Kd.R_reads' HO272.out).2.2 | (with_reducible refine Kd.C_alloc ?_ _) | (with_reducible refine Kd.C_drewN ?_ _) | (with_reducible refine Kd.C_drew ?_))); (case side2 => exact (Kd.R_reads' HO272.out).2.1); rintro e w22 ⟨rfl, hb⟩; refine ⟨_, rfl, ?_⟩; have n0_ := Aside0.mk (Kd.R_below (by (with_reducible repeat (first | apply Kd.R_alloc | apply Kd.R_drewN | apply Kd.R_drew)); exact HO272.out) hb); have n1_ := Aside0.mk (below_step (by repeat (first | (with_reducible first | exact HB.out | apply below_alloc | apply pw_below_drewN | apply below_drew1) | exact HB.out)) hb); clear HO272; clear HB; have HO272 := n0_; have HB := n1_; clear n0_ n1_; (try clear hb); (try clear hb2); (try clear hk); (try clear hi)) | ((with_reducible refine gate_callee (f := 58) rfl ?_); refine goesL_ (some 18) rfl rfl Tryd.func58 (by kernel_rfl) rfl #[.string a0, .string a1] rfl (by (try simp only [List.map_toArray, List.map_cons, List.map_nil]); first | done | rfl | (simp only [List.length_drop, List.length_take]; rfl)) ?_; (with_reducible refine (bolterref13_begins.calls a0 a1 false _ A5.out).mono ?_); rintro e w' ⟨rfl, ⟨nd, rfl⟩⟩; refine ⟨_, rfl, ?_⟩) | ((with_reducible refine gate_dst (N := 24) rfl ?_); refine conv_bytes63.op _ _ _ rfl rfl rfl A17.out ?_; intro v281 w23 ho0 hb; have n0_ := Aside0.mk (Kd.R_below (by (with_reducible repeat (first | apply Kd.R_alloc | apply Kd.R_drewN | apply Kd.R_drew)); exact HO272.out) hb); have n1_ := Aside0.mk (Kd.V_lower (Kd.V_mono (ok' := fun k_ => some k_ ≠ (.slice Ao21 y270.length co21 : Value).ownBlock) ho0 (fun k_ hk_ => (Kd.fresh' (Kd.R_lt (by (with_reducible repeat (first | apply Kd.R_alloc | apply Kd.R_drewN | apply Kd.R_drew)); exact HO272.out)) k_ hk_))) (below_size (by repeat (first | (with_reducible first | exact HB.out | apply below_alloc | apply pw_below_drewN | apply below_drew1) | exact HB.out)))); have n2_ := Aside0.mk (below_step (by repeat (first | (with_reducible first | exact HB.out | apply below_alloc | apply pw_below_drewN | apply below_drew1) | exact HB.out)) hb); clear HO272; clear HB; have HO272 := n0_; have HO282 := n1_; have HB := n2_; clear n0_ n1_ n2_; (try clear hb); (try clear hb2); (try clear hk); (try clear hi); (try clear ho0); obtain ⟨Ao24, co24, eo24⟩ := Kd.V_slice HO282.out; subst eo24) | ((with_reducible refine gate_callee (f := 60) rfl ?_); refine goesL_ (some 25) rfl rfl Tryd.func60 (by kernel_rfl) rfl #[.slice Ao24 t280.length co24] rfl (by (try simp only [List.map_toArray, List.map_cons, List.map_nil]); first | done | rfl | (simp only [List.length_drop, List.length_take]; rfl)) ?_; (with_reducible refine (bolterref13_whole.calls _ _ t280 t283 t284 _ ?side1 ?side2 A18.out).mono ?_); (case side1 => repeat (first | exact (Kd.V_reads' HO282.out).2.2 | (with_reducible refine Kd.C_alloc ?_ _) | (with_reducible refine Kd.C_drewN ?_ _) | (with_reducible refine Kd.C_drew ?_))); (case side2 => exact (Kd.V_reads' HO282.out).2.1); rintro e w' ⟨rfl, ⟨nd, rfl⟩⟩; refine ⟨_, rfl, ?_⟩))
      go_ret2
      exact ⟨by first | rfl | (simp [errW_none, errW_some] <;> rfl) | (simp [*, errW_none, errW_some] <;> rfl), by repeat (first | (with_reducible first | exact HB.out | apply below_alloc | apply pw_below_drewN | apply below_drew1) | exact HB.out)⟩
  · rw [if_neg c4] at H
    have c4b0 : (t273 == 0) = false := beq_eq_false_iff_ne.mpr c4
    have c4b1 : (t273 != 0) = true := bne_iff_ne.mpr c4
    simp only [Option.some.injEq, Prod.mk.injEq] at H
    obtain ⟨rfl, rfl⟩ := H
    go_enter Tryd.func25, Tryd.ntmps25
    go_wp2_with (first | ((with_reducible refine gate_dst (N := 9) rfl ?_); refine Kd.R_lit Kd.string _ 9 ?hg (N := 9) ?hd (xs := ([a0, a1] : List ByteArray)) (inner := [.string a0, .string a1]) (ok := fun _ => True) (okp := fun _ => True) ?hr ?hp (fun _ hk => hk) trivial (Below.refl _ _) (Nat.le_refl _) (by simp) ?_; (case hd => rfl); (case hg => rfl); (case hr => first | (go_simp; done) | (go_simp; rfl)); (case hp => exact (Reps.one (show Kd.M Kd.string _ _ _ a0 [.string a0] from rfl) (Reps.one (show Kd.M Kd.string _ _ _ a1 [.string a1] from rfl) (Reps.none _ _)))); intro v271 w25 ho26 hb hg_ hnew_; clear hg_ hnew_; (first | rw [← Ny270.out] at ho26 | (simp only [Int.reduceToNat] at ho26; rw [← Ny270.out] at ho26)); have n0_ := Aside0.mk (Kd.R_lower ho26 (below_size (by repeat (first | (with_reducible first | exact HB.out | apply below_alloc | apply pw_below_drewN | apply below_drew1) | exact HB.out)))); have n1_ := Aside0.mk (below_step (by repeat (first | (with_reducible first | exact HB.out | apply below_alloc | apply pw_below_drewN | apply below_drew1) | exact HB.out)) hb); clear HB; have HO272 := n0_; have HB := n1_; clear n0_ n1_; clear hb ho26; obtain ⟨Ao27, co27, eo27⟩ := Kd.R_slice HO272.out; subst eo27) | ((with_reducible refine gate_callee (f := 57) rfl ?_); refine goesL_ (some 10) rfl rfl Tryd.func57 (by kernel_rfl) rfl #[.slice Ao27 y270.length co27] rfl (by (try simp only [List.map_toArray, List.map_cons, List.map_nil]); first | done | rfl | (simp only [List.length_drop, List.length_take]; rfl)) ?_; (with_reducible refine (bolterref13_Checks.calls k _ _ y270 t273 _ ?side1 ?side2 A3.out).mono ?_); (case side1 => repeat (first | exact (Kd.R_reads' HO272.out).2.2 | (with_reducible refine Kd.C_alloc ?_ _) | (with_reducible refine Kd.C_drewN ?_ _) | (with_reducible refine Kd.C_drew ?_))); (case side2 => exact (Kd.R_reads' HO272.out).2.1); rintro e w28 ⟨rfl, hb⟩; refine ⟨_, rfl, ?_⟩; have n0_ := Aside0.mk (Kd.R_below (by (with_reducible repeat (first | apply Kd.R_alloc | apply Kd.R_drewN | apply Kd.R_drew)); exact HO272.out) hb); have n1_ := Aside0.mk (below_step (by repeat (first | (with_reducible first | exact HB.out | apply below_alloc | apply pw_below_drewN | apply below_drew1) | exact HB.out)) hb); clear HO272; clear HB; have HO272 := n0_; have HB := n1_; clear n0_ n1_; (try clear hb); (try clear hb2); (try clear hk); (try clear hi)))
    go_ret2
    exact ⟨by first | rfl | (simp [errW_none, errW_some] <;> rfl) | (simp [*, errW_none, errW_some] <;> rfl), by repeat (first | (with_reducible first | exact HB.out | apply below_alloc | apply pw_below_drewN | apply below_drew1) | exact HB.out)⟩
def bolterref13_TrimRight.f (k : Nat) (a0 : ByteArray) (a1 : ByteArray) : Option (ByteArray × Int) := (bolterref13_Checks.f k (([a0, a1] : List ByteArray))).bind fun t288 => (if t288 = 0 then ((bolterref13_ends.f a0 a1).bind fun t289 => (if t289 = true then (if 0 ≤ (wrap64 ((a0.size : Int) - (a1.size : Int))) then (if (wrap64 ((a0.size : Int) - (a1.size : Int))) ≤ (a0.size : Int) then ((conv_bytes63.f (a0.extract 0 ((wrap64 ((a0.size : Int) - (a1.size : Int))) : Int).toNat)).bind fun t290 => ((bolterref13_whole.f t290).bind fun bt293 => (some (bt293.1, bt293.2)))) else (none)) else (none)) else ((conv_bytes63.f a0).bind fun t295 => ((bolterref13_whole.f t295).bind fun bt298 => (some (bt298.1, bt298.2)))))) else (some ((⟨#[]⟩ : ByteArray), t288)))
set_option maxHeartbeats 8000000 in
set_option maxRecDepth 100000 in
theorem bolterref13_TrimRight.calls (k : Nat) (a0 : ByteArray) (a1 : ByteArray) (r1 : ByteArray) (r2 : Int) (w : World) (h : bolterref13_TrimRight.f k a0 a1 = some (r1, r2)) :
    Calls Tryd.prog 26 #[.string a0, .string a1] w fun e w' => e = .returned (.tuple #[.string r1, .int .i64 r2]) ∧ Below w.heap.size w w' := by
  have HB := Aside0.mk (Below.refl w.heap.size w)
  have H : ((bolterref13_Checks.f k (([a0, a1] : List ByteArray))).bind fun t288 => (if t288 = 0 then ((bolterref13_ends.f a0 a1).bind fun t289 => (if t289 = true then (if 0 ≤ (wrap64 ((a0.size : Int) - (a1.size : Int))) then (if (wrap64 ((a0.size : Int) - (a1.size : Int))) ≤ (a0.size : Int) then ((conv_bytes63.f (a0.extract 0 ((wrap64 ((a0.size : Int) - (a1.size : Int))) : Int).toNat)).bind fun t290 => ((bolterref13_whole.f t290).bind fun bt293 => (some (bt293.1, bt293.2)))) else (none)) else (none)) else ((conv_bytes63.f a0).bind fun t295 => ((bolterref13_whole.f t295).bind fun bt298 => (some (bt298.1, bt298.2)))))) else (some ((⟨#[]⟩ : ByteArray), t288)))) = some (r1, r2) := h
  clear h
  obtain ⟨y285, hy285⟩ : ∃ y_ : List ByteArray, y_ = (([a0, a1] : List ByteArray)) := ⟨_, rfl⟩
  replace H : ((bolterref13_Checks.f k y285).bind fun t288 => (if t288 = 0 then ((bolterref13_ends.f a0 a1).bind fun t289 => (if t289 = true then (if 0 ≤ (wrap64 ((a0.size : Int) - (a1.size : Int))) then (if (wrap64 ((a0.size : Int) - (a1.size : Int))) ≤ (a0.size : Int) then ((conv_bytes63.f (a0.extract 0 ((wrap64 ((a0.size : Int) - (a1.size : Int))) : Int).toNat)).bind fun t290 => ((bolterref13_whole.f t290).bind fun bt293 => (some (bt293.1, bt293.2)))) else (none)) else (none)) else ((conv_bytes63.f a0).bind fun t295 => ((bolterref13_whole.f t295).bind fun bt298 => (some (bt298.1, bt298.2)))))) else (some ((⟨#[]⟩ : ByteArray), t288)))) = some (r1, r2) := by first | (rw [hy285]; with_reducible exact H) | (have H2_ := (Option.bind_some _ _).symm.trans H; rw [hy285]; with_reducible exact H2_) | (have H2_ := (Option.bind_some _ _).symm.trans H; with_reducible exact H2_) | with_reducible exact H | (rw [hy285]; exact H) | exact H
  have Ny285 := Aside0.mk hy285
  clear hy285
  replace H := Option.bind_eq_some_iff.mp H
  obtain ⟨t288, A30, H⟩ := H
  replace H : (if t288 = 0 then ((bolterref13_ends.f a0 a1).bind fun t289 => (if t289 = true then (if 0 ≤ (wrap64 ((a0.size : Int) - (a1.size : Int))) then (if (wrap64 ((a0.size : Int) - (a1.size : Int))) ≤ (a0.size : Int) then ((conv_bytes63.f (a0.extract 0 ((wrap64 ((a0.size : Int) - (a1.size : Int))) : Int).toNat)).bind fun t290 => ((bolterref13_whole.f t290).bind fun bt293 => (some (bt293.1, bt293.2)))) else (none)) else (none)) else ((conv_bytes63.f a0).bind fun t295 => ((bolterref13_whole.f t295).bind fun bt298 => (some (bt298.1, bt298.2)))))) else (some ((⟨#[]⟩ : ByteArray), t288))) = some (r1, r2) := H
  have A3 := Aside0.mk A30
  clear A30
  by_cases c4 : t288 = 0
  · rw [if_pos c4] at H
    have c4b0 : (t288 == 0) = true := beq_iff_eq.mpr c4
    have c4b1 : (t288 != 0) = false := bne_eq_false_iff_eq.mpr c4
    clear c4
    replace H := Option.bind_eq_some_iff.mp H
    obtain ⟨t289, A50, H⟩ := H
    replace H : (if t289 = true then (if 0 ≤ (wrap64 ((a0.size : Int) - (a1.size : Int))) then (if (wrap64 ((a0.size : Int) - (a1.size : Int))) ≤ (a0.size : Int) then ((conv_bytes63.f (a0.extract 0 ((wrap64 ((a0.size : Int) - (a1.size : Int))) : Int).toNat)).bind fun t290 => ((bolterref13_whole.f t290).bind fun bt293 => (some (bt293.1, bt293.2)))) else (none)) else (none)) else ((conv_bytes63.f a0).bind fun t295 => ((bolterref13_whole.f t295).bind fun bt298 => (some (bt298.1, bt298.2))))) = some (r1, r2) := H
    have A5 := Aside0.mk A50
    clear A50
    by_cases c6 : t289 = true
    · subst c6
      have H1 : (if 0 ≤ (wrap64 ((a0.size : Int) - (a1.size : Int))) then (if (wrap64 ((a0.size : Int) - (a1.size : Int))) ≤ (a0.size : Int) then ((conv_bytes63.f (a0.extract 0 ((wrap64 ((a0.size : Int) - (a1.size : Int))) : Int).toNat)).bind fun t290 => ((bolterref13_whole.f t290).bind fun bt293 => (some (bt293.1, bt293.2)))) else (none)) else (none)) = some (r1, r2) := by rw [if_pos rfl] at H; exact H
      clear H
      have H := H1
      clear H1
      obtain ⟨ji7, hji7⟩ : ∃ j_ : Int, (wrap64 ((a0.size : Int) - (a1.size : Int))) = j_ := ⟨_, rfl⟩
      replace H : (if 0 ≤ (ji7) then (if (ji7) ≤ (a0.size : Int) then ((conv_bytes63.f (a0.extract 0 ((ji7) : Int).toNat)).bind fun t290 => ((bolterref13_whole.f t290).bind fun bt293 => (some (bt293.1, bt293.2)))) else (none)) else (none)) = some (r1, r2) := by first | (rw [hji7] at H; exact H) | (simp only [hji7] at H ⊢; exact H)
      (try rw [hji7] at A3)
      (try rw [hji7] at A5)
      have hji7w : (IntKind.i64.wrap ((a0.size : Int) - (a1.size : Int))) = ji7 := (i64_w _).trans hji7
      by_cases c8 : 0 ≤ (ji7)
      · rw [if_pos c8] at H
        have c8b0 := eq_true c8
        have c8b1 : decide (0 ≤ (ji7)) = true := decide_eq_true c8
        clear c8
        by_cases c9 : (ji7) ≤ (a0.size : Int)
        · rw [if_pos c9] at H
          have c9b0 := eq_true c9
          have c9b1 : decide ((ji7) ≤ (a0.size : Int)) = true := decide_eq_true c9
          clear c9
          replace H := Option.bind_eq_some_iff.mp H
          obtain ⟨t290, A100, H⟩ := H
          replace H : ((bolterref13_whole.f t290).bind fun bt293 => (some (bt293.1, bt293.2))) = some (r1, r2) := H
          have A10 := Aside0.mk A100
          clear A100
          replace H := Option.bind_eq_some_iff.mp H
          obtain ⟨⟨t293, t294⟩, A110, H⟩ := H
          replace H : (some (t293, t294)) = some (r1, r2) := H
          have A11 := Aside0.mk A110
          clear A110
          simp only [Option.some.injEq, Prod.mk.injEq] at H
          obtain ⟨rfl, rfl⟩ := H
          go_enter Tryd.func26, Tryd.ntmps26
          go_wp2_with (first | ((with_reducible refine gate_dst (N := 9) rfl ?_); refine Kd.R_lit Kd.string _ 9 ?hg (N := 9) ?hd (xs := ([a0, a1] : List ByteArray)) (inner := [.string a0, .string a1]) (ok := fun _ => True) (okp := fun _ => True) ?hr ?hp (fun _ hk => hk) trivial (Below.refl _ _) (Nat.le_refl _) (by simp) ?_; (case hd => rfl); (case hg => rfl); (case hr => first | (go_simp; done) | (go_simp; rfl)); (case hp => exact (Reps.one (show Kd.M Kd.string _ _ _ a0 [.string a0] from rfl) (Reps.one (show Kd.M Kd.string _ _ _ a1 [.string a1] from rfl) (Reps.none _ _)))); intro v286 w12 ho13 hb hg_ hnew_; clear hg_ hnew_; (first | rw [← Ny285.out] at ho13 | (simp only [Int.reduceToNat] at ho13; rw [← Ny285.out] at ho13)); have n0_ := Aside0.mk (Kd.R_lower ho13 (below_size (by repeat (first | (with_reducible first | exact HB.out | apply below_alloc | apply pw_below_drewN | apply below_drew1) | exact HB.out)))); have n1_ := Aside0.mk (below_step (by repeat (first | (with_reducible first | exact HB.out | apply below_alloc | apply pw_below_drewN | apply below_drew1) | exact HB.out)) hb); clear HB; have HO287 := n0_; have HB := n1_; clear n0_ n1_; clear hb ho13; obtain ⟨Ao14, co14, eo14⟩ := Kd.R_slice HO287.out; subst eo14) | ((with_reducible refine gate_callee (f := 57) rfl ?_); refine goesL_ (some 10) rfl rfl Tryd.func57 (by kernel_rfl) rfl #[.slice Ao14 y285.length co14] rfl (by (try simp only [List.map_toArray, List.map_cons, List.map_nil]); first | done | rfl | (simp only [List.length_drop, List.length_take]; rfl)) ?_; (with_reducible refine (bolterref13_Checks.calls k _ _ y285 t288 _ ?side1 ?side2 A3.out).mono ?_); (case side1 => repeat (first | exact (Kd.R_reads' HO287.out).2.2 | (with_reducible refine Kd.C_alloc ?_ _) | (with_reducible refine Kd.C_drewN ?_ _) | (with_reducible refine Kd.C_drew ?_))); (case side2 => exact (Kd.R_reads' HO287.out).2.1); rintro e w15 ⟨rfl, hb⟩; refine ⟨_, rfl, ?_⟩; have n0_ := Aside0.mk (Kd.R_below (by (with_reducible repeat (first | apply Kd.R_alloc | apply Kd.R_drewN | apply Kd.R_drew)); exact HO287.out) hb); have n1_ := Aside0.mk (below_step (by repeat (first | (with_reducible first | exact HB.out | apply below_alloc | apply pw_below_drewN | apply below_drew1) | exact HB.out)) hb); clear HO287; clear HB; have HO287 := n0_; have HB := n1_; clear n0_ n1_; (try clear hb); (try clear hb2); (try clear hk); (try clear hi)) | ((with_reducible refine gate_callee (f := 59) rfl ?_); refine goesL_ (some 18) rfl rfl Tryd.func59 (by kernel_rfl) rfl #[.string a0, .string a1] rfl (by (try simp only [List.map_toArray, List.map_cons, List.map_nil]); first | done | rfl | (simp only [List.length_drop, List.length_take]; rfl)) ?_; (with_reducible refine (bolterref13_ends.calls a0 a1 true _ A5.out).mono ?_); rintro e w' ⟨rfl, ⟨nd, rfl⟩⟩; refine ⟨_, rfl, ?_⟩) | ((with_reducible refine gate_dst (N := 27) rfl ?_); refine conv_bytes63.op _ _ _ rfl rfl rfl A10.out ?_; intro v291 w16 ho0 hb; have n0_ := Aside0.mk (Kd.R_below (by (with_reducible repeat (first | apply Kd.R_alloc | apply Kd.R_drewN | apply Kd.R_drew)); exact HO287.out) hb); have n1_ := Aside0.mk (Kd.V_lower (Kd.V_mono (ok' := fun k_ => some k_ ≠ (.slice Ao14 y285.length co14 : Value).ownBlock) ho0 (fun k_ hk_ => (Kd.fresh' (Kd.R_lt (by (with_reducible repeat (first | apply Kd.R_alloc | apply Kd.R_drewN | apply Kd.R_drew)); exact HO287.out)) k_ hk_))) (below_size (by repeat (first | (with_reducible first | exact HB.out | apply below_alloc | apply pw_below_drewN | apply below_drew1) | exact HB.out)))); have n2_ := Aside0.mk (below_step (by repeat (first | (with_reducible first | exact HB.out | apply below_alloc | apply pw_below_drewN | apply below_drew1) | exact HB.out)) hb); clear HO287; clear HB; have HO287 := n0_; have HO292 := n1_; have HB := n2_; clear n0_ n1_ n2_; (try clear hb); (try clear hb2); (try clear hk); (try clear hi); (try clear ho0); obtain ⟨Ao17, co17, eo17⟩ := Kd.V_slice HO292.out; subst eo17) | ((with_reducible refine gate_callee (f := 60) rfl ?_); refine goesL_ (some 28) rfl rfl Tryd.func60 (by kernel_rfl) rfl #[.slice Ao17 t290.length co17] rfl (by (try simp only [List.map_toArray, List.map_cons, List.map_nil]); first | done | rfl | (simp only [List.length_drop, List.length_take]; rfl)) ?_; (with_reducible refine (bolterref13_whole.calls _ _ t290 t293 t294 _ ?side1 ?side2 A11.out).mono ?_); (case side1 => repeat (first | exact (Kd.V_reads' HO292.out).2.2 | (with_reducible refine Kd.C_alloc ?_ _) | (with_reducible refine Kd.C_drewN ?_ _) | (with_reducible refine Kd.C_drew ?_))); (case side2 => exact (Kd.V_reads' HO292.out).2.1); rintro e w' ⟨rfl, ⟨nd, rfl⟩⟩; refine ⟨_, rfl, ?_⟩))
          go_ret2
          exact ⟨by first | rfl | (simp [errW_none, errW_some] <;> rfl) | (simp only [← hji7]; first | rfl | (simp [errW_none, errW_some] <;> rfl)) | (simp [*, errW_none, errW_some] <;> rfl), by repeat (first | (with_reducible first | exact HB.out | apply below_alloc | apply pw_below_drewN | apply below_drew1) | exact HB.out)⟩
        · rw [if_neg c9] at H
          exact absurd H (by simp)
      · rw [if_neg c8] at H
        exact absurd H (by simp)
    · replace c6 := Bool.eq_false_iff.mpr c6
      subst c6
      have H1 : ((conv_bytes63.f a0).bind fun t295 => ((bolterref13_whole.f t295).bind fun bt298 => (some (bt298.1, bt298.2)))) = some (r1, r2) := by rw [if_neg (show ¬ (false = true) by decide)] at H; exact H
      clear H
      have H := H1
      clear H1
      replace H := Option.bind_eq_some_iff.mp H
      obtain ⟨t295, A180, H⟩ := H
      replace H : ((bolterref13_whole.f t295).bind fun bt298 => (some (bt298.1, bt298.2))) = some (r1, r2) := H
      have A18 := Aside0.mk A180
      clear A180
      replace H := Option.bind_eq_some_iff.mp H
      obtain ⟨⟨t298, t299⟩, A190, H⟩ := H
      replace H : (some (t298, t299)) = some (r1, r2) := H
      have A19 := Aside0.mk A190
      clear A190
      simp only [Option.some.injEq, Prod.mk.injEq] at H
      obtain ⟨rfl, rfl⟩ := H
      go_enter Tryd.func26, Tryd.ntmps26
      go_wp2_with (first | ((with_reducible refine gate_dst (N := 9) rfl ?_); refine Kd.R_lit Kd.string _ 9 ?hg (N := 9) ?hd (xs := ([a0, a1] : List ByteArray)) (inner := [.string a0, .string a1]) (ok := fun _ => True) (okp := fun _ => True) ?hr ?hp (fun _ hk => hk) trivial (Below.refl _ _) (Nat.le_refl _) (by simp) ?_; (case hd => rfl); (case hg => rfl); (case hr => first | (go_simp; done) | (go_simp; rfl)); (case hp => exact (Reps.one (show Kd.M Kd.string _ _ _ a0 [.string a0] from rfl) (Reps.one (show Kd.M Kd.string _ _ _ a1 [.string a1] from rfl) (Reps.none _ _)))); intro v286 w20 ho21 hb hg_ hnew_; clear hg_ hnew_; (first | rw [← Ny285.out] at ho21 | (simp only [Int.reduceToNat] at ho21; rw [← Ny285.out] at ho21)); have n0_ := Aside0.mk (Kd.R_lower ho21 (below_size (by repeat (first | (with_reducible first | exact HB.out | apply below_alloc | apply pw_below_drewN | apply below_drew1) | exact HB.out)))); have n1_ := Aside0.mk (below_step (by repeat (first | (with_reducible first | exact HB.out | apply below_alloc | apply pw_below_drewN | apply below_drew1) | exact HB.out)) hb); clear HB; have HO287 := n0_; have HB := n1_; clear n0_ n1_; clear hb ho21; obtain ⟨Ao22, co22, eo22⟩ := Kd.R_slice HO287.out; subst eo22) | ((with_reducible refine gate_callee (f := 57) rfl ?_); refine goesL_ (some 10) rfl rfl Tryd.func57 (by kernel_rfl) rfl #[.slice Ao22 y285.length co22] rfl (by (try simp only [List.map_toArray, List.map_cons, List.map_nil]); first | done | rfl | (simp only [List.length_drop, List.length_take]; rfl)) ?_; (with_reducible refine (bolterref13_Checks.calls k _ _ y285 t288 _ ?side1 ?side2 A3.out).mono ?_); (case side1 => repeat (first | exact (Kd.R_reads' HO287.out).2.2 | (with_reducible refine Kd.C_alloc ?_ _) | (with_reducible refine Kd.C_drewN ?_ _) | (with_reducible refine Kd.C_drew ?_))); (case side2 => exact (Kd.R_reads' HO287.out).2.1); rintro e w23 ⟨rfl, hb⟩; refine ⟨_, rfl, ?_⟩; have n0_ := Aside0.mk (Kd.R_below (by (with_reducible repeat (first | apply Kd.R_alloc | apply Kd.R_drewN | apply Kd.R_drew)); exact HO287.out) hb); have n1_ := Aside0.mk (below_step (by repeat (first | (with_reducible first | exact HB.out | apply below_alloc | apply pw_below_drewN | apply below_drew1) | exact HB.out)) hb); clear HO287; clear HB; have HO287 := n0_; have HB := n1_; clear n0_ n1_; (try clear hb); (try clear hb2); (try clear hk); (try clear hi)) | ((with_reducible refine gate_callee (f := 59) rfl ?_); refine goesL_ (some 18) rfl rfl Tryd.func59 (by kernel_rfl) rfl #[.string a0, .string a1] rfl (by (try simp only [List.map_toArray, List.map_cons, List.map_nil]); first | done | rfl | (simp only [List.length_drop, List.length_take]; rfl)) ?_; (with_reducible refine (bolterref13_ends.calls a0 a1 false _ A5.out).mono ?_); rintro e w' ⟨rfl, ⟨nd, rfl⟩⟩; refine ⟨_, rfl, ?_⟩) | ((with_reducible refine gate_dst (N := 27) rfl ?_); refine conv_bytes63.op _ _ _ rfl rfl rfl A18.out ?_; intro v296 w24 ho0 hb; have n0_ := Aside0.mk (Kd.R_below (by (with_reducible repeat (first | apply Kd.R_alloc | apply Kd.R_drewN | apply Kd.R_drew)); exact HO287.out) hb); have n1_ := Aside0.mk (Kd.V_lower (Kd.V_mono (ok' := fun k_ => some k_ ≠ (.slice Ao22 y285.length co22 : Value).ownBlock) ho0 (fun k_ hk_ => (Kd.fresh' (Kd.R_lt (by (with_reducible repeat (first | apply Kd.R_alloc | apply Kd.R_drewN | apply Kd.R_drew)); exact HO287.out)) k_ hk_))) (below_size (by repeat (first | (with_reducible first | exact HB.out | apply below_alloc | apply pw_below_drewN | apply below_drew1) | exact HB.out)))); have n2_ := Aside0.mk (below_step (by repeat (first | (with_reducible first | exact HB.out | apply below_alloc | apply pw_below_drewN | apply below_drew1) | exact HB.out)) hb); clear HO287; clear HB; have HO287 := n0_; have HO297 := n1_; have HB := n2_; clear n0_ n1_ n2_; (try clear hb); (try clear hb2); (try clear hk); (try clear hi); (try clear ho0); obtain ⟨Ao25, co25, eo25⟩ := Kd.V_slice HO297.out; subst eo25) | ((with_reducible refine gate_callee (f := 60) rfl ?_); refine goesL_ (some 28) rfl rfl Tryd.func60 (by kernel_rfl) rfl #[.slice Ao25 t295.length co25] rfl (by (try simp only [List.map_toArray, List.map_cons, List.map_nil]); first | done | rfl | (simp only [List.length_drop, List.length_take]; rfl)) ?_; (with_reducible refine (bolterref13_whole.calls _ _ t295 t298 t299 _ ?side1 ?side2 A19.out).mono ?_); (case side1 => repeat (first | exact (Kd.V_reads' HO297.out).2.2 | (with_reducible refine Kd.C_alloc ?_ _) | (with_reducible refine Kd.C_drewN ?_ _) | (with_reducible refine Kd.C_drew ?_))); (case side2 => exact (Kd.V_reads' HO297.out).2.1); rintro e w' ⟨rfl, ⟨nd, rfl⟩⟩; refine ⟨_, rfl, ?_⟩))
      go_ret2
      exact ⟨by first | rfl | (simp [errW_none, errW_some] <;> rfl) | (simp [*, errW_none, errW_some] <;> rfl), by repeat (first | (with_reducible first | exact HB.out | apply below_alloc | apply pw_below_drewN | apply below_drew1) | exact HB.out)⟩
  · rw [if_neg c4] at H
    have c4b0 : (t288 == 0) = false := beq_eq_false_iff_ne.mpr c4
    have c4b1 : (t288 != 0) = true := bne_iff_ne.mpr c4
    simp only [Option.some.injEq, Prod.mk.injEq] at H
    obtain ⟨rfl, rfl⟩ := H
    go_enter Tryd.func26, Tryd.ntmps26
    go_wp2_with (first | ((with_reducible refine gate_dst (N := 9) rfl ?_); refine Kd.R_lit Kd.string _ 9 ?hg (N := 9) ?hd (xs := ([a0, a1] : List ByteArray)) (inner := [.string a0, .string a1]) (ok := fun _ => True) (okp := fun _ => True) ?hr ?hp (fun _ hk => hk) trivial (Below.refl _ _) (Nat.le_refl _) (by simp) ?_; (case hd => rfl); (case hg => rfl); (case hr => first | (go_simp; done) | (go_simp; rfl)); (case hp => exact (Reps.one (show Kd.M Kd.string _ _ _ a0 [.string a0] from rfl) (Reps.one (show Kd.M Kd.string _ _ _ a1 [.string a1] from rfl) (Reps.none _ _)))); intro v286 w26 ho27 hb hg_ hnew_; clear hg_ hnew_; (first | rw [← Ny285.out] at ho27 | (simp only [Int.reduceToNat] at ho27; rw [← Ny285.out] at ho27)); have n0_ := Aside0.mk (Kd.R_lower ho27 (below_size (by repeat (first | (with_reducible first | exact HB.out | apply below_alloc | apply pw_below_drewN | apply below_drew1) | exact HB.out)))); have n1_ := Aside0.mk (below_step (by repeat (first | (with_reducible first | exact HB.out | apply below_alloc | apply pw_below_drewN | apply below_drew1) | exact HB.out)) hb); clear HB; have HO287 := n0_; have HB := n1_; clear n0_ n1_; clear hb ho27; obtain ⟨Ao28, co28, eo28⟩ := Kd.R_slice HO287.out; subst eo28) | ((with_reducible refine gate_callee (f := 57) rfl ?_); refine goesL_ (some 10) rfl rfl Tryd.func57 (by kernel_rfl) rfl #[.slice Ao28 y285.length co28] rfl (by (try simp only [List.map_toArray, List.map_cons, List.map_nil]); first | done | rfl | (simp only [List.length_drop, List.length_take]; rfl)) ?_; (with_reducible refine (bolterref13_Checks.calls k _ _ y285 t288 _ ?side1 ?side2 A3.out).mono ?_); (case side1 => repeat (first | exact (Kd.R_reads' HO287.out).2.2 | (with_reducible refine Kd.C_alloc ?_ _) | (with_reducible refine Kd.C_drewN ?_ _) | (with_reducible refine Kd.C_drew ?_))); (case side2 => exact (Kd.R_reads' HO287.out).2.1); rintro e w29 ⟨rfl, hb⟩; refine ⟨_, rfl, ?_⟩; have n0_ := Aside0.mk (Kd.R_below (by (with_reducible repeat (first | apply Kd.R_alloc | apply Kd.R_drewN | apply Kd.R_drew)); exact HO287.out) hb); have n1_ := Aside0.mk (below_step (by repeat (first | (with_reducible first | exact HB.out | apply below_alloc | apply pw_below_drewN | apply below_drew1) | exact HB.out)) hb); clear HO287; clear HB; have HO287 := n0_; have HB := n1_; clear n0_ n1_; (try clear hb); (try clear hb2); (try clear hk); (try clear hi)))
    go_ret2
    exact ⟨by first | rfl | (simp [errW_none, errW_some] <;> rfl) | (simp [*, errW_none, errW_some] <;> rfl), by repeat (first | (with_reducible first | exact HB.out | apply below_alloc | apply pw_below_drewN | apply below_drew1) | exact HB.out)⟩
end Go.Proofs.YtdhjdddjgcfhkaaDoor.B

end

section
namespace Go.Proofs.YtdhjdddjgcfhkaaDoor.B
open Go.RowKit Go.Proofs.YtdhjdddjgcfhkaaDoorW.PrintWords Go.Proofs.YtdhjdddjgcfhkaaDoorW.PrintLast Go.Proofs.YtdhjdddjgcfhkaaDoorW.PrintMore
attribute [local go_sem] max2_int min2_int max_two min_two max_three min_three max_four min_four   -- for this text's walks alone
set_option linter.unusedVariables false
set_option linter.unusedSimpArgs false

def bolterref13_Repeat.l0 : Nat → ByteArray → Int → List Int → Int → Option (ByteArray × Int)
  | 0, _, _, _, _ => none
  | k + 1, x0, x1, x7, x8 => if x8 < x1 then (if (x0.size : Int) > 0 then (if (x7.length : Int) ≤ 16384 then (if x7.length + x0.size < 140737488355328 then (bolterref13_Repeat.l0 k x0 x1 (x7 ++ bytesOf x0) (wrap64 (x8 + 1))) else (none)) else ((bolterref13_whole.f x7).bind fun bt307 => (some (bt307.1, bt307.2)))) else ((bolterref13_whole.f x7).bind fun bt309 => (some (bt309.1, bt309.2)))) else ((bolterref13_whole.f x7).bind fun bt311 => (some (bt311.1, bt311.2)))
def bolterref13_Repeat.f (k : Nat) (a0 : ByteArray) (a1 : Int) : Option (ByteArray × Int) := (bolterref13_Checks.f k (([a0] : List ByteArray))).bind fun t303 => (if t303 = 0 then (bolterref13_Repeat.l0 k a0 a1 ([] : List Int) 0) else (some ((⟨#[]⟩ : ByteArray), t303)))
set_option maxHeartbeats 8000000 in
set_option maxRecDepth 100000 in
theorem bolterref13_Repeat.calls (k : Nat) (a0 : ByteArray) (a1 : Int) (r1 : ByteArray) (r2 : Int) (w : World) (h : bolterref13_Repeat.f k a0 a1 = some (r1, r2)) :
    Calls Tryd.prog 27 #[.string a0, .int .i64 a1] w fun e w' => e = .returned (.tuple #[.string r1, .int .i64 r2]) ∧ Below w.heap.size w w' := by
  have HB := Aside0.mk (Below.refl w.heap.size w)
  have H : ((bolterref13_Checks.f k (([a0] : List ByteArray))).bind fun t303 => (if t303 = 0 then (bolterref13_Repeat.l0 k a0 a1 ([] : List Int) 0) else (some ((⟨#[]⟩ : ByteArray), t303)))) = some (r1, r2) := h
  clear h
  obtain ⟨y300, hy300⟩ : ∃ y_ : List ByteArray, y_ = (([a0] : List ByteArray)) := ⟨_, rfl⟩
  replace H : ((bolterref13_Checks.f k y300).bind fun t303 => (if t303 = 0 then (bolterref13_Repeat.l0 k a0 a1 ([] : List Int) 0) else (some ((⟨#[]⟩ : ByteArray), t303)))) = some (r1, r2) := by first | (rw [hy300]; with_reducible exact H) | (have H2_ := (Option.bind_some _ _).symm.trans H; rw [hy300]; with_reducible exact H2_) | (have H2_ := (Option.bind_some _ _).symm.trans H; with_reducible exact H2_) | with_reducible exact H | (rw [hy300]; exact H) | exact H
  have Ny300 := Aside0.mk hy300
  clear hy300
  replace H := Option.bind_eq_some_iff.mp H
  obtain ⟨t303, A30, H⟩ := H
  replace H : (if t303 = 0 then (bolterref13_Repeat.l0 k a0 a1 ([] : List Int) 0) else (some ((⟨#[]⟩ : ByteArray), t303))) = some (r1, r2) := H
  have A3 := Aside0.mk A30
  clear A30
  by_cases c4 : t303 = 0
  · rw [if_pos c4] at H
    have c4b0 : (t303 == 0) = true := beq_iff_eq.mpr c4
    have c4b1 : (t303 != 0) = false := bne_eq_false_iff_eq.mpr c4
    clear c4
    have H' := Aside0.mk H
    clear H
    go_enter Tryd.func27, Tryd.ntmps27
    go_wp2_with (first | ((with_reducible refine gate_dst (N := 10) rfl ?_); (try (refine gate_guard (by rfl) ?_; dsimp only)); refine Kd.R_lit Kd.string _ 9 ?hg (N := 10) ?hd (xs := ([a0] : List ByteArray)) (inner := [.string a0]) (ok := fun _ => True) (okp := fun _ => True) ?hr ?hp (fun _ hk => hk) trivial (Below.refl _ _) (Nat.le_refl _) (by simp) ?_; (case hd => rfl); (case hg => rfl); (case hr => first | (go_simp; done) | (go_simp; rfl)); (case hp => exact (Reps.one (show Kd.M Kd.string _ _ _ a0 [.string a0] from rfl) (Reps.none _ _))); intro v301 w5 ho6 hb hg_ hnew_; clear hg_ hnew_; (first | rw [← Ny300.out] at ho6 | (simp only [Int.reduceToNat] at ho6; rw [← Ny300.out] at ho6)); have n0_ := Aside0.mk (Kd.R_lower ho6 (below_size (by repeat (first | (with_reducible first | exact HB.out | apply below_alloc | apply pw_below_drewN | apply below_drew1) | exact HB.out)))); have n1_ := Aside0.mk (below_step (by repeat (first | (with_reducible first | exact HB.out | apply below_alloc | apply pw_below_drewN | apply below_drew1) | exact HB.out)) hb); clear HB; have HO302 := n0_; have HB := n1_; clear n0_ n1_; clear hb ho6; obtain ⟨Ao7, co7, eo7⟩ := Kd.R_slice HO302.out; subst eo7) | ((with_reducible refine gate_callee (f := 57) rfl ?_); refine goesL_ (some 11) rfl rfl Tryd.func57 (by kernel_rfl) rfl #[.slice Ao7 y300.length co7] rfl (by (try simp only [List.map_toArray, List.map_cons, List.map_nil]); first | done | rfl | (simp only [List.length_drop, List.length_take]; rfl)) ?_; (with_reducible refine (bolterref13_Checks.calls k _ _ y300 t303 _ ?side1 ?side2 A3.out).mono ?_); (case side1 => repeat (first | exact (Kd.R_reads' HO302.out).2.2 | (with_reducible refine Kd.C_alloc ?_ _) | (with_reducible refine Kd.C_drewN ?_ _) | (with_reducible refine Kd.C_drew ?_))); (case side2 => exact (Kd.R_reads' HO302.out).2.1); rintro e w8 ⟨rfl, hb⟩; refine ⟨_, rfl, ?_⟩; have n0_ := Aside0.mk (Kd.R_below (by (with_reducible repeat (first | apply Kd.R_alloc | apply Kd.R_drewN | apply Kd.R_drew)); exact HO302.out) hb); have n1_ := Aside0.mk (below_step (by repeat (first | (with_reducible first | exact HB.out | apply below_alloc | apply pw_below_drewN | apply below_drew1) | exact HB.out)) hb); clear HO302; clear HB; have HO302 := n0_; have HB := n1_; clear n0_ n1_; (try clear hb); (try clear hb2); (try clear hk); (try clear hi)))
    go_loopg [7, 8] k (fun kq v7 v8 w' => ∃ (x7_1 : List Int) (x8_1 : Int), v8 = .int .i64 x8_1 ∧ Aside0 (bolterref13_Repeat.l0 kq a0 a1 x7_1 x8_1 = some (r1, r2)) ∧ Aside0 (kq ≤ k) ∧ Aside0 (Kd.R (Kd.int .u8) 5 w' w.heap.size (fun _ => True) v7 x7_1) ∧ Aside0 (Below w.heap.size w w'))
    case atStart => exact ⟨(([] : List Int)), (0), (by first | rfl | (simp; done) | (simp [*]; done)), H', ⟨Nat.le_refl _⟩, ⟨by first | exact Kd.R_nil _ _ _ _ _ | exact Kd.N_nil _ _ _ _ _ | exact Kd.V_nil _ _ _ _ _ | exact Kd.Q_nil _ _ _ _ _ | exact Kd.S_nil _ _ _ _ _⟩, ⟨by repeat (first | (with_reducible first | exact HB.out | apply below_alloc | apply pw_below_drewN | apply below_drew1) | exact HB.out)⟩⟩
    case round =>
      clear H'
      try clear c2
      try clear p2
      try clear c4
      try clear c4b0
      try clear c4b1
      try clear c5
      obtain ⟨x7_1, x8_1, rfl, HA, HK1, HO_7, HB⟩ := hrel
      cases gk with
      | zero => exact absurd HA.out (by simp [bolterref13_Repeat.l0])
      | succ k1 =>
        have H := HA.out
        clear HA
        simp only [bolterref13_Repeat.l0] at H
        by_cases c9 : x8_1 < a1
        · rw [if_pos c9] at H
          have c9b0 : decide (x8_1 < a1) = true := decide_eq_true c9
          clear c9
          by_cases c10 : (a0.size : Int) > 0
          · rw [if_pos c10] at H
            have c10b0 : decide (0 < (a0.size : Int)) = true := decide_eq_true c10
            have c10b1 : decide (0 < a0.size) = true := decide_eq_true (by omega)
            clear c10
            by_cases c11 : (x7_1.length : Int) ≤ 16384
            · rw [if_pos c11] at H
              have c11b0 : decide ((x7_1.length : Int) ≤ 16384) = true := decide_eq_true c11
              have c11b1 : decide (x7_1.length ≤ 16384) = true := decide_eq_true (by omega)
              clear c11
              by_cases c12 : x7_1.length + a0.size < 140737488355328
              · rw [if_pos c12] at H
                have LMc12 := Aside0.mk c12
                clear c12
                obtain ⟨y304, hy304⟩ : ∃ y_ : List Int, y_ = (x7_1 ++ bytesOf a0) := ⟨_, rfl⟩
                replace H : (bolterref13_Repeat.l0 k1 a0 a1 y304 (wrap64 (x8_1 + 1))) = some (r1, r2) := by first | (rw [hy304]; with_reducible exact H) | (have H2_ := (Option.bind_some _ _).symm.trans H; rw [hy304]; with_reducible exact H2_) | (have H2_ := (Option.bind_some _ _).symm.trans H; with_reducible exact H2_) | with_reducible exact H | (rw [hy304]; exact H) | exact H
                have Ny304 := Aside0.mk hy304
                clear hy304
                have H' := Aside0.mk H
                clear H
                obtain ⟨Ao13, co13, eo13⟩ := Kd.R_slice HO_7.out
                subst eo13
                go_wp2_with (first | (at_builtin; refine print_append_str (w0 := w) w.heap.size rfl (.tmp 30) _ 63 9 5 rfl Tryd.underlying63 Tryd.underlying9 info5 (.slice Ao13 x7_1.length co13) x7_1 a0 rfl rfl ?aO ?aB ?aS ?aL ?_; (case aB => exact (by repeat (first | (with_reducible first | exact HB.out | apply below_alloc | apply pw_below_drewN | apply below_drew1) | exact HB.out))); (case aO => exact (Kd.own_of_R (by (with_reducible repeat (first | apply Kd.R_alloc | apply Kd.R_drewN | apply Kd.R_drew)); exact HO_7.out))); (case aS => exact (below_size (by repeat (first | (with_reducible first | exact HB.out | apply below_alloc | apply pw_below_drewN | apply below_drew1) | exact HB.out)))); (case aL => have := LMc12.out; omega); intro v305 w14 ho0 hb hg; have ho := Kd.R_of_own (h1 := fun _ => rfl) (ok := fun _ => True) ho0 (fun _ _ => trivial); clear ho0; have hat := True.intro; rw [← Ny304.out] at ho; change Kd.R (Kd.int .u8) 5 w14 w.heap.size (fun _ => True) v305 y304 at ho; have n0_ := Aside0.mk (hb); have n1_ := Aside0.mk (ho); clear HB; clear HO_7; have HB := n0_; have HO306 := n1_; clear n0_ n1_; clear ho hb hg hat))
                go_roundg k1
                case measure => have := HK1.out; omega
                case rel => exact ⟨(y304), (wrap64 (x8_1 + 1)), (by first | rfl | (simp; done) | (simp [*]; done)), H', ⟨by have := HK1.out; omega⟩, ⟨by (with_reducible repeat (first | apply Kd.R_alloc | apply Kd.R_drewN | apply Kd.R_drew)); exact HO306.out⟩, ⟨by repeat (first | (with_reducible first | exact HB.out | apply below_alloc | apply pw_below_drewN | apply below_drew1) | exact HB.out)⟩⟩
              · rw [if_neg c12] at H
                exact absurd H (by simp)
            · rw [if_neg c11] at H
              have c11b0 : decide ((x7_1.length : Int) ≤ 16384) = false := decide_eq_false c11
              have c11b1 : decide (x7_1.length ≤ 16384) = false := decide_eq_false (by omega)
              clear c11
              replace H := Option.bind_eq_some_iff.mp H
              obtain ⟨⟨t307, t308⟩, A150, H⟩ := H
              replace H : (some (t307, t308)) = some (r1, r2) := H
              have A15 := Aside0.mk A150
              clear A150
              simp only [Option.some.injEq, Prod.mk.injEq] at H
              obtain ⟨rfl, rfl⟩ := H
              obtain ⟨Ao16, co16, eo16⟩ := Kd.R_slice HO_7.out
              subst eo16
              go_wp2_with (first | ((with_reducible refine gate_callee (f := 60) rfl ?_); refine goesL_ (some 34) rfl rfl Tryd.func60 (by kernel_rfl) rfl #[.slice Ao16 x7_1.length co16] rfl (by (try simp only [List.map_toArray, List.map_cons, List.map_nil]); first | done | rfl | (simp only [List.length_drop, List.length_take]; rfl)) ?_; (with_reducible refine (bolterref13_whole.calls _ _ x7_1 t307 t308 _ ?side1 ?side2 A15.out).mono ?_); (case side1 => repeat (first | exact (Kd.R_reads' HO_7.out).2.2 | (with_reducible refine Kd.C_alloc ?_ _) | (with_reducible refine Kd.C_drewN ?_ _) | (with_reducible refine Kd.C_drew ?_))); (case side2 => exact (Kd.R_reads' HO_7.out).2.1); rintro e w' ⟨rfl, ⟨nd, rfl⟩⟩; refine ⟨_, rfl, ?_⟩))
              go_ret2
              exact ⟨by first | rfl | (simp [errW_none, errW_some] <;> rfl) | (simp [*, errW_none, errW_some] <;> rfl), by repeat (first | (with_reducible first | exact HB.out | apply below_alloc | apply pw_below_drewN | apply below_drew1) | exact HB.out)⟩
          · rw [if_neg c10] at H
            have c10b0 : decide (0 < (a0.size : Int)) = false := decide_eq_false c10
            have c10b1 : decide (0 < a0.size) = false := decide_eq_false (by omega)
            clear c10
            replace H := Option.bind_eq_some_iff.mp H
            obtain ⟨⟨t309, t310⟩, A170, H⟩ := H
            replace H : (some (t309, t310)) = some (r1, r2) := H
            have A17 := Aside0.mk A170
            clear A170
            simp only [Option.some.injEq, Prod.mk.injEq] at H
            obtain ⟨rfl, rfl⟩ := H
            obtain ⟨Ao18, co18, eo18⟩ := Kd.R_slice HO_7.out
            subst eo18
            go_wp2_with (first | ((with_reducible refine gate_callee (f := 60) rfl ?_); refine goesL_ (some 34) rfl rfl Tryd.func60 (by kernel_rfl) rfl #[.slice Ao18 x7_1.length co18] rfl (by (try simp only [List.map_toArray, List.map_cons, List.map_nil]); first | done | rfl | (simp only [List.length_drop, List.length_take]; rfl)) ?_; (with_reducible refine (bolterref13_whole.calls _ _ x7_1 t309 t310 _ ?side1 ?side2 A17.out).mono ?_); (case side1 => repeat (first | exact (Kd.R_reads' HO_7.out).2.2 | (with_reducible refine Kd.C_alloc ?_ _) | (with_reducible refine Kd.C_drewN ?_ _) | (with_reducible refine Kd.C_drew ?_))); (case side2 => exact (Kd.R_reads' HO_7.out).2.1); rintro e w' ⟨rfl, ⟨nd, rfl⟩⟩; refine ⟨_, rfl, ?_⟩))
            go_ret2
            exact ⟨by first | rfl | (simp [errW_none, errW_some] <;> rfl) | (simp [*, errW_none, errW_some] <;> rfl), by repeat (first | (with_reducible first | exact HB.out | apply below_alloc | apply pw_below_drewN | apply below_drew1) | exact HB.out)⟩
        · rw [if_neg c9] at H
          have c9b0 : decide (x8_1 < a1) = false := decide_eq_false c9
          clear c9
          replace H := Option.bind_eq_some_iff.mp H
          obtain ⟨⟨t311, t312⟩, A190, H⟩ := H
          replace H : (some (t311, t312)) = some (r1, r2) := H
          have A19 := Aside0.mk A190
          clear A190
          simp only [Option.some.injEq, Prod.mk.injEq] at H
          obtain ⟨rfl, rfl⟩ := H
          obtain ⟨Ao20, co20, eo20⟩ := Kd.R_slice HO_7.out
          subst eo20
          go_wp2_with (first | ((with_reducible refine gate_callee (f := 60) rfl ?_); refine goesL_ (some 34) rfl rfl Tryd.func60 (by kernel_rfl) rfl #[.slice Ao20 x7_1.length co20] rfl (by (try simp only [List.map_toArray, List.map_cons, List.map_nil]); first | done | rfl | (simp only [List.length_drop, List.length_take]; rfl)) ?_; (with_reducible refine (bolterref13_whole.calls _ _ x7_1 t311 t312 _ ?side1 ?side2 A19.out).mono ?_); (case side1 => repeat (first | exact (Kd.R_reads' HO_7.out).2.2 | (with_reducible refine Kd.C_alloc ?_ _) | (with_reducible refine Kd.C_drewN ?_ _) | (with_reducible refine Kd.C_drew ?_))); (case side2 => exact (Kd.R_reads' HO_7.out).2.1); rintro e w' ⟨rfl, ⟨nd, rfl⟩⟩; refine ⟨_, rfl, ?_⟩))
          go_ret2
          exact ⟨by first | rfl | (simp [errW_none, errW_some] <;> rfl) | (simp [*, errW_none, errW_some] <;> rfl), by repeat (first | (with_reducible first | exact HB.out | apply below_alloc | apply pw_below_drewN | apply below_drew1) | exact HB.out)⟩
  · rw [if_neg c4] at H
    have c4b0 : (t303 == 0) = false := beq_eq_false_iff_ne.mpr c4
    have c4b1 : (t303 != 0) = true := bne_iff_ne.mpr c4
    simp only [Option.some.injEq, Prod.mk.injEq] at H
    obtain ⟨rfl, rfl⟩ := H
    go_enter Tryd.func27, Tryd.ntmps27
    go_wp2_with (first | ((with_reducible refine gate_dst (N := 10) rfl ?_); (try (refine gate_guard (by rfl) ?_; dsimp only)); refine Kd.R_lit Kd.string _ 9 ?hg (N := 10) ?hd (xs := ([a0] : List ByteArray)) (inner := [.string a0]) (ok := fun _ => True) (okp := fun _ => True) ?hr ?hp (fun _ hk => hk) trivial (Below.refl _ _) (Nat.le_refl _) (by simp) ?_; (case hd => rfl); (case hg => rfl); (case hr => first | (go_simp; done) | (go_simp; rfl)); (case hp => exact (Reps.one (show Kd.M Kd.string _ _ _ a0 [.string a0] from rfl) (Reps.none _ _))); intro v301 w21 ho22 hb hg_ hnew_; clear hg_ hnew_; (first | rw [← Ny300.out] at ho22 | (simp only [Int.reduceToNat] at ho22; rw [← Ny300.out] at ho22)); have n0_ := Aside0.mk (Kd.R_lower ho22 (below_size (by repeat (first | (with_reducible first | exact HB.out | apply below_alloc | apply pw_below_drewN | apply below_drew1) | exact HB.out)))); have n1_ := Aside0.mk (below_step (by repeat (first | (with_reducible first | exact HB.out | apply below_alloc | apply pw_below_drewN | apply below_drew1) | exact HB.out)) hb); clear HB; have HO302 := n0_; have HB := n1_; clear n0_ n1_; clear hb ho22; obtain ⟨Ao23, co23, eo23⟩ := Kd.R_slice HO302.out; subst eo23) | ((with_reducible refine gate_callee (f := 57) rfl ?_); refine goesL_ (some 11) rfl rfl Tryd.func57 (by kernel_rfl) rfl #[.slice Ao23 y300.length co23] rfl (by (try simp only [List.map_toArray, List.map_cons, List.map_nil]); first | done | rfl | (simp only [List.length_drop, List.length_take]; rfl)) ?_; (with_reducible refine (bolterref13_Checks.calls k _ _ y300 t303 _ ?side1 ?side2 A3.out).mono ?_); (case side1 => repeat (first | exact (Kd.R_reads' HO302.out).2.2 | (with_reducible refine Kd.C_alloc ?_ _) | (with_reducible refine Kd.C_drewN ?_ _) | (with_reducible refine Kd.C_drew ?_))); (case side2 => exact (Kd.R_reads' HO302.out).2.1); rintro e w24 ⟨rfl, hb⟩; refine ⟨_, rfl, ?_⟩; have n0_ := Aside0.mk (Kd.R_below (by (with_reducible repeat (first | apply Kd.R_alloc | apply Kd.R_drewN | apply Kd.R_drew)); exact HO302.out) hb); have n1_ := Aside0.mk (below_step (by repeat (first | (with_reducible first | exact HB.out | apply below_alloc | apply pw_below_drewN | apply below_drew1) | exact HB.out)) hb); clear HO302; clear HB; have HO302 := n0_; have HB := n1_; clear n0_ n1_; (try clear hb); (try clear hb2); (try clear hk); (try clear hi)))
    go_ret2
    exact ⟨by first | rfl | (simp [errW_none, errW_some] <;> rfl) | (simp [*, errW_none, errW_some] <;> rfl), by repeat (first | (with_reducible first | exact HB.out | apply below_alloc | apply pw_below_drewN | apply below_drew1) | exact HB.out)⟩
mutual
def bolterref13_Replace.l0 : Nat → ByteArray → ByteArray → ByteArray → List Int → Int → Option (ByteArray × Int)
  | 0, _, _, _, _, _ => none
  | k + 1, x0, x1, x2, x9, x10 => if x10 < (x0.size : Int) then (bolterref13_Replace.j1 k x0 x1 x2 x9 x10 (decide ((x9.length : Int) ≤ 16384))) else (bolterref13_Replace.j1 k x0 x1 x2 x9 x10 false)
def bolterref13_Replace.j1 : Nat → ByteArray → ByteArray → ByteArray → List Int → Int → Bool → Option (ByteArray × Int)
  | 0, _, _, _, _, _, _ => none
  | k + 1, x0, x1, x2, x9, x10, x27 => if x27 = true then (if x1.toList = ([] : List UInt8) then (if 0 ≤ x10 then (if x10 < (x0.size : Int) then (if x9.length < 140737488355328 then (bolterref13_Replace.l0 k x0 x1 x2 (x9 ++ [bt x0 x10]) (wrap64 (x10 + 1))) else (none)) else (none)) else (none)) else (if 0 ≤ x10 then (if x10 ≤ (x0.size : Int) then ((bolterref13_begins.f (x0.extract (x10 : Int).toNat x0.size) x1).bind fun t320 => (if t320 = true then (if x9.length + x2.size < 140737488355328 then (bolterref13_Replace.l0 k x0 x1 x2 (x9 ++ bytesOf x2) (wrap64 (x10 + (x1.size : Int)))) else (none)) else (if x10 < (x0.size : Int) then (if x9.length < 140737488355328 then (bolterref13_Replace.l0 k x0 x1 x2 (x9 ++ [bt x0 x10]) (wrap64 (x10 + 1))) else (none)) else (none)))) else (none)) else (none))) else ((bolterref13_whole.f x9).bind fun bt327 => (some (bt327.1, bt327.2)))
end
def bolterref13_Replace.f (k : Nat) (a0 : ByteArray) (a1 : ByteArray) (a2 : ByteArray) : Option (ByteArray × Int) := (bolterref13_Checks.f k (([a0, a1, a2] : List ByteArray))).bind fun t316 => (if t316 = 0 then (bolterref13_Replace.l0 k a0 a1 a2 ([] : List Int) 0) else (some ((⟨#[]⟩ : ByteArray), t316)))
set_option maxHeartbeats 8000000 in
set_option maxRecDepth 100000 in
theorem bolterref13_Replace.calls (k : Nat) (a0 : ByteArray) (a1 : ByteArray) (a2 : ByteArray) (r1 : ByteArray) (r2 : Int) (w : World) (h : bolterref13_Replace.f k a0 a1 a2 = some (r1, r2)) :
    Calls Tryd.prog 28 #[.string a0, .string a1, .string a2] w fun e w' => e = .returned (.tuple #[.string r1, .int .i64 r2]) ∧ Below w.heap.size w w' := by
  have HB := Aside0.mk (Below.refl w.heap.size w)
  have H : ((bolterref13_Checks.f k (([a0, a1, a2] : List ByteArray))).bind fun t316 => (if t316 = 0 then (bolterref13_Replace.l0 k a0 a1 a2 ([] : List Int) 0) else (some ((⟨#[]⟩ : ByteArray), t316)))) = some (r1, r2) := h
  clear h
  obtain ⟨y313, hy313⟩ : ∃ y_ : List ByteArray, y_ = (([a0, a1, a2] : List ByteArray)) := ⟨_, rfl⟩
  replace H : ((bolterref13_Checks.f k y313).bind fun t316 => (if t316 = 0 then (bolterref13_Replace.l0 k a0 a1 a2 ([] : List Int) 0) else (some ((⟨#[]⟩ : ByteArray), t316)))) = some (r1, r2) := by first | (rw [hy313]; with_reducible exact H) | (have H2_ := (Option.bind_some _ _).symm.trans H; rw [hy313]; with_reducible exact H2_) | (have H2_ := (Option.bind_some _ _).symm.trans H; with_reducible exact H2_) | with_reducible exact H | (rw [hy313]; exact H) | exact H
  have Ny313 := Aside0.mk hy313
  clear hy313
  replace H := Option.bind_eq_some_iff.mp H
  obtain ⟨t316, A40, H⟩ := H
  replace H : (if t316 = 0 then (bolterref13_Replace.l0 k a0 a1 a2 ([] : List Int) 0) else (some ((⟨#[]⟩ : ByteArray), t316))) = some (r1, r2) := H
  have A4 := Aside0.mk A40
  clear A40
  by_cases c5 : t316 = 0
  · rw [if_pos c5] at H
    have c5b0 : (t316 == 0) = true := beq_iff_eq.mpr c5
    have c5b1 : (t316 != 0) = false := bne_eq_false_iff_eq.mpr c5
    clear c5
    have H' := Aside0.mk H
    clear H
    go_enter Tryd.func28, Tryd.ntmps28
    go_wp2_with (first | ((with_reducible refine gate_dst (N := 14) rfl ?_); (try (refine gate_guard (by rfl) ?_; dsimp only)); refine Kd.R_lit Kd.string _ 9 ?hg (N := 14) ?hd (xs := ([a0, a1, a2] : List ByteArray)) (inner := [.string a0, .string a1, .string a2]) (ok := fun _ => True) (okp := fun _ => True) ?hr ?hp (fun _ hk => hk) trivial (Below.refl _ _) (Nat.le_refl _) (by simp) ?_; (case hd => rfl); (case hg => rfl); (case hr => first | (go_simp; done) | (go_simp; rfl)); (case hp => exact (Reps.one (show Kd.M Kd.string _ _ _ a0 [.string a0] from rfl) (Reps.one (show Kd.M Kd.string _ _ _ a1 [.string a1] from rfl) (Reps.one (show Kd.M Kd.string _ _ _ a2 [.string a2] from rfl) (Reps.none _ _))))); intro v314 w6 ho7 hb hg_ hnew_; clear hg_ hnew_; (first | rw [← Ny313.out] at ho7 | (simp only [Int.reduceToNat] at ho7; rw [← Ny313.out] at ho7)); have n0_ := Aside0.mk (Kd.R_lower ho7 (below_size (by repeat (first | (with_reducible first | exact HB.out | apply below_alloc | apply pw_below_drewN | apply below_drew1) | exact HB.out)))); have n1_ := Aside0.mk (below_step (by repeat (first | (with_reducible first | exact HB.out | apply below_alloc | apply pw_below_drewN | apply below_drew1) | exact HB.out)) hb); clear HB; have HO315 := n0_; have HB := n1_; clear n0_ n1_; clear hb ho7; obtain ⟨Ao8, co8, eo8⟩ := Kd.R_slice HO315.out; subst eo8) | ((with_reducible refine gate_callee (f := 57) rfl ?_); refine goesL_ (some 15) rfl rfl Tryd.func57 (by kernel_rfl) rfl #[.slice Ao8 y313.length co8] rfl (by (try simp only [List.map_toArray, List.map_cons, List.map_nil]); first | done | rfl | (simp only [List.length_drop, List.length_take]; rfl)) ?_; (with_reducible refine (bolterref13_Checks.calls k _ _ y313 t316 _ ?side1 ?side2 A4.out).mono ?_); (case side1 => repeat (first | exact (Kd.R_reads' HO315.out).2.2 | (with_reducible refine Kd.C_alloc ?_ _) | (with_reducible refine Kd.C_drewN ?_ _) | (with_reducible refine Kd.C_drew ?_))); (case side2 => exact (Kd.R_reads' HO315.out).2.1); rintro e w9 ⟨rfl, hb⟩; refine ⟨_, rfl, ?_⟩; have n0_ := Aside0.mk (Kd.R_below (by (with_reducible repeat (first | apply Kd.R_alloc | apply Kd.R_drewN | apply Kd.R_drew)); exact HO315.out) hb); have n1_ := Aside0.mk (below_step (by repeat (first | (with_reducible first | exact HB.out | apply below_alloc | apply pw_below_drewN | apply below_drew1) | exact HB.out)) hb); clear HO315; clear HB; have HO315 := n0_; have HB := n1_; clear n0_ n1_; (try clear hb); (try clear hb2); (try clear hk); (try clear hi)))
    go_loopg [9, 10] k (fun kq v9 v10 w' => ∃ (x9_1 : List Int) (x10_1 : Int), v10 = .int .i64 x10_1 ∧ Aside0 (bolterref13_Replace.l0 kq a0 a1 a2 x9_1 x10_1 = some (r1, r2)) ∧ Aside0 (kq ≤ k) ∧ Aside0 (Kd.R (Kd.int .u8) 5 w' w.heap.size (fun _ => True) v9 x9_1) ∧ Aside0 (Below w.heap.size w w'))
    case atStart => exact ⟨(([] : List Int)), (0), (by first | rfl | (simp; done) | (simp [*]; done)), H', ⟨Nat.le_refl _⟩, ⟨by first | exact Kd.R_nil _ _ _ _ _ | exact Kd.N_nil _ _ _ _ _ | exact Kd.V_nil _ _ _ _ _ | exact Kd.Q_nil _ _ _ _ _ | exact Kd.S_nil _ _ _ _ _⟩, ⟨by repeat (first | (with_reducible first | exact HB.out | apply below_alloc | apply pw_below_drewN | apply below_drew1) | exact HB.out)⟩⟩
    case round =>
      clear H'
      try clear c2
      try clear p2
      try clear c5
      try clear c5b0
      try clear c5b1
      obtain ⟨x9_1, x10_1, rfl, HA, HK1, HO_9, HB⟩ := hrel
      cases gk with
      | zero => exact absurd HA.out (by simp [bolterref13_Replace.l0])
      | succ k1 =>
        have H := HA.out
        clear HA
        simp only [bolterref13_Replace.l0] at H
        have HC10 := Aside0.mk H
        clear H
        go_upto_region 6 with (fail)
        go_cut [27] (fun v27 wc => ∃ (kq : Nat) (x27_9 : Bool), v27 = .bool x27_9 ∧ Aside0 (bolterref13_Replace.j1 kq a0 a1 a2 x9_1 x10_1 x27_9 = some (r1, r2)) ∧ Aside0 (kq ≤ k1) ∧ Aside0 (Kd.R (Kd.int .u8) 5 wc w.heap.size (fun _ => True) u9 x9_1) ∧ Aside0 (Below w.heap.size w wc))
        case first =>
          have H := HC10.out
          clear HC10
          by_cases c11 : x10_1 < (a0.size : Int)
          · rw [if_pos c11] at H
            have c11b0 : decide (x10_1 < (a0.size : Int)) = true := decide_eq_true c11
            clear c11
            (first | rw [c11b0] | (simp only [i64_w, i32_w]; rw [c11b0]) | skip)
            have H' := Aside0.mk H
            clear H
            obtain ⟨Ao12, co12, eo12⟩ := Kd.R_slice HO_9.out
            subst eo12
            go_wp2
            go_meet
            case rel => exact ⟨_, (decide ((x9_1.length : Int) ≤ 16384)), (by first | rfl | (simp; done) | (simp [*]; done)), H', ⟨by have := HK1.out; first | omega | exact Nat.le_refl _⟩, ⟨by (with_reducible repeat (first | apply Kd.R_alloc | apply Kd.R_drewN | apply Kd.R_drew)); exact HO_9.out⟩, ⟨by repeat (first | (with_reducible first | exact HB.out | apply below_alloc | apply pw_below_drewN | apply below_drew1) | exact HB.out)⟩⟩
          · rw [if_neg c11] at H
            have c11b0 : decide (x10_1 < (a0.size : Int)) = false := decide_eq_false c11
            clear c11
            (first | rw [c11b0] | (simp only [i64_w, i32_w]; rw [c11b0]) | skip)
            have H' := Aside0.mk H
            clear H
            go_wp2
            go_meet
            case rel => exact ⟨_, (false), (by first | rfl | (simp; done) | (simp [*]; done)), H', ⟨by have := HK1.out; first | omega | exact Nat.le_refl _⟩, ⟨by (with_reducible repeat (first | apply Kd.R_alloc | apply Kd.R_drewN | apply Kd.R_drew)); exact HO_9.out⟩, ⟨by repeat (first | (with_reducible first | exact HB.out | apply below_alloc | apply pw_below_drewN | apply below_drew1) | exact HB.out)⟩⟩
        case rest =>
          clear HC10
          try clear c1
          try clear c2
          try clear p2
          try clear c5
          try clear c5b0
          try clear c5b1
          try clear c11
          try clear c11b0
          try clear p2
          obtain ⟨kq, x27_9, rfl, HA, HJ9, HO_9, HB⟩ := hcut
          cases kq with
          | zero => exact absurd HA.out (by simp [bolterref13_Replace.j1])
          | succ kj9 =>
            have H := HA.out
            clear HA
            simp only [bolterref13_Replace.j1] at H
            by_cases c13 : x27_9 = true
            · subst c13
              have H1 : (if a1.toList = ([] : List UInt8) then (if 0 ≤ x10_1 then (if x10_1 < (a0.size : Int) then (if x9_1.length < 140737488355328 then (bolterref13_Replace.l0 kj9 a0 a1 a2 (x9_1 ++ [bt a0 x10_1]) (wrap64 (x10_1 + 1))) else (none)) else (none)) else (none)) else (if 0 ≤ x10_1 then (if x10_1 ≤ (a0.size : Int) then ((bolterref13_begins.f (a0.extract (x10_1 : Int).toNat a0.size) a1).bind fun t320 => (if t320 = true then (if x9_1.length + a2.size < 140737488355328 then (bolterref13_Replace.l0 kj9 a0 a1 a2 (x9_1 ++ bytesOf a2) (wrap64 (x10_1 + (a1.size : Int)))) else (none)) else (if x10_1 < (a0.size : Int) then (if x9_1.length < 140737488355328 then (bolterref13_Replace.l0 kj9 a0 a1 a2 (x9_1 ++ [bt a0 x10_1]) (wrap64 (x10_1 + 1))) else (none)) else (none)))) else (none)) else (none))) = some (r1, r2) := by rw [if_pos rfl] at H; exact H
              clear H
              have H := H1
              clear H1
              by_cases c14 : a1.toList = ([] : List UInt8)
              · rw [if_pos c14] at H
                have c14b0 : (a1.toList == ([] : List UInt8)) = true := beq_iff_eq.mpr c14
                have c14b1 : (a1.toList != ([] : List UInt8)) = false := bne_eq_false_iff_eq.mpr c14
                clear c14
                by_cases c15 : 0 ≤ x10_1
                · rw [if_pos c15] at H
                  have c15b0 : decide (0 ≤ x10_1) = true := decide_eq_true c15
                  clear c15
                  by_cases c16 : x10_1 < (a0.size : Int)
                  · rw [if_pos c16] at H
                    have c16b0 : decide (x10_1 < (a0.size : Int)) = true := decide_eq_true c16
                    clear c16
                    by_cases c18 : x9_1.length < 140737488355328
                    · rw [if_pos c18] at H
                      have LMc18 := Aside0.mk c18
                      clear c18
                      obtain ⟨y317, hy317⟩ : ∃ y_ : List Int, y_ = (x9_1 ++ [bt a0 x10_1]) := ⟨_, rfl⟩
                      replace H : (bolterref13_Replace.l0 kj9 a0 a1 a2 y317 (wrap64 (x10_1 + 1))) = some (r1, r2) := by first | (rw [hy317]; with_reducible exact H) | (have H2_ := (Option.bind_some _ _).symm.trans H; rw [hy317]; with_reducible exact H2_) | (have H2_ := (Option.bind_some _ _).symm.trans H; with_reducible exact H2_) | with_reducible exact H | (rw [hy317]; exact H) | exact H
                      have Ny317 := Aside0.mk hy317
                      clear hy317
                      have H' := Aside0.mk H
                      clear H
                      have p17 : 0 ≤ (x10_1 : Int) := of_decide_eq_true (by first | (with_reducible assumption) | assumption)
                      have q17 : x10_1 < (a0.size : Int) := of_decide_eq_true (by first | (with_reducible assumption) | assumption)
                      have hx17 := bt_at a0 x10_1
                      replace p17 := eq_true p17
                      replace q17 := eq_true q17
                      go_wp2_with (first | ((with_reducible refine gate_builtin (b := .append) (xs := #[.tmp 44, .tmp 48]) rfl ?_); (try (refine gate_guard (by rfl) ?_; dsimp only)); at_builtin; refine Kd.R_append (Kd.int .u8) (w0 := w) w.heap.size rfl (.tmp 44) (.tmp 48) 63 5 (.int .u8 0) 1 rfl Tryd.underlying63 info5 rfl (by decide) (by omega) u9 x9_1 (bt a0 x10_1) [.int .u8 (bt a0 x10_1)] (fun _ => True) (fun _ => False) rfl rfl ?aP (fun _ hk => hk.elim) ?aF ?aO ?aB ?aS ?aL ?_; (case aP => exact rfl); (case aB => exact (by repeat (first | (with_reducible first | exact HB.out | apply below_alloc | apply pw_below_drewN | apply below_drew1) | exact HB.out))); (case aF => exact (fun _ _ => trivial)); (case aO => exact (by (with_reducible repeat (first | apply Kd.R_alloc | apply Kd.R_drewN | apply Kd.R_drew)); exact HO_9.out)); (case aS => exact (below_size (by repeat (first | (with_reducible first | exact HB.out | apply below_alloc | apply pw_below_drewN | apply below_drew1) | exact HB.out)))); (case aL => have := LMc18.out; omega); intro v318 w19 ho hb hg hat; rw [← Ny317.out] at ho; have n0_ := Aside0.mk (hb); have n1_ := Aside0.mk (ho); clear HB; clear HO_9; have HB := n0_; have HO319 := n1_; clear n0_ n1_; clear ho hb hg hat))
                      go_roundg kj9
                      case measure => have := HK1.out; have := HJ9.out; omega
                      case rel => exact ⟨(y317), (wrap64 (x10_1 + 1)), (by first | rfl | (simp; done) | (simp [*]; done)), H', ⟨by have := HK1.out; have := HJ9.out; omega⟩, ⟨by (with_reducible repeat (first | apply Kd.R_alloc | apply Kd.R_drewN | apply Kd.R_drew)); exact HO319.out⟩, ⟨by repeat (first | (with_reducible first | exact HB.out | apply below_alloc | apply pw_below_drewN | apply below_drew1) | exact HB.out)⟩⟩
                    · rw [if_neg c18] at H
                      exact absurd H (by simp)
                  · rw [if_neg c16] at H
                    exact absurd H (by simp)
                · rw [if_neg c15] at H
                  exact absurd H (by simp)
              · rw [if_neg c14] at H
                have c14b0 : (a1.toList == ([] : List UInt8)) = false := beq_eq_false_iff_ne.mpr c14
                have c14b1 : (a1.toList != ([] : List UInt8)) = true := bne_iff_ne.mpr c14
                by_cases c20 : 0 ≤ x10_1
                · rw [if_pos c20] at H
                  have c20b0 := eq_true c20
                  have c20b1 : decide (0 ≤ x10_1) = true := decide_eq_true c20
                  clear c20
                  by_cases c21 : x10_1 ≤ (a0.size : Int)
                  · rw [if_pos c21] at H
                    have c21b0 := eq_true c21
                    have c21b1 : decide (x10_1 ≤ (a0.size : Int)) = true := decide_eq_true c21
                    clear c21
                    replace H := Option.bind_eq_some_iff.mp H
                    obtain ⟨t320, A220, H⟩ := H
                    replace H : (if t320 = true then (if x9_1.length + a2.size < 140737488355328 then (bolterref13_Replace.l0 kj9 a0 a1 a2 (x9_1 ++ bytesOf a2) (wrap64 (x10_1 + (a1.size : Int)))) else (none)) else (if x10_1 < (a0.size : Int) then (if x9_1.length < 140737488355328 then (bolterref13_Replace.l0 kj9 a0 a1 a2 (x9_1 ++ [bt a0 x10_1]) (wrap64 (x10_1 + 1))) else (none)) else (none))) = some (r1, r2) := H
                    have A22 := Aside0.mk A220
                    clear A220
                    by_cases c23 : t320 = true
                    · subst c23
                      have H1 : (if x9_1.length + a2.size < 140737488355328 then (bolterref13_Replace.l0 kj9 a0 a1 a2 (x9_1 ++ bytesOf a2) (wrap64 (x10_1 + (a1.size : Int)))) else (none)) = some (r1, r2) := by rw [if_pos rfl] at H; exact H
                      clear H
                      have H := H1
                      clear H1
                      by_cases c24 : x9_1.length + a2.size < 140737488355328
                      · rw [if_pos c24] at H
                        have LMc24 := Aside0.mk c24
                        clear c24
                        obtain ⟨y321, hy321⟩ : ∃ y_ : List Int, y_ = (x9_1 ++ bytesOf a2) := ⟨_, rfl⟩
                        replace H : (bolterref13_Replace.l0 kj9 a0 a1 a2 y321 (wrap64 (x10_1 + (a1.size : Int)))) = some (r1, r2) := by first | (rw [hy321]; with_reducible exact H) | (have H2_ := (Option.bind_some _ _).symm.trans H; rw [hy321]; with_reducible exact H2_) | (have H2_ := (Option.bind_some _ _).symm.trans H; with_reducible exact H2_) | with_reducible exact H | (rw [hy321]; exact H) | exact H
                        have Ny321 := Aside0.mk hy321
                        clear hy321
                        have H' := Aside0.mk H
                        clear H
                        go_wp2_with (first | (go_at_call 58; (with_reducible refine (bolterref13_begins.calls (a0.extract (x10_1 : Int).toNat a0.size) a1 true _ A22.out).mono ?_); rintro e w' ⟨rfl, ⟨nd, rfl⟩⟩) | (at_builtin; refine print_append_str (w0 := w) w.heap.size rfl (.tmp 37) _ 63 9 5 rfl Tryd.underlying63 Tryd.underlying9 info5 u9 x9_1 a2 rfl rfl ?aO ?aB ?aS ?aL ?_; (case aB => exact (by repeat (first | (with_reducible first | exact HB.out | apply below_alloc | apply pw_below_drewN | apply below_drew1) | exact HB.out))); (case aO => exact (Kd.own_of_R (by (with_reducible repeat (first | apply Kd.R_alloc | apply Kd.R_drewN | apply Kd.R_drew)); exact HO_9.out))); (case aS => exact (below_size (by repeat (first | (with_reducible first | exact HB.out | apply below_alloc | apply pw_below_drewN | apply below_drew1) | exact HB.out)))); (case aL => have := LMc24.out; omega); intro v322 w25 ho0 hb hg; have ho := Kd.R_of_own (h1 := fun _ => rfl) (ok := fun _ => True) ho0 (fun _ _ => trivial); clear ho0; have hat := True.intro; rw [← Ny321.out] at ho; change Kd.R (Kd.int .u8) 5 w25 w.heap.size (fun _ => True) v322 y321 at ho; have n0_ := Aside0.mk (hb); have n1_ := Aside0.mk (ho); clear HB; clear HO_9; have HB := n0_; have HO323 := n1_; clear n0_ n1_; clear ho hb hg hat))
                        go_roundg kj9
                        case measure => have := HK1.out; have := HJ9.out; omega
                        case rel => exact ⟨(y321), (wrap64 (x10_1 + (a1.size : Int))), (by first | rfl | (simp; done) | (simp [*]; done)), H', ⟨by have := HK1.out; have := HJ9.out; omega⟩, ⟨by (with_reducible repeat (first | apply Kd.R_alloc | apply Kd.R_drewN | apply Kd.R_drew)); exact HO323.out⟩, ⟨by repeat (first | (with_reducible first | exact HB.out | apply below_alloc | apply pw_below_drewN | apply below_drew1) | exact HB.out)⟩⟩
                      · rw [if_neg c24] at H
                        exact absurd H (by simp)
                    · replace c23 := Bool.eq_false_iff.mpr c23
                      subst c23
                      have H1 : (if x10_1 < (a0.size : Int) then (if x9_1.length < 140737488355328 then (bolterref13_Replace.l0 kj9 a0 a1 a2 (x9_1 ++ [bt a0 x10_1]) (wrap64 (x10_1 + 1))) else (none)) else (none)) = some (r1, r2) := by rw [if_neg (show ¬ (false = true) by decide)] at H; exact H
                      clear H
                      have H := H1
                      clear H1
                      by_cases c26 : x10_1 < (a0.size : Int)
                      · rw [if_pos c26] at H
                        have c26b0 : decide (x10_1 < (a0.size : Int)) = true := decide_eq_true c26
                        clear c26
                        by_cases c28 : x9_1.length < 140737488355328
                        · rw [if_pos c28] at H
                          have LMc28 := Aside0.mk c28
                          clear c28
                          obtain ⟨y324, hy324⟩ : ∃ y_ : List Int, y_ = (x9_1 ++ [bt a0 x10_1]) := ⟨_, rfl⟩
                          replace H : (bolterref13_Replace.l0 kj9 a0 a1 a2 y324 (wrap64 (x10_1 + 1))) = some (r1, r2) := by first | (rw [hy324]; with_reducible exact H) | (have H2_ := (Option.bind_some _ _).symm.trans H; rw [hy324]; with_reducible exact H2_) | (have H2_ := (Option.bind_some _ _).symm.trans H; with_reducible exact H2_) | with_reducible exact H | (rw [hy324]; exact H) | exact H
                          have Ny324 := Aside0.mk hy324
                          clear hy324
                          have H' := Aside0.mk H
                          clear H
                          go_wp2_with (first | (go_at_call 58; (with_reducible refine (bolterref13_begins.calls (a0.extract (x10_1 : Int).toNat a0.size) a1 false _ A22.out).mono ?_); rintro e w' ⟨rfl, ⟨nd, rfl⟩⟩; have p27 : 0 ≤ (x10_1 : Int) := of_decide_eq_true (by first | (with_reducible assumption) | assumption); have q27 : x10_1 < (a0.size : Int) := of_decide_eq_true (by first | (with_reducible assumption) | assumption); have hx27 := bt_at a0 x10_1; replace p27 := eq_true p27; replace q27 := eq_true q27) | ((with_reducible refine gate_builtin (b := .append) (xs := #[.tmp 44, .tmp 48]) rfl ?_); (try (refine gate_guard (by rfl) ?_; dsimp only)); at_builtin; refine Kd.R_append (Kd.int .u8) (w0 := w) w.heap.size rfl (.tmp 44) (.tmp 48) 63 5 (.int .u8 0) 1 rfl Tryd.underlying63 info5 rfl (by decide) (by omega) u9 x9_1 (bt a0 x10_1) [.int .u8 (bt a0 x10_1)] (fun _ => True) (fun _ => False) rfl rfl ?aP (fun _ hk => hk.elim) ?aF ?aO ?aB ?aS ?aL ?_; (case aP => exact rfl); (case aB => exact (by repeat (first | (with_reducible first | exact HB.out | apply below_alloc | apply pw_below_drewN | apply below_drew1) | exact HB.out))); (case aF => exact (fun _ _ => trivial)); (case aO => exact (by (with_reducible repeat (first | apply Kd.R_alloc | apply Kd.R_drewN | apply Kd.R_drew)); exact HO_9.out)); (case aS => exact (below_size (by repeat (first | (with_reducible first | exact HB.out | apply below_alloc | apply pw_below_drewN | apply below_drew1) | exact HB.out)))); (case aL => have := LMc28.out; omega); intro v325 w29 ho hb hg hat; rw [← Ny324.out] at ho; have n0_ := Aside0.mk (hb); have n1_ := Aside0.mk (ho); clear HB; clear HO_9; have HB := n0_; have HO326 := n1_; clear n0_ n1_; clear ho hb hg hat))
                          go_roundg kj9
                          case measure => have := HK1.out; have := HJ9.out; omega
                          case rel => exact ⟨(y324), (wrap64 (x10_1 + 1)), (by first | rfl | (simp; done) | (simp [*]; done)), H', ⟨by have := HK1.out; have := HJ9.out; omega⟩, ⟨by (with_reducible repeat (first | apply Kd.R_alloc | apply Kd.R_drewN | apply Kd.R_drew)); exact HO326.out⟩, ⟨by repeat (first | (with_reducible first | exact HB.out | apply below_alloc | apply pw_below_drewN | apply below_drew1) | exact HB.out)⟩⟩
                        · rw [if_neg c28] at H
                          exact absurd H (by simp)
                      · rw [if_neg c26] at H
                        exact absurd H (by simp)
                  · rw [if_neg c21] at H
                    exact absurd H (by simp)
                · rw [if_neg c20] at H
                  exact absurd H (by simp)
            · replace c13 := Bool.eq_false_iff.mpr c13
              subst c13
              have H1 : ((bolterref13_whole.f x9_1).bind fun bt327 => (some (bt327.1, bt327.2))) = some (r1, r2) := by rw [if_neg (show ¬ (false = true) by decide)] at H; exact H
              clear H
              have H := H1
              clear H1
              replace H := Option.bind_eq_some_iff.mp H
              obtain ⟨⟨t327, t328⟩, A300, H⟩ := H
              replace H : (some (t327, t328)) = some (r1, r2) := H
              have A30 := Aside0.mk A300
              clear A300
              simp only [Option.some.injEq, Prod.mk.injEq] at H
              obtain ⟨rfl, rfl⟩ := H
              obtain ⟨Ao31, co31, eo31⟩ := Kd.R_slice HO_9.out
              subst eo31
              go_wp2_with (first | ((with_reducible refine gate_callee (f := 60) rfl ?_); refine goesL_ (some 53) rfl rfl Tryd.func60 (by kernel_rfl) rfl #[.slice Ao31 x9_1.length co31] rfl (by (try simp only [List.map_toArray, List.map_cons, List.map_nil]); first | done | rfl | (simp only [List.length_drop, List.length_take]; rfl)) ?_; (with_reducible refine (bolterref13_whole.calls _ _ x9_1 t327 t328 _ ?side1 ?side2 A30.out).mono ?_); (case side1 => repeat (first | exact (Kd.R_reads' HO_9.out).2.2 | (with_reducible refine Kd.C_alloc ?_ _) | (with_reducible refine Kd.C_drewN ?_ _) | (with_reducible refine Kd.C_drew ?_))); (case side2 => exact (Kd.R_reads' HO_9.out).2.1); rintro e w' ⟨rfl, ⟨nd, rfl⟩⟩; refine ⟨_, rfl, ?_⟩))
              go_ret2
              exact ⟨by first | rfl | (simp [errW_none, errW_some] <;> rfl) | (simp [*, errW_none, errW_some] <;> rfl), by repeat (first | (with_reducible first | exact HB.out | apply below_alloc | apply pw_below_drewN | apply below_drew1) | exact HB.out)⟩
  · rw [if_neg c5] at H
    have c5b0 : (t316 == 0) = false := beq_eq_false_iff_ne.mpr c5
    have c5b1 : (t316 != 0) = true := bne_iff_ne.mpr c5
    simp only [Option.some.injEq, Prod.mk.injEq] at H
    obtain ⟨rfl, rfl⟩ := H
    go_enter Tryd.func28, Tryd.ntmps28
    go_wp2_with (first | ((with_reducible refine gate_dst (N := 14) rfl ?_); (try (refine gate_guard (by rfl) ?_; dsimp only)); refine Kd.R_lit Kd.string _ 9 ?hg (N := 14) ?hd (xs := ([a0, a1, a2] : List ByteArray)) (inner := [.string a0, .string a1, .string a2]) (ok := fun _ => True) (okp := fun _ => True) ?hr ?hp (fun _ hk => hk) trivial (Below.refl _ _) (Nat.le_refl _) (by simp) ?_; (case hd => rfl); (case hg => rfl); (case hr => first | (go_simp; done) | (go_simp; rfl)); (case hp => exact (Reps.one (show Kd.M Kd.string _ _ _ a0 [.string a0] from rfl) (Reps.one (show Kd.M Kd.string _ _ _ a1 [.string a1] from rfl) (Reps.one (show Kd.M Kd.string _ _ _ a2 [.string a2] from rfl) (Reps.none _ _))))); intro v314 w32 ho33 hb hg_ hnew_; clear hg_ hnew_; (first | rw [← Ny313.out] at ho33 | (simp only [Int.reduceToNat] at ho33; rw [← Ny313.out] at ho33)); have n0_ := Aside0.mk (Kd.R_lower ho33 (below_size (by repeat (first | (with_reducible first | exact HB.out | apply below_alloc | apply pw_below_drewN | apply below_drew1) | exact HB.out)))); have n1_ := Aside0.mk (below_step (by repeat (first | (with_reducible first | exact HB.out | apply below_alloc | apply pw_below_drewN | apply below_drew1) | exact HB.out)) hb); clear HB; have HO315 := n0_; have HB := n1_; clear n0_ n1_; clear hb ho33; obtain ⟨Ao34, co34, eo34⟩ := Kd.R_slice HO315.out; subst eo34) | ((with_reducible refine gate_callee (f := 57) rfl ?_); refine goesL_ (some 15) rfl rfl Tryd.func57 (by kernel_rfl) rfl #[.slice Ao34 y313.length co34] rfl (by (try simp only [List.map_toArray, List.map_cons, List.map_nil]); first | done | rfl | (simp only [List.length_drop, List.length_take]; rfl)) ?_; (with_reducible refine (bolterref13_Checks.calls k _ _ y313 t316 _ ?side1 ?side2 A4.out).mono ?_); (case side1 => repeat (first | exact (Kd.R_reads' HO315.out).2.2 | (with_reducible refine Kd.C_alloc ?_ _) | (with_reducible refine Kd.C_drewN ?_ _) | (with_reducible refine Kd.C_drew ?_))); (case side2 => exact (Kd.R_reads' HO315.out).2.1); rintro e w35 ⟨rfl, hb⟩; refine ⟨_, rfl, ?_⟩; have n0_ := Aside0.mk (Kd.R_below (by (with_reducible repeat (first | apply Kd.R_alloc | apply Kd.R_drewN | apply Kd.R_drew)); exact HO315.out) hb); have n1_ := Aside0.mk (below_step (by repeat (first | (with_reducible first | exact HB.out | apply below_alloc | apply pw_below_drewN | apply below_drew1) | exact HB.out)) hb); clear HO315; clear HB; have HO315 := n0_; have HB := n1_; clear n0_ n1_; (try clear hb); (try clear hb2); (try clear hk); (try clear hi)))
    go_ret2
    exact ⟨by first | rfl | (simp [errW_none, errW_some] <;> rfl) | (simp [*, errW_none, errW_some] <;> rfl), by repeat (first | (with_reducible first | exact HB.out | apply below_alloc | apply pw_below_drewN | apply below_drew1) | exact HB.out)⟩
def texts_Lines.j0 : Nat → ByteArray → List ByteArray → Int → Bool → Option (List ByteArray × Int)
  | 0, _, _, _, _ => none
  | k + 1, x0, x4, x5, x19 => if x19 = true then (if 0 ≤ (wrap64 (x5 - 1)) then (if (wrap64 (x5 - 1)) ≤ (x4.length : Int) then ((texts_Checks.f k (([x0] : List ByteArray))).bind fun t339 => ((texts_wholes.f (x4.take ((wrap64 (x5 - 1)) : Int).toNat) t339).bind fun bt340 => (some (bt340.1, bt340.2)))) else (none)) else (none)) else ((texts_Checks.f k (([x0] : List ByteArray))).bind fun t347 => ((texts_wholes.f x4 t347).bind fun bt348 => (some (bt348.1, bt348.2))))
def texts_Lines.f (k : Nat) (a0 : ByteArray) : Option (List ByteArray × Int) := (arith_Cut.f k a0 (⟨#[10]⟩ : ByteArray)).bind fun t329 => (if (t329.length : Int) > 0 then (if 0 ≤ (wrap64 ((t329.length : Int) - 1)) then (if (wrap64 ((t329.length : Int) - 1)) < (t329.length : Int) then (texts_Lines.j0 k a0 t329 (t329.length : Int) ((rdOf ByteArray.empty t329 (wrap64 ((t329.length : Int) - 1))).toList == ([] : List UInt8))) else (none)) else (none)) else (texts_Lines.j0 k a0 t329 (t329.length : Int) false))
set_option maxHeartbeats 8000000 in
set_option maxRecDepth 100000 in
theorem texts_Lines.calls (k : Nat) (a0 : ByteArray) (r1 : List ByteArray) (r2 : Int) (w : World) (hG : Aside0 (GlobG w)) (h : texts_Lines.f k a0 = some (r1, r2)) :
    Calls Tryd.prog 29 #[.string a0] w fun e w' => ∃ v0_ : Value, e = .returned (.tuple #[v0_, .int .i64 r2]) ∧ Kd.R Kd.string 9 w' w.heap.size (fun _ => True) v0_ r1 ∧ Below w.heap.size w w' := by
  have HB := Aside0.mk (Below.refl w.heap.size w)
  have H : ((arith_Cut.f k a0 (⟨#[10]⟩ : ByteArray)).bind fun t329 => (if (t329.length : Int) > 0 then (if 0 ≤ (wrap64 ((t329.length : Int) - 1)) then (if (wrap64 ((t329.length : Int) - 1)) < (t329.length : Int) then (texts_Lines.j0 k a0 t329 (t329.length : Int) ((rdOf ByteArray.empty t329 (wrap64 ((t329.length : Int) - 1))).toList == ([] : List UInt8))) else (none)) else (none)) else (texts_Lines.j0 k a0 t329 (t329.length : Int) false))) = some (r1, r2) := h
  clear h
  replace H := Option.bind_eq_some_iff.mp H
  obtain ⟨t329, A20, H⟩ := H
  replace H : (if (t329.length : Int) > 0 then (if 0 ≤ (wrap64 ((t329.length : Int) - 1)) then (if (wrap64 ((t329.length : Int) - 1)) < (t329.length : Int) then (texts_Lines.j0 k a0 t329 (t329.length : Int) ((rdOf ByteArray.empty t329 (wrap64 ((t329.length : Int) - 1))).toList == ([] : List UInt8))) else (none)) else (none)) else (texts_Lines.j0 k a0 t329 (t329.length : Int) false)) = some (r1, r2) := H
  have A2 := Aside0.mk A20
  clear A20
  have HC3 := Aside0.mk H
  clear H
  go_enter Tryd.func29, Tryd.ntmps29
  go_upto_region 3 with (first | ((with_reducible refine gate_callee (f := 45) rfl ?_); refine goesL_ (some 7) rfl rfl Tryd.func45 (by kernel_rfl) rfl #[.string a0, .string (⟨#[10]⟩ : ByteArray)] rfl (by (try simp only [List.map_toArray, List.map_cons, List.map_nil]); first | done | rfl | (simp only [List.length_drop, List.length_take]; rfl)) ?_; (with_reducible refine (arith_Cut.calls k a0 (⟨#[10]⟩ : ByteArray) t329 _ ?side1 A2.out).mono ?_); (case side1 => exact Aside0.mk (GlobG.below (by repeat (first | (with_reducible first | exact HB.out | apply below_alloc | apply pw_below_drewN | apply below_drew1) | exact HB.out)) hG.out)); rintro e w4 ⟨v330, rfl, ho0, hb⟩; refine ⟨_, rfl, ?_⟩; have n0_ := Aside0.mk (Kd.R_lower ho0 (below_size (by repeat (first | (with_reducible first | exact HB.out | apply below_alloc | apply pw_below_drewN | apply below_drew1) | exact HB.out)))); have n1_ := Aside0.mk (below_step (by repeat (first | (with_reducible first | exact HB.out | apply below_alloc | apply pw_below_drewN | apply below_drew1) | exact HB.out)) hb); clear HB; have HO331 := n0_; have HB := n1_; clear n0_ n1_; (try clear hb); (try clear hb2); (try clear hk); (try clear hi); (try clear ho0); obtain ⟨Ao5, co5, eo5⟩ := Kd.R_slice HO331.out; subst eo5))
  (try simp only [Act.put, List.setIfInBounds_toArray, List.set_cons_zero, List.set_cons_succ])
  go_cut [19] (fun v19 wc => ∃ (kq : Nat) (x19_2 : Bool), v19 = .bool x19_2 ∧ Aside0 (texts_Lines.j0 kq a0 t329 (t329.length : Int) x19_2 = some (r1, r2)) ∧ Aside0 (kq ≤ k) ∧ Aside0 (Kd.R Kd.string 9 wc w.heap.size (fun _ => True) (.slice Ao5 t329.length co5) t329) ∧ Aside0 (Below w.heap.size w wc))
  case first =>
    have H := HC3.out
    clear HC3
    by_cases c6 : (t329.length : Int) > 0
    · rw [if_pos c6] at H
      have c6b0 : decide (0 < (t329.length : Int)) = true := decide_eq_true c6
      have c6b1 : decide (0 < t329.length) = true := decide_eq_true (by omega)
      clear c6
      (first | rw [c6b0] | (simp only [i64_w, i32_w]; rw [c6b0]) | skip)
      obtain ⟨ji7, hji7⟩ : ∃ j_ : Int, (wrap64 ((t329.length : Int) - 1)) = j_ := ⟨_, rfl⟩
      replace H : (if 0 ≤ (ji7) then (if (ji7) < (t329.length : Int) then (texts_Lines.j0 k a0 t329 (t329.length : Int) ((rdOf ByteArray.empty t329 (ji7)).toList == ([] : List UInt8))) else (none)) else (none)) = some (r1, r2) := by first | (rw [hji7] at H; exact H) | (simp only [hji7] at H ⊢; exact H)
      have hji7w : (IntKind.i64.wrap ((t329.length : Int) - 1)) = ji7 := (i64_w _).trans hji7
      by_cases c8 : 0 ≤ (ji7)
      · rw [if_pos c8] at H
        have c8b0 : decide (0 ≤ (ji7)) = true := decide_eq_true c8
        clear c8
        by_cases c9 : (ji7) < (t329.length : Int)
        · rw [if_pos c9] at H
          have c9b0 : decide ((ji7) < (t329.length : Int)) = true := decide_eq_true c9
          clear c9
          have H' := Aside0.mk H
          clear H
          have p332 : 0 ≤ ((ji7) : Int) := of_decide_eq_true (by first | (with_reducible assumption) | assumption)
          have q332 : (ji7) < (t329.length : Int) := of_decide_eq_true (by first | (with_reducible assumption) | assumption)
          obtain ⟨ad332, e332, hx332_0⟩ := Kd.at_string (Kd.R_reads' HO331.out).2.2 (ji7) p332 q332
          cases e332
          replace p332 := eq_true p332
          replace q332 := eq_true q332
          go_wp2
          go_meet
          case rel => exact ⟨_, (((rdOf ByteArray.empty t329 (ji7)).toList == ([] : List UInt8))), (by first | rfl | (simp; done) | (simp only [← hji7] <;> (first | rfl | simp)) | (simp [*]; done)), H', ⟨by first | omega | exact Nat.le_refl _⟩, ⟨by (with_reducible repeat (first | apply Kd.R_alloc | apply Kd.R_drewN | apply Kd.R_drew)); exact HO331.out⟩, ⟨by repeat (first | (with_reducible first | exact HB.out | apply below_alloc | apply pw_below_drewN | apply below_drew1) | exact HB.out)⟩⟩
        · rw [if_neg c9] at H
          exact absurd H (by simp)
      · rw [if_neg c8] at H
        exact absurd H (by simp)
    · rw [if_neg c6] at H
      have c6b0 : decide (0 < (t329.length : Int)) = false := decide_eq_false c6
      have c6b1 : decide (0 < t329.length) = false := decide_eq_false (by omega)
      clear c6
      (first | rw [c6b0] | (simp only [i64_w, i32_w]; rw [c6b0]) | skip)
      have H' := Aside0.mk H
      clear H
      go_wp2
      go_meet
      case rel => exact ⟨_, (false), (by first | rfl | (simp; done) | (simp [*]; done)), H', ⟨by first | omega | exact Nat.le_refl _⟩, ⟨by (with_reducible repeat (first | apply Kd.R_alloc | apply Kd.R_drewN | apply Kd.R_drew)); exact HO331.out⟩, ⟨by repeat (first | (with_reducible first | exact HB.out | apply below_alloc | apply pw_below_drewN | apply below_drew1) | exact HB.out)⟩⟩
  case rest =>
    clear HC3
    try clear c2
    try clear p2
    try clear p3
    try clear q3
    try clear hx3
    try clear c4
    try clear c6
    try clear c6b0
    try clear c6b1
    try clear p6
    try clear c8
    try clear c8b0
    try clear c9
    try clear c9b0
    try clear hx332_0
    try clear p332
    try clear q332
    obtain ⟨kq, x19_2, rfl, HA, HJ2, HO_4, HB⟩ := hcut
    cases kq with
    | zero => exact absurd HA.out (by simp [texts_Lines.j0])
    | succ kj2 =>
      have H := HA.out
      clear HA
      simp only [texts_Lines.j0] at H
      by_cases c10 : x19_2 = true
      · subst c10
        have H1 : (if 0 ≤ (wrap64 ((t329.length : Int) - 1)) then (if (wrap64 ((t329.length : Int) - 1)) ≤ (t329.length : Int) then ((texts_Checks.f kj2 (([a0] : List ByteArray))).bind fun t339 => ((texts_wholes.f (t329.take ((wrap64 ((t329.length : Int) - 1)) : Int).toNat) t339).bind fun bt340 => (some (bt340.1, bt340.2)))) else (none)) else (none)) = some (r1, r2) := by rw [if_pos rfl] at H; exact H
        clear H
        have H := H1
        clear H1
        obtain ⟨ji11, hji11⟩ : ∃ j_ : Int, (wrap64 ((t329.length : Int) - 1)) = j_ := ⟨_, rfl⟩
        replace H : (if 0 ≤ (ji11) then (if (ji11) ≤ (t329.length : Int) then ((texts_Checks.f kj2 (([a0] : List ByteArray))).bind fun t339 => ((texts_wholes.f (t329.take ((ji11) : Int).toNat) t339).bind fun bt340 => (some (bt340.1, bt340.2)))) else (none)) else (none)) = some (r1, r2) := by first | (rw [hji11] at H; exact H) | (simp only [hji11] at H ⊢; exact H)
        have hji11w : (IntKind.i64.wrap ((t329.length : Int) - 1)) = ji11 := (i64_w _).trans hji11
        by_cases c12 : 0 ≤ (ji11)
        · rw [if_pos c12] at H
          have c12b0 := eq_true c12
          have c12b1 : decide (0 ≤ (ji11)) = true := decide_eq_true c12
          clear c12
          by_cases c13 : (ji11) ≤ (t329.length : Int)
          · rw [if_pos c13] at H
            have c13b0 := eq_true c13
            have c13b1 : decide ((ji11) ≤ (t329.length : Int)) = true := decide_eq_true c13
            clear c13
            obtain ⟨y333, hy333⟩ : ∃ y_ : List ByteArray, y_ = (t329.take ((ji11) : Int).toNat) := ⟨_, rfl⟩
            replace H : ((texts_Checks.f kj2 (([a0] : List ByteArray))).bind fun t339 => ((texts_wholes.f y333 t339).bind fun bt340 => (some (bt340.1, bt340.2)))) = some (r1, r2) := by first | (rw [hy333]; with_reducible exact H) | (have H2_ := (Option.bind_some _ _).symm.trans H; rw [hy333]; with_reducible exact H2_) | (have H2_ := (Option.bind_some _ _).symm.trans H; with_reducible exact H2_) | with_reducible exact H | (rw [hy333]; exact H) | exact H
            have Ny333 := Aside0.mk hy333
            clear hy333
            obtain ⟨y336, hy336⟩ : ∃ y_ : List ByteArray, y_ = (([a0] : List ByteArray)) := ⟨_, rfl⟩
            replace H : ((texts_Checks.f kj2 y336).bind fun t339 => ((texts_wholes.f y333 t339).bind fun bt340 => (some (bt340.1, bt340.2)))) = some (r1, r2) := by first | (rw [hy336]; with_reducible exact H) | (have H2_ := (Option.bind_some _ _).symm.trans H; rw [hy336]; with_reducible exact H2_) | (have H2_ := (Option.bind_some _ _).symm.trans H; with_reducible exact H2_) | with_reducible exact H | (rw [hy336]; exact H) | exact H
            have Ny336 := Aside0.mk hy336
            clear hy336
            replace H := Option.bind_eq_some_iff.mp H
            obtain ⟨t339, A140, H⟩ := H
            replace H : ((texts_wholes.f y333 t339).bind fun bt340 => (some (bt340.1, bt340.2))) = some (r1, r2) := H
            have A14 := Aside0.mk A140
            clear A140
            replace H := Option.bind_eq_some_iff.mp H
            obtain ⟨⟨t340, t343⟩, A150, H⟩ := H
            replace H : (some (t340, t343)) = some (r1, r2) := H
            have A15 := Aside0.mk A150
            clear A150
            simp only [Option.some.injEq, Prod.mk.injEq] at H
            obtain ⟨rfl, rfl⟩ := H
            have q16 : ((ji11) : Int) ≤ ((t329.length : Int) : Int) := of_decide_eq_true (by first | (with_reducible assumption) | assumption)
            obtain ⟨i016, hi016, _, hsz16, _⟩ := info_parts info9
            have hcut16 := cut_to (P := Tryd.prog) 28 9 .i64 Tryd.underlying28 hi016 Ao5 t329.length co5 (ji11) (of_decide_eq_true (by first | (with_reducible assumption) | assumption)) q16 (Kd.R_reads' HO_4.out).2.1
            have hr16 := Kd.R_take (m := ((ji11) : Int).toNat) HO_4.out (by omega)
            have hy16 : y333.length = ((ji11) : Int).toNat := (by rw [Ny333.out, List.length_take]; omega)
            rw [← Ny333.out] at hr16
            rw [← hy16] at hr16 hcut16
            clear hy16 hi016 hsz16 HO_4
            have HO335 := Aside0.mk hr16
            clear hr16
            replace q16 := eq_true q16
            go_wp2_with (first | ((with_reducible refine gate_dst (N := 26) rfl ?_); refine Kd.R_lit Kd.string _ 9 ?hg (N := 26) ?hd (xs := ([a0] : List ByteArray)) (inner := [.string a0]) (ok := fun _ => True) (okp := fun _ => True) ?hr ?hp (fun _ hk => hk) trivial (Below.refl _ _) (Nat.le_refl _) (by simp) ?_; (case hd => rfl); (case hg => rfl); (case hr => first | (go_simp; done) | (go_simp; rfl)); (case hp => exact (Reps.one (show Kd.M Kd.string _ _ _ a0 [.string a0] from rfl) (Reps.none _ _))); intro v337 w17 ho18 hb hg_ hnew_; clear hg_ hnew_; (first | rw [← Ny336.out] at ho18 | (simp only [Int.reduceToNat] at ho18; rw [← Ny336.out] at ho18)); have n0_ := Aside0.mk (Kd.R_elder' (by (with_reducible repeat (first | apply Kd.R_alloc | apply Kd.R_drewN | apply Kd.R_drew)); exact HO335.out) (Kd.R_base ho18) hb); have n1_ := Aside0.mk (Kd.R_lower (Kd.R_new' ho18 (Kd.R_lt (by (with_reducible repeat (first | apply Kd.R_alloc | apply Kd.R_drewN | apply Kd.R_drew)); exact HO335.out))) (below_size (by repeat (first | (with_reducible first | exact HB.out | apply below_alloc | apply pw_below_drewN | apply below_drew1) | exact HB.out)))); have n2_ := Aside0.mk (below_step (by repeat (first | (with_reducible first | exact HB.out | apply below_alloc | apply pw_below_drewN | apply below_drew1) | exact HB.out)) hb); clear HO335; clear HB; have HO335 := n0_; have HO338 := n1_; have HB := n2_; clear n0_ n1_ n2_; clear hb ho18; obtain ⟨Ao19, co19, eo19⟩ := Kd.R_slice HO338.out; subst eo19) | ((with_reducible refine gate_callee (f := 43) rfl ?_); refine goesL_ (some 27) rfl rfl Tryd.func43 (by kernel_rfl) rfl #[.slice Ao19 y336.length co19] rfl (by (try simp only [List.map_toArray, List.map_cons, List.map_nil]); first | done | rfl | (simp only [List.length_drop, List.length_take]; rfl)) ?_; (with_reducible refine (texts_Checks.calls kj2 _ _ y336 t339 _ ?side1 ?side2 ?side3 A14.out).mono ?_); (case side1 => repeat (first | exact (Kd.R_reads' HO338.out).2.2 | (with_reducible refine Kd.C_alloc ?_ _) | (with_reducible refine Kd.C_drewN ?_ _) | (with_reducible refine Kd.C_drew ?_))); (case side2 => exact (Kd.R_reads' HO338.out).2.1); (case side3 => exact Aside0.mk (GlobG.below (by repeat (first | (with_reducible first | exact HB.out | apply below_alloc | apply pw_below_drewN | apply below_drew1) | exact HB.out)) hG.out)); rintro e w20 ⟨rfl, hb⟩; refine ⟨_, rfl, ?_⟩; have n0_ := Aside0.mk (Kd.R_below (by (with_reducible repeat (first | apply Kd.R_alloc | apply Kd.R_drewN | apply Kd.R_drew)); exact HO335.out) hb); have n1_ := Aside0.mk (Kd.R_below (by (with_reducible repeat (first | apply Kd.R_alloc | apply Kd.R_drewN | apply Kd.R_drew)); exact HO338.out) hb); have n2_ := Aside0.mk (below_step (by repeat (first | (with_reducible first | exact HB.out | apply below_alloc | apply pw_below_drewN | apply below_drew1) | exact HB.out)) hb); clear HO335; clear HO338; clear HB; have HO335 := n0_; have HO338 := n1_; have HB := n2_; clear n0_ n1_ n2_; (try clear hb); (try clear hb2); (try clear hk); (try clear hi)) | ((with_reducible refine gate_callee (f := 44) rfl ?_); refine goesL_ (some 28) rfl rfl Tryd.func44 (by kernel_rfl) rfl #[.slice Ao5 y333.length co5, .int .i64 t339] rfl (by (try simp only [List.map_toArray, List.map_cons, List.map_nil]); first | done | rfl | (simp only [List.length_drop, List.length_take]; rfl)) ?_; (with_reducible refine (texts_wholes.calls (fun k_ => some k_ = (.slice Ao5 y333.length co5 : Value).ownBlock) (.slice Ao5 y333.length co5) y333 t339 t340 t343 w _ ?side1 ?side2 A15.out).mono ?_); (case side1 => repeat (first | (with_reducible first | exact HB.out | apply below_alloc | apply pw_below_drewN | apply below_drew1) | exact HB.out)); (case side2 => exact Kd.R_tight rfl HO335.out); rintro e w21 ⟨v341, rfl, ho0, hb, hkp⟩; refine ⟨_, rfl, ?_⟩; have n0_ := Aside0.mk (Kd.R_mono (ok' := fun k_ => some k_ ≠ (v341 : Value).ownBlock) (Kd.R_keptB (HO338.out) hkp (fun k_ hk_ hs_ => (hk_.2) hs_)) (fun k_ hk_ => fun e_ => Or.elim (ho0.1 k_ e_.symm) (fun hs_ => hk_.2.1 hs_) (fun hn_ => Nat.not_le.2 hk_.2.2 hn_))); have n1_ := Aside0.mk (Kd.R_mono (ok' := fun k_ => some k_ ≠ (.slice Ao19 y336.length co19 : Value).ownBlock) ho0 (fun k_ hk_ => Or.elim hk_ (fun hs_ => fun e_ => (((HO338.out).1 k_ e_.symm).2) hs_) (fun hn_ => (Kd.fresh' (Kd.R_lt (by (with_reducible repeat (first | apply Kd.R_alloc | apply Kd.R_drewN | apply Kd.R_drew)); exact HO338.out)) k_ hn_)))); have n2_ := Aside0.mk (hb); clear HO338; clear HB; clear HO335; have HO338 := n0_; have HO342 := n1_; have HB := n2_; clear n0_ n1_ n2_; (try clear hb); (try clear hkp); (try clear ho0)))
            go_ret2
            exact ⟨_, by first | rfl | (simp [errW_none, errW_some] <;> rfl) | (simp only [← hji11]; first | rfl | (simp [errW_none, errW_some] <;> rfl)) | (simp [*, errW_none, errW_some] <;> rfl), by (with_reducible repeat (first | apply Kd.R_alloc | apply Kd.R_drewN | apply Kd.R_drew)); exact Kd.R_mono HO342.out (fun _ hk => trivial), by repeat (first | (with_reducible first | exact HB.out | apply below_alloc | apply pw_below_drewN | apply below_drew1) | exact HB.out)⟩
          · rw [if_neg c13] at H
            exact absurd H (by simp)
        · rw [if_neg c12] at H
          exact absurd H (by simp)
      · replace c10 := Bool.eq_false_iff.mpr c10
        subst c10
        have H1 : ((texts_Checks.f kj2 (([a0] : List ByteArray))).bind fun t347 => ((texts_wholes.f t329 t347).bind fun bt348 => (some (bt348.1, bt348.2)))) = some (r1, r2) := by rw [if_neg (show ¬ (false = true) by decide)] at H; exact H
        clear H
        have H := H1
        clear H1
        obtain ⟨y344, hy344⟩ : ∃ y_ : List ByteArray, y_ = (([a0] : List ByteArray)) := ⟨_, rfl⟩
        replace H : ((texts_Checks.f kj2 y344).bind fun t347 => ((texts_wholes.f t329 t347).bind fun bt348 => (some (bt348.1, bt348.2)))) = some (r1, r2) := by first | (rw [hy344]; with_reducible exact H) | (have H2_ := (Option.bind_some _ _).symm.trans H; rw [hy344]; with_reducible exact H2_) | (have H2_ := (Option.bind_some _ _).symm.trans H; with_reducible exact H2_) | with_reducible exact H | (rw [hy344]; exact H) | exact H
        have Ny344 := Aside0.mk hy344
        clear hy344
        replace H := Option.bind_eq_some_iff.mp H
        obtain ⟨t347, A220, H⟩ := H
        replace H : ((texts_wholes.f t329 t347).bind fun bt348 => (some (bt348.1, bt348.2))) = some (r1, r2) := H
        have A22 := Aside0.mk A220
        clear A220
        replace H := Option.bind_eq_some_iff.mp H
        obtain ⟨⟨t348, t351⟩, A230, H⟩ := H
        replace H : (some (t348, t351)) = some (r1, r2) := H
        have A23 := Aside0.mk A230
        clear A230
        simp only [Option.some.injEq, Prod.mk.injEq] at H
        obtain ⟨rfl, rfl⟩ := H
        go_wp2_with (first | ((with_reducible refine gate_dst (N := 26) rfl ?_); refine Kd.R_lit Kd.string _ 9 ?hg (N := 26) ?hd (xs := ([a0] : List ByteArray)) (inner := [.string a0]) (ok := fun _ => True) (okp := fun _ => True) ?hr ?hp (fun _ hk => hk) trivial (Below.refl _ _) (Nat.le_refl _) (by simp) ?_; (case hd => rfl); (case hg => rfl); (case hr => first | (go_simp; done) | (go_simp; rfl)); (case hp => exact (Reps.one (show Kd.M Kd.string _ _ _ a0 [.string a0] from rfl) (Reps.none _ _))); intro v345 w24 ho25 hb hg_ hnew_; clear hg_ hnew_; (first | rw [← Ny344.out] at ho25 | (simp only [Int.reduceToNat] at ho25; rw [← Ny344.out] at ho25)); have n0_ := Aside0.mk (Kd.R_elder' (by (with_reducible repeat (first | apply Kd.R_alloc | apply Kd.R_drewN | apply Kd.R_drew)); exact HO_4.out) (Kd.R_base ho25) hb); have n1_ := Aside0.mk (Kd.R_lower (Kd.R_new' ho25 (Kd.R_lt (by (with_reducible repeat (first | apply Kd.R_alloc | apply Kd.R_drewN | apply Kd.R_drew)); exact HO_4.out))) (below_size (by repeat (first | (with_reducible first | exact HB.out | apply below_alloc | apply pw_below_drewN | apply below_drew1) | exact HB.out)))); have n2_ := Aside0.mk (below_step (by repeat (first | (with_reducible first | exact HB.out | apply below_alloc | apply pw_below_drewN | apply below_drew1) | exact HB.out)) hb); clear HO_4; clear HB; have HO_4 := n0_; have HO346 := n1_; have HB := n2_; clear n0_ n1_ n2_; clear hb ho25; obtain ⟨Ao26, co26, eo26⟩ := Kd.R_slice HO346.out; subst eo26) | ((with_reducible refine gate_callee (f := 43) rfl ?_); refine goesL_ (some 27) rfl rfl Tryd.func43 (by kernel_rfl) rfl #[.slice Ao26 y344.length co26] rfl (by (try simp only [List.map_toArray, List.map_cons, List.map_nil]); first | done | rfl | (simp only [List.length_drop, List.length_take]; rfl)) ?_; (with_reducible refine (texts_Checks.calls kj2 _ _ y344 t347 _ ?side1 ?side2 ?side3 A22.out).mono ?_); (case side1 => repeat (first | exact (Kd.R_reads' HO346.out).2.2 | (with_reducible refine Kd.C_alloc ?_ _) | (with_reducible refine Kd.C_drewN ?_ _) | (with_reducible refine Kd.C_drew ?_))); (case side2 => exact (Kd.R_reads' HO346.out).2.1); (case side3 => exact Aside0.mk (GlobG.below (by repeat (first | (with_reducible first | exact HB.out | apply below_alloc | apply pw_below_drewN | apply below_drew1) | exact HB.out)) hG.out)); rintro e w27 ⟨rfl, hb⟩; refine ⟨_, rfl, ?_⟩; have n0_ := Aside0.mk (Kd.R_below (by (with_reducible repeat (first | apply Kd.R_alloc | apply Kd.R_drewN | apply Kd.R_drew)); exact HO_4.out) hb); have n1_ := Aside0.mk (Kd.R_below (by (with_reducible repeat (first | apply Kd.R_alloc | apply Kd.R_drewN | apply Kd.R_drew)); exact HO346.out) hb); have n2_ := Aside0.mk (below_step (by repeat (first | (with_reducible first | exact HB.out | apply below_alloc | apply pw_below_drewN | apply below_drew1) | exact HB.out)) hb); clear HO_4; clear HO346; clear HB; have HO_4 := n0_; have HO346 := n1_; have HB := n2_; clear n0_ n1_ n2_; (try clear hb); (try clear hb2); (try clear hk); (try clear hi)) | ((with_reducible refine gate_callee (f := 44) rfl ?_); refine goesL_ (some 28) rfl rfl Tryd.func44 (by kernel_rfl) rfl #[.slice Ao5 t329.length co5, .int .i64 t347] rfl (by (try simp only [List.map_toArray, List.map_cons, List.map_nil]); first | done | rfl | (simp only [List.length_drop, List.length_take]; rfl)) ?_; (with_reducible refine (texts_wholes.calls (fun k_ => some k_ = (.slice Ao5 t329.length co5 : Value).ownBlock) (.slice Ao5 t329.length co5) t329 t347 t348 t351 w _ ?side1 ?side2 A23.out).mono ?_); (case side1 => repeat (first | (with_reducible first | exact HB.out | apply below_alloc | apply pw_below_drewN | apply below_drew1) | exact HB.out)); (case side2 => exact Kd.R_tight rfl HO_4.out); rintro e w28 ⟨v349, rfl, ho0, hb, hkp⟩; refine ⟨_, rfl, ?_⟩; have n0_ := Aside0.mk (Kd.R_mono (ok' := fun k_ => some k_ ≠ (v349 : Value).ownBlock) (Kd.R_keptB (HO346.out) hkp (fun k_ hk_ hs_ => (hk_.2) hs_)) (fun k_ hk_ => fun e_ => Or.elim (ho0.1 k_ e_.symm) (fun hs_ => hk_.2.1 hs_) (fun hn_ => Nat.not_le.2 hk_.2.2 hn_))); have n1_ := Aside0.mk (Kd.R_mono (ok' := fun k_ => some k_ ≠ (.slice Ao26 y344.length co26 : Value).ownBlock) ho0 (fun k_ hk_ => Or.elim hk_ (fun hs_ => fun e_ => (((HO346.out).1 k_ e_.symm).2) hs_) (fun hn_ => (Kd.fresh' (Kd.R_lt (by (with_reducible repeat (first | apply Kd.R_alloc | apply Kd.R_drewN | apply Kd.R_drew)); exact HO346.out)) k_ hn_)))); have n2_ := Aside0.mk (hb); clear HO346; clear HB; clear HO_4; have HO346 := n0_; have HO350 := n1_; have HB := n2_; clear n0_ n1_ n2_; (try clear hb); (try clear hkp); (try clear ho0)))
        go_ret2
        exact ⟨_, by first | rfl | (simp [errW_none, errW_some] <;> rfl) | (simp [*, errW_none, errW_some] <;> rfl), by (with_reducible repeat (first | apply Kd.R_alloc | apply Kd.R_drewN | apply Kd.R_drew)); exact Kd.R_mono HO350.out (fun _ hk => trivial), by repeat (first | (with_reducible first | exact HB.out | apply below_alloc | apply pw_below_drewN | apply below_drew1) | exact HB.out)⟩
def bolterref04_Runes.l0 : Nat → ByteArray → List Int → Int → Option (List Int × Int)
  | 0, _, _, _ => none
  | k + 1, x0, x6, x7 => if x7 < (x0.size : Int) then (if 0 ≤ x7 then (if x7 ≤ (x0.size : Int) then ((bolterref04_First.f k (x0.extract (x7 : Int).toNat x0.size)).bind fun bt354 => (if x6.length < 17592186044416 then (bolterref04_Runes.l0 k x0 (x6 ++ [bt354.1]) (wrap64 (x7 + bt354.2))) else (none))) else (none)) else (none)) else (some (x6, 0))
def bolterref04_Runes.f (k : Nat) (a0 : ByteArray) : Option (List Int × Int) := (bolterref04_Check.f k a0).bind fun bt352 => (if bt352.2 = 0 then (bolterref04_Runes.l0 k a0 ([] : List Int) 0) else (some (([] : List Int), bt352.2)))
set_option maxHeartbeats 8000000 in
set_option maxRecDepth 100000 in
theorem bolterref04_Runes.calls (k : Nat) (a0 : ByteArray) (r1 : List Int) (r2 : Int) (w : World) (h : bolterref04_Runes.f k a0 = some (r1, r2)) :
    Calls Tryd.prog 89 #[.string a0] w fun e w' => ∃ v0_ : Value, e = .returned (.tuple #[v0_, .int .i64 r2]) ∧ Kd.R (Kd.int .i64) 3 w' w.heap.size (fun _ => True) v0_ r1 ∧ Below w.heap.size w w' := by
  have HB := Aside0.mk (Below.refl w.heap.size w)
  have H : ((bolterref04_Check.f k a0).bind fun bt352 => (if bt352.2 = 0 then (bolterref04_Runes.l0 k a0 ([] : List Int) 0) else (some (([] : List Int), bt352.2)))) = some (r1, r2) := h
  clear h
  replace H := Option.bind_eq_some_iff.mp H
  obtain ⟨⟨t352, t353⟩, A20, H⟩ := H
  replace H : (if t353 = 0 then (bolterref04_Runes.l0 k a0 ([] : List Int) 0) else (some (([] : List Int), t353))) = some (r1, r2) := H
  have A2 := Aside0.mk A20
  clear A20
  by_cases c3 : t353 = 0
  · rw [if_pos c3] at H
    have c3b0 : (t353 == 0) = true := beq_iff_eq.mpr c3
    have c3b1 : (t353 != 0) = false := bne_eq_false_iff_eq.mpr c3
    clear c3
    have H' := Aside0.mk H
    clear H
    go_enter Tryd.func89, Tryd.ntmps89
    go_wp2_with (first | ((with_reducible refine gate_callee (f := 20) rfl ?_); refine goesL_ (some 12) rfl rfl Tryd.func20 (by kernel_rfl) rfl #[.string a0] rfl (by (try simp only [List.map_toArray, List.map_cons, List.map_nil]); first | done | rfl | (simp only [List.length_drop, List.length_take]; rfl)) ?_; (with_reducible refine (bolterref04_Check.calls k a0 t352 t353 _ A2.out).mono ?_); rintro e w4 ⟨rfl, hb⟩; refine ⟨_, rfl, ?_⟩; have n0_ := Aside0.mk (below_step (by repeat (first | (with_reducible first | exact HB.out | apply below_alloc | apply pw_below_drewN | apply below_drew1) | exact HB.out)) hb); clear HB; have HB := n0_; clear n0_; (try clear hb); (try clear hb2); (try clear hk); (try clear hi)))
    go_loopg [6, 7] k (fun kq v6 v7 w' => ∃ (x6_1 : List Int) (x7_1 : Int), v7 = .int .i64 x7_1 ∧ Aside0 (bolterref04_Runes.l0 kq a0 x6_1 x7_1 = some (r1, r2)) ∧ Aside0 (kq ≤ k) ∧ Aside0 (Kd.R (Kd.int .i64) 3 w' w.heap.size (fun _ => True) v6 x6_1) ∧ Aside0 (Below w.heap.size w w'))
    case atStart => exact ⟨(([] : List Int)), (0), (by first | rfl | (simp; done) | (simp [*]; done)), H', ⟨Nat.le_refl _⟩, ⟨by first | exact Kd.R_nil _ _ _ _ _ | exact Kd.N_nil _ _ _ _ _ | exact Kd.V_nil _ _ _ _ _ | exact Kd.Q_nil _ _ _ _ _ | exact Kd.S_nil _ _ _ _ _⟩, ⟨by repeat (first | (with_reducible first | exact HB.out | apply below_alloc | apply pw_below_drewN | apply below_drew1) | exact HB.out)⟩⟩
    case round =>
      clear H'
      try clear c2
      try clear p2
      try clear c3
      try clear c3b0
      try clear c3b1
      obtain ⟨x6_1, x7_1, rfl, HA, HK1, HO_6, HB⟩ := hrel
      cases gk with
      | zero => exact absurd HA.out (by simp [bolterref04_Runes.l0])
      | succ k1 =>
        have H := HA.out
        clear HA
        simp only [bolterref04_Runes.l0] at H
        by_cases c5 : x7_1 < (a0.size : Int)
        · rw [if_pos c5] at H
          have c5b0 : decide (x7_1 < (a0.size : Int)) = true := decide_eq_true c5
          clear c5
          by_cases c6 : 0 ≤ x7_1
          · rw [if_pos c6] at H
            have c6b0 := eq_true c6
            have c6b1 : decide (0 ≤ x7_1) = true := decide_eq_true c6
            clear c6
            by_cases c7 : x7_1 ≤ (a0.size : Int)
            · rw [if_pos c7] at H
              have c7b0 := eq_true c7
              have c7b1 : decide (x7_1 ≤ (a0.size : Int)) = true := decide_eq_true c7
              clear c7
              replace H := Option.bind_eq_some_iff.mp H
              obtain ⟨⟨t354, t355⟩, A80, H⟩ := H
              replace H : (if x6_1.length < 17592186044416 then (bolterref04_Runes.l0 k1 a0 (x6_1 ++ [t354]) (wrap64 (x7_1 + t355))) else (none)) = some (r1, r2) := H
              have A8 := Aside0.mk A80
              clear A80
              by_cases c9 : x6_1.length < 17592186044416
              · rw [if_pos c9] at H
                have LMc9 := Aside0.mk c9
                clear c9
                obtain ⟨y356, hy356⟩ : ∃ y_ : List Int, y_ = (x6_1 ++ [t354]) := ⟨_, rfl⟩
                replace H : (bolterref04_Runes.l0 k1 a0 y356 (wrap64 (x7_1 + t355))) = some (r1, r2) := by first | (rw [hy356]; with_reducible exact H) | (have H2_ := (Option.bind_some _ _).symm.trans H; rw [hy356]; with_reducible exact H2_) | (have H2_ := (Option.bind_some _ _).symm.trans H; with_reducible exact H2_) | with_reducible exact H | (rw [hy356]; exact H) | exact H
                have Ny356 := Aside0.mk hy356
                clear hy356
                have H' := Aside0.mk H
                clear H
                go_wp2_with (first | ((with_reducible refine gate_callee (f := 54) rfl ?_); refine goesL_ (some 26) rfl rfl Tryd.func54 (by kernel_rfl) rfl #[.string (a0.extract (x7_1 : Int).toNat a0.size)] rfl (by (try simp only [List.map_toArray, List.map_cons, List.map_nil]); first | done | rfl | (simp only [List.length_drop, List.length_take]; rfl)) ?_; (with_reducible refine (bolterref04_First.calls k1 (a0.extract (x7_1 : Int).toNat a0.size) t354 t355 _ A8.out).mono ?_); rintro e w10 ⟨rfl, hb⟩; refine ⟨_, rfl, ?_⟩; have n0_ := Aside0.mk (Kd.R_below (by (with_reducible repeat (first | apply Kd.R_alloc | apply Kd.R_drewN | apply Kd.R_drew)); exact HO_6.out) hb); have n1_ := Aside0.mk (below_step (by repeat (first | (with_reducible first | exact HB.out | apply below_alloc | apply pw_below_drewN | apply below_drew1) | exact HB.out)) hb); clear HO_6; clear HB; have HO_6 := n0_; have HB := n1_; clear n0_ n1_; (try clear hb); (try clear hb2); (try clear hk); (try clear hi)) | ((with_reducible refine gate_builtin (b := .append) (xs := #[.tmp 29, .tmp 31]) rfl ?_); at_builtin; refine Kd.R_append (Kd.int .i64) (w0 := w) w.heap.size rfl (.tmp 29) (.tmp 31) 103 3 (.int .i64 0) 8 rfl Tryd.underlying103 info3 rfl (by decide) (by omega) u6 x6_1 t354 [.int .i64 t354] (fun _ => True) (fun _ => False) rfl rfl ?aP (fun _ hk => hk.elim) ?aF ?aO ?aB ?aS ?aL ?_; (case aP => exact rfl); (case aB => exact (by repeat (first | (with_reducible first | exact HB.out | apply below_alloc | apply pw_below_drewN | apply below_drew1) | exact HB.out))); (case aF => exact (fun _ _ => trivial)); (case aO => exact (by (with_reducible repeat (first | apply Kd.R_alloc | apply Kd.R_drewN | apply Kd.R_drew)); exact HO_6.out)); (case aS => exact (below_size (by repeat (first | (with_reducible first | exact HB.out | apply below_alloc | apply pw_below_drewN | apply below_drew1) | exact HB.out)))); (case aL => have := LMc9.out; omega); intro v357 w11 ho hb hg hat; rw [← Ny356.out] at ho; have n0_ := Aside0.mk (hb); have n1_ := Aside0.mk (ho); clear HB; clear HO_6; have HB := n0_; have HO358 := n1_; clear n0_ n1_; clear ho hb hg hat))
                go_roundg k1
                case measure => have := HK1.out; omega
                case rel => exact ⟨(y356), (wrap64 (x7_1 + t355)), (by first | rfl | (simp; done) | (simp [*]; done)), H', ⟨by have := HK1.out; omega⟩, ⟨by (with_reducible repeat (first | apply Kd.R_alloc | apply Kd.R_drewN | apply Kd.R_drew)); exact HO358.out⟩, ⟨by repeat (first | (with_reducible first | exact HB.out | apply below_alloc | apply pw_below_drewN | apply below_drew1) | exact HB.out)⟩⟩
              · rw [if_neg c9] at H
                exact absurd H (by simp)
            · rw [if_neg c7] at H
              exact absurd H (by simp)
          · rw [if_neg c6] at H
            exact absurd H (by simp)
        · rw [if_neg c5] at H
          have c5b0 : decide (x7_1 < (a0.size : Int)) = false := decide_eq_false c5
          clear c5
          simp only [Option.some.injEq, Prod.mk.injEq] at H
          obtain ⟨rfl, rfl⟩ := H
          go_wp2
          go_ret2
          exact ⟨_, by first | rfl | (simp [errW_none, errW_some] <;> rfl) | (simp [*, errW_none, errW_some] <;> rfl), by (with_reducible repeat (first | apply Kd.R_alloc | apply Kd.R_drewN | apply Kd.R_drew)); exact HO_6.out, by repeat (first | (with_reducible first | exact HB.out | apply below_alloc | apply pw_below_drewN | apply below_drew1) | exact HB.out)⟩
  · rw [if_neg c3] at H
    have c3b0 : (t353 == 0) = false := beq_eq_false_iff_ne.mpr c3
    have c3b1 : (t353 != 0) = true := bne_iff_ne.mpr c3
    simp only [Option.some.injEq, Prod.mk.injEq] at H
    obtain ⟨rfl, rfl⟩ := H
    go_enter Tryd.func89, Tryd.ntmps89
    go_wp2_with (first | ((with_reducible refine gate_callee (f := 20) rfl ?_); refine goesL_ (some 12) rfl rfl Tryd.func20 (by kernel_rfl) rfl #[.string a0] rfl (by (try simp only [List.map_toArray, List.map_cons, List.map_nil]); first | done | rfl | (simp only [List.length_drop, List.length_take]; rfl)) ?_; (with_reducible refine (bolterref04_Check.calls k a0 t352 t353 _ A2.out).mono ?_); rintro e w12 ⟨rfl, hb⟩; refine ⟨_, rfl, ?_⟩; have n0_ := Aside0.mk (below_step (by repeat (first | (with_reducible first | exact HB.out | apply below_alloc | apply pw_below_drewN | apply below_drew1) | exact HB.out)) hb); clear HB; have HB := n0_; clear n0_; (try clear hb); (try clear hb2); (try clear hk); (try clear hi)))
    go_ret2
    exact ⟨_, by first | rfl | (simp [errW_none, errW_some] <;> rfl) | (simp [*, errW_none, errW_some] <;> rfl), by first | exact Kd.R_nil _ _ _ _ _ | exact Kd.N_nil _ _ _ _ _ | exact Kd.V_nil _ _ _ _ _ | exact Kd.Q_nil _ _ _ _ _ | exact Kd.S_nil _ _ _ _ _, by repeat (first | (with_reducible first | exact HB.out | apply below_alloc | apply pw_below_drewN | apply below_drew1) | exact HB.out)⟩
end Go.Proofs.YtdhjdddjgcfhkaaDoor.B

end

section
namespace Go.Proofs.YtdhjdddjgcfhkaaDoor.B
open Go.RowKit Go.Proofs.YtdhjdddjgcfhkaaDoorW.PrintWords Go.Proofs.YtdhjdddjgcfhkaaDoorW.PrintLast Go.Proofs.YtdhjdddjgcfhkaaDoorW.PrintMore
attribute [local go_sem] max2_int min2_int max_two min_two max_three min_three max_four min_four   -- for this text's walks alone
set_option linter.unusedVariables false
set_option linter.unusedSimpArgs false

mutual
def bolterref11_Cut.l0 : Nat → List ByteArray → List Int → Int → Option (List ByteArray)
  | 0, _, _, _ => none
  | k + 1, x5, x6, x8 => if x8 < (x6.length : Int) then (if 0 ≤ x8 then ((bolterref04_Octets.f (rd x6 x8)).bind fun t364 => (if x5.length < 8796093022208 then (bolterref11_Cut.l0 k (x5 ++ [strOfNums t364]) x6 (wrap64 (x8 + 1))) else (none))) else (none)) else (some x5)
def bolterref11_Cut.l1 : Nat → ByteArray → ByteArray → List ByteArray → Int → Int → Option (List ByteArray)
  | 0, _, _, _, _, _ => none
  | k + 1, x0, x1, x5, x9, x10 => if x10 ≤ (x0.size : Int) then (if (wrap64 ((x0.size : Int) - x10)) ≥ (x1.size : Int) then (if 0 ≤ x10 then (if x10 ≤ (wrap64 (x10 + (x1.size : Int))) then (if (wrap64 (x10 + (x1.size : Int))) ≤ (x0.size : Int) then (if (x0.extract (x10 : Int).toNat ((wrap64 (x10 + (x1.size : Int))) : Int).toNat).toList = x1.toList then (if 0 ≤ x9 then (if x9 ≤ x10 then (if x5.length < 8796093022208 then (bolterref11_Cut.l1 k x0 x1 (x5 ++ [x0.extract (x9 : Int).toNat (x10 : Int).toNat]) (wrap64 (x10 + (x1.size : Int))) (wrap64 (x10 + (x1.size : Int)))) else (none)) else (none)) else (none)) else (bolterref11_Cut.l1 k x0 x1 x5 x9 (wrap64 (x10 + 1)))) else (none)) else (none)) else (none)) else (bolterref11_Cut.l1 k x0 x1 x5 x9 (wrap64 (x10 + 1)))) else (if 0 ≤ x9 then (if x9 ≤ (x0.size : Int) then (if x5.length < 8796093022208 then (some (x5 ++ [x0.extract (x9 : Int).toNat x0.size])) else (none)) else (none)) else (none))
end
def bolterref11_Cut.f (k : Nat) (a0 : ByteArray) (a1 : ByteArray) : Option (List ByteArray) := if a0.toList = ([] : List UInt8) then (some ([] : List ByteArray)) else (if a1.toList = ([] : List UInt8) then ((bolterref04_Runes.f k a0).bind fun bt359 => (bolterref11_Cut.l0 k ([] : List ByteArray) bt359.1 0)) else (bolterref11_Cut.l1 k a0 a1 ([] : List ByteArray) 0 0))
set_option maxHeartbeats 8000000 in
set_option maxRecDepth 100000 in
theorem bolterref11_Cut.calls (k : Nat) (a0 : ByteArray) (a1 : ByteArray) (r : List ByteArray) (w : World) (h : bolterref11_Cut.f k a0 a1 = some r) :
    Calls Tryd.prog 61 #[.string a0, .string a1] w fun e w' => ∃ v0_ : Value, e = .returned (v0_) ∧ Kd.R Kd.string 9 w' w.heap.size (fun _ => True) v0_ r ∧ Below w.heap.size w w' := by
  have HB := Aside0.mk (Below.refl w.heap.size w)
  have H : (if a0.toList = ([] : List UInt8) then (some ([] : List ByteArray)) else (if a1.toList = ([] : List UInt8) then ((bolterref04_Runes.f k a0).bind fun bt359 => (bolterref11_Cut.l0 k ([] : List ByteArray) bt359.1 0)) else (bolterref11_Cut.l1 k a0 a1 ([] : List ByteArray) 0 0))) = some r := h
  clear h
  by_cases c3 : a0.toList = ([] : List UInt8)
  · rw [if_pos c3] at H
    have c3b0 : (a0.toList == ([] : List UInt8)) = true := beq_iff_eq.mpr c3
    have c3b1 : (a0.toList != ([] : List UInt8)) = false := bne_eq_false_iff_eq.mpr c3
    clear c3
    obtain rfl := Option.some.inj H
    go_enter Tryd.func61, Tryd.ntmps61
    go_wp2
    go_ret
    exact ⟨_, by first | rfl | (simp [errW_none, errW_some] <;> rfl) | (simp [*, errW_none, errW_some] <;> rfl), by first | exact Kd.R_nil _ _ _ _ _ | exact Kd.N_nil _ _ _ _ _ | exact Kd.V_nil _ _ _ _ _ | exact Kd.Q_nil _ _ _ _ _ | exact Kd.S_nil _ _ _ _ _, by repeat (first | (with_reducible first | exact HB.out | apply below_alloc | apply pw_below_drewN | apply below_drew1) | exact HB.out)⟩
  · rw [if_neg c3] at H
    have c3b0 : (a0.toList == ([] : List UInt8)) = false := beq_eq_false_iff_ne.mpr c3
    have c3b1 : (a0.toList != ([] : List UInt8)) = true := bne_iff_ne.mpr c3
    by_cases c4 : a1.toList = ([] : List UInt8)
    · rw [if_pos c4] at H
      have c4b0 : (a1.toList == ([] : List UInt8)) = true := beq_iff_eq.mpr c4
      have c4b1 : (a1.toList != ([] : List UInt8)) = false := bne_eq_false_iff_eq.mpr c4
      clear c4
      replace H := Option.bind_eq_some_iff.mp H
      obtain ⟨⟨t359, t360⟩, A50, H⟩ := H
      replace H : (bolterref11_Cut.l0 k ([] : List ByteArray) t359 0) = some r := H
      have A5 := Aside0.mk A50
      clear A50
      have H' := Aside0.mk H
      clear H
      go_enter Tryd.func61, Tryd.ntmps61
      go_wp2_with (first | ((with_reducible refine gate_callee (f := 89) rfl ?_); refine goesL_ (some 17) rfl rfl Tryd.func89 (by kernel_rfl) rfl #[.string a0] rfl (by (try simp only [List.map_toArray, List.map_cons, List.map_nil]); first | done | rfl | (simp only [List.length_drop, List.length_take]; rfl)) ?_; (with_reducible refine (bolterref04_Runes.calls k a0 t359 t360 _ A5.out).mono ?_); rintro e w6 ⟨v361, rfl, ho0, hb⟩; refine ⟨_, rfl, ?_⟩; have n0_ := Aside0.mk (Kd.R_lower ho0 (below_size (by repeat (first | (with_reducible first | exact HB.out | apply below_alloc | apply pw_below_drewN | apply below_drew1) | exact HB.out)))); have n1_ := Aside0.mk (below_step (by repeat (first | (with_reducible first | exact HB.out | apply below_alloc | apply pw_below_drewN | apply below_drew1) | exact HB.out)) hb); clear HB; have HO362 := n0_; have HB := n1_; clear n0_ n1_; (try clear hb); (try clear hb2); (try clear hk); (try clear hi); (try clear ho0)))
      go_loopg [5, 8] k (fun kq v5 v8 w' => ∃ (x5_1 : List ByteArray) (x8_1 : Int), v8 = .int .i64 x8_1 ∧ Aside0 (bolterref11_Cut.l0 kq x5_1 t359 x8_1 = some r) ∧ Aside0 (kq ≤ k) ∧ Aside0 (Kd.R Kd.string 9 w' w.heap.size (fun _ => True) v5 x5_1) ∧ Aside0 (Kd.R (Kd.int .i64) 3 w' w.heap.size (fun _ => True) v361 t359) ∧ Aside0 (Below w.heap.size w w'))
      case atStart => exact ⟨(([] : List ByteArray)), (0), (by first | rfl | (simp; done) | (simp [*]; done)), H', ⟨Nat.le_refl _⟩, ⟨by first | exact Kd.R_nil _ _ _ _ _ | exact Kd.N_nil _ _ _ _ _ | exact Kd.V_nil _ _ _ _ _ | exact Kd.Q_nil _ _ _ _ _ | exact Kd.S_nil _ _ _ _ _⟩, ⟨by (with_reducible repeat (first | apply Kd.R_alloc | apply Kd.R_drewN | apply Kd.R_drew)); exact HO362.out⟩, ⟨by repeat (first | (with_reducible first | exact HB.out | apply below_alloc | apply pw_below_drewN | apply below_drew1) | exact HB.out)⟩⟩
      case round =>
        clear H'
        try clear p2
        try clear c3
        try clear c3b0
        try clear c3b1
        try clear c4
        try clear c4b0
        try clear c4b1
        try clear c6
        obtain ⟨x5_1, x8_1, rfl, HA, HK1, HO_5, HO_6, HB⟩ := hrel
        cases gk with
        | zero => exact absurd HA.out (by simp [bolterref11_Cut.l0])
        | succ k1 =>
          have H := HA.out
          clear HA
          simp only [bolterref11_Cut.l0] at H
          by_cases c7 : x8_1 < (t359.length : Int)
          · rw [if_pos c7] at H
            have c7b0 : decide (x8_1 < (t359.length : Int)) = true := decide_eq_true c7
            clear c7
            by_cases c8 : 0 ≤ x8_1
            · rw [if_pos c8] at H
              have c8b0 : decide (0 ≤ x8_1) = true := decide_eq_true c8
              clear c8
              replace H := Option.bind_eq_some_iff.mp H
              obtain ⟨t364, A90, H⟩ := H
              replace H : (if x5_1.length < 8796093022208 then (bolterref11_Cut.l0 k1 (x5_1 ++ [strOfNums t364]) t359 (wrap64 (x8_1 + 1))) else (none)) = some r := H
              have A9 := Aside0.mk A90
              clear A90
              by_cases c10 : x5_1.length < 8796093022208
              · rw [if_pos c10] at H
                have LMc10 := Aside0.mk c10
                clear c10
                obtain ⟨y367, hy367⟩ : ∃ y_ : List ByteArray, y_ = (x5_1 ++ [strOfNums t364]) := ⟨_, rfl⟩
                replace H : (bolterref11_Cut.l0 k1 y367 t359 (wrap64 (x8_1 + 1))) = some r := by first | (rw [hy367]; with_reducible exact H) | (have H2_ := (Option.bind_some _ _).symm.trans H; rw [hy367]; with_reducible exact H2_) | (have H2_ := (Option.bind_some _ _).symm.trans H; with_reducible exact H2_) | with_reducible exact H | (rw [hy367]; exact H) | exact H
                have Ny367 := Aside0.mk hy367
                clear hy367
                have H' := Aside0.mk H
                clear H
                obtain ⟨Ao11, co11, eo11⟩ := Kd.R_slice HO_6.out
                subst eo11
                have p363 : 0 ≤ (x8_1 : Int) := of_decide_eq_true (by first | (with_reducible assumption) | assumption)
                have q363 : x8_1 < (t359.length : Int) := of_decide_eq_true (by first | (with_reducible assumption) | assumption)
                obtain ⟨ad363, e363, hx363_0⟩ := Kd.at_int (Kd.R_reads' HO_6.out).2.2 x8_1 p363 q363
                cases e363
                replace p363 := eq_true p363
                replace q363 := eq_true q363
                go_wp2_with (first | ((with_reducible refine gate_callee (f := 85) rfl ?_); refine goesL_ (some 31) rfl rfl Tryd.func85 (by kernel_rfl) rfl #[.int .i64 (rd t359 x8_1)] rfl (by (try simp only [List.map_toArray, List.map_cons, List.map_nil]); first | done | rfl | (simp only [List.length_drop, List.length_take]; rfl)) ?_; (with_reducible refine (bolterref04_Octets.calls (rd t359 x8_1) t364 _ A9.out).mono ?_); rintro e w12 ⟨v365, rfl, ho0, hb⟩; refine ⟨_, rfl, ?_⟩; have n0_ := Aside0.mk (Kd.R_below (by (with_reducible repeat (first | apply Kd.R_alloc | apply Kd.R_drewN | apply Kd.R_drew)); exact HO_5.out) hb); have n1_ := Aside0.mk (Kd.R_below (by (with_reducible repeat (first | apply Kd.R_alloc | apply Kd.R_drewN | apply Kd.R_drew)); exact HO_6.out) hb); have n2_ := Aside0.mk (Kd.R_lower ho0 (below_size (by repeat (first | (with_reducible first | exact HB.out | apply below_alloc | apply pw_below_drewN | apply below_drew1) | exact HB.out)))); have n3_ := Aside0.mk (below_step (by repeat (first | (with_reducible first | exact HB.out | apply below_alloc | apply pw_below_drewN | apply below_drew1) | exact HB.out)) hb); clear HO_5; clear HO_6; clear HB; have HO_5 := n0_; have HO_6 := n1_; have HO366 := n2_; have HB := n3_; clear n0_ n1_ n2_ n3_; (try clear hb); (try clear hb2); (try clear hk); (try clear hi); (try clear ho0); have hcv13 := own_string (P := Tryd.prog) Tryd.underlying63 Tryd.underlying5 Tryd.underlying9 (Kd.own_of_R HO366.out)) | ((with_reducible refine gate_builtin (b := .append) (xs := #[.tmp 26, .tmp 33]) rfl ?_); (try (refine gate_guard (by rfl) ?_; dsimp only)); at_builtin; refine Kd.R_append Kd.string (w0 := w) w.heap.size rfl (.tmp 26) (.tmp 33) 28 9 (.string ⟨#[]⟩) 16 rfl Tryd.underlying28 info9 rfl (by decide) (by omega) u5 x5_1 (strOfNums t364) [.string (strOfNums t364)] (fun _ => True) (fun _ => False) rfl rfl ?aP (fun _ hk => hk.elim) ?aF ?aO ?aB ?aS ?aL ?_; (case aP => exact rfl); (case aB => exact (by repeat (first | (with_reducible first | exact HB.out | apply below_alloc | apply pw_below_drewN | apply below_drew1) | exact HB.out))); (case aF => exact (fun _ _ => trivial)); (case aO => exact (by (with_reducible repeat (first | apply Kd.R_alloc | apply Kd.R_drewN | apply Kd.R_drew)); exact HO_5.out)); (case aS => exact (below_size (by repeat (first | (with_reducible first | exact HB.out | apply below_alloc | apply pw_below_drewN | apply below_drew1) | exact HB.out)))); (case aL => have := LMc10.out; omega); intro v368 w14 ho hb hg hat; rw [← Ny367.out] at ho; have n0_ := Aside0.mk (Kd.R_over' (by (with_reducible repeat (first | apply Kd.R_alloc | apply Kd.R_drewN | apply Kd.R_drew)); exact HO_6.out) (Kd.R_typed (by (with_reducible repeat (first | apply Kd.R_alloc | apply Kd.R_drewN | apply Kd.R_drew)); exact HO_5.out)) (by decide) hg); have n1_ := Aside0.mk (Kd.R_over' (by (with_reducible repeat (first | apply Kd.R_alloc | apply Kd.R_drewN | apply Kd.R_drew)); exact HO366.out) (Kd.R_typed (by (with_reducible repeat (first | apply Kd.R_alloc | apply Kd.R_drewN | apply Kd.R_drew)); exact HO_5.out)) (by decide) hg); have n2_ := Aside0.mk (hb); have n3_ := Aside0.mk (ho); clear HO_6; clear HO366; clear HB; clear HO_5; have HO_6 := n0_; have HO366 := n1_; have HB := n2_; have HO369 := n3_; clear n0_ n1_ n2_ n3_; clear ho hb hg hat))
                go_roundg k1
                case measure => have := HK1.out; omega
                case rel => exact ⟨(y367), (wrap64 (x8_1 + 1)), (by first | rfl | (simp; done) | (simp [*]; done)), H', ⟨by have := HK1.out; omega⟩, ⟨by (with_reducible repeat (first | apply Kd.R_alloc | apply Kd.R_drewN | apply Kd.R_drew)); exact HO369.out⟩, ⟨by (with_reducible repeat (first | apply Kd.R_alloc | apply Kd.R_drewN | apply Kd.R_drew)); exact HO_6.out⟩, ⟨by repeat (first | (with_reducible first | exact HB.out | apply below_alloc | apply pw_below_drewN | apply below_drew1) | exact HB.out)⟩⟩
              · rw [if_neg c10] at H
                exact absurd H (by simp)
            · rw [if_neg c8] at H
              exact absurd H (by simp)
          · rw [if_neg c7] at H
            have c7b0 : decide (x8_1 < (t359.length : Int)) = false := decide_eq_false c7
            clear c7
            obtain rfl := Option.some.inj H
            obtain ⟨Ao15, co15, eo15⟩ := Kd.R_slice HO_6.out
            subst eo15
            go_wp2
            go_ret
            exact ⟨_, by first | rfl | (simp [errW_none, errW_some] <;> rfl) | (simp [*, errW_none, errW_some] <;> rfl), by (with_reducible repeat (first | apply Kd.R_alloc | apply Kd.R_drewN | apply Kd.R_drew)); exact HO_5.out, by repeat (first | (with_reducible first | exact HB.out | apply below_alloc | apply pw_below_drewN | apply below_drew1) | exact HB.out)⟩
    · rw [if_neg c4] at H
      have c4b0 : (a1.toList == ([] : List UInt8)) = false := beq_eq_false_iff_ne.mpr c4
      have c4b1 : (a1.toList != ([] : List UInt8)) = true := bne_iff_ne.mpr c4
      have H' := Aside0.mk H
      clear H
      go_enter Tryd.func61, Tryd.ntmps61
      go_wp2
      go_loopg [5, 9, 10] k (fun kq v5 v9 v10 w' => ∃ (x5_1 : List ByteArray) (x9_1 : Int) (x10_1 : Int), v9 = .int .i64 x9_1 ∧ v10 = .int .i64 x10_1 ∧ Aside0 (bolterref11_Cut.l1 kq a0 a1 x5_1 x9_1 x10_1 = some r) ∧ Aside0 (kq ≤ k) ∧ Aside0 (Kd.R Kd.string 9 w' w.heap.size (fun _ => True) v5 x5_1) ∧ Aside0 (Below w.heap.size w w'))
      case atStart => exact ⟨(([] : List ByteArray)), (0), (0), (by first | rfl | (simp; done) | (simp [*]; done)), (by first | rfl | (simp; done) | (simp [*]; done)), H', ⟨Nat.le_refl _⟩, ⟨by first | exact Kd.R_nil _ _ _ _ _ | exact Kd.N_nil _ _ _ _ _ | exact Kd.V_nil _ _ _ _ _ | exact Kd.Q_nil _ _ _ _ _ | exact Kd.S_nil _ _ _ _ _⟩, ⟨by repeat (first | (with_reducible first | exact HB.out | apply below_alloc | apply pw_below_drewN | apply below_drew1) | exact HB.out)⟩⟩
      case round =>
        clear H'
        try clear c1
        try clear hcv1
        try clear p2
        try clear c3
        try clear c3b0
        try clear c3b1
        try clear p3
        try clear q3
        try clear hx3
        try clear c4
        try clear c4b0
        try clear c4b1
        try clear c6
        try clear p6
        try clear c7
        try clear c7b0
        try clear c8
        try clear c8b0
        try clear c10
        try clear hcv13
        try clear hx363_0
        try clear p2
        try clear p363
        try clear q363
        obtain ⟨x5_1, x9_1, x10_1, rfl, rfl, HA, HK1, HO_5, HB⟩ := hrel
        cases gk with
        | zero => exact absurd HA.out (by simp [bolterref11_Cut.l1])
        | succ k1 =>
          have H := HA.out
          clear HA
          simp only [bolterref11_Cut.l1] at H
          by_cases c16 : x10_1 ≤ (a0.size : Int)
          · rw [if_pos c16] at H
            have c16b0 : decide (x10_1 ≤ (a0.size : Int)) = true := decide_eq_true c16
            clear c16
            by_cases c17 : (wrap64 ((a0.size : Int) - x10_1)) ≥ (a1.size : Int)
            · rw [if_pos c17] at H
              have c17b0 : decide ((a1.size : Int) ≤ (wrap64 ((a0.size : Int) - x10_1))) = true := decide_eq_true c17
              clear c17
              by_cases c18 : 0 ≤ x10_1
              · rw [if_pos c18] at H
                have c18b0 := eq_true c18
                have c18b1 : decide (0 ≤ x10_1) = true := decide_eq_true c18
                clear c18
                by_cases c19 : x10_1 ≤ (wrap64 (x10_1 + (a1.size : Int)))
                · rw [if_pos c19] at H
                  have c19b0 := eq_true c19
                  have c19b1 : decide (x10_1 ≤ (wrap64 (x10_1 + (a1.size : Int)))) = true := decide_eq_true c19
                  by_cases c20 : (wrap64 (x10_1 + (a1.size : Int))) ≤ (a0.size : Int)
                  · rw [if_pos c20] at H
                    have c20b0 := eq_true c20
                    have c20b1 : decide ((wrap64 (x10_1 + (a1.size : Int))) ≤ (a0.size : Int)) = true := decide_eq_true c20
                    by_cases c21 : (a0.extract (x10_1 : Int).toNat ((wrap64 (x10_1 + (a1.size : Int))) : Int).toNat).toList = a1.toList
                    · rw [if_pos c21] at H
                      have c21b0 : ((a0.extract (x10_1 : Int).toNat ((wrap64 (x10_1 + (a1.size : Int))) : Int).toNat).toList == a1.toList) = true := beq_iff_eq.mpr c21
                      have c21b1 : ((a0.extract (x10_1 : Int).toNat ((wrap64 (x10_1 + (a1.size : Int))) : Int).toNat).toList != a1.toList) = false := bne_eq_false_iff_eq.mpr c21
                      clear c21
                      by_cases c22 : 0 ≤ x9_1
                      · rw [if_pos c22] at H
                        have c22b0 := eq_true c22
                        have c22b1 : decide (0 ≤ x9_1) = true := decide_eq_true c22
                        clear c22
                        by_cases c23 : x9_1 ≤ x10_1
                        · rw [if_pos c23] at H
                          have c23b0 := eq_true c23
                          have c23b1 : decide (x9_1 ≤ x10_1) = true := decide_eq_true c23
                          clear c23
                          have c24b0 := eq_true (of_decide_eq_true (by first | (with_reducible assumption) | assumption) : x10_1 ≤ (a0.size : Int))
                          by_cases c25 : x5_1.length < 8796093022208
                          · rw [if_pos c25] at H
                            have LMc25 := Aside0.mk c25
                            clear c25
                            obtain ⟨y370, hy370⟩ : ∃ y_ : List ByteArray, y_ = (x5_1 ++ [a0.extract (x9_1 : Int).toNat (x10_1 : Int).toNat]) := ⟨_, rfl⟩
                            replace H : (bolterref11_Cut.l1 k1 a0 a1 y370 (wrap64 (x10_1 + (a1.size : Int))) (wrap64 (x10_1 + (a1.size : Int)))) = some r := by first | (rw [hy370]; with_reducible exact H) | (have H2_ := (Option.bind_some _ _).symm.trans H; rw [hy370]; with_reducible exact H2_) | (have H2_ := (Option.bind_some _ _).symm.trans H; with_reducible exact H2_) | with_reducible exact H | (rw [hy370]; exact H) | exact H
                            have Ny370 := Aside0.mk hy370
                            clear hy370
                            have H' := Aside0.mk H
                            clear H
                            go_wp2_with (first | ((with_reducible refine gate_builtin (b := .append) (xs := #[.tmp 58, .tmp 63]) rfl ?_); (try (refine gate_guard (by rfl) ?_; dsimp only)); at_builtin; refine Kd.R_append Kd.string (w0 := w) w.heap.size rfl (.tmp 58) (.tmp 63) 28 9 (.string ⟨#[]⟩) 16 rfl Tryd.underlying28 info9 rfl (by decide) (by omega) u5 x5_1 (a0.extract (x9_1 : Int).toNat (x10_1 : Int).toNat) [.string (a0.extract (x9_1 : Int).toNat (x10_1 : Int).toNat)] (fun _ => True) (fun _ => False) rfl rfl ?aP (fun _ hk => hk.elim) ?aF ?aO ?aB ?aS ?aL ?_; (case aP => exact rfl); (case aB => exact (by repeat (first | (with_reducible first | exact HB.out | apply below_alloc | apply pw_below_drewN | apply below_drew1) | exact HB.out))); (case aF => exact (fun _ _ => trivial)); (case aO => exact (by (with_reducible repeat (first | apply Kd.R_alloc | apply Kd.R_drewN | apply Kd.R_drew)); exact HO_5.out)); (case aS => exact (below_size (by repeat (first | (with_reducible first | exact HB.out | apply below_alloc | apply pw_below_drewN | apply below_drew1) | exact HB.out)))); (case aL => have := LMc25.out; omega); intro v371 w26 ho hb hg hat; rw [← Ny370.out] at ho; have n0_ := Aside0.mk (hb); have n1_ := Aside0.mk (ho); clear HB; clear HO_5; have HB := n0_; have HO372 := n1_; clear n0_ n1_; clear ho hb hg hat))
                            go_roundg k1
                            case measure => have := HK1.out; omega
                            case rel => exact ⟨(y370), (wrap64 (x10_1 + (a1.size : Int))), (wrap64 (x10_1 + (a1.size : Int))), (by first | rfl | (simp; done) | (simp [*]; done)), (by first | rfl | (simp; done) | (simp [*]; done)), H', ⟨by have := HK1.out; omega⟩, ⟨by (with_reducible repeat (first | apply Kd.R_alloc | apply Kd.R_drewN | apply Kd.R_drew)); exact HO372.out⟩, ⟨by repeat (first | (with_reducible first | exact HB.out | apply below_alloc | apply pw_below_drewN | apply below_drew1) | exact HB.out)⟩⟩
                          · rw [if_neg c25] at H
                            exact absurd H (by simp)
                        · rw [if_neg c23] at H
                          exact absurd H (by simp)
                      · rw [if_neg c22] at H
                        exact absurd H (by simp)
                    · rw [if_neg c21] at H
                      have c21b0 : ((a0.extract (x10_1 : Int).toNat ((wrap64 (x10_1 + (a1.size : Int))) : Int).toNat).toList == a1.toList) = false := beq_eq_false_iff_ne.mpr c21
                      have c21b1 : ((a0.extract (x10_1 : Int).toNat ((wrap64 (x10_1 + (a1.size : Int))) : Int).toNat).toList != a1.toList) = true := bne_iff_ne.mpr c21
                      have H' := Aside0.mk H
                      clear H
                      go_wp2
                      go_roundg k1
                      case measure => have := HK1.out; omega
                      case rel => exact ⟨(x5_1), (x9_1), (wrap64 (x10_1 + 1)), (by first | rfl | (simp; done) | (simp [*]; done)), (by first | rfl | (simp; done) | (simp [*]; done)), H', ⟨by have := HK1.out; omega⟩, ⟨by (with_reducible repeat (first | apply Kd.R_alloc | apply Kd.R_drewN | apply Kd.R_drew)); exact HO_5.out⟩, ⟨by repeat (first | (with_reducible first | exact HB.out | apply below_alloc | apply pw_below_drewN | apply below_drew1) | exact HB.out)⟩⟩
                  · rw [if_neg c20] at H
                    exact absurd H (by simp)
                · rw [if_neg c19] at H
                  exact absurd H (by simp)
              · rw [if_neg c18] at H
                exact absurd H (by simp)
            · rw [if_neg c17] at H
              have c17b0 : decide ((a1.size : Int) ≤ (wrap64 ((a0.size : Int) - x10_1))) = false := decide_eq_false c17
              clear c17
              have H' := Aside0.mk H
              clear H
              go_wp2
              go_roundg k1
              case measure => have := HK1.out; omega
              case rel => exact ⟨(x5_1), (x9_1), (wrap64 (x10_1 + 1)), (by first | rfl | (simp; done) | (simp [*]; done)), (by first | rfl | (simp; done) | (simp [*]; done)), H', ⟨by have := HK1.out; omega⟩, ⟨by (with_reducible repeat (first | apply Kd.R_alloc | apply Kd.R_drewN | apply Kd.R_drew)); exact HO_5.out⟩, ⟨by repeat (first | (with_reducible first | exact HB.out | apply below_alloc | apply pw_below_drewN | apply below_drew1) | exact HB.out)⟩⟩
          · rw [if_neg c16] at H
            have c16b0 : decide (x10_1 ≤ (a0.size : Int)) = false := decide_eq_false c16
            clear c16
            by_cases c27 : 0 ≤ x9_1
            · rw [if_pos c27] at H
              have c27b0 := eq_true c27
              have c27b1 : decide (0 ≤ x9_1) = true := decide_eq_true c27
              clear c27
              by_cases c28 : x9_1 ≤ (a0.size : Int)
              · rw [if_pos c28] at H
                have c28b0 := eq_true c28
                have c28b1 : decide (x9_1 ≤ (a0.size : Int)) = true := decide_eq_true c28
                clear c28
                by_cases c29 : x5_1.length < 8796093022208
                · rw [if_pos c29] at H
                  have LMc29 := Aside0.mk c29
                  clear c29
                  obtain ⟨y373, hy373⟩ : ∃ y_ : List ByteArray, y_ = (x5_1 ++ [a0.extract (x9_1 : Int).toNat a0.size]) := ⟨_, rfl⟩
                  replace H : (some y373) = some r := by first | (rw [hy373]; with_reducible exact H) | (have H2_ := (Option.bind_some _ _).symm.trans H; rw [hy373]; with_reducible exact H2_) | (have H2_ := (Option.bind_some _ _).symm.trans H; with_reducible exact H2_) | with_reducible exact H | (rw [hy373]; exact H) | exact H
                  have Ny373 := Aside0.mk hy373
                  clear hy373
                  obtain rfl := Option.some.inj H
                  go_wp2_with (first | ((with_reducible refine gate_builtin (b := .append) (xs := #[.tmp 72, .tmp 76]) rfl ?_); (try (refine gate_guard (by rfl) ?_; dsimp only)); at_builtin; refine Kd.R_append Kd.string (w0 := w) w.heap.size rfl (.tmp 72) (.tmp 76) 28 9 (.string ⟨#[]⟩) 16 rfl Tryd.underlying28 info9 rfl (by decide) (by omega) u5 x5_1 (a0.extract (x9_1 : Int).toNat a0.size) [.string (a0.extract (x9_1 : Int).toNat a0.size)] (fun _ => True) (fun _ => False) rfl rfl ?aP (fun _ hk => hk.elim) ?aF ?aO ?aB ?aS ?aL ?_; (case aP => exact rfl); (case aB => exact (by repeat (first | (with_reducible first | exact HB.out | apply below_alloc | apply pw_below_drewN | apply below_drew1) | exact HB.out))); (case aF => exact (fun _ _ => trivial)); (case aO => exact (by (with_reducible repeat (first | apply Kd.R_alloc | apply Kd.R_drewN | apply Kd.R_drew)); exact HO_5.out)); (case aS => exact (below_size (by repeat (first | (with_reducible first | exact HB.out | apply below_alloc | apply pw_below_drewN | apply below_drew1) | exact HB.out)))); (case aL => have := LMc29.out; omega); intro v374 w30 ho hb hg hat; rw [← Ny373.out] at ho; have n0_ := Aside0.mk (hb); have n1_ := Aside0.mk (ho); clear HB; clear HO_5; have HB := n0_; have HO375 := n1_; clear n0_ n1_; clear ho hb hg hat))
                  go_ret
                  exact ⟨_, by first | rfl | (simp [errW_none, errW_some] <;> rfl) | (simp [*, errW_none, errW_some] <;> rfl), by (with_reducible repeat (first | apply Kd.R_alloc | apply Kd.R_drewN | apply Kd.R_drew)); exact HO375.out, by repeat (first | (with_reducible first | exact HB.out | apply below_alloc | apply pw_below_drewN | apply below_drew1) | exact HB.out)⟩
                · rw [if_neg c29] at H
                  exact absurd H (by simp)
              · rw [if_neg c28] at H
                exact absurd H (by simp)
            · rw [if_neg c27] at H
              exact absurd H (by simp)
def bolterref13_wholes.l0 : Nat → List ByteArray → Int → Option (List ByteArray × Int)
  | 0, _, _ => none
  | k + 1, x0, x4 => if x4 < (x0.length : Int) then (if 0 ≤ x4 then (if ((rdOf ByteArray.empty x0 x4).size : Int) > 16384 then (some (([] : List ByteArray), 5)) else (bolterref13_wholes.l0 k x0 (wrap64 (x4 + 1)))) else (none)) else (some (x0, 0))
def bolterref13_wholes.f (k : Nat) (l0 : List ByteArray) : Option (List ByteArray × Int) := bolterref13_wholes.l0 k l0 0
set_option maxHeartbeats 8000000 in
set_option maxRecDepth 100000 in
theorem bolterref13_wholes.calls (k : Nat) (P0_ : Nat → Prop) (u9000_ : Value) (l0 : List ByteArray) (r1 : List ByteArray) (r2 : Int) (w0 w : World) (hB : Below w0.heap.size w0 w) (ho0 : Kd.R Kd.string 9 w w0.heap.size P0_ u9000_ l0) (h : bolterref13_wholes.f k l0 = some (r1, r2)) :
    Calls Tryd.prog 62 #[u9000_] w fun e w' => ∃ v0_ : Value, e = .returned (.tuple #[v0_, .int .i64 r2]) ∧ Kd.R Kd.string 9 w' w0.heap.size (fun k_ => (P0_ k_ ∨ w.heap.size ≤ k_)) v0_ r1 ∧ Below w0.heap.size w0 w' ∧ Kept w w' (fun k_ => P0_ k_) := by
  have HO0 := Aside0.mk (show Kd.R Kd.string 9 w w0.heap.size (fun k_ => (P0_ k_ ∨ w.heap.size ≤ k_)) u9000_ l0 from Kd.R_mono ho0 (fun k_ hk => (.inl hk)))
  have HK := Aside0.mk (Kept.refl w (fun k_ => P0_ k_))
  have HW0 := Aside0.mk hB.size
  have HB := Aside0.mk hB
  clear hB
  have H : (bolterref13_wholes.l0 k l0 0) = some (r1, r2) := h
  clear h
  have H' := Aside0.mk H
  clear H
  go_enter Tryd.func62, Tryd.ntmps62
  go_wp2
  go_loopg [4] k (fun kq v4 w' => ∃ (x4_1 : Int), v4 = .int .i64 x4_1 ∧ Aside0 (bolterref13_wholes.l0 kq l0 x4_1 = some (r1, r2)) ∧ Aside0 (kq ≤ k) ∧ Aside0 (Kd.R Kd.string 9 w' w0.heap.size (fun k_ => (P0_ k_ ∨ w.heap.size ≤ k_)) u9000_ l0) ∧ Aside0 (Kept w w' (fun k_ => P0_ k_)) ∧ Aside0 (Below w0.heap.size w0 w'))
  case atStart => exact ⟨(0), (by first | rfl | (simp; done) | (simp [*]; done)), H', ⟨Nat.le_refl _⟩, ⟨by (with_reducible repeat (first | apply Kd.R_alloc | apply Kd.R_drewN | apply Kd.R_drew)); exact HO0.out⟩, ⟨by repeat (first | (with_reducible first | exact HK.out | apply Kept.alloc | apply Kept.drewN | apply Kept.drew) | exact HK.out)⟩, ⟨by repeat (first | (with_reducible first | exact HB.out | apply below_alloc | apply pw_below_drewN | apply below_drew1) | exact HB.out)⟩⟩
  case round =>
    clear H'
    obtain ⟨x4_1, rfl, HA, HK1, HO_0, HK, HB⟩ := hrel
    cases gk with
    | zero => exact absurd HA.out (by simp [bolterref13_wholes.l0])
    | succ k1 =>
      have H := HA.out
      clear HA
      simp only [bolterref13_wholes.l0] at H
      by_cases c2 : x4_1 < (l0.length : Int)
      · rw [if_pos c2] at H
        have c2b0 : decide (x4_1 < (l0.length : Int)) = true := decide_eq_true c2
        clear c2
        by_cases c3 : 0 ≤ x4_1
        · rw [if_pos c3] at H
          have c3b0 : decide (0 ≤ x4_1) = true := decide_eq_true c3
          clear c3
          by_cases c4 : ((rdOf ByteArray.empty l0 x4_1).size : Int) > 16384
          · rw [if_pos c4] at H
            have c4b0 : decide (16384 < ((rdOf ByteArray.empty l0 x4_1).size : Int)) = true := decide_eq_true c4
            have c4b1 : decide (16384 < (rdOf ByteArray.empty l0 x4_1).size) = true := decide_eq_true (by omega)
            clear c4
            simp only [Option.some.injEq, Prod.mk.injEq] at H
            obtain ⟨rfl, rfl⟩ := H
            obtain ⟨Ao5, co5, eo5⟩ := Kd.R_slice HO_0.out
            subst eo5
            have p376 : 0 ≤ (x4_1 : Int) := of_decide_eq_true (by first | (with_reducible assumption) | assumption)
            have q376 : x4_1 < (l0.length : Int) := of_decide_eq_true (by first | (with_reducible assumption) | assumption)
            obtain ⟨ad376, e376, hx376_0⟩ := Kd.at_string (Kd.R_reads' HO_0.out).2.2 x4_1 p376 q376
            cases e376
            replace p376 := eq_true p376
            replace q376 := eq_true q376
            go_wp2
            go_ret2
            exact ⟨_, by first | rfl | (simp [errW_none, errW_some] <;> rfl) | (simp [*, errW_none, errW_some] <;> rfl), by first | exact Kd.R_nil _ _ _ _ _ | exact Kd.N_nil _ _ _ _ _ | exact Kd.V_nil _ _ _ _ _ | exact Kd.Q_nil _ _ _ _ _ | exact Kd.S_nil _ _ _ _ _, by repeat (first | (with_reducible first | exact HB.out | apply below_alloc | apply pw_below_drewN | apply below_drew1) | exact HB.out), by repeat (first | (with_reducible first | exact HK.out | apply Kept.alloc | apply Kept.drewN | apply Kept.drew) | exact HK.out)⟩
          · rw [if_neg c4] at H
            have c4b0 : decide (16384 < ((rdOf ByteArray.empty l0 x4_1).size : Int)) = false := decide_eq_false c4
            have c4b1 : decide (16384 < (rdOf ByteArray.empty l0 x4_1).size) = false := decide_eq_false (by omega)
            clear c4
            have H' := Aside0.mk H
            clear H
            obtain ⟨Ao6, co6, eo6⟩ := Kd.R_slice HO_0.out
            subst eo6
            have p376 : 0 ≤ (x4_1 : Int) := of_decide_eq_true (by first | (with_reducible assumption) | assumption)
            have q376 : x4_1 < (l0.length : Int) := of_decide_eq_true (by first | (with_reducible assumption) | assumption)
            obtain ⟨ad376, e376, hx376_0⟩ := Kd.at_string (Kd.R_reads' HO_0.out).2.2 x4_1 p376 q376
            cases e376
            replace p376 := eq_true p376
            replace q376 := eq_true q376
            go_wp2
            go_roundg k1
            case measure => have := HK1.out; omega
            case rel => exact ⟨(wrap64 (x4_1 + 1)), (by first | rfl | (simp; done) | (simp [*]; done)), H', ⟨by have := HK1.out; omega⟩, ⟨by (with_reducible repeat (first | apply Kd.R_alloc | apply Kd.R_drewN | apply Kd.R_drew)); exact HO_0.out⟩, ⟨by repeat (first | (with_reducible first | exact HK.out | apply Kept.alloc | apply Kept.drewN | apply Kept.drew) | exact HK.out)⟩, ⟨by repeat (first | (with_reducible first | exact HB.out | apply below_alloc | apply pw_below_drewN | apply below_drew1) | exact HB.out)⟩⟩
        · rw [if_neg c3] at H
          exact absurd H (by simp)
      · rw [if_neg c2] at H
        have c2b0 : decide (x4_1 < (l0.length : Int)) = false := decide_eq_false c2
        clear c2
        simp only [Option.some.injEq, Prod.mk.injEq] at H
        obtain ⟨rfl, rfl⟩ := H
        obtain ⟨Ao7, co7, eo7⟩ := Kd.R_slice HO_0.out
        subst eo7
        go_wp2
        go_ret2
        exact ⟨_, by first | rfl | (simp [errW_none, errW_some] <;> rfl) | (simp [*, errW_none, errW_some] <;> rfl), by (with_reducible repeat (first | apply Kd.R_alloc | apply Kd.R_drewN | apply Kd.R_drew)); exact HO_0.out, by repeat (first | (with_reducible first | exact HB.out | apply below_alloc | apply pw_below_drewN | apply below_drew1) | exact HB.out), by repeat (first | (with_reducible first | exact HK.out | apply Kept.alloc | apply Kept.drewN | apply Kept.drew) | exact HK.out)⟩
def bolterref13_Lines.f (k : Nat) (a0 : ByteArray) : Option (List ByteArray × Int) := (bolterref13_Checks.f k (([a0] : List ByteArray))).bind fun t380 => (if t380 = 0 then ((bolterref11_Cut.f k a0 (⟨#[10]⟩ : ByteArray)).bind fun t381 => (if (t381.length : Int) > 0 then (if 0 ≤ (wrap64 ((t381.length : Int) - 1)) then (if (wrap64 ((t381.length : Int) - 1)) < (t381.length : Int) then (if (rdOf ByteArray.empty t381 (wrap64 ((t381.length : Int) - 1))).toList = ([] : List UInt8) then (if (wrap64 ((t381.length : Int) - 1)) ≤ (t381.length : Int) then ((bolterref13_wholes.f k (t381.take ((wrap64 ((t381.length : Int) - 1)) : Int).toNat)).bind fun bt388 => (some (bt388.1, bt388.2))) else (none)) else ((bolterref13_wholes.f k t381).bind fun bt392 => (some (bt392.1, bt392.2)))) else (none)) else (none)) else ((bolterref13_wholes.f k t381).bind fun bt396 => (some (bt396.1, bt396.2))))) else (some (([] : List ByteArray), t380)))
set_option maxHeartbeats 8000000 in
set_option maxRecDepth 100000 in
theorem bolterref13_Lines.calls (k : Nat) (a0 : ByteArray) (r1 : List ByteArray) (r2 : Int) (w : World) (h : bolterref13_Lines.f k a0 = some (r1, r2)) :
    Calls Tryd.prog 30 #[.string a0] w fun e w' => ∃ v0_ : Value, e = .returned (.tuple #[v0_, .int .i64 r2]) ∧ Kd.R Kd.string 9 w' w.heap.size (fun _ => True) v0_ r1 ∧ Below w.heap.size w w' := by
  have HB := Aside0.mk (Below.refl w.heap.size w)
  have H : ((bolterref13_Checks.f k (([a0] : List ByteArray))).bind fun t380 => (if t380 = 0 then ((bolterref11_Cut.f k a0 (⟨#[10]⟩ : ByteArray)).bind fun t381 => (if (t381.length : Int) > 0 then (if 0 ≤ (wrap64 ((t381.length : Int) - 1)) then (if (wrap64 ((t381.length : Int) - 1)) < (t381.length : Int) then (if (rdOf ByteArray.empty t381 (wrap64 ((t381.length : Int) - 1))).toList = ([] : List UInt8) then (if (wrap64 ((t381.length : Int) - 1)) ≤ (t381.length : Int) then ((bolterref13_wholes.f k (t381.take ((wrap64 ((t381.length : Int) - 1)) : Int).toNat)).bind fun bt388 => (some (bt388.1, bt388.2))) else (none)) else ((bolterref13_wholes.f k t381).bind fun bt392 => (some (bt392.1, bt392.2)))) else (none)) else (none)) else ((bolterref13_wholes.f k t381).bind fun bt396 => (some (bt396.1, bt396.2))))) else (some (([] : List ByteArray), t380)))) = some (r1, r2) := h
  clear h
  obtain ⟨y377, hy377⟩ : ∃ y_ : List ByteArray, y_ = (([a0] : List ByteArray)) := ⟨_, rfl⟩
  replace H : ((bolterref13_Checks.f k y377).bind fun t380 => (if t380 = 0 then ((bolterref11_Cut.f k a0 (⟨#[10]⟩ : ByteArray)).bind fun t381 => (if (t381.length : Int) > 0 then (if 0 ≤ (wrap64 ((t381.length : Int) - 1)) then (if (wrap64 ((t381.length : Int) - 1)) < (t381.length : Int) then (if (rdOf ByteArray.empty t381 (wrap64 ((t381.length : Int) - 1))).toList = ([] : List UInt8) then (if (wrap64 ((t381.length : Int) - 1)) ≤ (t381.length : Int) then ((bolterref13_wholes.f k (t381.take ((wrap64 ((t381.length : Int) - 1)) : Int).toNat)).bind fun bt388 => (some (bt388.1, bt388.2))) else (none)) else ((bolterref13_wholes.f k t381).bind fun bt392 => (some (bt392.1, bt392.2)))) else (none)) else (none)) else ((bolterref13_wholes.f k t381).bind fun bt396 => (some (bt396.1, bt396.2))))) else (some (([] : List ByteArray), t380)))) = some (r1, r2) := by first | (rw [hy377]; with_reducible exact H) | (have H2_ := (Option.bind_some _ _).symm.trans H; rw [hy377]; with_reducible exact H2_) | (have H2_ := (Option.bind_some _ _).symm.trans H; with_reducible exact H2_) | with_reducible exact H | (rw [hy377]; exact H) | exact H
  have Ny377 := Aside0.mk hy377
  clear hy377
  replace H := Option.bind_eq_some_iff.mp H
  obtain ⟨t380, A20, H⟩ := H
  replace H : (if t380 = 0 then ((bolterref11_Cut.f k a0 (⟨#[10]⟩ : ByteArray)).bind fun t381 => (if (t381.length : Int) > 0 then (if 0 ≤ (wrap64 ((t381.length : Int) - 1)) then (if (wrap64 ((t381.length : Int) - 1)) < (t381.length : Int) then (if (rdOf ByteArray.empty t381 (wrap64 ((t381.length : Int) - 1))).toList = ([] : List UInt8) then (if (wrap64 ((t381.length : Int) - 1)) ≤ (t381.length : Int) then ((bolterref13_wholes.f k (t381.take ((wrap64 ((t381.length : Int) - 1)) : Int).toNat)).bind fun bt388 => (some (bt388.1, bt388.2))) else (none)) else ((bolterref13_wholes.f k t381).bind fun bt392 => (some (bt392.1, bt392.2)))) else (none)) else (none)) else ((bolterref13_wholes.f k t381).bind fun bt396 => (some (bt396.1, bt396.2))))) else (some (([] : List ByteArray), t380))) = some (r1, r2) := H
  have A2 := Aside0.mk A20
  clear A20
  by_cases c3 : t380 = 0
  · rw [if_pos c3] at H
    have c3b0 : (t380 == 0) = true := beq_iff_eq.mpr c3
    have c3b1 : (t380 != 0) = false := bne_eq_false_iff_eq.mpr c3
    clear c3
    replace H := Option.bind_eq_some_iff.mp H
    obtain ⟨t381, A40, H⟩ := H
    replace H : (if (t381.length : Int) > 0 then (if 0 ≤ (wrap64 ((t381.length : Int) - 1)) then (if (wrap64 ((t381.length : Int) - 1)) < (t381.length : Int) then (if (rdOf ByteArray.empty t381 (wrap64 ((t381.length : Int) - 1))).toList = ([] : List UInt8) then (if (wrap64 ((t381.length : Int) - 1)) ≤ (t381.length : Int) then ((bolterref13_wholes.f k (t381.take ((wrap64 ((t381.length : Int) - 1)) : Int).toNat)).bind fun bt388 => (some (bt388.1, bt388.2))) else (none)) else ((bolterref13_wholes.f k t381).bind fun bt392 => (some (bt392.1, bt392.2)))) else (none)) else (none)) else ((bolterref13_wholes.f k t381).bind fun bt396 => (some (bt396.1, bt396.2)))) = some (r1, r2) := H
    have A4 := Aside0.mk A40
    clear A40
    by_cases c5 : (t381.length : Int) > 0
    · rw [if_pos c5] at H
      have c5b0 : decide (0 < (t381.length : Int)) = true := decide_eq_true c5
      have c5b1 : decide (0 < t381.length) = true := decide_eq_true (by omega)
      clear c5
      obtain ⟨ji6, hji6⟩ : ∃ j_ : Int, (wrap64 ((t381.length : Int) - 1)) = j_ := ⟨_, rfl⟩
      replace H : (if 0 ≤ (ji6) then (if (ji6) < (t381.length : Int) then (if (rdOf ByteArray.empty t381 (ji6)).toList = ([] : List UInt8) then (if (ji6) ≤ (t381.length : Int) then ((bolterref13_wholes.f k (t381.take ((ji6) : Int).toNat)).bind fun bt388 => (some (bt388.1, bt388.2))) else (none)) else ((bolterref13_wholes.f k t381).bind fun bt392 => (some (bt392.1, bt392.2)))) else (none)) else (none)) = some (r1, r2) := by first | (rw [hji6] at H; exact H) | (simp only [hji6] at H ⊢; exact H)
      (try rw [hji6] at A2)
      (try rw [hji6] at A4)
      have hji6w : (IntKind.i64.wrap ((t381.length : Int) - 1)) = ji6 := (i64_w _).trans hji6
      by_cases c7 : 0 ≤ (ji6)
      · rw [if_pos c7] at H
        have c7b0 : decide (0 ≤ (ji6)) = true := decide_eq_true c7
        clear c7
        by_cases c8 : (ji6) < (t381.length : Int)
        · rw [if_pos c8] at H
          have c8b0 : decide ((ji6) < (t381.length : Int)) = true := decide_eq_true c8
          clear c8
          by_cases c9 : (rdOf ByteArray.empty t381 (ji6)).toList = ([] : List UInt8)
          · rw [if_pos c9] at H
            have c9b0 : ((rdOf ByteArray.empty t381 (ji6)).toList == ([] : List UInt8)) = true := beq_iff_eq.mpr c9
            have c9b1 : ((rdOf ByteArray.empty t381 (ji6)).toList != ([] : List UInt8)) = false := bne_eq_false_iff_eq.mpr c9
            clear c9
            by_cases c10 : (ji6) ≤ (t381.length : Int)
            · rw [if_pos c10] at H
              have c10b0 := eq_true c10
              have c10b1 : decide ((ji6) ≤ (t381.length : Int)) = true := decide_eq_true c10
              clear c10
              obtain ⟨y385, hy385⟩ : ∃ y_ : List ByteArray, y_ = (t381.take ((ji6) : Int).toNat) := ⟨_, rfl⟩
              replace H : ((bolterref13_wholes.f k y385).bind fun bt388 => (some (bt388.1, bt388.2))) = some (r1, r2) := by first | (rw [hy385]; with_reducible exact H) | (have H2_ := (Option.bind_some _ _).symm.trans H; rw [hy385]; with_reducible exact H2_) | (have H2_ := (Option.bind_some _ _).symm.trans H; with_reducible exact H2_) | with_reducible exact H | (rw [hy385]; exact H) | exact H
              have Ny385 := Aside0.mk hy385
              clear hy385
              replace H := Option.bind_eq_some_iff.mp H
              obtain ⟨⟨t388, t391⟩, A110, H⟩ := H
              replace H : (some (t388, t391)) = some (r1, r2) := H
              have A11 := Aside0.mk A110
              clear A110
              simp only [Option.some.injEq, Prod.mk.injEq] at H
              obtain ⟨rfl, rfl⟩ := H
              go_enter Tryd.func30, Tryd.ntmps30
              go_wp2_with (first | ((with_reducible refine gate_dst (N := 7) rfl ?_); (try (refine gate_guard (by rfl) ?_; dsimp only)); refine Kd.R_lit Kd.string _ 9 ?hg (N := 7) ?hd (xs := ([a0] : List ByteArray)) (inner := [.string a0]) (ok := fun _ => True) (okp := fun _ => True) ?hr ?hp (fun _ hk => hk) trivial (Below.refl _ _) (Nat.le_refl _) (by simp) ?_; (case hd => rfl); (case hg => rfl); (case hr => first | (go_simp; done) | (go_simp; rfl)); (case hp => exact (Reps.one (show Kd.M Kd.string _ _ _ a0 [.string a0] from rfl) (Reps.none _ _))); intro v378 w12 ho13 hb hg_ hnew_; clear hg_ hnew_; (first | rw [← Ny377.out] at ho13 | (simp only [Int.reduceToNat] at ho13; rw [← Ny377.out] at ho13)); have n0_ := Aside0.mk (Kd.R_lower ho13 (below_size (by repeat (first | (with_reducible first | exact HB.out | apply below_alloc | apply pw_below_drewN | apply below_drew1) | exact HB.out)))); have n1_ := Aside0.mk (below_step (by repeat (first | (with_reducible first | exact HB.out | apply below_alloc | apply pw_below_drewN | apply below_drew1) | exact HB.out)) hb); clear HB; have HO379 := n0_; have HB := n1_; clear n0_ n1_; clear hb ho13; obtain ⟨Ao14, co14, eo14⟩ := Kd.R_slice HO379.out; subst eo14) | ((with_reducible refine gate_callee (f := 57) rfl ?_); refine goesL_ (some 8) rfl rfl Tryd.func57 (by kernel_rfl) rfl #[.slice Ao14 y377.length co14] rfl (by (try simp only [List.map_toArray, List.map_cons, List.map_nil]); first | done | rfl | (simp only [List.length_drop, List.length_take]; rfl)) ?_; (with_reducible refine (bolterref13_Checks.calls k _ _ y377 t380 _ ?side1 ?side2 A2.out).mono ?_); (case side1 => repeat (first | exact (Kd.R_reads' HO379.out).2.2 | (with_reducible refine Kd.C_alloc ?_ _) | (with_reducible refine Kd.C_drewN ?_ _) | (with_reducible refine Kd.C_drew ?_))); (case side2 => exact (Kd.R_reads' HO379.out).2.1); rintro e w15 ⟨rfl, hb⟩; refine ⟨_, rfl, ?_⟩; have n0_ := Aside0.mk (Kd.R_below (by (with_reducible repeat (first | apply Kd.R_alloc | apply Kd.R_drewN | apply Kd.R_drew)); exact HO379.out) hb); have n1_ := Aside0.mk (below_step (by repeat (first | (with_reducible first | exact HB.out | apply below_alloc | apply pw_below_drewN | apply below_drew1) | exact HB.out)) hb); clear HO379; clear HB; have HO379 := n0_; have HB := n1_; clear n0_ n1_; (try clear hb); (try clear hb2); (try clear hk); (try clear hi)) | ((with_reducible refine gate_callee (f := 61) rfl ?_); refine goesL_ (some 13) rfl rfl Tryd.func61 (by kernel_rfl) rfl #[.string a0, .string (⟨#[10]⟩ : ByteArray)] rfl (by (try simp only [List.map_toArray, List.map_cons, List.map_nil]); first | done | rfl | (simp only [List.length_drop, List.length_take]; rfl)) ?_; (with_reducible refine (bolterref11_Cut.calls k a0 (⟨#[10]⟩ : ByteArray) t381 _ A4.out).mono ?_); rintro e w16 ⟨v382, rfl, ho0, hb⟩; refine ⟨_, rfl, ?_⟩; have n0_ := Aside0.mk (Kd.R_elder' (by (with_reducible repeat (first | apply Kd.R_alloc | apply Kd.R_drewN | apply Kd.R_drew)); exact HO379.out) (Kd.R_base ho0) hb); have n1_ := Aside0.mk (Kd.R_lower (Kd.R_new' ho0 (Kd.R_lt (by (with_reducible repeat (first | apply Kd.R_alloc | apply Kd.R_drewN | apply Kd.R_drew)); exact HO379.out))) (below_size (by repeat (first | (with_reducible first | exact HB.out | apply below_alloc | apply pw_below_drewN | apply below_drew1) | exact HB.out)))); have n2_ := Aside0.mk (below_step (by repeat (first | (with_reducible first | exact HB.out | apply below_alloc | apply pw_below_drewN | apply below_drew1) | exact HB.out)) hb); clear HO379; clear HB; have HO379 := n0_; have HO383 := n1_; have HB := n2_; clear n0_ n1_ n2_; (try clear hb); (try clear hb2); (try clear hk); (try clear hi); (try clear ho0); obtain ⟨Ao17, co17, eo17⟩ := Kd.R_slice HO383.out; subst eo17; have p384 : 0 ≤ ((ji6) : Int) := of_decide_eq_true (by first | (with_reducible assumption) | assumption); have q384 : (ji6) < (t381.length : Int) := of_decide_eq_true (by first | (with_reducible assumption) | assumption); obtain ⟨ad384, e384, hx384_0⟩ := Kd.at_string (Kd.R_reads' HO383.out).2.2 (ji6) p384 q384; cases e384; replace p384 := eq_true p384; replace q384 := eq_true q384; have q18 : ((ji6) : Int) ≤ ((t381.length : Int) : Int) := of_decide_eq_true (by first | (with_reducible assumption) | assumption); obtain ⟨i018, hi018, _, hsz18, _⟩ := info_parts info9; have hcut18 := cut_to (P := Tryd.prog) 28 9 .i64 Tryd.underlying28 hi018 (some ad384) t381.length co17 (ji6) (of_decide_eq_true (by first | (with_reducible assumption) | assumption)) q18 (Kd.R_reads' HO383.out).2.1; have hr18 := Kd.R_take (m := ((ji6) : Int).toNat) HO383.out (by omega); have hy18 : y385.length = ((ji6) : Int).toNat := (by rw [Ny385.out, List.length_take]; omega); rw [← Ny385.out] at hr18; rw [← hy18] at hr18 hcut18; clear hy18 hi018 hsz18 HO383; have HO387 := Aside0.mk hr18; clear hr18; replace q18 := eq_true q18) | ((with_reducible refine gate_callee (f := 62) rfl ?_); refine goesL_ (some 32) rfl rfl Tryd.func62 (by kernel_rfl) rfl #[.slice (some ad384) y385.length co17] rfl (by (try simp only [List.map_toArray, List.map_cons, List.map_nil]); first | done | rfl | (simp only [List.length_drop, List.length_take]; rfl)) ?_; (with_reducible refine (bolterref13_wholes.calls k (fun k_ => some k_ = (.slice (some ad384) y385.length co17 : Value).ownBlock) (.slice (some ad384) y385.length co17) y385 t388 t391 w _ ?side1 ?side2 A11.out).mono ?_); (case side1 => repeat (first | (with_reducible first | exact HB.out | apply below_alloc | apply pw_below_drewN | apply below_drew1) | exact HB.out)); (case side2 => exact Kd.R_tight rfl HO387.out); rintro e w19 ⟨v389, rfl, ho0, hb, hkp⟩; refine ⟨_, rfl, ?_⟩; have n0_ := Aside0.mk (Kd.R_mono (ok' := fun k_ => some k_ ≠ (v389 : Value).ownBlock) (Kd.R_keptB (HO379.out) hkp (fun k_ hk_ hs_ => (hk_.2) hs_)) (fun k_ hk_ => fun e_ => Or.elim (ho0.1 k_ e_.symm) (fun hs_ => hk_.2.1 hs_) (fun hn_ => Nat.not_le.2 hk_.2.2 hn_))); have n1_ := Aside0.mk (Kd.R_mono (ok' := fun k_ => some k_ ≠ (.slice Ao14 y377.length co14 : Value).ownBlock) ho0 (fun k_ hk_ => Or.elim hk_ (fun hs_ => fun e_ => (((HO379.out).1 k_ e_.symm).2) hs_) (fun hn_ => (Kd.fresh' (Kd.R_lt (by (with_reducible repeat (first | apply Kd.R_alloc | apply Kd.R_drewN | apply Kd.R_drew)); exact HO379.out)) k_ hn_)))); have n2_ := Aside0.mk (hb); clear HO379; clear HB; clear HO387; have HO379 := n0_; have HO390 := n1_; have HB := n2_; clear n0_ n1_ n2_; (try clear hb); (try clear hkp); (try clear ho0)))
              go_ret2
              exact ⟨_, by first | rfl | (simp [errW_none, errW_some] <;> rfl) | (simp only [← hji6]; first | rfl | (simp [errW_none, errW_some] <;> rfl)) | (simp [*, errW_none, errW_some] <;> rfl), by (with_reducible repeat (first | apply Kd.R_alloc | apply Kd.R_drewN | apply Kd.R_drew)); exact Kd.R_mono HO390.out (fun _ hk => trivial), by repeat (first | (with_reducible first | exact HB.out | apply below_alloc | apply pw_below_drewN | apply below_drew1) | exact HB.out)⟩
            · rw [if_neg c10] at H
              exact absurd H (by simp)
          · rw [if_neg c9] at H
            have c9b0 : ((rdOf ByteArray.empty t381 (ji6)).toList == ([] : List UInt8)) = false := beq_eq_false_iff_ne.mpr c9
            have c9b1 : ((rdOf ByteArray.empty t381 (ji6)).toList != ([] : List UInt8)) = true := bne_iff_ne.mpr c9
            replace H := Option.bind_eq_some_iff.mp H
            obtain ⟨⟨t392, t395⟩, A200, H⟩ := H
            replace H : (some (t392, t395)) = some (r1, r2) := H
            have A20 := Aside0.mk A200
            clear A200
            simp only [Option.some.injEq, Prod.mk.injEq] at H
            obtain ⟨rfl, rfl⟩ := H
            go_enter Tryd.func30, Tryd.ntmps30
            go_wp2_with (first | ((with_reducible refine gate_dst (N := 7) rfl ?_); (try (refine gate_guard (by rfl) ?_; dsimp only)); refine Kd.R_lit Kd.string _ 9 ?hg (N := 7) ?hd (xs := ([a0] : List ByteArray)) (inner := [.string a0]) (ok := fun _ => True) (okp := fun _ => True) ?hr ?hp (fun _ hk => hk) trivial (Below.refl _ _) (Nat.le_refl _) (by simp) ?_; (case hd => rfl); (case hg => rfl); (case hr => first | (go_simp; done) | (go_simp; rfl)); (case hp => exact (Reps.one (show Kd.M Kd.string _ _ _ a0 [.string a0] from rfl) (Reps.none _ _))); intro v378 w21 ho22 hb hg_ hnew_; clear hg_ hnew_; (first | rw [← Ny377.out] at ho22 | (simp only [Int.reduceToNat] at ho22; rw [← Ny377.out] at ho22)); have n0_ := Aside0.mk (Kd.R_lower ho22 (below_size (by repeat (first | (with_reducible first | exact HB.out | apply below_alloc | apply pw_below_drewN | apply below_drew1) | exact HB.out)))); have n1_ := Aside0.mk (below_step (by repeat (first | (with_reducible first | exact HB.out | apply below_alloc | apply pw_below_drewN | apply below_drew1) | exact HB.out)) hb); clear HB; have HO379 := n0_; have HB := n1_; clear n0_ n1_; clear hb ho22; obtain ⟨Ao23, co23, eo23⟩ := Kd.R_slice HO379.out; subst eo23) | ((with_reducible refine gate_callee (f := 57) rfl ?_); refine goesL_ (some 8) rfl rfl Tryd.func57 (by kernel_rfl) rfl #[.slice Ao23 y377.length co23] rfl (by (try simp only [List.map_toArray, List.map_cons, List.map_nil]); first | done | rfl | (simp only [List.length_drop, List.length_take]; rfl)) ?_; (with_reducible refine (bolterref13_Checks.calls k _ _ y377 t380 _ ?side1 ?side2 A2.out).mono ?_); (case side1 => repeat (first | exact (Kd.R_reads' HO379.out).2.2 | (with_reducible refine Kd.C_alloc ?_ _) | (with_reducible refine Kd.C_drewN ?_ _) | (with_reducible refine Kd.C_drew ?_))); (case side2 => exact (Kd.R_reads' HO379.out).2.1); rintro e w24 ⟨rfl, hb⟩; refine ⟨_, rfl, ?_⟩; have n0_ := Aside0.mk (Kd.R_below (by (with_reducible repeat (first | apply Kd.R_alloc | apply Kd.R_drewN | apply Kd.R_drew)); exact HO379.out) hb); have n1_ := Aside0.mk (below_step (by repeat (first | (with_reducible first | exact HB.out | apply below_alloc | apply pw_below_drewN | apply below_drew1) | exact HB.out)) hb); clear HO379; clear HB; have HO379 := n0_; have HB := n1_; clear n0_ n1_; (try clear hb); (try clear hb2); (try clear hk); (try clear hi)) | ((with_reducible refine gate_callee (f := 61) rfl ?_); refine goesL_ (some 13) rfl rfl Tryd.func61 (by kernel_rfl) rfl #[.string a0, .string (⟨#[10]⟩ : ByteArray)] rfl (by (try simp only [List.map_toArray, List.map_cons, List.map_nil]); first | done | rfl | (simp only [List.length_drop, List.length_take]; rfl)) ?_; (with_reducible refine (bolterref11_Cut.calls k a0 (⟨#[10]⟩ : ByteArray) t381 _ A4.out).mono ?_); rintro e w25 ⟨v382, rfl, ho0, hb⟩; refine ⟨_, rfl, ?_⟩; have n0_ := Aside0.mk (Kd.R_elder' (by (with_reducible repeat (first | apply Kd.R_alloc | apply Kd.R_drewN | apply Kd.R_drew)); exact HO379.out) (Kd.R_base ho0) hb); have n1_ := Aside0.mk (Kd.R_lower (Kd.R_new' ho0 (Kd.R_lt (by (with_reducible repeat (first | apply Kd.R_alloc | apply Kd.R_drewN | apply Kd.R_drew)); exact HO379.out))) (below_size (by repeat (first | (with_reducible first | exact HB.out | apply below_alloc | apply pw_below_drewN | apply below_drew1) | exact HB.out)))); have n2_ := Aside0.mk (below_step (by repeat (first | (with_reducible first | exact HB.out | apply below_alloc | apply pw_below_drewN | apply below_drew1) | exact HB.out)) hb); clear HO379; clear HB; have HO379 := n0_; have HO383 := n1_; have HB := n2_; clear n0_ n1_ n2_; (try clear hb); (try clear hb2); (try clear hk); (try clear hi); (try clear ho0); obtain ⟨Ao26, co26, eo26⟩ := Kd.R_slice HO383.out; subst eo26; have p384 : 0 ≤ ((ji6) : Int) := of_decide_eq_true (by first | (with_reducible assumption) | assumption); have q384 : (ji6) < (t381.length : Int) := of_decide_eq_true (by first | (with_reducible assumption) | assumption); obtain ⟨ad384, e384, hx384_0⟩ := Kd.at_string (Kd.R_reads' HO383.out).2.2 (ji6) p384 q384; cases e384; replace p384 := eq_true p384; replace q384 := eq_true q384) | ((with_reducible refine gate_callee (f := 62) rfl ?_); refine goesL_ (some 32) rfl rfl Tryd.func62 (by kernel_rfl) rfl #[.slice (some ad384) t381.length co26] rfl (by (try simp only [List.map_toArray, List.map_cons, List.map_nil]); first | done | rfl | (simp only [List.length_drop, List.length_take]; rfl)) ?_; (with_reducible refine (bolterref13_wholes.calls k (fun k_ => some k_ = (.slice (some ad384) t381.length co26 : Value).ownBlock) (.slice (some ad384) t381.length co26) t381 t392 t395 w _ ?side1 ?side2 A20.out).mono ?_); (case side1 => repeat (first | (with_reducible first | exact HB.out | apply below_alloc | apply pw_below_drewN | apply below_drew1) | exact HB.out)); (case side2 => exact Kd.R_tight rfl HO383.out); rintro e w27 ⟨v393, rfl, ho0, hb, hkp⟩; refine ⟨_, rfl, ?_⟩; have n0_ := Aside0.mk (Kd.R_mono (ok' := fun k_ => some k_ ≠ (v393 : Value).ownBlock) (Kd.R_keptB (HO379.out) hkp (fun k_ hk_ hs_ => (hk_.2) hs_)) (fun k_ hk_ => fun e_ => Or.elim (ho0.1 k_ e_.symm) (fun hs_ => hk_.2.1 hs_) (fun hn_ => Nat.not_le.2 hk_.2.2 hn_))); have n1_ := Aside0.mk (Kd.R_mono (ok' := fun k_ => some k_ ≠ (.slice Ao23 y377.length co23 : Value).ownBlock) ho0 (fun k_ hk_ => Or.elim hk_ (fun hs_ => fun e_ => (((HO379.out).1 k_ e_.symm).2) hs_) (fun hn_ => (Kd.fresh' (Kd.R_lt (by (with_reducible repeat (first | apply Kd.R_alloc | apply Kd.R_drewN | apply Kd.R_drew)); exact HO379.out)) k_ hn_)))); have n2_ := Aside0.mk (hb); clear HO379; clear HB; clear HO383; have HO379 := n0_; have HO394 := n1_; have HB := n2_; clear n0_ n1_ n2_; (try clear hb); (try clear hkp); (try clear ho0)))
            go_ret2
            exact ⟨_, by first | rfl | (simp [errW_none, errW_some] <;> rfl) | (simp only [← hji6]; first | rfl | (simp [errW_none, errW_some] <;> rfl)) | (simp [*, errW_none, errW_some] <;> rfl), by (with_reducible repeat (first | apply Kd.R_alloc | apply Kd.R_drewN | apply Kd.R_drew)); exact Kd.R_mono HO394.out (fun _ hk => trivial), by repeat (first | (with_reducible first | exact HB.out | apply below_alloc | apply pw_below_drewN | apply below_drew1) | exact HB.out)⟩
        · rw [if_neg c8] at H
          exact absurd H (by simp)
      · rw [if_neg c7] at H
        exact absurd H (by simp)
    · rw [if_neg c5] at H
      have c5b0 : decide (0 < (t381.length : Int)) = false := decide_eq_false c5
      have c5b1 : decide (0 < t381.length) = false := decide_eq_false (by omega)
      clear c5
      replace H := Option.bind_eq_some_iff.mp H
      obtain ⟨⟨t396, t399⟩, A280, H⟩ := H
      replace H : (some (t396, t399)) = some (r1, r2) := H
      have A28 := Aside0.mk A280
      clear A280
      simp only [Option.some.injEq, Prod.mk.injEq] at H
      obtain ⟨rfl, rfl⟩ := H
      go_enter Tryd.func30, Tryd.ntmps30
      go_wp2_with (first | ((with_reducible refine gate_dst (N := 7) rfl ?_); (try (refine gate_guard (by rfl) ?_; dsimp only)); refine Kd.R_lit Kd.string _ 9 ?hg (N := 7) ?hd (xs := ([a0] : List ByteArray)) (inner := [.string a0]) (ok := fun _ => True) (okp := fun _ => True) ?hr ?hp (fun _ hk => hk) trivial (Below.refl _ _) (Nat.le_refl _) (by simp) ?_; (case hd => rfl); (case hg => rfl); (case hr => first | (go_simp; done) | (go_simp; rfl)); (case hp => exact (Reps.one (show Kd.M Kd.string _ _ _ a0 [.string a0] from rfl) (Reps.none _ _))); intro v378 w29 ho30 hb hg_ hnew_; clear hg_ hnew_; (first | rw [← Ny377.out] at ho30 | (simp only [Int.reduceToNat] at ho30; rw [← Ny377.out] at ho30)); have n0_ := Aside0.mk (Kd.R_lower ho30 (below_size (by repeat (first | (with_reducible first | exact HB.out | apply below_alloc | apply pw_below_drewN | apply below_drew1) | exact HB.out)))); have n1_ := Aside0.mk (below_step (by repeat (first | (with_reducible first | exact HB.out | apply below_alloc | apply pw_below_drewN | apply below_drew1) | exact HB.out)) hb); clear HB; have HO379 := n0_; have HB := n1_; clear n0_ n1_; clear hb ho30; obtain ⟨Ao31, co31, eo31⟩ := Kd.R_slice HO379.out; subst eo31) | ((with_reducible refine gate_callee (f := 57) rfl ?_); refine goesL_ (some 8) rfl rfl Tryd.func57 (by kernel_rfl) rfl #[.slice Ao31 y377.length co31] rfl (by (try simp only [List.map_toArray, List.map_cons, List.map_nil]); first | done | rfl | (simp only [List.length_drop, List.length_take]; rfl)) ?_; (with_reducible refine (bolterref13_Checks.calls k _ _ y377 t380 _ ?side1 ?side2 A2.out).mono ?_); (case side1 => repeat (first | exact (Kd.R_reads' HO379.out).2.2 | (with_reducible refine Kd.C_alloc ?_ _) | (with_reducible refine Kd.C_drewN ?_ _) | (with_reducible refine Kd.C_drew ?_))); (case side2 => exact (Kd.R_reads' HO379.out).2.1); rintro e w32 ⟨rfl, hb⟩; refine ⟨_, rfl, ?_⟩; have n0_ := Aside0.mk (Kd.R_below (by (with_reducible repeat (first | apply Kd.R_alloc | apply Kd.R_drewN | apply Kd.R_drew)); exact HO379.out) hb); have n1_ := Aside0.mk (below_step (by repeat (first | (with_reducible first | exact HB.out | apply below_alloc | apply pw_below_drewN | apply below_drew1) | exact HB.out)) hb); clear HO379; clear HB; have HO379 := n0_; have HB := n1_; clear n0_ n1_; (try clear hb); (try clear hb2); (try clear hk); (try clear hi)) | ((with_reducible refine gate_callee (f := 61) rfl ?_); refine goesL_ (some 13) rfl rfl Tryd.func61 (by kernel_rfl) rfl #[.string a0, .string (⟨#[10]⟩ : ByteArray)] rfl (by (try simp only [List.map_toArray, List.map_cons, List.map_nil]); first | done | rfl | (simp only [List.length_drop, List.length_take]; rfl)) ?_; (with_reducible refine (bolterref11_Cut.calls k a0 (⟨#[10]⟩ : ByteArray) t381 _ A4.out).mono ?_); rintro e w33 ⟨v382, rfl, ho0, hb⟩; refine ⟨_, rfl, ?_⟩; have n0_ := Aside0.mk (Kd.R_elder' (by (with_reducible repeat (first | apply Kd.R_alloc | apply Kd.R_drewN | apply Kd.R_drew)); exact HO379.out) (Kd.R_base ho0) hb); have n1_ := Aside0.mk (Kd.R_lower (Kd.R_new' ho0 (Kd.R_lt (by (with_reducible repeat (first | apply Kd.R_alloc | apply Kd.R_drewN | apply Kd.R_drew)); exact HO379.out))) (below_size (by repeat (first | (with_reducible first | exact HB.out | apply below_alloc | apply pw_below_drewN | apply below_drew1) | exact HB.out)))); have n2_ := Aside0.mk (below_step (by repeat (first | (with_reducible first | exact HB.out | apply below_alloc | apply pw_below_drewN | apply below_drew1) | exact HB.out)) hb); clear HO379; clear HB; have HO379 := n0_; have HO383 := n1_; have HB := n2_; clear n0_ n1_ n2_; (try clear hb); (try clear hb2); (try clear hk); (try clear hi); (try clear ho0); obtain ⟨Ao34, co34, eo34⟩ := Kd.R_slice HO383.out; subst eo34) | ((with_reducible refine gate_callee (f := 62) rfl ?_); refine goesL_ (some 32) rfl rfl Tryd.func62 (by kernel_rfl) rfl #[.slice Ao34 t381.length co34] rfl (by (try simp only [List.map_toArray, List.map_cons, List.map_nil]); first | done | rfl | (simp only [List.length_drop, List.length_take]; rfl)) ?_; (with_reducible refine (bolterref13_wholes.calls k (fun k_ => some k_ = (.slice Ao34 t381.length co34 : Value).ownBlock) (.slice Ao34 t381.length co34) t381 t396 t399 w _ ?side1 ?side2 A28.out).mono ?_); (case side1 => repeat (first | (with_reducible first | exact HB.out | apply below_alloc | apply pw_below_drewN | apply below_drew1) | exact HB.out)); (case side2 => exact Kd.R_tight rfl HO383.out); rintro e w35 ⟨v397, rfl, ho0, hb, hkp⟩; refine ⟨_, rfl, ?_⟩; have n0_ := Aside0.mk (Kd.R_mono (ok' := fun k_ => some k_ ≠ (v397 : Value).ownBlock) (Kd.R_keptB (HO379.out) hkp (fun k_ hk_ hs_ => (hk_.2) hs_)) (fun k_ hk_ => fun e_ => Or.elim (ho0.1 k_ e_.symm) (fun hs_ => hk_.2.1 hs_) (fun hn_ => Nat.not_le.2 hk_.2.2 hn_))); have n1_ := Aside0.mk (Kd.R_mono (ok' := fun k_ => some k_ ≠ (.slice Ao31 y377.length co31 : Value).ownBlock) ho0 (fun k_ hk_ => Or.elim hk_ (fun hs_ => fun e_ => (((HO379.out).1 k_ e_.symm).2) hs_) (fun hn_ => (Kd.fresh' (Kd.R_lt (by (with_reducible repeat (first | apply Kd.R_alloc | apply Kd.R_drewN | apply Kd.R_drew)); exact HO379.out)) k_ hn_)))); have n2_ := Aside0.mk (hb); clear HO379; clear HB; clear HO383; have HO379 := n0_; have HO398 := n1_; have HB := n2_; clear n0_ n1_ n2_; (try clear hb); (try clear hkp); (try clear ho0)))
      go_ret2
      exact ⟨_, by first | rfl | (simp [errW_none, errW_some] <;> rfl) | (simp [*, errW_none, errW_some] <;> rfl), by (with_reducible repeat (first | apply Kd.R_alloc | apply Kd.R_drewN | apply Kd.R_drew)); exact Kd.R_mono HO398.out (fun _ hk => trivial), by repeat (first | (with_reducible first | exact HB.out | apply below_alloc | apply pw_below_drewN | apply below_drew1) | exact HB.out)⟩
  · rw [if_neg c3] at H
    have c3b0 : (t380 == 0) = false := beq_eq_false_iff_ne.mpr c3
    have c3b1 : (t380 != 0) = true := bne_iff_ne.mpr c3
    simp only [Option.some.injEq, Prod.mk.injEq] at H
    obtain ⟨rfl, rfl⟩ := H
    go_enter Tryd.func30, Tryd.ntmps30
    go_wp2_with (first | ((with_reducible refine gate_dst (N := 7) rfl ?_); (try (refine gate_guard (by rfl) ?_; dsimp only)); refine Kd.R_lit Kd.string _ 9 ?hg (N := 7) ?hd (xs := ([a0] : List ByteArray)) (inner := [.string a0]) (ok := fun _ => True) (okp := fun _ => True) ?hr ?hp (fun _ hk => hk) trivial (Below.refl _ _) (Nat.le_refl _) (by simp) ?_; (case hd => rfl); (case hg => rfl); (case hr => first | (go_simp; done) | (go_simp; rfl)); (case hp => exact (Reps.one (show Kd.M Kd.string _ _ _ a0 [.string a0] from rfl) (Reps.none _ _))); intro v378 w36 ho37 hb hg_ hnew_; clear hg_ hnew_; (first | rw [← Ny377.out] at ho37 | (simp only [Int.reduceToNat] at ho37; rw [← Ny377.out] at ho37)); have n0_ := Aside0.mk (Kd.R_lower ho37 (below_size (by repeat (first | (with_reducible first | exact HB.out | apply below_alloc | apply pw_below_drewN | apply below_drew1) | exact HB.out)))); have n1_ := Aside0.mk (below_step (by repeat (first | (with_reducible first | exact HB.out | apply below_alloc | apply pw_below_drewN | apply below_drew1) | exact HB.out)) hb); clear HB; have HO379 := n0_; have HB := n1_; clear n0_ n1_; clear hb ho37; obtain ⟨Ao38, co38, eo38⟩ := Kd.R_slice HO379.out; subst eo38) | ((with_reducible refine gate_callee (f := 57) rfl ?_); refine goesL_ (some 8) rfl rfl Tryd.func57 (by kernel_rfl) rfl #[.slice Ao38 y377.length co38] rfl (by (try simp only [List.map_toArray, List.map_cons, List.map_nil]); first | done | rfl | (simp only [List.length_drop, List.length_take]; rfl)) ?_; (with_reducible refine (bolterref13_Checks.calls k _ _ y377 t380 _ ?side1 ?side2 A2.out).mono ?_); (case side1 => repeat (first | exact (Kd.R_reads' HO379.out).2.2 | (with_reducible refine Kd.C_alloc ?_ _) | (with_reducible refine Kd.C_drewN ?_ _) | (with_reducible refine Kd.C_drew ?_))); (case side2 => exact (Kd.R_reads' HO379.out).2.1); rintro e w39 ⟨rfl, hb⟩; refine ⟨_, rfl, ?_⟩; have n0_ := Aside0.mk (Kd.R_below (by (with_reducible repeat (first | apply Kd.R_alloc | apply Kd.R_drewN | apply Kd.R_drew)); exact HO379.out) hb); have n1_ := Aside0.mk (below_step (by repeat (first | (with_reducible first | exact HB.out | apply below_alloc | apply pw_below_drewN | apply below_drew1) | exact HB.out)) hb); clear HO379; clear HB; have HO379 := n0_; have HB := n1_; clear n0_ n1_; (try clear hb); (try clear hb2); (try clear hk); (try clear hi)))
    go_ret2
    exact ⟨_, by first | rfl | (simp [errW_none, errW_some] <;> rfl) | (simp [*, errW_none, errW_some] <;> rfl), by first | exact Kd.R_nil _ _ _ _ _ | exact Kd.N_nil _ _ _ _ _ | exact Kd.V_nil _ _ _ _ _ | exact Kd.Q_nil _ _ _ _ _ | exact Kd.S_nil _ _ _ _ _, by repeat (first | (with_reducible first | exact HB.out | apply below_alloc | apply pw_below_drewN | apply below_drew1) | exact HB.out)⟩
end Go.Proofs.YtdhjdddjgcfhkaaDoor.B

end

section
/- What the references' functions of texts tell (bolterref13, bolterref11.Cut): the same values. -/
set_option linter.unusedVariables false
set_option linter.unusedSimpArgs false
namespace Go.Proofs.YtdhjdddjgcfhkaaDoor.P
open Go.Lib Go.RowKit Go.Proofs.YtdhjdddjgcfhkaaDoor.B Go.Proofs.YtdhjdddjgcfhkaaDoorW.PrintWords

theorem checks13_l (l : List ByteArray) (hl : l.length < 9223372036854775807) (hs : ∀ s ∈ l, s.size < 9223372036854775807) : ∀ (r pre : List ByteArray), l = pre ++ r → Tells (fun k => bolterref13_Checks.l0 k l (pre.length : Int)) (errs r)
  | [], pre, e => by
    refine Tells.succ ?_
    simp only [bolterref13_Checks.l0]
    subst e
    exact Tells.ifn (by simp) (Tells.pure _)
  | s :: r, pre, e => by
    have hlen : pre.length < l.length := by rw [e]; simp
    have hx : l[pre.length]? = some s := by rw [e]; simp
    have ih := checks13_l l hl hs r (pre ++ [s]) (by rw [e]; simp)
    refine Tells.succ ?_
    simp only [bolterref13_Checks.l0]
    refine Tells.ifp (by omega) (Tells.ifp (by omega) ?_)
    rw [rdOf_at _ _ _ _ hx]
    obtain ⟨q, hq, hqe⟩ := checkR_tells s (hs s (List.mem_of_getElem? hx))
    refine hq.bind ?_
    rw [hqe, errs, w64 (by omega) (by omega)]
    by_cases h : errV s.data.toList = 0
    · rw [if_pos h]
      refine Tells.ifp h ?_
      have e2 : ((pre.length : Int) + 1) = ((pre ++ [s]).length : Int) := by simp
      rw [e2]
      exact ih
    · rw [if_neg h]
      exact Tells.ifn h (Tells.pure _)
theorem checks13_tells (l : List ByteArray) (hl : l.length < 9223372036854775807) (hs : ∀ s ∈ l, s.size < 9223372036854775807) : Tells (fun k => bolterref13_Checks.f k l) (errs l) :=
  checks13_l l hl hs l [] rfl
theorem begins13_f (a0 a1 : ByteArray) : bolterref13_begins.f a0 a1 = some (hasPrefix a0.data.toList a1.data.toList) := by
  unfold bolterref13_begins.f
  rw [← hasPrefix_raw]
  by_cases h : a1.size ≤ a0.size
  · rw [if_pos (by omega), if_pos (by omega), if_pos (by omega), Int.toNat_natCast, decide_eq_true h]; rfl
  · rw [if_neg (by omega), decide_eq_false h]; rfl
theorem ends13_f (a0 a1 : ByteArray) (hz : a0.size < 9223372036854775807) : bolterref13_ends.f a0 a1 = some (hasSuffix a0.data.toList a1.data.toList) := by
  unfold bolterref13_ends.f
  rw [← hasSuffix_raw]
  by_cases h : a1.size ≤ a0.size
  · rw [if_pos (by omega), w64 (by omega) (by omega), if_pos (by omega), if_pos (by omega), show ((a0.size : Int) - a1.size).toNat = a0.size - a1.size by omega, decide_eq_true h]; rfl
  · rw [if_neg (by omega), decide_eq_false h]; rfl
theorem two_lt (a b : ByteArray) (ha : a.size < 1048576) (hb : b.size < 1048576) : ∀ s ∈ [a, b], s.size < 9223372036854775807 := by
  intro s h
  simp only [List.mem_cons, List.mem_nil_iff, or_false] at h
  rcases h with rfl | rfl <;> omega
theorem begins13_tells (a b : ByteArray) (ha : a.size < 1048576) (hb : b.size < 1048576) : Tells (fun k => bolterref13_Begins.f k a b) (begV a.data.toList b.data.toList (errs [a, b])) := by
  unfold bolterref13_Begins.f
  refine (checks13_tells [a, b] (by simp) (two_lt a b ha hb)).bind ?_
  unfold begV
  by_cases he : errs [a, b] = 0
  · simp only [he, if_true]
    rw [begins13_f]
    exact Tells.pure _
  · simp only [he, if_false]
    exact Tells.pure _
theorem ends13_tells (a b : ByteArray) (ha : a.size < 1048576) (hb : b.size < 1048576) : Tells (fun k => bolterref13_Ends.f k a b) (endV a.data.toList b.data.toList (errs [a, b])) := by
  unfold bolterref13_Ends.f
  refine (checks13_tells [a, b] (by simp) (two_lt a b ha hb)).bind ?_
  unfold endV
  by_cases he : errs [a, b] = 0
  · simp only [he, if_true]
    rw [ends13_f _ _ (by omega)]
    exact Tells.pure _
  · simp only [he, if_false]
    exact Tells.pure _
def numsOf (l : List UInt8) : List Int := l.map fun b => (b.toNat : Int)
theorem bytesOf_nums (s : ByteArray) : bytesOf s = numsOf s.data.toList := rfl
theorem str_nums (l : List UInt8) : strOfNums (numsOf l) = ⟨l.toArray⟩ := by
  unfold strOfNums numsOf
  rw [List.map_map]
  have : l.map ((fun x : Int => x.toNat.toUInt8) ∘ fun b : UInt8 => (b.toNat : Int)) = l := by
    conv => rhs; rw [← List.map_id l]
    exact List.map_congr_left (fun b _ => by simp)
  first | rw [this] | (congr 1; congr 1)
theorem whole13 (l : List UInt8) : bolterref13_whole.f (numsOf l) = some (wholeV l) := by
  unfold bolterref13_whole.f wholeV
  rw [str_nums]
  have hl : (numsOf l).length = l.length := by simp [numsOf]
  rw [hl]
  by_cases h : l.length ≤ 16384
  · rw [if_neg (by omega), if_pos h]
  · rw [if_pos (by omega), if_neg h]
theorem conv63 (s : ByteArray) (hs : s.size ≤ 9223372036854775807) : conv_bytes63.f s = some (numsOf s.data.toList) := by unfold conv_bytes63.f; rw [if_pos hs]; rfl
theorem trimLeft13_tells (a b : ByteArray) (ha : a.size < 1048576) (hb : b.size < 1048576) : Tells (fun k => bolterref13_TrimLeft.f k a b) (whoV (trimPrefix a.data.toList b.data.toList) (errs [a, b])) := by
  unfold bolterref13_TrimLeft.f
  refine (checks13_tells [a, b] (by simp) (two_lt a b ha hb)).bind ?_
  by_cases he : errs [a, b] = 0
  · rw [show whoV (trimPrefix a.data.toList b.data.toList) (errs [a, b]) = wholeV (trimPrefix a.data.toList b.data.toList) from if_pos he]
    refine Tells.ifp he ?_
    rw [begins13_f]
    simp only [Option.bind_some]
    by_cases h : hasPrefix a.data.toList b.data.toList = true
    · have hle := prefix_size h
      refine Tells.ifp h (Tells.ifp (by omega) (Tells.ifp (by omega) ?_))
      rw [Int.toNat_natCast, ext_mk, List.take_of_length_le (by rw [List.length_drop, ← size_eq]; exact Nat.le_refl _)]
      rw [conv63 _ (by rw [mkS_size, List.length_drop, ← size_eq]; omega), mkS_data]
      simp only [Option.bind_some]
      rw [whole13]
      unfold trimPrefix
      rw [if_pos h, ← size_eq]
      exact Tells.pure _
    · refine Tells.ifn h ?_
      rw [conv63 _ (by omega)]
      simp only [Option.bind_some]
      rw [whole13]
      unfold trimPrefix
      rw [if_neg h]
      exact Tells.pure _
  · rw [show whoV (trimPrefix a.data.toList b.data.toList) (errs [a, b]) = (⟨#[]⟩, errs [a, b]) from if_neg he]
    exact Tells.ifn he (Tells.pure _)
theorem trimRight13_tells (a b : ByteArray) (ha : a.size < 1048576) (hb : b.size < 1048576) : Tells (fun k => bolterref13_TrimRight.f k a b) (whoV (trimSuffix a.data.toList b.data.toList) (errs [a, b])) := by
  unfold bolterref13_TrimRight.f
  refine (checks13_tells [a, b] (by simp) (two_lt a b ha hb)).bind ?_
  by_cases he : errs [a, b] = 0
  · rw [show whoV (trimSuffix a.data.toList b.data.toList) (errs [a, b]) = wholeV (trimSuffix a.data.toList b.data.toList) from if_pos he]
    refine Tells.ifp he ?_
    rw [ends13_f _ _ (by omega)]
    simp only [Option.bind_some]
    by_cases h : hasSuffix a.data.toList b.data.toList = true
    · have hle := suffix_size h
      rw [w64 (by omega) (by omega)]
      refine Tells.ifp h (Tells.ifp (by omega) (Tells.ifp (by omega) ?_))
      rw [show ((a.size : Int) - b.size).toNat = a.size - b.size by omega, ext_mk, List.drop_zero, Nat.sub_zero]
      rw [conv63 _ (by rw [mkS_size, List.length_take, ← size_eq]; omega), mkS_data]
      simp only [Option.bind_some]
      rw [whole13]
      unfold trimSuffix
      rw [if_pos h, ← size_eq, ← size_eq]
      exact Tells.pure _
    · refine Tells.ifn h ?_
      rw [conv63 _ (by omega)]
      simp only [Option.bind_some]
      rw [whole13]
      unfold trimSuffix
      rw [if_neg h]
      exact Tells.pure _
  · rw [show whoV (trimSuffix a.data.toList b.data.toList) (errs [a, b]) = (⟨#[]⟩, errs [a, b]) from if_neg he]
    exact Tells.ifn he (Tells.pure _)
theorem numsOf_app (a b : List UInt8) : numsOf a ++ numsOf b = numsOf (a ++ b) := by simp [numsOf]
theorem numsOf_len (a : List UInt8) : (numsOf a).length = a.length := by simp [numsOf]
theorem repeat13_l (s : ByteArray) (n : Int) (hs : s.size < 1048576) (hn : n ≤ 9223372036854775807) : ∀ (d i : Nat), 16386 ≤ i + d → (i : Int) ≤ max n 0 → Tells (fun k => bolterref13_Repeat.l0 k s n (numsOf (repeatL s.data.toList i)) (i : Int)) (wholeV (repeatL s.data.toList n.toNat))
  | d, i, hd, hi => by
    refine Tells.succ ?_
    simp only [bolterref13_Repeat.l0]
    rw [whole13]
    by_cases h1 : (i : Int) < n
    · refine Tells.ifp h1 ?_
      by_cases h2 : (s.size : Int) > 0
      · refine Tells.ifp h2 ?_
        have hp : 1 ≤ s.data.toList.length := by rw [← size_eq]; omega
        have hlen : i ≤ (repeatL s.data.toList i).length := by
          rw [repeatL_length]; exact Nat.le_trans (Nat.le_of_eq (Nat.mul_one i).symm) (Nat.mul_le_mul_left _ hp)
        by_cases h3 : ((numsOf (repeatL s.data.toList i)).length : Int) ≤ 16384
        · rw [numsOf_len] at h3
          obtain ⟨d, rfl⟩ : ∃ d', d = d' + 1 := ⟨d - 1, by omega⟩
          have ih := repeat13_l s n hs hn d (i + 1) (by omega) (by omega)
          refine Tells.ifp (by rw [numsOf_len]; exact h3) (Tells.ifp (by rw [numsOf_len]; omega) ?_)
          rw [bytesOf_nums, numsOf_app, w64 (by omega) (by omega)]
          have e : repeatL s.data.toList i ++ s.data.toList = repeatL s.data.toList (i + 1) := by rw [repeatL_add, repeatL_one]
          rw [e]
          exact ih
        · refine Tells.ifn h3 (Tells.of ?_)
          rw [numsOf_len] at h3
          have h4 : 16384 < (repeatL s.data.toList n.toNat).length := by
            rw [repeatL_length] at h3 ⊢
            have : i * s.data.toList.length ≤ n.toNat * s.data.toList.length := Nat.mul_le_mul_right _ (by omega)
            omega
          rw [wholeV_long h4, wholeV_long (by omega)]; rfl
      · refine Tells.ifn h2 (Tells.of ?_)
        have : s.data.toList = [] := List.eq_nil_of_length_eq_zero (by rw [← size_eq]; omega)
        rw [this, repeatL_nil, repeatL_nil]; rfl
    · refine Tells.ifn h1 (Tells.of ?_)
      rw [show n.toNat = i by omega]; rfl
theorem repeat13_tells (s : ByteArray) (n : Int) (hs : s.size < 1048576) (hn : n ≤ 9223372036854775807) : Tells (fun k => bolterref13_Repeat.f k s n) (repV s.data.toList n) := by
  unfold bolterref13_Repeat.f
  refine (checks13_tells [s] (by simp) (fun x hx => by simp at hx; subst hx; omega)).bind ?_
  rw [errs_one]
  unfold repV
  by_cases he : errV s.data.toList = 0
  · rw [if_pos he]
    exact Tells.ifp he (repeat13_l s n hs hn 16386 0 (by omega) (by omega))
  · rw [if_neg he]
    exact Tells.ifn he (Tells.pure _)
theorem replL_nil (old by_ : List UInt8) (ho : old ≠ []) : replL old by_ [] = [] := replL_miss old by_ [] (by
  unfold index; rw [if_neg (by simpa using ho)])
theorem replL_step (old by_ : List UInt8) (ho : old ≠ []) (c : UInt8) (t : List UInt8) : replL old by_ (c :: t) = if hasPrefix (c :: t) old = true then by_ ++ replL old by_ ((c :: t).drop old.length) else c :: replL old by_ t := by
  unfold hasPrefix
  by_cases h : old.isPrefixOf (c :: t) = true
  · rw [if_pos h]
    have hi : index (c :: t) old = ((0 : Nat) : Int) := by unfold index; rw [if_pos h]; rfl
    rw [replL_hit old by_ _ ho 0 hi, Nat.zero_add]; rfl
  · rw [if_neg h]
    by_cases hm : index t old = -1
    · have hi : index (c :: t) old = -1 := by unfold index; rw [if_neg h, hm]; rfl
      rw [replL_miss _ _ _ hi, replL_miss _ _ _ hm]
    · have hg := index_ge t old
      obtain ⟨i, hi⟩ : ∃ i : Nat, index t old = (i : Int) := ⟨(index t old).toNat, by omega⟩
      have hi2 : index (c :: t) old = ((i + 1 : Nat) : Int) := by
        unfold index; rw [if_neg h, if_neg (by simp [hm]), hi]; omega
      rw [replL_hit old by_ _ ho _ hi2, replL_hit old by_ t ho i hi, List.take_succ_cons, show i + 1 + old.length = (i + old.length) + 1 by omega, List.drop_succ_cons]
      rfl
def replR (old by_ s : List UInt8) : List UInt8 := if old = [] then s else replL old by_ s
theorem bt_data (s : ByteArray) (i : Nat) (h : i < s.size) : ∃ c t, s.data.toList.drop i = c :: t ∧ bt s (i : Int) = (c.toNat : Int) ∧ s.data.toList.drop (i + 1) = t := by
  have hl : i < s.data.toList.length := by rw [← size_eq]; exact h
  refine ⟨s.data.toList[i], s.data.toList.drop (i + 1), List.drop_eq_getElem_cons hl, ?_, rfl⟩
  rw [bt_g, List.getD, List.getElem?_eq_getElem hl]; rfl
set_option maxHeartbeats 1000000 in
theorem replace13_l (s old by_ : ByteArray) (hs : s.size < 1048576) (ho : old.size < 1048576) (hb : by_.size < 1048576) : ∀ (d i : Nat) (acc : List UInt8), s.size ≤ i + d → acc.length < 2097152 →
    Tells (fun k => bolterref13_Replace.l0 k s old by_ (numsOf acc) (i : Int)) (wholeV (acc ++ replR old.data.toList by_.data.toList (s.data.toList.drop i)))
  | d, i, acc, hd, ha => by
    refine Tells.succ ?_
    simp only [bolterref13_Replace.l0]
    have fin : ∀ L, wholeV acc = wholeV L → Tells (fun k => bolterref13_Replace.j1 k s old by_ (numsOf acc) (i : Int) false) (wholeV L) := by
      intro L hL
      refine Tells.succ ?_
      simp only [bolterref13_Replace.j1, Bool.false_eq_true, if_false]
      rw [whole13]
      exact Tells.of (by rw [← hL]; rfl)
    by_cases h1 : (i : Int) < (s.size : Int)
    · refine Tells.ifp h1 ?_
      rw [numsOf_len]
      by_cases h2 : (acc.length : Int) ≤ 16384
      · rw [decide_eq_true h2]
        refine Tells.succ ?_
        simp only [bolterref13_Replace.j1, if_true]
        obtain ⟨d, rfl⟩ : ∃ d', d = d' + 1 := ⟨d - 1, by omega⟩
        obtain ⟨c, t, e1, e2, e3⟩ := bt_data s i (by omega)
        have one : Tells (fun k => bolterref13_Replace.l0 k s old by_ (numsOf acc ++ [bt s (i : Int)]) (wrap64 ((i : Int) + 1))) (wholeV (acc ++ c :: replR old.data.toList by_.data.toList t)) := by
          have ih := replace13_l s old by_ hs ho hb d (i + 1) (acc ++ [c]) (by omega) (by rw [List.length_append, List.length_cons, List.length_nil]; omega)
          rw [e3] at ih
          rw [e2, w64 (by omega) (by omega)]
          have : numsOf acc ++ [(c.toNat : Int)] = numsOf (acc ++ [c]) := by simp [numsOf]
          rw [this]
          have e4 : acc ++ c :: replR old.data.toList by_.data.toList t = acc ++ [c] ++ replR old.data.toList by_.data.toList t := by simp
          rw [e4]
          exact ih
        have hlen : (numsOf acc).length < 140737488355328 := by rw [numsOf_len]; omega
        rw [e1]
        by_cases h3 : old.data.toList = []
        · have e5 : replR old.data.toList by_.data.toList (c :: t) = c :: replR old.data.toList by_.data.toList t := by unfold replR; rw [if_pos h3, if_pos h3]
          rw [e5]
          exact Tells.ifp (by rw [toList_data]; exact h3) (Tells.ifp (by omega) (Tells.ifp h1 (Tells.ifp hlen one)))
        · refine Tells.ifn (by rw [toList_data]; exact h3) (Tells.ifp (by omega) (Tells.ifp (by omega) ?_))
          rw [begins13_f, Int.toNat_natCast, ext_mk, mkS_data, List.take_of_length_le (by rw [List.length_drop, ← size_eq]; exact Nat.le_refl _), e1]
          simp only [Option.bind_some]
          unfold replR
          rw [if_neg h3, replL_step _ _ h3]
          by_cases h4 : hasPrefix (c :: t) old.data.toList = true
          · rw [if_pos h4]
            refine Tells.ifp h4 (Tells.ifp (by rw [numsOf_len]; omega) ?_)
            have hol : old.data.toList.length ≤ (c :: t).length := by
              unfold hasPrefix at h4
              exact (List.isPrefixOf_iff_prefix.1 h4).length_le
            have hop : 0 < old.data.toList.length := List.length_pos_iff.2 h3
            have hz : (c :: t).length = s.size - i := by rw [← e1, List.length_drop, ← size_eq]
            have hoz := size_eq old
            have ih := replace13_l s old by_ hs ho hb d (i + old.size) (acc ++ by_.data.toList) (by omega) (by rw [List.length_append, ← size_eq]; omega)
            rw [bytesOf_nums, numsOf_app, w64 (by omega) (by omega)]
            have e6 : s.data.toList.drop (i + old.size) = (c :: t).drop old.data.toList.length := by rw [← e1, List.drop_drop, hoz]
            rw [e6] at ih
            unfold replR at ih
            rw [if_neg h3] at ih
            rw [← List.append_assoc]
            exact ih
          · rw [if_neg h4]
            refine Tells.ifn h4 ?_
            have := one
            unfold replR at this
            rw [if_neg h3] at this
            exact Tells.ifp h1 (Tells.ifp hlen this)
      · rw [decide_eq_false h2]
        refine fin _ ?_
        rw [wholeV_long (by omega), wholeV_long (by rw [List.length_append]; omega)]
    · refine Tells.ifn h1 (fin _ ?_)
      have : s.data.toList.drop i = [] := List.drop_eq_nil_of_le (by rw [← size_eq]; omega)
      rw [this]
      have hr : replR old.data.toList by_.data.toList [] = [] := by
        unfold replR
        split
        · rfl
        · rename_i h; exact replL_nil _ _ h
      rw [hr, List.append_nil]
theorem replace13_tells (s old by_ : ByteArray) (hs : s.size < 1048576) (ho : old.size < 1048576) (hb : by_.size < 1048576) : Tells (fun k => bolterref13_Replace.f k s old by_) (replV s.data.toList old.data.toList by_.data.toList (errs [s, old, by_])) := by
  unfold bolterref13_Replace.f
  refine (checks13_tells [s, old, by_] (by simp) (fun x hx => by
    simp only [List.mem_cons, List.mem_nil_iff, or_false] at hx
    rcases hx with rfl | rfl | rfl <;> omega)).bind ?_
  unfold replV
  by_cases he : errs [s, old, by_] = 0
  · rw [if_pos he]
    refine Tells.ifp he ?_
    have h := replace13_l s old by_ hs ho hb s.size 0 [] (by omega) (by simp)
    rw [List.drop_zero, List.nil_append] at h
    unfold replR at h
    have e : (if old.data.toList = [] then wholeV s.data.toList else wholeV (replL old.data.toList by_.data.toList s.data.toList)) = wholeV (if old.data.toList = [] then s.data.toList else replL old.data.toList by_.data.toList s.data.toList) := by split <;> rfl
    rw [e]
    exact h
  · rw [if_neg he]
    exact Tells.ifn he (Tells.pure _)
theorem occ_ext (s sep : ByteArray) (a j : Nat) (h : a + j + sep.size ≤ s.size) : ((s.extract (a + j) (a + j + sep.size)).toList = sep.toList) ↔ occAt (s.data.toList.drop a) sep.data.toList j = true := by
  have hz := size_eq s
  have hp := size_eq sep
  rw [occAt_iff_take _ _ _ (by rw [List.length_drop]; omega), extract_toList, toList_data, List.drop_drop, beq_iff_eq, show a + j + sep.size - (a + j) = sep.data.toList.length by omega]
set_option maxHeartbeats 1000000 in
theorem cut11_l (s sep : ByteArray) (hs : s.size < 1048576) (hp : sep.size < 1048576) (hsep : sep.data.toList ≠ []) : ∀ (d fr j : Nat) (out : List ByteArray), s.size + 1 ≤ fr + j + d → fr ≤ s.size → fr + j ≤ s.size + 1 → out.length ≤ fr →
    (∀ i, i < j → occAt (s.data.toList.drop fr) sep.data.toList i = false) →
    Tells (fun k => bolterref11_Cut.l1 k s sep out (fr : Int) ((fr + j : Nat) : Int)) (out ++ (cutA sep.data.toList (s.data.toList.drop fr)).map mkS)
  | d, fr, j, out, hd, hf, hfj, ho, hno => by
    have hz := size_eq s
    have hpz := size_eq sep
    have hpos : 0 < sep.data.toList.length := List.length_pos_iff.2 hsep
    refine Tells.succ ?_
    simp only [bolterref11_Cut.l1]
    by_cases h1 : fr + j ≤ s.size
    · obtain ⟨d, rfl⟩ : ∃ d', d = d' + 1 := ⟨d - 1, by omega⟩
      refine Tells.ifp (by omega) ?_
      rw [w64 (x := (s.size : Int) - ((fr + j : Nat) : Int)) (by omega) (by omega), w64 (x := ((fr + j : Nat) : Int) + (sep.size : Int)) (by omega) (by omega), w64 (x := ((fr + j : Nat) : Int) + 1) (by omega) (by omega)]
      have next : occAt (s.data.toList.drop fr) sep.data.toList j = false → Tells (fun k => bolterref11_Cut.l1 k s sep out (fr : Int) (((fr + j : Nat) : Int) + 1)) (out ++ (cutA sep.data.toList (s.data.toList.drop fr)).map mkS) := fun hj => by
        have ih := cut11_l s sep hs hp hsep d fr (j + 1) out (by omega) hf (by omega) ho (fun i hi => by
          rcases Nat.lt_succ_iff_lt_or_eq.1 hi with h | rfl
          · exact hno i h
          · exact hj)
        exact ih
      by_cases h2 : (s.size : Int) - ((fr + j : Nat) : Int) ≥ (sep.size : Int)
      · refine Tells.ifp h2 (Tells.ifp (by omega) (Tells.ifp (by omega) (Tells.ifp (by omega) ?_)))
        rw [show ((((fr + j : Nat) : Int) + (sep.size : Int))).toNat = fr + j + sep.size by omega, Int.toNat_natCast]
        have hiff := occ_ext s sep fr j (by omega)
        by_cases h3 : (s.extract (fr + j) (fr + j + sep.size)).toList = sep.toList
        · have hocc := hiff.1 h3
          refine Tells.ifp h3 (Tells.ifp (by omega) (Tells.ifp (by omega) (Tells.ifp (by omega) ?_)))
          have hidx : index (s.data.toList.drop fr) sep.data.toList = (j : Int) := index_first (by rw [List.length_drop]; omega) hocc hno
          have ih := cut11_l s sep hs hp hsep d (fr + j + sep.size) 0 (out ++ [s.extract fr (fr + j)]) (by omega) (by omega) (by omega) (by rw [List.length_append, List.length_cons, List.length_nil]; omega) (fun i hi => by omega)
          rw [Nat.add_zero] at ih
          rw [cutA_hit _ _ hsep j hidx, List.map_cons, List.drop_drop, show fr + (j + sep.data.toList.length) = fr + j + sep.size by omega]
          rw [show (((fr + j : Nat) : Int) + (sep.size : Int)) = ((fr + j + sep.size : Nat) : Int) by omega, Int.toNat_natCast]
          have e : s.extract fr (fr + j) = mkS ((s.data.toList.drop fr).take j) := by rw [ext_mk, show fr + j - fr = j by omega]
          rw [e] at ih ⊢
          rw [List.append_assoc] at ih
          exact ih
        · refine Tells.ifn h3 (next ?_)
          cases hb : occAt (s.data.toList.drop fr) sep.data.toList j with
          | false => rfl
          | true => exact absurd (hiff.2 hb) h3
      · refine Tells.ifn h2 (next ?_)
        cases hb : occAt (s.data.toList.drop fr) sep.data.toList j with
        | false => rfl
        | true =>
          rcases occAt_room hb with h | h
          · rw [List.length_drop] at h; omega
          · exact absurd h hsep
    · refine Tells.ifn (by omega) (Tells.ifp (by omega) (Tells.ifp (by omega) (Tells.ifp (by omega) (Tells.of ?_))))
      have hm : index (s.data.toList.drop fr) sep.data.toList = -1 := index_none (fun i hi => hno i (by rw [List.length_drop] at hi; omega))
      rw [cutA_miss _ _ hm, Int.toNat_natCast, ext_mk, List.take_of_length_le (by rw [List.length_drop, ← hz]; exact Nat.le_refl _)]
      rfl
end Go.Proofs.YtdhjdddjgcfhkaaDoor.P

end

section
namespace Go.Proofs.YtdhjdddjgcfhkaaDoor.B
open Go.RowKit Go.Proofs.YtdhjdddjgcfhkaaDoorW.PrintWords Go.Proofs.YtdhjdddjgcfhkaaDoorW.PrintLast Go.Proofs.YtdhjdddjgcfhkaaDoorW.PrintMore
attribute [local go_sem] max2_int min2_int max_two min_two max_three min_three max_four min_four   -- for this text's walks alone
set_option linter.unusedVariables false
set_option linter.unusedSimpArgs false

mutual
def bolterref13_Join.l0 : Nat → List ByteArray → ByteArray → List Int → Int → Option (ByteArray × Int)
  | 0, _, _, _, _ => none
  | k + 1, x0, x1, x7, x8 => if x8 < (x0.length : Int) then (bolterref13_Join.j1 k x0 x1 x7 x8 (decide ((x7.length : Int) ≤ 16384))) else (bolterref13_Join.j1 k x0 x1 x7 x8 false)
def bolterref13_Join.j1 : Nat → List ByteArray → ByteArray → List Int → Int → Bool → Option (ByteArray × Int)
  | 0, _, _, _, _, _ => none
  | k + 1, x0, x1, x7, x8, x27 => if x27 = true then (if x8 > 0 then (if x7.length + x1.size < 140737488355328 then ((some (x7 ++ bytesOf x1 : List Int)).bind fun y451 => (if 0 ≤ x8 then (if x8 < (x0.length : Int) then (if y451.length + (rdOf ByteArray.empty x0 x8).size < 140737488355328 then (bolterref13_Join.l0 k x0 x1 (y451 ++ bytesOf (rdOf ByteArray.empty x0 x8)) (wrap64 (x8 + 1))) else (none)) else (none)) else (none))) else (none)) else (if 0 ≤ x8 then (if x8 < (x0.length : Int) then (if x7.length + (rdOf ByteArray.empty x0 x8).size < 140737488355328 then (bolterref13_Join.l0 k x0 x1 (x7 ++ bytesOf (rdOf ByteArray.empty x0 x8)) (wrap64 (x8 + 1))) else (none)) else (none)) else (none))) else ((bolterref13_whole.f x7).bind fun bt462 => (some (bt462.1, bt462.2)))
end
def bolterref13_Join.f (k : Nat) (l0 : List ByteArray) (a1 : ByteArray) : Option (ByteArray × Int) := (some (([] : List ByteArray) : List ByteArray)).bind fun y441 => (if y441.length + l0.length < 8796093022208 then ((some (y441 ++ l0 : List ByteArray)).bind fun y444 => (if y444.length < 8796093022208 then ((bolterref13_Checks.f k (y444 ++ [a1])).bind fun t450 => (if t450 = 0 then (bolterref13_Join.l0 k l0 a1 ([] : List Int) 0) else (some ((⟨#[]⟩ : ByteArray), t450)))) else (none))) else (none))
def bolterref13_Split.f (k : Nat) (a0 : ByteArray) (a1 : ByteArray) : Option (List ByteArray × Int) := (bolterref13_Checks.f k (([a0, a1] : List ByteArray))).bind fun t467 => (if t467 = 0 then ((bolterref11_Cut.f k a0 a1).bind fun t468 => ((bolterref13_wholes.f k t468).bind fun bt471 => (some (bt471.1, bt471.2)))) else (some (([] : List ByteArray), t467)))
end Go.Proofs.YtdhjdddjgcfhkaaDoor.B

end

section
/- bolterref13.moved: octets of a converted text written over, walked. -/
set_option linter.unusedVariables false
set_option linter.unusedSimpArgs false
namespace Go.Proofs.YtdhjdddjgcfhkaaDoor.B
open Go.RowKit Go.Shelf Go.Proofs.YtdhjdddjgcfhkaaDoorW.PrintWords

def mvB (lo by_ c : Int) : Int := if lo ≤ c ∧ c < (lo + 26) % 256 then wrap64 (c + by_) % 256 else c
def bolterref13_moved.f (k : Nat) (a0 : ByteArray) (a1 a2 : Int) : Option (ByteArray × Int) :=
  (bolterref13_Checks.f k [a0]).bind fun e => if e = 0 then (if a0.size ≤ 4611686018427387904 then bolterref13_whole.f ((bytesOf a0).map (mvB a1 a2)) else none) else some (⟨#[]⟩, e)
end Go.Proofs.YtdhjdddjgcfhkaaDoor.B

end

section
namespace Go.Proofs.YtdhjdddjgcfhkaaDoor.B
open Go.RowKit Go.Proofs.YtdhjdddjgcfhkaaDoorW.PrintWords Go.Proofs.YtdhjdddjgcfhkaaDoorW.PrintLast Go.Proofs.YtdhjdddjgcfhkaaDoorW.PrintMore
attribute [local go_sem] max2_int min2_int max_two min_two max_three min_three max_four min_four   -- for this text's walks alone
set_option linter.unusedVariables false
set_option linter.unusedSimpArgs false

def bolterref13_Lower.f (k : Nat) (a0 : ByteArray) : Option (ByteArray × Int) := (bolterref13_moved.f k a0 65 32).bind fun bt475 => (some (bt475.1, bt475.2))
def bolterref13_Upper.f (k : Nat) (a0 : ByteArray) : Option (ByteArray × Int) := (bolterref13_moved.f k a0 97 (-32)).bind fun bt477 => (some (bt477.1, bt477.2))
end Go.Proofs.YtdhjdddjgcfhkaaDoor.B

end

section
namespace Go.Proofs.YtdhjdddjgcfhkaaDoor.B
open Go.RowKit Go.Proofs.YtdhjdddjgcfhkaaDoorW.PrintWords Go.Proofs.YtdhjdddjgcfhkaaDoorW.PrintLast Go.Proofs.YtdhjdddjgcfhkaaDoorW.PrintMore
attribute [local go_sem] max2_int min2_int max_two min_two max_three min_three max_four min_four   -- for this text's walks alone
set_option linter.unusedVariables false
set_option linter.unusedSimpArgs false

def texts_Trim.f (k : Nat) (a0 : ByteArray) : Option (ByteArray × Int) := (strings_Trim.f a0 (⟨#[32, 9, 10, 13]⟩ : ByteArray)).bind fun t479 => ((texts_Checks.f k (([a0] : List ByteArray))).bind fun t483 => ((texts_whole.f t479 t483).bind fun bt484 => (some (bt484.1, bt484.2))))
def bolterref13_blank.f (a0 : Int) : Option (Bool) := if a0 = 32 then (some true) else (if a0 = 9 then (some true) else (if a0 = 10 then (some true) else (some (a0 == 13))))
mutual
def bolterref13_Trim.j1 : Nat → ByteArray → Option (ByteArray × Int)
  | 0, _ => none
  | k + 1, x0 => bolterref13_Trim.l1 k x0
def bolterref13_Trim.l1 : Nat → ByteArray → Option (ByteArray × Int)
  | 0, _ => none
  | k + 1, x0 => if (x0.size : Int) > 0 then (if 0 ≤ (wrap64 ((x0.size : Int) - 1)) then (if (wrap64 ((x0.size : Int) - 1)) < (x0.size : Int) then ((bolterref13_blank.f (bt x0 (wrap64 ((x0.size : Int) - 1)))).bind fun t491 => (if t491 = true then (if (wrap64 ((x0.size : Int) - 1)) ≤ (x0.size : Int) then (bolterref13_Trim.l1 k (x0.extract 0 ((wrap64 ((x0.size : Int) - 1)) : Int).toNat)) else (none)) else ((conv_bytes63.f x0).bind fun t492 => ((bolterref13_whole.f t492).bind fun bt495 => (some (bt495.1, bt495.2)))))) else (none)) else (none)) else ((conv_bytes63.f x0).bind fun t497 => ((bolterref13_whole.f t497).bind fun bt500 => (some (bt500.1, bt500.2))))
def bolterref13_Trim.l0 : Nat → ByteArray → Option (ByteArray × Int)
  | 0, _ => none
  | k + 1, x0 => if (x0.size : Int) > 0 then (if 0 < (x0.size : Int) then ((bolterref13_blank.f (bt x0 0)).bind fun t490 => (if t490 = true then (if 1 ≤ (x0.size : Int) then (bolterref13_Trim.l0 k (x0.extract 1 x0.size)) else (none)) else (bolterref13_Trim.j1 k x0))) else (none)) else (bolterref13_Trim.j1 k x0)
end
def bolterref13_Trim.f (k : Nat) (a0 : ByteArray) : Option (ByteArray × Int) := (bolterref13_Checks.f k (([a0] : List ByteArray))).bind fun t489 => (if t489 = 0 then (bolterref13_Trim.l0 k a0) else (some ((⟨#[]⟩ : ByteArray), t489)))
def bolterlaw13_TextsTells.f (k : Nat) (l0 : List ByteArray) (a1 : ByteArray) (a2 : ByteArray) : Option (Bool) := (texts_Join.f k l0 a2).bind fun bt502 => ((bolterref13_Join.f k l0 a2).bind fun bt504 => ((texts_Split.f k a1 a2).bind fun bt506 => ((bolterref13_Split.f k a1 a2).bind fun bt510 => ((texts_Lower.f k a1).bind fun bt514 => ((bolterref13_Lower.f k a1).bind fun bt516 => ((texts_Upper.f k a1).bind fun bt518 => ((bolterref13_Upper.f k a1).bind fun bt520 => ((texts_Trim.f k a1).bind fun bt522 => ((bolterref13_Trim.f k a1).bind fun bt524 => (if bt502.1.toList = bt504.1.toList then ((bolterlaw13_num.f bt502.2).bind fun t526 => (if t526 = bt504.2 then ((bolterplain_SameStrings.f k bt506.1 bt510.1).bind fun t527 => (if t527 = true then ((bolterlaw13_num.f bt506.2).bind fun t528 => (if t528 = bt510.2 then (if bt514.1.toList = bt516.1.toList then ((bolterlaw13_num.f bt514.2).bind fun t529 => (if t529 = bt516.2 then (if bt518.1.toList = bt520.1.toList then ((bolterlaw13_num.f bt518.2).bind fun t530 => (if t530 = bt520.2 then (if bt522.1.toList = bt524.1.toList then ((bolterlaw13_num.f bt522.2).bind fun t531 => (if t531 = bt524.2 then ((bolterlaw13_alive.f k).bind fun t532 => (some t532)) else (some false))) else (some false)) else (some false))) else (some false)) else (some false))) else (some false)) else (some false))) else (some false))) else (some false))) else (some false)))))))))))
end Go.Proofs.YtdhjdddjgcfhkaaDoor.B

end

section
/- The rest of what the references' functions of texts tell: Cut, wholes, Lines, Join, Split, Lower, Upper, Trim; SameStrings. -/
set_option linter.unusedVariables false
set_option linter.unusedSimpArgs false
namespace Go.Proofs.YtdhjdddjgcfhkaaDoor.P
open Go.Lib Go.RowKit Go.Proofs.YtdhjdddjgcfhkaaDoor.B Go.Proofs.YtdhjdddjgcfhkaaDoorW.PrintWords

theorem Ch.enc_may {c : List UInt8} {r : Nat} (h : Ch c r) : mayN r := ⟨h.le.1, h.le.2.1⟩
theorem runes_l (s : ByteArray) (hs : s.size < 1048576) : ∀ (cs : List (List UInt8)) (rs : List Nat) (i : Nat) (out : List Int), Txt (s.data.toList.drop i) cs rs → i ≤ s.size → out.length ≤ i → Tells (fun k => bolterref04_Runes.l0 k s out (i : Int)) (out ++ rs.map (fun r : Nat => (r : Int)), 0)
  | [], rs, i, out, ht, hi, ho => by
    have hd := ht.flat
    have hl := ht.lens
    have hr : rs = [] := by
      cases rs with
      | nil => rfl
      | cons a b => simp at hl
    subst hr
    have : s.size ≤ i := by
      rw [size_eq]; apply List.drop_eq_nil_iff.1; rw [← hd]; rfl
    refine Tells.succ ?_
    simp only [bolterref04_Runes.l0]
    refine Tells.ifn (by omega) (Tells.of (by simp))
  | c :: cs, rs, i, out, ht, hi, ho => by
    generalize hm : s.data.toList.drop i = m at ht
    cases ht with
    | @cons _ r l _ rs hc hr =>
      have hp := hc.pos
      have hlt : i < s.size := by
        rw [size_eq]; apply Nat.lt_of_not_le; intro h
        rw [List.drop_eq_nil_of_le h] at hm
        exact absurd (List.append_eq_nil_iff.1 hm.symm).1 hc.1
      have hlen : c.length + l.length = s.size - i := by
        have := congrArg List.length hm
        rw [List.length_drop, ← size_eq, List.length_append] at this
        omega
      have hnext : s.data.toList.drop (i + c.length) = l := by rw [← List.drop_drop, hm, List.drop_left]
      refine Tells.succ ?_
      simp only [bolterref04_Runes.l0]
      refine Tells.ifp (by omega) (Tells.ifp (by omega) (Tells.ifp (by omega) ?_))
      rw [Int.toNat_natCast, ext_mk, List.take_of_length_le (by rw [List.length_drop, ← size_eq]; exact Nat.le_refl _), hm]
      have hv : firstV (c ++ l) = ((r : Int), (c.length : Int)) := by
        unfold firstV
        rw [if_neg (by simp [hc.1]), hc.app l, if_neg hc.2.2]
      have hf : Tells (fun k => bolterref04_First.f k (mkS (c ++ l))) ((r : Int), (c.length : Int)) := by
        rw [← hv]
        exact ⟨6, fun k hk => by
          obtain ⟨d, rfl⟩ : ∃ d, k = d + 6 := ⟨k - 6, by omega⟩
          exact first_tells _ (by rw [mkS_size, List.length_append]; omega) d⟩
      refine hf.bind (Tells.ifp (by omega) ?_)
      have ih := runes_l s hs cs rs (i + c.length) (out ++ [(r : Int)]) (by rw [hnext]; exact hr) (by omega) (by rw [List.length_append, List.length_cons, List.length_nil]; omega)
      rw [w64 (by omega) (by omega)]
      rw [List.append_assoc] at ih
      exact ih
theorem runes_tells (s : ByteArray) (hs : s.size < 1048576) (cs : List (List UInt8)) (rs : List Nat) (ht : Txt s.data.toList cs rs) : Tells (fun k => bolterref04_Runes.f k s) (rs.map (fun r : Nat => (r : Int)), 0) := by
  unfold bolterref04_Runes.f
  obtain ⟨q, hq, hqe⟩ := checkR_tells s (by omega)
  refine hq.bind (Tells.ifp ?_ ?_)
  · rw [hqe]; unfold errV; rw [if_pos ht.valid']
  · have := runes_l s hs cs rs 0 [] (by rw [List.drop_zero]; exact ht) (by omega) (by simp)
    rwa [List.nil_append] at this
theorem cutChars_l (rs : List Nat) (hm : ∀ r ∈ rs, mayN r) (hl : rs.length < 1048576) : ∀ (r pre : List Nat) (out : List ByteArray), rs = pre ++ r → out.length = pre.length →
    Tells (fun k => bolterref11_Cut.l0 k out (rs.map (fun r : Nat => (r : Int))) (pre.length : Int)) (out ++ r.map (fun r : Nat => mkS (encodeRune (r : Int))))
  | [], pre, out, e, ho => by
    refine Tells.succ ?_
    simp only [bolterref11_Cut.l0, List.length_map]
    refine Tells.ifn (by rw [e]; simp) (Tells.of (by simp))
  | x :: r, pre, out, e, ho => by
    have hlen : pre.length < rs.length := by rw [e]; simp
    have hx : rs[pre.length]? = some x := by rw [e]; simp
    refine Tells.succ ?_
    simp only [bolterref11_Cut.l0, List.length_map]
    refine Tells.ifp (by omega) (Tells.ifp (by omega) ?_)
    have hr : rd (rs.map (fun r : Nat => (r : Int))) (pre.length : Int) = (x : Int) := by
      unfold rd; simp [List.getD, hx]
    rw [hr, octets_tells x (hm x (List.mem_of_getElem? hx))]
    simp only [Option.bind_some]
    refine Tells.ifp (by omega) ?_
    have ih := cutChars_l rs hm hl r (pre ++ [x]) (out ++ [mkS (encodeRune (x : Int))]) (by rw [e]; simp) (by simp [ho])
    rw [w64 (by omega) (by omega)]
    have e2 : ((pre.length : Int) + 1) = ((pre ++ [x]).length : Int) := by simp
    rw [e2]
    rw [List.append_assoc] at ih
    exact ih
theorem Txt.encs {l : List UInt8} {cs : List (List UInt8)} {rs : List Nat} (h : Txt l cs rs) : rs.map (fun r : Nat => mkS (encodeRune (r : Int))) = cs.map mkS ∧ ∀ r ∈ rs, mayN r := by
  induction h with
  | nil => exact ⟨rfl, fun r h => by cases h⟩
  | cons hc _ ih =>
    refine ⟨by rw [List.map_cons, List.map_cons, hc.enc, ih.1], fun r h => ?_⟩
    rcases List.mem_cons.1 h with rfl | h
    · exact hc.enc_may
    · exact ih.2 r h
theorem cut11_tells (s sep : ByteArray) (hs : s.size < 1048576) (hp : sep.size < 1048576) (cs : List (List UInt8)) (rs : List Nat) (ht : sep.data.toList = [] → Txt s.data.toList cs rs) :
    Tells (fun k => bolterref11_Cut.f k s sep) ((cutV s.data.toList sep.data.toList cs).map mkS) := by
  unfold bolterref11_Cut.f cutV
  by_cases h0 : s.data.toList = []
  · rw [if_pos h0]
    exact Tells.ifp (by rw [toList_data]; exact h0) (Tells.pure _)
  · rw [if_neg h0]
    refine Tells.ifn (by rw [toList_data]; exact h0) ?_
    by_cases h1 : sep.data.toList = []
    · rw [if_pos h1]
      refine Tells.ifp (by rw [toList_data]; exact h1) ?_
      have t := ht h1
      refine (runes_tells s hs cs rs t).bind ?_
      have hl := t.lens
      rw [← size_eq] at hl
      have := cutChars_l rs t.encs.2 (by omega) rs [] [] rfl rfl
      rw [List.nil_append, t.encs.1] at this
      exact this
    · rw [if_neg h1]
      refine Tells.ifn (by rw [toList_data]; exact h1) ?_
      have := cut11_l s sep hs hp h1 (s.size + 1) 0 0 [] (by omega) (by omega) (by omega) (by simp) (fun i hi => by omega)
      rw [List.drop_zero, List.nil_append] at this
      exact this
theorem wholes13_l (ps : List (List UInt8)) (hl : ps.length < 9223372036854775807) : ∀ (r pre : List (List UInt8)), ps = pre ++ r → Tells (fun k => bolterref13_wholes.l0 k (ps.map mkS) (pre.length : Int)) (if (∀ x ∈ r, x.length ≤ 16384) then (ps.map mkS, 0) else ([], 5))
  | [], pre, e => by
    refine Tells.succ ?_
    simp only [bolterref13_wholes.l0, List.length_map]
    rw [if_pos (fun x hx => by cases hx)]
    exact Tells.ifn (by rw [e]; simp) (Tells.pure _)
  | x :: r, pre, e => by
    have hlen : pre.length < ps.length := by rw [e]; simp
    have hx : (ps.map mkS)[pre.length]? = some (mkS x) := by rw [e]; simp
    refine Tells.succ ?_
    simp only [bolterref13_wholes.l0, List.length_map]
    refine Tells.ifp (by omega) (Tells.ifp (by omega) ?_)
    rw [rdOf_at _ _ _ _ hx, mkS_size]
    by_cases h : x.length ≤ 16384
    · refine Tells.ifn (by omega) ?_
      have ih := wholes13_l ps hl r (pre ++ [x]) (by rw [e]; simp)
      rw [w64 (by omega) (by omega)]
      have e2 : ((pre.length : Int) + 1) = ((pre ++ [x]).length : Int) := by simp
      rw [e2]
      by_cases hr : ∀ y ∈ r, y.length ≤ 16384
      · rw [if_pos hr] at ih
        rw [if_pos (fun y hy => by
          rcases List.mem_cons.1 hy with rfl | hy
          · exact h
          · exact hr y hy)]
        exact ih
      · rw [if_neg hr] at ih
        rw [if_neg (fun hc => hr (fun y hy => hc y (List.mem_cons_of_mem _ hy)))]
        exact ih
    · rw [if_neg (fun hc => h (hc x List.mem_cons_self))]
      exact Tells.ifp (by omega) (Tells.pure _)
theorem wholes13_tells (ps : List (List UInt8)) (hl : ps.length < 9223372036854775807) : Tells (fun k => bolterref13_wholes.f k (ps.map mkS)) (wholesV ps) := wholes13_l ps hl ps [] rfl
def dropE (ps : List (List UInt8)) : List (List UInt8) := if 0 < ps.length ∧ ps.getD (ps.length - 1) [] = [] then ps.take (ps.length - 1) else ps
def linesV (s : List UInt8) : ByteArray → List ByteArray × Int := fun o => if errs [o] = 0 then wholesV (dropE (cutV s [10] [])) else ([], errs [o])
theorem cutV_len (s : List UInt8) : (cutV s [10] []).length ≤ s.length + 1 := by
  unfold cutV
  split
  · simp
  · rw [if_neg (by simp)]; exact (cutA_lens [10] (by simp) _ s (Nat.le_refl _)).2
theorem last_mk (ps : List (List UInt8)) (h : 0 < ps.length) : (rdOf ByteArray.empty (ps.map mkS) (((ps.length - 1 : Nat)) : Int)).toList = ps.getD (ps.length - 1) [] := by
  have hx : (ps.map mkS)[ps.length - 1]? = some (mkS (ps.getD (ps.length - 1) [])) := by
    rw [List.getElem?_map, List.getElem?_eq_getElem (by omega), List.getD, List.getElem?_eq_getElem (by omega)]; rfl
  rw [rdOf_at _ _ _ _ hx, toList_data]; rfl
theorem wholes_err (l : List ByteArray) (e : Int) (he : e ≠ 0) : texts_wholes.f l e = some ([], e) := by unfold texts_wholes.f; rw [if_neg he]
theorem lines_tells (s : ByteArray) (hs : s.size < 1048576) : Tells (fun k => texts_Lines.f k s) (linesV s.data.toList s) := by
  have hc := checks_tells [s] (by simp) (fun x hx => by simp at hx; subst hx; omega)
  unfold texts_Lines.f
  refine (arithCut_tells s ⟨#[10]⟩ (by omega) [] [] (fun h => absurd h (by decide))).bind ?_
  have hlen := cutV_len s.data.toList
  rw [← size_eq] at hlen
  show Tells _ (linesV s.data.toList s)
  unfold linesV
  rw [show (⟨#[10]⟩ : ByteArray).data.toList = [10] from rfl]
  generalize cutV s.data.toList [10] [] = ps at hlen
  simp only [List.length_map]
  have fin : ∀ qs : List (List UInt8), Tells (fun k => (texts_Checks.f k [s]).bind fun t => (texts_wholes.f (qs.map mkS) t).bind fun b => some (b.1, b.2)) (if errs [s] = 0 then wholesV qs else ([], errs [s])) := by
    intro qs
    refine hc.bind ?_
    by_cases he : errs [s] = 0
    · rw [if_pos he, he, wholes_ok]; exact Tells.pure _
    · rw [if_neg he, wholes_err _ _ he]; exact Tells.pure _
  by_cases h0 : 0 < ps.length
  · refine Tells.ifp (by omega) ?_
    rw [w64 (by omega) (by omega)]
    refine Tells.ifp (by omega) (Tells.ifp (by omega) (Tells.succ ?_))
    simp only [texts_Lines.j0]
    rw [w64 (by omega) (by omega), show ((ps.length : Int) - 1) = ((ps.length - 1 : Nat) : Int) by omega, last_mk ps h0]
    by_cases h1 : ps.getD (ps.length - 1) [] = []
    · rw [show dropE ps = ps.take (ps.length - 1) from if_pos ⟨h0, h1⟩]
      refine Tells.ifp (by rw [h1]; rfl) (Tells.ifp (by omega) (Tells.ifp (by rw [List.length_map]; omega) ?_))
      rw [Int.toNat_natCast, ← List.map_take]
      exact fin _
    · rw [show dropE ps = ps from if_neg (fun h => h1 h.2)]
      refine Tells.ifn (by rw [beq_iff_eq]; exact h1) ?_
      exact fin _
  · refine Tells.ifn (by omega) (Tells.succ ?_)
    simp only [texts_Lines.j0, Bool.false_eq_true, if_false]
    rw [show dropE ps = ps from if_neg (fun h => h0 h.1)]
    exact fin _
theorem lines13_tells (s : ByteArray) (hs : s.size < 1048576) : Tells (fun k => bolterref13_Lines.f k s) (linesV s.data.toList s) := by
  unfold bolterref13_Lines.f
  refine (checks13_tells [s] (by simp) (fun x hx => by simp at hx; subst hx; omega)).bind ?_
  unfold linesV
  by_cases he : errs [s] = 0
  · rw [if_pos he]
    refine Tells.ifp he ?_
    refine (cut11_tells s ⟨#[10]⟩ hs (by decide) [] [] (fun h => absurd h (by simp))).bind ?_
    have hlen := cutV_len s.data.toList
    rw [← size_eq] at hlen
    rw [show (⟨#[10]⟩ : ByteArray).data.toList = [10] from rfl]
    generalize cutV s.data.toList [10] [] = ps at hlen
    simp only [List.length_map]
    unfold dropE
    by_cases h0 : 0 < ps.length
    · refine Tells.ifp (by omega) ?_
      rw [w64 (by omega) (by omega), show ((ps.length : Int) - 1) = ((ps.length - 1 : Nat) : Int) by omega, last_mk ps h0]
      refine Tells.ifp (by omega) (Tells.ifp (by omega) ?_)
      by_cases h1 : ps.getD (ps.length - 1) [] = []
      · rw [if_pos ⟨h0, h1⟩]
        refine Tells.ifp h1 (Tells.ifp (by omega) ?_)
        rw [Int.toNat_natCast, ← List.map_take]
        exact (wholes13_tells _ (by rw [List.length_take]; omega)).bind (Tells.pure _)
      · rw [if_neg (fun h => h1 h.2)]
        exact Tells.ifn h1 ((wholes13_tells _ (by omega)).bind (Tells.pure _))
    · rw [if_neg (fun h => h0 h.1)]
      exact Tells.ifn (by omega) ((wholes13_tells _ (by omega)).bind (Tells.pure _))
  · rw [if_neg he]
    exact Tells.ifn he (Tells.pure _)
theorem same_l (l : List ByteArray) (hl : l.length < 9223372036854775807) : ∀ (d i : Nat), i + d = l.length → Tells (fun k => bolterplain_SameStrings.l0 k l l (i : Int)) true
  | 0, i, e => by
    refine Tells.succ ?_
    simp only [bolterplain_SameStrings.l0]
    exact Tells.ifn (by omega) (Tells.pure _)
  | d + 1, i, e => by
    refine Tells.succ ?_
    simp only [bolterplain_SameStrings.l0]
    refine Tells.ifp (by omega) (Tells.ifp (by omega) (Tells.ifp (by omega) (Tells.ifp trivial ?_)))
    rw [w64 (by omega) (by omega)]
    exact same_l l hl d (i + 1) (by omega)
theorem same_tells (l : List ByteArray) (hl : l.length < 9223372036854775807) : Tells (fun k => bolterplain_SameStrings.f k l l) true := by
  unfold bolterplain_SameStrings.f
  exact Tells.ifp rfl (same_l l hl l.length 0 (by omega))
end Go.Proofs.YtdhjdddjgcfhkaaDoor.P

end
