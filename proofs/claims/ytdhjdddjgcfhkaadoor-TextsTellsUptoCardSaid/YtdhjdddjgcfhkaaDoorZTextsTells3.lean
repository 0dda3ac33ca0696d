/- TextsTells: part 4 of 4: the texts B12 PRef13 B14 HRef13 B15 B16 PRefB B13 PEnds RStrs RTextsTells of this claim, one behind the other. -/
import Derived.Test.YtdhjdddjgcfhkaaDoorZTextsTells2
import Derived.WalkKit
import Derived.Lib.Hide
import Derived.Lib.ConvBytes
import Derived.Shelf.Abstract
import Derived.Outline
import Derived.RangeFuncBox
import Derived.Deep.RegionHeld
import Derived.Lib.SlTrimSet
import Derived.DataShut
import Derived.SliceStrings
import Derived.Carry
section
namespace Go.Proofs.YtdhjdddjgcfhkaaDoor.B
open Go.RowKit Go.Proofs.YtdhjdddjgcfhkaaDoorW.PrintWords Go.Proofs.YtdhjdddjgcfhkaaDoorW.PrintLast Go.Proofs.YtdhjdddjgcfhkaaDoorW.PrintMore
attribute [local go_sem] max2_int min2_int max_two min_two max_three min_three max_four min_four   -- for this text's walks alone
set_option linter.unusedVariables false
set_option linter.unusedSimpArgs false

mutual
def bolterref11_Cut.l0 : Nat → List ByteArray → List Int → Int → Option (List ByteArray)
  | 0, _, _, _ => none
  | k + 1, x5, x6, x8 => if x8 < (x6.length : Int) then (if 0 ≤ x8 then ((bolterref04_Octets.f (rd x6 x8)).bind fun t364 => (if x5.length < 8796093022208 then (bolterref11_Cut.l0 k (x5 ++ [strOfNums t364]) x6 (wrap64 (x8 + 1))) else (none))) else (none)) else (some x5)
def bolterref11_Cut.l1 : Nat → ByteArray → ByteArray → List ByteArray → Int → Int → Option (List ByteArray)
  | 0, _, _, _, _, _ => none
  | k + 1, x0, x1, x5, x9, x10 => if x10 ≤ (x0.size : Int) then (if (wrap64 ((x0.size : Int) - x10)) ≥ (x1.size : Int) then (if 0 ≤ x10 then (if x10 ≤ (wrap64 (x10 + (x1.size : Int))) then (if (wrap64 (x10 + (x1.size : Int))) ≤ (x0.size : Int) then (if (x0.extract (x10 : Int).toNat ((wrap64 (x10 + (x1.size : Int))) : Int).toNat).toList = x1.toList then (if 0 ≤ x9 then (if x9 ≤ x10 then (if x5.length < 8796093022208 then (bolterref11_Cut.l1 k x0 x1 (x5 ++ [x0.extract (x9 : Int).toNat (x10 : Int).toNat]) (wrap64 (x10 + (x1.size : Int))) (wrap64 (x10 + (x1.size : Int)))) else (none)) else (none)) else (none)) else (bolterref11_Cut.l1 k x0 x1 x5 x9 (wrap64 (x10 + 1)))) else (none)) else (none)) else (none)) else (bolterref11_Cut.l1 k x0 x1 x5 x9 (wrap64 (x10 + 1)))) else (if 0 ≤ x9 then (if x9 ≤ (x0.size : Int) then (if x5.length < 8796093022208 then (some (x5 ++ [x0.extract (x9 : Int).toNat x0.size])) else (none)) else (none)) else (none))
end
def bolterref11_Cut.f (k : Nat) (a0 : ByteArray) (a1 : ByteArray) : Option (List ByteArray) := if a0.toList = ([] : List UInt8) then (some ([] : List ByteArray)) else (if a1.toList = ([] : List UInt8) then ((bolterref04_Runes.f k a0).bind fun bt359 => (bolterref11_Cut.l0 k ([] : List ByteArray) bt359.1 0)) else (bolterref11_Cut.l1 k a0 a1 ([] : List ByteArray) 0 0))
set_option maxHeartbeats 8000000 in
set_option maxRecDepth 100000 in
theorem bolterref11_Cut.calls (k : Nat) (a0 : ByteArray) (a1 : ByteArray) (r : List ByteArray) (w : World) (h : bolterref11_Cut.f k a0 a1 = some r) :
    Calls Tryd.prog 61 #[.string a0, .string a1] w fun e w' => ∃ v0_ : Value, e = .returned (v0_) ∧ Kd.R Kd.string 9 w' w.heap.size (fun _ => True) v0_ r ∧ Below w.heap.size w w' := by
  have HB := Aside0.mk (Below.refl w.heap.size w)
  have H : (if a0.toList = ([] : List UInt8) then (some ([] : List ByteArray)) else (if a1.toList = ([] : List UInt8) then ((bolterref04_Runes.f k a0).bind fun bt359 => (bolterref11_Cut.l0 k ([] : List ByteArray) bt359.1 0)) else (bolterref11_Cut.l1 k a0 a1 ([] : List ByteArray) 0 0))) = some r := h
  clear h
  by_cases c3 : a0.toList = ([] : List UInt8)
  · rw [if_pos c3] at H
    have c3b0 : (a0.toList == ([] : List UInt8)) = true := beq_iff_eq.mpr c3
    have c3b1 : (a0.toList != ([] : List UInt8)) = false := bne_eq_false_iff_eq.mpr c3
    clear c3
    obtain rfl := Option.some.inj H
    go_enter Tryd.func61, Tryd.ntmps61
    go_wp2
    go_ret
    exact ⟨_, by first | rfl | (simp [errW_none, errW_some] <;> rfl) | (simp [*, errW_none, errW_some] <;> rfl), by first | exact Kd.R_nil _ _ _ _ _ | exact Kd.N_nil _ _ _ _ _ | exact Kd.V_nil _ _ _ _ _ | exact Kd.Q_nil _ _ _ _ _ | exact Kd.S_nil _ _ _ _ _, by repeat (first | (with_reducible first | exact HB.out | apply below_alloc | apply pw_below_drewN | apply below_drew1) | exact HB.out)⟩
  · rw [if_neg c3] at H
    have c3b0 : (a0.toList == ([] : List UInt8)) = false := beq_eq_false_iff_ne.mpr c3
    have c3b1 : (a0.toList != ([] : List UInt8)) = true := bne_iff_ne.mpr c3
    by_cases c4 : a1.toList = ([] : List UInt8)
    · rw [if_pos c4] at H
      have c4b0 : (a1.toList == ([] : List UInt8)) = true := beq_iff_eq.mpr c4
      have c4b1 : (a1.toList != ([] : List UInt8)) = false := bne_eq_false_iff_eq.mpr c4
      clear c4
      replace H := Option.bind_eq_some_iff.mp H
      obtain ⟨⟨t359, t360⟩, A50, H⟩ := H
      replace H : (bolterref11_Cut.l0 k ([] : List ByteArray) t359 0) = some r := H
      have A5 := Aside0.mk A50
      clear A50
      have H' := Aside0.mk H
      clear H
      go_enter Tryd.func61, Tryd.ntmps61
      go_wp2_with (first | ((with_reducible refine gate_callee (f := 89) rfl ?_); refine goesL_ (some 17) rfl rfl Tryd.func89 (by kernel_rfl) rfl #[.string a0] rfl (by (try simp only [List.map_toArray, List.map_cons, List.map_nil]); first | done | rfl | (simp only [List.length_drop, List.length_take]; rfl)) ?_; (with_reducible refine (bolterref04_Runes.calls k a0 t359 t360 _ A5.out).mono ?_); rintro e w6 ⟨v361, rfl, ho0, hb⟩; refine ⟨_, rfl, ?_⟩; have n0_ := Aside0.mk (Kd.R_lower ho0 (below_size (by repeat (first | (with_reducible first | exact HB.out | apply below_alloc | apply pw_below_drewN | apply below_drew1) | exact HB.out)))); have n1_ := Aside0.mk (below_step (by repeat (first | (with_reducible first | exact HB.out | apply below_alloc | apply pw_below_drewN | apply below_drew1) | exact HB.out)) hb); clear HB; have HO362 := n0_; have HB := n1_; clear n0_ n1_; (try clear hb); (try clear hb2); (try clear hk); (try clear hi); (try clear ho0)))
      go_loopg [5, 8] k (fun kq v5 v8 w' => ∃ (x5_1 : List ByteArray) (x8_1 : Int), v8 = .int .i64 x8_1 ∧ Aside0 (bolterref11_Cut.l0 kq x5_1 t359 x8_1 = some r) ∧ Aside0 (kq ≤ k) ∧ Aside0 (Kd.R Kd.string 9 w' w.heap.size (fun _ => True) v5 x5_1) ∧ Aside0 (Kd.R (Kd.int .i64) 3 w' w.heap.size (fun _ => True) v361 t359) ∧ Aside0 (Below w.heap.size w w'))
      case atStart => exact ⟨(([] : List ByteArray)), (0), (by first | rfl | (simp; done) | (simp [*]; done)), H', ⟨Nat.le_refl _⟩, ⟨by first | exact Kd.R_nil _ _ _ _ _ | exact Kd.N_nil _ _ _ _ _ | exact Kd.V_nil _ _ _ _ _ | exact Kd.Q_nil _ _ _ _ _ | exact Kd.S_nil _ _ _ _ _⟩, ⟨by (with_reducible repeat (first | apply Kd.R_alloc | apply Kd.R_drewN | apply Kd.R_drew)); exact HO362.out⟩, ⟨by repeat (first | (with_reducible first | exact HB.out | apply below_alloc | apply pw_below_drewN | apply below_drew1) | exact HB.out)⟩⟩
      case round =>
        clear H'
        try clear p2
        try clear c3
        try clear c3b0
        try clear c3b1
        try clear c4
        try clear c4b0
        try clear c4b1
        try clear c6
        obtain ⟨x5_1, x8_1, rfl, HA, HK1, HO_5, HO_6, HB⟩ := hrel
        cases gk with
        | zero => exact absurd HA.out (by simp [bolterref11_Cut.l0])
        | succ k1 =>
          have H := HA.out
          clear HA
          simp only [bolterref11_Cut.l0] at H
          by_cases c7 : x8_1 < (t359.length : Int)
          · rw [if_pos c7] at H
            have c7b0 : decide (x8_1 < (t359.length : Int)) = true := decide_eq_true c7
            clear c7
            by_cases c8 : 0 ≤ x8_1
            · rw [if_pos c8] at H
              have c8b0 : decide (0 ≤ x8_1) = true := decide_eq_true c8
              clear c8
              replace H := Option.bind_eq_some_iff.mp H
              obtain ⟨t364, A90, H⟩ := H
              replace H : (if x5_1.length < 8796093022208 then (bolterref11_Cut.l0 k1 (x5_1 ++ [strOfNums t364]) t359 (wrap64 (x8_1 + 1))) else (none)) = some r := H
              have A9 := Aside0.mk A90
              clear A90
              by_cases c10 : x5_1.length < 8796093022208
              · rw [if_pos c10] at H
                have LMc10 := Aside0.mk c10
                clear c10
                obtain ⟨y367, hy367⟩ : ∃ y_ : List ByteArray, y_ = (x5_1 ++ [strOfNums t364]) := ⟨_, rfl⟩
                replace H : (bolterref11_Cut.l0 k1 y367 t359 (wrap64 (x8_1 + 1))) = some r := by first | (rw [hy367]; with_reducible exact H) | (have H2_ := (Option.bind_some _ _).symm.trans H; rw [hy367]; with_reducible exact H2_) | (have H2_ := (Option.bind_some _ _).symm.trans H; with_reducible exact H2_) | with_reducible exact H | (rw [hy367]; exact H) | exact H
                have Ny367 := Aside0.mk hy367
                clear hy367
                have H' := Aside0.mk H
                clear H
                obtain ⟨Ao11, co11, eo11⟩ := Kd.R_slice HO_6.out
                subst eo11
                have p363 : 0 ≤ (x8_1 : Int) := of_decide_eq_true (by first | (with_reducible assumption) | assumption)
                have q363 : x8_1 < (t359.length : Int) := of_decide_eq_true (by first | (with_reducible assumption) | assumption)
                obtain ⟨ad363, e363, hx363_0⟩ := Kd.at_int (Kd.R_reads' HO_6.out).2.2 x8_1 p363 q363
                cases e363
                replace p363 := eq_true p363
                replace q363 := eq_true q363
                go_wp2_with (first | ((with_reducible refine gate_callee (f := 85) rfl ?_); refine goesL_ (some 31) rfl rfl Tryd.func85 (by kernel_rfl) rfl #[.int .i64 (rd t359 x8_1)] rfl (by (try simp only [List.map_toArray, List.map_cons, List.map_nil]); first | done | rfl | (simp only [List.length_drop, List.length_take]; rfl)) ?_; (with_reducible refine (bolterref04_Octets.calls (rd t359 x8_1) t364 _ A9.out).mono ?_); rintro e w12 ⟨v365, rfl, ho0, hb⟩; refine ⟨_, rfl, ?_⟩; have n0_ := Aside0.mk (Kd.R_below (by (with_reducible repeat (first | apply Kd.R_alloc | apply Kd.R_drewN | apply Kd.R_drew)); exact HO_5.out) hb); have n1_ := Aside0.mk (Kd.R_below (by (with_reducible repeat (first | apply Kd.R_alloc | apply Kd.R_drewN | apply Kd.R_drew)); exact HO_6.out) hb); have n2_ := Aside0.mk (Kd.R_lower ho0 (below_size (by repeat (first | (with_reducible first | exact HB.out | apply below_alloc | apply pw_below_drewN | apply below_drew1) | exact HB.out)))); have n3_ := Aside0.mk (below_step (by repeat (first | (with_reducible first | exact HB.out | apply below_alloc | apply pw_below_drewN | apply below_drew1) | exact HB.out)) hb); clear HO_5; clear HO_6; clear HB; have HO_5 := n0_; have HO_6 := n1_; have HO366 := n2_; have HB := n3_; clear n0_ n1_ n2_ n3_; (try clear hb); (try clear hb2); (try clear hk); (try clear hi); (try clear ho0); have hcv13 := own_string (P := Tryd.prog) Tryd.underlying63 Tryd.underlying5 Tryd.underlying9 (Kd.own_of_R HO366.out)) | ((with_reducible refine gate_builtin (b := .append) (xs := #[.tmp 26, .tmp 33]) rfl ?_); (try (refine gate_guard (by rfl) ?_; dsimp only)); at_builtin; refine Kd.R_append Kd.string (w0 := w) w.heap.size rfl (.tmp 26) (.tmp 33) 28 9 (.string ⟨#[]⟩) 16 rfl Tryd.underlying28 info9 rfl (by decide) (by omega) u5 x5_1 (strOfNums t364) [.string (strOfNums t364)] (fun _ => True) (fun _ => False) rfl rfl ?aP (fun _ hk => hk.elim) ?aF ?aO ?aB ?aS ?aL ?_; (case aP => exact rfl); (case aB => exact (by repeat (first | (with_reducible first | exact HB.out | apply below_alloc | apply pw_below_drewN | apply below_drew1) | exact HB.out))); (case aF => exact (fun _ _ => trivial)); (case aO => exact (by (with_reducible repeat (first | apply Kd.R_alloc | apply Kd.R_drewN | apply Kd.R_drew)); exact HO_5.out)); (case aS => exact (below_size (by repeat (first | (with_reducible first | exact HB.out | apply below_alloc | apply pw_below_drewN | apply below_drew1) | exact HB.out)))); (case aL => have := LMc10.out; omega); intro v368 w14 ho hb hg hat; rw [← Ny367.out] at ho; have n0_ := Aside0.mk (Kd.R_over' (by (with_reducible repeat (first | apply Kd.R_alloc | apply Kd.R_drewN | apply Kd.R_drew)); exact HO_6.out) (Kd.R_typed (by (with_reducible repeat (first | apply Kd.R_alloc | apply Kd.R_drewN | apply Kd.R_drew)); exact HO_5.out)) (by decide) hg); have n1_ := Aside0.mk (Kd.R_over' (by (with_reducible repeat (first | apply Kd.R_alloc | apply Kd.R_drewN | apply Kd.R_drew)); exact HO366.out) (Kd.R_typed (by (with_reducible repeat (first | apply Kd.R_alloc | apply Kd.R_drewN | apply Kd.R_drew)); exact HO_5.out)) (by decide) hg); have n2_ := Aside0.mk (hb); have n3_ := Aside0.mk (ho); clear HO_6; clear HO366; clear HB; clear HO_5; have HO_6 := n0_; have HO366 := n1_; have HB := n2_; have HO369 := n3_; clear n0_ n1_ n2_ n3_; clear ho hb hg hat))
                go_roundg k1
                case measure => have := HK1.out; omega
                case rel => exact ⟨(y367), (wrap64 (x8_1 + 1)), (by first | rfl | (simp; done) | (simp [*]; done)), H', ⟨by have := HK1.out; omega⟩, ⟨by (with_reducible repeat (first | apply Kd.R_alloc | apply Kd.R_drewN | apply Kd.R_drew)); exact HO369.out⟩, ⟨by (with_reducible repeat (first | apply Kd.R_alloc | apply Kd.R_drewN | apply Kd.R_drew)); exact HO_6.out⟩, ⟨by repeat (first | (with_reducible first | exact HB.out | apply below_alloc | apply pw_below_drewN | apply below_drew1) | exact HB.out)⟩⟩
              · rw [if_neg c10] at H
                exact absurd H (by simp)
            · rw [if_neg c8] at H
              exact absurd H (by simp)
          · rw [if_neg c7] at H
            have c7b0 : decide (x8_1 < (t359.length : Int)) = false := decide_eq_false c7
            clear c7
            obtain rfl := Option.some.inj H
            obtain ⟨Ao15, co15, eo15⟩ := Kd.R_slice HO_6.out
            subst eo15
            go_wp2
            go_ret
            exact ⟨_, by first | rfl | (simp [errW_none, errW_some] <;> rfl) | (simp [*, errW_none, errW_some] <;> rfl), by (with_reducible repeat (first | apply Kd.R_alloc | apply Kd.R_drewN | apply Kd.R_drew)); exact HO_5.out, by repeat (first | (with_reducible first | exact HB.out | apply below_alloc | apply pw_below_drewN | apply below_drew1) | exact HB.out)⟩
    · rw [if_neg c4] at H
      have c4b0 : (a1.toList == ([] : List UInt8)) = false := beq_eq_false_iff_ne.mpr c4
      have c4b1 : (a1.toList != ([] : List UInt8)) = true := bne_iff_ne.mpr c4
      have H' := Aside0.mk H
      clear H
      go_enter Tryd.func61, Tryd.ntmps61
      go_wp2
      go_loopg [5, 9, 10] k (fun kq v5 v9 v10 w' => ∃ (x5_1 : List ByteArray) (x9_1 : Int) (x10_1 : Int), v9 = .int .i64 x9_1 ∧ v10 = .int .i64 x10_1 ∧ Aside0 (bolterref11_Cut.l1 kq a0 a1 x5_1 x9_1 x10_1 = some r) ∧ Aside0 (kq ≤ k) ∧ Aside0 (Kd.R Kd.string 9 w' w.heap.size (fun _ => True) v5 x5_1) ∧ Aside0 (Below w.heap.size w w'))
      case atStart => exact ⟨(([] : List ByteArray)), (0), (0), (by first | rfl | (simp; done) | (simp [*]; done)), (by first | rfl | (simp; done) | (simp [*]; done)), H', ⟨Nat.le_refl _⟩, ⟨by first | exact Kd.R_nil _ _ _ _ _ | exact Kd.N_nil _ _ _ _ _ | exact Kd.V_nil _ _ _ _ _ | exact Kd.Q_nil _ _ _ _ _ | exact Kd.S_nil _ _ _ _ _⟩, ⟨by repeat (first | (with_reducible first | exact HB.out | apply below_alloc | apply pw_below_drewN | apply below_drew1) | exact HB.out)⟩⟩
      case round =>
        clear H'
        try clear c1
        try clear hcv1
        try clear p2
        try clear c3
        try clear c3b0
        try clear c3b1
        try clear p3
        try clear q3
        try clear hx3
        try clear c4
        try clear c4b0
        try clear c4b1
        try clear c6
        try clear p6
        try clear c7
        try clear c7b0
        try clear c8
        try clear c8b0
        try clear c10
        try clear hcv13
        try clear hx363_0
        try clear p2
        try clear p363
        try clear q363
        obtain ⟨x5_1, x9_1, x10_1, rfl, rfl, HA, HK1, HO_5, HB⟩ := hrel
        cases gk with
        | zero => exact absurd HA.out (by simp [bolterref11_Cut.l1])
        | succ k1 =>
          have H := HA.out
          clear HA
          simp only [bolterref11_Cut.l1] at H
          by_cases c16 : x10_1 ≤ (a0.size : Int)
          · rw [if_pos c16] at H
            have c16b0 : decide (x10_1 ≤ (a0.size : Int)) = true := decide_eq_true c16
            clear c16
            by_cases c17 : (wrap64 ((a0.size : Int) - x10_1)) ≥ (a1.size : Int)
            · rw [if_pos c17] at H
              have c17b0 : decide ((a1.size : Int) ≤ (wrap64 ((a0.size : Int) - x10_1))) = true := decide_eq_true c17
              clear c17
              by_cases c18 : 0 ≤ x10_1
              · rw [if_pos c18] at H
                have c18b0 := eq_true c18
                have c18b1 : decide (0 ≤ x10_1) = true := decide_eq_true c18
                clear c18
                by_cases c19 : x10_1 ≤ (wrap64 (x10_1 + (a1.size : Int)))
                · rw [if_pos c19] at H
                  have c19b0 := eq_true c19
                  have c19b1 : decide (x10_1 ≤ (wrap64 (x10_1 + (a1.size : Int)))) = true := decide_eq_true c19
                  by_cases c20 : (wrap64 (x10_1 + (a1.size : Int))) ≤ (a0.size : Int)
                  · rw [if_pos c20] at H
                    have c20b0 := eq_true c20
                    have c20b1 : decide ((wrap64 (x10_1 + (a1.size : Int))) ≤ (a0.size : Int)) = true := decide_eq_true c20
                    by_cases c21 : (a0.extract (x10_1 : Int).toNat ((wrap64 (x10_1 + (a1.size : Int))) : Int).toNat).toList = a1.toList
                    · rw [if_pos c21] at H
                      have c21b0 : ((a0.extract (x10_1 : Int).toNat ((wrap64 (x10_1 + (a1.size : Int))) : Int).toNat).toList == a1.toList) = true := beq_iff_eq.mpr c21
                      have c21b1 : ((a0.extract (x10_1 : Int).toNat ((wrap64 (x10_1 + (a1.size : Int))) : Int).toNat).toList != a1.toList) = false := bne_eq_false_iff_eq.mpr c21
                      clear c21
                      by_cases c22 : 0 ≤ x9_1
                      · rw [if_pos c22] at H
                        have c22b0 := eq_true c22
                        have c22b1 : decide (0 ≤ x9_1) = true := decide_eq_true c22
                        clear c22
                        by_cases c23 : x9_1 ≤ x10_1
                        · rw [if_pos c23] at H
                          have c23b0 := eq_true c23
                          have c23b1 : decide (x9_1 ≤ x10_1) = true := decide_eq_true c23
                          clear c23
                          have c24b0 := eq_true (of_decide_eq_true (by first | (with_reducible assumption) | assumption) : x10_1 ≤ (a0.size : Int))
                          by_cases c25 : x5_1.length < 8796093022208
                          · rw [if_pos c25] at H
                            have LMc25 := Aside0.mk c25
                            clear c25
                            obtain ⟨y370, hy370⟩ : ∃ y_ : List ByteArray, y_ = (x5_1 ++ [a0.extract (x9_1 : Int).toNat (x10_1 : Int).toNat]) := ⟨_, rfl⟩
                            replace H : (bolterref11_Cut.l1 k1 a0 a1 y370 (wrap64 (x10_1 + (a1.size : Int))) (wrap64 (x10_1 + (a1.size : Int)))) = some r := by first | (rw [hy370]; with_reducible exact H) | (have H2_ := (Option.bind_some _ _).symm.trans H; rw [hy370]; with_reducible exact H2_) | (have H2_ := (Option.bind_some _ _).symm.trans H; with_reducible exact H2_) | with_reducible exact H | (rw [hy370]; exact H) | exact H
                            have Ny370 := Aside0.mk hy370
                            clear hy370
                            have H' := Aside0.mk H
                            clear H
                            go_wp2_with (first | ((with_reducible refine gate_builtin (b := .append) (xs := #[.tmp 58, .tmp 63]) rfl ?_); (try (refine gate_guard (by rfl) ?_; dsimp only)); at_builtin; refine Kd.R_append Kd.string (w0 := w) w.heap.size rfl (.tmp 58) (.tmp 63) 28 9 (.string ⟨#[]⟩) 16 rfl Tryd.underlying28 info9 rfl (by decide) (by omega) u5 x5_1 (a0.extract (x9_1 : Int).toNat (x10_1 : Int).toNat) [.string (a0.extract (x9_1 : Int).toNat (x10_1 : Int).toNat)] (fun _ => True) (fun _ => False) rfl rfl ?aP (fun _ hk => hk.elim) ?aF ?aO ?aB ?aS ?aL ?_; (case aP => exact rfl); (case aB => exact (by repeat (first | (with_reducible first | exact HB.out | apply below_alloc | apply pw_below_drewN | apply below_drew1) | exact HB.out))); (case aF => exact (fun _ _ => trivial)); (case aO => exact (by (with_reducible repeat (first | apply Kd.R_alloc | apply Kd.R_drewN | apply Kd.R_drew)); exact HO_5.out)); (case aS => exact (below_size (by repeat (first | (with_reducible first | exact HB.out | apply below_alloc | apply pw_below_drewN | apply below_drew1) | exact HB.out)))); (case aL => have := LMc25.out; omega); intro v371 w26 ho hb hg hat; rw [← Ny370.out] at ho; have n0_ := Aside0.mk (hb); have n1_ := Aside0.mk (ho); clear HB; clear HO_5; have HB := n0_; have HO372 := n1_; clear n0_ n1_; clear ho hb hg hat))
                            go_roundg k1
                            case measure => have := HK1.out; omega
                            case rel => exact ⟨(y370), (wrap64 (x10_1 + (a1.size : Int))), (wrap64 (x10_1 + (a1.size : Int))), (by first | rfl | (simp; done) | (simp [*]; done)), (by first | rfl | (simp; done) | (simp [*]; done)), H', ⟨by have := HK1.out; omega⟩, ⟨by (with_reducible repeat (first | apply Kd.R_alloc | apply Kd.R_drewN | apply Kd.R_drew)); exact HO372.out⟩, ⟨by repeat (first | (with_reducible first | exact HB.out | apply below_alloc | apply pw_below_drewN | apply below_drew1) | exact HB.out)⟩⟩
                          · rw [if_neg c25] at H
                            exact absurd H (by simp)
                        · rw [if_neg c23] at H
                          exact absurd H (by simp)
                      · rw [if_neg c22] at H
                        exact absurd H (by simp)
                    · rw [if_neg c21] at H
                      have c21b0 : ((a0.extract (x10_1 : Int).toNat ((wrap64 (x10_1 + (a1.size : Int))) : Int).toNat).toList == a1.toList) = false := beq_eq_false_iff_ne.mpr c21
                      have c21b1 : ((a0.extract (x10_1 : Int).toNat ((wrap64 (x10_1 + (a1.size : Int))) : Int).toNat).toList != a1.toList) = true := bne_iff_ne.mpr c21
                      have H' := Aside0.mk H
                      clear H
                      go_wp2
                      go_roundg k1
                      case measure => have := HK1.out; omega
                      case rel => exact ⟨(x5_1), (x9_1), (wrap64 (x10_1 + 1)), (by first | rfl | (simp; done) | (simp [*]; done)), (by first | rfl | (simp; done) | (simp [*]; done)), H', ⟨by have := HK1.out; omega⟩, ⟨by (with_reducible repeat (first | apply Kd.R_alloc | apply Kd.R_drewN | apply Kd.R_drew)); exact HO_5.out⟩, ⟨by repeat (first | (with_reducible first | exact HB.out | apply below_alloc | apply pw_below_drewN | apply below_drew1) | exact HB.out)⟩⟩
                  · rw [if_neg c20] at H
                    exact absurd H (by simp)
                · rw [if_neg c19] at H
                  exact absurd H (by simp)
              · rw [if_neg c18] at H
                exact absurd H (by simp)
            · rw [if_neg c17] at H
              have c17b0 : decide ((a1.size : Int) ≤ (wrap64 ((a0.size : Int) - x10_1))) = false := decide_eq_false c17
              clear c17
              have H' := Aside0.mk H
              clear H
              go_wp2
              go_roundg k1
              case measure => have := HK1.out; omega
              case rel => exact ⟨(x5_1), (x9_1), (wrap64 (x10_1 + 1)), (by first | rfl | (simp; done) | (simp [*]; done)), (by first | rfl | (simp; done) | (simp [*]; done)), H', ⟨by have := HK1.out; omega⟩, ⟨by (with_reducible repeat (first | apply Kd.R_alloc | apply Kd.R_drewN | apply Kd.R_drew)); exact HO_5.out⟩, ⟨by repeat (first | (with_reducible first | exact HB.out | apply below_alloc | apply pw_below_drewN | apply below_drew1) | exact HB.out)⟩⟩
          · rw [if_neg c16] at H
            have c16b0 : decide (x10_1 ≤ (a0.size : Int)) = false := decide_eq_false c16
            clear c16
            by_cases c27 : 0 ≤ x9_1
            · rw [if_pos c27] at H
              have c27b0 := eq_true c27
              have c27b1 : decide (0 ≤ x9_1) = true := decide_eq_true c27
              clear c27
              by_cases c28 : x9_1 ≤ (a0.size : Int)
              · rw [if_pos c28] at H
                have c28b0 := eq_true c28
                have c28b1 : decide (x9_1 ≤ (a0.size : Int)) = true := decide_eq_true c28
                clear c28
                by_cases c29 : x5_1.length < 8796093022208
                · rw [if_pos c29] at H
                  have LMc29 := Aside0.mk c29
                  clear c29
                  obtain ⟨y373, hy373⟩ : ∃ y_ : List ByteArray, y_ = (x5_1 ++ [a0.extract (x9_1 : Int).toNat a0.size]) := ⟨_, rfl⟩
                  replace H : (some y373) = some r := by first | (rw [hy373]; with_reducible exact H) | (have H2_ := (Option.bind_some _ _).symm.trans H; rw [hy373]; with_reducible exact H2_) | (have H2_ := (Option.bind_some _ _).symm.trans H; with_reducible exact H2_) | with_reducible exact H | (rw [hy373]; exact H) | exact H
                  have Ny373 := Aside0.mk hy373
                  clear hy373
                  obtain rfl := Option.some.inj H
                  go_wp2_with (first | ((with_reducible refine gate_builtin (b := .append) (xs := #[.tmp 72, .tmp 76]) rfl ?_); (try (refine gate_guard (by rfl) ?_; dsimp only)); at_builtin; refine Kd.R_append Kd.string (w0 := w) w.heap.size rfl (.tmp 72) (.tmp 76) 28 9 (.string ⟨#[]⟩) 16 rfl Tryd.underlying28 info9 rfl (by decide) (by omega) u5 x5_1 (a0.extract (x9_1 : Int).toNat a0.size) [.string (a0.extract (x9_1 : Int).toNat a0.size)] (fun _ => True) (fun _ => False) rfl rfl ?aP (fun _ hk => hk.elim) ?aF ?aO ?aB ?aS ?aL ?_; (case aP => exact rfl); (case aB => exact (by repeat (first | (with_reducible first | exact HB.out | apply below_alloc | apply pw_below_drewN | apply below_drew1) | exact HB.out))); (case aF => exact (fun _ _ => trivial)); (case aO => exact (by (with_reducible repeat (first | apply Kd.R_alloc | apply Kd.R_drewN | apply Kd.R_drew)); exact HO_5.out)); (case aS => exact (below_size (by repeat (first | (with_reducible first | exact HB.out | apply below_alloc | apply pw_below_drewN | apply below_drew1) | exact HB.out)))); (case aL => have := LMc29.out; omega); intro v374 w30 ho hb hg hat; rw [← Ny373.out] at ho; have n0_ := Aside0.mk (hb); have n1_ := Aside0.mk (ho); clear HB; clear HO_5; have HB := n0_; have HO375 := n1_; clear n0_ n1_; clear ho hb hg hat))
                  go_ret
                  exact ⟨_, by first | rfl | (simp [errW_none, errW_some] <;> rfl) | (simp [*, errW_none, errW_some] <;> rfl), by (with_reducible repeat (first | apply Kd.R_alloc | apply Kd.R_drewN | apply Kd.R_drew)); exact HO375.out, by repeat (first | (with_reducible first | exact HB.out | apply below_alloc | apply pw_below_drewN | apply below_drew1) | exact HB.out)⟩
                · rw [if_neg c29] at H
                  exact absurd H (by simp)
              · rw [if_neg c28] at H
                exact absurd H (by simp)
            · rw [if_neg c27] at H
              exact absurd H (by simp)
def bolterref13_wholes.l0 : Nat → List ByteArray → Int → Option (List ByteArray × Int)
  | 0, _, _ => none
  | k + 1, x0, x4 => if x4 < (x0.length : Int) then (if 0 ≤ x4 then (if ((rdOf ByteArray.empty x0 x4).size : Int) > 16384 then (some (([] : List ByteArray), 5)) else (bolterref13_wholes.l0 k x0 (wrap64 (x4 + 1)))) else (none)) else (some (x0, 0))
def bolterref13_wholes.f (k : Nat) (l0 : List ByteArray) : Option (List ByteArray × Int) := bolterref13_wholes.l0 k l0 0
set_option maxHeartbeats 8000000 in
set_option maxRecDepth 100000 in
theorem bolterref13_wholes.calls (k : Nat) (P0_ : Nat → Prop) (u9000_ : Value) (l0 : List ByteArray) (r1 : List ByteArray) (r2 : Int) (w0 w : World) (hB : Below w0.heap.size w0 w) (ho0 : Kd.R Kd.string 9 w w0.heap.size P0_ u9000_ l0) (h : bolterref13_wholes.f k l0 = some (r1, r2)) :
    Calls Tryd.prog 62 #[u9000_] w fun e w' => ∃ v0_ : Value, e = .returned (.tuple #[v0_, .int .i64 r2]) ∧ Kd.R Kd.string 9 w' w0.heap.size (fun k_ => (P0_ k_ ∨ w.heap.size ≤ k_)) v0_ r1 ∧ Below w0.heap.size w0 w' ∧ Kept w w' (fun k_ => P0_ k_) := by
  have HO0 := Aside0.mk (show Kd.R Kd.string 9 w w0.heap.size (fun k_ => (P0_ k_ ∨ w.heap.size ≤ k_)) u9000_ l0 from Kd.R_mono ho0 (fun k_ hk => (.inl hk)))
  have HK := Aside0.mk (Kept.refl w (fun k_ => P0_ k_))
  have HW0 := Aside0.mk hB.size
  have HB := Aside0.mk hB
  clear hB
  have H : (bolterref13_wholes.l0 k l0 0) = some (r1, r2) := h
  clear h
  have H' := Aside0.mk H
  clear H
  go_enter Tryd.func62, Tryd.ntmps62
  go_wp2
  go_loopg [4] k (fun kq v4 w' => ∃ (x4_1 : Int), v4 = .int .i64 x4_1 ∧ Aside0 (bolterref13_wholes.l0 kq l0 x4_1 = some (r1, r2)) ∧ Aside0 (kq ≤ k) ∧ Aside0 (Kd.R Kd.string 9 w' w0.heap.size (fun k_ => (P0_ k_ ∨ w.heap.size ≤ k_)) u9000_ l0) ∧ Aside0 (Kept w w' (fun k_ => P0_ k_)) ∧ Aside0 (Below w0.heap.size w0 w'))
  case atStart => exact ⟨(0), (by first | rfl | (simp; done) | (simp [*]; done)), H', ⟨Nat.le_refl _⟩, ⟨by (with_reducible repeat (first | apply Kd.R_alloc | apply Kd.R_drewN | apply Kd.R_drew)); exact HO0.out⟩, ⟨by repeat (first | (with_reducible first | exact HK.out | apply Kept.alloc | apply Kept.drewN | apply Kept.drew) | exact HK.out)⟩, ⟨by repeat (first | (with_reducible first | exact HB.out | apply below_alloc | apply pw_below_drewN | apply below_drew1) | exact HB.out)⟩⟩
  case round =>
    clear H'
    obtain ⟨x4_1, rfl, HA, HK1, HO_0, HK, HB⟩ := hrel
    cases gk with
    | zero => exact absurd HA.out (by simp [bolterref13_wholes.l0])
    | succ k1 =>
      have H := HA.out
      clear HA
      simp only [bolterref13_wholes.l0] at H
      by_cases c2 : x4_1 < (l0.length : Int)
      · rw [if_pos c2] at H
        have c2b0 : decide (x4_1 < (l0.length : Int)) = true := decide_eq_true c2
        clear c2
        by_cases c3 : 0 ≤ x4_1
        · rw [if_pos c3] at H
          have c3b0 : decide (0 ≤ x4_1) = true := decide_eq_true c3
          clear c3
          by_cases c4 : ((rdOf ByteArray.empty l0 x4_1).size : Int) > 16384
          · rw [if_pos c4] at H
            have c4b0 : decide (16384 < ((rdOf ByteArray.empty l0 x4_1).size : Int)) = true := decide_eq_true c4
            have c4b1 : decide (16384 < (rdOf ByteArray.empty l0 x4_1).size) = true := decide_eq_true (by omega)
            clear c4
            simp only [Option.some.injEq, Prod.mk.injEq] at H
            obtain ⟨rfl, rfl⟩ := H
            obtain ⟨Ao5, co5, eo5⟩ := Kd.R_slice HO_0.out
            subst eo5
            have p376 : 0 ≤ (x4_1 : Int) := of_decide_eq_true (by first | (with_reducible assumption) | assumption)
            have q376 : x4_1 < (l0.length : Int) := of_decide_eq_true (by first | (with_reducible assumption) | assumption)
            obtain ⟨ad376, e376, hx376_0⟩ := Kd.at_string (Kd.R_reads' HO_0.out).2.2 x4_1 p376 q376
            cases e376
            replace p376 := eq_true p376
            replace q376 := eq_true q376
            go_wp2
            go_ret2
            exact ⟨_, by first | rfl | (simp [errW_none, errW_some] <;> rfl) | (simp [*, errW_none, errW_some] <;> rfl), by first | exact Kd.R_nil _ _ _ _ _ | exact Kd.N_nil _ _ _ _ _ | exact Kd.V_nil _ _ _ _ _ | exact Kd.Q_nil _ _ _ _ _ | exact Kd.S_nil _ _ _ _ _, by repeat (first | (with_reducible first | exact HB.out | apply below_alloc | apply pw_below_drewN | apply below_drew1) | exact HB.out), by repeat (first | (with_reducible first | exact HK.out | apply Kept.alloc | apply Kept.drewN | apply Kept.drew) | exact HK.out)⟩
          · rw [if_neg c4] at H
            have c4b0 : decide (16384 < ((rdOf ByteArray.empty l0 x4_1).size : Int)) = false := decide_eq_false c4
            have c4b1 : decide (16384 < (rdOf ByteArray.empty l0 x4_1).size) = false := decide_eq_false (by omega)
            clear c4
            have H' := Aside0.mk H
            clear H
            obtain ⟨Ao6, co6, eo6⟩ := Kd.R_slice HO_0.out
            subst eo6
            have p376 : 0 ≤ (x4_1 : Int) := of_decide_eq_true (by first | (with_reducible assumption) | assumption)
            have q376 : x4_1 < (l0.length : Int) := of_decide_eq_true (by first | (with_reducible assumption) | assumption)
            obtain ⟨ad376, e376, hx376_0⟩ := Kd.at_string (Kd.R_reads' HO_0.out).2.2 x4_1 p376 q376
            cases e376
            replace p376 := eq_true p376
            replace q376 := eq_true q376
            go_wp2
            go_roundg k1
            case measure => have := HK1.out; omega
            case rel => exact ⟨(wrap64 (x4_1 + 1)), (by first | rfl | (simp; done) | (simp [*]; done)), H', ⟨by have := HK1.out; omega⟩, ⟨by (with_reducible repeat (first | apply Kd.R_alloc | apply Kd.R_drewN | apply Kd.R_drew)); exact HO_0.out⟩, ⟨by repeat (first | (with_reducible first | exact HK.out | apply Kept.alloc | apply Kept.drewN | apply Kept.drew) | exact HK.out)⟩, ⟨by repeat (first | (with_reducible first | exact HB.out | apply below_alloc | apply pw_below_drewN | apply below_drew1) | exact HB.out)⟩⟩
        · rw [if_neg c3] at H
          exact absurd H (by simp)
      · rw [if_neg c2] at H
        have c2b0 : decide (x4_1 < (l0.length : Int)) = false := decide_eq_false c2
        clear c2
        simp only [Option.some.injEq, Prod.mk.injEq] at H
        obtain ⟨rfl, rfl⟩ := H
        obtain ⟨Ao7, co7, eo7⟩ := Kd.R_slice HO_0.out
        subst eo7
        go_wp2
        go_ret2
        exact ⟨_, by first | rfl | (simp [errW_none, errW_some] <;> rfl) | (simp [*, errW_none, errW_some] <;> rfl), by (with_reducible repeat (first | apply Kd.R_alloc | apply Kd.R_drewN | apply Kd.R_drew)); exact HO_0.out, by repeat (first | (with_reducible first | exact HB.out | apply below_alloc | apply pw_below_drewN | apply below_drew1) | exact HB.out), by repeat (first | (with_reducible first | exact HK.out | apply Kept.alloc | apply Kept.drewN | apply Kept.drew) | exact HK.out)⟩
def bolterref13_Lines.f (k : Nat) (a0 : ByteArray) : Option (List ByteArray × Int) := (bolterref13_Checks.f k (([a0] : List ByteArray))).bind fun t380 => (if t380 = 0 then ((bolterref11_Cut.f k a0 (⟨#[10]⟩ : ByteArray)).bind fun t381 => (if (t381.length : Int) > 0 then (if 0 ≤ (wrap64 ((t381.length : Int) - 1)) then (if (wrap64 ((t381.length : Int) - 1)) < (t381.length : Int) then (if (rdOf ByteArray.empty t381 (wrap64 ((t381.length : Int) - 1))).toList = ([] : List UInt8) then (if (wrap64 ((t381.length : Int) - 1)) ≤ (t381.length : Int) then ((bolterref13_wholes.f k (t381.take ((wrap64 ((t381.length : Int) - 1)) : Int).toNat)).bind fun bt388 => (some (bt388.1, bt388.2))) else (none)) else ((bolterref13_wholes.f k t381).bind fun bt392 => (some (bt392.1, bt392.2)))) else (none)) else (none)) else ((bolterref13_wholes.f k t381).bind fun bt396 => (some (bt396.1, bt396.2))))) else (some (([] : List ByteArray), t380)))
end Go.Proofs.YtdhjdddjgcfhkaaDoor.B

end

section
/- What the references' functions of texts tell (bolterref13, bolterref11.Cut): the same values. -/
set_option linter.unusedVariables false
set_option linter.unusedSimpArgs false
namespace Go.Proofs.YtdhjdddjgcfhkaaDoor.P
open Go.Lib Go.RowKit Go.Proofs.YtdhjdddjgcfhkaaDoor.B Go.Proofs.YtdhjdddjgcfhkaaDoorW.PrintWords

theorem checks13_l (l : List ByteArray) (hl : l.length < 9223372036854775807) (hs : ∀ s ∈ l, s.size < 9223372036854775807) : ∀ (r pre : List ByteArray), l = pre ++ r → Tells (fun k => bolterref13_Checks.l0 k l (pre.length : Int)) (errs r)
  | [], pre, e => by
    refine Tells.succ ?_
    simp only [bolterref13_Checks.l0]
    subst e
    exact Tells.ifn (by simp) (Tells.pure _)
  | s :: r, pre, e => by
    have hlen : pre.length < l.length := by rw [e]; simp
    have hx : l[pre.length]? = some s := by rw [e]; simp
    have ih := checks13_l l hl hs r (pre ++ [s]) (by rw [e]; simp)
    refine Tells.succ ?_
    simp only [bolterref13_Checks.l0]
    refine Tells.ifp (by omega) (Tells.ifp (by omega) ?_)
    rw [rdOf_at _ _ _ _ hx]
    obtain ⟨q, hq, hqe⟩ := checkR_tells s (hs s (List.mem_of_getElem? hx))
    refine hq.bind ?_
    rw [hqe, errs, w64 (by omega) (by omega)]
    by_cases h : errV s.data.toList = 0
    · rw [if_pos h]
      refine Tells.ifp h ?_
      have e2 : ((pre.length : Int) + 1) = ((pre ++ [s]).length : Int) := by simp
      rw [e2]
      exact ih
    · rw [if_neg h]
      exact Tells.ifn h (Tells.pure _)
theorem checks13_tells (l : List ByteArray) (hl : l.length < 9223372036854775807) (hs : ∀ s ∈ l, s.size < 9223372036854775807) : Tells (fun k => bolterref13_Checks.f k l) (errs l) :=
  checks13_l l hl hs l [] rfl
theorem two_lt (a b : ByteArray) (ha : a.size < 1048576) (hb : b.size < 1048576) : ∀ s ∈ [a, b], s.size < 9223372036854775807 := by
  intro s h
  simp only [List.mem_cons, List.mem_nil_iff, or_false] at h
  rcases h with rfl | rfl <;> omega
def numsOf (l : List UInt8) : List Int := l.map fun b => (b.toNat : Int)
theorem bytesOf_nums (s : ByteArray) : bytesOf s = numsOf s.data.toList := rfl
theorem str_nums (l : List UInt8) : strOfNums (numsOf l) = ⟨l.toArray⟩ := by
  unfold strOfNums numsOf
  rw [List.map_map]
  have : l.map ((fun x : Int => x.toNat.toUInt8) ∘ fun b : UInt8 => (b.toNat : Int)) = l := by
    conv => rhs; rw [← List.map_id l]
    exact List.map_congr_left (fun b _ => by simp)
  first | rw [this] | (congr 1; congr 1)
theorem whole13 (l : List UInt8) : bolterref13_whole.f (numsOf l) = some (wholeV l) := by
  unfold bolterref13_whole.f wholeV
  rw [str_nums]
  have hl : (numsOf l).length = l.length := by simp [numsOf]
  rw [hl]
  by_cases h : l.length ≤ 16384
  · rw [if_neg (by omega), if_pos h]
  · rw [if_pos (by omega), if_neg h]
theorem conv63 (s : ByteArray) (hs : s.size ≤ 9223372036854775807) : conv_bytes63.f s = some (numsOf s.data.toList) := by unfold conv_bytes63.f; rw [if_pos hs]; rfl
theorem numsOf_app (a b : List UInt8) : numsOf a ++ numsOf b = numsOf (a ++ b) := by simp [numsOf]
theorem numsOf_len (a : List UInt8) : (numsOf a).length = a.length := by simp [numsOf]
theorem occ_ext (s sep : ByteArray) (a j : Nat) (h : a + j + sep.size ≤ s.size) : ((s.extract (a + j) (a + j + sep.size)).toList = sep.toList) ↔ occAt (s.data.toList.drop a) sep.data.toList j = true := by
  have hz := size_eq s
  have hp := size_eq sep
  rw [occAt_iff_take _ _ _ (by rw [List.length_drop]; omega), extract_toList, toList_data, List.drop_drop, beq_iff_eq, show a + j + sep.size - (a + j) = sep.data.toList.length by omega]
set_option maxHeartbeats 1000000 in
theorem cut11_l (s sep : ByteArray) (hs : s.size < 1048576) (hp : sep.size < 1048576) (hsep : sep.data.toList ≠ []) : ∀ (d fr j : Nat) (out : List ByteArray), s.size + 1 ≤ fr + j + d → fr ≤ s.size → fr + j ≤ s.size + 1 → out.length ≤ fr →
    (∀ i, i < j → occAt (s.data.toList.drop fr) sep.data.toList i = false) →
    Tells (fun k => bolterref11_Cut.l1 k s sep out (fr : Int) ((fr + j : Nat) : Int)) (out ++ (cutA sep.data.toList (s.data.toList.drop fr)).map mkS)
  | d, fr, j, out, hd, hf, hfj, ho, hno => by
    have hz := size_eq s
    have hpz := size_eq sep
    have hpos : 0 < sep.data.toList.length := List.length_pos_iff.2 hsep
    refine Tells.succ ?_
    simp only [bolterref11_Cut.l1]
    by_cases h1 : fr + j ≤ s.size
    · obtain ⟨d, rfl⟩ : ∃ d', d = d' + 1 := ⟨d - 1, by omega⟩
      refine Tells.ifp (by omega) ?_
      rw [w64 (x := (s.size : Int) - ((fr + j : Nat) : Int)) (by omega) (by omega), w64 (x := ((fr + j : Nat) : Int) + (sep.size : Int)) (by omega) (by omega), w64 (x := ((fr + j : Nat) : Int) + 1) (by omega) (by omega)]
      have next : occAt (s.data.toList.drop fr) sep.data.toList j = false → Tells (fun k => bolterref11_Cut.l1 k s sep out (fr : Int) (((fr + j : Nat) : Int) + 1)) (out ++ (cutA sep.data.toList (s.data.toList.drop fr)).map mkS) := fun hj => by
        have ih := cut11_l s sep hs hp hsep d fr (j + 1) out (by omega) hf (by omega) ho (fun i hi => by
          rcases Nat.lt_succ_iff_lt_or_eq.1 hi with h | rfl
          · exact hno i h
          · exact hj)
        exact ih
      by_cases h2 : (s.size : Int) - ((fr + j : Nat) : Int) ≥ (sep.size : Int)
      · refine Tells.ifp h2 (Tells.ifp (by omega) (Tells.ifp (by omega) (Tells.ifp (by omega) ?_)))
        rw [show ((((fr + j : Nat) : Int) + (sep.size : Int))).toNat = fr + j + sep.size by omega, Int.toNat_natCast]
        have hiff := occ_ext s sep fr j (by omega)
        by_cases h3 : (s.extract (fr + j) (fr + j + sep.size)).toList = sep.toList
        · have hocc := hiff.1 h3
          refine Tells.ifp h3 (Tells.ifp (by omega) (Tells.ifp (by omega) (Tells.ifp (by omega) ?_)))
          have hidx : index (s.data.toList.drop fr) sep.data.toList = (j : Int) := index_first (by rw [List.length_drop]; omega) hocc hno
          have ih := cut11_l s sep hs hp hsep d (fr + j + sep.size) 0 (out ++ [s.extract fr (fr + j)]) (by omega) (by omega) (by omega) (by rw [List.length_append, List.length_cons, List.length_nil]; omega) (fun i hi => by omega)
          rw [Nat.add_zero] at ih
          rw [cutA_hit _ _ hsep j hidx, List.map_cons, List.drop_drop, show fr + (j + sep.data.toList.length) = fr + j + sep.size by omega]
          rw [show (((fr + j : Nat) : Int) + (sep.size : Int)) = ((fr + j + sep.size : Nat) : Int) by omega, Int.toNat_natCast]
          have e : s.extract fr (fr + j) = mkS ((s.data.toList.drop fr).take j) := by rw [ext_mk, show fr + j - fr = j by omega]
          rw [e] at ih ⊢
          rw [List.append_assoc] at ih
          exact ih
        · refine Tells.ifn h3 (next ?_)
          cases hb : occAt (s.data.toList.drop fr) sep.data.toList j with
          | false => rfl
          | true => exact absurd (hiff.2 hb) h3
      · refine Tells.ifn h2 (next ?_)
        cases hb : occAt (s.data.toList.drop fr) sep.data.toList j with
        | false => rfl
        | true =>
          rcases occAt_room hb with h | h
          · rw [List.length_drop] at h; omega
          · exact absurd h hsep
    · refine Tells.ifn (by omega) (Tells.ifp (by omega) (Tells.ifp (by omega) (Tells.ifp (by omega) (Tells.of ?_))))
      have hm : index (s.data.toList.drop fr) sep.data.toList = -1 := index_none (fun i hi => hno i (by rw [List.length_drop] at hi; omega))
      rw [cutA_miss _ _ hm, Int.toNat_natCast, ext_mk, List.take_of_length_le (by rw [List.length_drop, ← hz]; exact Nat.le_refl _)]
      rfl
end Go.Proofs.YtdhjdddjgcfhkaaDoor.P

end

section
namespace Go.Proofs.YtdhjdddjgcfhkaaDoor.B
open Go.RowKit Go.Proofs.YtdhjdddjgcfhkaaDoorW.PrintWords Go.Proofs.YtdhjdddjgcfhkaaDoorW.PrintLast Go.Proofs.YtdhjdddjgcfhkaaDoorW.PrintMore
attribute [local go_sem] max2_int min2_int max_two min_two max_three min_three max_four min_four   -- for this text's walks alone
set_option linter.unusedVariables false
set_option linter.unusedSimpArgs false

mutual
def bolterref13_Join.l0 : Nat → List ByteArray → ByteArray → List Int → Int → Option (ByteArray × Int)
  | 0, _, _, _, _ => none
  | k + 1, x0, x1, x7, x8 => if x8 < (x0.length : Int) then (bolterref13_Join.j1 k x0 x1 x7 x8 (decide ((x7.length : Int) ≤ 16384))) else (bolterref13_Join.j1 k x0 x1 x7 x8 false)
def bolterref13_Join.j1 : Nat → List ByteArray → ByteArray → List Int → Int → Bool → Option (ByteArray × Int)
  | 0, _, _, _, _, _ => none
  | k + 1, x0, x1, x7, x8, x27 => if x27 = true then (if x8 > 0 then (if x7.length + x1.size < 140737488355328 then ((some (x7 ++ bytesOf x1 : List Int)).bind fun y451 => (if 0 ≤ x8 then (if x8 < (x0.length : Int) then (if y451.length + (rdOf ByteArray.empty x0 x8).size < 140737488355328 then (bolterref13_Join.l0 k x0 x1 (y451 ++ bytesOf (rdOf ByteArray.empty x0 x8)) (wrap64 (x8 + 1))) else (none)) else (none)) else (none))) else (none)) else (if 0 ≤ x8 then (if x8 < (x0.length : Int) then (if x7.length + (rdOf ByteArray.empty x0 x8).size < 140737488355328 then (bolterref13_Join.l0 k x0 x1 (x7 ++ bytesOf (rdOf ByteArray.empty x0 x8)) (wrap64 (x8 + 1))) else (none)) else (none)) else (none))) else ((bolterref13_whole.f x7).bind fun bt462 => (some (bt462.1, bt462.2)))
end
def bolterref13_Join.f (k : Nat) (l0 : List ByteArray) (a1 : ByteArray) : Option (ByteArray × Int) := (some (([] : List ByteArray) : List ByteArray)).bind fun y441 => (if y441.length + l0.length < 8796093022208 then ((some (y441 ++ l0 : List ByteArray)).bind fun y444 => (if y444.length < 8796093022208 then ((bolterref13_Checks.f k (y444 ++ [a1])).bind fun t450 => (if t450 = 0 then (bolterref13_Join.l0 k l0 a1 ([] : List Int) 0) else (some ((⟨#[]⟩ : ByteArray), t450)))) else (none))) else (none))
set_option maxHeartbeats 8000000 in
set_option maxRecDepth 100000 in
theorem bolterref13_Join.calls (k : Nat) (A0 : Option Addr) (c0 : Nat) (l0 : List ByteArray) (a1 : ByteArray) (r1 : ByteArray) (r2 : Int) (w : World) (hr0 : Kd.C Kd.string w A0 l0.length l0) (hc0 : l0.length ≤ c0) (h : bolterref13_Join.f k l0 a1 = some (r1, r2)) :
    Calls Tryd.prog 32 #[.slice A0 l0.length c0, .string a1] w fun e w' => e = .returned (.tuple #[.string r1, .int .i64 r2]) ∧ Below w.heap.size w w' := by
  have HR0 := Aside0.mk hr0
  have HC0 := Aside0.mk hc0
  clear hr0 hc0
  have HB := Aside0.mk (Below.refl w.heap.size w)
  have H : ((some (([] : List ByteArray) : List ByteArray)).bind fun y441 => (if y441.length + l0.length < 8796093022208 then ((some (y441 ++ l0 : List ByteArray)).bind fun y444 => (if y444.length < 8796093022208 then ((bolterref13_Checks.f k (y444 ++ [a1])).bind fun t450 => (if t450 = 0 then (bolterref13_Join.l0 k l0 a1 ([] : List Int) 0) else (some ((⟨#[]⟩ : ByteArray), t450)))) else (none))) else (none))) = some (r1, r2) := h
  clear h
  obtain ⟨y441, hy441⟩ : ∃ y_ : List ByteArray, y_ = (([] : List ByteArray)) := ⟨_, rfl⟩
  replace H : (if y441.length + l0.length < 8796093022208 then ((some (y441 ++ l0 : List ByteArray)).bind fun y444 => (if y444.length < 8796093022208 then ((bolterref13_Checks.f k (y444 ++ [a1])).bind fun t450 => (if t450 = 0 then (bolterref13_Join.l0 k l0 a1 ([] : List Int) 0) else (some ((⟨#[]⟩ : ByteArray), t450)))) else (none))) else (none)) = some (r1, r2) := by first | (rw [hy441]; with_reducible exact H) | (have H2_ := (Option.bind_some _ _).symm.trans H; rw [hy441]; with_reducible exact H2_) | (have H2_ := (Option.bind_some _ _).symm.trans H; with_reducible exact H2_) | with_reducible exact H | (rw [hy441]; exact H) | exact H
  have Ny441 := Aside0.mk hy441
  clear hy441
  by_cases c3 : y441.length + l0.length < 8796093022208
  · rw [if_pos c3] at H
    have LMc3 := Aside0.mk c3
    clear c3
    obtain ⟨y444, hy444⟩ : ∃ y_ : List ByteArray, y_ = (y441 ++ l0) := ⟨_, rfl⟩
    replace H : (if y444.length < 8796093022208 then ((bolterref13_Checks.f k (y444 ++ [a1])).bind fun t450 => (if t450 = 0 then (bolterref13_Join.l0 k l0 a1 ([] : List Int) 0) else (some ((⟨#[]⟩ : ByteArray), t450)))) else (none)) = some (r1, r2) := by first | (rw [hy444]; with_reducible exact H) | (have H2_ := (Option.bind_some _ _).symm.trans H; rw [hy444]; with_reducible exact H2_) | (have H2_ := (Option.bind_some _ _).symm.trans H; with_reducible exact H2_) | with_reducible exact H | (rw [hy444]; exact H) | exact H
    have Ny444 := Aside0.mk hy444
    clear hy444
    by_cases c4 : y444.length < 8796093022208
    · rw [if_pos c4] at H
      have LMc4 := Aside0.mk c4
      clear c4
      obtain ⟨y447, hy447⟩ : ∃ y_ : List ByteArray, y_ = (y444 ++ [a1]) := ⟨_, rfl⟩
      replace H : ((bolterref13_Checks.f k y447).bind fun t450 => (if t450 = 0 then (bolterref13_Join.l0 k l0 a1 ([] : List Int) 0) else (some ((⟨#[]⟩ : ByteArray), t450)))) = some (r1, r2) := by first | (rw [hy447]; with_reducible exact H) | (have H2_ := (Option.bind_some _ _).symm.trans H; rw [hy447]; with_reducible exact H2_) | (have H2_ := (Option.bind_some _ _).symm.trans H; with_reducible exact H2_) | with_reducible exact H | (rw [hy447]; exact H) | exact H
      have Ny447 := Aside0.mk hy447
      clear hy447
      replace H := Option.bind_eq_some_iff.mp H
      obtain ⟨t450, A50, H⟩ := H
      replace H : (if t450 = 0 then (bolterref13_Join.l0 k l0 a1 ([] : List Int) 0) else (some ((⟨#[]⟩ : ByteArray), t450))) = some (r1, r2) := H
      have A5 := Aside0.mk A50
      clear A50
      by_cases c6 : t450 = 0
      · rw [if_pos c6] at H
        have c6b0 : (t450 == 0) = true := beq_iff_eq.mpr c6
        have c6b1 : (t450 != 0) = false := bne_eq_false_iff_eq.mpr c6
        clear c6
        have H' := Aside0.mk H
        clear H
        go_enter Tryd.func32, Tryd.ntmps32
        go_wp2_with (first | ((with_reducible refine gate_dst (N := 9) rfl ?_); (try (refine gate_guard (by rfl) ?_; dsimp only)); refine Kd.R_lit Kd.string _ 9 ?hg (N := 9) ?hd (xs := ([] : List ByteArray)) (inner := []) (ok := fun _ => True) (okp := fun _ => True) ?hr ?hp (fun _ hk => hk) trivial (Below.refl _ _) (Nat.le_refl _) (by simp) ?_; (case hd => rfl); (case hg => rfl); (case hr => first | (go_simp; done) | (go_simp; rfl)); (case hp => exact (Reps.none _ _)); intro v442 w7 ho8 hb hg_ hnew_; clear hg_ hnew_; (first | rw [← Ny441.out] at ho8 | (simp only [Int.reduceToNat] at ho8; rw [← Ny441.out] at ho8)); have n0_ := Aside0.mk (Kd.R_lower ho8 (below_size (by repeat (first | (with_reducible first | exact HB.out | apply below_alloc | apply pw_below_drewN | apply below_drew1) | exact HB.out)))); have n1_ := Aside0.mk (below_step (by repeat (first | (with_reducible first | exact HB.out | apply below_alloc | apply pw_below_drewN | apply below_drew1) | exact HB.out)) hb); clear HB; have HO443 := n0_; have HB := n1_; clear n0_ n1_; clear hb ho8) | ((with_reducible refine gate_builtin (b := .append) (xs := #[.tmp 9, .tmp 10]) rfl ?_); (try (refine gate_guard (by rfl) ?_; dsimp only)); at_builtin; refine Kd.R_append_rows Kd.string (w0 := w) w.heap.size rfl (.tmp 9) (.tmp 10) 28 9 (.string ⟨#[]⟩) 16 rfl Tryd.underlying28 info9 rfl (by decide) (by omega) v442 y441 l0 _ _ _ (fun _ => True) (fun _ => False) rfl rfl ?aO ?aR (fun _ _ h => h) (fun _ h => h.elim) ?aF ?aB ?aS ?aL ?_; (case aR => repeat (first | exact (Kd.C_below HR0.out HB.out) | (with_reducible refine Kd.C_alloc ?_ _) | (with_reducible refine Kd.C_drewN ?_ _) | (with_reducible refine Kd.C_drew ?_))); (case aB => exact (by repeat (first | (with_reducible first | exact HB.out | apply below_alloc | apply pw_below_drewN | apply below_drew1) | exact HB.out))); (case aF => exact (fun _ _ => trivial)); (case aO => exact (by (with_reducible repeat (first | apply Kd.R_alloc | apply Kd.R_drewN | apply Kd.R_drew)); exact HO443.out)); (case aS => exact (below_size (by repeat (first | (with_reducible first | exact HB.out | apply below_alloc | apply pw_below_drewN | apply below_drew1) | exact HB.out)))); (case aL => have := LMc3.out; omega); intro v445 w9 ho hb hg hat; rw [← Ny444.out] at ho; have n0_ := Aside0.mk (hb); have n1_ := Aside0.mk (ho); clear HB; clear HO443; have HB := n0_; have HO446 := n1_; clear n0_ n1_; clear ho hb hg hat) | ((with_reducible refine gate_builtin (b := .append) (xs := #[.tmp 11, .tmp 13]) rfl ?_); (try (refine gate_guard (by rfl) ?_; dsimp only)); at_builtin; refine Kd.R_append Kd.string (w0 := w) w.heap.size rfl (.tmp 11) (.tmp 13) 28 9 (.string ⟨#[]⟩) 16 rfl Tryd.underlying28 info9 rfl (by decide) (by omega) v445 y444 a1 [.string a1] (fun _ => True) (fun _ => False) rfl rfl ?aP (fun _ hk => hk.elim) ?aF ?aO ?aB ?aS ?aL ?_; (case aP => exact rfl); (case aB => exact (by repeat (first | (with_reducible first | exact HB.out | apply below_alloc | apply pw_below_drewN | apply below_drew1) | exact HB.out))); (case aF => exact (fun _ _ => trivial)); (case aO => exact (by (with_reducible repeat (first | apply Kd.R_alloc | apply Kd.R_drewN | apply Kd.R_drew)); exact HO446.out)); (case aS => exact (below_size (by repeat (first | (with_reducible first | exact HB.out | apply below_alloc | apply pw_below_drewN | apply below_drew1) | exact HB.out)))); (case aL => have := LMc4.out; omega); intro v448 w10 ho hb hg hat; rw [← Ny447.out] at ho; have n0_ := Aside0.mk (hb); have n1_ := Aside0.mk (ho); clear HB; clear HO446; have HB := n0_; have HO449 := n1_; clear n0_ n1_; clear ho hb hg hat; obtain ⟨Ao11, co11, eo11⟩ := Kd.R_slice HO449.out; subst eo11) | ((with_reducible refine gate_callee (f := 57) rfl ?_); refine goesL_ (some 15) rfl rfl Tryd.func57 (by kernel_rfl) rfl #[.slice Ao11 y447.length co11] rfl (by (try simp only [List.map_toArray, List.map_cons, List.map_nil]); first | done | rfl | (simp only [List.length_drop, List.length_take]; rfl)) ?_; (with_reducible refine (bolterref13_Checks.calls k _ _ y447 t450 _ ?side1 ?side2 A5.out).mono ?_); (case side1 => repeat (first | exact (Kd.R_reads' HO449.out).2.2 | (with_reducible refine Kd.C_alloc ?_ _) | (with_reducible refine Kd.C_drewN ?_ _) | (with_reducible refine Kd.C_drew ?_))); (case side2 => exact (Kd.R_reads' HO449.out).2.1); rintro e w12 ⟨rfl, hb⟩; refine ⟨_, rfl, ?_⟩; have n0_ := Aside0.mk (Kd.R_below (by (with_reducible repeat (first | apply Kd.R_alloc | apply Kd.R_drewN | apply Kd.R_drew)); exact HO449.out) hb); have n1_ := Aside0.mk (below_step (by repeat (first | (with_reducible first | exact HB.out | apply below_alloc | apply pw_below_drewN | apply below_drew1) | exact HB.out)) hb); clear HO449; clear HB; have HO449 := n0_; have HB := n1_; clear n0_ n1_; (try clear hb); (try clear hb2); (try clear hk); (try clear hi)))
        go_loopg [7, 8] k (fun kq v7 v8 w' => ∃ (x7_1 : List Int) (x8_1 : Int), v8 = .int .i64 x8_1 ∧ Aside0 (bolterref13_Join.l0 kq l0 a1 x7_1 x8_1 = some (r1, r2)) ∧ Aside0 (kq ≤ k) ∧ Aside0 (Kd.R (Kd.int .u8) 5 w' w.heap.size (fun _ => True) v7 x7_1) ∧ Aside0 (Below w.heap.size w w'))
        case atStart => exact ⟨(([] : List Int)), (0), (by first | rfl | (simp; done) | (simp [*]; done)), H', ⟨Nat.le_refl _⟩, ⟨by first | exact Kd.R_nil _ _ _ _ _ | exact Kd.N_nil _ _ _ _ _ | exact Kd.V_nil _ _ _ _ _ | exact Kd.Q_nil _ _ _ _ _ | exact Kd.S_nil _ _ _ _ _⟩, ⟨by repeat (first | (with_reducible first | exact HB.out | apply below_alloc | apply pw_below_drewN | apply below_drew1) | exact HB.out)⟩⟩
        case round =>
          clear H'
          try clear p2
          try clear c3
          try clear c4
          try clear c5
          try clear c6
          try clear c6b0
          try clear c6b1
          obtain ⟨x7_1, x8_1, rfl, HA, HK1, HO_7, HB⟩ := hrel
          cases gk with
          | zero => exact absurd HA.out (by simp [bolterref13_Join.l0])
          | succ k1 =>
            have H := HA.out
            clear HA
            simp only [bolterref13_Join.l0] at H
            have HC13 := Aside0.mk H
            clear H
            go_upto_region 6 with (fail)
            go_cut [27] (fun v27 wc => ∃ (kq : Nat) (x27_12 : Bool), v27 = .bool x27_12 ∧ Aside0 (bolterref13_Join.j1 kq l0 a1 x7_1 x8_1 x27_12 = some (r1, r2)) ∧ Aside0 (kq ≤ k1) ∧ Aside0 (Kd.R (Kd.int .u8) 5 wc w.heap.size (fun _ => True) u7 x7_1) ∧ Aside0 (Below w.heap.size w wc))
            case first =>
              have H := HC13.out
              clear HC13
              by_cases c14 : x8_1 < (l0.length : Int)
              · rw [if_pos c14] at H
                have c14b0 : decide (x8_1 < (l0.length : Int)) = true := decide_eq_true c14
                clear c14
                (first | rw [c14b0] | (simp only [i64_w, i32_w]; rw [c14b0]) | skip)
                have H' := Aside0.mk H
                clear H
                obtain ⟨Ao15, co15, eo15⟩ := Kd.R_slice HO_7.out
                subst eo15
                go_wp2
                go_meet
                case rel => exact ⟨_, (decide ((x7_1.length : Int) ≤ 16384)), (by first | rfl | (simp; done) | (simp [*]; done)), H', ⟨by have := HK1.out; first | omega | exact Nat.le_refl _⟩, ⟨by (with_reducible repeat (first | apply Kd.R_alloc | apply Kd.R_drewN | apply Kd.R_drew)); exact HO_7.out⟩, ⟨by repeat (first | (with_reducible first | exact HB.out | apply below_alloc | apply pw_below_drewN | apply below_drew1) | exact HB.out)⟩⟩
              · rw [if_neg c14] at H
                have c14b0 : decide (x8_1 < (l0.length : Int)) = false := decide_eq_false c14
                clear c14
                (first | rw [c14b0] | (simp only [i64_w, i32_w]; rw [c14b0]) | skip)
                have H' := Aside0.mk H
                clear H
                go_wp2
                go_meet
                case rel => exact ⟨_, (false), (by first | rfl | (simp; done) | (simp [*]; done)), H', ⟨by have := HK1.out; first | omega | exact Nat.le_refl _⟩, ⟨by (with_reducible repeat (first | apply Kd.R_alloc | apply Kd.R_drewN | apply Kd.R_drew)); exact HO_7.out⟩, ⟨by repeat (first | (with_reducible first | exact HB.out | apply below_alloc | apply pw_below_drewN | apply below_drew1) | exact HB.out)⟩⟩
            case rest =>
              clear HC13
              try clear c1
              try clear p2
              try clear c3
              try clear c4
              try clear c5
              try clear c6
              try clear c6b0
              try clear c6b1
              try clear c14
              try clear c14b0
              try clear p2
              obtain ⟨kq, x27_12, rfl, HA, HJ12, HO_7, HB⟩ := hcut
              cases kq with
              | zero => exact absurd HA.out (by simp [bolterref13_Join.j1])
              | succ kj12 =>
                have H := HA.out
                clear HA
                simp only [bolterref13_Join.j1] at H
                by_cases c16 : x27_12 = true
                · subst c16
                  have H1 : (if x8_1 > 0 then (if x7_1.length + a1.size < 140737488355328 then ((some (x7_1 ++ bytesOf a1 : List Int)).bind fun y451 => (if 0 ≤ x8_1 then (if x8_1 < (l0.length : Int) then (if y451.length + (rdOf ByteArray.empty l0 x8_1).size < 140737488355328 then (bolterref13_Join.l0 kj12 l0 a1 (y451 ++ bytesOf (rdOf ByteArray.empty l0 x8_1)) (wrap64 (x8_1 + 1))) else (none)) else (none)) else (none))) else (none)) else (if 0 ≤ x8_1 then (if x8_1 < (l0.length : Int) then (if x7_1.length + (rdOf ByteArray.empty l0 x8_1).size < 140737488355328 then (bolterref13_Join.l0 kj12 l0 a1 (x7_1 ++ bytesOf (rdOf ByteArray.empty l0 x8_1)) (wrap64 (x8_1 + 1))) else (none)) else (none)) else (none))) = some (r1, r2) := by rw [if_pos rfl] at H; exact H
                  clear H
                  have H := H1
                  clear H1
                  by_cases c17 : x8_1 > 0
                  · rw [if_pos c17] at H
                    have c17b0 : decide (0 < x8_1) = true := decide_eq_true c17
                    clear c17
                    by_cases c18 : x7_1.length + a1.size < 140737488355328
                    · rw [if_pos c18] at H
                      have LMc18 := Aside0.mk c18
                      clear c18
                      obtain ⟨y451, hy451⟩ : ∃ y_ : List Int, y_ = (x7_1 ++ bytesOf a1) := ⟨_, rfl⟩
                      replace H : (if 0 ≤ x8_1 then (if x8_1 < (l0.length : Int) then (if y451.length + (rdOf ByteArray.empty l0 x8_1).size < 140737488355328 then (bolterref13_Join.l0 kj12 l0 a1 (y451 ++ bytesOf (rdOf ByteArray.empty l0 x8_1)) (wrap64 (x8_1 + 1))) else (none)) else (none)) else (none)) = some (r1, r2) := by first | (rw [hy451]; with_reducible exact H) | (have H2_ := (Option.bind_some _ _).symm.trans H; rw [hy451]; with_reducible exact H2_) | (have H2_ := (Option.bind_some _ _).symm.trans H; with_reducible exact H2_) | with_reducible exact H | (rw [hy451]; exact H) | exact H
                      have Ny451 := Aside0.mk hy451
                      clear hy451
                      by_cases c19 : 0 ≤ x8_1
                      · rw [if_pos c19] at H
                        have c19b0 : decide (0 ≤ x8_1) = true := decide_eq_true c19
                        clear c19
                        by_cases c20 : x8_1 < (l0.length : Int)
                        · rw [if_pos c20] at H
                          have c20b0 : decide (x8_1 < (l0.length : Int)) = true := decide_eq_true c20
                          clear c20
                          by_cases c21 : y451.length + (rdOf ByteArray.empty l0 x8_1).size < 140737488355328
                          · rw [if_pos c21] at H
                            have LMc21 := Aside0.mk c21
                            clear c21
                            obtain ⟨y455, hy455⟩ : ∃ y_ : List Int, y_ = (y451 ++ bytesOf (rdOf ByteArray.empty l0 x8_1)) := ⟨_, rfl⟩
                            replace H : (bolterref13_Join.l0 kj12 l0 a1 y455 (wrap64 (x8_1 + 1))) = some (r1, r2) := by first | (rw [hy455]; with_reducible exact H) | (have H2_ := (Option.bind_some _ _).symm.trans H; rw [hy455]; with_reducible exact H2_) | (have H2_ := (Option.bind_some _ _).symm.trans H; with_reducible exact H2_) | with_reducible exact H | (rw [hy455]; exact H) | exact H
                            have Ny455 := Aside0.mk hy455
                            clear hy455
                            have H' := Aside0.mk H
                            clear H
                            go_wp2_with (first | (at_builtin; refine print_append_str (w0 := w) w.heap.size rfl (.tmp 32) _ 63 9 5 rfl Tryd.underlying63 Tryd.underlying9 info5 u7 x7_1 a1 rfl rfl ?aO ?aB ?aS ?aL ?_; (case aB => exact (by repeat (first | (with_reducible first | exact HB.out | apply below_alloc | apply pw_below_drewN | apply below_drew1) | exact HB.out))); (case aO => exact (Kd.own_of_R (by (with_reducible repeat (first | apply Kd.R_alloc | apply Kd.R_drewN | apply Kd.R_drew)); exact HO_7.out))); (case aS => exact (below_size (by repeat (first | (with_reducible first | exact HB.out | apply below_alloc | apply pw_below_drewN | apply below_drew1) | exact HB.out)))); (case aL => have := LMc18.out; omega); intro v452 w22 ho0 hb hg; have ho := Kd.R_of_own (h1 := fun _ => rfl) (ok := fun _ => True) ho0 (fun _ _ => trivial); clear ho0; have hat := True.intro; rw [← Ny451.out] at ho; change Kd.R (Kd.int .u8) 5 w22 w.heap.size (fun _ => True) v452 y451 at ho; have n0_ := Aside0.mk (hb); have n1_ := Aside0.mk (ho); clear HB; clear HO_7; have HB := n0_; have HO453 := n1_; clear n0_ n1_; clear ho hb hg hat; have p454 : 0 ≤ (x8_1 : Int) := of_decide_eq_true (by first | (with_reducible assumption) | assumption); have q454 : x8_1 < (l0.length : Int) := of_decide_eq_true (by first | (with_reducible assumption) | assumption); obtain ⟨ad454, e454, hx454_0⟩ := Kd.at_string HR0.out x8_1 p454 q454; cases e454; replace hx454_0 := (HB.out.cell (World.block_lt_of_cell? w _ hx454_0)).trans hx454_0; replace p454 := eq_true p454; replace q454 := eq_true q454) | (at_builtin; refine print_append_str (w0 := w) w.heap.size rfl (.tmp 35) _ 63 9 5 rfl Tryd.underlying63 Tryd.underlying9 info5 v452 y451 (rdOf ByteArray.empty l0 x8_1) rfl rfl ?aO ?aB ?aS ?aL ?_; (case aB => exact (by repeat (first | (with_reducible first | exact HB.out | apply below_alloc | apply pw_below_drewN | apply below_drew1) | exact HB.out))); (case aO => exact (Kd.own_of_R (by (with_reducible repeat (first | apply Kd.R_alloc | apply Kd.R_drewN | apply Kd.R_drew)); exact HO453.out))); (case aS => exact (below_size (by repeat (first | (with_reducible first | exact HB.out | apply below_alloc | apply pw_below_drewN | apply below_drew1) | exact HB.out)))); (case aL => have := LMc21.out; omega); intro v456 w23 ho0 hb hg; have ho := Kd.R_of_own (h1 := fun _ => rfl) (ok := fun _ => True) ho0 (fun _ _ => trivial); clear ho0; have hat := True.intro; rw [← Ny455.out] at ho; change Kd.R (Kd.int .u8) 5 w23 w.heap.size (fun _ => True) v456 y455 at ho; have n0_ := Aside0.mk (hb); have n1_ := Aside0.mk (ho); clear HB; clear HO453; have HB := n0_; have HO457 := n1_; clear n0_ n1_; clear ho hb hg hat))
                            go_roundg kj12
                            case measure => have := HK1.out; have := HJ12.out; omega
                            case rel => exact ⟨(y455), (wrap64 (x8_1 + 1)), (by first | rfl | (simp; done) | (simp [*]; done)), H', ⟨by have := HK1.out; have := HJ12.out; omega⟩, ⟨by (with_reducible repeat (first | apply Kd.R_alloc | apply Kd.R_drewN | apply Kd.R_drew)); exact HO457.out⟩, ⟨by repeat (first | (with_reducible first | exact HB.out | apply below_alloc | apply pw_below_drewN | apply below_drew1) | exact HB.out)⟩⟩
                          · rw [if_neg c21] at H
                            exact absurd H (by simp)
                        · rw [if_neg c20] at H
                          exact absurd H (by simp)
                      · rw [if_neg c19] at H
                        exact absurd H (by simp)
                    · rw [if_neg c18] at H
                      exact absurd H (by simp)
                  · rw [if_neg c17] at H
                    have c17b0 : decide (0 < x8_1) = false := decide_eq_false c17
                    clear c17
                    by_cases c24 : 0 ≤ x8_1
                    · rw [if_pos c24] at H
                      have c24b0 : decide (0 ≤ x8_1) = true := decide_eq_true c24
                      clear c24
                      by_cases c25 : x8_1 < (l0.length : Int)
                      · rw [if_pos c25] at H
                        have c25b0 : decide (x8_1 < (l0.length : Int)) = true := decide_eq_true c25
                        clear c25
                        by_cases c26 : x7_1.length + (rdOf ByteArray.empty l0 x8_1).size < 140737488355328
                        · rw [if_pos c26] at H
                          have LMc26 := Aside0.mk c26
                          clear c26
                          obtain ⟨y459, hy459⟩ : ∃ y_ : List Int, y_ = (x7_1 ++ bytesOf (rdOf ByteArray.empty l0 x8_1)) := ⟨_, rfl⟩
                          replace H : (bolterref13_Join.l0 kj12 l0 a1 y459 (wrap64 (x8_1 + 1))) = some (r1, r2) := by first | (rw [hy459]; with_reducible exact H) | (have H2_ := (Option.bind_some _ _).symm.trans H; rw [hy459]; with_reducible exact H2_) | (have H2_ := (Option.bind_some _ _).symm.trans H; with_reducible exact H2_) | with_reducible exact H | (rw [hy459]; exact H) | exact H
                          have Ny459 := Aside0.mk hy459
                          clear hy459
                          have H' := Aside0.mk H
                          clear H
                          have p458 : 0 ≤ (x8_1 : Int) := of_decide_eq_true (by first | (with_reducible assumption) | assumption)
                          have q458 : x8_1 < (l0.length : Int) := of_decide_eq_true (by first | (with_reducible assumption) | assumption)
                          obtain ⟨ad458, e458, hx458_0⟩ := Kd.at_string HR0.out x8_1 p458 q458
                          cases e458
                          replace hx458_0 := (HB.out.cell (World.block_lt_of_cell? w _ hx458_0)).trans hx458_0
                          replace p458 := eq_true p458
                          replace q458 := eq_true q458
                          go_wp2_with (first | (at_builtin; refine print_append_str (w0 := w) w.heap.size rfl (.tmp 35) _ 63 9 5 rfl Tryd.underlying63 Tryd.underlying9 info5 u7 x7_1 (rdOf ByteArray.empty l0 x8_1) rfl rfl ?aO ?aB ?aS ?aL ?_; (case aB => exact (by repeat (first | (with_reducible first | exact HB.out | apply below_alloc | apply pw_below_drewN | apply below_drew1) | exact HB.out))); (case aO => exact (Kd.own_of_R (by (with_reducible repeat (first | apply Kd.R_alloc | apply Kd.R_drewN | apply Kd.R_drew)); exact HO_7.out))); (case aS => exact (below_size (by repeat (first | (with_reducible first | exact HB.out | apply below_alloc | apply pw_below_drewN | apply below_drew1) | exact HB.out)))); (case aL => have := LMc26.out; omega); intro v460 w27 ho0 hb hg; have ho := Kd.R_of_own (h1 := fun _ => rfl) (ok := fun _ => True) ho0 (fun _ _ => trivial); clear ho0; have hat := True.intro; rw [← Ny459.out] at ho; change Kd.R (Kd.int .u8) 5 w27 w.heap.size (fun _ => True) v460 y459 at ho; have n0_ := Aside0.mk (hb); have n1_ := Aside0.mk (ho); clear HB; clear HO_7; have HB := n0_; have HO461 := n1_; clear n0_ n1_; clear ho hb hg hat))
                          go_roundg kj12
                          case measure => have := HK1.out; have := HJ12.out; omega
                          case rel => exact ⟨(y459), (wrap64 (x8_1 + 1)), (by first | rfl | (simp; done) | (simp [*]; done)), H', ⟨by have := HK1.out; have := HJ12.out; omega⟩, ⟨by (with_reducible repeat (first | apply Kd.R_alloc | apply Kd.R_drewN | apply Kd.R_drew)); exact HO461.out⟩, ⟨by repeat (first | (with_reducible first | exact HB.out | apply below_alloc | apply pw_below_drewN | apply below_drew1) | exact HB.out)⟩⟩
                        · rw [if_neg c26] at H
                          exact absurd H (by simp)
                      · rw [if_neg c25] at H
                        exact absurd H (by simp)
                    · rw [if_neg c24] at H
                      exact absurd H (by simp)
                · replace c16 := Bool.eq_false_iff.mpr c16
                  subst c16
                  have H1 : ((bolterref13_whole.f x7_1).bind fun bt462 => (some (bt462.1, bt462.2))) = some (r1, r2) := by rw [if_neg (show ¬ (false = true) by decide)] at H; exact H
                  clear H
                  have H := H1
                  clear H1
                  replace H := Option.bind_eq_some_iff.mp H
                  obtain ⟨⟨t462, t463⟩, A280, H⟩ := H
                  replace H : (some (t462, t463)) = some (r1, r2) := H
                  have A28 := Aside0.mk A280
                  clear A280
                  simp only [Option.some.injEq, Prod.mk.injEq] at H
                  obtain ⟨rfl, rfl⟩ := H
                  obtain ⟨Ao29, co29, eo29⟩ := Kd.R_slice HO_7.out
                  subst eo29
                  go_wp2_with (first | ((with_reducible refine gate_callee (f := 60) rfl ?_); refine goesL_ (some 42) rfl rfl Tryd.func60 (by kernel_rfl) rfl #[.slice Ao29 x7_1.length co29] rfl (by (try simp only [List.map_toArray, List.map_cons, List.map_nil]); first | done | rfl | (simp only [List.length_drop, List.length_take]; rfl)) ?_; (with_reducible refine (bolterref13_whole.calls _ _ x7_1 t462 t463 _ ?side1 ?side2 A28.out).mono ?_); (case side1 => repeat (first | exact (Kd.R_reads' HO_7.out).2.2 | (with_reducible refine Kd.C_alloc ?_ _) | (with_reducible refine Kd.C_drewN ?_ _) | (with_reducible refine Kd.C_drew ?_))); (case side2 => exact (Kd.R_reads' HO_7.out).2.1); rintro e w' ⟨rfl, ⟨nd, rfl⟩⟩; refine ⟨_, rfl, ?_⟩))
                  go_ret2
                  exact ⟨by first | rfl | (simp [errW_none, errW_some] <;> rfl) | (simp [*, errW_none, errW_some] <;> rfl), by repeat (first | (with_reducible first | exact HB.out | apply below_alloc | apply pw_below_drewN | apply below_drew1) | exact HB.out)⟩
      · rw [if_neg c6] at H
        have c6b0 : (t450 == 0) = false := beq_eq_false_iff_ne.mpr c6
        have c6b1 : (t450 != 0) = true := bne_iff_ne.mpr c6
        simp only [Option.some.injEq, Prod.mk.injEq] at H
        obtain ⟨rfl, rfl⟩ := H
        go_enter Tryd.func32, Tryd.ntmps32
        go_wp2_with (first | ((with_reducible refine gate_dst (N := 9) rfl ?_); (try (refine gate_guard (by rfl) ?_; dsimp only)); refine Kd.R_lit Kd.string _ 9 ?hg (N := 9) ?hd (xs := ([] : List ByteArray)) (inner := []) (ok := fun _ => True) (okp := fun _ => True) ?hr ?hp (fun _ hk => hk) trivial (Below.refl _ _) (Nat.le_refl _) (by simp) ?_; (case hd => rfl); (case hg => rfl); (case hr => first | (go_simp; done) | (go_simp; rfl)); (case hp => exact (Reps.none _ _)); intro v442 w30 ho31 hb hg_ hnew_; clear hg_ hnew_; (first | rw [← Ny441.out] at ho31 | (simp only [Int.reduceToNat] at ho31; rw [← Ny441.out] at ho31)); have n0_ := Aside0.mk (Kd.R_lower ho31 (below_size (by repeat (first | (with_reducible first | exact HB.out | apply below_alloc | apply pw_below_drewN | apply below_drew1) | exact HB.out)))); have n1_ := Aside0.mk (below_step (by repeat (first | (with_reducible first | exact HB.out | apply below_alloc | apply pw_below_drewN | apply below_drew1) | exact HB.out)) hb); clear HB; have HO443 := n0_; have HB := n1_; clear n0_ n1_; clear hb ho31) | ((with_reducible refine gate_builtin (b := .append) (xs := #[.tmp 9, .tmp 10]) rfl ?_); (try (refine gate_guard (by rfl) ?_; dsimp only)); at_builtin; refine Kd.R_append_rows Kd.string (w0 := w) w.heap.size rfl (.tmp 9) (.tmp 10) 28 9 (.string ⟨#[]⟩) 16 rfl Tryd.underlying28 info9 rfl (by decide) (by omega) v442 y441 l0 _ _ _ (fun _ => True) (fun _ => False) rfl rfl ?aO ?aR (fun _ _ h => h) (fun _ h => h.elim) ?aF ?aB ?aS ?aL ?_; (case aR => repeat (first | exact (Kd.C_below HR0.out HB.out) | (with_reducible refine Kd.C_alloc ?_ _) | (with_reducible refine Kd.C_drewN ?_ _) | (with_reducible refine Kd.C_drew ?_))); (case aB => exact (by repeat (first | (with_reducible first | exact HB.out | apply below_alloc | apply pw_below_drewN | apply below_drew1) | exact HB.out))); (case aF => exact (fun _ _ => trivial)); (case aO => exact (by (with_reducible repeat (first | apply Kd.R_alloc | apply Kd.R_drewN | apply Kd.R_drew)); exact HO443.out)); (case aS => exact (below_size (by repeat (first | (with_reducible first | exact HB.out | apply below_alloc | apply pw_below_drewN | apply below_drew1) | exact HB.out)))); (case aL => have := LMc3.out; omega); intro v445 w32 ho hb hg hat; rw [← Ny444.out] at ho; have n0_ := Aside0.mk (hb); have n1_ := Aside0.mk (ho); clear HB; clear HO443; have HB := n0_; have HO446 := n1_; clear n0_ n1_; clear ho hb hg hat) | ((with_reducible refine gate_builtin (b := .append) (xs := #[.tmp 11, .tmp 13]) rfl ?_); (try (refine gate_guard (by rfl) ?_; dsimp only)); at_builtin; refine Kd.R_append Kd.string (w0 := w) w.heap.size rfl (.tmp 11) (.tmp 13) 28 9 (.string ⟨#[]⟩) 16 rfl Tryd.underlying28 info9 rfl (by decide) (by omega) v445 y444 a1 [.string a1] (fun _ => True) (fun _ => False) rfl rfl ?aP (fun _ hk => hk.elim) ?aF ?aO ?aB ?aS ?aL ?_; (case aP => exact rfl); (case aB => exact (by repeat (first | (with_reducible first | exact HB.out | apply below_alloc | apply pw_below_drewN | apply below_drew1) | exact HB.out))); (case aF => exact (fun _ _ => trivial)); (case aO => exact (by (with_reducible repeat (first | apply Kd.R_alloc | apply Kd.R_drewN | apply Kd.R_drew)); exact HO446.out)); (case aS => exact (below_size (by repeat (first | (with_reducible first | exact HB.out | apply below_alloc | apply pw_below_drewN | apply below_drew1) | exact HB.out)))); (case aL => have := LMc4.out; omega); intro v448 w33 ho hb hg hat; rw [← Ny447.out] at ho; have n0_ := Aside0.mk (hb); have n1_ := Aside0.mk (ho); clear HB; clear HO446; have HB := n0_; have HO449 := n1_; clear n0_ n1_; clear ho hb hg hat; obtain ⟨Ao34, co34, eo34⟩ := Kd.R_slice HO449.out; subst eo34) | ((with_reducible refine gate_callee (f := 57) rfl ?_); refine goesL_ (some 15) rfl rfl Tryd.func57 (by kernel_rfl) rfl #[.slice Ao34 y447.length co34] rfl (by (try simp only [List.map_toArray, List.map_cons, List.map_nil]); first | done | rfl | (simp only [List.length_drop, List.length_take]; rfl)) ?_; (with_reducible refine (bolterref13_Checks.calls k _ _ y447 t450 _ ?side1 ?side2 A5.out).mono ?_); (case side1 => repeat (first | exact (Kd.R_reads' HO449.out).2.2 | (with_reducible refine Kd.C_alloc ?_ _) | (with_reducible refine Kd.C_drewN ?_ _) | (with_reducible refine Kd.C_drew ?_))); (case side2 => exact (Kd.R_reads' HO449.out).2.1); rintro e w35 ⟨rfl, hb⟩; refine ⟨_, rfl, ?_⟩; have n0_ := Aside0.mk (Kd.R_below (by (with_reducible repeat (first | apply Kd.R_alloc | apply Kd.R_drewN | apply Kd.R_drew)); exact HO449.out) hb); have n1_ := Aside0.mk (below_step (by repeat (first | (with_reducible first | exact HB.out | apply below_alloc | apply pw_below_drewN | apply below_drew1) | exact HB.out)) hb); clear HO449; clear HB; have HO449 := n0_; have HB := n1_; clear n0_ n1_; (try clear hb); (try clear hb2); (try clear hk); (try clear hi)))
        go_ret2
        exact ⟨by first | rfl | (simp [errW_none, errW_some] <;> rfl) | (simp [*, errW_none, errW_some] <;> rfl), by repeat (first | (with_reducible first | exact HB.out | apply below_alloc | apply pw_below_drewN | apply below_drew1) | exact HB.out)⟩
    · rw [if_neg c4] at H
      exact absurd H (by simp)
  · rw [if_neg c3] at H
    exact absurd H (by simp)
def bolterref13_Split.f (k : Nat) (a0 : ByteArray) (a1 : ByteArray) : Option (List ByteArray × Int) := (bolterref13_Checks.f k (([a0, a1] : List ByteArray))).bind fun t467 => (if t467 = 0 then ((bolterref11_Cut.f k a0 a1).bind fun t468 => ((bolterref13_wholes.f k t468).bind fun bt471 => (some (bt471.1, bt471.2)))) else (some (([] : List ByteArray), t467)))
set_option maxHeartbeats 8000000 in
set_option maxRecDepth 100000 in
theorem bolterref13_Split.calls (k : Nat) (a0 : ByteArray) (a1 : ByteArray) (r1 : List ByteArray) (r2 : Int) (w : World) (h : bolterref13_Split.f k a0 a1 = some (r1, r2)) :
    Calls Tryd.prog 33 #[.string a0, .string a1] w fun e w' => ∃ v0_ : Value, e = .returned (.tuple #[v0_, .int .i64 r2]) ∧ Kd.R Kd.string 9 w' w.heap.size (fun _ => True) v0_ r1 ∧ Below w.heap.size w w' := by
  have HB := Aside0.mk (Below.refl w.heap.size w)
  have H : ((bolterref13_Checks.f k (([a0, a1] : List ByteArray))).bind fun t467 => (if t467 = 0 then ((bolterref11_Cut.f k a0 a1).bind fun t468 => ((bolterref13_wholes.f k t468).bind fun bt471 => (some (bt471.1, bt471.2)))) else (some (([] : List ByteArray), t467)))) = some (r1, r2) := h
  clear h
  obtain ⟨y464, hy464⟩ : ∃ y_ : List ByteArray, y_ = (([a0, a1] : List ByteArray)) := ⟨_, rfl⟩
  replace H : ((bolterref13_Checks.f k y464).bind fun t467 => (if t467 = 0 then ((bolterref11_Cut.f k a0 a1).bind fun t468 => ((bolterref13_wholes.f k t468).bind fun bt471 => (some (bt471.1, bt471.2)))) else (some (([] : List ByteArray), t467)))) = some (r1, r2) := by first | (rw [hy464]; with_reducible exact H) | (have H2_ := (Option.bind_some _ _).symm.trans H; rw [hy464]; with_reducible exact H2_) | (have H2_ := (Option.bind_some _ _).symm.trans H; with_reducible exact H2_) | with_reducible exact H | (rw [hy464]; exact H) | exact H
  have Ny464 := Aside0.mk hy464
  clear hy464
  replace H := Option.bind_eq_some_iff.mp H
  obtain ⟨t467, A30, H⟩ := H
  replace H : (if t467 = 0 then ((bolterref11_Cut.f k a0 a1).bind fun t468 => ((bolterref13_wholes.f k t468).bind fun bt471 => (some (bt471.1, bt471.2)))) else (some (([] : List ByteArray), t467))) = some (r1, r2) := H
  have A3 := Aside0.mk A30
  clear A30
  by_cases c4 : t467 = 0
  · rw [if_pos c4] at H
    have c4b0 : (t467 == 0) = true := beq_iff_eq.mpr c4
    have c4b1 : (t467 != 0) = false := bne_eq_false_iff_eq.mpr c4
    clear c4
    replace H := Option.bind_eq_some_iff.mp H
    obtain ⟨t468, A50, H⟩ := H
    replace H : ((bolterref13_wholes.f k t468).bind fun bt471 => (some (bt471.1, bt471.2))) = some (r1, r2) := H
    have A5 := Aside0.mk A50
    clear A50
    replace H := Option.bind_eq_some_iff.mp H
    obtain ⟨⟨t471, t474⟩, A60, H⟩ := H
    replace H : (some (t471, t474)) = some (r1, r2) := H
    have A6 := Aside0.mk A60
    clear A60
    simp only [Option.some.injEq, Prod.mk.injEq] at H
    obtain ⟨rfl, rfl⟩ := H
    go_enter Tryd.func33, Tryd.ntmps33
    go_wp2_with (first | ((with_reducible refine gate_dst (N := 9) rfl ?_); refine Kd.R_lit Kd.string _ 9 ?hg (N := 9) ?hd (xs := ([a0, a1] : List ByteArray)) (inner := [.string a0, .string a1]) (ok := fun _ => True) (okp := fun _ => True) ?hr ?hp (fun _ hk => hk) trivial (Below.refl _ _) (Nat.le_refl _) (by simp) ?_; (case hd => rfl); (case hg => rfl); (case hr => first | (go_simp; done) | (go_simp; rfl)); (case hp => exact (Reps.one (show Kd.M Kd.string _ _ _ a0 [.string a0] from rfl) (Reps.one (show Kd.M Kd.string _ _ _ a1 [.string a1] from rfl) (Reps.none _ _)))); intro v465 w7 ho8 hb hg_ hnew_; clear hg_ hnew_; (first | rw [← Ny464.out] at ho8 | (simp only [Int.reduceToNat] at ho8; rw [← Ny464.out] at ho8)); have n0_ := Aside0.mk (Kd.R_lower ho8 (below_size (by repeat (first | (with_reducible first | exact HB.out | apply below_alloc | apply pw_below_drewN | apply below_drew1) | exact HB.out)))); have n1_ := Aside0.mk (below_step (by repeat (first | (with_reducible first | exact HB.out | apply below_alloc | apply pw_below_drewN | apply below_drew1) | exact HB.out)) hb); clear HB; have HO466 := n0_; have HB := n1_; clear n0_ n1_; clear hb ho8; obtain ⟨Ao9, co9, eo9⟩ := Kd.R_slice HO466.out; subst eo9) | ((with_reducible refine gate_callee (f := 57) rfl ?_); refine goesL_ (some 10) rfl rfl Tryd.func57 (by kernel_rfl) rfl #[.slice Ao9 y464.length co9] rfl (by (try simp only [List.map_toArray, List.map_cons, List.map_nil]); first | done | rfl | (simp only [List.length_drop, List.length_take]; rfl)) ?_; (with_reducible refine (bolterref13_Checks.calls k _ _ y464 t467 _ ?side1 ?side2 A3.out).mono ?_); (case side1 => repeat (first | exact (Kd.R_reads' HO466.out).2.2 | (with_reducible refine Kd.C_alloc ?_ _) | (with_reducible refine Kd.C_drewN ?_ _) | (with_reducible refine Kd.C_drew ?_))); (case side2 => exact (Kd.R_reads' HO466.out).2.1); rintro e w10 ⟨rfl, hb⟩; refine ⟨_, rfl, ?_⟩; have n0_ := Aside0.mk (Kd.R_below (by (with_reducible repeat (first | apply Kd.R_alloc | apply Kd.R_drewN | apply Kd.R_drew)); exact HO466.out) hb); have n1_ := Aside0.mk (below_step (by repeat (first | (with_reducible first | exact HB.out | apply below_alloc | apply pw_below_drewN | apply below_drew1) | exact HB.out)) hb); clear HO466; clear HB; have HO466 := n0_; have HB := n1_; clear n0_ n1_; (try clear hb); (try clear hb2); (try clear hk); (try clear hi)) | ((with_reducible refine gate_callee (f := 61) rfl ?_); refine goesL_ (some 16) rfl rfl Tryd.func61 (by kernel_rfl) rfl #[.string a0, .string a1] rfl (by (try simp only [List.map_toArray, List.map_cons, List.map_nil]); first | done | rfl | (simp only [List.length_drop, List.length_take]; rfl)) ?_; (with_reducible refine (bolterref11_Cut.calls k a0 a1 t468 _ A5.out).mono ?_); rintro e w11 ⟨v469, rfl, ho0, hb⟩; refine ⟨_, rfl, ?_⟩; have n0_ := Aside0.mk (Kd.R_elder' (by (with_reducible repeat (first | apply Kd.R_alloc | apply Kd.R_drewN | apply Kd.R_drew)); exact HO466.out) (Kd.R_base ho0) hb); have n1_ := Aside0.mk (Kd.R_lower (Kd.R_new' ho0 (Kd.R_lt (by (with_reducible repeat (first | apply Kd.R_alloc | apply Kd.R_drewN | apply Kd.R_drew)); exact HO466.out))) (below_size (by repeat (first | (with_reducible first | exact HB.out | apply below_alloc | apply pw_below_drewN | apply below_drew1) | exact HB.out)))); have n2_ := Aside0.mk (below_step (by repeat (first | (with_reducible first | exact HB.out | apply below_alloc | apply pw_below_drewN | apply below_drew1) | exact HB.out)) hb); clear HO466; clear HB; have HO466 := n0_; have HO470 := n1_; have HB := n2_; clear n0_ n1_ n2_; (try clear hb); (try clear hb2); (try clear hk); (try clear hi); (try clear ho0); obtain ⟨Ao12, co12, eo12⟩ := Kd.R_slice HO470.out; subst eo12) | ((with_reducible refine gate_callee (f := 62) rfl ?_); refine goesL_ (some 17) rfl rfl Tryd.func62 (by kernel_rfl) rfl #[.slice Ao12 t468.length co12] rfl (by (try simp only [List.map_toArray, List.map_cons, List.map_nil]); first | done | rfl | (simp only [List.length_drop, List.length_take]; rfl)) ?_; (with_reducible refine (bolterref13_wholes.calls k (fun k_ => some k_ = (.slice Ao12 t468.length co12 : Value).ownBlock) (.slice Ao12 t468.length co12) t468 t471 t474 w _ ?side1 ?side2 A6.out).mono ?_); (case side1 => repeat (first | (with_reducible first | exact HB.out | apply below_alloc | apply pw_below_drewN | apply below_drew1) | exact HB.out)); (case side2 => exact Kd.R_tight rfl HO470.out); rintro e w13 ⟨v472, rfl, ho0, hb, hkp⟩; refine ⟨_, rfl, ?_⟩; have n0_ := Aside0.mk (Kd.R_mono (ok' := fun k_ => some k_ ≠ (v472 : Value).ownBlock) (Kd.R_keptB (HO466.out) hkp (fun k_ hk_ hs_ => (hk_.2) hs_)) (fun k_ hk_ => fun e_ => Or.elim (ho0.1 k_ e_.symm) (fun hs_ => hk_.2.1 hs_) (fun hn_ => Nat.not_le.2 hk_.2.2 hn_))); have n1_ := Aside0.mk (Kd.R_mono (ok' := fun k_ => some k_ ≠ (.slice Ao9 y464.length co9 : Value).ownBlock) ho0 (fun k_ hk_ => Or.elim hk_ (fun hs_ => fun e_ => (((HO466.out).1 k_ e_.symm).2) hs_) (fun hn_ => (Kd.fresh' (Kd.R_lt (by (with_reducible repeat (first | apply Kd.R_alloc | apply Kd.R_drewN | apply Kd.R_drew)); exact HO466.out)) k_ hn_)))); have n2_ := Aside0.mk (hb); clear HO466; clear HB; clear HO470; have HO466 := n0_; have HO473 := n1_; have HB := n2_; clear n0_ n1_ n2_; (try clear hb); (try clear hkp); (try clear ho0)))
    go_ret2
    exact ⟨_, by first | rfl | (simp [errW_none, errW_some] <;> rfl) | (simp [*, errW_none, errW_some] <;> rfl), by (with_reducible repeat (first | apply Kd.R_alloc | apply Kd.R_drewN | apply Kd.R_drew)); exact Kd.R_mono HO473.out (fun _ hk => trivial), by repeat (first | (with_reducible first | exact HB.out | apply below_alloc | apply pw_below_drewN | apply below_drew1) | exact HB.out)⟩
  · rw [if_neg c4] at H
    have c4b0 : (t467 == 0) = false := beq_eq_false_iff_ne.mpr c4
    have c4b1 : (t467 != 0) = true := bne_iff_ne.mpr c4
    simp only [Option.some.injEq, Prod.mk.injEq] at H
    obtain ⟨rfl, rfl⟩ := H
    go_enter Tryd.func33, Tryd.ntmps33
    go_wp2_with (first | ((with_reducible refine gate_dst (N := 9) rfl ?_); refine Kd.R_lit Kd.string _ 9 ?hg (N := 9) ?hd (xs := ([a0, a1] : List ByteArray)) (inner := [.string a0, .string a1]) (ok := fun _ => True) (okp := fun _ => True) ?hr ?hp (fun _ hk => hk) trivial (Below.refl _ _) (Nat.le_refl _) (by simp) ?_; (case hd => rfl); (case hg => rfl); (case hr => first | (go_simp; done) | (go_simp; rfl)); (case hp => exact (Reps.one (show Kd.M Kd.string _ _ _ a0 [.string a0] from rfl) (Reps.one (show Kd.M Kd.string _ _ _ a1 [.string a1] from rfl) (Reps.none _ _)))); intro v465 w14 ho15 hb hg_ hnew_; clear hg_ hnew_; (first | rw [← Ny464.out] at ho15 | (simp only [Int.reduceToNat] at ho15; rw [← Ny464.out] at ho15)); have n0_ := Aside0.mk (Kd.R_lower ho15 (below_size (by repeat (first | (with_reducible first | exact HB.out | apply below_alloc | apply pw_below_drewN | apply below_drew1) | exact HB.out)))); have n1_ := Aside0.mk (below_step (by repeat (first | (with_reducible first | exact HB.out | apply below_alloc | apply pw_below_drewN | apply below_drew1) | exact HB.out)) hb); clear HB; have HO466 := n0_; have HB := n1_; clear n0_ n1_; clear hb ho15; obtain ⟨Ao16, co16, eo16⟩ := Kd.R_slice HO466.out; subst eo16) | ((with_reducible refine gate_callee (f := 57) rfl ?_); refine goesL_ (some 10) rfl rfl Tryd.func57 (by kernel_rfl) rfl #[.slice Ao16 y464.length co16] rfl (by (try simp only [List.map_toArray, List.map_cons, List.map_nil]); first | done | rfl | (simp only [List.length_drop, List.length_take]; rfl)) ?_; (with_reducible refine (bolterref13_Checks.calls k _ _ y464 t467 _ ?side1 ?side2 A3.out).mono ?_); (case side1 => repeat (first | exact (Kd.R_reads' HO466.out).2.2 | (with_reducible refine Kd.C_alloc ?_ _) | (with_reducible refine Kd.C_drewN ?_ _) | (with_reducible refine Kd.C_drew ?_))); (case side2 => exact (Kd.R_reads' HO466.out).2.1); rintro e w17 ⟨rfl, hb⟩; refine ⟨_, rfl, ?_⟩; have n0_ := Aside0.mk (Kd.R_below (by (with_reducible repeat (first | apply Kd.R_alloc | apply Kd.R_drewN | apply Kd.R_drew)); exact HO466.out) hb); have n1_ := Aside0.mk (below_step (by repeat (first | (with_reducible first | exact HB.out | apply below_alloc | apply pw_below_drewN | apply below_drew1) | exact HB.out)) hb); clear HO466; clear HB; have HO466 := n0_; have HB := n1_; clear n0_ n1_; (try clear hb); (try clear hb2); (try clear hk); (try clear hi)))
    go_ret2
    exact ⟨_, by first | rfl | (simp [errW_none, errW_some] <;> rfl) | (simp [*, errW_none, errW_some] <;> rfl), by first | exact Kd.R_nil _ _ _ _ _ | exact Kd.N_nil _ _ _ _ _ | exact Kd.V_nil _ _ _ _ _ | exact Kd.Q_nil _ _ _ _ _ | exact Kd.S_nil _ _ _ _ _, by repeat (first | (with_reducible first | exact HB.out | apply below_alloc | apply pw_below_drewN | apply below_drew1) | exact HB.out)⟩
end Go.Proofs.YtdhjdddjgcfhkaaDoor.B

end

section
/- bolterref13.moved: octets of a converted text written over, walked. -/
set_option linter.unusedVariables false
set_option linter.unusedSimpArgs false
namespace Go.Proofs.YtdhjdddjgcfhkaaDoor.B
open Go.RowKit Go.Shelf Go.Proofs.YtdhjdddjgcfhkaaDoorW.PrintWords

def mvB (lo by_ c : Int) : Int := if lo ≤ c ∧ c < (lo + 26) % 256 then wrap64 (c + by_) % 256 else c
def bolterref13_moved.f (k : Nat) (a0 : ByteArray) (a1 a2 : Int) : Option (ByteArray × Int) :=
  (bolterref13_Checks.f k [a0]).bind fun e => if e = 0 then (if a0.size ≤ 4611686018427387904 then bolterref13_whole.f ((bytesOf a0).map (mvB a1 a2)) else none) else some (⟨#[]⟩, e)
theorem checks1 (k : Nat) (a0 : ByteArray) (er : Int) (w : World) (h : bolterref13_Checks.f k [a0] = some er) :
    Calls Tryd.prog 57 #[.slice (some ⟨w.heap.size, 0, none⟩) 1 1] (w.alloc (.cells #[.string a0] 9)) fun e w' => e = .returned (.int .i64 er) ∧ Below w.heap.size w w' := by
  have hb : Below w.heap.size w (w.alloc (.cells #[.string a0] 9)) := (Below.refl _ w).alloc (Nat.le_refl _) _
  have hC : Kd.C Kd.string (w.alloc (.cells #[.string a0] 9)) (some ⟨w.heap.size, 0, none⟩) ([a0] : List ByteArray).length [a0] := by
    refine Kd.C_of_reads (enc := Value.string) (d := ByteArray.empty) ⟨rfl, by simp, fun _ => ⟨_, rfl, fun j hj => ?_⟩⟩
    rw [add_at, Lib.cell_of_heap (World.alloc_heap_new _ _)]
    match j, hj with
    | 0, _ => rfl
    | n + 1, hj => exact absurd hj (by simp)
  exact (bolterref13_Checks.calls k _ 1 [a0] er _ hC (by simp) h).mono fun e w' ⟨he, hb'⟩ => ⟨he, hb.trans (hb'.mono hb.size)⟩
structure MvRel (a0 : ByteArray) (a1 a2 : Int) (j g : Nat) (w wr : World) : Prop where
  low : Below w.heap.size w wr
  lt : w.heap.size ≤ g
  cell : ∀ t, t < a0.size → wr.cell? ⟨g, t, none⟩ = some (.int .u8 (if t < j then mvB a1 a2 ((a0.data.toList.getD t 0).toNat : Int) else ((a0.data.toList.getD t 0).toNat : Int)))
  fr : ∀ t, t < a0.size → wr.frozen? ⟨g, t, none⟩ = false
set_option maxHeartbeats 8000000 in
set_option maxRecDepth 100000 in
theorem bolterref13_moved.calls (k : Nat) (a0 : ByteArray) (a1 a2 : Int) (r1 : ByteArray) (r2 : Int) (w : World) (h : bolterref13_moved.f k a0 a1 a2 = some (r1, r2)) :
    Calls Tryd.prog 63 #[.string a0, .int .u8 a1, .int .i64 a2] w fun e w' => e = .returned (.tuple #[.string r1, .int .i64 r2]) ∧ Below w.heap.size w w' := by
  unfold bolterref13_moved.f at h
  obtain ⟨er, he, h⟩ := Option.bind_eq_some_iff.1 h
  have cK := checks1 k a0 er w he
  clear he
  by_cases h0 : er = 0
  · subst h0
    rw [if_pos rfl] at h
    split at h
    case isFalse => cases h
    case isTrue hs =>
      have HW := Lib.hid h
      clear h
      have kc := fun (W : World) => Lib.run_convert_string_bytes (P := Tryd.prog) W 9 63 5 a0 Tryd.underlying9 Tryd.underlying63 Tryd.underlying5
      go_enter Tryd.func63, Tryd.ntmps63
      go_wp2_with (go_at_call 57; refine cK.mono ?_; rintro e w1 ⟨rfl, hb1⟩)
      obtain ⟨g, hg⟩ : ∃ g, w1.heap.size = g := ⟨_, rfl⟩
      obtain ⟨cp, hcp⟩ : ∃ cp, grownCap w1 a0.size 0 5 = cp := ⟨_, rfl⟩
      have hge : a0.size ≤ cp := by rw [← hcp]; exact grownCap_ge _ _ _ _
      have hB2 : Below w1.heap.size w1 (Lib.bytesWorld w1 5 a0) := ⟨rfl, rfl, rfl, by rw [Lib.bytesWorld_size]; omega, fun i hi => Lib.bytesWorld_at_old w1 _ a0 i hi⟩
      have hrel0 : MvRel a0 a1 a2 0 g w (Lib.bytesWorld w1 5 a0) := by
        refine ⟨hb1.trans (hB2.mono hb1.size), by rw [← hg]; exact hb1.size, fun t ht => ?_, fun t ht => ?_⟩
        · rw [if_neg (by omega), ← hg]; exact Lib.bytesWorld_cell w1 _ a0 t ht
        · rw [← hg]
          have h1 := Lib.bytesWorld_at_new w1 5 a0
          have h2 : a0.size ≤ (Lib.bytesCells w1 5 a0).size := by simp [Lib.bytesCells]
          simp only [World.frozen?, h1]
          simp; omega
      have hsz : w.heap.size ≤ g := by rw [← hg]; exact hb1.size
      rw [hg, hcp]
      have HR0 := Lib.hid hrel0
      clear hrel0 hB2 hb1 hg hcp kc
      obtain ⟨wb, hwb⟩ : ∃ wb, Lib.bytesWorld w1 5 a0 = wb := ⟨_, rfl⟩
      rw [hwb] at HR0 ⊢
      clear hwb
      obtain ⟨n, hn⟩ : ∃ n, a0.size = n := ⟨_, rfl⟩
      have HN := Lib.hid hn
      rw [hn] at hs hge ⊢
      clear hn cK
      go_loopw [10] (fun i wr => ∃ j : Nat, j ≤ n ∧ i = .int .i64 j ∧ MvRel a0 a1 a2 j g w wr) (fun i _ => n - (intOf i).toNat)
      case atStart => exact ⟨0, Nat.zero_le _, rfl, HR0.out⟩
      case round =>
        obtain ⟨j, hj, rfl, hrel⟩ := hrel
        have HR := Lib.hid hrel
        clear hrel
        by_cases hlt : j < n
        · have hlt' : (j : Int) < (n : Int) := by omega
          obtain ⟨c, hc⟩ : ∃ c : Int, ((a0.data.toList.getD j 0).toNat : Int) = c := ⟨_, rfl⟩
          have hcr : 0 ≤ c ∧ c < 256 := by have := (a0.data.toList.getD j 0).toNat_lt; omega
          have hck : wr.cell? ⟨g, j, none⟩ = some (.int .u8 c) := by
            have := HR.out.cell j (by have := HN.out; omega)
            rw [if_neg (by omega), hc] at this; exact this
          have hfr : wr.frozen? ⟨g, j, none⟩ = false := HR.out.fr j (by have := HN.out; omega)
          obtain ⟨hc0, hc1⟩ := hcr
          have HC := Lib.hid hc
          clear hc
          have hnext : ∀ wr' : World, wr' = (if a1 ≤ c ∧ c < (a1 + 26) % 256 then wr.setCell ⟨g, j, none⟩ (.int .u8 (wrap64 (c + a2) % 256)) else wr) → MvRel a0 a1 a2 (j + 1) g w wr' := by
            intro wr' hw
            have hkeep : ∀ t, t < a0.size → t ≠ j → wr'.cell? ⟨g, t, none⟩ = wr.cell? ⟨g, t, none⟩ := fun t ht hne => by
              rw [hw]; split
              · exact World.cell?_setCell_other _ _ _ _ (by first | (simp; done) | (simp; omega))
              · rfl
            refine ⟨?_, HR.out.lt, fun t ht => ?_, fun t ht => ?_⟩
            · rw [hw]; split
              · exact HR.out.low.setCell (p := ⟨g, j, none⟩) HR.out.lt _
              · exact HR.out.low
            · rcases Nat.lt_trichotomy t j with h | h | h
              · rw [hkeep t ht (by omega), HR.out.cell t ht, if_pos h, if_pos (by omega)]
              · subst h
                rw [if_pos (by omega), HC.out]
                rw [hw]; unfold mvB
                split
                · exact World.cell?_setCell_same' _ _ _ (by rw [hck]; rfl)
                · exact hck
              · rw [hkeep t ht (by omega), HR.out.cell t ht, if_neg (by omega), if_neg (by omega)]
            · rw [hw]; split
              · rw [World.frozen?_setCell]; exact HR.out.fr t ht
              · exact HR.out.fr t ht
          have HNx := Lib.hid hnext
          clear hnext
          by_cases h1 : a1 ≤ c
          · by_cases h2 : c < (a1 + 26) % 256
            · go_wp2
              go_roundw
              case rel => exact ⟨j + 1, by omega, by go_num, HNx.out _ (by rw [if_pos ⟨h1, h2⟩])⟩
              case measure => simp [intOf]; omega
            · go_wp2
              go_roundw
              case rel => exact ⟨j + 1, by omega, by go_num, HNx.out _ (by rw [if_neg (fun h => h2 h.2)])⟩
              case measure => simp [intOf]; omega
          · go_wp2
            go_roundw
            case rel => exact ⟨j + 1, by omega, by go_num, HNx.out _ (by rw [if_neg (fun h => h1 h.1)])⟩
            case measure => simp [intOf]; omega
        · obtain rfl : j = n := by omega
          have hlen : ((bytesOf a0).map (mvB a1 a2)).length = j := by simp [bytesOf, HN.out]
          have hC : Kd.C (Kd.int .u8) wr (some ⟨g, 0, none⟩) ((bytesOf a0).map (mvB a1 a2)).length ((bytesOf a0).map (mvB a1 a2)) := by
            refine Kd.C_of_reads (enc := Value.int .u8) (d := 0) ⟨rfl, by omega, fun _ => ⟨_, rfl, fun t ht => ?_⟩⟩
            have ht' : t < a0.size := by have := HN.out; omega
            rw [add_at, Nat.zero_add, HR.out.cell t ht', if_pos (by have := HN.out; omega)]
            simp [bytesOf, List.getD_eq_getElem?_getD, ht']
          have cW := bolterref13_whole.calls (some ⟨g, 0, none⟩) cp _ r1 r2 wr hC (by omega) HW.out
          rw [hlen] at cW
          clear hC hlen
          go_wp2_with (go_at_call 60; refine cW.mono ?_; rintro e w7 ⟨rfl, ⟨nd, rfl⟩⟩)
          go_ret2
          exact ⟨rfl, pw_below_drewN HR.out.low _⟩
  · rw [if_neg h0] at h
    obtain ⟨rfl, rfl⟩ := Prod.mk.inj (Option.some.inj h)
    have hne : (er != 0) = true := by rw [bne_iff_ne]; exact h0
    clear h h0
    go_enter Tryd.func63, Tryd.ntmps63
    go_wp2_with (go_at_call 57; refine cK.mono ?_; rintro e w1 ⟨rfl, hb1⟩)
    go_ret2
    exact ⟨rfl, hb1⟩
end Go.Proofs.YtdhjdddjgcfhkaaDoor.B

end

section
namespace Go.Proofs.YtdhjdddjgcfhkaaDoor.B
open Go.RowKit Go.Proofs.YtdhjdddjgcfhkaaDoorW.PrintWords Go.Proofs.YtdhjdddjgcfhkaaDoorW.PrintLast Go.Proofs.YtdhjdddjgcfhkaaDoorW.PrintMore
attribute [local go_sem] max2_int min2_int max_two min_two max_three min_three max_four min_four   -- for this text's walks alone
set_option linter.unusedVariables false
set_option linter.unusedSimpArgs false

def bolterref13_Lower.f (k : Nat) (a0 : ByteArray) : Option (ByteArray × Int) := (bolterref13_moved.f k a0 65 32).bind fun bt475 => (some (bt475.1, bt475.2))
set_option maxHeartbeats 8000000 in
set_option maxRecDepth 100000 in
theorem bolterref13_Lower.calls (k : Nat) (a0 : ByteArray) (r1 : ByteArray) (r2 : Int) (w : World) (h : bolterref13_Lower.f k a0 = some (r1, r2)) :
    Calls Tryd.prog 34 #[.string a0] w fun e w' => e = .returned (.tuple #[.string r1, .int .i64 r2]) ∧ Below w.heap.size w w' := by
  have HB := Aside0.mk (Below.refl w.heap.size w)
  have H : ((bolterref13_moved.f k a0 65 32).bind fun bt475 => (some (bt475.1, bt475.2))) = some (r1, r2) := h
  clear h
  replace H := Option.bind_eq_some_iff.mp H
  obtain ⟨⟨t475, t476⟩, A20, H⟩ := H
  replace H : (some (t475, t476)) = some (r1, r2) := H
  have A2 := Aside0.mk A20
  clear A20
  simp only [Option.some.injEq, Prod.mk.injEq] at H
  obtain ⟨rfl, rfl⟩ := H
  go_enter Tryd.func34, Tryd.ntmps34
  go_wp2_with (first | ((with_reducible refine gate_callee (f := 63) rfl ?_); refine goesL_ (some 5) rfl rfl Tryd.func63 (by kernel_rfl) rfl #[.string a0, .int .u8 65, .int .i64 32] rfl (by (try simp only [List.map_toArray, List.map_cons, List.map_nil]); first | done | rfl | (simp only [List.length_drop, List.length_take]; rfl)) ?_; (with_reducible refine (bolterref13_moved.calls k a0 65 32 t475 t476 _ A2.out).mono ?_); rintro e w3 ⟨rfl, hb⟩; refine ⟨_, rfl, ?_⟩; have n0_ := Aside0.mk (below_step (by repeat (first | (with_reducible first | exact HB.out | apply below_alloc | apply pw_below_drewN | apply below_drew1) | exact HB.out)) hb); clear HB; have HB := n0_; clear n0_; (try clear hb); (try clear hb2); (try clear hk); (try clear hi)))
  go_ret2
  exact ⟨by first | rfl | (simp [errW_none, errW_some] <;> rfl) | (simp [*, errW_none, errW_some] <;> rfl), by repeat (first | (with_reducible first | exact HB.out | apply below_alloc | apply pw_below_drewN | apply below_drew1) | exact HB.out)⟩
def bolterref13_Upper.f (k : Nat) (a0 : ByteArray) : Option (ByteArray × Int) := (bolterref13_moved.f k a0 97 (-32)).bind fun bt477 => (some (bt477.1, bt477.2))
set_option maxHeartbeats 8000000 in
set_option maxRecDepth 100000 in
theorem bolterref13_Upper.calls (k : Nat) (a0 : ByteArray) (r1 : ByteArray) (r2 : Int) (w : World) (h : bolterref13_Upper.f k a0 = some (r1, r2)) :
    Calls Tryd.prog 35 #[.string a0] w fun e w' => e = .returned (.tuple #[.string r1, .int .i64 r2]) ∧ Below w.heap.size w w' := by
  have HB := Aside0.mk (Below.refl w.heap.size w)
  have H : ((bolterref13_moved.f k a0 97 (-32)).bind fun bt477 => (some (bt477.1, bt477.2))) = some (r1, r2) := h
  clear h
  replace H := Option.bind_eq_some_iff.mp H
  obtain ⟨⟨t477, t478⟩, A20, H⟩ := H
  replace H : (some (t477, t478)) = some (r1, r2) := H
  have A2 := Aside0.mk A20
  clear A20
  simp only [Option.some.injEq, Prod.mk.injEq] at H
  obtain ⟨rfl, rfl⟩ := H
  go_enter Tryd.func35, Tryd.ntmps35
  go_wp2_with (first | ((with_reducible refine gate_callee (f := 63) rfl ?_); refine goesL_ (some 5) rfl rfl Tryd.func63 (by kernel_rfl) rfl #[.string a0, .int .u8 97, .int .i64 (-32)] rfl (by (try simp only [List.map_toArray, List.map_cons, List.map_nil]); first | done | rfl | (simp only [List.length_drop, List.length_take]; rfl)) ?_; (with_reducible refine (bolterref13_moved.calls k a0 97 (-32) t477 t478 _ A2.out).mono ?_); rintro e w3 ⟨rfl, hb⟩; refine ⟨_, rfl, ?_⟩; have n0_ := Aside0.mk (below_step (by repeat (first | (with_reducible first | exact HB.out | apply below_alloc | apply pw_below_drewN | apply below_drew1) | exact HB.out)) hb); clear HB; have HB := n0_; clear n0_; (try clear hb); (try clear hb2); (try clear hk); (try clear hi)))
  go_ret2
  exact ⟨by first | rfl | (simp [errW_none, errW_some] <;> rfl) | (simp [*, errW_none, errW_some] <;> rfl), by repeat (first | (with_reducible first | exact HB.out | apply below_alloc | apply pw_below_drewN | apply below_drew1) | exact HB.out)⟩
end Go.Proofs.YtdhjdddjgcfhkaaDoor.B

end

section
namespace Go.Proofs.YtdhjdddjgcfhkaaDoor.B
open Go.RowKit Go.Proofs.YtdhjdddjgcfhkaaDoorW.PrintWords Go.Proofs.YtdhjdddjgcfhkaaDoorW.PrintLast Go.Proofs.YtdhjdddjgcfhkaaDoorW.PrintMore
attribute [local go_sem] max2_int min2_int max_two min_two max_three min_three max_four min_four   -- for this text's walks alone
set_option linter.unusedVariables false
set_option linter.unusedSimpArgs false

def texts_Trim.f (k : Nat) (a0 : ByteArray) : Option (ByteArray × Int) := (strings_Trim.f a0 (⟨#[32, 9, 10, 13]⟩ : ByteArray)).bind fun t479 => ((texts_Checks.f k (([a0] : List ByteArray))).bind fun t483 => ((texts_whole.f t479 t483).bind fun bt484 => (some (bt484.1, bt484.2))))
set_option maxHeartbeats 8000000 in
set_option maxRecDepth 100000 in
theorem texts_Trim.calls (k : Nat) (a0 : ByteArray) (r1 : ByteArray) (r2 : Int) (w : World) (hG : Aside0 (GlobG w)) (h : texts_Trim.f k a0 = some (r1, r2)) :
    Calls Tryd.prog 36 #[.string a0] w fun e w' => e = .returned (.tuple #[.string r1, .int .i64 r2]) ∧ Below w.heap.size w w' := by
  have HB := Aside0.mk (Below.refl w.heap.size w)
  have H : ((strings_Trim.f a0 (⟨#[32, 9, 10, 13]⟩ : ByteArray)).bind fun t479 => ((texts_Checks.f k (([a0] : List ByteArray))).bind fun t483 => ((texts_whole.f t479 t483).bind fun bt484 => (some (bt484.1, bt484.2))))) = some (r1, r2) := h
  clear h
  replace H := Option.bind_eq_some_iff.mp H
  obtain ⟨t479, A20, H⟩ := H
  replace H : ((texts_Checks.f k (([a0] : List ByteArray))).bind fun t483 => ((texts_whole.f t479 t483).bind fun bt484 => (some (bt484.1, bt484.2)))) = some (r1, r2) := H
  have A2 := Aside0.mk A20
  clear A20
  obtain ⟨y480, hy480⟩ : ∃ y_ : List ByteArray, y_ = (([a0] : List ByteArray)) := ⟨_, rfl⟩
  replace H : ((texts_Checks.f k y480).bind fun t483 => ((texts_whole.f t479 t483).bind fun bt484 => (some (bt484.1, bt484.2)))) = some (r1, r2) := by first | (rw [hy480]; with_reducible exact H) | (have H2_ := (Option.bind_some _ _).symm.trans H; rw [hy480]; with_reducible exact H2_) | (have H2_ := (Option.bind_some _ _).symm.trans H; with_reducible exact H2_) | with_reducible exact H | (rw [hy480]; exact H) | exact H
  have Ny480 := Aside0.mk hy480
  clear hy480
  replace H := Option.bind_eq_some_iff.mp H
  obtain ⟨t483, A30, H⟩ := H
  replace H : ((texts_whole.f t479 t483).bind fun bt484 => (some (bt484.1, bt484.2))) = some (r1, r2) := H
  have A3 := Aside0.mk A30
  clear A30
  replace H := Option.bind_eq_some_iff.mp H
  obtain ⟨⟨t484, t485⟩, A40, H⟩ := H
  replace H : (some (t484, t485)) = some (r1, r2) := H
  have A4 := Aside0.mk A40
  clear A40
  simp only [Option.some.injEq, Prod.mk.injEq] at H
  obtain ⟨rfl, rfl⟩ := H
  go_enter Tryd.func36, Tryd.ntmps36
  go_wp2_with (first | ((with_reducible refine gate_callee (f := 64) rfl ?_); refine goesL_ (some 5) rfl rfl Tryd.func64 (by kernel_rfl) rfl #[.string a0, .string (⟨#[32, 9, 10, 13]⟩ : ByteArray)] rfl (by (try simp only [List.map_toArray, List.map_cons, List.map_nil]); first | done | rfl | (simp only [List.length_drop, List.length_take]; rfl)) ?_; (with_reducible refine (strings_Trim.calls a0 (⟨#[32, 9, 10, 13]⟩ : ByteArray) t479 _ A2.out).mono ?_); rintro e w5 ⟨rfl, hb⟩; refine ⟨_, rfl, ?_⟩; have n0_ := Aside0.mk (below_step (by repeat (first | (with_reducible first | exact HB.out | apply below_alloc | apply pw_below_drewN | apply below_drew1) | exact HB.out)) hb); clear HB; have HB := n0_; clear n0_; (try clear hb); (try clear hb2); (try clear hk); (try clear hi)) | ((with_reducible refine gate_dst (N := 7) rfl ?_); refine Kd.R_lit Kd.string _ 9 ?hg (N := 7) ?hd (xs := ([a0] : List ByteArray)) (inner := [.string a0]) (ok := fun _ => True) (okp := fun _ => True) ?hr ?hp (fun _ hk => hk) trivial (Below.refl _ _) (Nat.le_refl _) (by simp) ?_; (case hd => rfl); (case hg => rfl); (case hr => first | (go_simp; done) | (go_simp; rfl)); (case hp => exact (Reps.one (show Kd.M Kd.string _ _ _ a0 [.string a0] from rfl) (Reps.none _ _))); intro v481 w6 ho7 hb hg_ hnew_; clear hg_ hnew_; (first | rw [← Ny480.out] at ho7 | (simp only [Int.reduceToNat] at ho7; rw [← Ny480.out] at ho7)); have n0_ := Aside0.mk (Kd.R_lower ho7 (below_size (by repeat (first | (with_reducible first | exact HB.out | apply below_alloc | apply pw_below_drewN | apply below_drew1) | exact HB.out)))); have n1_ := Aside0.mk (below_step (by repeat (first | (with_reducible first | exact HB.out | apply below_alloc | apply pw_below_drewN | apply below_drew1) | exact HB.out)) hb); clear HB; have HO482 := n0_; have HB := n1_; clear n0_ n1_; clear hb ho7; obtain ⟨Ao8, co8, eo8⟩ := Kd.R_slice HO482.out; subst eo8) | ((with_reducible refine gate_callee (f := 43) rfl ?_); refine goesL_ (some 8) rfl rfl Tryd.func43 (by kernel_rfl) rfl #[.slice Ao8 y480.length co8] rfl (by (try simp only [List.map_toArray, List.map_cons, List.map_nil]); first | done | rfl | (simp only [List.length_drop, List.length_take]; rfl)) ?_; (with_reducible refine (texts_Checks.calls k _ _ y480 t483 _ ?side1 ?side2 ?side3 A3.out).mono ?_); (case side1 => repeat (first | exact (Kd.R_reads' HO482.out).2.2 | (with_reducible refine Kd.C_alloc ?_ _) | (with_reducible refine Kd.C_drewN ?_ _) | (with_reducible refine Kd.C_drew ?_))); (case side2 => exact (Kd.R_reads' HO482.out).2.1); (case side3 => exact Aside0.mk (GlobG.below (by repeat (first | (with_reducible first | exact HB.out | apply below_alloc | apply pw_below_drewN | apply below_drew1) | exact HB.out)) hG.out)); rintro e w9 ⟨rfl, hb⟩; refine ⟨_, rfl, ?_⟩; have n0_ := Aside0.mk (Kd.R_below (by (with_reducible repeat (first | apply Kd.R_alloc | apply Kd.R_drewN | apply Kd.R_drew)); exact HO482.out) hb); have n1_ := Aside0.mk (below_step (by repeat (first | (with_reducible first | exact HB.out | apply below_alloc | apply pw_below_drewN | apply below_drew1) | exact HB.out)) hb); clear HO482; clear HB; have HO482 := n0_; have HB := n1_; clear n0_ n1_; (try clear hb); (try clear hb2); (try clear hk); (try clear hi)) | ((with_reducible refine gate_callee (f := 48) rfl ?_); refine goesL_ (some 9) rfl rfl Tryd.func48 (by kernel_rfl) rfl #[.string t479, .int .i64 t483] rfl (by (try simp only [List.map_toArray, List.map_cons, List.map_nil]); first | done | rfl | (simp only [List.length_drop, List.length_take]; rfl)) ?_; (with_reducible refine (texts_whole.calls t479 t483 t484 t485 _ A4.out).mono ?_); rintro e w' ⟨rfl, ⟨nd, rfl⟩⟩; refine ⟨_, rfl, ?_⟩))
  go_ret2
  exact ⟨by first | rfl | (simp [errW_none, errW_some] <;> rfl) | (simp [*, errW_none, errW_some] <;> rfl), by repeat (first | (with_reducible first | exact HB.out | apply below_alloc | apply pw_below_drewN | apply below_drew1) | exact HB.out)⟩
def bolterref13_blank.f (a0 : Int) : Option (Bool) := if a0 = 32 then (some true) else (if a0 = 9 then (some true) else (if a0 = 10 then (some true) else (some (a0 == 13))))
set_option maxHeartbeats 8000000 in
set_option maxRecDepth 100000 in
theorem bolterref13_blank.calls (a0 : Int) (r : Bool) (w : World) (h : bolterref13_blank.f a0 = some r) :
    Calls Tryd.prog 65 #[.int .u8 a0] w fun e w' => e = .returned (.bool r) ∧ Drawn0 w w' := by
  have H : (if a0 = 32 then (some true) else (if a0 = 9 then (some true) else (if a0 = 10 then (some true) else (some (a0 == 13))))) = some r := h
  clear h
  by_cases c2 : a0 = 32
  · rw [if_pos c2] at H
    have c2b0 : (a0 == 32) = true := beq_iff_eq.mpr c2
    have c2b1 : (a0 != 32) = false := bne_eq_false_iff_eq.mpr c2
    clear c2
    obtain rfl := Option.some.inj H
    go_enter Tryd.func65, Tryd.ntmps65
    go_wp2
    go_ret
    exact ⟨by first | rfl | (simp; done) | (simp [*]; done), by repeat (first | exact Drawn0.refl _ | apply Drawn0.step)⟩
  · rw [if_neg c2] at H
    have c2b0 : (a0 == 32) = false := beq_eq_false_iff_ne.mpr c2
    have c2b1 : (a0 != 32) = true := bne_iff_ne.mpr c2
    by_cases c3 : a0 = 9
    · rw [if_pos c3] at H
      have c3b0 : (a0 == 9) = true := beq_iff_eq.mpr c3
      have c3b1 : (a0 != 9) = false := bne_eq_false_iff_eq.mpr c3
      clear c3
      obtain rfl := Option.some.inj H
      go_enter Tryd.func65, Tryd.ntmps65
      go_wp2
      go_ret
      exact ⟨by first | rfl | (simp; done) | (simp [*]; done), by repeat (first | exact Drawn0.refl _ | apply Drawn0.step)⟩
    · rw [if_neg c3] at H
      have c3b0 : (a0 == 9) = false := beq_eq_false_iff_ne.mpr c3
      have c3b1 : (a0 != 9) = true := bne_iff_ne.mpr c3
      by_cases c4 : a0 = 10
      · rw [if_pos c4] at H
        have c4b0 : (a0 == 10) = true := beq_iff_eq.mpr c4
        have c4b1 : (a0 != 10) = false := bne_eq_false_iff_eq.mpr c4
        clear c4
        obtain rfl := Option.some.inj H
        go_enter Tryd.func65, Tryd.ntmps65
        go_wp2
        go_ret
        exact ⟨by first | rfl | (simp; done) | (simp [*]; done), by repeat (first | exact Drawn0.refl _ | apply Drawn0.step)⟩
      · rw [if_neg c4] at H
        have c4b0 : (a0 == 10) = false := beq_eq_false_iff_ne.mpr c4
        have c4b1 : (a0 != 10) = true := bne_iff_ne.mpr c4
        obtain rfl := Option.some.inj H
        go_enter Tryd.func65, Tryd.ntmps65
        go_wp2
        go_ret
        exact ⟨by first | rfl | (simp; done) | (simp [*]; done), by repeat (first | exact Drawn0.refl _ | apply Drawn0.step)⟩
mutual
def bolterref13_Trim.j1 : Nat → ByteArray → Option (ByteArray × Int)
  | 0, _ => none
  | k + 1, x0 => bolterref13_Trim.l1 k x0
def bolterref13_Trim.l1 : Nat → ByteArray → Option (ByteArray × Int)
  | 0, _ => none
  | k + 1, x0 => if (x0.size : Int) > 0 then (if 0 ≤ (wrap64 ((x0.size : Int) - 1)) then (if (wrap64 ((x0.size : Int) - 1)) < (x0.size : Int) then ((bolterref13_blank.f (bt x0 (wrap64 ((x0.size : Int) - 1)))).bind fun t491 => (if t491 = true then (if (wrap64 ((x0.size : Int) - 1)) ≤ (x0.size : Int) then (bolterref13_Trim.l1 k (x0.extract 0 ((wrap64 ((x0.size : Int) - 1)) : Int).toNat)) else (none)) else ((conv_bytes63.f x0).bind fun t492 => ((bolterref13_whole.f t492).bind fun bt495 => (some (bt495.1, bt495.2)))))) else (none)) else (none)) else ((conv_bytes63.f x0).bind fun t497 => ((bolterref13_whole.f t497).bind fun bt500 => (some (bt500.1, bt500.2))))
def bolterref13_Trim.l0 : Nat → ByteArray → Option (ByteArray × Int)
  | 0, _ => none
  | k + 1, x0 => if (x0.size : Int) > 0 then (if 0 < (x0.size : Int) then ((bolterref13_blank.f (bt x0 0)).bind fun t490 => (if t490 = true then (if 1 ≤ (x0.size : Int) then (bolterref13_Trim.l0 k (x0.extract 1 x0.size)) else (none)) else (bolterref13_Trim.j1 k x0))) else (none)) else (bolterref13_Trim.j1 k x0)
end
def bolterref13_Trim.f (k : Nat) (a0 : ByteArray) : Option (ByteArray × Int) := (bolterref13_Checks.f k (([a0] : List ByteArray))).bind fun t489 => (if t489 = 0 then (bolterref13_Trim.l0 k a0) else (some ((⟨#[]⟩ : ByteArray), t489)))
set_option maxHeartbeats 8000000 in
set_option maxRecDepth 100000 in
theorem bolterref13_Trim.calls (k : Nat) (a0 : ByteArray) (r1 : ByteArray) (r2 : Int) (w : World) (h : bolterref13_Trim.f k a0 = some (r1, r2)) :
    Calls Tryd.prog 37 #[.string a0] w fun e w' => e = .returned (.tuple #[.string r1, .int .i64 r2]) ∧ Below w.heap.size w w' := by
  have HB := Aside0.mk (Below.refl w.heap.size w)
  have H : ((bolterref13_Checks.f k (([a0] : List ByteArray))).bind fun t489 => (if t489 = 0 then (bolterref13_Trim.l0 k a0) else (some ((⟨#[]⟩ : ByteArray), t489)))) = some (r1, r2) := h
  clear h
  obtain ⟨y486, hy486⟩ : ∃ y_ : List ByteArray, y_ = (([a0] : List ByteArray)) := ⟨_, rfl⟩
  replace H : ((bolterref13_Checks.f k y486).bind fun t489 => (if t489 = 0 then (bolterref13_Trim.l0 k a0) else (some ((⟨#[]⟩ : ByteArray), t489)))) = some (r1, r2) := by first | (rw [hy486]; with_reducible exact H) | (have H2_ := (Option.bind_some _ _).symm.trans H; rw [hy486]; with_reducible exact H2_) | (have H2_ := (Option.bind_some _ _).symm.trans H; with_reducible exact H2_) | with_reducible exact H | (rw [hy486]; exact H) | exact H
  have Ny486 := Aside0.mk hy486
  clear hy486
  replace H := Option.bind_eq_some_iff.mp H
  obtain ⟨t489, A20, H⟩ := H
  replace H : (if t489 = 0 then (bolterref13_Trim.l0 k a0) else (some ((⟨#[]⟩ : ByteArray), t489))) = some (r1, r2) := H
  have A2 := Aside0.mk A20
  clear A20
  by_cases c3 : t489 = 0
  · rw [if_pos c3] at H
    have c3b0 : (t489 == 0) = true := beq_iff_eq.mpr c3
    have c3b1 : (t489 != 0) = false := bne_eq_false_iff_eq.mpr c3
    clear c3
    have HC4 := Aside0.mk H
    clear H
    go_enter Tryd.func37, Tryd.ntmps37
    go_upto_block 0 with (first | ((with_reducible refine gate_dst (N := 6) rfl ?_); (try (refine gate_guard (by rfl) ?_; dsimp only)); refine Kd.R_lit Kd.string _ 9 ?hg (N := 6) ?hd (xs := ([a0] : List ByteArray)) (inner := [.string a0]) (ok := fun _ => True) (okp := fun _ => True) ?hr ?hp (fun _ hk => hk) trivial (Below.refl _ _) (Nat.le_refl _) (by simp) ?_; (case hd => rfl); (case hg => rfl); (case hr => first | (go_simp; done) | (go_simp; rfl)); (case hp => exact (Reps.one (show Kd.M Kd.string _ _ _ a0 [.string a0] from rfl) (Reps.none _ _))); intro v487 w5 ho6 hb hg_ hnew_; clear hg_ hnew_; (first | rw [← Ny486.out] at ho6 | (simp only [Int.reduceToNat] at ho6; rw [← Ny486.out] at ho6)); have n0_ := Aside0.mk (Kd.R_lower ho6 (below_size (by repeat (first | (with_reducible first | exact HB.out | apply below_alloc | apply pw_below_drewN | apply below_drew1) | exact HB.out)))); have n1_ := Aside0.mk (below_step (by repeat (first | (with_reducible first | exact HB.out | apply below_alloc | apply pw_below_drewN | apply below_drew1) | exact HB.out)) hb); clear HB; have HO488 := n0_; have HB := n1_; clear n0_ n1_; clear hb ho6; obtain ⟨Ao7, co7, eo7⟩ := Kd.R_slice HO488.out; subst eo7) | ((with_reducible refine gate_callee (f := 57) rfl ?_); refine goesL_ (some 7) rfl rfl Tryd.func57 (by kernel_rfl) rfl #[.slice Ao7 y486.length co7] rfl (by (try simp only [List.map_toArray, List.map_cons, List.map_nil]); first | done | rfl | (simp only [List.length_drop, List.length_take]; rfl)) ?_; (with_reducible refine (bolterref13_Checks.calls k _ _ y486 t489 _ ?side1 ?side2 A2.out).mono ?_); (case side1 => repeat (first | exact (Kd.R_reads' HO488.out).2.2 | (with_reducible refine Kd.C_alloc ?_ _) | (with_reducible refine Kd.C_drewN ?_ _) | (with_reducible refine Kd.C_drew ?_))); (case side2 => exact (Kd.R_reads' HO488.out).2.1); rintro e w8 ⟨rfl, hb⟩; refine ⟨_, rfl, ?_⟩; have n0_ := Aside0.mk (Kd.R_below (by (with_reducible repeat (first | apply Kd.R_alloc | apply Kd.R_drewN | apply Kd.R_drew)); exact HO488.out) hb); have n1_ := Aside0.mk (below_step (by repeat (first | (with_reducible first | exact HB.out | apply below_alloc | apply pw_below_drewN | apply below_drew1) | exact HB.out)) hb); clear HO488; clear HB; have HO488 := n0_; have HB := n1_; clear n0_ n1_; (try clear hb); (try clear hb2); (try clear hk); (try clear hi)))
    (try simp only [Act.put, List.setIfInBounds_toArray, List.set_cons_zero, List.set_cons_succ])
    go_cut [0] (fun v0 wc => ∃ (kq : Nat) (x0_3 : ByteArray), v0 = .string x0_3 ∧ Aside0 (bolterref13_Trim.j1 kq x0_3 = some (r1, r2)) ∧ Aside0 (kq ≤ k) ∧ Aside0 (Below w.heap.size w wc))
    case first =>
      have H := HC4.out
      clear HC4
      have H' := Aside0.mk H
      clear H
      go_wp2
      go_loopg [0] k (fun kq v0 w' => ∃ (x0_1 : ByteArray), v0 = .string x0_1 ∧ Aside0 (bolterref13_Trim.l0 kq x0_1 = some (r1, r2)) ∧ Aside0 (kq ≤ k) ∧ Aside0 (Below w.heap.size w w'))
      case atStart => exact ⟨(a0), (by first | rfl | (simp; done) | (simp [*]; done)), H', ⟨Nat.le_refl _⟩, ⟨by repeat (first | (with_reducible first | exact HB.out | apply below_alloc | apply pw_below_drewN | apply below_drew1) | exact HB.out)⟩⟩
      case round =>
        clear H'
        try clear p2
        try clear c3
        try clear c3b0
        try clear c3b1
        try clear c5
        obtain ⟨x0_1, rfl, HA, HK1, HB⟩ := hrel
        cases gk with
        | zero => exact absurd HA.out (by simp [bolterref13_Trim.l0])
        | succ k1 =>
          have H := HA.out
          clear HA
          simp only [bolterref13_Trim.l0] at H
          by_cases c9 : (x0_1.size : Int) > 0
          · rw [if_pos c9] at H
            have c9b0 : decide (0 < (x0_1.size : Int)) = true := decide_eq_true c9
            have c9b1 : decide (0 < x0_1.size) = true := decide_eq_true (by omega)
            clear c9
            (first | rw [c9b0] | (simp only [i64_w, i32_w]; rw [c9b0]) | skip)
            by_cases c10 : 0 < (x0_1.size : Int)
            · rw [if_pos c10] at H
              have c10b0 : decide (0 < (x0_1.size : Int)) = true := decide_eq_true c10
              have c10b1 : decide (0 < x0_1.size) = true := decide_eq_true (by omega)
              clear c10
              replace H := Option.bind_eq_some_iff.mp H
              obtain ⟨t490, A120, H⟩ := H
              replace H : (if t490 = true then (if 1 ≤ (x0_1.size : Int) then (bolterref13_Trim.l0 k1 (x0_1.extract 1 x0_1.size)) else (none)) else (bolterref13_Trim.j1 k1 x0_1)) = some (r1, r2) := H
              have A12 := Aside0.mk A120
              clear A120
              by_cases c13 : t490 = true
              · subst c13
                have H1 : (if 1 ≤ (x0_1.size : Int) then (bolterref13_Trim.l0 k1 (x0_1.extract 1 x0_1.size)) else (none)) = some (r1, r2) := by rw [if_pos rfl] at H; exact H
                clear H
                have H := H1
                clear H1
                by_cases c14 : 1 ≤ (x0_1.size : Int)
                · rw [if_pos c14] at H
                  have c14b0 := eq_true c14
                  have c14b1 : decide (1 ≤ (x0_1.size : Int)) = true := decide_eq_true c14
                  clear c14
                  have H' := Aside0.mk H
                  clear H
                  have p11 : 0 ≤ (0 : Int) := (by omega)
                  have q11 : 0 < x0_1.size := (by have : (0 : Int) < (x0_1.size : Int) := of_decide_eq_true (by first | (with_reducible assumption) | assumption); omega)
                  have hx11 : ∀ h : 0 < x0_1.size, ((x0_1[0]'h).toNat : Int) = bt x0_1 0 := bt_at x0_1 0
                  clear p11
                  have qi11 : (0 < (x0_1.size : Int)) = True := eq_true (of_decide_eq_true (by first | (with_reducible assumption) | assumption))
                  replace q11 := eq_true q11
                  go_wp2_with (first | (go_at_call 65; (with_reducible refine (bolterref13_blank.calls (bt x0_1 0) true _ A12.out).mono ?_); rintro e w' ⟨rfl, ⟨nd, rfl⟩⟩))
                  go_roundg k1
                  case measure => have := HK1.out; omega
                  case rel => exact ⟨(x0_1.extract 1 x0_1.size), (by first | rfl | (simp; done) | (simp [*]; done)), H', ⟨by have := HK1.out; omega⟩, ⟨by repeat (first | (with_reducible first | exact HB.out | apply below_alloc | apply pw_below_drewN | apply below_drew1) | exact HB.out)⟩⟩
                · rw [if_neg c14] at H
                  exact absurd H (by simp)
              · replace c13 := Bool.eq_false_iff.mpr c13
                subst c13
                have H1 : (bolterref13_Trim.j1 k1 x0_1) = some (r1, r2) := by rw [if_neg (show ¬ (false = true) by decide)] at H; exact H
                clear H
                have H := H1
                clear H1
                have H' := Aside0.mk H
                clear H
                have p11 : 0 ≤ (0 : Int) := (by omega)
                have q11 : 0 < x0_1.size := (by have : (0 : Int) < (x0_1.size : Int) := of_decide_eq_true (by first | (with_reducible assumption) | assumption); omega)
                have hx11 : ∀ h : 0 < x0_1.size, ((x0_1[0]'h).toNat : Int) = bt x0_1 0 := bt_at x0_1 0
                clear p11
                have qi11 : (0 < (x0_1.size : Int)) = True := eq_true (of_decide_eq_true (by first | (with_reducible assumption) | assumption))
                replace q11 := eq_true q11
                go_wp2_with (first | (go_at_call 65; (with_reducible refine (bolterref13_blank.calls (bt x0_1 0) false _ A12.out).mono ?_); rintro e w' ⟨rfl, ⟨nd, rfl⟩⟩))
                go_meet
                case rel => exact ⟨_, (x0_1), (by first | rfl | (simp; done) | (simp [*]; done)), H', ⟨by have := HK1.out; first | omega | exact Nat.le_refl _⟩, ⟨by repeat (first | (with_reducible first | exact HB.out | apply below_alloc | apply pw_below_drewN | apply below_drew1) | exact HB.out)⟩⟩
            · rw [if_neg c10] at H
              exact absurd H (by simp)
          · rw [if_neg c9] at H
            have c9b0 : decide (0 < (x0_1.size : Int)) = false := decide_eq_false c9
            have c9b1 : decide (0 < x0_1.size) = false := decide_eq_false (by omega)
            clear c9
            (first | rw [c9b0] | (simp only [i64_w, i32_w]; rw [c9b0]) | skip)
            have H' := Aside0.mk H
            clear H
            go_wp2
            go_meet
            case rel => exact ⟨_, (x0_1), (by first | rfl | (simp; done) | (simp [*]; done)), H', ⟨by have := HK1.out; first | omega | exact Nat.le_refl _⟩, ⟨by repeat (first | (with_reducible first | exact HB.out | apply below_alloc | apply pw_below_drewN | apply below_drew1) | exact HB.out)⟩⟩
    case rest =>
      clear HC4
      try clear c1
      try clear p1
      try clear q1
      try clear hx1
      try clear qi1
      try clear p2
      try clear c3
      try clear c3b0
      try clear c3b1
      try clear c5
      try clear c9
      try clear c9b0
      try clear c9b1
      try clear c10
      try clear c10b0
      try clear c10b1
      try clear p11
      try clear q11
      try clear hx11
      try clear qi11
      try clear c13
      try clear c14
      try clear c14b0
      try clear c14b1
      try clear p11
      try clear p2
      try clear q11
      obtain ⟨kq, x0_3, rfl, HA, HJ3, HB⟩ := hcut
      cases kq with
      | zero => exact absurd HA.out (by simp [bolterref13_Trim.j1])
      | succ kj3 =>
        have H := HA.out
        clear HA
        simp only [bolterref13_Trim.j1] at H
        have H' := Aside0.mk H
        clear H
        go_wp2
        go_loopg [0] kj3 (fun kq v0 w' => ∃ (x0_2 : ByteArray), v0 = .string x0_2 ∧ Aside0 (bolterref13_Trim.l1 kq x0_2 = some (r1, r2)) ∧ Aside0 (kq ≤ kj3) ∧ Aside0 (Below w.heap.size w w'))
        case atStart => exact ⟨(x0_3), (by first | rfl | (simp; done) | (simp [*]; done)), H', ⟨Nat.le_refl _⟩, ⟨by repeat (first | (with_reducible first | exact HB.out | apply below_alloc | apply pw_below_drewN | apply below_drew1) | exact HB.out)⟩⟩
        case round =>
          clear H'
          try clear c1
          try clear p1
          try clear q1
          try clear hx1
          try clear qi1
          try clear p2
          try clear c3
          try clear c3b0
          try clear c3b1
          try clear c5
          try clear c9
          try clear c9b0
          try clear c9b1
          try clear c10
          try clear c10b0
          try clear c10b1
          try clear p11
          try clear q11
          try clear hx11
          try clear qi11
          try clear c13
          try clear c14
          try clear c14b0
          try clear c14b1
          try clear p1
          try clear p11
          try clear p2
          try clear q1
          try clear q11
          obtain ⟨x0_2, rfl, HA, HK2, HB⟩ := hrel
          cases gk with
          | zero => exact absurd HA.out (by simp [bolterref13_Trim.l1])
          | succ k2 =>
            have H := HA.out
            clear HA
            simp only [bolterref13_Trim.l1] at H
            by_cases c15 : (x0_2.size : Int) > 0
            · rw [if_pos c15] at H
              have c15b0 : decide (0 < (x0_2.size : Int)) = true := decide_eq_true c15
              have c15b1 : decide (0 < x0_2.size) = true := decide_eq_true (by omega)
              clear c15
              obtain ⟨ji16, hji16⟩ : ∃ j_ : Int, (wrap64 ((x0_2.size : Int) - 1)) = j_ := ⟨_, rfl⟩
              replace H : (if 0 ≤ (ji16) then (if (ji16) < (x0_2.size : Int) then ((bolterref13_blank.f (bt x0_2 (ji16))).bind fun t491 => (if t491 = true then (if (ji16) ≤ (x0_2.size : Int) then (bolterref13_Trim.l1 k2 (x0_2.extract 0 ((ji16) : Int).toNat)) else (none)) else ((conv_bytes63.f x0_2).bind fun t492 => ((bolterref13_whole.f t492).bind fun bt495 => (some (bt495.1, bt495.2)))))) else (none)) else (none)) = some (r1, r2) := by first | (rw [hji16] at H; exact H) | (simp only [hji16] at H ⊢; exact H)
              have hji16w : (IntKind.i64.wrap ((x0_2.size : Int) - 1)) = ji16 := (i64_w _).trans hji16
              by_cases c17 : 0 ≤ (ji16)
              · rw [if_pos c17] at H
                have c17b0 : decide (0 ≤ (ji16)) = true := decide_eq_true c17
                clear c17
                by_cases c18 : (ji16) < (x0_2.size : Int)
                · rw [if_pos c18] at H
                  have c18b0 : decide ((ji16) < (x0_2.size : Int)) = true := decide_eq_true c18
                  clear c18
                  replace H := Option.bind_eq_some_iff.mp H
                  obtain ⟨t491, A200, H⟩ := H
                  replace H : (if t491 = true then (if (ji16) ≤ (x0_2.size : Int) then (bolterref13_Trim.l1 k2 (x0_2.extract 0 ((ji16) : Int).toNat)) else (none)) else ((conv_bytes63.f x0_2).bind fun t492 => ((bolterref13_whole.f t492).bind fun bt495 => (some (bt495.1, bt495.2))))) = some (r1, r2) := H
                  have A20 := Aside0.mk A200
                  clear A200
                  by_cases c21 : t491 = true
                  · subst c21
                    have H1 : (if (ji16) ≤ (x0_2.size : Int) then (bolterref13_Trim.l1 k2 (x0_2.extract 0 ((ji16) : Int).toNat)) else (none)) = some (r1, r2) := by rw [if_pos rfl] at H; exact H
                    clear H
                    have H := H1
                    clear H1
                    have c22b0 := eq_true (of_decide_eq_true (by first | (with_reducible assumption) | assumption) : 0 ≤ (ji16))
                    by_cases c23 : (ji16) ≤ (x0_2.size : Int)
                    · rw [if_pos c23] at H
                      have c23b0 := eq_true c23
                      have c23b1 : decide ((ji16) ≤ (x0_2.size : Int)) = true := decide_eq_true c23
                      clear c23
                      have H' := Aside0.mk H
                      clear H
                      have p19 : 0 ≤ ((ji16) : Int) := of_decide_eq_true (by first | (with_reducible assumption) | assumption)
                      have q19 : (ji16) < (x0_2.size : Int) := of_decide_eq_true (by first | (with_reducible assumption) | assumption)
                      have hx19 := bt_at x0_2 (ji16)
                      replace p19 := eq_true p19
                      replace q19 := eq_true q19
                      go_wp2_with (first | (go_at_call 65; (with_reducible refine (bolterref13_blank.calls (bt x0_2 (ji16)) true _ A20.out).mono ?_); rintro e w' ⟨rfl, ⟨nd, rfl⟩⟩))
                      go_roundg k2
                      case measure => have := HJ3.out; have := HK2.out; omega
                      case rel => exact ⟨(x0_2.extract 0 ((ji16) : Int).toNat), (by first | rfl | (simp; done) | (simp only [← hji16] <;> (first | rfl | simp)) | (simp [*]; done)), H', ⟨by have := HJ3.out; have := HK2.out; omega⟩, ⟨by repeat (first | (with_reducible first | exact HB.out | apply below_alloc | apply pw_below_drewN | apply below_drew1) | exact HB.out)⟩⟩
                    · rw [if_neg c23] at H
                      exact absurd H (by simp)
                  · replace c21 := Bool.eq_false_iff.mpr c21
                    subst c21
                    have H1 : ((conv_bytes63.f x0_2).bind fun t492 => ((bolterref13_whole.f t492).bind fun bt495 => (some (bt495.1, bt495.2)))) = some (r1, r2) := by rw [if_neg (show ¬ (false = true) by decide)] at H; exact H
                    clear H
                    have H := H1
                    clear H1
                    replace H := Option.bind_eq_some_iff.mp H
                    obtain ⟨t492, A240, H⟩ := H
                    replace H : ((bolterref13_whole.f t492).bind fun bt495 => (some (bt495.1, bt495.2))) = some (r1, r2) := H
                    have A24 := Aside0.mk A240
                    clear A240
                    replace H := Option.bind_eq_some_iff.mp H
                    obtain ⟨⟨t495, t496⟩, A250, H⟩ := H
                    replace H : (some (t495, t496)) = some (r1, r2) := H
                    have A25 := Aside0.mk A250
                    clear A250
                    simp only [Option.some.injEq, Prod.mk.injEq] at H
                    obtain ⟨rfl, rfl⟩ := H
                    have p19 : 0 ≤ ((ji16) : Int) := of_decide_eq_true (by first | (with_reducible assumption) | assumption)
                    have q19 : (ji16) < (x0_2.size : Int) := of_decide_eq_true (by first | (with_reducible assumption) | assumption)
                    have hx19 := bt_at x0_2 (ji16)
                    replace p19 := eq_true p19
                    replace q19 := eq_true q19
                    go_wp2_with (first | (go_at_call 65; (with_reducible refine (bolterref13_blank.calls (bt x0_2 (ji16)) false _ A20.out).mono ?_); rintro e w' ⟨rfl, ⟨nd, rfl⟩⟩) | ((with_reducible refine gate_dst (N := 38) rfl ?_); (try (refine gate_guard (by rfl) ?_; dsimp only)); refine conv_bytes63.op _ _ _ rfl rfl rfl A24.out ?_; intro v493 w26 ho0 hb; have n0_ := Aside0.mk (Kd.V_lower (Kd.V_mono (ok' := fun k_ => True) ho0 (fun k_ hk_ => trivial)) (below_size (by repeat (first | (with_reducible first | exact HB.out | apply below_alloc | apply pw_below_drewN | apply below_drew1) | exact HB.out)))); have n1_ := Aside0.mk (below_step (by repeat (first | (with_reducible first | exact HB.out | apply below_alloc | apply pw_below_drewN | apply below_drew1) | exact HB.out)) hb); clear HB; have HO494 := n0_; have HB := n1_; clear n0_ n1_; (try clear hb); (try clear hb2); (try clear hk); (try clear hi); (try clear ho0); obtain ⟨Ao27, co27, eo27⟩ := Kd.V_slice HO494.out; subst eo27) | ((with_reducible refine gate_callee (f := 60) rfl ?_); refine goesL_ (some 39) rfl rfl Tryd.func60 (by kernel_rfl) rfl #[.slice Ao27 t492.length co27] rfl (by (try simp only [List.map_toArray, List.map_cons, List.map_nil]); first | done | rfl | (simp only [List.length_drop, List.length_take]; rfl)) ?_; (with_reducible refine (bolterref13_whole.calls _ _ t492 t495 t496 _ ?side1 ?side2 A25.out).mono ?_); (case side1 => repeat (first | exact (Kd.V_reads' HO494.out).2.2 | (with_reducible refine Kd.C_alloc ?_ _) | (with_reducible refine Kd.C_drewN ?_ _) | (with_reducible refine Kd.C_drew ?_))); (case side2 => exact (Kd.V_reads' HO494.out).2.1); rintro e w' ⟨rfl, ⟨nd, rfl⟩⟩; refine ⟨_, rfl, ?_⟩))
                    go_ret2
                    exact ⟨by first | rfl | (simp [errW_none, errW_some] <;> rfl) | (simp only [← hji16]; first | rfl | (simp [errW_none, errW_some] <;> rfl)) | (simp [*, errW_none, errW_some] <;> rfl), by repeat (first | (with_reducible first | exact HB.out | apply below_alloc | apply pw_below_drewN | apply below_drew1) | exact HB.out)⟩
                · rw [if_neg c18] at H
                  exact absurd H (by simp)
              · rw [if_neg c17] at H
                exact absurd H (by simp)
            · rw [if_neg c15] at H
              have c15b0 : decide (0 < (x0_2.size : Int)) = false := decide_eq_false c15
              have c15b1 : decide (0 < x0_2.size) = false := decide_eq_false (by omega)
              clear c15
              replace H := Option.bind_eq_some_iff.mp H
              obtain ⟨t497, A280, H⟩ := H
              replace H : ((bolterref13_whole.f t497).bind fun bt500 => (some (bt500.1, bt500.2))) = some (r1, r2) := H
              have A28 := Aside0.mk A280
              clear A280
              replace H := Option.bind_eq_some_iff.mp H
              obtain ⟨⟨t500, t501⟩, A290, H⟩ := H
              replace H : (some (t500, t501)) = some (r1, r2) := H
              have A29 := Aside0.mk A290
              clear A290
              simp only [Option.some.injEq, Prod.mk.injEq] at H
              obtain ⟨rfl, rfl⟩ := H
              go_wp2_with (first | ((with_reducible refine gate_dst (N := 38) rfl ?_); (try (refine gate_guard (by rfl) ?_; dsimp only)); refine conv_bytes63.op _ _ _ rfl rfl rfl A28.out ?_; intro v498 w30 ho0 hb; have n0_ := Aside0.mk (Kd.V_lower (Kd.V_mono (ok' := fun k_ => True) ho0 (fun k_ hk_ => trivial)) (below_size (by repeat (first | (with_reducible first | exact HB.out | apply below_alloc | apply pw_below_drewN | apply below_drew1) | exact HB.out)))); have n1_ := Aside0.mk (below_step (by repeat (first | (with_reducible first | exact HB.out | apply below_alloc | apply pw_below_drewN | apply below_drew1) | exact HB.out)) hb); clear HB; have HO499 := n0_; have HB := n1_; clear n0_ n1_; (try clear hb); (try clear hb2); (try clear hk); (try clear hi); (try clear ho0); obtain ⟨Ao31, co31, eo31⟩ := Kd.V_slice HO499.out; subst eo31) | ((with_reducible refine gate_callee (f := 60) rfl ?_); refine goesL_ (some 39) rfl rfl Tryd.func60 (by kernel_rfl) rfl #[.slice Ao31 t497.length co31] rfl (by (try simp only [List.map_toArray, List.map_cons, List.map_nil]); first | done | rfl | (simp only [List.length_drop, List.length_take]; rfl)) ?_; (with_reducible refine (bolterref13_whole.calls _ _ t497 t500 t501 _ ?side1 ?side2 A29.out).mono ?_); (case side1 => repeat (first | exact (Kd.V_reads' HO499.out).2.2 | (with_reducible refine Kd.C_alloc ?_ _) | (with_reducible refine Kd.C_drewN ?_ _) | (with_reducible refine Kd.C_drew ?_))); (case side2 => exact (Kd.V_reads' HO499.out).2.1); rintro e w' ⟨rfl, ⟨nd, rfl⟩⟩; refine ⟨_, rfl, ?_⟩))
              go_ret2
              exact ⟨by first | rfl | (simp [errW_none, errW_some] <;> rfl) | (simp [*, errW_none, errW_some] <;> rfl), by repeat (first | (with_reducible first | exact HB.out | apply below_alloc | apply pw_below_drewN | apply below_drew1) | exact HB.out)⟩
  · rw [if_neg c3] at H
    have c3b0 : (t489 == 0) = false := beq_eq_false_iff_ne.mpr c3
    have c3b1 : (t489 != 0) = true := bne_iff_ne.mpr c3
    simp only [Option.some.injEq, Prod.mk.injEq] at H
    obtain ⟨rfl, rfl⟩ := H
    go_enter Tryd.func37, Tryd.ntmps37
    go_wp2_with (first | ((with_reducible refine gate_dst (N := 6) rfl ?_); (try (refine gate_guard (by rfl) ?_; dsimp only)); refine Kd.R_lit Kd.string _ 9 ?hg (N := 6) ?hd (xs := ([a0] : List ByteArray)) (inner := [.string a0]) (ok := fun _ => True) (okp := fun _ => True) ?hr ?hp (fun _ hk => hk) trivial (Below.refl _ _) (Nat.le_refl _) (by simp) ?_; (case hd => rfl); (case hg => rfl); (case hr => first | (go_simp; done) | (go_simp; rfl)); (case hp => exact (Reps.one (show Kd.M Kd.string _ _ _ a0 [.string a0] from rfl) (Reps.none _ _))); intro v487 w32 ho33 hb hg_ hnew_; clear hg_ hnew_; (first | rw [← Ny486.out] at ho33 | (simp only [Int.reduceToNat] at ho33; rw [← Ny486.out] at ho33)); have n0_ := Aside0.mk (Kd.R_lower ho33 (below_size (by repeat (first | (with_reducible first | exact HB.out | apply below_alloc | apply pw_below_drewN | apply below_drew1) | exact HB.out)))); have n1_ := Aside0.mk (below_step (by repeat (first | (with_reducible first | exact HB.out | apply below_alloc | apply pw_below_drewN | apply below_drew1) | exact HB.out)) hb); clear HB; have HO488 := n0_; have HB := n1_; clear n0_ n1_; clear hb ho33; obtain ⟨Ao34, co34, eo34⟩ := Kd.R_slice HO488.out; subst eo34) | ((with_reducible refine gate_callee (f := 57) rfl ?_); refine goesL_ (some 7) rfl rfl Tryd.func57 (by kernel_rfl) rfl #[.slice Ao34 y486.length co34] rfl (by (try simp only [List.map_toArray, List.map_cons, List.map_nil]); first | done | rfl | (simp only [List.length_drop, List.length_take]; rfl)) ?_; (with_reducible refine (bolterref13_Checks.calls k _ _ y486 t489 _ ?side1 ?side2 A2.out).mono ?_); (case side1 => repeat (first | exact (Kd.R_reads' HO488.out).2.2 | (with_reducible refine Kd.C_alloc ?_ _) | (with_reducible refine Kd.C_drewN ?_ _) | (with_reducible refine Kd.C_drew ?_))); (case side2 => exact (Kd.R_reads' HO488.out).2.1); rintro e w35 ⟨rfl, hb⟩; refine ⟨_, rfl, ?_⟩; have n0_ := Aside0.mk (Kd.R_below (by (with_reducible repeat (first | apply Kd.R_alloc | apply Kd.R_drewN | apply Kd.R_drew)); exact HO488.out) hb); have n1_ := Aside0.mk (below_step (by repeat (first | (with_reducible first | exact HB.out | apply below_alloc | apply pw_below_drewN | apply below_drew1) | exact HB.out)) hb); clear HO488; clear HB; have HO488 := n0_; have HB := n1_; clear n0_ n1_; (try clear hb); (try clear hb2); (try clear hk); (try clear hi)))
    go_ret2
    exact ⟨by first | rfl | (simp [errW_none, errW_some] <;> rfl) | (simp [*, errW_none, errW_some] <;> rfl), by repeat (first | (with_reducible first | exact HB.out | apply below_alloc | apply pw_below_drewN | apply below_drew1) | exact HB.out)⟩
def bolterlaw13_TextsTells.f (k : Nat) (l0 : List ByteArray) (a1 : ByteArray) (a2 : ByteArray) : Option (Bool) := (texts_Join.f k l0 a2).bind fun bt502 => ((bolterref13_Join.f k l0 a2).bind fun bt504 => ((texts_Split.f k a1 a2).bind fun bt506 => ((bolterref13_Split.f k a1 a2).bind fun bt510 => ((texts_Lower.f k a1).bind fun bt514 => ((bolterref13_Lower.f k a1).bind fun bt516 => ((texts_Upper.f k a1).bind fun bt518 => ((bolterref13_Upper.f k a1).bind fun bt520 => ((texts_Trim.f k a1).bind fun bt522 => ((bolterref13_Trim.f k a1).bind fun bt524 => (if bt502.1.toList = bt504.1.toList then ((bolterlaw13_num.f bt502.2).bind fun t526 => (if t526 = bt504.2 then ((bolterplain_SameStrings.f k bt506.1 bt510.1).bind fun t527 => (if t527 = true then ((bolterlaw13_num.f bt506.2).bind fun t528 => (if t528 = bt510.2 then (if bt514.1.toList = bt516.1.toList then ((bolterlaw13_num.f bt514.2).bind fun t529 => (if t529 = bt516.2 then (if bt518.1.toList = bt520.1.toList then ((bolterlaw13_num.f bt518.2).bind fun t530 => (if t530 = bt520.2 then (if bt522.1.toList = bt524.1.toList then ((bolterlaw13_num.f bt522.2).bind fun t531 => (if t531 = bt524.2 then ((bolterlaw13_alive.f k).bind fun t532 => (some t532)) else (some false))) else (some false)) else (some false))) else (some false)) else (some false))) else (some false)) else (some false))) else (some false))) else (some false))) else (some false)))))))))))
set_option maxHeartbeats 8000000 in
set_option maxRecDepth 100000 in
theorem bolterlaw13_TextsTells.calls (k : Nat) (A0 : Option Addr) (c0 : Nat) (l0 : List ByteArray) (a1 : ByteArray) (a2 : ByteArray) (r : Bool) (w : World) (hr0 : Kd.C Kd.string w A0 l0.length l0) (hc0 : l0.length ≤ c0) (hG : Aside0 (GlobG w)) (h : bolterlaw13_TextsTells.f k l0 a1 a2 = some r) (hr : r = true) :
    Calls Tryd.prog 8 #[.slice A0 l0.length c0, .string a1, .string a2] w fun e w' => e = .returned (.bool r) ∧ Below w.heap.size w w' := by
  have HR0 := Aside0.mk hr0
  have HC0 := Aside0.mk hc0
  clear hr0 hc0
  have HB := Aside0.mk (Below.refl w.heap.size w)
  have H : ((texts_Join.f k l0 a2).bind fun bt502 => ((bolterref13_Join.f k l0 a2).bind fun bt504 => ((texts_Split.f k a1 a2).bind fun bt506 => ((bolterref13_Split.f k a1 a2).bind fun bt510 => ((texts_Lower.f k a1).bind fun bt514 => ((bolterref13_Lower.f k a1).bind fun bt516 => ((texts_Upper.f k a1).bind fun bt518 => ((bolterref13_Upper.f k a1).bind fun bt520 => ((texts_Trim.f k a1).bind fun bt522 => ((bolterref13_Trim.f k a1).bind fun bt524 => (if bt502.1.toList = bt504.1.toList then ((bolterlaw13_num.f bt502.2).bind fun t526 => (if t526 = bt504.2 then ((bolterplain_SameStrings.f k bt506.1 bt510.1).bind fun t527 => (if t527 = true then ((bolterlaw13_num.f bt506.2).bind fun t528 => (if t528 = bt510.2 then (if bt514.1.toList = bt516.1.toList then ((bolterlaw13_num.f bt514.2).bind fun t529 => (if t529 = bt516.2 then (if bt518.1.toList = bt520.1.toList then ((bolterlaw13_num.f bt518.2).bind fun t530 => (if t530 = bt520.2 then (if bt522.1.toList = bt524.1.toList then ((bolterlaw13_num.f bt522.2).bind fun t531 => (if t531 = bt524.2 then ((bolterlaw13_alive.f k).bind fun t532 => (some t532)) else (some false))) else (some false)) else (some false))) else (some false)) else (some false))) else (some false)) else (some false))) else (some false))) else (some false))) else (some false)))))))))))) = some r := h
  clear h
  replace H := Option.bind_eq_some_iff.mp H
  obtain ⟨⟨t502, t503⟩, A40, H⟩ := H
  replace H : ((bolterref13_Join.f k l0 a2).bind fun bt504 => ((texts_Split.f k a1 a2).bind fun bt506 => ((bolterref13_Split.f k a1 a2).bind fun bt510 => ((texts_Lower.f k a1).bind fun bt514 => ((bolterref13_Lower.f k a1).bind fun bt516 => ((texts_Upper.f k a1).bind fun bt518 => ((bolterref13_Upper.f k a1).bind fun bt520 => ((texts_Trim.f k a1).bind fun bt522 => ((bolterref13_Trim.f k a1).bind fun bt524 => (if t502.toList = bt504.1.toList then ((bolterlaw13_num.f t503).bind fun t526 => (if t526 = bt504.2 then ((bolterplain_SameStrings.f k bt506.1 bt510.1).bind fun t527 => (if t527 = true then ((bolterlaw13_num.f bt506.2).bind fun t528 => (if t528 = bt510.2 then (if bt514.1.toList = bt516.1.toList then ((bolterlaw13_num.f bt514.2).bind fun t529 => (if t529 = bt516.2 then (if bt518.1.toList = bt520.1.toList then ((bolterlaw13_num.f bt518.2).bind fun t530 => (if t530 = bt520.2 then (if bt522.1.toList = bt524.1.toList then ((bolterlaw13_num.f bt522.2).bind fun t531 => (if t531 = bt524.2 then ((bolterlaw13_alive.f k).bind fun t532 => (some t532)) else (some false))) else (some false)) else (some false))) else (some false)) else (some false))) else (some false)) else (some false))) else (some false))) else (some false))) else (some false))))))))))) = some r := H
  have A4 := Aside0.mk A40
  clear A40
  replace H := Option.bind_eq_some_iff.mp H
  obtain ⟨⟨t504, t505⟩, A50, H⟩ := H
  replace H : ((texts_Split.f k a1 a2).bind fun bt506 => ((bolterref13_Split.f k a1 a2).bind fun bt510 => ((texts_Lower.f k a1).bind fun bt514 => ((bolterref13_Lower.f k a1).bind fun bt516 => ((texts_Upper.f k a1).bind fun bt518 => ((bolterref13_Upper.f k a1).bind fun bt520 => ((texts_Trim.f k a1).bind fun bt522 => ((bolterref13_Trim.f k a1).bind fun bt524 => (if t502.toList = t504.toList then ((bolterlaw13_num.f t503).bind fun t526 => (if t526 = t505 then ((bolterplain_SameStrings.f k bt506.1 bt510.1).bind fun t527 => (if t527 = true then ((bolterlaw13_num.f bt506.2).bind fun t528 => (if t528 = bt510.2 then (if bt514.1.toList = bt516.1.toList then ((bolterlaw13_num.f bt514.2).bind fun t529 => (if t529 = bt516.2 then (if bt518.1.toList = bt520.1.toList then ((bolterlaw13_num.f bt518.2).bind fun t530 => (if t530 = bt520.2 then (if bt522.1.toList = bt524.1.toList then ((bolterlaw13_num.f bt522.2).bind fun t531 => (if t531 = bt524.2 then ((bolterlaw13_alive.f k).bind fun t532 => (some t532)) else (some false))) else (some false)) else (some false))) else (some false)) else (some false))) else (some false)) else (some false))) else (some false))) else (some false))) else (some false)))))))))) = some r := H
  have A5 := Aside0.mk A50
  clear A50
  replace H := Option.bind_eq_some_iff.mp H
  obtain ⟨⟨t506, t507⟩, A60, H⟩ := H
  replace H : ((bolterref13_Split.f k a1 a2).bind fun bt510 => ((texts_Lower.f k a1).bind fun bt514 => ((bolterref13_Lower.f k a1).bind fun bt516 => ((texts_Upper.f k a1).bind fun bt518 => ((bolterref13_Upper.f k a1).bind fun bt520 => ((texts_Trim.f k a1).bind fun bt522 => ((bolterref13_Trim.f k a1).bind fun bt524 => (if t502.toList = t504.toList then ((bolterlaw13_num.f t503).bind fun t526 => (if t526 = t505 then ((bolterplain_SameStrings.f k t506 bt510.1).bind fun t527 => (if t527 = true then ((bolterlaw13_num.f t507).bind fun t528 => (if t528 = bt510.2 then (if bt514.1.toList = bt516.1.toList then ((bolterlaw13_num.f bt514.2).bind fun t529 => (if t529 = bt516.2 then (if bt518.1.toList = bt520.1.toList then ((bolterlaw13_num.f bt518.2).bind fun t530 => (if t530 = bt520.2 then (if bt522.1.toList = bt524.1.toList then ((bolterlaw13_num.f bt522.2).bind fun t531 => (if t531 = bt524.2 then ((bolterlaw13_alive.f k).bind fun t532 => (some t532)) else (some false))) else (some false)) else (some false))) else (some false)) else (some false))) else (some false)) else (some false))) else (some false))) else (some false))) else (some false))))))))) = some r := H
  have A6 := Aside0.mk A60
  clear A60
  replace H := Option.bind_eq_some_iff.mp H
  obtain ⟨⟨t510, t511⟩, A70, H⟩ := H
  replace H : ((texts_Lower.f k a1).bind fun bt514 => ((bolterref13_Lower.f k a1).bind fun bt516 => ((texts_Upper.f k a1).bind fun bt518 => ((bolterref13_Upper.f k a1).bind fun bt520 => ((texts_Trim.f k a1).bind fun bt522 => ((bolterref13_Trim.f k a1).bind fun bt524 => (if t502.toList = t504.toList then ((bolterlaw13_num.f t503).bind fun t526 => (if t526 = t505 then ((bolterplain_SameStrings.f k t506 t510).bind fun t527 => (if t527 = true then ((bolterlaw13_num.f t507).bind fun t528 => (if t528 = t511 then (if bt514.1.toList = bt516.1.toList then ((bolterlaw13_num.f bt514.2).bind fun t529 => (if t529 = bt516.2 then (if bt518.1.toList = bt520.1.toList then ((bolterlaw13_num.f bt518.2).bind fun t530 => (if t530 = bt520.2 then (if bt522.1.toList = bt524.1.toList then ((bolterlaw13_num.f bt522.2).bind fun t531 => (if t531 = bt524.2 then ((bolterlaw13_alive.f k).bind fun t532 => (some t532)) else (some false))) else (some false)) else (some false))) else (some false)) else (some false))) else (some false)) else (some false))) else (some false))) else (some false))) else (some false)))))))) = some r := H
  have A7 := Aside0.mk A70
  clear A70
  replace H := Option.bind_eq_some_iff.mp H
  obtain ⟨⟨t514, t515⟩, A80, H⟩ := H
  replace H : ((bolterref13_Lower.f k a1).bind fun bt516 => ((texts_Upper.f k a1).bind fun bt518 => ((bolterref13_Upper.f k a1).bind fun bt520 => ((texts_Trim.f k a1).bind fun bt522 => ((bolterref13_Trim.f k a1).bind fun bt524 => (if t502.toList = t504.toList then ((bolterlaw13_num.f t503).bind fun t526 => (if t526 = t505 then ((bolterplain_SameStrings.f k t506 t510).bind fun t527 => (if t527 = true then ((bolterlaw13_num.f t507).bind fun t528 => (if t528 = t511 then (if t514.toList = bt516.1.toList then ((bolterlaw13_num.f t515).bind fun t529 => (if t529 = bt516.2 then (if bt518.1.toList = bt520.1.toList then ((bolterlaw13_num.f bt518.2).bind fun t530 => (if t530 = bt520.2 then (if bt522.1.toList = bt524.1.toList then ((bolterlaw13_num.f bt522.2).bind fun t531 => (if t531 = bt524.2 then ((bolterlaw13_alive.f k).bind fun t532 => (some t532)) else (some false))) else (some false)) else (some false))) else (some false)) else (some false))) else (some false)) else (some false))) else (some false))) else (some false))) else (some false))))))) = some r := H
  have A8 := Aside0.mk A80
  clear A80
  replace H := Option.bind_eq_some_iff.mp H
  obtain ⟨⟨t516, t517⟩, A90, H⟩ := H
  replace H : ((texts_Upper.f k a1).bind fun bt518 => ((bolterref13_Upper.f k a1).bind fun bt520 => ((texts_Trim.f k a1).bind fun bt522 => ((bolterref13_Trim.f k a1).bind fun bt524 => (if t502.toList = t504.toList then ((bolterlaw13_num.f t503).bind fun t526 => (if t526 = t505 then ((bolterplain_SameStrings.f k t506 t510).bind fun t527 => (if t527 = true then ((bolterlaw13_num.f t507).bind fun t528 => (if t528 = t511 then (if t514.toList = t516.toList then ((bolterlaw13_num.f t515).bind fun t529 => (if t529 = t517 then (if bt518.1.toList = bt520.1.toList then ((bolterlaw13_num.f bt518.2).bind fun t530 => (if t530 = bt520.2 then (if bt522.1.toList = bt524.1.toList then ((bolterlaw13_num.f bt522.2).bind fun t531 => (if t531 = bt524.2 then ((bolterlaw13_alive.f k).bind fun t532 => (some t532)) else (some false))) else (some false)) else (some false))) else (some false)) else (some false))) else (some false)) else (some false))) else (some false))) else (some false))) else (some false)))))) = some r := H
  have A9 := Aside0.mk A90
  clear A90
  replace H := Option.bind_eq_some_iff.mp H
  obtain ⟨⟨t518, t519⟩, A100, H⟩ := H
  replace H : ((bolterref13_Upper.f k a1).bind fun bt520 => ((texts_Trim.f k a1).bind fun bt522 => ((bolterref13_Trim.f k a1).bind fun bt524 => (if t502.toList = t504.toList then ((bolterlaw13_num.f t503).bind fun t526 => (if t526 = t505 then ((bolterplain_SameStrings.f k t506 t510).bind fun t527 => (if t527 = true then ((bolterlaw13_num.f t507).bind fun t528 => (if t528 = t511 then (if t514.toList = t516.toList then ((bolterlaw13_num.f t515).bind fun t529 => (if t529 = t517 then (if t518.toList = bt520.1.toList then ((bolterlaw13_num.f t519).bind fun t530 => (if t530 = bt520.2 then (if bt522.1.toList = bt524.1.toList then ((bolterlaw13_num.f bt522.2).bind fun t531 => (if t531 = bt524.2 then ((bolterlaw13_alive.f k).bind fun t532 => (some t532)) else (some false))) else (some false)) else (some false))) else (some false)) else (some false))) else (some false)) else (some false))) else (some false))) else (some false))) else (some false))))) = some r := H
  have A10 := Aside0.mk A100
  clear A100
  replace H := Option.bind_eq_some_iff.mp H
  obtain ⟨⟨t520, t521⟩, A110, H⟩ := H
  replace H : ((texts_Trim.f k a1).bind fun bt522 => ((bolterref13_Trim.f k a1).bind fun bt524 => (if t502.toList = t504.toList then ((bolterlaw13_num.f t503).bind fun t526 => (if t526 = t505 then ((bolterplain_SameStrings.f k t506 t510).bind fun t527 => (if t527 = true then ((bolterlaw13_num.f t507).bind fun t528 => (if t528 = t511 then (if t514.toList = t516.toList then ((bolterlaw13_num.f t515).bind fun t529 => (if t529 = t517 then (if t518.toList = t520.toList then ((bolterlaw13_num.f t519).bind fun t530 => (if t530 = t521 then (if bt522.1.toList = bt524.1.toList then ((bolterlaw13_num.f bt522.2).bind fun t531 => (if t531 = bt524.2 then ((bolterlaw13_alive.f k).bind fun t532 => (some t532)) else (some false))) else (some false)) else (some false))) else (some false)) else (some false))) else (some false)) else (some false))) else (some false))) else (some false))) else (some false)))) = some r := H
  have A11 := Aside0.mk A110
  clear A110
  replace H := Option.bind_eq_some_iff.mp H
  obtain ⟨⟨t522, t523⟩, A120, H⟩ := H
  replace H : ((bolterref13_Trim.f k a1).bind fun bt524 => (if t502.toList = t504.toList then ((bolterlaw13_num.f t503).bind fun t526 => (if t526 = t505 then ((bolterplain_SameStrings.f k t506 t510).bind fun t527 => (if t527 = true then ((bolterlaw13_num.f t507).bind fun t528 => (if t528 = t511 then (if t514.toList = t516.toList then ((bolterlaw13_num.f t515).bind fun t529 => (if t529 = t517 then (if t518.toList = t520.toList then ((bolterlaw13_num.f t519).bind fun t530 => (if t530 = t521 then (if t522.toList = bt524.1.toList then ((bolterlaw13_num.f t523).bind fun t531 => (if t531 = bt524.2 then ((bolterlaw13_alive.f k).bind fun t532 => (some t532)) else (some false))) else (some false)) else (some false))) else (some false)) else (some false))) else (some false)) else (some false))) else (some false))) else (some false))) else (some false))) = some r := H
  have A12 := Aside0.mk A120
  clear A120
  replace H := Option.bind_eq_some_iff.mp H
  obtain ⟨⟨t524, t525⟩, A130, H⟩ := H
  replace H : (if t502.toList = t504.toList then ((bolterlaw13_num.f t503).bind fun t526 => (if t526 = t505 then ((bolterplain_SameStrings.f k t506 t510).bind fun t527 => (if t527 = true then ((bolterlaw13_num.f t507).bind fun t528 => (if t528 = t511 then (if t514.toList = t516.toList then ((bolterlaw13_num.f t515).bind fun t529 => (if t529 = t517 then (if t518.toList = t520.toList then ((bolterlaw13_num.f t519).bind fun t530 => (if t530 = t521 then (if t522.toList = t524.toList then ((bolterlaw13_num.f t523).bind fun t531 => (if t531 = t525 then ((bolterlaw13_alive.f k).bind fun t532 => (some t532)) else (some false))) else (some false)) else (some false))) else (some false)) else (some false))) else (some false)) else (some false))) else (some false))) else (some false))) else (some false)) = some r := H
  have A13 := Aside0.mk A130
  clear A130
  by_cases c14 : t502.toList = t504.toList
  · rw [if_pos c14] at H
    have c14b0 : (t502.toList == t504.toList) = true := beq_iff_eq.mpr c14
    have c14b1 : (t502.toList != t504.toList) = false := bne_eq_false_iff_eq.mpr c14
    clear c14
    replace H := Option.bind_eq_some_iff.mp H
    obtain ⟨t526, A150, H⟩ := H
    replace H : (if t526 = t505 then ((bolterplain_SameStrings.f k t506 t510).bind fun t527 => (if t527 = true then ((bolterlaw13_num.f t507).bind fun t528 => (if t528 = t511 then (if t514.toList = t516.toList then ((bolterlaw13_num.f t515).bind fun t529 => (if t529 = t517 then (if t518.toList = t520.toList then ((bolterlaw13_num.f t519).bind fun t530 => (if t530 = t521 then (if t522.toList = t524.toList then ((bolterlaw13_num.f t523).bind fun t531 => (if t531 = t525 then ((bolterlaw13_alive.f k).bind fun t532 => (some t532)) else (some false))) else (some false)) else (some false))) else (some false)) else (some false))) else (some false)) else (some false))) else (some false))) else (some false)) = some r := H
    have A15 := Aside0.mk A150
    clear A150
    by_cases c16 : t526 = t505
    · rw [if_pos c16] at H
      have c16b0 : (t526 == t505) = true := beq_iff_eq.mpr c16
      have c16b1 : (t526 != t505) = false := bne_eq_false_iff_eq.mpr c16
      clear c16
      replace H := Option.bind_eq_some_iff.mp H
      obtain ⟨t527, A170, H⟩ := H
      replace H : (if t527 = true then ((bolterlaw13_num.f t507).bind fun t528 => (if t528 = t511 then (if t514.toList = t516.toList then ((bolterlaw13_num.f t515).bind fun t529 => (if t529 = t517 then (if t518.toList = t520.toList then ((bolterlaw13_num.f t519).bind fun t530 => (if t530 = t521 then (if t522.toList = t524.toList then ((bolterlaw13_num.f t523).bind fun t531 => (if t531 = t525 then ((bolterlaw13_alive.f k).bind fun t532 => (some t532)) else (some false))) else (some false)) else (some false))) else (some false)) else (some false))) else (some false)) else (some false))) else (some false)) = some r := H
      have A17 := Aside0.mk A170
      clear A170
      by_cases c18 : t527 = true
      · subst c18
        have H1 : ((bolterlaw13_num.f t507).bind fun t528 => (if t528 = t511 then (if t514.toList = t516.toList then ((bolterlaw13_num.f t515).bind fun t529 => (if t529 = t517 then (if t518.toList = t520.toList then ((bolterlaw13_num.f t519).bind fun t530 => (if t530 = t521 then (if t522.toList = t524.toList then ((bolterlaw13_num.f t523).bind fun t531 => (if t531 = t525 then ((bolterlaw13_alive.f k).bind fun t532 => (some t532)) else (some false))) else (some false)) else (some false))) else (some false)) else (some false))) else (some false)) else (some false))) = some r := by rw [if_pos rfl] at H; exact H
        clear H
        have H := H1
        clear H1
        replace H := Option.bind_eq_some_iff.mp H
        obtain ⟨t528, A190, H⟩ := H
        replace H : (if t528 = t511 then (if t514.toList = t516.toList then ((bolterlaw13_num.f t515).bind fun t529 => (if t529 = t517 then (if t518.toList = t520.toList then ((bolterlaw13_num.f t519).bind fun t530 => (if t530 = t521 then (if t522.toList = t524.toList then ((bolterlaw13_num.f t523).bind fun t531 => (if t531 = t525 then ((bolterlaw13_alive.f k).bind fun t532 => (some t532)) else (some false))) else (some false)) else (some false))) else (some false)) else (some false))) else (some false)) else (some false)) = some r := H
        have A19 := Aside0.mk A190
        clear A190
        by_cases c20 : t528 = t511
        · rw [if_pos c20] at H
          have c20b0 : (t528 == t511) = true := beq_iff_eq.mpr c20
          have c20b1 : (t528 != t511) = false := bne_eq_false_iff_eq.mpr c20
          clear c20
          by_cases c21 : t514.toList = t516.toList
          · rw [if_pos c21] at H
            have c21b0 : (t514.toList == t516.toList) = true := beq_iff_eq.mpr c21
            have c21b1 : (t514.toList != t516.toList) = false := bne_eq_false_iff_eq.mpr c21
            clear c21
            replace H := Option.bind_eq_some_iff.mp H
            obtain ⟨t529, A220, H⟩ := H
            replace H : (if t529 = t517 then (if t518.toList = t520.toList then ((bolterlaw13_num.f t519).bind fun t530 => (if t530 = t521 then (if t522.toList = t524.toList then ((bolterlaw13_num.f t523).bind fun t531 => (if t531 = t525 then ((bolterlaw13_alive.f k).bind fun t532 => (some t532)) else (some false))) else (some false)) else (some false))) else (some false)) else (some false)) = some r := H
            have A22 := Aside0.mk A220
            clear A220
            by_cases c23 : t529 = t517
            · rw [if_pos c23] at H
              have c23b0 : (t529 == t517) = true := beq_iff_eq.mpr c23
              have c23b1 : (t529 != t517) = false := bne_eq_false_iff_eq.mpr c23
              clear c23
              by_cases c24 : t518.toList = t520.toList
              · rw [if_pos c24] at H
                have c24b0 : (t518.toList == t520.toList) = true := beq_iff_eq.mpr c24
                have c24b1 : (t518.toList != t520.toList) = false := bne_eq_false_iff_eq.mpr c24
                clear c24
                replace H := Option.bind_eq_some_iff.mp H
                obtain ⟨t530, A250, H⟩ := H
                replace H : (if t530 = t521 then (if t522.toList = t524.toList then ((bolterlaw13_num.f t523).bind fun t531 => (if t531 = t525 then ((bolterlaw13_alive.f k).bind fun t532 => (some t532)) else (some false))) else (some false)) else (some false)) = some r := H
                have A25 := Aside0.mk A250
                clear A250
                by_cases c26 : t530 = t521
                · rw [if_pos c26] at H
                  have c26b0 : (t530 == t521) = true := beq_iff_eq.mpr c26
                  have c26b1 : (t530 != t521) = false := bne_eq_false_iff_eq.mpr c26
                  clear c26
                  by_cases c27 : t522.toList = t524.toList
                  · rw [if_pos c27] at H
                    have c27b0 : (t522.toList == t524.toList) = true := beq_iff_eq.mpr c27
                    have c27b1 : (t522.toList != t524.toList) = false := bne_eq_false_iff_eq.mpr c27
                    clear c27
                    replace H := Option.bind_eq_some_iff.mp H
                    obtain ⟨t531, A280, H⟩ := H
                    replace H : (if t531 = t525 then ((bolterlaw13_alive.f k).bind fun t532 => (some t532)) else (some false)) = some r := H
                    have A28 := Aside0.mk A280
                    clear A280
                    by_cases c29 : t531 = t525
                    · rw [if_pos c29] at H
                      have c29b0 : (t531 == t525) = true := beq_iff_eq.mpr c29
                      have c29b1 : (t531 != t525) = false := bne_eq_false_iff_eq.mpr c29
                      clear c29
                      replace H := Option.bind_eq_some_iff.mp H
                      obtain ⟨t532, A300, H⟩ := H
                      replace H : (some t532) = some r := H
                      have A30 := Aside0.mk A300
                      clear A300
                      obtain rfl := Option.some.inj H
                      go_enter Tryd.func8, Tryd.ntmps8
                      go_wp2_with (first | ((with_reducible refine gate_callee (f := 15) rfl ?_); refine goesL_ (some 30) rfl rfl Tryd.func15 (by kernel_rfl) rfl #[.slice A0 l0.length c0, .string a2] rfl (by (try simp only [List.map_toArray, List.map_cons, List.map_nil]); first | done | rfl | (simp only [List.length_drop, List.length_take]; rfl)) ?_; (with_reducible refine (texts_Join.calls k _ _ l0 a2 t502 t503 _ ?side1 ?side2 ?side3 A4.out).mono ?_); (case side1 => repeat (first | exact HR0.out | (with_reducible refine Kd.C_alloc ?_ _) | (with_reducible refine Kd.C_drewN ?_ _) | (with_reducible refine Kd.C_drew ?_))); (case side2 => exact HC0.out); (case side3 => exact Aside0.mk (GlobG.below (by repeat (first | (with_reducible first | exact HB.out | apply below_alloc | apply pw_below_drewN | apply below_drew1) | exact HB.out)) hG.out)); rintro e w31 ⟨rfl, hb⟩; refine ⟨_, rfl, ?_⟩; have n0_ := Aside0.mk (below_step (by repeat (first | (with_reducible first | exact HB.out | apply below_alloc | apply pw_below_drewN | apply below_drew1) | exact HB.out)) hb); clear HB; have HB := n0_; clear n0_; (try clear hb); (try clear hb2); (try clear hk); (try clear hi)) | ((with_reducible refine gate_callee (f := 32) rfl ?_); refine goesL_ (some 36) rfl rfl Tryd.func32 (by kernel_rfl) rfl #[.slice A0 l0.length c0, .string a2] rfl (by (try simp only [List.map_toArray, List.map_cons, List.map_nil]); first | done | rfl | (simp only [List.length_drop, List.length_take]; rfl)) ?_; (with_reducible refine (bolterref13_Join.calls k _ _ l0 a2 t504 t505 _ ?side1 ?side2 A5.out).mono ?_); (case side1 => repeat (first | exact (Kd.C_below HR0.out HB.out) | (with_reducible refine Kd.C_alloc ?_ _) | (with_reducible refine Kd.C_drewN ?_ _) | (with_reducible refine Kd.C_drew ?_))); (case side2 => exact HC0.out); rintro e w32 ⟨rfl, hb⟩; refine ⟨_, rfl, ?_⟩; have n0_ := Aside0.mk (below_step (by repeat (first | (with_reducible first | exact HB.out | apply below_alloc | apply pw_below_drewN | apply below_drew1) | exact HB.out)) hb); clear HB; have HB := n0_; clear n0_; (try clear hb); (try clear hb2); (try clear hk); (try clear hi)) | ((with_reducible refine gate_callee (f := 14) rfl ?_); refine goesL_ (some 42) rfl rfl Tryd.func14 (by kernel_rfl) rfl #[.string a1, .string a2] rfl (by (try simp only [List.map_toArray, List.map_cons, List.map_nil]); first | done | rfl | (simp only [List.length_drop, List.length_take]; rfl)) ?_; (with_reducible refine (texts_Split.calls k a1 a2 t506 t507 _ ?side1 A6.out).mono ?_); (case side1 => exact Aside0.mk (GlobG.below (by repeat (first | (with_reducible first | exact HB.out | apply below_alloc | apply pw_below_drewN | apply below_drew1) | exact HB.out)) hG.out)); rintro e w33 ⟨v508, rfl, ho0, hb⟩; refine ⟨_, rfl, ?_⟩; have n0_ := Aside0.mk (Kd.R_lower ho0 (below_size (by repeat (first | (with_reducible first | exact HB.out | apply below_alloc | apply pw_below_drewN | apply below_drew1) | exact HB.out)))); have n1_ := Aside0.mk (below_step (by repeat (first | (with_reducible first | exact HB.out | apply below_alloc | apply pw_below_drewN | apply below_drew1) | exact HB.out)) hb); clear HB; have HO509 := n0_; have HB := n1_; clear n0_ n1_; (try clear hb); (try clear hb2); (try clear hk); (try clear hi); (try clear ho0)) | ((with_reducible refine gate_callee (f := 33) rfl ?_); refine goesL_ (some 48) rfl rfl Tryd.func33 (by kernel_rfl) rfl #[.string a1, .string a2] rfl (by (try simp only [List.map_toArray, List.map_cons, List.map_nil]); first | done | rfl | (simp only [List.length_drop, List.length_take]; rfl)) ?_; (with_reducible refine (bolterref13_Split.calls k a1 a2 t510 t511 _ A7.out).mono ?_); rintro e w34 ⟨v512, rfl, ho0, hb⟩; refine ⟨_, rfl, ?_⟩; have n0_ := Aside0.mk (Kd.R_elder' (by (with_reducible repeat (first | apply Kd.R_alloc | apply Kd.R_drewN | apply Kd.R_drew)); exact HO509.out) (Kd.R_base ho0) hb); have n1_ := Aside0.mk (Kd.R_lower (Kd.R_new' ho0 (Kd.R_lt (by (with_reducible repeat (first | apply Kd.R_alloc | apply Kd.R_drewN | apply Kd.R_drew)); exact HO509.out))) (below_size (by repeat (first | (with_reducible first | exact HB.out | apply below_alloc | apply pw_below_drewN | apply below_drew1) | exact HB.out)))); have n2_ := Aside0.mk (below_step (by repeat (first | (with_reducible first | exact HB.out | apply below_alloc | apply pw_below_drewN | apply below_drew1) | exact HB.out)) hb); clear HO509; clear HB; have HO509 := n0_; have HO513 := n1_; have HB := n2_; clear n0_ n1_ n2_; (try clear hb); (try clear hb2); (try clear hk); (try clear hi); (try clear ho0)) | ((with_reducible refine gate_callee (f := 11) rfl ?_); refine goesL_ (some 53) rfl rfl Tryd.func11 (by kernel_rfl) rfl #[.string a1] rfl (by (try simp only [List.map_toArray, List.map_cons, List.map_nil]); first | done | rfl | (simp only [List.length_drop, List.length_take]; rfl)) ?_; (with_reducible refine (texts_Lower.calls k a1 t514 t515 _ ?side1 A8.out).mono ?_); (case side1 => exact Aside0.mk (GlobG.below (by repeat (first | (with_reducible first | exact HB.out | apply below_alloc | apply pw_below_drewN | apply below_drew1) | exact HB.out)) hG.out)); rintro e w35 ⟨rfl, hb⟩; refine ⟨_, rfl, ?_⟩; have n0_ := Aside0.mk (Kd.R_below (by (with_reducible repeat (first | apply Kd.R_alloc | apply Kd.R_drewN | apply Kd.R_drew)); exact HO509.out) hb); have n1_ := Aside0.mk (Kd.R_below (by (with_reducible repeat (first | apply Kd.R_alloc | apply Kd.R_drewN | apply Kd.R_drew)); exact HO513.out) hb); have n2_ := Aside0.mk (below_step (by repeat (first | (with_reducible first | exact HB.out | apply below_alloc | apply pw_below_drewN | apply below_drew1) | exact HB.out)) hb); clear HO509; clear HO513; clear HB; have HO509 := n0_; have HO513 := n1_; have HB := n2_; clear n0_ n1_ n2_; (try clear hb); (try clear hb2); (try clear hk); (try clear hi)) | ((with_reducible refine gate_callee (f := 34) rfl ?_); refine goesL_ (some 58) rfl rfl Tryd.func34 (by kernel_rfl) rfl #[.string a1] rfl (by (try simp only [List.map_toArray, List.map_cons, List.map_nil]); first | done | rfl | (simp only [List.length_drop, List.length_take]; rfl)) ?_; (with_reducible refine (bolterref13_Lower.calls k a1 t516 t517 _ A9.out).mono ?_); rintro e w36 ⟨rfl, hb⟩; refine ⟨_, rfl, ?_⟩; have n0_ := Aside0.mk (Kd.R_below (by (with_reducible repeat (first | apply Kd.R_alloc | apply Kd.R_drewN | apply Kd.R_drew)); exact HO509.out) hb); have n1_ := Aside0.mk (Kd.R_below (by (with_reducible repeat (first | apply Kd.R_alloc | apply Kd.R_drewN | apply Kd.R_drew)); exact HO513.out) hb); have n2_ := Aside0.mk (below_step (by repeat (first | (with_reducible first | exact HB.out | apply below_alloc | apply pw_below_drewN | apply below_drew1) | exact HB.out)) hb); clear HO509; clear HO513; clear HB; have HO509 := n0_; have HO513 := n1_; have HB := n2_; clear n0_ n1_ n2_; (try clear hb); (try clear hb2); (try clear hk); (try clear hi)) | ((with_reducible refine gate_callee (f := 12) rfl ?_); refine goesL_ (some 63) rfl rfl Tryd.func12 (by kernel_rfl) rfl #[.string a1] rfl (by (try simp only [List.map_toArray, List.map_cons, List.map_nil]); first | done | rfl | (simp only [List.length_drop, List.length_take]; rfl)) ?_; (with_reducible refine (texts_Upper.calls k a1 t518 t519 _ ?side1 A10.out).mono ?_); (case side1 => exact Aside0.mk (GlobG.below (by repeat (first | (with_reducible first | exact HB.out | apply below_alloc | apply pw_below_drewN | apply below_drew1) | exact HB.out)) hG.out)); rintro e w37 ⟨rfl, hb⟩; refine ⟨_, rfl, ?_⟩; have n0_ := Aside0.mk (Kd.R_below (by (with_reducible repeat (first | apply Kd.R_alloc | apply Kd.R_drewN | apply Kd.R_drew)); exact HO509.out) hb); have n1_ := Aside0.mk (Kd.R_below (by (with_reducible repeat (first | apply Kd.R_alloc | apply Kd.R_drewN | apply Kd.R_drew)); exact HO513.out) hb); have n2_ := Aside0.mk (below_step (by repeat (first | (with_reducible first | exact HB.out | apply below_alloc | apply pw_below_drewN | apply below_drew1) | exact HB.out)) hb); clear HO509; clear HO513; clear HB; have HO509 := n0_; have HO513 := n1_; have HB := n2_; clear n0_ n1_ n2_; (try clear hb); (try clear hb2); (try clear hk); (try clear hi)) | ((with_reducible refine gate_callee (f := 35) rfl ?_); refine goesL_ (some 68) rfl rfl Tryd.func35 (by kernel_rfl) rfl #[.string a1] rfl (by (try simp only [List.map_toArray, List.map_cons, List.map_nil]); first | done | rfl | (simp only [List.length_drop, List.length_take]; rfl)) ?_; (with_reducible refine (bolterref13_Upper.calls k a1 t520 t521 _ A11.out).mono ?_); rintro e w38 ⟨rfl, hb⟩; refine ⟨_, rfl, ?_⟩; have n0_ := Aside0.mk (Kd.R_below (by (with_reducible repeat (first | apply Kd.R_alloc | apply Kd.R_drewN | apply Kd.R_drew)); exact HO509.out) hb); have n1_ := Aside0.mk (Kd.R_below (by (with_reducible repeat (first | apply Kd.R_alloc | apply Kd.R_drewN | apply Kd.R_drew)); exact HO513.out) hb); have n2_ := Aside0.mk (below_step (by repeat (first | (with_reducible first | exact HB.out | apply below_alloc | apply pw_below_drewN | apply below_drew1) | exact HB.out)) hb); clear HO509; clear HO513; clear HB; have HO509 := n0_; have HO513 := n1_; have HB := n2_; clear n0_ n1_ n2_; (try clear hb); (try clear hb2); (try clear hk); (try clear hi)) | ((with_reducible refine gate_callee (f := 36) rfl ?_); refine goesL_ (some 73) rfl rfl Tryd.func36 (by kernel_rfl) rfl #[.string a1] rfl (by (try simp only [List.map_toArray, List.map_cons, List.map_nil]); first | done | rfl | (simp only [List.length_drop, List.length_take]; rfl)) ?_; (with_reducible refine (texts_Trim.calls k a1 t522 t523 _ ?side1 A12.out).mono ?_); (case side1 => exact Aside0.mk (GlobG.below (by repeat (first | (with_reducible first | exact HB.out | apply below_alloc | apply pw_below_drewN | apply below_drew1) | exact HB.out)) hG.out)); rintro e w39 ⟨rfl, hb⟩; refine ⟨_, rfl, ?_⟩; have n0_ := Aside0.mk (Kd.R_below (by (with_reducible repeat (first | apply Kd.R_alloc | apply Kd.R_drewN | apply Kd.R_drew)); exact HO509.out) hb); have n1_ := Aside0.mk (Kd.R_below (by (with_reducible repeat (first | apply Kd.R_alloc | apply Kd.R_drewN | apply Kd.R_drew)); exact HO513.out) hb); have n2_ := Aside0.mk (below_step (by repeat (first | (with_reducible first | exact HB.out | apply below_alloc | apply pw_below_drewN | apply below_drew1) | exact HB.out)) hb); clear HO509; clear HO513; clear HB; have HO509 := n0_; have HO513 := n1_; have HB := n2_; clear n0_ n1_ n2_; (try clear hb); (try clear hb2); (try clear hk); (try clear hi)) | ((with_reducible refine gate_callee (f := 37) rfl ?_); refine goesL_ (some 78) rfl rfl Tryd.func37 (by kernel_rfl) rfl #[.string a1] rfl (by (try simp only [List.map_toArray, List.map_cons, List.map_nil]); first | done | rfl | (simp only [List.length_drop, List.length_take]; rfl)) ?_; (with_reducible refine (bolterref13_Trim.calls k a1 t524 t525 _ A13.out).mono ?_); rintro e w40 ⟨rfl, hb⟩; refine ⟨_, rfl, ?_⟩; have n0_ := Aside0.mk (Kd.R_below (by (with_reducible repeat (first | apply Kd.R_alloc | apply Kd.R_drewN | apply Kd.R_drew)); exact HO509.out) hb); have n1_ := Aside0.mk (Kd.R_below (by (with_reducible repeat (first | apply Kd.R_alloc | apply Kd.R_drewN | apply Kd.R_drew)); exact HO513.out) hb); have n2_ := Aside0.mk (below_step (by repeat (first | (with_reducible first | exact HB.out | apply below_alloc | apply pw_below_drewN | apply below_drew1) | exact HB.out)) hb); clear HO509; clear HO513; clear HB; have HO509 := n0_; have HO513 := n1_; have HB := n2_; clear n0_ n1_ n2_; (try clear hb); (try clear hb2); (try clear hk); (try clear hi)) | (go_at_call 13; (with_reducible refine (bolterlaw13_num.calls t503 t526 _ A15.out).mono ?_); rintro e w' ⟨rfl, ⟨nd, rfl⟩⟩; obtain ⟨Ao41, co41, eo41⟩ := Kd.R_slice HO509.out; subst eo41; obtain ⟨Ao42, co42, eo42⟩ := Kd.R_slice HO513.out; subst eo42) | (go_at_call 31; (with_reducible refine (bolterplain_SameStrings.calls k _ _ t506 _ _ t510 true _ ?side1 ?side2 ?side3 ?side4 A17.out).mono ?_); (case side1 => repeat (first | exact (Kd.R_reads' HO509.out).2.2 | (with_reducible refine Kd.C_alloc ?_ _) | (with_reducible refine Kd.C_drewN ?_ _) | (with_reducible refine Kd.C_drew ?_))); (case side2 => exact (Kd.R_reads' HO509.out).2.1); (case side3 => repeat (first | exact (Kd.R_reads' HO513.out).2.2 | (with_reducible refine Kd.C_alloc ?_ _) | (with_reducible refine Kd.C_drewN ?_ _) | (with_reducible refine Kd.C_drew ?_))); (case side4 => exact (Kd.R_reads' HO513.out).2.1); rintro e w' ⟨rfl, ⟨nd, rfl⟩⟩) | (go_at_call 13; (with_reducible refine (bolterlaw13_num.calls t507 t528 _ A19.out).mono ?_); rintro e w' ⟨rfl, ⟨nd, rfl⟩⟩) | (go_at_call 13; (with_reducible refine (bolterlaw13_num.calls t515 t529 _ A22.out).mono ?_); rintro e w' ⟨rfl, ⟨nd, rfl⟩⟩) | (go_at_call 13; (with_reducible refine (bolterlaw13_num.calls t519 t530 _ A25.out).mono ?_); rintro e w' ⟨rfl, ⟨nd, rfl⟩⟩) | (go_at_call 13; (with_reducible refine (bolterlaw13_num.calls t523 t531 _ A28.out).mono ?_); rintro e w' ⟨rfl, ⟨nd, rfl⟩⟩) | (go_at_call 10; (with_reducible refine (bolterlaw13_alive.calls k  t532 _ ?side1 A30.out).mono ?_); (case side1 => exact Aside0.mk (GlobG.below (by repeat (first | (with_reducible first | exact HB.out | apply below_alloc | apply pw_below_drewN | apply below_drew1) | exact HB.out)) hG.out)); rintro e w43 ⟨rfl, hb⟩; have n0_ := Aside0.mk (Kd.R_below (by (with_reducible repeat (first | apply Kd.R_alloc | apply Kd.R_drewN | apply Kd.R_drew)); exact HO509.out) hb); have n1_ := Aside0.mk (Kd.R_below (by (with_reducible repeat (first | apply Kd.R_alloc | apply Kd.R_drewN | apply Kd.R_drew)); exact HO513.out) hb); have n2_ := Aside0.mk (below_step (by repeat (first | (with_reducible first | exact HB.out | apply below_alloc | apply pw_below_drewN | apply below_drew1) | exact HB.out)) hb); clear HO509; clear HO513; clear HB; have HO509 := n0_; have HO513 := n1_; have HB := n2_; clear n0_ n1_ n2_; (try clear hb); (try clear hb2); (try clear hk); (try clear hi)))
                      go_ret
                      exact ⟨by first | rfl | (simp [errW_none, errW_some] <;> rfl) | (simp [*, errW_none, errW_some] <;> rfl), by repeat (first | (with_reducible first | exact HB.out | apply below_alloc | apply pw_below_drewN | apply below_drew1) | exact HB.out)⟩
                    · rw [if_neg c29] at H
                      have c29b0 : (t531 == t525) = false := beq_eq_false_iff_ne.mpr c29
                      have c29b1 : (t531 != t525) = true := bne_iff_ne.mpr c29
                      exact absurd ((Option.some.inj H).trans hr) Bool.false_ne_true
                  · rw [if_neg c27] at H
                    have c27b0 : (t522.toList == t524.toList) = false := beq_eq_false_iff_ne.mpr c27
                    have c27b1 : (t522.toList != t524.toList) = true := bne_iff_ne.mpr c27
                    exact absurd ((Option.some.inj H).trans hr) Bool.false_ne_true
                · rw [if_neg c26] at H
                  have c26b0 : (t530 == t521) = false := beq_eq_false_iff_ne.mpr c26
                  have c26b1 : (t530 != t521) = true := bne_iff_ne.mpr c26
                  exact absurd ((Option.some.inj H).trans hr) Bool.false_ne_true
              · rw [if_neg c24] at H
                have c24b0 : (t518.toList == t520.toList) = false := beq_eq_false_iff_ne.mpr c24
                have c24b1 : (t518.toList != t520.toList) = true := bne_iff_ne.mpr c24
                exact absurd ((Option.some.inj H).trans hr) Bool.false_ne_true
            · rw [if_neg c23] at H
              have c23b0 : (t529 == t517) = false := beq_eq_false_iff_ne.mpr c23
              have c23b1 : (t529 != t517) = true := bne_iff_ne.mpr c23
              exact absurd ((Option.some.inj H).trans hr) Bool.false_ne_true
          · rw [if_neg c21] at H
            have c21b0 : (t514.toList == t516.toList) = false := beq_eq_false_iff_ne.mpr c21
            have c21b1 : (t514.toList != t516.toList) = true := bne_iff_ne.mpr c21
            exact absurd ((Option.some.inj H).trans hr) Bool.false_ne_true
        · rw [if_neg c20] at H
          have c20b0 : (t528 == t511) = false := beq_eq_false_iff_ne.mpr c20
          have c20b1 : (t528 != t511) = true := bne_iff_ne.mpr c20
          exact absurd ((Option.some.inj H).trans hr) Bool.false_ne_true
      · replace c18 := Bool.eq_false_iff.mpr c18
        subst c18
        have H1 : (some false) = some r := by rw [if_neg (show ¬ (false = true) by decide)] at H; exact H
        clear H
        have H := H1
        clear H1
        exact absurd ((Option.some.inj H).trans hr) Bool.false_ne_true
    · rw [if_neg c16] at H
      have c16b0 : (t526 == t505) = false := beq_eq_false_iff_ne.mpr c16
      have c16b1 : (t526 != t505) = true := bne_iff_ne.mpr c16
      exact absurd ((Option.some.inj H).trans hr) Bool.false_ne_true
  · rw [if_neg c14] at H
    have c14b0 : (t502.toList == t504.toList) = false := beq_eq_false_iff_ne.mpr c14
    have c14b1 : (t502.toList != t504.toList) = true := bne_iff_ne.mpr c14
    exact absurd ((Option.some.inj H).trans hr) Bool.false_ne_true
end Go.Proofs.YtdhjdddjgcfhkaaDoor.B

end

section
/- The rest of what the references' functions of texts tell: Cut, wholes, Lines, Join, Split, Lower, Upper, Trim; SameStrings. -/
set_option linter.unusedVariables false
set_option linter.unusedSimpArgs false
namespace Go.Proofs.YtdhjdddjgcfhkaaDoor.P
open Go.Lib Go.RowKit Go.Proofs.YtdhjdddjgcfhkaaDoor.B Go.Proofs.YtdhjdddjgcfhkaaDoorW.PrintWords

theorem Ch.enc_may {c : List UInt8} {r : Nat} (h : Ch c r) : mayN r := ⟨h.le.1, h.le.2.1⟩
theorem runes_l (s : ByteArray) (hs : s.size < 1048576) : ∀ (cs : List (List UInt8)) (rs : List Nat) (i : Nat) (out : List Int), Txt (s.data.toList.drop i) cs rs → i ≤ s.size → out.length ≤ i → Tells (fun k => bolterref04_Runes.l0 k s out (i : Int)) (out ++ rs.map (fun r : Nat => (r : Int)), 0)
  | [], rs, i, out, ht, hi, ho => by
    have hd := ht.flat
    have hl := ht.lens
    have hr : rs = [] := by
      cases rs with
      | nil => rfl
      | cons a b => simp at hl
    subst hr
    have : s.size ≤ i := by
      rw [size_eq]; apply List.drop_eq_nil_iff.1; rw [← hd]; rfl
    refine Tells.succ ?_
    simp only [bolterref04_Runes.l0]
    refine Tells.ifn (by omega) (Tells.of (by simp))
  | c :: cs, rs, i, out, ht, hi, ho => by
    generalize hm : s.data.toList.drop i = m at ht
    cases ht with
    | @cons _ r l _ rs hc hr =>
      have hp := hc.pos
      have hlt : i < s.size := by
        rw [size_eq]; apply Nat.lt_of_not_le; intro h
        rw [List.drop_eq_nil_of_le h] at hm
        exact absurd (List.append_eq_nil_iff.1 hm.symm).1 hc.1
      have hlen : c.length + l.length = s.size - i := by
        have := congrArg List.length hm
        rw [List.length_drop, ← size_eq, List.length_append] at this
        omega
      have hnext : s.data.toList.drop (i + c.length) = l := by rw [← List.drop_drop, hm, List.drop_left]
      refine Tells.succ ?_
      simp only [bolterref04_Runes.l0]
      refine Tells.ifp (by omega) (Tells.ifp (by omega) (Tells.ifp (by omega) ?_))
      rw [Int.toNat_natCast, ext_mk, List.take_of_length_le (by rw [List.length_drop, ← size_eq]; exact Nat.le_refl _), hm]
      have hv : firstV (c ++ l) = ((r : Int), (c.length : Int)) := by
        unfold firstV
        rw [if_neg (by simp [hc.1]), hc.app l, if_neg hc.2.2]
      have hf : Tells (fun k => bolterref04_First.f k (mkS (c ++ l))) ((r : Int), (c.length : Int)) := by
        rw [← hv]
        exact ⟨6, fun k hk => by
          obtain ⟨d, rfl⟩ : ∃ d, k = d + 6 := ⟨k - 6, by omega⟩
          exact first_tells _ (by rw [mkS_size, List.length_append]; omega) d⟩
      refine hf.bind (Tells.ifp (by omega) ?_)
      have ih := runes_l s hs cs rs (i + c.length) (out ++ [(r : Int)]) (by rw [hnext]; exact hr) (by omega) (by rw [List.length_append, List.length_cons, List.length_nil]; omega)
      rw [w64 (by omega) (by omega)]
      rw [List.append_assoc] at ih
      exact ih
theorem runes_tells (s : ByteArray) (hs : s.size < 1048576) (cs : List (List UInt8)) (rs : List Nat) (ht : Txt s.data.toList cs rs) : Tells (fun k => bolterref04_Runes.f k s) (rs.map (fun r : Nat => (r : Int)), 0) := by
  unfold bolterref04_Runes.f
  obtain ⟨q, hq, hqe⟩ := checkR_tells s (by omega)
  refine hq.bind (Tells.ifp ?_ ?_)
  · rw [hqe]; unfold errV; rw [if_pos ht.valid']
  · have := runes_l s hs cs rs 0 [] (by rw [List.drop_zero]; exact ht) (by omega) (by simp)
    rwa [List.nil_append] at this
theorem cutChars_l (rs : List Nat) (hm : ∀ r ∈ rs, mayN r) (hl : rs.length < 1048576) : ∀ (r pre : List Nat) (out : List ByteArray), rs = pre ++ r → out.length = pre.length →
    Tells (fun k => bolterref11_Cut.l0 k out (rs.map (fun r : Nat => (r : Int))) (pre.length : Int)) (out ++ r.map (fun r : Nat => mkS (encodeRune (r : Int))))
  | [], pre, out, e, ho => by
    refine Tells.succ ?_
    simp only [bolterref11_Cut.l0, List.length_map]
    refine Tells.ifn (by rw [e]; simp) (Tells.of (by simp))
  | x :: r, pre, out, e, ho => by
    have hlen : pre.length < rs.length := by rw [e]; simp
    have hx : rs[pre.length]? = some x := by rw [e]; simp
    refine Tells.succ ?_
    simp only [bolterref11_Cut.l0, List.length_map]
    refine Tells.ifp (by omega) (Tells.ifp (by omega) ?_)
    have hr : rd (rs.map (fun r : Nat => (r : Int))) (pre.length : Int) = (x : Int) := by
      unfold rd; simp [List.getD, hx]
    rw [hr, octets_tells x (hm x (List.mem_of_getElem? hx))]
    simp only [Option.bind_some]
    refine Tells.ifp (by omega) ?_
    have ih := cutChars_l rs hm hl r (pre ++ [x]) (out ++ [mkS (encodeRune (x : Int))]) (by rw [e]; simp) (by simp [ho])
    rw [w64 (by omega) (by omega)]
    have e2 : ((pre.length : Int) + 1) = ((pre ++ [x]).length : Int) := by simp
    rw [e2]
    rw [List.append_assoc] at ih
    exact ih
theorem Txt.encs {l : List UInt8} {cs : List (List UInt8)} {rs : List Nat} (h : Txt l cs rs) : rs.map (fun r : Nat => mkS (encodeRune (r : Int))) = cs.map mkS ∧ ∀ r ∈ rs, mayN r := by
  induction h with
  | nil => exact ⟨rfl, fun r h => by cases h⟩
  | cons hc _ ih =>
    refine ⟨by rw [List.map_cons, List.map_cons, hc.enc, ih.1], fun r h => ?_⟩
    rcases List.mem_cons.1 h with rfl | h
    · exact hc.enc_may
    · exact ih.2 r h
theorem cut11_tells (s sep : ByteArray) (hs : s.size < 1048576) (hp : sep.size < 1048576) (cs : List (List UInt8)) (rs : List Nat) (ht : sep.data.toList = [] → Txt s.data.toList cs rs) :
    Tells (fun k => bolterref11_Cut.f k s sep) ((cutV s.data.toList sep.data.toList cs).map mkS) := by
  unfold bolterref11_Cut.f cutV
  by_cases h0 : s.data.toList = []
  · rw [if_pos h0]
    exact Tells.ifp (by rw [toList_data]; exact h0) (Tells.pure _)
  · rw [if_neg h0]
    refine Tells.ifn (by rw [toList_data]; exact h0) ?_
    by_cases h1 : sep.data.toList = []
    · rw [if_pos h1]
      refine Tells.ifp (by rw [toList_data]; exact h1) ?_
      have t := ht h1
      refine (runes_tells s hs cs rs t).bind ?_
      have hl := t.lens
      rw [← size_eq] at hl
      have := cutChars_l rs t.encs.2 (by omega) rs [] [] rfl rfl
      rw [List.nil_append, t.encs.1] at this
      exact this
    · rw [if_neg h1]
      refine Tells.ifn (by rw [toList_data]; exact h1) ?_
      have := cut11_l s sep hs hp h1 (s.size + 1) 0 0 [] (by omega) (by omega) (by omega) (by simp) (fun i hi => by omega)
      rw [List.drop_zero, List.nil_append] at this
      exact this
theorem wholes13_l (ps : List (List UInt8)) (hl : ps.length < 9223372036854775807) : ∀ (r pre : List (List UInt8)), ps = pre ++ r → Tells (fun k => bolterref13_wholes.l0 k (ps.map mkS) (pre.length : Int)) (if (∀ x ∈ r, x.length ≤ 16384) then (ps.map mkS, 0) else ([], 5))
  | [], pre, e => by
    refine Tells.succ ?_
    simp only [bolterref13_wholes.l0, List.length_map]
    rw [if_pos (fun x hx => by cases hx)]
    exact Tells.ifn (by rw [e]; simp) (Tells.pure _)
  | x :: r, pre, e => by
    have hlen : pre.length < ps.length := by rw [e]; simp
    have hx : (ps.map mkS)[pre.length]? = some (mkS x) := by rw [e]; simp
    refine Tells.succ ?_
    simp only [bolterref13_wholes.l0, List.length_map]
    refine Tells.ifp (by omega) (Tells.ifp (by omega) ?_)
    rw [rdOf_at _ _ _ _ hx, mkS_size]
    by_cases h : x.length ≤ 16384
    · refine Tells.ifn (by omega) ?_
      have ih := wholes13_l ps hl r (pre ++ [x]) (by rw [e]; simp)
      rw [w64 (by omega) (by omega)]
      have e2 : ((pre.length : Int) + 1) = ((pre ++ [x]).length : Int) := by simp
      rw [e2]
      by_cases hr : ∀ y ∈ r, y.length ≤ 16384
      · rw [if_pos hr] at ih
        rw [if_pos (fun y hy => by
          rcases List.mem_cons.1 hy with rfl | hy
          · exact h
          · exact hr y hy)]
        exact ih
      · rw [if_neg hr] at ih
        rw [if_neg (fun hc => hr (fun y hy => hc y (List.mem_cons_of_mem _ hy)))]
        exact ih
    · rw [if_neg (fun hc => h (hc x List.mem_cons_self))]
      exact Tells.ifp (by omega) (Tells.pure _)
theorem wholes13_tells (ps : List (List UInt8)) (hl : ps.length < 9223372036854775807) : Tells (fun k => bolterref13_wholes.f k (ps.map mkS)) (wholesV ps) := wholes13_l ps hl ps [] rfl
def dropE (ps : List (List UInt8)) : List (List UInt8) := if 0 < ps.length ∧ ps.getD (ps.length - 1) [] = [] then ps.take (ps.length - 1) else ps
def linesV (s : List UInt8) : ByteArray → List ByteArray × Int := fun o => if errs [o] = 0 then wholesV (dropE (cutV s [10] [])) else ([], errs [o])
theorem cutV_len (s : List UInt8) : (cutV s [10] []).length ≤ s.length + 1 := by
  unfold cutV
  split
  · simp
  · rw [if_neg (by simp)]; exact (cutA_lens [10] (by simp) _ s (Nat.le_refl _)).2
theorem last_mk (ps : List (List UInt8)) (h : 0 < ps.length) : (rdOf ByteArray.empty (ps.map mkS) (((ps.length - 1 : Nat)) : Int)).toList = ps.getD (ps.length - 1) [] := by
  have hx : (ps.map mkS)[ps.length - 1]? = some (mkS (ps.getD (ps.length - 1) [])) := by
    rw [List.getElem?_map, List.getElem?_eq_getElem (by omega), List.getD, List.getElem?_eq_getElem (by omega)]; rfl
  rw [rdOf_at _ _ _ _ hx, toList_data]; rfl
theorem wholes_err (l : List ByteArray) (e : Int) (he : e ≠ 0) : texts_wholes.f l e = some ([], e) := by unfold texts_wholes.f; rw [if_neg he]
theorem lines_tells (s : ByteArray) (hs : s.size < 1048576) : Tells (fun k => texts_Lines.f k s) (linesV s.data.toList s) := by
  have hc := checks_tells [s] (by simp) (fun x hx => by simp at hx; subst hx; omega)
  unfold texts_Lines.f
  refine (arithCut_tells s ⟨#[10]⟩ (by omega) [] [] (fun h => absurd h (by decide))).bind ?_
  have hlen := cutV_len s.data.toList
  rw [← size_eq] at hlen
  show Tells _ (linesV s.data.toList s)
  unfold linesV
  rw [show (⟨#[10]⟩ : ByteArray).data.toList = [10] from rfl]
  generalize cutV s.data.toList [10] [] = ps at hlen
  simp only [List.length_map]
  have fin : ∀ qs : List (List UInt8), Tells (fun k => (texts_Checks.f k [s]).bind fun t => (texts_wholes.f (qs.map mkS) t).bind fun b => some (b.1, b.2)) (if errs [s] = 0 then wholesV qs else ([], errs [s])) := by
    intro qs
    refine hc.bind ?_
    by_cases he : errs [s] = 0
    · rw [if_pos he, he, wholes_ok]; exact Tells.pure _
    · rw [if_neg he, wholes_err _ _ he]; exact Tells.pure _
  by_cases h0 : 0 < ps.length
  · refine Tells.ifp (by omega) ?_
    rw [w64 (by omega) (by omega)]
    refine Tells.ifp (by omega) (Tells.ifp (by omega) (Tells.succ ?_))
    simp only [texts_Lines.j0]
    rw [w64 (by omega) (by omega), show ((ps.length : Int) - 1) = ((ps.length - 1 : Nat) : Int) by omega, last_mk ps h0]
    by_cases h1 : ps.getD (ps.length - 1) [] = []
    · rw [show dropE ps = ps.take (ps.length - 1) from if_pos ⟨h0, h1⟩]
      refine Tells.ifp (by rw [h1]; rfl) (Tells.ifp (by omega) (Tells.ifp (by rw [List.length_map]; omega) ?_))
      rw [Int.toNat_natCast, ← List.map_take]
      exact fin _
    · rw [show dropE ps = ps from if_neg (fun h => h1 h.2)]
      refine Tells.ifn (by rw [beq_iff_eq]; exact h1) ?_
      exact fin _
  · refine Tells.ifn (by omega) (Tells.succ ?_)
    simp only [texts_Lines.j0, Bool.false_eq_true, if_false]
    rw [show dropE ps = ps from if_neg (fun h => h0 h.1)]
    exact fin _
theorem same_l (l : List ByteArray) (hl : l.length < 9223372036854775807) : ∀ (d i : Nat), i + d = l.length → Tells (fun k => bolterplain_SameStrings.l0 k l l (i : Int)) true
  | 0, i, e => by
    refine Tells.succ ?_
    simp only [bolterplain_SameStrings.l0]
    exact Tells.ifn (by omega) (Tells.pure _)
  | d + 1, i, e => by
    refine Tells.succ ?_
    simp only [bolterplain_SameStrings.l0]
    refine Tells.ifp (by omega) (Tells.ifp (by omega) (Tells.ifp (by omega) (Tells.ifp trivial ?_)))
    rw [w64 (by omega) (by omega)]
    exact same_l l hl d (i + 1) (by omega)
theorem same_tells (l : List ByteArray) (hl : l.length < 9223372036854775807) : Tells (fun k => bolterplain_SameStrings.f k l l) true := by
  unfold bolterplain_SameStrings.f
  exact Tells.ifp rfl (same_l l hl l.length 0 (by omega))
theorem join13_l (l : List ByteArray) (sep : ByteArray) (hl : l.length < 1048576) (hs : ∀ s ∈ l, s.size < 1048576) (hp : sep.size < 1048576) : ∀ (r pre : List ByteArray) (acc : List UInt8), l = pre ++ r → acc.length < 4194304 →
    Tells (fun k => bolterref13_Join.l0 k l sep (numsOf acc) (pre.length : Int)) (wholeV (acc ++ ((joinP sep pre.length r).map (·.data.toList)).flatten))
  | r, pre, acc, e, ha => by
    refine Tells.succ ?_
    simp only [bolterref13_Join.l0]
    have fin : ∀ L, wholeV acc = wholeV L → Tells (fun k => bolterref13_Join.j1 k l sep (numsOf acc) (pre.length : Int) false) (wholeV L) := by
      intro L hL
      refine Tells.succ ?_
      simp only [bolterref13_Join.j1, Bool.false_eq_true, if_false]
      rw [whole13]
      exact Tells.of (by rw [← hL]; rfl)
    match r, e with
    | [], e =>
      refine Tells.ifn (by rw [e]; simp) (fin _ ?_)
      simp [joinP]
    | x :: r, e =>
      have hlen : pre.length < l.length := by rw [e]; simp
      have hx : l[pre.length]? = some x := by rw [e]; simp
      have hxs := hs x (List.mem_of_getElem? hx)
      have hxz := size_eq x
      have hpz := size_eq sep
      refine Tells.ifp (by omega) ?_
      rw [numsOf_len]
      by_cases h2 : (acc.length : Int) ≤ 16384
      · rw [decide_eq_true h2]
        refine Tells.succ ?_
        simp only [bolterref13_Join.j1, if_true, Option.bind_some]
        rw [rdOf_at _ _ _ _ hx, w64 (by omega) (by omega)]
        have e2 : ((pre.length : Int) + 1) = ((pre ++ [x]).length : Int) := by simp
        simp only [joinP]
        by_cases h3 : 0 < pre.length
        · rw [if_pos h3]
          refine Tells.ifp (by omega) (Tells.ifp (by rw [numsOf_len]; omega) (Tells.ifp (by omega) (Tells.ifp (by omega) (Tells.ifp ?_ ?_))))
          · rw [bytesOf_nums, numsOf_app, numsOf_len, List.length_append]; omega
          · rw [bytesOf_nums, bytesOf_nums, numsOf_app, numsOf_app, e2]
            have ih := join13_l l sep hl hs hp r (pre ++ [x]) (acc ++ sep.data.toList ++ x.data.toList) (by rw [e]; simp) (by simp only [List.length_append]; omega)
            rw [show (pre ++ [x]).length = pre.length + 1 by simp] at ih ⊢
            simp only [List.map_append, List.map_cons, List.map_nil, List.flatten_append, List.flatten_cons, List.flatten_nil, List.append_nil, List.append_assoc] at ih ⊢
            exact ih
        · rw [if_neg h3]
          refine Tells.ifn (by omega) (Tells.ifp (by omega) (Tells.ifp (by omega) (Tells.ifp (by rw [numsOf_len]; omega) ?_)))
          rw [bytesOf_nums, numsOf_app, e2]
          have ih := join13_l l sep hl hs hp r (pre ++ [x]) (acc ++ x.data.toList) (by rw [e]; simp) (by simp only [List.length_append]; omega)
          rw [show (pre ++ [x]).length = pre.length + 1 by simp] at ih ⊢
          simp only [List.map_append, List.map_cons, List.map_nil, List.flatten_append, List.flatten_cons, List.flatten_nil, List.append_nil, List.append_assoc] at ih ⊢
          exact ih
      · rw [decide_eq_false h2]
        refine fin _ ?_
        rw [wholeV_long (by omega), wholeV_long (by rw [List.length_append]; omega)]
theorem join13_tells (l : List ByteArray) (sep : ByteArray) (hl : l.length < 1048576) (hs : ∀ s ∈ l, s.size < 1048576) (hp : sep.size < 1048576) :
    Tells (fun k => bolterref13_Join.f k l sep) (if errs (l ++ [sep]) = 0 then wholeV (joinL sep.data.toList (l.map (·.data.toList))) else (⟨#[]⟩, errs (l ++ [sep]))) := by
  unfold bolterref13_Join.f
  simp only [Option.bind_some, List.nil_append]
  refine Tells.ifp (by simp; omega) (Tells.ifp (by omega) ?_)
  refine (checks13_tells (l ++ [sep]) (by simp; omega) (fun x hx => ?_)).bind ?_
  · rcases List.mem_append.1 hx with hx | hx
    · have := hs x hx; omega
    · simp at hx; subst hx; omega
  · by_cases he : errs (l ++ [sep]) = 0
    · rw [if_pos he]
      refine Tells.ifp he ?_
      have h := join13_l l sep hl hs hp l [] [] rfl (by simp)
      rw [List.nil_append, List.length_nil, joinP_flat, if_neg (fun h => by omega), List.nil_append] at h
      exact h
    · rw [if_neg he]
      exact Tells.ifn he (Tells.pure _)
theorem split13_tells (s sep : ByteArray) (hs : s.size < 1048576) (hp : sep.size < 1048576) (cs : List (List UInt8)) (rs : List Nat) (ht : errs [s, sep] = 0 → Txt s.data.toList cs rs) :
    Tells (fun k => bolterref13_Split.f k s sep) (if errs [s, sep] = 0 then wholesV (cutV s.data.toList sep.data.toList cs) else ([], errs [s, sep])) := by
  unfold bolterref13_Split.f
  refine (checks13_tells [s, sep] (by simp) (two_lt s sep hs hp)).bind ?_
  by_cases he : errs [s, sep] = 0
  · rw [if_pos he]
    refine Tells.ifp he ?_
    have t := ht he
    refine (cut11_tells s sep hs hp cs rs (fun _ => t)).bind ?_
    have hlen : (cutV s.data.toList sep.data.toList cs).length ≤ s.data.toList.length + 1 := by
      unfold cutV
      split
      · simp
      · split
        · have := t.lens; omega
        · rename_i h; exact (cutA_lens _ h _ _ (Nat.le_refl _)).2
    rw [← size_eq] at hlen
    exact (wholes13_tells _ (by omega)).bind (Tells.pure _)
  · rw [if_neg he]
    exact Tells.ifn he (Tells.pure _)
theorem low13 : ∀ b : Fin 256, B.mvB 65 32 (b.val : Int) = ((P.mvB 65 0 (UInt8.ofNat b.val)).toNat : Int) := by decide +kernel
theorem up13 : ∀ b : Fin 256, B.mvB 97 (-32) (b.val : Int) = ((P.mvB 97 1 (UInt8.ofNat b.val)).toNat : Int) := by decide +kernel
theorem moved13_tells (s : ByteArray) (hs : s.size < 1048576) (lo by_ : Int) (g : UInt8 → UInt8) (hg : ∀ b : UInt8, B.mvB lo by_ (b.toNat : Int) = ((g b).toNat : Int)) :
    Tells (fun k => bolterref13_moved.f k s lo by_) (if validD s.data.toList = true then wholeV (s.data.toList.map g) else (⟨#[]⟩, 61)) := by
  unfold bolterref13_moved.f
  refine (checks13_tells [s] (by simp) (fun x hx => by simp at hx; subst hx; omega)).bind ?_
  rw [errs_one]
  unfold errV
  by_cases hv : validD s.data.toList = true
  · simp only [hv, if_true]
    refine Tells.ifp (by omega) ?_
    have e : (bytesOf s).map (B.mvB lo by_) = numsOf (s.data.toList.map g) := by
      rw [bytesOf_nums]; unfold numsOf
      rw [List.map_map, List.map_map]
      exact List.map_congr_left (fun b _ => hg b)
    rw [e]
    exact Tells.of (whole13 _)
  · simp only [hv, if_false]
    exact Tells.of rfl
theorem lower13_tells (s : ByteArray) (hs : s.size < 1048576) : Tells (fun k => bolterref13_Lower.f k s) (lowerV s.data.toList) := by
  unfold bolterref13_Lower.f
  exact (moved13_tells s hs 65 32 (P.mvB 65 0) (fun b => by have := low13 ⟨b.toNat, b.toNat_lt⟩; simpa only [ofN] using this)).bind (Tells.pure _)
theorem upper13_tells (s : ByteArray) (hs : s.size < 1048576) : Tells (fun k => bolterref13_Upper.f k s) (upperV s.data.toList) := by
  unfold bolterref13_Upper.f
  exact (moved13_tells s hs 97 (-32) (P.mvB 97 1) (fun b => by have := up13 ⟨b.toNat, b.toNat_lt⟩; simpa only [ofN] using this)).bind (Tells.pure _)
theorem drop_comm {α : Type} (p : α → Bool) : ∀ l : List α, (l.reverse.dropWhile p).reverse.dropWhile p = (((l.dropWhile p).reverse).dropWhile p).reverse
  | [] => rfl
  | b :: t => by
    have ih := drop_comm p t
    have e : (b :: t).reverse.dropWhile p = if t.reverse.dropWhile p = [] then (if p b = true then [] else [b]) else t.reverse.dropWhile p ++ [b] := by
      rw [List.reverse_cons, List.dropWhile_append]
      cases hd : t.reverse.dropWhile p with
      | nil => simp [List.dropWhile]; cases p b <;> rfl
      | cons x y => simp
    by_cases hb : p b = true
    · have e2 : (b :: t).dropWhile p = t.dropWhile p := by rw [List.dropWhile_cons, if_pos hb]
      rw [e2, ← ih, e]
      by_cases hn : t.reverse.dropWhile p = []
      · rw [if_pos hn, if_pos hb, hn]
      · rw [if_neg hn, List.reverse_append, List.reverse_cons, List.reverse_nil, List.nil_append, List.singleton_append, List.dropWhile_cons, if_pos hb]
    · have e2 : (b :: t).dropWhile p = b :: t := by rw [List.dropWhile_cons, if_neg hb]
      rw [e2, e]
      by_cases hn : t.reverse.dropWhile p = []
      · rw [if_pos hn, if_neg hb, List.reverse_cons, List.reverse_nil, List.nil_append, List.dropWhile_cons, if_neg hb]
      · rw [if_neg hn, List.reverse_append, List.reverse_cons, List.reverse_nil, List.nil_append, List.singleton_append, List.dropWhile_cons, if_neg hb]
def isBl (b : UInt8) : Bool := ([32, 9, 10, 13] : List UInt8).contains b
theorem blank_all : ∀ b : Fin 256, bolterref13_blank.f (b.val : Int) = some (isBl (UInt8.ofNat b.val)) := by decide +kernel
theorem blank_f (b : UInt8) : bolterref13_blank.f (b.toNat : Int) = some (isBl b) := by
  have := blank_all ⟨b.toNat, b.toNat_lt⟩
  simpa only [ofN] using this
theorem trim13_r : ∀ (n : Nat) (l : List UInt8), l.length ≤ n → n < 1048576 → Tells (fun k => bolterref13_Trim.l1 k (mkS l)) (wholeV ((l.reverse.dropWhile isBl).reverse))
  | n, l, hn, hb => by
    refine Tells.succ ?_
    simp only [bolterref13_Trim.l1]
    rw [mkS_size, conv63 _ (by rw [mkS_size]; omega), mkS_data]
    simp only [Option.bind_some]
    rw [whole13]
    by_cases h0 : 0 < l.length
    · obtain ⟨n, rfl⟩ : ∃ n', n = n' + 1 := ⟨n - 1, by omega⟩
      obtain ⟨m, b, rfl⟩ : ∃ m b, l = m ++ [b] := ⟨l.dropLast, l.getLast (List.length_pos_iff.1 h0), (List.dropLast_concat_getLast _).symm⟩
      simp only [List.length_append, List.length_cons, List.length_nil] at hn h0 ⊢
      refine Tells.ifp (by omega) ?_
      rw [w64 (by omega) (by omega), show (((m.length + (0 + 1) : Nat) : Int) - 1) = ((m.length : Nat) : Int) by omega]
      refine Tells.ifp (by omega) (Tells.ifp (by omega) ?_)
      rw [bt_g, mkS_data, show (m ++ [b]).getD m.length 0 = b by simp [List.getD], blank_f]
      simp only [Option.bind_some]
      rw [List.reverse_append, List.reverse_cons, List.reverse_nil, List.nil_append, List.singleton_append, List.dropWhile_cons]
      by_cases hbl : isBl b = true
      · rw [if_pos hbl]
        refine Tells.ifp hbl (Tells.ifp (by omega) ?_)
        rw [Int.toNat_natCast, ext_mk, mkS_data, List.drop_zero, Nat.sub_zero, List.take_left]
        exact trim13_r n m (by omega) (by omega)
      · rw [if_neg hbl]
        refine Tells.ifn hbl (Tells.of ?_)
        simp
    · have : l = [] := List.eq_nil_of_length_eq_zero (by omega)
      subst this
      exact Tells.ifn (by simp) (Tells.of rfl)
theorem trim13_l : ∀ (n : Nat) (l : List UInt8), l.length ≤ n → n < 1048576 → Tells (fun k => bolterref13_Trim.l0 k (mkS l)) (wholeV (((l.dropWhile isBl).reverse.dropWhile isBl).reverse))
  | n, l, hn, hb => by
    refine Tells.succ ?_
    simp only [bolterref13_Trim.l0]
    rw [mkS_size]
    have stop : Tells (fun k => bolterref13_Trim.j1 k (mkS l)) (wholeV ((l.reverse.dropWhile isBl).reverse)) := by
      refine Tells.succ ?_
      simp only [bolterref13_Trim.j1]
      exact trim13_r n l hn hb
    match l, hn, stop with
    | [], _, stop => exact Tells.ifn (by simp) stop
    | b :: t, hn, stop =>
      simp only [List.length_cons] at hn ⊢
      obtain ⟨n, rfl⟩ : ∃ n', n = n' + 1 := ⟨n - 1, by omega⟩
      refine Tells.ifp (by omega) (Tells.ifp (by omega) ?_)
      rw [show bt (mkS (b :: t)) 0 = bt (mkS (b :: t)) ((0 : Nat) : Int) from rfl, bt_g, mkS_data, List.getD_cons_zero, blank_f]
      simp only [Option.bind_some]
      rw [List.dropWhile_cons]
      by_cases hbl : isBl b = true
      · rw [if_pos hbl]
        refine Tells.ifp hbl (Tells.ifp (by omega) ?_)
        rw [ext_mk, mkS_data, List.drop_succ_cons, List.drop_zero, List.take_of_length_le (by omega)]
        exact trim13_l n t (by omega) (by omega)
      · rw [if_neg hbl]
        exact Tells.ifn hbl stop
def trimV (s : ByteArray) : ByteArray × Int := whoV ((((s.data.toList.dropWhile isBl).reverse.dropWhile isBl).reverse)) (errV s.data.toList)
theorem trim13_tells (s : ByteArray) (hs : s.size < 1048576) : Tells (fun k => bolterref13_Trim.f k s) (trimV s) := by
  unfold bolterref13_Trim.f
  refine (checks13_tells [s] (by simp) (fun x hx => by simp at hx; subst hx; omega)).bind ?_
  rw [errs_one]
  unfold trimV whoV
  by_cases he : errV s.data.toList = 0
  · rw [if_pos he]
    refine Tells.ifp he ?_
    have := trim13_l s.data.toList.length s.data.toList (Nat.le_refl _) (by rw [← size_eq]; exact hs)
    rwa [show mkS s.data.toList = s from mk_data s] at this
  · rw [if_neg he]
    exact Tells.ifn he (Tells.pure _)
theorem trim_tells (s : ByteArray) (hs : s.size < 1048576) : Tells (fun k => texts_Trim.f k s) (trimV s) := by
  unfold texts_Trim.f strings_Trim.f
  rw [if_pos ⟨by omega, by decide, by decide⟩]
  simp only [Option.bind_some]
  refine (checks_tells [s] (by simp) (fun x hx => by simp at hx; subst hx; omega)).bind ?_
  rw [errs_one, who_f]
  have e : trimS s.data.toList (⟨#[32, 9, 10, 13]⟩ : ByteArray).data.toList = (((s.data.toList.dropWhile isBl).reverse.dropWhile isBl).reverse) := drop_comm isBl _
  rw [e]
  exact Tells.pure _
end Go.Proofs.YtdhjdddjgcfhkaaDoor.P

end

section
namespace Go.Proofs.YtdhjdddjgcfhkaaDoor.B
open Go.RowKit Go.Proofs.YtdhjdddjgcfhkaaDoorW.PrintWords Go.Proofs.YtdhjdddjgcfhkaaDoorW.PrintLast Go.Proofs.YtdhjdddjgcfhkaaDoorW.PrintMore
attribute [local go_sem] max2_int min2_int max_two min_two max_three min_three max_four min_four   -- for this text's walks alone
set_option linter.unusedVariables false
set_option linter.unusedSimpArgs false

def bolterlaw13_TextsEnds.f (k : Nat) (a0 : ByteArray) (a1 : ByteArray) (a2 : ByteArray) (a3 : Int) : Option (Bool) := (texts_Begins.f k a0 a1).bind fun bt400 => ((bolterref13_Begins.f k a0 a1).bind fun bt402 => ((texts_Ends.f k a0 a1).bind fun bt404 => ((bolterref13_Ends.f k a0 a1).bind fun bt406 => ((texts_TrimLeft.f k a0 a1).bind fun bt408 => ((bolterref13_TrimLeft.f k a0 a1).bind fun bt410 => ((texts_TrimRight.f k a0 a1).bind fun bt412 => ((bolterref13_TrimRight.f k a0 a1).bind fun bt414 => ((texts_Repeat.f k a0 a3).bind fun bt416 => ((bolterref13_Repeat.f k a0 a3).bind fun bt418 => ((texts_Replace.f k a0 a1 a2).bind fun bt420 => ((bolterref13_Replace.f k a0 a1 a2).bind fun bt422 => ((texts_Lines.f k a0).bind fun bt424 => ((bolterref13_Lines.f k a0).bind fun bt428 => (if (bt400.1 == bt402.1) = true then ((bolterlaw13_num.f bt400.2).bind fun t432 => (if t432 = bt402.2 then (if (bt404.1 == bt406.1) = true then ((bolterlaw13_num.f bt404.2).bind fun t433 => (if t433 = bt406.2 then (if bt408.1.toList = bt410.1.toList then ((bolterlaw13_num.f bt408.2).bind fun t434 => (if t434 = bt410.2 then (if bt412.1.toList = bt414.1.toList then ((bolterlaw13_num.f bt412.2).bind fun t435 => (if t435 = bt414.2 then (if bt416.1.toList = bt418.1.toList then ((bolterlaw13_num.f bt416.2).bind fun t436 => (if t436 = bt418.2 then (if bt420.1.toList = bt422.1.toList then ((bolterlaw13_num.f bt420.2).bind fun t437 => (if t437 = bt422.2 then ((bolterplain_SameStrings.f k bt424.1 bt428.1).bind fun t438 => (if t438 = true then ((bolterlaw13_num.f bt424.2).bind fun t439 => (if t439 = bt428.2 then ((bolterlaw13_alive.f k).bind fun t440 => (some t440)) else (some false))) else (some false))) else (some false))) else (some false)) else (some false))) else (some false)) else (some false))) else (some false)) else (some false))) else (some false)) else (some false))) else (some false)) else (some false))) else (some false)))))))))))))))
end Go.Proofs.YtdhjdddjgcfhkaaDoor.B

end

section
/- TextsEnds and TextsTells, plain. -/
set_option linter.unusedVariables false
set_option linter.unusedSimpArgs false
namespace Go.Proofs.YtdhjdddjgcfhkaaDoor.P
open Go.Lib Go.RowKit Go.Proofs.YtdhjdddjgcfhkaaDoor.B Go.Proofs.YtdhjdddjgcfhkaaDoorW.PrintWords

theorem wholesV_len (ps : List (List UInt8)) : (wholesV ps).1.length ≤ ps.length := by
  unfold wholesV; split
  · simp
  · simp
theorem cutV_len2 (s sep : List UInt8) (cs : List (List UInt8)) (rs : List Nat) (ht : Txt s cs rs) : (cutV s sep cs).length ≤ s.length + 1 := by
  unfold cutV
  split
  · simp
  · split
    · have := ht.lens; omega
    · rename_i h; exact (cutA_lens _ h _ _ (Nat.le_refl _)).2
theorem textsTellsU (l : List ByteArray) (s sep : ByteArray) (hl : l.length < 1048576) (hls : ∀ x ∈ l, x.size < 1048576) (hs : s.size < 1048576) (hp : sep.size < 1048576) : ∃ k, bolterlaw13_TextsTells.f k l s sep = some true := by
  refine Tells.ex ?_
  unfold bolterlaw13_TextsTells.f
  obtain ⟨cs, rs, ht, hsp⟩ := split_tells s sep (by omega) (by omega)
  refine (join_tells l sep (fun x hx => by
    rcases List.mem_cons.1 hx with rfl | hx
    · omega
    · have := hls x hx; omega) (by omega)).bind ?_
  refine (join13_tells l sep hl hls hp).bind ?_
  refine hsp.bind ?_
  refine (split13_tells s sep hs hp cs rs ht).bind ?_
  refine (lower_tells s (by omega)).bind ?_
  refine (lower13_tells s hs).bind ?_
  refine (upper_tells s (by omega)).bind ?_
  refine (upper13_tells s hs).bind ?_
  refine (trim_tells s hs).bind ?_
  refine (trim13_tells s hs).bind ?_
  simp only [bolterlaw13_num.f, Option.bind_some, if_true]
  refine (same_tells _ ?_).bind ?_
  · by_cases he : errs [s, sep] = 0
    · rw [if_pos he]
      have h1 := wholesV_len (cutV s.data.toList sep.data.toList cs)
      have h2 := cutV_len2 _ sep.data.toList cs rs (ht he)
      rw [← size_eq] at h2
      omega
    · rw [if_neg he]; simp
  · simp only [if_true]
    exact alive_tells.bind (Tells.pure _)
end Go.Proofs.YtdhjdddjgcfhkaaDoor.P

end

section
/- A row of texts among a law's arguments. -/
set_option linter.unusedVariables false
set_option linter.unusedSimpArgs false
namespace Go.Proofs.YtdhjdddjgcfhkaaDoor.R
open Go.ChangeShapes Go.WideShapes Go.ChangeAt Go.RowKit Go.Proofs.YtdhjdddjgcfhkaaDoorW.PrintWords
theorem laidOut : laidOutB Tryd.prog = true := by kernel_rfl
theorem cells9 : Tryd.prog.cellsOf 9 = 1 := by kernel_rfl
theorem open_strs {H : Type} {enc : TypeId × Value → H} {W : World} {a0 : Option Addr} {len cap fuel : Nat} {x : DataW H × List MemPlace}
    (hf : DataW.trod enc Tryd.prog W 0 (fun _ => true) true fuel 28 [.slice a0 len cap] = some x) :
    ∃ Xs : List ByteArray, Xs.length = len ∧ len ≤ cap ∧ Kd.C Kd.string W a0 Xs.length Xs ∧ ((x.1 = .nil ∧ Xs = []) ∨ ∃ spare, x.1 = .slice (strs Xs) spare) := by
  rcases open_strings Tryd.underlying28 Tryd.underlying9 cells9 hf with ⟨hcs, hx⟩ | ⟨a, len', cap', ss, hcs, _, hl, hm, hz, hx, hcell, _⟩
  · simp at hcs
    obtain ⟨rfl, rfl, rfl⟩ := hcs
    subst hx
    exact ⟨[], rfl, Nat.le_refl _, Kd.C_of_reads (enc := Value.string) (d := ByteArray.empty) ⟨rfl, by simp, fun h => absurd h (by simp)⟩, .inl ⟨rfl, rfl⟩⟩
  · simp at hcs
    obtain ⟨rfl, rfl, rfl⟩ := hcs
    subst hx
    simp only [if_true] at hz
    refine ⟨ss.take len, by simp; omega, hl, Kd.C_of_reads (enc := Value.string) (d := ByteArray.empty) ⟨rfl, by unfold maxLen at hm; simp; omega, fun _ => ⟨a, rfl, fun j hj => ?_⟩⟩, .inr ⟨_, rfl⟩⟩
    have hj' : j < len := by simp at hj; omega
    rw [hcell j (by omega)]
    simp [List.getD, List.getElem?_take_of_lt hj']
theorem strs_bulk {H : Type} : ∀ (Xs : List ByteArray), (∀ s ∈ Xs, s.size + 1 ≤ Rows.uptoBulkAll (strs Xs : List (DataW H))) ∧ Xs.length ≤ Rows.uptoBulkAll (strs Xs : List (DataW H))
  | [] => by refine ⟨?_, Nat.zero_le _⟩; simp
  | x :: r => by
    obtain ⟨h1, h2⟩ := strs_bulk (H := H) r
    have e : Rows.uptoBulkAll (strs (x :: r) : List (DataW H)) = (x.data.toList.length + 1) + Rows.uptoBulkAll (strs r : List (DataW H)) := by
      simp [strs, Rows.uptoBulkAll, Rows.uptoBulk]
    rw [e, ← Lib.size_eq]
    refine ⟨fun s hs => ?_, by simp only [List.length_cons]; omega⟩
    rcases List.mem_cons.1 hs with rfl | hs
    · omega
    · have := h1 s hs; omega
theorem strs_small {H : Type} {l : List (DataW H)} (hk : Rows.uptoSmall H l = true) {d : DataW H} (hm : d ∈ l) {Xs : List ByteArray} (h : (d = .nil ∧ Xs = []) ∨ ∃ spare, d = .slice (strs Xs) spare) :
    Xs.length < 1048576 ∧ ∀ s ∈ Xs, s.size < 1048576 := by
  have h1 := bulk_mem hm
  have h2 := small hk
  rcases h with ⟨rfl, rfl⟩ | ⟨sp, rfl⟩
  · refine ⟨by simp, ?_⟩; simp
  · have h3 : Rows.uptoBulk (DataW.slice (strs Xs) sp : DataW H) = Rows.uptoBulkAll (strs Xs : List (DataW H)) + Rows.uptoBulkAll sp + 1 := by simp [Rows.uptoBulk]
    obtain ⟨b1, b2⟩ := strs_bulk (H := H) Xs
    exact ⟨by omega, fun s hs => by have := b1 s hs; omega⟩
end Go.Proofs.YtdhjdddjgcfhkaaDoor.R

end

section
/- TextsTells: its row and its cards, the second form (printed by wip/tools/rowgen.py). -/
set_option linter.unusedVariables false
set_option linter.unusedSimpArgs false
namespace Go.Proofs.YtdhjdddjgcfhkaaDoor.R.textsTells
open Go.ChangeShapes Go.WideShapes Go.ChangeAt Go.RowKit
open Go.ChangeMaps (open_string shut_string)
theorem reads (os : Os) {H : Type} (enc : TypeId × Value → H) : ∃ places, DataW.whole enc Tryd.prog ((laidWorld os).forCall (fun _ _ => 0) ⟨#[], #[Value.slice none 0 0, Value.string ByteArray.empty, Value.string ByteArray.empty], []⟩).memory Tryd.f8.params.toList Rows.textsTellsSpec.vars false (#[Value.slice none 0 0, Value.string ByteArray.empty, Value.string ByteArray.empty] : Array Value).toList 8 = some ([.nil, .lit (.string []), .lit (.string [])], [], places) :=
  ⟨[], by kernel_rfl⟩
set_option maxRecDepth 100000 in
theorem contract (H : Type) (enc : TypeId × Value → H) (W : World) (base : Nat) (args : Array Value) (ds gs : List (DataW H)) (before : List MemPlace)
    (hval : ∀ (j : Nat) t v, Tryd.f8.params[j]? = some t → args[j]? = some v → Value.okWide Tryd.prog W .any base t v)
    (hW : DataW.Whole enc Tryd.prog Tryd.f8.params.toList Rows.textsTellsSpec.vars false W args.toList ds gs before) (hk : Rows.uptoSmall H (ds ++ gs) = true) (hL : laidMetH Tryd.prog laidL W) (hsh : W.ShapedOpen Tryd.prog) :
    Calls Tryd.prog 8 args W fun e W' => ∃ v, e = .returned v ∧ Rows.textsTellsSpec.post enc Tryd.prog Tryd.f8 false true false false W args v W' := by
  have hG := glob hL hsh
  have hW' := hW
  obtain ⟨p, q, hA0, hV, rfl, hfz, hnd⟩ := hW
  have hA : DataW.TrodAll enc Tryd.prog W 0 (fun _ => true) true Tryd.f8.params.toList args.toList ds p := hA0
  rw [Tryd.params8] at hA hval
  obtain ⟨v0, vs0, d0, ds0, p0, q0, hargs, rfl, rfl, h0, r0⟩ := trodAll_cons hA
  obtain ⟨v1, vs1, d1, ds1, p1, q1, rfl, rfl, rfl, h1, r1⟩ := trodAll_cons r0
  obtain ⟨v2, vs2, d2, ds2, p2, q2, rfl, rfl, rfl, h2, r2⟩ := trodAll_cons r1
  obtain ⟨rfl, rfl, rfl⟩ := trodAll_nil r2
  obtain rfl : args = #[v0, v1, v2] := by cases args; simp_all
  obtain ⟨rfl, rfl⟩ := trodVars_none hV
  have h0k := h0
  obtain ⟨A0, len0, c0, rfl⟩ := okWide_slice Tryd.underlying28 (hval 0 28 v0 rfl rfl)
  obtain ⟨fuel0, hf0⟩ := h0
  obtain ⟨a0, rfl, hc0, hC0, hd0⟩ := open_strs hf0
  obtain ⟨a1, rfl, rfl, rfl, y1⟩ := open_string Tryd.underlying9 (hval 1 9 v1 rfl rfl) h1
  obtain ⟨a2, rfl, rfl, rfl, y2⟩ := open_string Tryd.underlying9 (hval 2 9 v2 rfl rfl) h2
  obtain ⟨z0, y0⟩ := strs_small hk (d := d0) (by simp) hd0
  have z1 : a1.size < 1048576 := str_small hk a1 (by simp)
  have z2 : a2.size < 1048576 := str_small hk a2 (by simp)
  simp only [List.append_nil] at hW'
  have hlt : ∀ x ∈ p0, x.block < W.heap.size := fun x hx => hW'.lt x (by simpa using hx)
  clear hA0 hA hk hL
  obtain ⟨k, hp⟩ := P.textsTellsU a0 a1 a2 z0 y0 z1 z2
  refine (B.bolterlaw13_TextsTells.calls k A0 c0 a0 a1 a2 true W hC0 hc0 ⟨hG⟩ hp rfl).mono fun e W' ⟨he, bel⟩ => ?_
  subst he
  exact ⟨_, rfl, _, _, _, [], _, [], hW', trodAll_mk1 (shut_bool Tryd.underlying4 _), (trodAll_cons_mk (Below.trod laidOut (by kernel_rfl) (of_decide_eq_true (by kernel_rfl)) h0k bel (fun x hx => hlt x (by simp [hx]))) (trodAll_cons_mk (shut_string Tryd.underlying9 y1) (trodAll_cons_mk (shut_string Tryd.underlying9 y2) trodAll_mk0))), rfl, bel.frame _, fun h => by cases h⟩
set_option maxRecDepth 100000 in
theorem lifted (os : Os) (started : os.Started) (H : Type) (enc : TypeId × Value → H) (F : Stop.Interp) :
    ReturnsInHanded {} Tryd.checked os 8 .any ((Rows.OpenSpec.upto Rows.textsTellsSpec).preRow enc Tryd.prog Tryd.f8 Rows.textsTellsUptoRow.domain false Rows.textsTellsUptoRow.laid) (((Rows.OpenSpec.upto Rows.textsTellsSpec).at F).post enc Tryd.prog Tryd.f8 false true false false) := by
  obtain ⟨places, hx⟩ := reads os enc
  refine returnsInHanded_of_row (C := Tryd.checked) (s := Rows.OpenSpec.upto Rows.textsTellsSpec) own started (by kernel_rfl) Tryd.func8
    (witness_row_at (enc := enc) (C := Tryd.checked) false (laidWorld os) #[Value.slice none 0 0, Value.string ByteArray.empty, Value.string ByteArray.empty] rfl (by kernel_rfl) (by kernel_rfl) (by kernel_rfl)
      (OpenSpec.preRow_of_cond 8 hx (by kernel_rfl) (fun k hk => by cases hk; kernel_rfl) (by kernel_rfl) (laid_met os _))) ?_
  intro W base args ds gs before hval hW _ hk _ hL hsh _
  exact contract H enc W base args ds gs before hval hW (hk _ rfl) hL hsh
theorem said : Rows.TextsTellsUptoSaid :=
  OpenClaim.holds_of_cond 8 Tryd.f8 rfl rfl rfl rfl rfl rfl rfl ⟨rfl, rfl, rfl, rfl, rfl⟩ rfl rfl rfl rfl rfl (by kernel_rfl) Tryd.func8 (by kernel_rfl)
    (of_decide_eq_true (by kernel_rfl)) (by unfold Func.isWrapper; first | (rw [if_pos (by decide +kernel)]; kernel_rfl) | (rw [if_neg (by decide +kernel)]; exact ⟨rfl, rfl⟩))
    (fun os started H enc _ F => by rw [OpenClaim.pre_eq_preRow]; exact lifted os started H enc F)
theorem plain (f : FuncId) (fn : Func) (hf : Tryd.pinned.checked.prog.funcNamed "bolter/bolterlaw13.TextsTells" = some f) (hfn : Tryd.pinned.checked.prog.funcs[f]? = some fn) :
    false = Tryd.pinned.checked.prog.looks [] ∧ ∀ (j : Nat) t, fn.params[j]? = some t → Tryd.pinned.checked.prog.wantsStandIn t = false := by
  obtain rfl : f = 8 := Option.some.inj ((show Tryd.prog.funcNamed "bolter/bolterlaw13.TextsTells" = some 8 by kernel_rfl).symm.trans hf) |>.symm
  obtain rfl : fn = Tryd.f8 := (Option.some.inj (Tryd.func8.symm.trans hfn)).symm
  refine ⟨by kernel_rfl, fun j t ht => ?_⟩
  rw [Tryd.params8] at ht
  have hm : t ∈ (#[28, 9, 9] : Array TypeId) := Array.mem_of_getElem? ht
  have hall : ∀ t ∈ [28, 9, 9], Tryd.prog.wantsStandIn t = false := by
    intro t h
    simp only [List.mem_cons, List.mem_nil_iff, or_false] at h
    rcases h with rfl | rfl | rfl <;> kernel_rfl
  exact hall t (by simpa using hm)
theorem card : Rows.TextsTellsUptoCardSaid :=
  Claim7.holds_tied_plain_at .later [] _ _ _ _ said (fun _ h => by cases h) (by kernel_rfl) (fun _ h => by cases h) textsTellsUpto_row_tie rfl ⟨rfl, rfl⟩ (by kernel_rfl) rfl plain (by kernel_rfl)
#print axioms card
end Go.Proofs.YtdhjdddjgcfhkaaDoor.R.textsTells

end
