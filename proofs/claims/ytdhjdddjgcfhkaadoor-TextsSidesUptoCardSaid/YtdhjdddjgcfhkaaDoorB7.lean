-- Printed for this claim by this session's own changed copy of the print program (wip/tools).
import Derived.Test.YtdhjdddjgcfhkaaDoorHGlob
import Derived.Test.YtdhjdddjgcfhkaaDoorB0
import Derived.Test.YtdhjdddjgcfhkaaDoorB2
import Derived.Test.YtdhjdddjgcfhkaaDoorB4
import Derived.Test.YtdhjdddjgcfhkaaDoorB5
import Derived.Test.YtdhjdddjgcfhkaaDoorB6
namespace Go.Proofs.YtdhjdddjgcfhkaaDoor.B
open Go.RowKit Go.Proofs.YtdhjdddjgcfhkaaDoorW.PrintWords Go.Proofs.YtdhjdddjgcfhkaaDoorW.PrintLast Go.Proofs.YtdhjdddjgcfhkaaDoorW.PrintMore
attribute [local go_sem] max2_int min2_int max_two min_two max_three min_three max_four min_four   -- for this text's walks alone
set_option linter.unusedVariables false
set_option linter.unusedSimpArgs false

/-! ### bolterlaw13_TextsSides: function 5 -/
def bolterlaw13_TextsSides.j0 : Nat → ByteArray → Bool → Int → Bool → Int → ByteArray → Int → ByteArray → Int → Int → Bool → Option (Bool)
  | 0, _, _, _, _, _, _, _, _, _, _, _ => none
  | k + 1, x0, x5, x6, x7, x8, x9, x10, x11, x12, x14, x71 => if x71 = true then ((bolterlaw13_num.f x6).bind fun t226 => (if t226 = 0 then (if (x0.size : Int) > 16384 then (some true) else (some (x14 != 0))) else ((bolterlaw13_num.f x8).bind fun t227 => (if t227 = 0 then (if (x0.size : Int) > 16384 then (some true) else (some (x14 != 0))) else (some true))))) else ((bolterlaw13_num.f x6).bind fun t228 => ((bolterlaw13_num.f x8).bind fun t229 => ((bolterlaw13_num.f x10).bind fun t230 => ((bolterlaw13_num.f x12).bind fun t231 => (if (wrap64 ((wrap64 ((wrap64 (t228 + t229)) + t230)) + t231)) = 0 then (if x5 = true then (if x7 = true then (if x9.toList = x0.toList then (some (x11.toList == x0.toList)) else (some false)) else (some false)) else (some false)) else (some false))))))
def bolterlaw13_TextsSides.f (k : Nat) (a0 : ByteArray) (a1 : ByteArray) : Option (Bool) := (bolterlaw13_alive.f k).bind fun t213 => (if t213 = true then (if a1.size + a0.size ≤ 9223372036854775807 then ((texts_Begins.f k (a1 ++ a0) a1).bind fun bt214 => (if a0.size + a1.size ≤ 9223372036854775807 then ((texts_Ends.f k (a0 ++ a1) a1).bind fun bt216 => ((texts_TrimLeft.f k (a1 ++ a0) a1).bind fun bt218 => ((texts_TrimRight.f k (a0 ++ a1) a1).bind fun bt220 => ((bolterref04_Check.f k a0).bind fun bt222 => ((bolterref04_Check.f k a1).bind fun bt224 => (if bt222.2 = 0 then (if bt224.2 = 0 then (bolterlaw13_TextsSides.j0 k a0 bt214.1 bt214.2 bt216.1 bt216.2 bt218.1 bt218.2 bt220.1 bt220.2 bt222.2 (decide ((a0.size : Int) > 16384))) else (bolterlaw13_TextsSides.j0 k a0 bt214.1 bt214.2 bt216.1 bt216.2 bt218.1 bt218.2 bt220.1 bt220.2 bt222.2 true)) else (bolterlaw13_TextsSides.j0 k a0 bt214.1 bt214.2 bt216.1 bt216.2 bt218.1 bt218.2 bt220.1 bt220.2 bt222.2 true))))))) else (none))) else (none)) else (some false))
theorem bolterlaw13_TextsSides.mono_l : ∀ k, (∀ y0 y1 y2 y3 y4 y5 y6 y7 y8 y9 y10, LeO (bolterlaw13_TextsSides.j0 k y0 y1 y2 y3 y4 y5 y6 y7 y8 y9 y10) (bolterlaw13_TextsSides.j0 (k + 1) y0 y1 y2 y3 y4 y5 y6 y7 y8 y9 y10))
  | 0 => fun _ _ _ _ _ _ _ _ _ _ _ r h => by simp [bolterlaw13_TextsSides.j0] at h
  | k + 1 => by
    have ih0 := bolterlaw13_TextsSides.mono_l k
    · intro y0 y1 y2 y3 y4 y5 y6 y7 y8 y9 y10
      unfold bolterlaw13_TextsSides.j0
      repeat' first
      | (with_reducible exact ih0 _ _ _ _ _ _ _ _ _ _ _)
      | (with_reducible exact bolterlaw13_alive.mono _)
      | (with_reducible exact bolterref04_Check.mono _ _)
      | (with_reducible exact texts_Begins.mono _ _ _)
      | (with_reducible exact texts_Ends.mono _ _ _)
      | (with_reducible exact texts_TrimLeft.mono _ _ _)
      | (with_reducible exact texts_TrimRight.mono _ _ _)
      | (with_reducible exact LeO.refl _)
      | (with_reducible exact LeO.none _)
      | (with_reducible refine LeO.ite ?_ ?_)
      | (with_reducible refine LeO.bind ?_ (fun _ => ?_))
      | exact ih0 _ _ _ _ _ _ _ _ _ _ _
      | exact bolterlaw13_alive.mono _
      | exact bolterref04_Check.mono _ _
      | exact texts_Begins.mono _ _ _
      | exact texts_Ends.mono _ _ _
      | exact texts_TrimLeft.mono _ _ _
      | exact texts_TrimRight.mono _ _ _
      | exact LeO.none _
      | refine LeO.ite ?_ ?_
      | refine LeO.bind ?_ (fun _ => ?_)
theorem bolterlaw13_TextsSides.mono : ∀ a0 a1 k, LeO (bolterlaw13_TextsSides.f k a0 a1) (bolterlaw13_TextsSides.f (k + 1) a0 a1) := by
  intro a0 a1 k
  have ih0 := bolterlaw13_TextsSides.mono_l k
  unfold bolterlaw13_TextsSides.f
  repeat' first
      | (with_reducible exact ih0 _ _ _ _ _ _ _ _ _ _ _)
      | (with_reducible exact bolterlaw13_alive.mono _)
      | (with_reducible exact bolterref04_Check.mono _ _)
      | (with_reducible exact texts_Begins.mono _ _ _)
      | (with_reducible exact texts_Ends.mono _ _ _)
      | (with_reducible exact texts_TrimLeft.mono _ _ _)
      | (with_reducible exact texts_TrimRight.mono _ _ _)
      | (with_reducible exact LeO.refl _)
      | (with_reducible exact LeO.none _)
      | (with_reducible refine LeO.ite ?_ ?_)
      | (with_reducible refine LeO.bind ?_ (fun _ => ?_))
      | exact ih0 _ _ _ _ _ _ _ _ _ _ _
      | exact bolterlaw13_alive.mono _
      | exact bolterref04_Check.mono _ _
      | exact texts_Begins.mono _ _ _
      | exact texts_Ends.mono _ _ _
      | exact texts_TrimLeft.mono _ _ _
      | exact texts_TrimRight.mono _ _ _
      | exact LeO.none _
      | refine LeO.ite ?_ ?_
      | refine LeO.bind ?_ (fun _ => ?_)
set_option maxHeartbeats 8000000 in
set_option maxRecDepth 100000 in
theorem bolterlaw13_TextsSides.calls (k : Nat) (a0 : ByteArray) (a1 : ByteArray) (r : Bool) (w : World) (hG : Aside0 (GlobG w)) (h : bolterlaw13_TextsSides.f k a0 a1 = some r) :
    Calls Tryd.prog 5 #[.string a0, .string a1] w fun e w' => e = .returned (.bool r) ∧ Below w.heap.size w w' := by
  have HB := Aside0.mk (Below.refl w.heap.size w)
  have H : ((bolterlaw13_alive.f k).bind fun t213 => (if t213 = true then (if a1.size + a0.size ≤ 9223372036854775807 then ((texts_Begins.f k (a1 ++ a0) a1).bind fun bt214 => (if a0.size + a1.size ≤ 9223372036854775807 then ((texts_Ends.f k (a0 ++ a1) a1).bind fun bt216 => ((texts_TrimLeft.f k (a1 ++ a0) a1).bind fun bt218 => ((texts_TrimRight.f k (a0 ++ a1) a1).bind fun bt220 => ((bolterref04_Check.f k a0).bind fun bt222 => ((bolterref04_Check.f k a1).bind fun bt224 => (if bt222.2 = 0 then (if bt224.2 = 0 then (bolterlaw13_TextsSides.j0 k a0 bt214.1 bt214.2 bt216.1 bt216.2 bt218.1 bt218.2 bt220.1 bt220.2 bt222.2 (decide ((a0.size : Int) > 16384))) else (bolterlaw13_TextsSides.j0 k a0 bt214.1 bt214.2 bt216.1 bt216.2 bt218.1 bt218.2 bt220.1 bt220.2 bt222.2 true)) else (bolterlaw13_TextsSides.j0 k a0 bt214.1 bt214.2 bt216.1 bt216.2 bt218.1 bt218.2 bt220.1 bt220.2 bt222.2 true))))))) else (none))) else (none)) else (some false))) = some r := h
  clear h
  replace H := Option.bind_eq_some_iff.mp H
  obtain ⟨t213, A30, H⟩ := H
  replace H : (if t213 = true then (if a1.size + a0.size ≤ 9223372036854775807 then ((texts_Begins.f k (a1 ++ a0) a1).bind fun bt214 => (if a0.size + a1.size ≤ 9223372036854775807 then ((texts_Ends.f k (a0 ++ a1) a1).bind fun bt216 => ((texts_TrimLeft.f k (a1 ++ a0) a1).bind fun bt218 => ((texts_TrimRight.f k (a0 ++ a1) a1).bind fun bt220 => ((bolterref04_Check.f k a0).bind fun bt222 => ((bolterref04_Check.f k a1).bind fun bt224 => (if bt222.2 = 0 then (if bt224.2 = 0 then (bolterlaw13_TextsSides.j0 k a0 bt214.1 bt214.2 bt216.1 bt216.2 bt218.1 bt218.2 bt220.1 bt220.2 bt222.2 (decide ((a0.size : Int) > 16384))) else (bolterlaw13_TextsSides.j0 k a0 bt214.1 bt214.2 bt216.1 bt216.2 bt218.1 bt218.2 bt220.1 bt220.2 bt222.2 true)) else (bolterlaw13_TextsSides.j0 k a0 bt214.1 bt214.2 bt216.1 bt216.2 bt218.1 bt218.2 bt220.1 bt220.2 bt222.2 true))))))) else (none))) else (none)) else (some false)) = some r := H
  have A3 := Aside0.mk A30
  clear A30
  by_cases c4 : t213 = true
  · subst c4
    have H1 : (if a1.size + a0.size ≤ 9223372036854775807 then ((texts_Begins.f k (a1 ++ a0) a1).bind fun bt214 => (if a0.size + a1.size ≤ 9223372036854775807 then ((texts_Ends.f k (a0 ++ a1) a1).bind fun bt216 => ((texts_TrimLeft.f k (a1 ++ a0) a1).bind fun bt218 => ((texts_TrimRight.f k (a0 ++ a1) a1).bind fun bt220 => ((bolterref04_Check.f k a0).bind fun bt222 => ((bolterref04_Check.f k a1).bind fun bt224 => (if bt222.2 = 0 then (if bt224.2 = 0 then (bolterlaw13_TextsSides.j0 k a0 bt214.1 bt214.2 bt216.1 bt216.2 bt218.1 bt218.2 bt220.1 bt220.2 bt222.2 (decide ((a0.size : Int) > 16384))) else (bolterlaw13_TextsSides.j0 k a0 bt214.1 bt214.2 bt216.1 bt216.2 bt218.1 bt218.2 bt220.1 bt220.2 bt222.2 true)) else (bolterlaw13_TextsSides.j0 k a0 bt214.1 bt214.2 bt216.1 bt216.2 bt218.1 bt218.2 bt220.1 bt220.2 bt222.2 true))))))) else (none))) else (none)) = some r := by rw [if_pos rfl] at H; exact H
    clear H
    have H := H1
    clear H1
    by_cases c5 : a1.size + a0.size ≤ 9223372036854775807
    · rw [if_pos c5] at H
      have c5b0 := eq_true c5
      have c5b1 : decide (a1.size + a0.size ≤ 9223372036854775807) = true := decide_eq_true c5
      try have c5b2 : (9223372036854775807 < a1.size + a0.size) = False := eq_false (Nat.not_lt.2 c5)
      replace H := Option.bind_eq_some_iff.mp H
      obtain ⟨⟨t214, t215⟩, A60, H⟩ := H
      replace H : (if a0.size + a1.size ≤ 9223372036854775807 then ((texts_Ends.f k (a0 ++ a1) a1).bind fun bt216 => ((texts_TrimLeft.f k (a1 ++ a0) a1).bind fun bt218 => ((texts_TrimRight.f k (a0 ++ a1) a1).bind fun bt220 => ((bolterref04_Check.f k a0).bind fun bt222 => ((bolterref04_Check.f k a1).bind fun bt224 => (if bt222.2 = 0 then (if bt224.2 = 0 then (bolterlaw13_TextsSides.j0 k a0 t214 t215 bt216.1 bt216.2 bt218.1 bt218.2 bt220.1 bt220.2 bt222.2 (decide ((a0.size : Int) > 16384))) else (bolterlaw13_TextsSides.j0 k a0 t214 t215 bt216.1 bt216.2 bt218.1 bt218.2 bt220.1 bt220.2 bt222.2 true)) else (bolterlaw13_TextsSides.j0 k a0 t214 t215 bt216.1 bt216.2 bt218.1 bt218.2 bt220.1 bt220.2 bt222.2 true))))))) else (none)) = some r := H
      have A6 := Aside0.mk A60
      clear A60
      by_cases c7 : a0.size + a1.size ≤ 9223372036854775807
      · rw [if_pos c7] at H
        have c7b0 := eq_true c7
        have c7b1 : decide (a0.size + a1.size ≤ 9223372036854775807) = true := decide_eq_true c7
        try have c7b2 : (9223372036854775807 < a0.size + a1.size) = False := eq_false (Nat.not_lt.2 c7)
        replace H := Option.bind_eq_some_iff.mp H
        obtain ⟨⟨t216, t217⟩, A80, H⟩ := H
        replace H : ((texts_TrimLeft.f k (a1 ++ a0) a1).bind fun bt218 => ((texts_TrimRight.f k (a0 ++ a1) a1).bind fun bt220 => ((bolterref04_Check.f k a0).bind fun bt222 => ((bolterref04_Check.f k a1).bind fun bt224 => (if bt222.2 = 0 then (if bt224.2 = 0 then (bolterlaw13_TextsSides.j0 k a0 t214 t215 t216 t217 bt218.1 bt218.2 bt220.1 bt220.2 bt222.2 (decide ((a0.size : Int) > 16384))) else (bolterlaw13_TextsSides.j0 k a0 t214 t215 t216 t217 bt218.1 bt218.2 bt220.1 bt220.2 bt222.2 true)) else (bolterlaw13_TextsSides.j0 k a0 t214 t215 t216 t217 bt218.1 bt218.2 bt220.1 bt220.2 bt222.2 true)))))) = some r := H
        have A8 := Aside0.mk A80
        clear A80
        replace H := Option.bind_eq_some_iff.mp H
        obtain ⟨⟨t218, t219⟩, A90, H⟩ := H
        replace H : ((texts_TrimRight.f k (a0 ++ a1) a1).bind fun bt220 => ((bolterref04_Check.f k a0).bind fun bt222 => ((bolterref04_Check.f k a1).bind fun bt224 => (if bt222.2 = 0 then (if bt224.2 = 0 then (bolterlaw13_TextsSides.j0 k a0 t214 t215 t216 t217 t218 t219 bt220.1 bt220.2 bt222.2 (decide ((a0.size : Int) > 16384))) else (bolterlaw13_TextsSides.j0 k a0 t214 t215 t216 t217 t218 t219 bt220.1 bt220.2 bt222.2 true)) else (bolterlaw13_TextsSides.j0 k a0 t214 t215 t216 t217 t218 t219 bt220.1 bt220.2 bt222.2 true))))) = some r := H
        have A9 := Aside0.mk A90
        clear A90
        replace H := Option.bind_eq_some_iff.mp H
        obtain ⟨⟨t220, t221⟩, A100, H⟩ := H
        replace H : ((bolterref04_Check.f k a0).bind fun bt222 => ((bolterref04_Check.f k a1).bind fun bt224 => (if bt222.2 = 0 then (if bt224.2 = 0 then (bolterlaw13_TextsSides.j0 k a0 t214 t215 t216 t217 t218 t219 t220 t221 bt222.2 (decide ((a0.size : Int) > 16384))) else (bolterlaw13_TextsSides.j0 k a0 t214 t215 t216 t217 t218 t219 t220 t221 bt222.2 true)) else (bolterlaw13_TextsSides.j0 k a0 t214 t215 t216 t217 t218 t219 t220 t221 bt222.2 true)))) = some r := H
        have A10 := Aside0.mk A100
        clear A100
        replace H := Option.bind_eq_some_iff.mp H
        obtain ⟨⟨t222, t223⟩, A110, H⟩ := H
        replace H : ((bolterref04_Check.f k a1).bind fun bt224 => (if t223 = 0 then (if bt224.2 = 0 then (bolterlaw13_TextsSides.j0 k a0 t214 t215 t216 t217 t218 t219 t220 t221 t223 (decide ((a0.size : Int) > 16384))) else (bolterlaw13_TextsSides.j0 k a0 t214 t215 t216 t217 t218 t219 t220 t221 t223 true)) else (bolterlaw13_TextsSides.j0 k a0 t214 t215 t216 t217 t218 t219 t220 t221 t223 true))) = some r := H
        have A11 := Aside0.mk A110
        clear A110
        replace H := Option.bind_eq_some_iff.mp H
        obtain ⟨⟨t224, t225⟩, A120, H⟩ := H
        replace H : (if t223 = 0 then (if t225 = 0 then (bolterlaw13_TextsSides.j0 k a0 t214 t215 t216 t217 t218 t219 t220 t221 t223 (decide ((a0.size : Int) > 16384))) else (bolterlaw13_TextsSides.j0 k a0 t214 t215 t216 t217 t218 t219 t220 t221 t223 true)) else (bolterlaw13_TextsSides.j0 k a0 t214 t215 t216 t217 t218 t219 t220 t221 t223 true)) = some r := H
        have A12 := Aside0.mk A120
        clear A120
        have HC13 := Aside0.mk H
        clear H
        go_enter Tryd.func5, Tryd.ntmps5
        go_upto_region 9 with (first | ((with_reducible refine gate_callee (f := 10) rfl ?_); refine goesL_ (some 17) rfl rfl Tryd.func10 (by kernel_rfl) rfl #[] rfl (by (try simp only [List.map_toArray, List.map_cons, List.map_nil]); first | done | rfl | (simp only [List.length_drop, List.length_take]; rfl)) ?_; (with_reducible refine (bolterlaw13_alive.calls k  true _ ?side1 A3.out).mono ?_); (case side1 => exact Aside0.mk (GlobG.below (by repeat (first | (with_reducible first | exact HB.out | apply below_alloc | apply pw_below_drewN | apply below_drew1) | exact HB.out)) hG.out)); rintro e w14 ⟨rfl, hb⟩; refine ⟨_, rfl, ?_⟩; have n0_ := Aside0.mk (below_step (by repeat (first | (with_reducible first | exact HB.out | apply below_alloc | apply pw_below_drewN | apply below_drew1) | exact HB.out)) hb); clear HB; have HB := n0_; clear n0_; (try clear hb); (try clear hb2); (try clear hk); (try clear hi)) | ((with_reducible refine gate_callee (f := 16) rfl ?_); refine goesL_ (some 24) rfl rfl Tryd.func16 (by kernel_rfl) rfl #[.string (a1 ++ a0), .string a1] rfl (by (try simp only [List.map_toArray, List.map_cons, List.map_nil]); first | done | rfl | (simp only [List.length_drop, List.length_take]; rfl)) ?_; (with_reducible refine (texts_Begins.calls k (a1 ++ a0) a1 t214 t215 _ ?side1 A6.out).mono ?_); (case side1 => exact Aside0.mk (GlobG.below (by repeat (first | (with_reducible first | exact HB.out | apply below_alloc | apply pw_below_drewN | apply below_drew1) | exact HB.out)) hG.out)); rintro e w15 ⟨rfl, hb⟩; refine ⟨_, rfl, ?_⟩; have n0_ := Aside0.mk (below_step (by repeat (first | (with_reducible first | exact HB.out | apply below_alloc | apply pw_below_drewN | apply below_drew1) | exact HB.out)) hb); clear HB; have HB := n0_; clear n0_; (try clear hb); (try clear hb2); (try clear hk); (try clear hi)) | ((with_reducible refine gate_callee (f := 17) rfl ?_); refine goesL_ (some 32) rfl rfl Tryd.func17 (by kernel_rfl) rfl #[.string (a0 ++ a1), .string a1] rfl (by (try simp only [List.map_toArray, List.map_cons, List.map_nil]); first | done | rfl | (simp only [List.length_drop, List.length_take]; rfl)) ?_; (with_reducible refine (texts_Ends.calls k (a0 ++ a1) a1 t216 t217 _ ?side1 A8.out).mono ?_); (case side1 => exact Aside0.mk (GlobG.below (by repeat (first | (with_reducible first | exact HB.out | apply below_alloc | apply pw_below_drewN | apply below_drew1) | exact HB.out)) hG.out)); rintro e w16 ⟨rfl, hb⟩; refine ⟨_, rfl, ?_⟩; have n0_ := Aside0.mk (below_step (by repeat (first | (with_reducible first | exact HB.out | apply below_alloc | apply pw_below_drewN | apply below_drew1) | exact HB.out)) hb); clear HB; have HB := n0_; clear n0_; (try clear hb); (try clear hb2); (try clear hk); (try clear hi)) | ((with_reducible refine gate_callee (f := 18) rfl ?_); refine goesL_ (some 40) rfl rfl Tryd.func18 (by kernel_rfl) rfl #[.string (a1 ++ a0), .string a1] rfl (by (try simp only [List.map_toArray, List.map_cons, List.map_nil]); first | done | rfl | (simp only [List.length_drop, List.length_take]; rfl)) ?_; (with_reducible refine (texts_TrimLeft.calls k (a1 ++ a0) a1 t218 t219 _ ?side1 A9.out).mono ?_); (case side1 => exact Aside0.mk (GlobG.below (by repeat (first | (with_reducible first | exact HB.out | apply below_alloc | apply pw_below_drewN | apply below_drew1) | exact HB.out)) hG.out)); rintro e w17 ⟨rfl, hb⟩; refine ⟨_, rfl, ?_⟩; have n0_ := Aside0.mk (below_step (by repeat (first | (with_reducible first | exact HB.out | apply below_alloc | apply pw_below_drewN | apply below_drew1) | exact HB.out)) hb); clear HB; have HB := n0_; clear n0_; (try clear hb); (try clear hb2); (try clear hk); (try clear hi)) | ((with_reducible refine gate_callee (f := 19) rfl ?_); refine goesL_ (some 48) rfl rfl Tryd.func19 (by kernel_rfl) rfl #[.string (a0 ++ a1), .string a1] rfl (by (try simp only [List.map_toArray, List.map_cons, List.map_nil]); first | done | rfl | (simp only [List.length_drop, List.length_take]; rfl)) ?_; (with_reducible refine (texts_TrimRight.calls k (a0 ++ a1) a1 t220 t221 _ ?side1 A10.out).mono ?_); (case side1 => exact Aside0.mk (GlobG.below (by repeat (first | (with_reducible first | exact HB.out | apply below_alloc | apply pw_below_drewN | apply below_drew1) | exact HB.out)) hG.out)); rintro e w18 ⟨rfl, hb⟩; refine ⟨_, rfl, ?_⟩; have n0_ := Aside0.mk (below_step (by repeat (first | (with_reducible first | exact HB.out | apply below_alloc | apply pw_below_drewN | apply below_drew1) | exact HB.out)) hb); clear HB; have HB := n0_; clear n0_; (try clear hb); (try clear hb2); (try clear hk); (try clear hi)) | ((with_reducible refine gate_callee (f := 20) rfl ?_); refine goesL_ (some 53) rfl rfl Tryd.func20 (by kernel_rfl) rfl #[.string a0] rfl (by (try simp only [List.map_toArray, List.map_cons, List.map_nil]); first | done | rfl | (simp only [List.length_drop, List.length_take]; rfl)) ?_; (with_reducible refine (bolterref04_Check.calls k a0 t222 t223 _ A11.out).mono ?_); rintro e w19 ⟨rfl, hb⟩; refine ⟨_, rfl, ?_⟩; have n0_ := Aside0.mk (below_step (by repeat (first | (with_reducible first | exact HB.out | apply below_alloc | apply pw_below_drewN | apply below_drew1) | exact HB.out)) hb); clear HB; have HB := n0_; clear n0_; (try clear hb); (try clear hb2); (try clear hk); (try clear hi)) | ((with_reducible refine gate_callee (f := 20) rfl ?_); refine goesL_ (some 58) rfl rfl Tryd.func20 (by kernel_rfl) rfl #[.string a1] rfl (by (try simp only [List.map_toArray, List.map_cons, List.map_nil]); first | done | rfl | (simp only [List.length_drop, List.length_take]; rfl)) ?_; (with_reducible refine (bolterref04_Check.calls k a1 t224 t225 _ A12.out).mono ?_); rintro e w20 ⟨rfl, hb⟩; refine ⟨_, rfl, ?_⟩; have n0_ := Aside0.mk (below_step (by repeat (first | (with_reducible first | exact HB.out | apply below_alloc | apply pw_below_drewN | apply below_drew1) | exact HB.out)) hb); clear HB; have HB := n0_; clear n0_; (try clear hb); (try clear hb2); (try clear hk); (try clear hi)))
        (try simp only [Act.put, List.setIfInBounds_toArray, List.set_cons_zero, List.set_cons_succ])
        go_cut [71] (fun v71 wc => ∃ (kq : Nat) (x71_12 : Bool), v71 = .bool x71_12 ∧ Aside0 (bolterlaw13_TextsSides.j0 kq a0 t214 t215 t216 t217 t218 t219 t220 t221 t223 x71_12 = some r) ∧ Aside0 (kq ≤ k) ∧ Aside0 (Below w.heap.size w wc))
        case first =>
          have H := HC13.out
          clear HC13
          by_cases c21 : t223 = 0
          · rw [if_pos c21] at H
            have c21b0 : (t223 == 0) = true := beq_iff_eq.mpr c21
            have c21b1 : (t223 != 0) = false := bne_eq_false_iff_eq.mpr c21
            clear c21
            (first | rw [c21b0] | (simp only [i64_w, i32_w]; rw [c21b0]) | skip)
            by_cases c22 : t225 = 0
            · rw [if_pos c22] at H
              have c22b0 : (t225 == 0) = true := beq_iff_eq.mpr c22
              have c22b1 : (t225 != 0) = false := bne_eq_false_iff_eq.mpr c22
              clear c22
              have H' := Aside0.mk H
              clear H
              go_wp2
              go_meet
              case rel => exact ⟨_, (decide ((a0.size : Int) > 16384)), (by first | rfl | (simp; done) | (simp [*]; done)), H', ⟨by first | omega | exact Nat.le_refl _⟩, ⟨by repeat (first | (with_reducible first | exact HB.out | apply below_alloc | apply pw_below_drewN | apply below_drew1) | exact HB.out)⟩⟩
            · rw [if_neg c22] at H
              have c22b0 : (t225 == 0) = false := beq_eq_false_iff_ne.mpr c22
              have c22b1 : (t225 != 0) = true := bne_iff_ne.mpr c22
              have H' := Aside0.mk H
              clear H
              go_wp2
              go_meet
              case rel => exact ⟨_, (true), (by first | rfl | (simp; done) | (simp [*]; done)), H', ⟨by first | omega | exact Nat.le_refl _⟩, ⟨by repeat (first | (with_reducible first | exact HB.out | apply below_alloc | apply pw_below_drewN | apply below_drew1) | exact HB.out)⟩⟩
          · rw [if_neg c21] at H
            have c21b0 : (t223 == 0) = false := beq_eq_false_iff_ne.mpr c21
            have c21b1 : (t223 != 0) = true := bne_iff_ne.mpr c21
            (first | rw [c21b0] | (simp only [i64_w, i32_w]; rw [c21b0]) | skip)
            have H' := Aside0.mk H
            clear H
            go_wp2
            go_meet
            case rel => exact ⟨_, (true), (by first | rfl | (simp; done) | (simp [*]; done)), H', ⟨by first | omega | exact Nat.le_refl _⟩, ⟨by repeat (first | (with_reducible first | exact HB.out | apply below_alloc | apply pw_below_drewN | apply below_drew1) | exact HB.out)⟩⟩
        case rest =>
          clear HC13
          try clear c1
          try clear c2
          try clear p2
          try clear c4
          try clear c5
          try clear c5b0
          try clear c5b1
          try clear c5b2
          try clear c7
          try clear c7b0
          try clear c7b1
          try clear c7b2
          try clear c10
          try clear c16
          try clear c17
          try clear c18
          try clear c19
          try clear c20
          try clear c21
          try clear c21b0
          try clear c21b1
          try clear c22
          try clear c22b0
          try clear c22b1
          obtain ⟨kq, x71_12, rfl, HA, HJ12, HB⟩ := hcut
          cases kq with
          | zero => exact absurd HA.out (by simp [bolterlaw13_TextsSides.j0])
          | succ kj12 =>
            have H := HA.out
            clear HA
            simp only [bolterlaw13_TextsSides.j0] at H
            by_cases c23 : x71_12 = true
            · subst c23
              have H1 : ((bolterlaw13_num.f t215).bind fun t226 => (if t226 = 0 then (if (a0.size : Int) > 16384 then (some true) else (some (t223 != 0))) else ((bolterlaw13_num.f t217).bind fun t227 => (if t227 = 0 then (if (a0.size : Int) > 16384 then (some true) else (some (t223 != 0))) else (some true))))) = some r := by rw [if_pos rfl] at H; exact H
              clear H
              have H := H1
              clear H1
              replace H := Option.bind_eq_some_iff.mp H
              obtain ⟨t226, A240, H⟩ := H
              replace H : (if t226 = 0 then (if (a0.size : Int) > 16384 then (some true) else (some (t223 != 0))) else ((bolterlaw13_num.f t217).bind fun t227 => (if t227 = 0 then (if (a0.size : Int) > 16384 then (some true) else (some (t223 != 0))) else (some true)))) = some r := H
              have A24 := Aside0.mk A240
              clear A240
              by_cases c25 : t226 = 0
              · rw [if_pos c25] at H
                have c25b0 : (t226 == 0) = true := beq_iff_eq.mpr c25
                have c25b1 : (t226 != 0) = false := bne_eq_false_iff_eq.mpr c25
                clear c25
                by_cases c26 : (a0.size : Int) > 16384
                · rw [if_pos c26] at H
                  have c26b0 : decide (16384 < (a0.size : Int)) = true := decide_eq_true c26
                  have c26b1 : decide (16384 < a0.size) = true := decide_eq_true (by omega)
                  clear c26
                  obtain rfl := Option.some.inj H
                  go_wp2_with (first | ((with_reducible refine gate_callee (f := 13) rfl ?_); refine goesL_ (some 73) rfl rfl Tryd.func13 (by kernel_rfl) rfl #[.int .i64 t215] rfl (by (try simp only [List.map_toArray, List.map_cons, List.map_nil]); first | done | rfl | (simp only [List.length_drop, List.length_take]; rfl)) ?_; (with_reducible refine (bolterlaw13_num.calls t215 t226 _ A24.out).mono ?_); rintro e w' ⟨rfl, ⟨nd, rfl⟩⟩; refine ⟨_, rfl, ?_⟩))
                  go_ret
                  exact ⟨by first | rfl | (simp [errW_none, errW_some] <;> rfl) | (simp [*, errW_none, errW_some] <;> rfl), by repeat (first | (with_reducible first | exact HB.out | apply below_alloc | apply pw_below_drewN | apply below_drew1) | exact HB.out)⟩
                · rw [if_neg c26] at H
                  have c26b0 : decide (16384 < (a0.size : Int)) = false := decide_eq_false c26
                  have c26b1 : decide (16384 < a0.size) = false := decide_eq_false (by omega)
                  clear c26
                  obtain rfl := Option.some.inj H
                  go_wp2_with (first | ((with_reducible refine gate_callee (f := 13) rfl ?_); refine goesL_ (some 73) rfl rfl Tryd.func13 (by kernel_rfl) rfl #[.int .i64 t215] rfl (by (try simp only [List.map_toArray, List.map_cons, List.map_nil]); first | done | rfl | (simp only [List.length_drop, List.length_take]; rfl)) ?_; (with_reducible refine (bolterlaw13_num.calls t215 t226 _ A24.out).mono ?_); rintro e w' ⟨rfl, ⟨nd, rfl⟩⟩; refine ⟨_, rfl, ?_⟩))
                  go_ret
                  exact ⟨by first | rfl | (simp [errW_none, errW_some] <;> rfl) | (simp [*, errW_none, errW_some] <;> rfl), by repeat (first | (with_reducible first | exact HB.out | apply below_alloc | apply pw_below_drewN | apply below_drew1) | exact HB.out)⟩
              · rw [if_neg c25] at H
                have c25b0 : (t226 == 0) = false := beq_eq_false_iff_ne.mpr c25
                have c25b1 : (t226 != 0) = true := bne_iff_ne.mpr c25
                replace H := Option.bind_eq_some_iff.mp H
                obtain ⟨t227, A270, H⟩ := H
                replace H : (if t227 = 0 then (if (a0.size : Int) > 16384 then (some true) else (some (t223 != 0))) else (some true)) = some r := H
                have A27 := Aside0.mk A270
                clear A270
                by_cases c28 : t227 = 0
                · rw [if_pos c28] at H
                  have c28b0 : (t227 == 0) = true := beq_iff_eq.mpr c28
                  have c28b1 : (t227 != 0) = false := bne_eq_false_iff_eq.mpr c28
                  clear c28
                  by_cases c29 : (a0.size : Int) > 16384
                  · rw [if_pos c29] at H
                    have c29b0 : decide (16384 < (a0.size : Int)) = true := decide_eq_true c29
                    have c29b1 : decide (16384 < a0.size) = true := decide_eq_true (by omega)
                    clear c29
                    obtain rfl := Option.some.inj H
                    go_wp2_with (first | ((with_reducible refine gate_callee (f := 13) rfl ?_); refine goesL_ (some 73) rfl rfl Tryd.func13 (by kernel_rfl) rfl #[.int .i64 t215] rfl (by (try simp only [List.map_toArray, List.map_cons, List.map_nil]); first | done | rfl | (simp only [List.length_drop, List.length_take]; rfl)) ?_; (with_reducible refine (bolterlaw13_num.calls t215 t226 _ A24.out).mono ?_); rintro e w' ⟨rfl, ⟨nd, rfl⟩⟩; refine ⟨_, rfl, ?_⟩) | (go_at_call 13; (with_reducible refine (bolterlaw13_num.calls t217 t227 _ A27.out).mono ?_); rintro e w' ⟨rfl, ⟨nd, rfl⟩⟩))
                    go_ret
                    exact ⟨by first | rfl | (simp [errW_none, errW_some] <;> rfl) | (simp [*, errW_none, errW_some] <;> rfl), by repeat (first | (with_reducible first | exact HB.out | apply below_alloc | apply pw_below_drewN | apply below_drew1) | exact HB.out)⟩
                  · rw [if_neg c29] at H
                    have c29b0 : decide (16384 < (a0.size : Int)) = false := decide_eq_false c29
                    have c29b1 : decide (16384 < a0.size) = false := decide_eq_false (by omega)
                    clear c29
                    obtain rfl := Option.some.inj H
                    go_wp2_with (first | ((with_reducible refine gate_callee (f := 13) rfl ?_); refine goesL_ (some 73) rfl rfl Tryd.func13 (by kernel_rfl) rfl #[.int .i64 t215] rfl (by (try simp only [List.map_toArray, List.map_cons, List.map_nil]); first | done | rfl | (simp only [List.length_drop, List.length_take]; rfl)) ?_; (with_reducible refine (bolterlaw13_num.calls t215 t226 _ A24.out).mono ?_); rintro e w' ⟨rfl, ⟨nd, rfl⟩⟩; refine ⟨_, rfl, ?_⟩) | (go_at_call 13; (with_reducible refine (bolterlaw13_num.calls t217 t227 _ A27.out).mono ?_); rintro e w' ⟨rfl, ⟨nd, rfl⟩⟩))
                    go_ret
                    exact ⟨by first | rfl | (simp [errW_none, errW_some] <;> rfl) | (simp [*, errW_none, errW_some] <;> rfl), by repeat (first | (with_reducible first | exact HB.out | apply below_alloc | apply pw_below_drewN | apply below_drew1) | exact HB.out)⟩
                · rw [if_neg c28] at H
                  have c28b0 : (t227 == 0) = false := beq_eq_false_iff_ne.mpr c28
                  have c28b1 : (t227 != 0) = true := bne_iff_ne.mpr c28
                  obtain rfl := Option.some.inj H
                  go_wp2_with (first | ((with_reducible refine gate_callee (f := 13) rfl ?_); refine goesL_ (some 73) rfl rfl Tryd.func13 (by kernel_rfl) rfl #[.int .i64 t215] rfl (by (try simp only [List.map_toArray, List.map_cons, List.map_nil]); first | done | rfl | (simp only [List.length_drop, List.length_take]; rfl)) ?_; (with_reducible refine (bolterlaw13_num.calls t215 t226 _ A24.out).mono ?_); rintro e w' ⟨rfl, ⟨nd, rfl⟩⟩; refine ⟨_, rfl, ?_⟩) | (go_at_call 13; (with_reducible refine (bolterlaw13_num.calls t217 t227 _ A27.out).mono ?_); rintro e w' ⟨rfl, ⟨nd, rfl⟩⟩))
                  go_ret
                  exact ⟨by first | rfl | (simp [errW_none, errW_some] <;> rfl) | (simp [*, errW_none, errW_some] <;> rfl), by repeat (first | (with_reducible first | exact HB.out | apply below_alloc | apply pw_below_drewN | apply below_drew1) | exact HB.out)⟩
            · replace c23 := Bool.eq_false_iff.mpr c23
              subst c23
              have H1 : ((bolterlaw13_num.f t215).bind fun t228 => ((bolterlaw13_num.f t217).bind fun t229 => ((bolterlaw13_num.f t219).bind fun t230 => ((bolterlaw13_num.f t221).bind fun t231 => (if (wrap64 ((wrap64 ((wrap64 (t228 + t229)) + t230)) + t231)) = 0 then (if t214 = true then (if t216 = true then (if t218.toList = a0.toList then (some (t220.toList == a0.toList)) else (some false)) else (some false)) else (some false)) else (some false)))))) = some r := by rw [if_neg (show ¬ (false = true) by decide)] at H; exact H
              clear H
              have H := H1
              clear H1
              replace H := Option.bind_eq_some_iff.mp H
              obtain ⟨t228, A300, H⟩ := H
              replace H : ((bolterlaw13_num.f t217).bind fun t229 => ((bolterlaw13_num.f t219).bind fun t230 => ((bolterlaw13_num.f t221).bind fun t231 => (if (wrap64 ((wrap64 ((wrap64 (t228 + t229)) + t230)) + t231)) = 0 then (if t214 = true then (if t216 = true then (if t218.toList = a0.toList then (some (t220.toList == a0.toList)) else (some false)) else (some false)) else (some false)) else (some false))))) = some r := H
              have A30 := Aside0.mk A300
              clear A300
              replace H := Option.bind_eq_some_iff.mp H
              obtain ⟨t229, A310, H⟩ := H
              replace H : ((bolterlaw13_num.f t219).bind fun t230 => ((bolterlaw13_num.f t221).bind fun t231 => (if (wrap64 ((wrap64 ((wrap64 (t228 + t229)) + t230)) + t231)) = 0 then (if t214 = true then (if t216 = true then (if t218.toList = a0.toList then (some (t220.toList == a0.toList)) else (some false)) else (some false)) else (some false)) else (some false)))) = some r := H
              have A31 := Aside0.mk A310
              clear A310
              replace H := Option.bind_eq_some_iff.mp H
              obtain ⟨t230, A320, H⟩ := H
              replace H : ((bolterlaw13_num.f t221).bind fun t231 => (if (wrap64 ((wrap64 ((wrap64 (t228 + t229)) + t230)) + t231)) = 0 then (if t214 = true then (if t216 = true then (if t218.toList = a0.toList then (some (t220.toList == a0.toList)) else (some false)) else (some false)) else (some false)) else (some false))) = some r := H
              have A32 := Aside0.mk A320
              clear A320
              replace H := Option.bind_eq_some_iff.mp H
              obtain ⟨t231, A330, H⟩ := H
              replace H : (if (wrap64 ((wrap64 ((wrap64 (t228 + t229)) + t230)) + t231)) = 0 then (if t214 = true then (if t216 = true then (if t218.toList = a0.toList then (some (t220.toList == a0.toList)) else (some false)) else (some false)) else (some false)) else (some false)) = some r := H
              have A33 := Aside0.mk A330
              clear A330
              by_cases c34 : (wrap64 ((wrap64 ((wrap64 (t228 + t229)) + t230)) + t231)) = 0
              · rw [if_pos c34] at H
                have c34b0 : ((wrap64 ((wrap64 ((wrap64 (t228 + t229)) + t230)) + t231)) == 0) = true := beq_iff_eq.mpr c34
                have c34b1 : ((wrap64 ((wrap64 ((wrap64 (t228 + t229)) + t230)) + t231)) != 0) = false := bne_eq_false_iff_eq.mpr c34
                clear c34
                by_cases c35 : t214 = true
                · subst c35
                  have H1 : (if t216 = true then (if t218.toList = a0.toList then (some (t220.toList == a0.toList)) else (some false)) else (some false)) = some r := by rw [if_pos rfl] at H; exact H
                  clear H
                  have H := H1
                  clear H1
                  by_cases c36 : t216 = true
                  · subst c36
                    have H1 : (if t218.toList = a0.toList then (some (t220.toList == a0.toList)) else (some false)) = some r := by rw [if_pos rfl] at H; exact H
                    clear H
                    have H := H1
                    clear H1
                    by_cases c37 : t218.toList = a0.toList
                    · rw [if_pos c37] at H
                      have c37b0 : (t218.toList == a0.toList) = true := beq_iff_eq.mpr c37
                      have c37b1 : (t218.toList != a0.toList) = false := bne_eq_false_iff_eq.mpr c37
                      clear c37
                      obtain rfl := Option.some.inj H
                      go_wp2_with (first | ((with_reducible refine gate_callee (f := 13) rfl ?_); refine goesL_ (some 90) rfl rfl Tryd.func13 (by kernel_rfl) rfl #[.int .i64 t215] rfl (by (try simp only [List.map_toArray, List.map_cons, List.map_nil]); first | done | rfl | (simp only [List.length_drop, List.length_take]; rfl)) ?_; (with_reducible refine (bolterlaw13_num.calls t215 t228 _ A30.out).mono ?_); rintro e w' ⟨rfl, ⟨nd, rfl⟩⟩; refine ⟨_, rfl, ?_⟩) | ((with_reducible refine gate_callee (f := 13) rfl ?_); refine goesL_ (some 92) rfl rfl Tryd.func13 (by kernel_rfl) rfl #[.int .i64 t217] rfl (by (try simp only [List.map_toArray, List.map_cons, List.map_nil]); first | done | rfl | (simp only [List.length_drop, List.length_take]; rfl)) ?_; (with_reducible refine (bolterlaw13_num.calls t217 t229 _ A31.out).mono ?_); rintro e w' ⟨rfl, ⟨nd, rfl⟩⟩; refine ⟨_, rfl, ?_⟩) | ((with_reducible refine gate_callee (f := 13) rfl ?_); refine goesL_ (some 95) rfl rfl Tryd.func13 (by kernel_rfl) rfl #[.int .i64 t219] rfl (by (try simp only [List.map_toArray, List.map_cons, List.map_nil]); first | done | rfl | (simp only [List.length_drop, List.length_take]; rfl)) ?_; (with_reducible refine (bolterlaw13_num.calls t219 t230 _ A32.out).mono ?_); rintro e w' ⟨rfl, ⟨nd, rfl⟩⟩; refine ⟨_, rfl, ?_⟩) | ((with_reducible refine gate_callee (f := 13) rfl ?_); refine goesL_ (some 98) rfl rfl Tryd.func13 (by kernel_rfl) rfl #[.int .i64 t221] rfl (by (try simp only [List.map_toArray, List.map_cons, List.map_nil]); first | done | rfl | (simp only [List.length_drop, List.length_take]; rfl)) ?_; (with_reducible refine (bolterlaw13_num.calls t221 t231 _ A33.out).mono ?_); rintro e w' ⟨rfl, ⟨nd, rfl⟩⟩; refine ⟨_, rfl, ?_⟩))
                      go_ret
                      exact ⟨by first | rfl | (simp [errW_none, errW_some] <;> rfl) | (simp [*, errW_none, errW_some] <;> rfl), by repeat (first | (with_reducible first | exact HB.out | apply below_alloc | apply pw_below_drewN | apply below_drew1) | exact HB.out)⟩
                    · rw [if_neg c37] at H
                      have c37b0 : (t218.toList == a0.toList) = false := beq_eq_false_iff_ne.mpr c37
                      have c37b1 : (t218.toList != a0.toList) = true := bne_iff_ne.mpr c37
                      obtain rfl := Option.some.inj H
                      go_wp2_with (first | ((with_reducible refine gate_callee (f := 13) rfl ?_); refine goesL_ (some 90) rfl rfl Tryd.func13 (by kernel_rfl) rfl #[.int .i64 t215] rfl (by (try simp only [List.map_toArray, List.map_cons, List.map_nil]); first | done | rfl | (simp only [List.length_drop, List.length_take]; rfl)) ?_; (with_reducible refine (bolterlaw13_num.calls t215 t228 _ A30.out).mono ?_); rintro e w' ⟨rfl, ⟨nd, rfl⟩⟩; refine ⟨_, rfl, ?_⟩) | ((with_reducible refine gate_callee (f := 13) rfl ?_); refine goesL_ (some 92) rfl rfl Tryd.func13 (by kernel_rfl) rfl #[.int .i64 t217] rfl (by (try simp only [List.map_toArray, List.map_cons, List.map_nil]); first | done | rfl | (simp only [List.length_drop, List.length_take]; rfl)) ?_; (with_reducible refine (bolterlaw13_num.calls t217 t229 _ A31.out).mono ?_); rintro e w' ⟨rfl, ⟨nd, rfl⟩⟩; refine ⟨_, rfl, ?_⟩) | ((with_reducible refine gate_callee (f := 13) rfl ?_); refine goesL_ (some 95) rfl rfl Tryd.func13 (by kernel_rfl) rfl #[.int .i64 t219] rfl (by (try simp only [List.map_toArray, List.map_cons, List.map_nil]); first | done | rfl | (simp only [List.length_drop, List.length_take]; rfl)) ?_; (with_reducible refine (bolterlaw13_num.calls t219 t230 _ A32.out).mono ?_); rintro e w' ⟨rfl, ⟨nd, rfl⟩⟩; refine ⟨_, rfl, ?_⟩) | ((with_reducible refine gate_callee (f := 13) rfl ?_); refine goesL_ (some 98) rfl rfl Tryd.func13 (by kernel_rfl) rfl #[.int .i64 t221] rfl (by (try simp only [List.map_toArray, List.map_cons, List.map_nil]); first | done | rfl | (simp only [List.length_drop, List.length_take]; rfl)) ?_; (with_reducible refine (bolterlaw13_num.calls t221 t231 _ A33.out).mono ?_); rintro e w' ⟨rfl, ⟨nd, rfl⟩⟩; refine ⟨_, rfl, ?_⟩))
                      go_ret
                      exact ⟨by first | rfl | (simp [errW_none, errW_some] <;> rfl) | (simp [*, errW_none, errW_some] <;> rfl), by repeat (first | (with_reducible first | exact HB.out | apply below_alloc | apply pw_below_drewN | apply below_drew1) | exact HB.out)⟩
                  · replace c36 := Bool.eq_false_iff.mpr c36
                    subst c36
                    have H1 : (some false) = some r := by rw [if_neg (show ¬ (false = true) by decide)] at H; exact H
                    clear H
                    have H := H1
                    clear H1
                    obtain rfl := Option.some.inj H
                    go_wp2_with (first | ((with_reducible refine gate_callee (f := 13) rfl ?_); refine goesL_ (some 90) rfl rfl Tryd.func13 (by kernel_rfl) rfl #[.int .i64 t215] rfl (by (try simp only [List.map_toArray, List.map_cons, List.map_nil]); first | done | rfl | (simp only [List.length_drop, List.length_take]; rfl)) ?_; (with_reducible refine (bolterlaw13_num.calls t215 t228 _ A30.out).mono ?_); rintro e w' ⟨rfl, ⟨nd, rfl⟩⟩; refine ⟨_, rfl, ?_⟩) | ((with_reducible refine gate_callee (f := 13) rfl ?_); refine goesL_ (some 92) rfl rfl Tryd.func13 (by kernel_rfl) rfl #[.int .i64 t217] rfl (by (try simp only [List.map_toArray, List.map_cons, List.map_nil]); first | done | rfl | (simp only [List.length_drop, List.length_take]; rfl)) ?_; (with_reducible refine (bolterlaw13_num.calls t217 t229 _ A31.out).mono ?_); rintro e w' ⟨rfl, ⟨nd, rfl⟩⟩; refine ⟨_, rfl, ?_⟩) | ((with_reducible refine gate_callee (f := 13) rfl ?_); refine goesL_ (some 95) rfl rfl Tryd.func13 (by kernel_rfl) rfl #[.int .i64 t219] rfl (by (try simp only [List.map_toArray, List.map_cons, List.map_nil]); first | done | rfl | (simp only [List.length_drop, List.length_take]; rfl)) ?_; (with_reducible refine (bolterlaw13_num.calls t219 t230 _ A32.out).mono ?_); rintro e w' ⟨rfl, ⟨nd, rfl⟩⟩; refine ⟨_, rfl, ?_⟩) | ((with_reducible refine gate_callee (f := 13) rfl ?_); refine goesL_ (some 98) rfl rfl Tryd.func13 (by kernel_rfl) rfl #[.int .i64 t221] rfl (by (try simp only [List.map_toArray, List.map_cons, List.map_nil]); first | done | rfl | (simp only [List.length_drop, List.length_take]; rfl)) ?_; (with_reducible refine (bolterlaw13_num.calls t221 t231 _ A33.out).mono ?_); rintro e w' ⟨rfl, ⟨nd, rfl⟩⟩; refine ⟨_, rfl, ?_⟩))
                    go_ret
                    exact ⟨by first | rfl | (simp [errW_none, errW_some] <;> rfl) | (simp [*, errW_none, errW_some] <;> rfl), by repeat (first | (with_reducible first | exact HB.out | apply below_alloc | apply pw_below_drewN | apply below_drew1) | exact HB.out)⟩
                · replace c35 := Bool.eq_false_iff.mpr c35
                  subst c35
                  have H1 : (some false) = some r := by rw [if_neg (show ¬ (false = true) by decide)] at H; exact H
                  clear H
                  have H := H1
                  clear H1
                  obtain rfl := Option.some.inj H
                  go_wp2_with (first | ((with_reducible refine gate_callee (f := 13) rfl ?_); refine goesL_ (some 90) rfl rfl Tryd.func13 (by kernel_rfl) rfl #[.int .i64 t215] rfl (by (try simp only [List.map_toArray, List.map_cons, List.map_nil]); first | done | rfl | (simp only [List.length_drop, List.length_take]; rfl)) ?_; (with_reducible refine (bolterlaw13_num.calls t215 t228 _ A30.out).mono ?_); rintro e w' ⟨rfl, ⟨nd, rfl⟩⟩; refine ⟨_, rfl, ?_⟩) | ((with_reducible refine gate_callee (f := 13) rfl ?_); refine goesL_ (some 92) rfl rfl Tryd.func13 (by kernel_rfl) rfl #[.int .i64 t217] rfl (by (try simp only [List.map_toArray, List.map_cons, List.map_nil]); first | done | rfl | (simp only [List.length_drop, List.length_take]; rfl)) ?_; (with_reducible refine (bolterlaw13_num.calls t217 t229 _ A31.out).mono ?_); rintro e w' ⟨rfl, ⟨nd, rfl⟩⟩; refine ⟨_, rfl, ?_⟩) | ((with_reducible refine gate_callee (f := 13) rfl ?_); refine goesL_ (some 95) rfl rfl Tryd.func13 (by kernel_rfl) rfl #[.int .i64 t219] rfl (by (try simp only [List.map_toArray, List.map_cons, List.map_nil]); first | done | rfl | (simp only [List.length_drop, List.length_take]; rfl)) ?_; (with_reducible refine (bolterlaw13_num.calls t219 t230 _ A32.out).mono ?_); rintro e w' ⟨rfl, ⟨nd, rfl⟩⟩; refine ⟨_, rfl, ?_⟩) | ((with_reducible refine gate_callee (f := 13) rfl ?_); refine goesL_ (some 98) rfl rfl Tryd.func13 (by kernel_rfl) rfl #[.int .i64 t221] rfl (by (try simp only [List.map_toArray, List.map_cons, List.map_nil]); first | done | rfl | (simp only [List.length_drop, List.length_take]; rfl)) ?_; (with_reducible refine (bolterlaw13_num.calls t221 t231 _ A33.out).mono ?_); rintro e w' ⟨rfl, ⟨nd, rfl⟩⟩; refine ⟨_, rfl, ?_⟩))
                  go_ret
                  exact ⟨by first | rfl | (simp [errW_none, errW_some] <;> rfl) | (simp [*, errW_none, errW_some] <;> rfl), by repeat (first | (with_reducible first | exact HB.out | apply below_alloc | apply pw_below_drewN | apply below_drew1) | exact HB.out)⟩
              · rw [if_neg c34] at H
                have c34b0 : ((wrap64 ((wrap64 ((wrap64 (t228 + t229)) + t230)) + t231)) == 0) = false := beq_eq_false_iff_ne.mpr c34
                have c34b1 : ((wrap64 ((wrap64 ((wrap64 (t228 + t229)) + t230)) + t231)) != 0) = true := bne_iff_ne.mpr c34
                obtain rfl := Option.some.inj H
                go_wp2_with (first | ((with_reducible refine gate_callee (f := 13) rfl ?_); refine goesL_ (some 90) rfl rfl Tryd.func13 (by kernel_rfl) rfl #[.int .i64 t215] rfl (by (try simp only [List.map_toArray, List.map_cons, List.map_nil]); first | done | rfl | (simp only [List.length_drop, List.length_take]; rfl)) ?_; (with_reducible refine (bolterlaw13_num.calls t215 t228 _ A30.out).mono ?_); rintro e w' ⟨rfl, ⟨nd, rfl⟩⟩; refine ⟨_, rfl, ?_⟩) | ((with_reducible refine gate_callee (f := 13) rfl ?_); refine goesL_ (some 92) rfl rfl Tryd.func13 (by kernel_rfl) rfl #[.int .i64 t217] rfl (by (try simp only [List.map_toArray, List.map_cons, List.map_nil]); first | done | rfl | (simp only [List.length_drop, List.length_take]; rfl)) ?_; (with_reducible refine (bolterlaw13_num.calls t217 t229 _ A31.out).mono ?_); rintro e w' ⟨rfl, ⟨nd, rfl⟩⟩; refine ⟨_, rfl, ?_⟩) | ((with_reducible refine gate_callee (f := 13) rfl ?_); refine goesL_ (some 95) rfl rfl Tryd.func13 (by kernel_rfl) rfl #[.int .i64 t219] rfl (by (try simp only [List.map_toArray, List.map_cons, List.map_nil]); first | done | rfl | (simp only [List.length_drop, List.length_take]; rfl)) ?_; (with_reducible refine (bolterlaw13_num.calls t219 t230 _ A32.out).mono ?_); rintro e w' ⟨rfl, ⟨nd, rfl⟩⟩; refine ⟨_, rfl, ?_⟩) | ((with_reducible refine gate_callee (f := 13) rfl ?_); refine goesL_ (some 98) rfl rfl Tryd.func13 (by kernel_rfl) rfl #[.int .i64 t221] rfl (by (try simp only [List.map_toArray, List.map_cons, List.map_nil]); first | done | rfl | (simp only [List.length_drop, List.length_take]; rfl)) ?_; (with_reducible refine (bolterlaw13_num.calls t221 t231 _ A33.out).mono ?_); rintro e w' ⟨rfl, ⟨nd, rfl⟩⟩; refine ⟨_, rfl, ?_⟩))
                go_ret
                exact ⟨by first | rfl | (simp [errW_none, errW_some] <;> rfl) | (simp [*, errW_none, errW_some] <;> rfl), by repeat (first | (with_reducible first | exact HB.out | apply below_alloc | apply pw_below_drewN | apply below_drew1) | exact HB.out)⟩
      · rw [if_neg c7] at H
        exact absurd H (by simp)
    · rw [if_neg c5] at H
      exact absurd H (by simp)
  · replace c4 := Bool.eq_false_iff.mpr c4
    subst c4
    have H1 : (some false) = some r := by rw [if_neg (show ¬ (false = true) by decide)] at H; exact H
    clear H
    have H := H1
    clear H1
    obtain rfl := Option.some.inj H
    go_enter Tryd.func5, Tryd.ntmps5
    go_wp2_with (first | ((with_reducible refine gate_callee (f := 10) rfl ?_); refine goesL_ (some 17) rfl rfl Tryd.func10 (by kernel_rfl) rfl #[] rfl (by (try simp only [List.map_toArray, List.map_cons, List.map_nil]); first | done | rfl | (simp only [List.length_drop, List.length_take]; rfl)) ?_; (with_reducible refine (bolterlaw13_alive.calls k  false _ ?side1 A3.out).mono ?_); (case side1 => exact Aside0.mk (GlobG.below (by repeat (first | (with_reducible first | exact HB.out | apply below_alloc | apply pw_below_drewN | apply below_drew1) | exact HB.out)) hG.out)); rintro e w38 ⟨rfl, hb⟩; refine ⟨_, rfl, ?_⟩; have n0_ := Aside0.mk (below_step (by repeat (first | (with_reducible first | exact HB.out | apply below_alloc | apply pw_below_drewN | apply below_drew1) | exact HB.out)) hb); clear HB; have HB := n0_; clear n0_; (try clear hb); (try clear hb2); (try clear hk); (try clear hi)))
    go_ret
    exact ⟨by first | rfl | (simp [errW_none, errW_some] <;> rfl) | (simp [*, errW_none, errW_some] <;> rfl), by repeat (first | (with_reducible first | exact HB.out | apply below_alloc | apply pw_below_drewN | apply below_drew1) | exact HB.out)⟩

/-- THE ONE PURE STATEMENT of bolterlaw13_TextsSides: yours. -/
def bolterlaw13_TextsSides.Pure : Prop := ∀ (a0 : ByteArray) (a1 : ByteArray), a0.size ≤ 140737488351232 → a1.size ≤ 140737488351232 → ∃ k, bolterlaw13_TextsSides.f k a0 a1 = some true
theorem bolterlaw13_TextsSides.walk (P : bolterlaw13_TextsSides.Pure) (a0 : ByteArray) (a1 : ByteArray) (w : World) (w0 : a0.size ≤ 140737488351232) (w1 : a1.size ≤ 140737488351232) (hG : Aside0 (GlobG w)) :
    Calls Tryd.prog 5 #[.string a0, .string a1] w fun e w' => e = .returned (.bool true) ∧ Below w.heap.size w w' := by
  obtain ⟨k, h⟩ := P a0 a1 w0 w1
  refine (bolterlaw13_TextsSides.calls k a0 a1 true w hG h).mono ?_
  rintro e w' ⟨rfl, hd⟩
  exact ⟨rfl, hd⟩

end Go.Proofs.YtdhjdddjgcfhkaaDoor.B
