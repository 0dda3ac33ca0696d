/- TextsSides, plain. -/
import Derived.Test.YtdhjdddjgcfhkaaDoorPStr
import Derived.Test.YtdhjdddjgcfhkaaDoorPFirst
import Derived.Test.YtdhjdddjgcfhkaaDoorB0
import Derived.Test.YtdhjdddjgcfhkaaDoorB2
import Derived.Test.YtdhjdddjgcfhkaaDoorB7
set_option linter.unusedVariables false
set_option linter.unusedSimpArgs false
namespace Go.Proofs.YtdhjdddjgcfhkaaDoor.P
open Go.Lib Go.RowKit Go.Proofs.YtdhjdddjgcfhkaaDoor.B Go.Proofs.YtdhjdddjgcfhkaaDoorW.PrintWords

theorem app_data (a b : ByteArray) : (a ++ b).data.toList = a.data.toList ++ b.data.toList := by
  rw [ByteArray.data_append, Array.toList_append]
theorem app_size (a b : ByteArray) : (a ++ b).size = a.size + b.size := by
  rw [size_eq, app_data, List.length_append, ← size_eq, ← size_eq]
theorem errV_ne {l : List UInt8} (h : ¬ errV l = 0) : errV l = 61 := by unfold errV at h ⊢; split <;> simp_all
theorem errV_zero {l : List UInt8} (h : errV l = 0) : validD l = true := by unfold errV at h; split at h <;> simp_all
theorem valid_zero {l : List UInt8} (h : validD l = true) : errV l = 0 := by unfold errV; rw [if_pos h]
theorem errs_two (a b : ByteArray) : errs [a, b] = if errV a.data.toList = 0 then errV b.data.toList else errV a.data.toList := by
  simp only [errs]
  split
  · split
    · rename_i h; rw [h]
    · rfl
  · rfl
theorem prefix_app (t s : List UInt8) : hasPrefix (t ++ s) t = true := by
  unfold hasPrefix; rw [List.isPrefixOf_iff_prefix]; exact List.prefix_append _ _
theorem suffix_app (s t : List UInt8) : hasSuffix (s ++ t) t = true := by
  unfold hasSuffix; rw [List.isSuffixOf_iff_suffix]; exact List.suffix_append _ _
theorem trimP_app (t s : List UInt8) : trimPrefix (t ++ s) t = s := by unfold trimPrefix; rw [if_pos (prefix_app t s), List.drop_left]
theorem trimS_app (s t : List UInt8) : trimSuffix (s ++ t) t = s := by
  unfold trimSuffix; rw [if_pos (suffix_app s t)]; simp
theorem toList_eq (s : ByteArray) : (⟨s.data.toList.toArray⟩ : ByteArray).toList = s.toList := by rw [mk_data]

theorem textsSidesU (s t : ByteArray) (hs : s.size < 1048576) (ht : t.size < 1048576) : ∃ k, bolterlaw13_TextsSides.f k s t = some true := by
  refine Tells.ex ?_
  unfold bolterlaw13_TextsSides.f
  refine alive_tells.bind ?_
  simp only [if_true]
  have c1 : t.size + s.size ≤ 9223372036854775807 := by omega
  have c2 : s.size + t.size ≤ 9223372036854775807 := by omega
  simp only [c1, c2, if_true]
  obtain ⟨r, hr, hre⟩ := checkR_tells s (by omega)
  obtain ⟨q, hq, hqe⟩ := checkR_tells t (by omega)
  refine (begins_tells (t ++ s) t (by rw [app_size]; omega) (by omega)).bind ?_
  refine (ends_tells (s ++ t) t (by rw [app_size]; omega) (by omega)).bind ?_
  refine (trimLeft_tells (t ++ s) t (by rw [app_size]; omega) (by omega)).bind ?_
  refine (trimRight_tells (s ++ t) t (by rw [app_size]; omega) (by omega)).bind ?_
  refine hr.bind ?_
  refine hq.bind ?_
  rw [hre, hqe]
  simp only [app_data]
  have j0t : ∀ {x5 x6 x7 x8 x9 x10 x11 x12 x14}, (x6 ≠ 0 ∧ x8 ≠ 0 ∨ (s.size : Int) > 16384 ∨ x14 ≠ 0) → Tells (fun k => bolterlaw13_TextsSides.j0 k s x5 x6 x7 x8 x9 x10 x11 x12 x14 true) true := by
    intro x5 x6 x7 x8 x9 x10 x11 x12 x14 h
    refine Tells.succ ?_
    simp only [bolterlaw13_TextsSides.j0, if_true, bolterlaw13_num.f, Option.bind_some]
    by_cases h1 : x6 = 0
    · rw [if_pos h1]
      by_cases h2 : (s.size : Int) > 16384
      · rw [if_pos h2]; exact Tells.pure _
      · rw [if_neg h2]
        have : x14 ≠ 0 := by rcases h with h | h | h <;> simp_all
        simp only [bne_iff_ne.2 this]; exact Tells.pure _
    · rw [if_neg h1]
      by_cases h3 : x8 = 0
      · rw [if_pos h3]
        by_cases h2 : (s.size : Int) > 16384
        · rw [if_pos h2]; exact Tells.pure _
        · rw [if_neg h2]
          have : x14 ≠ 0 := by rcases h with h | h | h <;> simp_all
          simp only [bne_iff_ne.2 this]; exact Tells.pure _
      · rw [if_neg h3]; exact Tells.pure _
  by_cases e1 : errV s.data.toList = 0
  · refine Tells.ifp e1 ?_
    by_cases e2 : errV t.data.toList = 0
    · refine Tells.ifp e2 ?_
      have v1 := errV_zero e1
      have v2 := errV_zero e2
      have ets : errs [t ++ s, t] = 0 := by rw [errs_two, app_data, if_pos (valid_zero (valid_app v2 v1)), e2]
      have est : errs [s ++ t, t] = 0 := by rw [errs_two, app_data, if_pos (valid_zero (valid_app v1 v2)), e2]
      rw [ets, est]
      unfold begV endV whoV
      simp only [if_true, prefix_app, suffix_app, trimP_app, trimS_app]
      by_cases hl : (s.size : Int) > 16384
      · rw [decide_eq_true hl]
        exact j0t (.inr (.inl hl))
      · rw [decide_eq_false hl]
        unfold wholeV
        rw [if_pos (by rw [← size_eq]; omega)]
        refine Tells.succ ?_
        simp only [bolterlaw13_TextsSides.j0, bolterlaw13_num.f, Option.bind_some, Bool.false_eq_true, if_false, if_true, toList_eq]
        rw [if_pos (by decide +kernel)]
        simp only [beq_self_eq_true]
        exact Tells.pure _
    · refine Tells.ifn e2 ?_
      refine j0t (.inl ?_)
      have x1 : errs [t ++ s, t] ≠ 0 := by
        rw [errs_two]; split
        · exact e2
        · assumption
      have x2 : errs [s ++ t, t] ≠ 0 := by
        rw [errs_two]; split
        · exact e2
        · assumption
      unfold begV endV
      rw [if_neg x1, if_neg x2]
      exact ⟨x1, x2⟩
  · refine Tells.ifn e1 ?_
    exact j0t (.inr (.inr e1))
end Go.Proofs.YtdhjdddjgcfhkaaDoor.P
