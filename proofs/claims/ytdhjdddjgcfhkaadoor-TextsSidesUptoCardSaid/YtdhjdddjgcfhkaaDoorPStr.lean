/- What Begins, Ends, TrimLeft, TrimRight of texts tell. -/
import Derived.Test.YtdhjdddjgcfhkaaDoorPTell
import Derived.Lib.Strings
import Derived.Test.YtdhjdddjgcfhkaaDoorB0
import Derived.Test.YtdhjdddjgcfhkaaDoorB1
import Derived.Test.YtdhjdddjgcfhkaaDoorB5
set_option linter.unusedVariables false
set_option linter.unusedSimpArgs false
namespace Go.Proofs.YtdhjdddjgcfhkaaDoor.P
open Go.Lib Go.RowKit Go.Proofs.YtdhjdddjgcfhkaaDoor.B Go.Proofs.YtdhjdddjgcfhkaaDoorW.PrintWords

theorem hasPrefix_f (a0 a1 : ByteArray) : stringslite_HasPrefix.f a0 a1 = some (hasPrefix a0.data.toList a1.data.toList) := by
  unfold stringslite_HasPrefix.f
  rw [← hasPrefix_raw]
  by_cases h : a1.size ≤ a0.size
  · rw [if_pos (by omega), if_pos (by omega), if_pos (by omega), Int.toNat_natCast, decide_eq_true h]; rfl
  · rw [if_neg (by omega), decide_eq_false h]; rfl
theorem hasSuffix_f (a0 a1 : ByteArray) (hz : a0.size < 9223372036854775807) : stringslite_HasSuffix.f a0 a1 = some (hasSuffix a0.data.toList a1.data.toList) := by
  unfold stringslite_HasSuffix.f
  rw [← hasSuffix_raw]
  by_cases h : a1.size ≤ a0.size
  · rw [if_pos (by omega), w64 (by omega) (by omega), if_pos (by omega), if_pos (by omega), show ((a0.size : Int) - a1.size).toNat = a0.size - a1.size by omega, decide_eq_true h]; rfl
  · rw [if_neg (by omega), decide_eq_false h]; rfl
theorem prefix_size {a0 a1 : ByteArray} (h : hasPrefix a0.data.toList a1.data.toList = true) : a1.size ≤ a0.size := by
  rw [← hasPrefix_raw, Bool.and_eq_true] at h
  exact of_decide_eq_true h.1
theorem suffix_size {a0 a1 : ByteArray} (h : hasSuffix a0.data.toList a1.data.toList = true) : a1.size ≤ a0.size := by
  rw [← hasSuffix_raw, Bool.and_eq_true] at h
  exact of_decide_eq_true h.1
theorem trimPrefix_f (a0 a1 : ByteArray) : stringslite_TrimPrefix.f a0 a1 = some ⟨(trimPrefix a0.data.toList a1.data.toList).toArray⟩ := by
  unfold stringslite_TrimPrefix.f
  rw [hasPrefix_f]
  simp only [Option.bind_some]
  by_cases h : hasPrefix a0.data.toList a1.data.toList = true
  · have h' := h
    rw [← hasPrefix_raw, Bool.and_eq_true] at h'
    rw [if_pos h, if_pos (by omega), if_pos (by have := of_decide_eq_true h'.1; omega), Int.toNat_natCast, trimPrefix_hit _ _ (of_decide_eq_true h'.1) h'.2]
  · rw [if_neg h, trimPrefix_miss]
    rw [hasPrefix_raw]; simpa using h
theorem trimSuffix_f (a0 a1 : ByteArray) (hz : a0.size < 9223372036854775807) : stringslite_TrimSuffix.f a0 a1 = some ⟨(trimSuffix a0.data.toList a1.data.toList).toArray⟩ := by
  unfold stringslite_TrimSuffix.f
  rw [hasSuffix_f _ _ hz]
  simp only [Option.bind_some]
  by_cases h : hasSuffix a0.data.toList a1.data.toList = true
  · have h' := h
    rw [← hasSuffix_raw, Bool.and_eq_true] at h'
    have hle := of_decide_eq_true h'.1
    rw [if_pos h, w64 (by omega) (by omega), if_pos (by omega), if_pos (by omega), show ((a0.size : Int) - a1.size).toNat = a0.size - a1.size by omega, trimSuffix_hit _ _ hle h'.2]
  · rw [if_neg h, trimSuffix_miss]
    rw [hasSuffix_raw]; simpa using h

def begV (a b : List UInt8) (e : Int) : Bool × Int := if e = 0 then (hasPrefix a b, 0) else (false, e)
def endV (a b : List UInt8) (e : Int) : Bool × Int := if e = 0 then (hasSuffix a b, 0) else (false, e)
def whoV (l : List UInt8) (e : Int) : ByteArray × Int := if e = 0 then wholeV l else (⟨#[]⟩, e)
theorem two_le (a b : ByteArray) (ha : a.size ≤ 140737488351232) (hb : b.size ≤ 140737488351232) : ∀ s ∈ [a, b], s.size ≤ 140737488351232 := by
  intro s h
  simp only [List.mem_cons, List.mem_nil_iff, or_false] at h
  rcases h with rfl | rfl <;> assumption
theorem begins_tells (a b : ByteArray) (ha : a.size ≤ 140737488351232) (hb : b.size ≤ 140737488351232) : Tells (fun k => texts_Begins.f k a b) (begV a.data.toList b.data.toList (errs [a, b])) := by
  unfold texts_Begins.f
  refine (checks_tells [a, b] (by simp) (two_le a b ha hb)).bind ?_
  unfold begV
  by_cases he : errs [a, b] = 0
  · simp only [he, if_true]
    unfold strings_HasPrefix.f
    rw [hasPrefix_f]
    exact Tells.pure _
  · simp only [he, if_false]
    exact Tells.pure _
theorem ends_tells (a b : ByteArray) (ha : a.size ≤ 140737488351232) (hb : b.size ≤ 140737488351232) : Tells (fun k => texts_Ends.f k a b) (endV a.data.toList b.data.toList (errs [a, b])) := by
  unfold texts_Ends.f
  refine (checks_tells [a, b] (by simp) (two_le a b ha hb)).bind ?_
  unfold endV
  by_cases he : errs [a, b] = 0
  · simp only [he, if_true]
    unfold strings_HasSuffix.f
    rw [hasSuffix_f _ _ (by omega)]
    exact Tells.pure _
  · simp only [he, if_false]
    exact Tells.pure _
theorem who_f (l : List UInt8) (e : Int) : texts_whole.f ⟨l.toArray⟩ e = some (whoV l e) := by
  unfold whoV
  by_cases he : e = 0
  · subst he; rw [if_pos rfl, whole_ok]
  · rw [if_neg he, whole_err _ _ he]
theorem trimLeft_tells (a b : ByteArray) (ha : a.size ≤ 140737488351232) (hb : b.size ≤ 140737488351232) : Tells (fun k => texts_TrimLeft.f k a b) (whoV (trimPrefix a.data.toList b.data.toList) (errs [a, b])) := by
  unfold texts_TrimLeft.f strings_TrimPrefix.f
  rw [trimPrefix_f]
  simp only [Option.bind_some]
  refine (checks_tells [a, b] (by simp) (two_le a b ha hb)).bind ?_
  rw [who_f]
  exact Tells.pure _
theorem trimRight_tells (a b : ByteArray) (ha : a.size ≤ 140737488351232) (hb : b.size ≤ 140737488351232) : Tells (fun k => texts_TrimRight.f k a b) (whoV (trimSuffix a.data.toList b.data.toList) (errs [a, b])) := by
  unfold texts_TrimRight.f strings_TrimSuffix.f
  rw [trimSuffix_f _ _ (by omega)]
  simp only [Option.bind_some]
  refine (checks_tells [a, b] (by simp) (two_le a b ha hb)).bind ?_
  rw [who_f]
  exact Tells.pure _
end Go.Proofs.YtdhjdddjgcfhkaaDoor.P
