/- TextsCase, plain. -/
import Derived.Test.YtdhjdddjgcfhkaaDoorPTell
import Derived.Test.YtdhjdddjgcfhkaaDoorB0
import Derived.Test.YtdhjdddjgcfhkaaDoorB2
import Derived.Test.YtdhjdddjgcfhkaaDoorB4
set_option linter.unusedVariables false
set_option linter.unusedSimpArgs false
namespace Go.Proofs.YtdhjdddjgcfhkaaDoor.P
open Go.Lib Go.RowKit Go.Proofs.YtdhjdddjgcfhkaaDoor.B Go.Proofs.YtdhjdddjgcfhkaaDoorW.PrintWords

theorem bt_mk (l : List UInt8) (i : Nat) (h : i < l.length) : bt ⟨l.toArray⟩ (i : Int) = (l[i].toNat : Int) := by
  rw [← bt_at ⟨l.toArray⟩ (i : Int) (by simpa [ByteArray.size] using h)]; rfl
theorem size_mk (l : List UInt8) : (⟨l.toArray⟩ : ByteArray).size = l.length := by rw [size_eq]
theorem mk_eq (s : ByteArray) : s = ⟨s.data.toList.toArray⟩ := (mk_data s).symm
theorem toList_mk (l : List UInt8) : (⟨l.toArray⟩ : ByteArray).toList = l := by rw [toList_data]
theorem up_low : ∀ b : Fin 256, mvB 97 1 (mvB 65 0 (UInt8.ofNat b.val)) = mvB 97 1 (UInt8.ofNat b.val) := by decide +kernel
theorem stays : ∀ b : Fin 256, (b.val < 65 ∨ 122 < b.val ∨ (90 < b.val ∧ b.val < 97)) → mvB 65 0 (UInt8.ofNat b.val) = UInt8.ofNat b.val ∧ mvB 97 1 (UInt8.ofNat b.val) = UInt8.ofNat b.val := by decide +kernel
theorem stays' (b : UInt8) (h : b.toNat < 65 ∨ 122 < b.toNat ∨ (90 < b.toNat ∧ b.toNat < 97)) : mvB 65 0 b = b ∧ mvB 97 1 b = b := by
  have := stays ⟨b.toNat, b.toNat_lt⟩ h
  simpa only [ofN] using this
theorem up_low' (l : List UInt8) : (l.map (mvB 65 0)).map (mvB 97 1) = l.map (mvB 97 1) := by
  rw [List.map_map]
  refine List.map_congr_left (fun b _ => ?_)
  have := up_low ⟨b.toNat, b.toNat_lt⟩
  rw [ofN] at this
  exact this

theorem case_l (l : List UInt8) (hl : l.length ≤ 16384) : ∀ (d i k : Nat), i + d = l.length → d < k →
    bolterlaw13_TextsCase.l0 k ⟨l.toArray⟩ ⟨(l.map (mvB 65 0)).toArray⟩ ⟨(l.map (mvB 97 1)).toArray⟩ 0 ⟨(l.map (mvB 97 1)).toArray⟩ 0 (i : Int) = some true
  | 0, i, k, e, hk => by
    obtain ⟨k, rfl⟩ : ∃ k', k = k' + 1 := ⟨k - 1, by omega⟩
    simp only [bolterlaw13_TextsCase.l0, size_mk, bolterlaw13_num.f, Option.bind_some, List.length_map]
    rw [if_neg (by omega), if_pos (by decide +kernel)]
    simp
  | d + 1, i, k, e, hk => by
    obtain ⟨k, rfl⟩ : ∃ k', k = k' + 1 := ⟨k - 1, by omega⟩
    have hi : i < l.length := by omega
    have ih := case_l l hl d (i + 1) k (by omega) (by omega)
    have ew : wrap64 ((i : Int) + 1) = ((i + 1 : Nat) : Int) := by rw [w64 (by omega) (by omega)]; omega
    simp only [bolterlaw13_TextsCase.l0, size_mk, List.length_map]
    rw [if_pos (by omega), if_pos (by omega), bt_mk l i hi, bt_mk _ i (by simpa using hi), bt_mk _ i (by simpa using hi), List.getElem_map, List.getElem_map, ew, ih]
    have hi' : (i : Int) < (l.length : Int) := by omega
    by_cases c1 : (l[i].toNat : Int) < 65
    · obtain ⟨e1, e2⟩ := stays' l[i] (by omega)
      rw [if_pos c1, if_pos hi', e1, if_pos rfl, if_pos hi', e2, if_pos rfl]
    rw [if_neg c1]
    by_cases c2 : (l[i].toNat : Int) > 122
    · obtain ⟨e1, e2⟩ := stays' l[i] (by omega)
      rw [if_pos c2, if_pos hi', e1, if_pos rfl, if_pos hi', e2, if_pos rfl]
    rw [if_neg c2]
    by_cases c3 : (l[i].toNat : Int) > 90
    · rw [if_pos c3]
      by_cases c4 : (l[i].toNat : Int) < 97
      · obtain ⟨e1, e2⟩ := stays' l[i] (by omega)
        rw [if_pos c4, if_pos hi', e1, if_pos rfl, if_pos hi', e2, if_pos rfl]
      · rw [if_neg c4]
    · rw [if_neg c3]

/-- THE PLAIN LAW. -/
theorem textsCase (s : ByteArray) (hs : s.size < 35184372088832) : ∃ k, bolterlaw13_TextsCase.f k s = some true := by
  refine Tells.ex ?_
  unfold bolterlaw13_TextsCase.f
  refine alive_tells.bind ?_
  simp only [if_true]
  refine (lower_tells s hs).bind ?_
  have hw : (lowerV s.data.toList).1.size < 35184372088832 := by
    unfold lowerV wholeV
    split
    · split
      · rw [size_mk, List.length_map, ← size_eq]; omega
      · decide
    · decide
  refine (upper_tells _ hw).bind ?_
  refine (upper_tells s hs).bind ?_
  simp only [bolterlaw13_num.f, Option.bind_some]
  by_cases hv : validD s.data.toList = true
  · by_cases hl : s.data.toList.length ≤ 16384
    · have e1 : lowerV s.data.toList = (⟨(s.data.toList.map (mvB 65 0)).toArray⟩, 0) := by
        unfold lowerV wholeV; rw [if_pos hv, if_pos (by simpa using hl)]
      have e2 : upperV s.data.toList = (⟨(s.data.toList.map (mvB 97 1)).toArray⟩, 0) := by
        unfold upperV wholeV; rw [if_pos hv, if_pos (by simpa using hl)]
      have e3 : upperV (s.data.toList.map (mvB 65 0)) = (⟨(s.data.toList.map (mvB 97 1)).toArray⟩, 0) := by
        unfold upperV wholeV; rw [if_pos (lower_map _ hv).2, up_low', if_pos (by simpa using hl)]
      rw [e1]
      simp only
      rw [e2, e3]
      simp only [if_true]
      refine ⟨s.data.toList.length + 1, fun k hk => ?_⟩
      show bolterlaw13_TextsCase.l0 k s _ _ _ _ _ 0 = some true
      conv => lhs; arg 2; rw [mk_eq s]
      exact case_l _ hl _ 0 k (by omega) hk
    · have e1 : lowerV s.data.toList = (⟨#[]⟩, 5) := by
        unfold lowerV wholeV; rw [if_pos hv, if_neg (by simpa using hl)]
      have e2 : upperV s.data.toList = (⟨#[]⟩, 5) := by
        unfold upperV wholeV; rw [if_pos hv, if_neg (by simpa using hl)]
      rw [e1, e2]
      exact Tells.of (by decide +kernel)
  · have e1 : lowerV s.data.toList = (⟨#[]⟩, 61) := by unfold lowerV; rw [if_neg hv]
    have e2 : upperV s.data.toList = (⟨#[]⟩, 61) := by unfold upperV; rw [if_neg hv]
    rw [e1, e2]
    exact Tells.of (by decide +kernel)
theorem textsCaseU (s : ByteArray) (hs : s.size < 1048576) : ∃ k, bolterlaw13_TextsCase.f k s = some true := textsCase s (by omega)
end Go.Proofs.YtdhjdddjgcfhkaaDoor.P
