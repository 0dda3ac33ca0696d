/- TextsTimes, plain. -/
import Derived.Test.YtdhjdddjgcfhkaaDoorPRepl
import Derived.Test.YtdhjdddjgcfhkaaDoorB0
import Derived.Test.YtdhjdddjgcfhkaaDoorB10
import Derived.Test.YtdhjdddjgcfhkaaDoorB2
set_option linter.unusedVariables false
set_option linter.unusedSimpArgs false
namespace Go.Proofs.YtdhjdddjgcfhkaaDoor.P
open Go.Lib Go.RowKit Go.Proofs.YtdhjdddjgcfhkaaDoor.B Go.Proofs.YtdhjdddjgcfhkaaDoorW.PrintWords

theorem mod20 (n : Int) (h : (Lit.int .i64 n).wf = true) : 0 ≤ Int.tmod (wrap64 ((Int.tmod n 20) + 20)) 20 ∧ Int.tmod (wrap64 ((Int.tmod n 20) + 20)) 20 < 20 := by
  have h1 : -20 < Int.tmod n 20 := Int.lt_tmod_of_pos n (by decide)
  have h2 : Int.tmod n 20 < 20 := Int.tmod_lt_of_pos n (by decide)
  rw [w64 (by omega) (by omega)]
  exact ⟨Int.tmod_nonneg 20 (by omega), Int.tmod_lt_of_pos _ (by decide)⟩
theorem wholeV_short {l : List UInt8} (h : l.length ≤ 16384) : wholeV l = (⟨l.toArray⟩, 0) := by unfold wholeV; rw [if_pos h]
theorem replL_self (t s : List UInt8) (ht : t ≠ []) : replL t t s = s := join_cutA t ht _ s (Nat.le_refl _)
theorem times_end (s t : ByteArray) (e : Int) : (if (replV s.data.toList t.data.toList t.data.toList e).2 = 0 then some ((replV s.data.toList t.data.toList t.data.toList e).1.toList == s.toList) else some true) = some true := by
  unfold replV
  by_cases he : e = 0
  · rw [if_pos he]
    have hw : (if t.data.toList = [] then wholeV s.data.toList else wholeV (replL t.data.toList t.data.toList s.data.toList)) = wholeV s.data.toList := by
      by_cases h0 : t.data.toList = []
      · rw [if_pos h0]
      · rw [if_neg h0, replL_self _ _ h0]
    rw [hw]
    unfold wholeV
    split
    · rw [if_pos rfl]; simp only [mk_data, beq_self_eq_true]
    · rfl
  · rw [if_neg he, if_neg he]
theorem textsTimesU (s : ByteArray) (n m : Int) (t : ByteArray) (hs : s.size < 1048576) (hn : (Lit.int .i64 n).wf = true) (hm : (Lit.int .i64 m).wf = true) (ht : t.size < 1048576) : ∃ k, bolterlaw13_TextsTimes.f k s n m t = some true := by
  refine Tells.ex ?_
  unfold bolterlaw13_TextsTimes.f
  refine alive_tells.bind (Tells.ifp rfl ?_)
  obtain ⟨n0, n1⟩ := mod20 n hn
  obtain ⟨m0, m1⟩ := mod20 m hm
  generalize Int.tmod (wrap64 ((Int.tmod n 20) + 20)) 20 = x at n0 n1
  generalize Int.tmod (wrap64 ((Int.tmod m 20) + 20)) 20 = y at m0 m1
  rw [w64 (x := x + y) (by omega) (by omega)]
  refine (repeat_tells s x hs (by omega)).bind ?_
  refine (repeat_tells s y hs (by omega)).bind ?_
  refine (repeat_tells s (x + y) hs (by omega)).bind ?_
  refine (replace_tells s t t hs ht ht).bind ?_
  simp only [bolterlaw13_num.f, Option.bind_some]
  refine Tells.of ?_
  unfold repV
  by_cases he : errV s.data.toList = 0
  · rw [if_pos he, if_pos he, if_pos he]
    have e : (x + y).toNat = x.toNat + y.toNat := by omega
    rw [e, repeatL_add]
    by_cases hl : (repeatL s.data.toList x.toNat ++ repeatL s.data.toList y.toNat).length ≤ 16384
    · have hl' := hl
      rw [List.length_append] at hl'
      rw [wholeV_short hl, wholeV_short (l := repeatL s.data.toList x.toNat) (by omega), wholeV_short (l := repeatL s.data.toList y.toNat) (by omega)]
      simp only
      rw [if_pos trivial, if_pos (by decide +kernel), if_pos (by rw [size_eq, size_eq]; simp only; omega), if_pos (by rw [toList_data, toList_data, ByteArray.data_append, Array.toList_append])]
      exact times_end s t _
    · rw [wholeV_long (by omega)]
      simp only
      rw [if_neg (by decide)]
      exact times_end s t _
  · simp only [if_neg he]
    exact times_end s t _
end Go.Proofs.YtdhjdddjgcfhkaaDoor.P
