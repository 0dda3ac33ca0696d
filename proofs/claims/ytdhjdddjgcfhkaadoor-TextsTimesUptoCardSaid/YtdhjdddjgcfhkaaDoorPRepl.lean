/- What Repeat and Replace of texts tell. -/
import Derived.Test.YtdhjdddjgcfhkaaDoorPSplit
import Derived.Lib.Repeat
import Derived.Test.YtdhjdddjgcfhkaaDoorB0
import Derived.Test.YtdhjdddjgcfhkaaDoorB8
import Derived.Test.YtdhjdddjgcfhkaaDoorB9
import Derived.Test.YtdhjdddjgcfhkaaDoorHLib
import Derived.Test.YtdhjdddjgcfhkaaDoorHReplace
set_option linter.unusedVariables false
set_option linter.unusedSimpArgs false
namespace Go.Proofs.YtdhjdddjgcfhkaaDoor.P
open Go.Lib Go.RowKit Go.Proofs.YtdhjdddjgcfhkaaDoor.B Go.Proofs.YtdhjdddjgcfhkaaDoorW.PrintWords

/-! ### texts.Repeat -/
theorem wholeV_long {l : List UInt8} (h : 16384 < l.length) : wholeV l = (⟨#[]⟩, 5) := by unfold wholeV; rw [if_neg (by omega)]
theorem errs_one (s : ByteArray) : errs [s] = errV s.data.toList := by
  simp only [errs]; split <;> simp_all
def repV (s : List UInt8) (n : Int) : ByteArray × Int := if errV s = 0 then wholeV (repeatL s n.toNat) else (⟨#[]⟩, errV s)
theorem repeat_tells (s : ByteArray) (n : Int) (hs : s.size < 1048576) (hn : n ≤ 9223372036854775807) : Tells (fun k => texts_Repeat.f k s n) (repV s.data.toList n) := by
  unfold texts_Repeat.f
  refine (checks_tells [s] (by simp) (fun x hx => by simp at hx; subst hx; omega)).bind ?_
  rw [errs_one]
  unfold repV
  by_cases he : errV s.data.toList = 0
  · rw [if_pos he]
    refine Tells.ifp he ?_
    by_cases h0 : s.data.toList = []
    · refine Tells.ifp (by rw [toList_data]; exact h0) (Tells.succ ?_)
      simp only [texts_Repeat.j0, if_true]
      rw [h0, repeatL_nil]
      exact Tells.of rfl
    · refine Tells.ifn (by rw [toList_data]; exact h0) (Tells.succ ?_)
      simp only [texts_Repeat.j0, decide_eq_true_eq]
      by_cases h1 : n < 1
      · refine Tells.ifp h1 ?_
        rw [show n.toNat = 0 by omega]
        exact Tells.of rfl
      · refine Tells.ifn h1 ?_
        have hpos : 1 ≤ s.data.toList.length := List.length_pos_iff.2 h0
        have hm : (mn n 16385).toNat ≤ 16385 ∧ 0 ≤ mn n 16385 := by unfold mn; split <;> omega
        have hsz : s.size * (mn n 16385).toNat ≤ 140737488355328 := Nat.le_trans (Nat.mul_le_mul (Nat.le_of_lt hs) hm.1) (by decide)
        unfold strings_Repeat.f
        rw [if_pos ⟨hm.2, by unfold mn; split <;> omega, hsz⟩]
        simp only [Option.bind_some]
        rw [whole_ok]
        refine Tells.of (congrArg some ?_)
        show wholeV (repeatL s.data.toList (mn n 16385).toNat) = wholeV (repeatL s.data.toList n.toNat)
        by_cases hb : n ≤ 16385
        · rw [show mn n 16385 = n by unfold mn; split <;> omega]
        · rw [show mn n 16385 = 16385 by unfold mn; split <;> omega, wholeV_long, wholeV_long]
          · rw [repeatL_length]
            exact Nat.lt_of_lt_of_le (show 16384 < n.toNat * 1 by omega) (Nat.mul_le_mul_left _ hpos)
          · rw [repeatL_length]
            exact Nat.lt_of_lt_of_le (show 16384 < (16385 : Int).toNat * 1 by decide) (Nat.mul_le_mul_left _ hpos)
  · rw [if_neg he]
    exact Tells.ifn he (Tells.pure _)

/-! ### texts.Replace -/
theorem cut_f (s sep : ByteArray) (hs : s.size < 4294967281) : strings_Cut.f s sep = some (if index s.data.toList sep.data.toList = -1 then (s, ⟨#[]⟩, false) else
    (mkS (s.data.toList.take (index s.data.toList sep.data.toList).toNat), mkS (s.data.toList.drop ((index s.data.toList sep.data.toList).toNat + sep.data.toList.length)), true)) := by
  unfold strings_Cut.f stringslite_Cut.f stringslite_Index.f
  rw [if_pos hs]
  simp only [Option.bind_some]
  have hg := index_ge s.data.toList sep.data.toList
  have hz := size_eq s
  have hz2 := size_eq sep
  by_cases h : index s.data.toList sep.data.toList = -1
  · rw [if_pos h, if_neg (by omega)]; rfl
  · have hr := index_room s.data.toList sep.data.toList (by omega)
    rw [if_neg h, if_pos (by omega), if_pos (by omega), if_pos (by omega), w64 (by omega) (by omega), if_pos (by omega), if_pos (by omega), ext_mk, ext_mk]
    simp only [Option.bind_some, List.drop_zero, Nat.sub_zero]
    rw [show (index s.data.toList sep.data.toList + (sep.size : Int)).toNat = (index s.data.toList sep.data.toList).toNat + sep.data.toList.length by omega, List.take_of_length_le (l := s.data.toList.drop _) (by rw [List.length_drop]; omega)]
def replL (old by_ s : List UInt8) : List UInt8 := joinL by_ (cutA old s)
theorem replL_miss (old by_ s : List UInt8) (h : index s old = -1) : replL old by_ s = s := by unfold replL; rw [cutA_miss _ _ h]; rfl
theorem replL_hit (old by_ s : List UInt8) (ho : old ≠ []) (i : Nat) (h : index s old = (i : Int)) : replL old by_ s = s.take i ++ (by_ ++ replL old by_ (s.drop (i + old.length))) := by
  unfold replL; rw [cutA_hit _ _ ho i h, join_cons _ _ _ (cutA_ne _ _)]
theorem replF_all (old by_ : ByteArray) (ho : old.data.toList ≠ []) : ∀ (k : Nat) (acc : List UInt8) (s : List UInt8), s.length < k → s.length < 1048576 →
    ∃ L, replF old by_ k acc (mkS s) = some L ∧ (L = acc ++ replL old.data.toList by_.data.toList s ∨ (16384 < L.length ∧ 16384 < (acc ++ replL old.data.toList by_.data.toList s).length))
  | 0, _, _, h, _ => by omega
  | k + 1, acc, s, hk, hs => by
    have hop : 0 < old.data.toList.length := List.length_pos_iff.2 ho
    simp only [replF]
    rw [mkS_size, if_pos (by omega), cut_f _ _ (by rw [mkS_size]; omega), mkS_data]
    simp only [Option.bind_some]
    by_cases h : index s old.data.toList = -1
    · rw [if_pos h]
      simp only [mkS_size]
      rw [if_pos (by omega), replL_miss _ _ _ h]
      simp only [Bool.false_eq_true, if_false, ite_self]
      refine ⟨_, rfl, ?_⟩
      by_cases ha : acc.length ≤ 16384
      · left; unfold putL; rw [if_pos ha]; rfl
      · right
        have e : putL acc (mkS s) = acc := by unfold putL; rw [if_neg ha]
        rw [e, List.length_append]; omega
    · rw [if_neg h]
      have hg := index_ge s old.data.toList
      obtain ⟨i, hi⟩ : ∃ i : Nat, index s old.data.toList = (i : Int) := ⟨(index s old.data.toList).toNat, by omega⟩
      have hr := index_room s old.data.toList (by omega)
      rw [hi] at hr
      rw [hi, Int.toNat_natCast, replL_hit _ _ _ ho i hi]
      simp only [mkS_size, List.length_take]
      rw [if_pos (by omega)]
      have hp : putL acc (mkS (s.take i)) = acc ++ s.take i ∨ (putL acc (mkS (s.take i)) = acc ∧ 16384 < acc.length) := by
        by_cases ha : acc.length ≤ 16384
        · left; unfold putL; rw [if_pos ha]; rfl
        · right; unfold putL; rw [if_neg ha]; exact ⟨rfl, by omega⟩
      by_cases hA : (putL acc (mkS (s.take i))).length ≤ 16384
      · rw [if_pos hA]
        simp only [if_true]
        have e1 : putL acc (mkS (s.take i)) = acc ++ s.take i := by
          rcases hp with hp | ⟨hp, hl⟩
          · exact hp
          · rw [hp] at hA; omega
        have e2 : putL (putL acc (mkS (s.take i))) by_ = acc ++ s.take i ++ by_.data.toList := by
          rw [e1] at hA ⊢
          show (if (acc ++ s.take i).length ≤ 16384 then _ else _) = _
          rw [if_pos hA]
        rw [e2]
        obtain ⟨L, hL, hc⟩ := replF_all old by_ ho k (acc ++ s.take i ++ by_.data.toList) (s.drop (i + old.data.toList.length)) (by rw [List.length_drop]; omega) (by rw [List.length_drop]; omega)
        refine ⟨L, hL, ?_⟩
        simpa only [List.append_assoc] using hc
      · rw [if_neg hA]
        refine ⟨_, rfl, .inr ⟨by omega, ?_⟩⟩
        rcases hp with hp | ⟨hp, hl⟩
        · rw [hp] at hA; simp only [List.length_append] at hA ⊢; omega
        · simp only [List.length_append]; omega
/-- What Replace answers. -/
def replV (s old by_ : List UInt8) (e : Int) : ByteArray × Int := if e = 0 then (if old = [] then wholeV s else wholeV (replL old by_ s)) else (⟨#[]⟩, e)
theorem replace_tells (s old by_ : ByteArray) (hs : s.size < 1048576) (ho : old.size < 1048576) (hb : by_.size < 1048576) : Tells (fun k => texts_Replace.f k s old by_) (replV s.data.toList old.data.toList by_.data.toList (errs [s, old, by_])) := by
  unfold texts_Replace.f
  refine Tells.ifp (by omega) ?_
  refine (checks_tells [s, old, by_] (by simp) (fun x hx => by
    simp only [List.mem_cons, List.mem_nil_iff, or_false] at hx
    rcases hx with rfl | rfl | rfl <;> omega)).bind ?_
  unfold replV
  by_cases he : errs [s, old, by_] = 0
  · rw [if_pos he]
    refine Tells.ifp he ?_
    by_cases h0 : old.data.toList = []
    · rw [if_pos h0]
      refine Tells.ifp h0 ?_
      rw [he, whole_ok]
      exact Tells.pure _
    · rw [if_neg h0]
      refine Tells.ifn h0 ?_
      obtain ⟨L, hL, hc⟩ := replF_all old by_ h0 (s.data.toList.length + 1) [] s.data.toList (by omega) (by rw [← size_eq]; omega)
      rw [show mkS s.data.toList = s from mk_data s] at hL
      refine (Tells.mono (replF_mono old by_ · [] s) _ hL).bind ?_
      rw [whole_ok ⟨L.toArray⟩]
      refine Tells.of (congrArg some ?_)
      rcases hc with hc | ⟨h1, h2⟩
      · rw [hc]; rfl
      · rw [wholeV_long h1, wholeV_long (by simpa using h2)]
  · rw [if_neg he]
    refine Tells.ifn he ?_
    rw [whole_err _ _ he]
    exact Tells.pure _
end Go.Proofs.YtdhjdddjgcfhkaaDoor.P
