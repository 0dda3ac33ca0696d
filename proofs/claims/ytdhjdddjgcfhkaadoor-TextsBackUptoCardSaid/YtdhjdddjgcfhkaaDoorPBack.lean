/- TextsBack, plain. -/
import Derived.Test.YtdhjdddjgcfhkaaDoorPSplit
import Derived.Test.YtdhjdddjgcfhkaaDoorB0
import Derived.Test.YtdhjdddjgcfhkaaDoorB2
import Derived.Test.YtdhjdddjgcfhkaaDoorB5
set_option linter.unusedVariables false
set_option linter.unusedSimpArgs false
namespace Go.Proofs.YtdhjdddjgcfhkaaDoor.P
open Go.Lib Go.RowKit Go.Proofs.YtdhjdddjgcfhkaaDoor.B Go.Proofs.YtdhjdddjgcfhkaaDoorW.PrintWords

theorem joinL_nil : ∀ l : List (List UInt8), joinL [] l = l.flatten
  | [] => rfl
  | [x] => by simp [joinL]
  | x :: y :: r => by rw [join_cons _ _ _ (by simp), joinL_nil (y :: r)]; rfl
theorem Txt.chars {l : List UInt8} {cs : List (List UInt8)} {rs : List Nat} (h : Txt l cs rs) : ∀ c ∈ cs, validD c = true ∧ c.length ≤ l.length := by
  induction h with
  | nil => intro c hc; cases hc
  | @cons c r l cs rs hc ht ih =>
    intro d hd
    rcases List.mem_cons.1 hd with rfl | hd
    · refine ⟨?_, by simp⟩
      have := valid_ch hc []
      rw [List.append_nil] at this
      rw [this]; rfl
    · exact ⟨(ih d hd).1, by have := (ih d hd).2; simp; omega⟩
theorem cutV_facts (s sep : List UInt8) (cs : List (List UInt8)) (rs : List Nat) (ht : Txt s cs rs) (hv : validD sep = true) :
    joinL sep (cutV s sep cs) = s ∧ (∀ x ∈ cutV s sep cs, validD x = true) ∧ (∀ x ∈ cutV s sep cs, x.length ≤ s.length) ∧ (cutV s sep cs).length ≤ s.length + 1 := by
  unfold cutV
  by_cases h0 : s = []
  · subst h0; rw [if_pos rfl]; refine ⟨rfl, ?_, ?_, ?_⟩ <;> simp
  rw [if_neg h0]
  by_cases h1 : sep = []
  · subst h1
    rw [if_pos rfl, joinL_nil, ht.flat]
    exact ⟨rfl, fun x hx => (ht.chars x hx).1, fun x hx => (ht.chars x hx).2, by have := ht.lens; omega⟩
  · rw [if_neg h1]
    exact ⟨join_cutA sep h1 _ s (Nat.le_refl _), cutA_valid sep h1 hv _ s (Nat.le_refl _) ht.valid', (cutA_lens sep h1 _ s (Nat.le_refl _)).1, (cutA_lens sep h1 _ s (Nat.le_refl _)).2⟩
theorem map_data (l : List (List UInt8)) : (l.map mkS).map (·.data.toList) = l := by
  rw [List.map_map]
  conv => rhs; rw [← List.map_id l]
  exact List.map_congr_left (fun x _ => rfl)

theorem textsBackU (s sep : ByteArray) (hs : s.size < 1048576) (hp : sep.size < 1048576) : ∃ k, bolterlaw13_TextsBack.f k s sep = some true := by
  refine Tells.ex ?_
  unfold bolterlaw13_TextsBack.f
  refine alive_tells.bind (Tells.ifp rfl ?_)
  obtain ⟨cs, rs, ht, hsp⟩ := split_tells s sep (by omega) (by omega)
  refine hsp.bind ?_
  simp only [bolterlaw13_num.f, Option.bind_some]
  by_cases he : errs [s, sep] = 0
  · rw [if_pos he]
    have t := ht he
    have hv := (errs_pair _ _ he).2
    obtain ⟨f1, f2, f3, f4⟩ := cutV_facts s.data.toList sep.data.toList cs rs t hv
    unfold wholesV
    by_cases hl : ∀ x ∈ cutV s.data.toList sep.data.toList cs, x.length ≤ 16384
    · rw [if_pos hl]
      refine Tells.ifp rfl ?_
      by_cases hz : (s.size : Int) > 16384
      · rw [decide_eq_true hz]
        refine Tells.succ ?_
        simp only [bolterlaw13_TextsBack.j0, if_true, bolterlaw13_num.f, Option.bind_some]
        exact Tells.pure _
      · rw [decide_eq_false hz]
        refine Tells.succ ?_
        simp only [bolterlaw13_TextsBack.j0, Bool.false_eq_true, if_false, bolterlaw13_num.f, Option.bind_some]
        have hz' : s.data.toList.length ≤ 16384 := by rw [← size_eq]; omega
        refine (join_tells _ sep (fun x hx => ?_) (by rw [List.length_map]; omega)).bind ?_
        · rcases List.mem_cons.1 hx with rfl | hx
          · omega
          · obtain ⟨y, hy, rfl⟩ := List.mem_map.1 hx
            rw [mkS_size]
            have := f3 y hy
            omega
        · have hall : errs ((cutV s.data.toList sep.data.toList cs).map mkS ++ [sep]) = 0 := by
            refine errs_all _ (fun x hx => ?_)
            rcases List.mem_append.1 hx with hx | hx
            · obtain ⟨y, hy, rfl⟩ := List.mem_map.1 hx
              exact f2 y hy
            · simp at hx; subst hx; exact hv
          rw [if_pos hall, map_data, f1]
          unfold wholeV
          rw [if_pos hz']
          refine Tells.ifp rfl ?_
          simp only [mk_data, beq_self_eq_true]
          exact Tells.pure _
    · rw [if_neg hl]
      refine Tells.ifn (by decide) (Tells.succ ?_)
      simp only [bolterlaw13_TextsBack.j0, if_true, bolterlaw13_num.f, Option.bind_some]
      exact Tells.of (by decide)
  · rw [if_neg he]
    refine Tells.ifn he (Tells.succ ?_)
    simp only [bolterlaw13_TextsBack.j0, if_true, bolterlaw13_num.f, Option.bind_some]
    exact Tells.ifn he (Tells.pure _)
end Go.Proofs.YtdhjdddjgcfhkaaDoor.P
