/- What the reference's First, Check and Runes tell (bolterref04), by the decoder. -/
import Derived.Test.YtdhjdddjgcfhkaaDoorPTell
import Derived.Test.YtdhjdddjgcfhkaaDoorB0
import Derived.Test.YtdhjdddjgcfhkaaDoorB5
import Derived.Test.YtdhjdddjgcfhkaaDoorB6
set_option linter.unusedVariables false
set_option linter.unusedSimpArgs false
namespace Go.Proofs.YtdhjdddjgcfhkaaDoor.P
open Go.Lib Go.RowKit Go.Proofs.YtdhjdddjgcfhkaaDoor.B Go.Proofs.YtdhjdddjgcfhkaaDoorW.PrintWords

def clsSz (l : List UInt8) : Nat := if 240 ≤ (l.getD 0 0).toNat then 4 else if 224 ≤ (l.getD 0 0).toNat then 3 else if 192 ≤ (l.getD 0 0).toNat then 2 else 1
def clsV (l : List UInt8) : Nat :=
  if 240 ≤ (l.getD 0 0).toNat then ((((l.getD 0 0).toNat - 240) * 64 + (l.getD 1 0).toNat % 64) * 64 + (l.getD 2 0).toNat % 64) * 64 + (l.getD 3 0).toNat % 64
  else if 224 ≤ (l.getD 0 0).toNat then (((l.getD 0 0).toNat - 224) * 64 + (l.getD 1 0).toNat % 64) * 64 + (l.getD 2 0).toNat % 64
  else if 192 ≤ (l.getD 0 0).toNat then ((l.getD 0 0).toNat - 192) * 64 + (l.getD 1 0).toNat % 64 else (l.getD 0 0).toNat
theorem cls_dec (l : List UInt8) (hne : l ≠ []) (hb : ¬ ((decodeL l).1 = 65533 ∧ (decodeL l).2 = 1)) : decodeL l = (clsV l, clsSz l) ∧ clsSz l ≤ l.length := by
  have hl : 0 < l.length := List.length_pos_iff.2 hne
  have k0 := (l.getD 0 0).toNat_lt
  rw [decodeL_N] at hb ⊢
  unfold clsV clsSz
  rcases decodeN_shape l.length (l.getD 0 0).toNat (l.getD 1 0).toNat (l.getD 2 0).toNat (l.getD 3 0).toNat with ⟨c, e⟩ | ⟨c1, c2, c3, cv, e⟩ | ⟨c1, c2, c3, c4, cv, cs, e⟩ | ⟨c1, c2, c3, c4, c5, cv, cw, e⟩ | e
  · rw [e, if_neg (by omega), if_neg (by omega), if_neg (by omega), if_neg (by omega), if_neg (by omega), if_neg (by omega)]; exact ⟨rfl, by omega⟩
  · rw [e, if_neg (by omega), if_neg (by omega), if_pos (by omega), if_neg (by omega), if_neg (by omega), if_pos (by omega)]; exact ⟨Prod.ext (by simp only; omega) rfl, by omega⟩
  · rw [e, if_neg (by omega), if_pos (by omega), if_neg (by omega), if_pos (by omega)]; exact ⟨Prod.ext (by simp only; omega) rfl, by omega⟩
  · rw [e, if_pos (by omega), if_pos (by omega)]; exact ⟨Prod.ext (by simp only; omega) rfl, by omega⟩
  · rw [e] at hb; exact absurd ⟨rfl, rfl⟩ hb

def mayN (v : Nat) : Prop := v ≤ 1114111 ∧ (v < 55296 ∨ 57343 < v)
instance (v : Nat) : Decidable (mayN v) := by unfold mayN; infer_instance
theorem may_tells (v : Nat) : bolterref04_may.f (v : Int) = some (decide (mayN v)) := by
  unfold bolterref04_may.f
  rw [if_pos (by omega)]
  by_cases h1 : v ≤ 1114111
  · rw [if_pos (by omega)]
    by_cases h2 : v < 55296
    · rw [if_pos (by omega)]; exact congrArg some (decide_eq_true (show mayN v from ⟨h1, .inl h2⟩)).symm
    · rw [if_neg (by omega)]
      refine congrArg some (decide_eq_decide.2 ⟨fun h => ⟨h1, .inr (by omega)⟩, fun h => ?_⟩)
      have := h.2
      omega
  · rw [if_neg (by omega)]; exact congrArg some (decide_eq_false (fun h : mayN v => h1 h.1)).symm
theorem oct (a x : Int) (ha : 0 ≤ a) (hx : 0 ≤ x) (h : a + x < 256) : wrap64 (a + x) % 256 = a + x := by
  rw [w64 (by omega) (by omega), Int.emod_eq_of_lt (by omega) h]
theorem octets_tells (v : Nat) (h : mayN v) : bolterref04_Octets.f (v : Int) = some (encodeRuneZ (v : Int)) := by
  obtain ⟨h1, h2⟩ := h
  unfold bolterref04_Octets.f
  have td : ∀ n : Int, 0 ≤ n → wrap64 (Int.tdiv (v : Int) n) = (v : Int) / n := fun n hn => by
    rw [Int.tdiv_eq_ediv_of_nonneg (by omega)]
    have a1 : 0 ≤ (v : Int) / n := Int.ediv_nonneg (by omega) hn
    have a2 : (v : Int) / n ≤ v := Int.ediv_le_self _ (by omega)
    exact w64 (by omega) (by omega)
  have tm : ∀ (x n : Int), 0 ≤ x → Int.tmod x n = x % n := fun x n hn => Int.tmod_eq_emod_of_nonneg hn
  by_cases a1 : v < 128
  · rw [if_pos (by omega), encodeRuneZ_one (by omega) (by omega)]
    rw [Int.emod_eq_of_lt (by omega) (by omega)]
  rw [if_neg (by omega)]
  by_cases a2 : v < 2048
  · rw [if_pos (by omega), encodeRuneZ_two (by omega) (by omega)]
    rw [td _ (by omega), tm _ _ (by omega), oct 192 _ (by omega) (by omega) (by omega), oct 128 ((v : Int) % 64) (by omega) (by omega) (by omega)]
  rw [if_neg (by omega)]
  by_cases a3 : v < 65536
  · rw [if_pos (by omega), encodeRuneZ_three (by omega)]
    rw [td _ (by omega), td _ (by omega), tm _ _ (by omega), tm _ _ (by omega), oct 224 _ (by omega) (by omega) (by omega), oct 128 ((v : Int) / 64 % 64) (by omega) (by omega) (by omega), oct 128 ((v : Int) % 64) (by omega) (by omega) (by omega)]
  · rw [if_neg (by omega), encodeRuneZ_four (by omega) (by omega)]
    rw [td _ (by omega), td _ (by omega), td _ (by omega), tm _ _ (by omega), tm _ _ (by omega), tm _ _ (by omega), oct 240 _ (by omega) (by omega) (by omega), oct 128 ((v : Int) / 4096 % 64) (by omega) (by omega) (by omega), oct 128 ((v : Int) / 64 % 64) (by omega) (by omega) (by omega), oct 128 ((v : Int) % 64) (by omega) (by omega) (by omega)]

theorem bt_g (s : ByteArray) (i : Nat) : bt s (i : Int) = ((s.data.toList.getD i 0).toNat : Int) := by
  unfold bt
  split
  · rename_i h
    have h' : i < s.size := by simpa only [Int.toNat_natCast] using h
    have h2 : i < s.data.toList.length := by rw [← size_eq]; exact h'
    have h3 : s.data.toList.getD i 0 = s.data.toList[i] := by rw [List.getD, List.getElem?_eq_getElem h2]; rfl
    rw [h3]
    simp only [Int.toNat_natCast]
    rfl
  · rename_i h
    have h' : ¬ i < s.size := by simpa only [Int.toNat_natCast] using h
    have h2 : ¬ i < s.data.toList.length := by rw [← size_eq]; exact h'
    have h3 : s.data.toList[i]? = none := List.getElem?_eq_none (by omega)
    simp only [List.getD, h3]; rfl

/-- The last step. -/
theorem first_end (s : ByteArray) (v sz k : Nat) (hs : sz ≤ s.size) (hz : s.size < 9223372036854775807) : bolterref04_First.l0 (k + 1) s (v : Int) (sz : Int) (sz : Int) =
    some (if mayN v ∧ encodeRune (v : Int) = s.data.toList.take sz then ((v : Int), (sz : Int)) else (0, 0)) := by
  simp only [bolterref04_First.l0]
  rw [if_neg (by omega), may_tells]
  simp only [Option.bind_some, decide_eq_true_eq]
  by_cases hm : mayN v
  · rw [if_pos hm, octets_tells v hm]
    simp only [Option.bind_some]
    rw [if_pos (by omega), if_pos (by omega)]
    have e1 : (strOfNums (encodeRuneZ (v : Int))).toList = encodeRune (v : Int) := by rw [toList_data]; rfl
    have e2 : (s.extract 0 ((sz : Int)).toNat).toList = s.data.toList.take sz := by rw [extract_toList]; simp
    rw [e1, e2]
    by_cases he : encodeRune (v : Int) = s.data.toList.take sz
    · rw [if_pos he, if_pos ⟨hm, he⟩]
    · rw [if_neg he, if_neg (fun h => he h.2)]
  · rw [if_neg hm, if_neg (fun h => hm h.1)]
theorem first_step (s : ByteArray) (v i sz k : Nat) (h : i < sz) (hs : sz ≤ s.size) (hsz : sz ≤ 4) (hv : v < 100000000) : bolterref04_First.l0 (k + 1) s (v : Int) (sz : Int) (i : Int) = bolterref04_First.l0 k s ((v * 64 + (s.data.toList.getD i 0).toNat % 64 : Nat) : Int) (sz : Int) ((i + 1 : Nat) : Int) := by
  have hb := (s.data.toList.getD i 0).toNat_lt
  conv => lhs; simp only [bolterref04_First.l0]
  rw [if_pos (by omega), if_pos (by omega), if_pos (by omega), bt_g, w64 (x := (v : Int) * 64) (by omega) (by omega), w64 (x := ((s.data.toList.getD i 0).toNat : Int)) (by omega) (by omega), Int.tmod_eq_emod_of_nonneg (by omega), w64 (by omega) (by omega), w64 (by omega) (by omega)]
  congr 1
def firstV (l : List UInt8) : Int × Int := if l = [] then (0, 0) else if (decodeL l).1 = 65533 ∧ (decodeL l).2 = 1 then (0, 0) else (((decodeL l).1 : Int), ((decodeL l).2 : Int))
theorem first_core (l : List UInt8) (hne : l ≠ []) (hs : clsSz l ≤ l.length) : (if mayN (clsV l) ∧ encodeRune (clsV l : Int) = l.take (clsSz l) then ((clsV l : Int), (clsSz l : Int)) else (0, 0)) = firstV l := by
  unfold firstV
  rw [if_neg hne]
  by_cases hb : (decodeL l).1 = 65533 ∧ (decodeL l).2 = 1
  · rw [if_pos hb, if_neg]
    rintro ⟨hm, he⟩
    have hc := Ch.of_enc (clsV l) hm.1 hm.2
    have hd := hc.app (l.drop (clsSz l))
    rw [he, List.take_append_drop] at hd
    apply hc.2.2
    rw [hd] at hb
    rw [he]
    exact hb
  · rw [if_neg hb]
    obtain ⟨e1, e2⟩ := cls_dec l hne hb
    obtain ⟨hc, _, _⟩ := Ch.take hne e1 (by rw [e1] at hb; exact hb)
    have hle := hc.le
    rw [if_pos ⟨⟨hle.1, hle.2.1⟩, hc.enc⟩, e1]
theorem first_short (l : List UInt8) (hne : l ≠ []) (hs : ¬ clsSz l ≤ l.length) : firstV l = (0, 0) := by
  unfold firstV
  rw [if_neg hne]
  by_cases hb : (decodeL l).1 = 65533 ∧ (decodeL l).2 = 1
  · rw [if_pos hb]
  · exact absurd (cls_dec l hne hb).2 hs
set_option maxHeartbeats 1000000 in
theorem first_tells (s : ByteArray) (hz : s.size < 9223372036854775807) (k : Nat) : bolterref04_First.f (k + 6) s = some (firstV s.data.toList) := by
  have hb := (s.data.toList.getD 0 0).toNat_lt
  unfold bolterref04_First.f
  by_cases h0 : s.size = 0
  · rw [if_pos (by omega)]
    have : s.data.toList = [] := List.eq_nil_of_length_eq_zero (by rw [← size_eq]; exact h0)
    rw [this]; rfl
  have hne : s.data.toList ≠ [] := by
    intro h; apply h0; rw [size_eq, h]; rfl
  rw [if_neg (by omega), if_pos (by omega), show bt s 0 = bt s ((0 : Nat) : Int) from rfl, bt_g, w64 (by omega) (by omega)]
  have hz' := size_eq s
  -- a class
  have go : ∀ (v sz : Nat), bolterref04_First.j0 (k + 6) s (v : Int) (sz : Int) = if s.size < sz then some (0, 0) else bolterref04_First.l0 (k + 5) s (v : Int) (sz : Int) ((1 : Nat) : Int) := by
    intro v sz
    simp only [bolterref04_First.j0]
    by_cases h : s.size < sz
    · rw [if_pos (by omega), if_pos h]
    · rw [if_neg (by omega), if_neg h]; rfl
  have fin : ∀ (hh : clsSz s.data.toList ≤ s.size) (k : Nat), bolterref04_First.l0 (k + 1) s (clsV s.data.toList : Int) (clsSz s.data.toList : Int) (clsSz s.data.toList : Int) = some (firstV s.data.toList) := by
    intro hh k
    rw [first_end s _ _ k hh hz, first_core _ hne (by omega)]
  by_cases c4 : 240 ≤ (s.data.toList.getD 0 0).toNat
  · rw [if_pos (by omega), w64 (by omega) (by omega), show (((s.data.toList.getD 0 0).toNat : Int) - 240) = (((s.data.toList.getD 0 0).toNat - 240 : Nat) : Int) by omega, show (4 : Int) = ((4 : Nat) : Int) from rfl, go]
    have e1 : clsSz s.data.toList = 4 := by unfold clsSz; rw [if_pos c4]
    by_cases hs : s.size < 4
    · rw [if_pos hs, first_short _ hne (by omega)]
    · rw [if_neg hs, first_step s _ 1 4 (k + 4) (by omega) (by omega) (by omega) (by omega), first_step s _ 2 4 (k + 3) (by omega) (by omega) (by omega) (by omega), first_step s _ 3 4 (k + 2) (by omega) (by omega) (by omega) (by omega)]
      have e2 : clsV s.data.toList = ((((s.data.toList.getD 0 0).toNat - 240) * 64 + (s.data.toList.getD 1 0).toNat % 64) * 64 + (s.data.toList.getD 2 0).toNat % 64) * 64 + (s.data.toList.getD 3 0).toNat % 64 := by unfold clsV; rw [if_pos c4]
      rw [← e2]
      have := fin (by omega) (k + 1)
      rw [e1] at this
      exact this
  rw [if_neg (by omega)]
  by_cases c3 : 224 ≤ (s.data.toList.getD 0 0).toNat
  · rw [if_pos (by omega), w64 (by omega) (by omega), show (((s.data.toList.getD 0 0).toNat : Int) - 224) = (((s.data.toList.getD 0 0).toNat - 224 : Nat) : Int) by omega, show (3 : Int) = ((3 : Nat) : Int) from rfl, go]
    have e1 : clsSz s.data.toList = 3 := by unfold clsSz; rw [if_neg c4, if_pos c3]
    by_cases hs : s.size < 3
    · rw [if_pos hs, first_short _ hne (by omega)]
    · rw [if_neg hs, first_step s _ 1 3 (k + 4) (by omega) (by omega) (by omega) (by omega), first_step s _ 2 3 (k + 3) (by omega) (by omega) (by omega) (by omega)]
      have e2 : clsV s.data.toList = (((s.data.toList.getD 0 0).toNat - 224) * 64 + (s.data.toList.getD 1 0).toNat % 64) * 64 + (s.data.toList.getD 2 0).toNat % 64 := by unfold clsV; rw [if_neg c4, if_pos c3]
      rw [← e2]
      have := fin (by omega) (k + 2)
      rw [e1] at this
      exact this
  rw [if_neg (by omega)]
  by_cases c2 : 192 ≤ (s.data.toList.getD 0 0).toNat
  · rw [if_pos (by omega), w64 (by omega) (by omega), show (((s.data.toList.getD 0 0).toNat : Int) - 192) = (((s.data.toList.getD 0 0).toNat - 192 : Nat) : Int) by omega, show (2 : Int) = ((2 : Nat) : Int) from rfl, go]
    have e1 : clsSz s.data.toList = 2 := by unfold clsSz; rw [if_neg c4, if_neg c3, if_pos c2]
    by_cases hs : s.size < 2
    · rw [if_pos hs, first_short _ hne (by omega)]
    · rw [if_neg hs, first_step s _ 1 2 (k + 4) (by omega) (by omega) (by omega) (by omega)]
      have e2 : clsV s.data.toList = ((s.data.toList.getD 0 0).toNat - 192) * 64 + (s.data.toList.getD 1 0).toNat % 64 := by unfold clsV; rw [if_neg c4, if_neg c3, if_pos c2]
      rw [← e2]
      have := fin (by omega) (k + 3)
      rw [e1] at this
      exact this
  · rw [if_neg (by omega), show (1 : Int) = ((1 : Nat) : Int) from rfl, go, if_neg (by omega)]
    have e1 : clsSz s.data.toList = 1 := by unfold clsSz; rw [if_neg c4, if_neg c3, if_neg c2]
    have e2 : clsV s.data.toList = (s.data.toList.getD 0 0).toNat := by unfold clsV; rw [if_neg c4, if_neg c3, if_neg c2]
    rw [← e2]
    have := fin (by omega) (k + 4)
    rw [e1] at this
    exact this

/-! ### Check -/
theorem check_l (s : ByteArray) (hz : s.size < 9223372036854775807) : ∀ (d i k : Nat), s.size ≤ i + d → i ≤ s.size → d + 7 ≤ k → ∃ r, bolterref04_Check.l0 k s (i : Int) = some r ∧ r.2 = errV (s.data.toList.drop i)
  | d, i, k, hd, hi, hk => by
    obtain ⟨k, rfl⟩ : ∃ k', k = k' + 1 := ⟨k - 1, by omega⟩
    simp only [bolterref04_Check.l0]
    by_cases h : i < s.size
    · obtain ⟨d, rfl⟩ : ∃ d', d = d' + 1 := ⟨d - 1, by omega⟩
      obtain ⟨k, rfl⟩ : ∃ k', k = k' + 6 := ⟨k - 6, by omega⟩
      have hne : s.data.toList.drop i ≠ [] := by
        intro h0
        have := congrArg List.length h0
        rw [List.length_drop, ← size_eq] at this
        simp at this; omega
      rw [if_pos (by omega), if_pos (by omega), if_pos (by omega), Int.toNat_natCast]
      have hx : (s.extract i s.size).data.toList = s.data.toList.drop i := by
        rw [extract_data, List.take_of_length_le (by rw [List.length_drop, ← size_eq]; exact Nat.le_refl _)]
      rw [first_tells _ (by rw [size_eq, hx, List.length_drop, ← size_eq]; omega), hx]
      simp only [Option.bind_some]
      unfold firstV errV
      rw [if_neg hne, validD_step _ hne]
      by_cases hb : (decodeL (s.data.toList.drop i)).1 = 65533 ∧ (decodeL (s.data.toList.drop i)).2 = 1
      · rw [if_pos hb, if_pos hb, if_pos rfl]
        exact ⟨_, rfl, rfl⟩
      · obtain ⟨hc, h1, h2⟩ := Ch.take hne (Prod.ext rfl rfl : decodeL (s.data.toList.drop i) = ((decodeL (s.data.toList.drop i)).1, (decodeL (s.data.toList.drop i)).2)) hb
        rw [List.length_drop, ← size_eq] at h1
        rw [if_neg hb, if_neg hb, if_neg (by simp only; omega)]
        simp only
        rw [w64 (by omega) (by omega), List.drop_drop]
        have := check_l s hz d (i + (decodeL (s.data.toList.drop i)).2) (k + 6) (by omega) (by omega) (by omega)
        rw [Int.natCast_add] at this
        exact this
    · rw [if_neg (by omega)]
      refine ⟨_, rfl, ?_⟩
      rw [List.drop_eq_nil_of_le (by rw [← size_eq]; omega)]; rfl
theorem checkR_tells (s : ByteArray) (hz : s.size < 9223372036854775807) : ∃ r, Tells (fun k => bolterref04_Check.f k s) r ∧ r.2 = errV s.data.toList := by
  obtain ⟨r, hr, he⟩ := check_l s hz s.size 0 (s.size + 7) (by omega) (by omega) (by omega)
  exact ⟨r, Tells.mono (bolterref04_Check.mono s) _ hr, by rw [he, List.drop_zero]⟩
end Go.Proofs.YtdhjdddjgcfhkaaDoor.P
