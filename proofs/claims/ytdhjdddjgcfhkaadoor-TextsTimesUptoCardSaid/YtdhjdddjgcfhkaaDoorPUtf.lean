/- UTF-8, plain: a text as its characters' octets. No program here. -/
import Derived.Lib.MapLaws
import Derived.Lib.ValidLaws
import Derived.Lib.TrimUEq
set_option linter.unusedVariables false
set_option linter.unusedSimpArgs false
namespace Go.Proofs.YtdhjdddjgcfhkaaDoor.P
open Go.Lib

/-- c are the octets of the character r. -/
def Ch (c : List UInt8) (r : Nat) : Prop := c ≠ [] ∧ decodeL c = (r, c.length) ∧ ¬ (r = 65533 ∧ c.length = 1)

theorem getD_app (c t : List UInt8) (k : Nat) (h : k < c.length) : (c ++ t).getD k 0 = c.getD k 0 := by
  simp [List.getD, List.getElem?_append_left h]
theorem Ch.pos {c : List UInt8} {r : Nat} (h : Ch c r) : 0 < c.length := List.length_pos_iff.2 h.1
theorem decN2 {n b0 b1 : Nat} (b2 b3 : Nat) (h0 : b0 / 32 = 6) (hn : 1 < n) (h1 : b1 / 64 = 2) (hv : 128 ≤ b0 % 32 * 64 + b1 % 64) :
    decodeN n b0 b1 b2 b3 = (b0 % 32 * 64 + b1 % 64, 2) := by
  unfold decodeN; rw [if_neg (by omega), if_pos ⟨by omega, by omega, by omega⟩, if_pos (by omega)]
theorem decN3 {n b0 b1 b2 : Nat} (b3 : Nat) (h0 : b0 / 16 = 14) (hn : 2 < n) (h1 : b1 / 64 = 2) (h2 : b2 / 64 = 2) (hv : 2048 ≤ b0 % 16 * 4096 + b1 % 64 * 64 + b2 % 64)
    (hw : b0 % 16 * 4096 + b1 % 64 * 64 + b2 % 64 < 55296 ∨ 57344 ≤ b0 % 16 * 4096 + b1 % 64 * 64 + b2 % 64) :
    decodeN n b0 b1 b2 b3 = (b0 % 16 * 4096 + b1 % 64 * 64 + b2 % 64, 3) := by
  unfold decodeN; rw [if_neg (by omega), if_neg (by omega), if_pos ⟨by omega, ⟨by omega, by omega⟩, by omega, by omega⟩, if_pos (by omega)]
theorem decN4 {n b0 b1 b2 b3 : Nat} (h0 : b0 / 8 = 30) (hn : 3 < n) (h1 : b1 / 64 = 2) (h2 : b2 / 64 = 2) (h3 : b3 / 64 = 2) (hv : 65536 ≤ b0 % 8 * 262144 + b1 % 64 * 4096 + b2 % 64 * 64 + b3 % 64)
    (hw : b0 % 8 * 262144 + b1 % 64 * 4096 + b2 % 64 * 64 + b3 % 64 ≤ 1114111) :
    decodeN n b0 b1 b2 b3 = (b0 % 8 * 262144 + b1 % 64 * 4096 + b2 % 64 * 64 + b3 % 64, 4) := by
  unfold decodeN; rw [if_neg (by omega), if_neg (by omega), if_neg (by omega), if_pos ⟨by omega, ⟨by omega, by omega⟩, ⟨by omega, by omega⟩, by omega, by omega⟩, if_pos (by omega)]

/-- What follows a character does not matter. -/
theorem Ch.app {c : List UInt8} {r : Nat} (h : Ch c r) (t : List UInt8) : decodeL (c ++ t) = (r, c.length) := by
  obtain ⟨hne, hd, hb⟩ := h
  have hl : 0 < c.length := List.length_pos_iff.2 hne
  rw [decodeL_N] at hd ⊢
  rw [getD_app c t 0 hl]
  by_cases h1 : c.length = 1
  · by_cases h0 : (c.getD 0 0).toNat < 128
    · rw [decodeN_ascii _ _ _ _ _ h0] at hd ⊢; exact hd
    · rw [decodeN_alone _ _ _ _ _ (by omega) (.inl (by omega))] at hd
      injection hd with e1 e2
      exact absurd ⟨e1.symm, e2.symm⟩ hb
  · rw [← hd]
    exact decodeN_more c.length (c ++ t).length _ _ _ _ _ _ _ (by omega) (by simp) (by rw [hd]) (fun h => by rw [getD_app c t 1 h]) (fun h => by rw [getD_app c t 2 h]) (fun h => by rw [getD_app c t 3 h])
/-- What a text begins with. -/
theorem Ch.take {l : List UInt8} {r n : Nat} (hne : l ≠ []) (hd : decodeL l = (r, n)) (hb : ¬ (r = 65533 ∧ n = 1)) : Ch (l.take n) r ∧ n ≤ l.length ∧ 0 < n := by
  have hl : 0 < l.length := List.length_pos_iff.2 hne
  rw [decodeL_N] at hd
  rcases decodeN_shape l.length (l.getD 0 0).toNat (l.getD 1 0).toNat (l.getD 2 0).toNat (l.getD 3 0).toNat with ⟨c, e⟩ | ⟨c1, c2, c3, cv, e⟩ | ⟨c1, c2, c3, c4, cv, cs, e⟩ | ⟨c1, c2, c3, c4, c5, cv, cw, e⟩ | e
  all_goals (rw [e] at hd; injection hd with e1 e2)
  · subst e2
    refine ⟨?_, by omega, by omega⟩
    rw [takeA l hl]
    refine ⟨by simp, ?_, by simp; omega⟩
    rw [decodeL_N]
    simp only [List.getD_cons_zero]
    rw [decodeN_ascii _ _ _ _ _ c, e1]; rfl
  · subst e2
    refine ⟨?_, by omega, by omega⟩
    rw [takeB l c2]
    refine ⟨by simp, ?_, by simp⟩
    rw [decodeL_N]
    simp only [List.getD_cons_zero, List.getD_cons_succ, List.length_cons, List.length_nil]
    rw [decN2 _ _ c1 (by omega) c3 cv, e1]
  · subst e2
    refine ⟨?_, by omega, by omega⟩
    rw [takeC l c2]
    refine ⟨by simp, ?_, by simp⟩
    rw [decodeL_N]
    simp only [List.getD_cons_zero, List.getD_cons_succ, List.length_cons, List.length_nil]
    rw [decN3 _ c1 (by omega) c3 c4 cv cs, e1]
  · subst e2
    refine ⟨?_, by omega, by omega⟩
    rw [takeD l c2]
    refine ⟨by simp, ?_, by simp⟩
    rw [decodeL_N]
    simp only [List.getD_cons_zero, List.getD_cons_succ, List.length_cons, List.length_nil]
    rw [decN4 c1 (by omega) c3 c4 c5 cv cw, e1]
  · exact absurd ⟨e1.symm, e2.symm⟩ hb
/-- Lead and following octets. -/
theorem Ch.kinds {c : List UInt8} {r : Nat} (h : Ch c r) : (c.getD 0 0).toNat / 64 ≠ 2 ∧ ∀ i, 1 ≤ i → i < c.length → (c.getD i 0).toNat / 64 = 2 := by
  obtain ⟨hne, hd, hb⟩ := h
  have hl : 0 < c.length := List.length_pos_iff.2 hne
  have k0 := (c.getD 0 0).toNat_lt
  rw [decodeL_N] at hd
  rcases decodeN_shape c.length (c.getD 0 0).toNat (c.getD 1 0).toNat (c.getD 2 0).toNat (c.getD 3 0).toNat with ⟨c0, e⟩ | ⟨c1, c2, c3, cv, e⟩ | ⟨c1, c2, c3, c4, cv, cs, e⟩ | ⟨c1, c2, c3, c4, c5, cv, cw, e⟩ | e
  all_goals (rw [e] at hd; injection hd with e1 e2)
  · exact ⟨by omega, fun i h1 h2 => by omega⟩
  · refine ⟨by omega, fun i h1 h2 => ?_⟩
    obtain rfl : i = 1 := by omega
    exact c3
  · refine ⟨by omega, fun i h1 h2 => ?_⟩
    obtain rfl | rfl : i = 1 ∨ i = 2 := by omega
    · exact c3
    · exact c4
  · refine ⟨by omega, fun i h1 h2 => ?_⟩
    obtain rfl | rfl | rfl : i = 1 ∨ i = 2 ∨ i = 3 := by omega
    · exact c3
    · exact c4
    · exact c5
  · exact absurd ⟨e1.symm, e2.symm⟩ hb
/-- A small character is its octet; the octets of a greater one are from 128 on. -/
theorem Ch.sizes {c : List UInt8} {r : Nat} (h : Ch c r) : (∃ b : UInt8, c = [b] ∧ b.toNat = r ∧ r < 128) ∨ (128 ≤ r ∧ 1 < c.length ∧ ∀ b ∈ c, 128 ≤ b.toNat) := by
  have hk := h.kinds
  obtain ⟨hne, hd, hb⟩ := h
  have hl : 0 < c.length := List.length_pos_iff.2 hne
  have k0 := (c.getD 0 0).toNat_lt
  have key : 128 ≤ r → 1 < c.length → 128 ≤ (c.getD 0 0).toNat → (∃ b : UInt8, c = [b] ∧ b.toNat = r ∧ r < 128) ∨ (128 ≤ r ∧ 1 < c.length ∧ ∀ b ∈ c, 128 ≤ b.toNat) := fun k1 k2 k3 => by
    refine .inr ⟨k1, k2, fun b hb => ?_⟩
    obtain ⟨i, hi, rfl⟩ := List.getElem_of_mem hb
    have hg : c[i] = c.getD i 0 := by simp [List.getD, hi]
    rw [hg]
    by_cases hi0 : i = 0
    · subst hi0; omega
    · have := hk.2 i (by omega) hi; omega
  rw [decodeL_N] at hd
  rcases decodeN_shape c.length (c.getD 0 0).toNat (c.getD 1 0).toNat (c.getD 2 0).toNat (c.getD 3 0).toNat with ⟨c0, e⟩ | ⟨c1, c2, c3, cv, e⟩ | ⟨c1, c2, c3, c4, cv, cs, e⟩ | ⟨c1, c2, c3, c4, c5, cv, cw, e⟩ | e
  all_goals (rw [e] at hd; injection hd with e1 e2)
  · left
    refine ⟨c.getD 0 0, ?_, e1, by omega⟩
    match c, hne, e2 with
    | [b], _, _ => rfl
  · exact key (by omega) (by omega) (by omega)
  · exact key (by omega) (by omega) (by omega)
  · exact key (by omega) (by omega) (by omega)
  · exact absurd ⟨e1.symm, e2.symm⟩ hb
theorem Ch.le {c : List UInt8} {r : Nat} (h : Ch c r) : r ≤ 1114111 ∧ (r < 55296 ∨ 57343 < r) ∧ c.length ≤ 4 := by
  obtain ⟨hne, hd, hb⟩ := h
  have k0 := (c.getD 0 0).toNat_lt
  rw [decodeL_N] at hd
  rcases decodeN_shape c.length (c.getD 0 0).toNat (c.getD 1 0).toNat (c.getD 2 0).toNat (c.getD 3 0).toNat with ⟨c0, e⟩ | ⟨c1, c2, c3, cv, e⟩ | ⟨c1, c2, c3, c4, cv, cs, e⟩ | ⟨c1, c2, c3, c4, c5, cv, cw, e⟩ | e
  all_goals (rw [e] at hd; injection hd with e1 e2)
  all_goals omega
theorem Ch.enc {c : List UInt8} {r : Nat} (h : Ch c r) : encodeRune (r : Int) = c := by
  have he := encode_decode c h.1 (by rw [h.2.1]; exact h.2.2)
  rw [h.2.1, List.take_length] at he
  exact he
theorem toB (z : Int) (h : 0 ≤ z) (h2 : z < 256) : (z.toNat.toUInt8).toNat = z.toNat := by
  show (UInt8.ofNat z.toNat).toNat = _
  rw [UInt8.toNat_ofNat_of_lt' (by show z.toNat < 256; omega)]
set_option maxHeartbeats 1000000 in
/-- A character's octets are those that it is encoded by. -/
theorem Ch.of_enc (r : Nat) (h1 : r ≤ 1114111) (h2 : r < 55296 ∨ 57343 < r) : Ch (encodeRune (r : Int)) r := by
  unfold encodeRune
  by_cases a1 : r ≤ 127
  · rw [encodeRuneZ_one (by omega) (by omega)]
    refine ⟨by simp, ?_, by simp; omega⟩
    rw [decodeL_N]
    simp only [List.map_cons, List.map_nil, List.getD_cons_zero, List.length_cons, List.length_nil]
    rw [toB _ (by omega) (by omega), Int.toNat_natCast, decodeN_ascii _ _ _ _ _ (by omega)]
  by_cases a2 : r ≤ 2047
  · rw [encodeRuneZ_two (by omega) (by omega)]
    refine ⟨by simp, ?_, by simp⟩
    rw [decodeL_N]
    simp only [List.map_cons, List.map_nil, List.getD_cons_zero, List.getD_cons_succ, List.length_cons, List.length_nil]
    rw [toB _ (by omega) (by omega), toB (128 + (r : Int) % 64) (by omega) (by omega), decN2 _ _ (by omega) (by omega) (by omega) (by omega)]
    exact Prod.ext (by simp only; omega) rfl
  by_cases a3 : r ≤ 65535
  · rw [encodeRuneZ_three (by omega)]
    refine ⟨by simp, ?_, by simp⟩
    rw [decodeL_N]
    simp only [List.map_cons, List.map_nil, List.getD_cons_zero, List.getD_cons_succ, List.length_cons, List.length_nil]
    rw [toB _ (by omega) (by omega), toB (128 + (r : Int) / 64 % 64) (by omega) (by omega), toB (128 + (r : Int) % 64) (by omega) (by omega), decN3 _ (by omega) (by omega) (by omega) (by omega) (by omega) (by omega)]
    exact Prod.ext (by simp only; omega) rfl
  · rw [encodeRuneZ_four (by omega) (by omega)]
    refine ⟨by simp, ?_, by simp⟩
    rw [decodeL_N]
    simp only [List.map_cons, List.map_nil, List.getD_cons_zero, List.getD_cons_succ, List.length_cons, List.length_nil]
    rw [toB _ (by omega) (by omega), toB (128 + (r : Int) / 4096 % 64) (by omega) (by omega), toB (128 + (r : Int) / 64 % 64) (by omega) (by omega), toB (128 + (r : Int) % 64) (by omega) (by omega), decN4 (by omega) (by omega) (by omega) (by omega) (by omega) (by omega) (by omega)]
    exact Prod.ext (by simp only; omega) rfl

/-- A text: its characters' octets, its characters. -/
inductive Txt : List UInt8 → List (List UInt8) → List Nat → Prop
  | nil : Txt [] [] []
  | cons {c : List UInt8} {r : Nat} {l : List UInt8} {cs : List (List UInt8)} {rs : List Nat} : Ch c r → Txt l cs rs → Txt (c ++ l) (c :: cs) (r :: rs)

theorem valid_ch {c : List UInt8} {r : Nat} (h : Ch c r) (t : List UInt8) : validD (c ++ t) = validD t := by
  rw [validD_step _ (by simp [h.1]), h.app t, if_neg h.2.2, List.drop_left]
theorem Txt.valid {l : List UInt8} {cs : List (List UInt8)} {rs : List Nat} (h : Txt l cs rs) (t : List UInt8) : validD (l ++ t) = validD t := by
  induction h with
  | nil => rfl
  | cons hc _ ih => rw [List.append_assoc, valid_ch hc, ih]
theorem Txt.valid' {l : List UInt8} {cs : List (List UInt8)} {rs : List Nat} (h : Txt l cs rs) : validD l = true := by
  have := h.valid []
  rw [List.append_nil] at this
  rw [this]; rfl
theorem txt_of_valid : ∀ (n : Nat) (l : List UInt8), l.length ≤ n → validD l = true → ∃ cs rs, Txt l cs rs
  | n, [], _, _ => ⟨[], [], .nil⟩
  | 0, _ :: _, h, _ => by simp at h
  | n + 1, b :: t, h, hv => by
    rw [validD_step _ (by simp)] at hv
    split at hv
    · cases hv
    · rename_i hb
      obtain ⟨hc, hle, hp⟩ := Ch.take (l := b :: t) (r := (decodeL (b :: t)).1) (n := (decodeL (b :: t)).2) (by simp) (Prod.ext (by simp only) (by simp only)) hb
      obtain ⟨cs, rs, ht⟩ := txt_of_valid n _ (by rw [List.length_drop]; simp only [List.length_cons] at h ⊢; omega) hv
      exact ⟨_, _, by have := Txt.cons hc ht; rwa [List.take_append_drop] at this⟩
theorem Txt.of {l : List UInt8} (h : validD l = true) : ∃ cs rs, Txt l cs rs := txt_of_valid l.length l (Nat.le_refl _) h
theorem Txt.app {l m : List UInt8} {cs ds : List (List UInt8)} {rs ss : List Nat} (h : Txt l cs rs) (k : Txt m ds ss) : Txt (l ++ m) (cs ++ ds) (rs ++ ss) := by
  induction h with
  | nil => exact k
  | cons hc _ ih => rw [List.append_assoc]; exact .cons hc ih
theorem valid_app {l m : List UInt8} (h : validD l = true) (k : validD m = true) : validD (l ++ m) = true := by
  obtain ⟨cs, rs, ht⟩ := Txt.of h
  rw [ht.valid, k]
theorem valid_cancel {l m : List UInt8} (h : validD l = true) : validD (l ++ m) = validD m := by
  obtain ⟨cs, rs, ht⟩ := Txt.of h
  exact ht.valid m
theorem Txt.flat {l : List UInt8} {cs : List (List UInt8)} {rs : List Nat} (h : Txt l cs rs) : cs.flatten = l := by
  induction h with
  | nil => rfl
  | cons _ _ ih => rw [List.flatten_cons, ih]
theorem Txt.lens {l : List UInt8} {cs : List (List UInt8)} {rs : List Nat} (h : Txt l cs rs) : cs.length = rs.length ∧ cs.length ≤ l.length := by
  induction h with
  | nil => exact ⟨rfl, Nat.le_refl _⟩
  | cons hc _ ih => have := hc.pos; simp only [List.length_cons, List.length_append]; omega
theorem Txt.uniq {l : List UInt8} {cs ds : List (List UInt8)} {rs ss : List Nat} (h : Txt l cs rs) (k : Txt l ds ss) : cs = ds ∧ rs = ss := by
  induction h generalizing ds ss with
  | nil =>
    generalize hm : ([] : List UInt8) = m at k
    cases k with
    | nil => exact ⟨rfl, rfl⟩
    | cons hc _ => exact absurd (List.append_eq_nil_iff.1 hm.symm).1 hc.1
  | @cons c r l cs rs hc ht ih =>
    generalize hm : c ++ l = m at k
    cases k with
    | nil => exact absurd (List.append_eq_nil_iff.1 hm).1 hc.1
    | @cons d q m ds ss hd hk =>
      have e1 := hc.app l
      rw [hm, hd.app m] at e1
      injection e1 with e2 e3
      obtain ⟨rfl, rfl⟩ := List.append_inj hm e3.symm
      obtain ⟨rfl, rfl⟩ := ih hk
      exact ⟨rfl, by rw [e2]⟩
/-- WHERE A CHARACTER BEGINS, A TEXT MAY BE CUT. -/
theorem Txt.cut {l : List UInt8} {cs : List (List UInt8)} {rs : List Nat} (h : Txt l cs rs) : ∀ (a b : List UInt8), l = a ++ b → (∀ x, b.head? = some x → x.toNat / 64 ≠ 2) → validD a = true ∧ validD b = true := by
  induction h with
  | nil =>
    intro a b e _
    obtain ⟨rfl, rfl⟩ := List.append_eq_nil_iff.1 e.symm
    exact ⟨rfl, rfl⟩
  | @cons c r l cs rs hc ht ih =>
    intro a b e hb
    by_cases hl : c.length ≤ a.length
    · have hca : c = a.take c.length := by
        have := congrArg (List.take c.length) e
        rwa [List.take_left, List.take_append_of_le_length hl] at this
      have hla : l = a.drop c.length ++ b := by
        have := congrArg (List.drop c.length) e
        rwa [List.drop_left, List.drop_append_of_le_length hl] at this
      obtain ⟨h1, h2⟩ := ih _ _ hla hb
      refine ⟨?_, h2⟩
      have e2 : a = c ++ a.drop c.length := by
        conv => lhs; rw [← List.take_append_drop c.length a, ← hca]
      rw [e2, valid_ch hc, h1]
    · by_cases ha : a = []
      · subst ha
        rw [List.nil_append] at e
        subst e
        exact ⟨rfl, (Txt.cons hc ht).valid'⟩
      · exfalso
        have hp : 0 < a.length := List.length_pos_iff.2 ha
        have hk := hc.kinds.2 a.length hp (by omega)
        have hg : (c ++ l)[a.length]? = c[a.length]? := List.getElem?_append_left (by omega)
        rw [e, List.getElem?_append_right (Nat.le_refl _), Nat.sub_self] at hg
        have hc2 : c[a.length]? = some (c.getD a.length 0) := by
          rw [List.getElem?_eq_getElem (by omega)]; simp [List.getD, show a.length < c.length by omega]
        rw [hc2] at hg
        exact hb _ (by rw [List.head?_eq_getElem?, hg]) hk
theorem valid_head {l : List UInt8} (h : validD l = true) : ∀ x, l.head? = some x → x.toNat / 64 ≠ 2 := by
  obtain ⟨cs, rs, ht⟩ := Txt.of h
  cases ht with
  | nil => intro x hx; cases hx
  | @cons c r l cs rs hc ht =>
    intro x hx
    have := hc.kinds.1
    match c, hc.1, hx with
    | b :: t, _, hx =>
      simp only [List.cons_append, List.head?_cons, Option.some.injEq] at hx
      subst hx
      exact this
theorem valid_cut {a b : List UInt8} (h : validD (a ++ b) = true) (hb : ∀ x, b.head? = some x → x.toNat / 64 ≠ 2) : validD a = true ∧ validD b = true := by
  obtain ⟨cs, rs, ht⟩ := Txt.of h
  exact ht.cut a b rfl hb
/-- A text within a text. -/
theorem valid_mid {a p b : List UInt8} (h : validD (a ++ (p ++ b)) = true) (hp : validD p = true) (hne : p ≠ []) : validD a = true ∧ validD b = true := by
  obtain ⟨h1, h2⟩ := valid_cut h (fun x hx => valid_head hp x (by
    match p, hne, hx with
    | c :: t, _, hx => exact hx))
  exact ⟨h1, by rwa [valid_cancel hp] at h2⟩

/-- Letters moved within the small characters. -/
theorem Txt.map {l : List UInt8} {cs : List (List UInt8)} {rs : List Nat} (h : Txt l cs rs) (f : Int → Int) (g : UInt8 → UInt8) (hf : ∀ r : Int, 128 ≤ r → f r = r)
    (hg : ∀ b : UInt8, b.toNat < 128 → f (b.toNat : Int) = ((g b).toNat : Int) ∧ (g b).toNat < 128) (hh : ∀ b : UInt8, 128 ≤ b.toNat → g b = b) :
    mapD f l = l.map g ∧ validD (l.map g) = true := by
  induction h with
  | nil => exact ⟨rfl, rfl⟩
  | @cons c r l cs rs hc ht ih =>
    obtain ⟨i1, i2⟩ := ih
    have hne : c ++ l ≠ [] := by simp [hc.1]
    rcases hc.sizes with ⟨b, rfl, rfl, hb⟩ | ⟨hr, _, hall⟩
    · obtain ⟨g1, g2⟩ := hg b hb
      rw [mapD_step f _ hne, hc.app l, g1, if_pos (by omega), List.drop_left, i1]
      have he : encodeRune ((g b).toNat : Int) = [g b] := by
        unfold encodeRune
        rw [encodeRuneZ_one (by omega) (by omega)]
        simp
      rw [he]
      refine ⟨by simp, ?_⟩
      simp only [List.map_append, List.map_cons, List.map_nil, List.cons_append, List.nil_append]
      rw [validD_cons _ _ g2, i2]
    · have hcm : c.map g = c := by
        conv => rhs; rw [← List.map_id c]
        exact List.map_congr_left (fun b hb => hh b (hall b hb))
      rw [mapD_same f _ hne (by rw [hc.app l]; exact hf _ (by omega)) (by rw [hc.app l]; exact hc.2.2), hc.app l, List.take_left, List.drop_left, i1, List.map_append, hcm]
      exact ⟨rfl, by rw [valid_ch hc, i2]⟩
end Go.Proofs.YtdhjdddjgcfhkaaDoor.P
