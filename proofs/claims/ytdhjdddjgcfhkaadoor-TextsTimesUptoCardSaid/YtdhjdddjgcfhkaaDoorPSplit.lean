/- Texts cut and joined, plain; what Split and Join of texts tell. -/
import Derived.Test.YtdhjdddjgcfhkaaDoorPTell
import Derived.Lib.SplitLaws
import Derived.Test.YtdhjdddjgcfhkaaDoorB0
import Derived.Test.YtdhjdddjgcfhkaaDoorB3
import Derived.Test.YtdhjdddjgcfhkaaDoorB4
import Derived.Test.YtdhjdddjgcfhkaaDoorHJoin
import Derived.Test.YtdhjdddjgcfhkaaDoorHLib
import Derived.Test.YtdhjdddjgcfhkaaDoorHSplit
import Derived.Test.YtdhjdddjgcfhkaaDoorHWholes
set_option linter.unusedVariables false
set_option linter.unusedSimpArgs false
namespace Go.Proofs.YtdhjdddjgcfhkaaDoor.P
open Go.Lib Go.RowKit Go.Proofs.YtdhjdddjgcfhkaaDoor.B Go.Proofs.YtdhjdddjgcfhkaaDoorW.PrintWords

/-! ### a text at each place of another one -/
def cutA (sep s : List UInt8) : List (List UInt8) := splitK sep 0 (s.length + 1) s
theorem splitK_more (sep : List UInt8) (hsep : sep ≠ []) : ∀ (n m : Nat) (s : List UInt8), s.length < n → s.length < m → splitK sep 0 n s = splitK sep 0 m s
  | n, m, s, hn, hm => by
    obtain ⟨n, rfl⟩ : ∃ n', n = n' + 1 := ⟨n - 1, by omega⟩
    obtain ⟨m, rfl⟩ : ∃ m', m = m' + 1 := ⟨m - 1, by omega⟩
    have hp : 0 < sep.length := List.length_pos_iff.2 hsep
    simp only [splitK]
    by_cases h : (index s sep == -1) = true
    · rw [if_pos h, if_pos h]
    · rw [if_neg h, if_neg h]
      have hr := index_room s sep (by have := index_ge s sep; have : index s sep ≠ -1 := fun e => h (by simp [e]); omega)
      have hg : 0 ≤ index s sep := by have := index_ge s sep; have : index s sep ≠ -1 := fun e => h (by simp [e]); omega
      rw [splitK_more sep hsep n m _ (by rw [List.length_drop]; omega) (by rw [List.length_drop]; omega)]
termination_by n _ _ => n
theorem cutA_miss (sep s : List UInt8) (h : index s sep = -1) : cutA sep s = [s] := by
  unfold cutA; simp only [splitK]; rw [if_pos (by simp [h])]
theorem cutA_hit (sep s : List UInt8) (hsep : sep ≠ []) (i : Nat) (h : index s sep = (i : Int)) : cutA sep s = s.take i :: cutA sep (s.drop (i + sep.length)) := by
  have hp : 0 < sep.length := List.length_pos_iff.2 hsep
  have hr := index_room s sep (by omega)
  unfold cutA
  conv => lhs; simp only [splitK]
  rw [if_neg (by simp [h]), h, Int.toNat_natCast, Nat.add_zero, splitK_more sep hsep s.length ((s.drop (i + sep.length)).length + 1) _ (by rw [List.length_drop]; omega) (by omega)]
theorem splitK_count (sep : List UInt8) (hsep : sep ≠ []) : ∀ (n : Nat) (s : List UInt8), splitK sep 0 (countFrom sep n s) s = splitK sep 0 n s
  | 0, _ => rfl
  | n + 1, s => by
    simp only [countFrom]
    by_cases h : (index s sep == -1) = true
    · rw [if_pos h]; simp only [splitK]; rw [if_pos h]
    · rw [if_neg h, Nat.add_comm]; simp only [splitK]; rw [if_neg h, if_neg h, splitK_count sep hsep n]
theorem split_cutA (sep s : List UInt8) (hsep : sep ≠ []) : splitK sep 0 (count s sep) s = cutA sep s := splitK_count sep hsep _ s
/-- An instance, by its place. -/
theorem hit_parts (sep s : List UInt8) (i : Nat) (h : index s sep = (i : Int)) : s = s.take i ++ (sep ++ s.drop (i + sep.length)) := by
  rcases index_spec s sep with ⟨h1, _⟩ | ⟨j, h1, h2, h3, _⟩
  · omega
  · obtain rfl : j = i := by omega
    unfold occAt at h3
    obtain ⟨r, hr⟩ := List.isPrefixOf_iff_prefix.1 h3
    have e : s.drop (j + sep.length) = r := by rw [← List.drop_drop, ← hr, List.drop_left]
    rw [e, hr, List.take_append_drop]
theorem cutA_cases (sep s : List UInt8) (hsep : sep ≠ []) : (index s sep = -1 ∧ cutA sep s = [s]) ∨ ∃ i : Nat, index s sep = (i : Int) ∧ i + sep.length ≤ s.length ∧ cutA sep s = s.take i :: cutA sep (s.drop (i + sep.length)) ∧ s = s.take i ++ (sep ++ s.drop (i + sep.length)) := by
  by_cases h : index s sep = -1
  · exact .inl ⟨h, cutA_miss sep s h⟩
  · have hg := index_ge s sep
    refine .inr ⟨(index s sep).toNat, by omega, ?_, cutA_hit sep s hsep _ (by omega), hit_parts sep s _ (by omega)⟩
    have := index_room s sep (by omega)
    omega
/-- Joined. -/
def joinL (sep : List UInt8) : List (List UInt8) → List UInt8
  | [] => []
  | [x] => x
  | x :: y :: r => x ++ (sep ++ joinL sep (y :: r))
theorem cutA_ne (sep s : List UInt8) : cutA sep s ≠ [] := by
  unfold cutA; simp only [splitK]; split <;> simp
theorem join_cons (sep x : List UInt8) (r : List (List UInt8)) (h : r ≠ []) : joinL sep (x :: r) = x ++ (sep ++ joinL sep r) := by
  match r, h with
  | y :: r, _ => rfl
theorem join_cutA (sep : List UInt8) (hsep : sep ≠ []) : ∀ (n : Nat) (s : List UInt8), s.length ≤ n → joinL sep (cutA sep s) = s
  | n, s, hn => by
    have hp : 0 < sep.length := List.length_pos_iff.2 hsep
    rcases cutA_cases sep s hsep with ⟨_, e⟩ | ⟨i, _, hle, e, hs⟩
    · rw [e]; rfl
    · obtain ⟨n, rfl⟩ : ∃ n', n = n' + 1 := ⟨n - 1, by omega⟩
      rw [e, join_cons _ _ _ (cutA_ne _ _), join_cutA sep hsep n _ (by rw [List.length_drop]; omega)]
      exact hs.symm
termination_by n => n
theorem cutA_valid (sep : List UInt8) (hsep : sep ≠ []) (hv : validD sep = true) : ∀ (n : Nat) (s : List UInt8), s.length ≤ n → validD s = true → ∀ x ∈ cutA sep s, validD x = true
  | n, s, hn, hs => by
    have hp : 0 < sep.length := List.length_pos_iff.2 hsep
    rcases cutA_cases sep s hsep with ⟨_, e⟩ | ⟨i, _, hle, e, hsx⟩
    · rw [e]; intro x hx; simp at hx; subst hx; exact hs
    · obtain ⟨n, rfl⟩ : ∃ n', n = n' + 1 := ⟨n - 1, by omega⟩
      rw [hsx] at hs
      obtain ⟨h1, h2⟩ := valid_mid hs hv hsep
      rw [e]
      intro x hx
      rcases List.mem_cons.1 hx with rfl | hx
      · exact h1
      · exact cutA_valid sep hsep hv n _ (by rw [List.length_drop]; omega) h2 x hx
termination_by n => n
theorem cutA_lens (sep : List UInt8) (hsep : sep ≠ []) : ∀ (n : Nat) (s : List UInt8), s.length ≤ n → (∀ x ∈ cutA sep s, x.length ≤ s.length) ∧ (cutA sep s).length ≤ s.length + 1
  | n, s, hn => by
    have hp : 0 < sep.length := List.length_pos_iff.2 hsep
    rcases cutA_cases sep s hsep with ⟨_, e⟩ | ⟨i, _, hle, e, hsx⟩
    · rw [e]; exact ⟨fun x hx => by simp at hx; subst hx; exact Nat.le_refl _, by simp⟩
    · obtain ⟨n, rfl⟩ : ∃ n', n = n' + 1 := ⟨n - 1, by omega⟩
      obtain ⟨i1, i2⟩ := cutA_lens sep hsep n (s.drop (i + sep.length)) (by rw [List.length_drop]; omega)
      rw [e]
      rw [List.length_drop] at i1 i2
      refine ⟨fun x hx => ?_, by rw [List.length_cons]; omega⟩
      rcases List.mem_cons.1 hx with rfl | hx
      · rw [List.length_take]; omega
      · have := i1 x hx; omega
termination_by n => n

/-! ### a text's characters -/
theorem Txt.count {l : List UInt8} {cs : List (List UInt8)} {rs : List Nat} (h : Txt l cs rs) : ∀ (s : ByteArray) (i fuel : Nat), s.data.toList.drop i = l → l.length ≤ fuel → runeCountFrom s fuel i = cs.length := by
  induction h with
  | nil =>
    intro s i fuel e _
    have : s.size ≤ i := by rw [size_eq]; exact List.drop_eq_nil_iff.1 e
    exact runeCountFrom_end s fuel i (by omega)
  | @cons c r l cs rs hc ht ih =>
    intro s i fuel e hf
    have hp := hc.pos
    rw [List.length_append] at hf
    obtain ⟨fuel, rfl⟩ : ∃ f, fuel = f + 1 := ⟨fuel - 1, by omega⟩
    have hd : Utf8.decode s i = (r, c.length) := by rw [← decodeL_drop, e, hc.app]
    have hi : i < s.size := by
      rw [size_eq]
      apply Nat.lt_of_not_le; intro h
      rw [List.drop_eq_nil_of_le h] at e
      exact absurd (List.append_eq_nil_iff.1 e.symm).1 hc.1
    simp only [runeCountFrom]
    rw [if_pos hi, hd, ih s (i + c.length) fuel (by rw [← List.drop_drop, e, List.drop_left]) (by omega), List.length_cons]
    omega
theorem Txt.count' {s : ByteArray} {cs : List (List UInt8)} {rs : List Nat} (h : Txt s.data.toList cs rs) : runeCount s = cs.length :=
  h.count s 0 s.size (List.drop_zero ..) (by rw [← size_eq]; exact Nat.le_refl _)
def mkS (l : List UInt8) : ByteArray := ⟨l.toArray⟩
theorem mkS_data (l : List UInt8) : (mkS l).data.toList = l := rfl
theorem ext_mk (s : ByteArray) (a b : Nat) : s.extract a b = mkS ((s.data.toList.drop a).take (b - a)) := extract_eq s a b
theorem mkS_size (l : List UInt8) : (mkS l).size = l.length := by rw [size_eq]; rfl
theorem decodeGo_mk (l : List UInt8) (h : l ≠ []) : decodeGo (mkS l) = decodeL l := by
  unfold decodeGo
  rw [if_neg (by rw [mkS_size]; have := List.length_pos_iff.2 h; omega)]
  rfl
set_option maxHeartbeats 1000000 in
theorem explode_l (n : Nat) (hn : n < 9223372036854775807) : ∀ (cs : List (List UInt8)) (c : List UInt8) (rs : List Nat) (l : List UInt8) (done : List ByteArray) (k : Nat), Txt l (c :: cs) rs → done.length + (cs.length + 1) = n → cs.length + 1 < k →
    strings_explode.l0 k (mkS l) (n : Int) (done ++ List.replicate (cs.length + 1) (⟨#[]⟩ : ByteArray)) (done.length : Int) = some (done ++ (c :: cs).map mkS)
  | [], c, rs, l, done, k, ht, hd, hk => by
    obtain ⟨k, rfl⟩ : ∃ k', k = k' + 1 := ⟨k - 1, by omega⟩
    simp only [List.length_nil] at hd
    simp only [strings_explode.l0]
    rw [w64 (by omega) (by omega), if_neg (by omega), if_pos (by omega), if_pos (by omega), if_pos (by simp; omega)]
    cases ht with
    | cons hc hr =>
      cases hr
      rw [show ((n : Int) - 1).toNat = done.length by omega]
      simp [List.set_append_right]
  | d :: cs, c, rs, l, done, k, ht, hd, hk => by
    obtain ⟨k, rfl⟩ : ∃ k', k = k' + 1 := ⟨k - 1, by omega⟩
    simp only [List.length_cons] at hd hk
    cases ht with
    | @cons c r l cs rs hc hr =>
      have hne : c ++ l ≠ [] := by simp [hc.1]
      have hp := hc.pos
      have ih := explode_l n hn cs d _ l (done ++ [mkS c]) k hr (by simp; omega) (by omega)
      simp only [strings_explode.l0]
      rw [w64 (x := (n : Int) - 1) (by omega) (by omega), if_pos (by omega)]
      unfold utf8_DecodeRuneInString.f
      simp only [Option.bind_some]
      rw [decodeGo_mk _ hne, hc.app l]
      simp only
      rw [if_pos (by omega), mkS_size, if_pos (by simp; omega), if_pos (by omega), if_pos (by simp; omega), Int.toNat_natCast, Int.toNat_natCast, ext_mk, ext_mk, mkS_data, w64 (by omega) (by omega)]
      rw [List.drop_left, List.drop_zero, Nat.sub_zero, List.take_left, List.length_append, List.take_of_length_le (by omega)]
      have e1 : (done ++ List.replicate (cs.length + 1 + 1) (⟨#[]⟩ : ByteArray)).set done.length (mkS c) = (done ++ [mkS c]) ++ List.replicate (cs.length + 1) (⟨#[]⟩ : ByteArray) := by
        rw [List.set_append_right _ _ (Nat.le_refl _), Nat.sub_self, List.replicate_succ, List.set_cons_zero, List.append_assoc]; rfl
      have e2 : ((done.length : Int) + 1) = ((done ++ [mkS c]).length : Int) := by simp
      simp only [List.length_cons]
      rw [e1, e2, ih, List.append_assoc]
      rfl
theorem explode_tells (s : ByteArray) (cs : List (List UInt8)) (rs : List Nat) (ht : Txt s.data.toList cs rs) (hne : cs ≠ []) (hs : s.size < 17592186044416) : Tells (fun k => strings_explode.f k s (-1)) (cs.map mkS) := by
  have hlen := ht.lens
  rw [← size_eq] at hlen
  unfold strings_explode.f utf8_RuneCountInString.f
  rw [if_pos (by omega)]
  simp only [Option.bind_some]
  refine Tells.ifp (by decide) ?_
  refine Tells.succ (Tells.succ ?_)
  simp only [strings_explode.j0, strings_explode.j1, if_true]
  rw [ht.count']
  match cs, hne, ht with
  | c :: cs, _, ht =>
    refine Tells.ifp (by omega) (Tells.ifp (by simp only [List.length_cons] at hlen ⊢; omega) ?_)
    refine ⟨cs.length + 2, fun k hk => ?_⟩
    have := explode_l (cs.length + 1) (by simp at hlen; omega) cs c rs s.data.toList [] k ht (by simp) (by omega)
    rw [show mkS s.data.toList = s from mk_data s] at this
    simpa using this

/-! ### texts.Split -/
/-- The pieces of a text. -/
def cutV (s sep : List UInt8) (cs : List (List UInt8)) : List (List UInt8) := if s = [] then [] else if sep = [] then cs else cutA sep s
theorem splitB_cutA (s sep : ByteArray) (hsep : sep.size ≠ 0) : splitB sep 0 (countB s sep) s = (cutA sep.data.toList s.data.toList).map mkS := by
  have hne : sep.data.toList ≠ [] := by
    intro h; apply hsep; rw [size_eq, h]; rfl
  rw [← split_cutA _ _ hne, ← splitB_data, List.map_map]
  conv => lhs; rw [← List.map_id (splitB sep 0 (countB s sep) s)]
  exact List.map_congr_left (fun x _ => (mk_data x).symm)
theorem arithCut_tells (s sep : ByteArray) (hs : s.size < 4294967281) (cs : List (List UInt8)) (rs : List Nat) (ht : sep.size = 0 → Txt s.data.toList cs rs) :
    Tells (fun k => arith_Cut.f k s sep) ((cutV s.data.toList sep.data.toList cs).map mkS) := by
  unfold arith_Cut.f cutV
  by_cases h0 : s.data.toList = []
  · rw [if_pos h0]
    exact Tells.ifp (by rw [toList_data]; exact h0) (Tells.pure _)
  · rw [if_neg h0]
    refine Tells.ifn (by rw [toList_data]; exact h0) ?_
    refine Tells.bind ?_ (Tells.pure _)
    unfold strings_Split.f
    by_cases h1 : sep.size = 0
    · have h1' : sep.data.toList = [] := List.eq_nil_of_length_eq_zero (by rw [← size_eq]; exact h1)
      rw [if_pos h1']
      refine Tells.ifp h1 ?_
      have t := ht h1
      refine explode_tells s cs rs t ?_ (by omega)
      rintro rfl
      cases hl : s.data.toList with
      | nil => exact h0 hl
      | cons b t2 => rw [hl] at t; have := t.flat; simp at this
    · have h1' : sep.data.toList ≠ [] := by
        intro h; apply h1; rw [size_eq, h]; rfl
      rw [if_neg h1']
      refine Tells.ifn h1 ?_
      rw [if_pos hs, splitB_cutA s sep h1]
      exact Tells.pure _
def wholesV (l : List (List UInt8)) : List ByteArray × Int := if (∀ x ∈ l, x.length ≤ 16384) then (l.map mkS, 0) else ([], 5)
theorem wholes_ok (l : List (List UInt8)) : texts_wholes.f (l.map mkS) 0 = some (wholesV l) := by
  unfold texts_wholes.f wholesV
  rw [if_pos rfl]
  by_cases h : ∀ x ∈ l, x.length ≤ 16384
  · rw [if_pos h, if_neg]
    rw [List.any_eq_true]
    rintro ⟨x, hx, hd⟩
    obtain ⟨y, hy, rfl⟩ := List.mem_map.1 hx
    have := of_decide_eq_true hd
    rw [mkS_size] at this
    have := h y hy
    omega
  · rw [if_neg h, if_pos]
    rw [List.any_eq_true]
    have ⟨x, hx, hl⟩ : ∃ x ∈ l, ¬ x.length ≤ 16384 := by
      apply Classical.byContradiction; intro hn
      exact h (fun x hx => Classical.byContradiction fun hc => hn ⟨x, hx, hc⟩)
    exact ⟨mkS x, List.mem_map.2 ⟨x, hx, rfl⟩, decide_eq_true (by rw [mkS_size]; omega)⟩
theorem errs_pair (a b : ByteArray) (h : errs [a, b] = 0) : validD a.data.toList = true ∧ validD b.data.toList = true := by
  simp only [errs] at h
  split at h
  · split at h
    · rename_i h1 h2
      unfold errV at h1 h2
      exact ⟨by split at h1 <;> simp_all, by split at h2 <;> simp_all⟩
    · rename_i hn; exact absurd h hn
  · rename_i hn; exact absurd h hn
theorem split_tells (s sep : ByteArray) (hs : s.size < 4294967281) (hp : sep.size ≤ 140737488351232) : ∃ cs rs, (errs [s, sep] = 0 → Txt s.data.toList cs rs) ∧
    Tells (fun k => texts_Split.f k s sep) (if errs [s, sep] = 0 then wholesV (cutV s.data.toList sep.data.toList cs) else ([], errs [s, sep])) := by
  have hc := checks_tells [s, sep] (by simp) (by
    intro x hx; simp only [List.mem_cons, List.mem_nil_iff, or_false] at hx; rcases hx with rfl | rfl <;> omega)
  unfold texts_Split.f
  by_cases he : errs [s, sep] = 0
  · obtain ⟨v1, v2⟩ := errs_pair _ _ he
    obtain ⟨cs, rs, ht⟩ := Txt.of v1
    refine ⟨cs, rs, fun _ => ht, hc.bind ?_⟩
    rw [if_pos he]
    refine Tells.ifp he ?_
    refine (arithCut_tells s sep hs cs rs (fun _ => ht)).bind ?_
    rw [wholes_ok]
    exact Tells.pure _
  · refine ⟨[], [], fun h => absurd h he, hc.bind ?_⟩
    rw [if_neg he]
    refine Tells.ifn he (Tells.pure _)

/-! ### texts.Join -/
theorem putL_len (l : List UInt8) (s : ByteArray) : l.length ≤ (putL l s).length := by
  unfold putL; split
  · simp
  · exact Nat.le_refl _
/-- Put behind each other, no more than is needed: all, or too long (and all is too long, too). -/
theorem puts (ps : List ByteArray) : ∀ acc : List UInt8, ps.foldl putL acc = acc ++ (ps.map (·.data.toList)).flatten ∨ (16384 < (ps.foldl putL acc).length ∧ 16384 < (acc ++ (ps.map (·.data.toList)).flatten).length) := by
  induction ps with
  | nil => intro acc; left; simp
  | cons p ps ih =>
    intro acc
    simp only [List.foldl_cons, List.map_cons, List.flatten_cons]
    by_cases h : acc.length ≤ 16384
    · have e : putL acc p = acc ++ p.data.toList := by unfold putL; rw [if_pos h]
      rw [e, ← List.append_assoc]
      exact ih _
    · have e : putL acc p = acc := by unfold putL; rw [if_neg h]
      rw [e]
      right
      rcases ih acc with h2 | ⟨h2, _⟩
      · rw [h2]; simp only [List.length_append]; omega
      · exact ⟨h2, by simp only [List.length_append]; omega⟩
def joinP (sep : ByteArray) : Nat → List ByteArray → List ByteArray
  | _, [] => []
  | i, s :: r => (if 0 < i then [sep, s] else [s]) ++ joinP sep (i + 1) r
theorem joinF_puts (sep : ByteArray) : ∀ (r : List ByteArray) (i : Nat) (acc : List UInt8), joinF sep i acc r = (joinP sep i r).foldl putL acc
  | [], _, _ => rfl
  | s :: r, i, acc => by
    simp only [joinF, joinP, List.foldl_append]
    rw [joinF_puts sep r]
    split <;> rfl
theorem joinP_flat (sep : ByteArray) : ∀ (r : List ByteArray) (i : Nat), ((joinP sep i r).map (·.data.toList)).flatten = (if 0 < i ∧ r ≠ [] then sep.data.toList else []) ++ joinL sep.data.toList (r.map (·.data.toList))
  | [], i => by simp [joinP, joinL]
  | [s], i => by
    simp only [joinP, List.append_nil, List.map_cons, List.map_nil, joinL]
    by_cases h : 0 < i
    · rw [if_pos h, if_pos ⟨h, by simp⟩]; simp
    · rw [if_neg h, if_neg (fun hc => h hc.1)]; simp
  | s :: t :: r, i => by
    have ih := joinP_flat sep (t :: r) (i + 1)
    rw [if_pos ⟨Nat.succ_pos i, by simp⟩] at ih
    have e : joinP sep i (s :: t :: r) = (if 0 < i then [sep, s] else [s]) ++ joinP sep (i + 1) (t :: r) := rfl
    have e2 : joinL sep.data.toList ((s :: t :: r).map (·.data.toList)) = s.data.toList ++ (sep.data.toList ++ joinL sep.data.toList ((t :: r).map (·.data.toList))) := rfl
    rw [e, List.map_append, List.flatten_append, ih, e2]
    by_cases h : 0 < i
    · rw [if_pos h, if_pos ⟨h, by simp⟩]; simp
    · rw [if_neg h, if_neg (fun hc => h hc.1)]; simp
theorem join_whole (sep : ByteArray) (r : List ByteArray) : wholeV (joinF sep 0 [] r) = wholeV (joinL sep.data.toList (r.map (·.data.toList))) := by
  have h := puts (joinP sep 0 r) []
  rw [← joinF_puts, joinP_flat, if_neg (fun h => by omega), List.nil_append, List.nil_append] at h
  rcases h with h | ⟨h1, h2⟩
  · rw [h]
  · unfold wholeV; rw [if_neg (by omega), if_neg (by omega)]
theorem join_tells (l : List ByteArray) (sep : ByteArray) (hl : ∀ s ∈ sep :: l, s.size ≤ 70368744177664) (hn : l.length ≤ 1099511627776) :
    Tells (fun k => texts_Join.f k l sep) (if errs (l ++ [sep]) = 0 then wholeV (joinL sep.data.toList (l.map (·.data.toList))) else (⟨#[]⟩, errs (l ++ [sep]))) := by
  unfold texts_Join.f
  refine Tells.ifp ⟨hl, hn⟩ ?_
  refine (checks_tells (l ++ [sep]) (by simp; omega) (fun s hs => ?_)).bind ?_
  · have := hl s (by simp at hs ⊢; rcases hs with h | h; exact .inr h; exact .inl h)
    omega
  · by_cases he : errs (l ++ [sep]) = 0
    · rw [if_pos he, he]
      exact Tells.of (by rw [whole_ok, join_whole])
    · rw [if_neg he]
      exact Tells.of (whole_err _ _ he)
theorem errs_all : ∀ (l : List ByteArray), (∀ s ∈ l, validD s.data.toList = true) → errs l = 0
  | [], _ => rfl
  | s :: r, h => by
    simp only [errs]
    have : errV s.data.toList = 0 := by unfold errV; rw [if_pos (h s (by simp))]
    rw [if_pos this]
    exact errs_all r (fun t ht => h t (by simp [ht]))
end Go.Proofs.YtdhjdddjgcfhkaaDoor.P
