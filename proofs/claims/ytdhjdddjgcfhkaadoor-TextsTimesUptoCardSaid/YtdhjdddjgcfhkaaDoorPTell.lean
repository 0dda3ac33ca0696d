/- What printed functions tell with rounds enough; what the checks of texts tell. -/
import Derived.Test.YtdhjdddjgcfhkaaDoorPUtf
import Derived.Test.YtdhjdddjgcfhkaaDoorB0
import Derived.Test.YtdhjdddjgcfhkaaDoorB1
import Derived.Test.YtdhjdddjgcfhkaaDoorB2
import Derived.Test.YtdhjdddjgcfhkaaDoorB4
import Derived.Test.YtdhjdddjgcfhkaaDoorHMoved
import Derived.Test.YtdhjdddjgcfhkaaDoorHUtf
import Derived.Test.YtdhjdddjgcfhkaaDoorHMoved
import Derived.Test.YtdhjdddjgcfhkaaDoorHUtf
set_option linter.unusedVariables false
set_option linter.unusedSimpArgs false
namespace Go.Proofs.YtdhjdddjgcfhkaaDoor.P
open Go.Lib Go.RowKit Go.Proofs.YtdhjdddjgcfhkaaDoor.B Go.Proofs.YtdhjdddjgcfhkaaDoorW.PrintWords

/-- f tells v, with rounds enough. -/
def Tells {α : Type} (f : Nat → Option α) (v : α) : Prop := ∃ k0, ∀ k, k0 ≤ k → f k = some v
theorem Tells.pure {α : Type} (v : α) : Tells (fun _ => some v) v := ⟨0, fun _ _ => rfl⟩
theorem Tells.of {α : Type} {f : Option α} {v : α} (h : f = some v) : Tells (fun _ => f) v := ⟨0, fun _ _ => h⟩
theorem Tells.bind {α β : Type} {f : Nat → Option α} {g : Nat → α → Option β} {v : α} {u : β} (h : Tells f v) (hg : Tells (fun k => g k v) u) : Tells (fun k => (f k).bind (g k)) u := by
  obtain ⟨k1, h1⟩ := h
  obtain ⟨k2, h2⟩ := hg
  exact ⟨max k1 k2, fun k hk => by show (f k).bind (g k) = some u; rw [h1 k (by omega)]; exact h2 k (by omega)⟩
theorem Tells.succ {α : Type} {f : Nat → Option α} {v : α} (h : Tells (fun k => f (k + 1)) v) : Tells f v := by
  obtain ⟨k1, h1⟩ := h
  exact ⟨k1 + 1, fun k hk => by
    obtain ⟨m, rfl⟩ : ∃ m, k = m + 1 := ⟨k - 1, by omega⟩
    exact h1 m (by omega)⟩
theorem Tells.congr {α : Type} {f g : Nat → Option α} {v : α} (h : Tells f v) (e : ∀ k, g k = f k) : Tells g v := by
  obtain ⟨k1, h1⟩ := h
  exact ⟨k1, fun k hk => by rw [e, h1 k hk]⟩
theorem Tells.ifp {α : Type} {f g : Nat → Option α} {v : α} {c : Prop} [Decidable c] (hc : c) (h : Tells f v) : Tells (fun k => if c then f k else g k) v := h.congr fun k => by rw [if_pos hc]
theorem Tells.ifn {α : Type} {f g : Nat → Option α} {v : α} {c : Prop} [Decidable c] (hc : ¬ c) (h : Tells g v) : Tells (fun k => if c then f k else g k) v := h.congr fun k => by rw [if_neg hc]
theorem Tells.ex {α : Type} {f : Nat → Option α} {v : α} (h : Tells f v) : ∃ k, f k = some v := ⟨_, h.choose_spec _ (Nat.le_refl _)⟩
/-- From one telling, where more rounds tell the same. -/
theorem Tells.mono {α : Type} {f : Nat → Option α} {v : α} (m : ∀ k, LeO (f k) (f (k + 1))) (k0 : Nat) (h : f k0 = some v) : Tells f v := by
  refine ⟨k0, fun k hk => ?_⟩
  obtain ⟨d, rfl⟩ : ∃ d, k = k0 + d := ⟨k - k0, by omega⟩
  clear hk
  induction d with
  | zero => exact h
  | succ d ih => exact m _ _ ih

/-! ### utf.Check -/
def errV (l : List UInt8) : Int := if validD l = true then 0 else 61
theorem find_runes (s : ByteArray) : ∀ (k i : Nat), s.size ≤ i + k → (((runesF s k i).find? (fun p => decide (p.2 < 0))).isSome = !validD (s.data.toList.drop i))
  | k, i, h => by
    by_cases hi : i < s.size
    · obtain ⟨k, rfl⟩ : ∃ k', k = k' + 1 := ⟨k - 1, by omega⟩
      have hp := B.decode_pos s i
      have hle := B.decode_le s i hi
      have ih := find_runes s k (i + (Utf8.decode s i).2) (by omega)
      have hne : s.data.toList.drop i ≠ [] := by
        intro h0
        have := congrArg List.length h0
        rw [List.length_drop, ← size_eq] at this
        simp at this; omega
      rw [validD_step _ hne, decodeL_drop]
      simp only [runesF, if_pos hi, runeAt, List.find?_cons]
      by_cases hc : (Utf8.decode s i).1 = 65533 ∧ (Utf8.decode s i).2 = 1
      · rw [if_pos hc, if_pos hc]; rfl
      · rw [if_neg hc, if_neg hc]
        have : decide (((Utf8.decode s i).1 : Int) < 0) = false := by simp
        rw [this]
        simp only
        rw [ih, List.drop_drop]
    · have hne : s.data.toList.drop i = [] := List.drop_eq_nil_of_le (by rw [← size_eq]; omega)
      rw [hne, runesF_end s k i (by omega)]; rfl
theorem checkL_err (s : ByteArray) : (checkL s).2 = errV s.data.toList := by
  have h := find_runes s s.size 0 (by omega)
  rw [List.drop_zero] at h
  unfold checkL checkOf errV runesL
  cases hv : validD s.data.toList with
  | true =>
    rw [hv] at h
    have : (runesF s s.size 0).find? (fun p => decide (p.2 < 0)) = none := by
      cases hf : (runesF s s.size 0).find? (fun p => decide (p.2 < 0)) with
      | none => rfl
      | some p => rw [hf] at h; simp at h
    rw [this]; rfl
  | false =>
    rw [hv] at h
    obtain ⟨p, hp⟩ := Option.isSome_iff_exists.1 h
    rw [hp]; rfl
theorem check_tells (s : ByteArray) (hs : s.size ≤ 140737488351232) : utf_Check.f s = some (checkL s) := by
  unfold utf_Check.f; rw [if_pos hs]

/-! ### texts.Checks -/
def errs : List ByteArray → Int
  | [] => 0
  | s :: r => if errV s.data.toList = 0 then errs r else errV s.data.toList
theorem w64 {x : Int} (h : -9223372036854775808 ≤ x) (h2 : x < 9223372036854775808) : wrap64 x = x := by
  unfold wrap64; omega
theorem rdOf_at {α : Type} (d : α) (l : List α) (i : Nat) (x : α) (h : l[i]? = some x) : rdOf d l (i : Int) = x := by
  unfold rdOf; simp [List.getD, h]
theorem checks_l (l : List ByteArray) (hl : l.length < 9223372036854775807) (hs : ∀ s ∈ l, s.size ≤ 140737488351232) : ∀ (r pre : List ByteArray) (k : Nat), l = pre ++ r → r.length < k → texts_Checks.l0 k l (l.length : Int) (pre.length : Int) = some (errs r)
  | [], pre, k, e, hk => by
    obtain ⟨k, rfl⟩ : ∃ k', k = k' + 1 := ⟨k - 1, by simp at hk; omega⟩
    subst e
    simp only [texts_Checks.l0, List.append_nil]
    rw [if_neg (by omega)]; rfl
  | s :: r, pre, k, e, hk => by
    obtain ⟨k, rfl⟩ : ∃ k', k = k' + 1 := ⟨k - 1, by simp at hk; omega⟩
    have hlen : pre.length < l.length := by rw [e]; simp
    have hx : l[pre.length]? = some s := by rw [e]; simp
    have ih := checks_l l hl hs r (pre ++ [s]) k (by rw [e]; simp) (by simp at hk; omega)
    simp only [texts_Checks.l0]
    rw [if_pos (by omega), if_pos (by omega), if_pos (by omega), rdOf_at _ _ _ _ hx, check_tells s (hs s (List.mem_of_getElem? hx))]
    show (if (checkL s).2 = 0 then _ else _) = _
    rw [checkL_err, w64 (by omega) (by omega)]
    have e2 : ((pre.length : Int) + 1) = ((pre ++ [s]).length : Int) := by simp
    rw [e2, ih]
    rw [errs]
    split <;> rfl
theorem checks_tells (l : List ByteArray) (hl : l.length < 9223372036854775807) (hs : ∀ s ∈ l, s.size ≤ 140737488351232) : Tells (fun k => texts_Checks.f k l) (errs l) :=
  ⟨l.length + 1, fun k hk => checks_l l hl hs l [] k rfl hk⟩

/-! ### texts.whole -/
def wholeV (l : List UInt8) : ByteArray × Int := if l.length ≤ 16384 then (⟨l.toArray⟩, 0) else (⟨#[]⟩, 5)
theorem whole_ok (s : ByteArray) : texts_whole.f s 0 = some (wholeV s.data.toList) := by
  unfold texts_whole.f texts_long.f wholeV
  rw [if_pos rfl, ← size_eq]
  simp only [Option.bind_some, decide_eq_true_eq]
  by_cases h : s.size ≤ 16384
  · rw [if_neg (by omega), if_pos h]
  · rw [if_pos (by omega), if_neg h]
theorem whole_err (s : ByteArray) (e : Int) (he : e ≠ 0) : texts_whole.f s e = some (⟨#[]⟩, e) := by
  unfold texts_whole.f; rw [if_neg he]

/-! ### texts.Lower, texts.Upper -/
def mvB (lo up : Nat) (b : UInt8) : UInt8 := if lo ≤ b.toNat ∧ b.toNat < lo + 26 then (if up = 1 then b - 32 else b + 32) else b
theorem mvB_lower (b : UInt8) : mvB 65 0 b = if 65 ≤ b.toNat ∧ b.toNat < 91 then b + 32 else b := rfl
theorem low_facts : ∀ b : Fin 256, (b.val < 128 → movedR 65 32 (b.val : Int) = ((mvB 65 0 (UInt8.ofNat b.val)).toNat : Int) ∧ (mvB 65 0 (UInt8.ofNat b.val)).toNat < 128) ∧ (128 ≤ b.val → mvB 65 0 (UInt8.ofNat b.val) = UInt8.ofNat b.val) := by decide +kernel
theorem up_facts : ∀ b : Fin 256, (b.val < 128 → movedR 97 (-32) (b.val : Int) = ((mvB 97 1 (UInt8.ofNat b.val)).toNat : Int) ∧ (mvB 97 1 (UInt8.ofNat b.val)).toNat < 128) ∧ (128 ≤ b.val → mvB 97 1 (UInt8.ofNat b.val) = UInt8.ofNat b.val) := by decide +kernel
theorem ofN (b : UInt8) : UInt8.ofNat b.toNat = b := by simp
theorem lower_map (l : List UInt8) (h : validD l = true) : mapD (movedR 65 32) l = l.map (mvB 65 0) ∧ validD (l.map (mvB 65 0)) = true := by
  obtain ⟨cs, rs, ht⟩ := Txt.of h
  refine ht.map (movedR 65 32) (mvB 65 0) (fun r hr => ?_) (fun b hb => ?_) (fun b hb => ?_)
  · unfold movedR; rw [if_neg]; intro ⟨_, hc⟩; unfold wrap32 at hc; omega
  · have := (low_facts ⟨b.toNat, b.toNat_lt⟩).1 hb
    simpa only [ofN] using this
  · have := (low_facts ⟨b.toNat, b.toNat_lt⟩).2 hb
    simpa only [ofN] using this
theorem upper_map (l : List UInt8) (h : validD l = true) : mapD (movedR 97 (-32)) l = l.map (mvB 97 1) ∧ validD (l.map (mvB 97 1)) = true := by
  obtain ⟨cs, rs, ht⟩ := Txt.of h
  refine ht.map (movedR 97 (-32)) (mvB 97 1) (fun r hr => ?_) (fun b hb => ?_) (fun b hb => ?_)
  · unfold movedR; rw [if_neg]; intro ⟨_, hc⟩; unfold wrap32 at hc; omega
  · have := (up_facts ⟨b.toNat, b.toNat_lt⟩).1 hb
    simpa only [ofN] using this
  · have := (up_facts ⟨b.toNat, b.toNat_lt⟩).2 hb
    simpa only [ofN] using this
def lowerV (l : List UInt8) : ByteArray × Int := if validD l = true then wholeV (l.map (mvB 65 0)) else (⟨#[]⟩, 61)
def upperV (l : List UInt8) : ByteArray × Int := if validD l = true then wholeV (l.map (mvB 97 1)) else (⟨#[]⟩, 61)
theorem moved_tells (s : ByteArray) (hs : s.size < 35184372088832) (lo by_ : Int) (g : UInt8 → UInt8) (hg : validD s.data.toList = true → mapD (movedR lo by_) s.data.toList = s.data.toList.map g) :
    Tells (fun k => texts_moved.f k s lo by_) (if validD s.data.toList = true then wholeV (s.data.toList.map g) else (⟨#[]⟩, 61)) := by
  unfold texts_moved.f
  refine (checks_tells [s] (by simp) (fun t ht => by simp at ht; subst ht; omega)).bind ?_
  simp only [if_pos hs, errs, errV]
  by_cases hv : validD s.data.toList = true
  · simp only [hv, if_true]
    rw [hg hv]
    exact Tells.of (whole_ok _)
  · simp only [hv, if_false]
    exact Tells.of (whole_err _ _ (by decide))
theorem lower_tells (s : ByteArray) (hs : s.size < 35184372088832) : Tells (fun k => texts_Lower.f k s) (lowerV s.data.toList) := by
  unfold texts_Lower.f
  exact (moved_tells s hs 65 32 _ (fun h => (lower_map _ h).1)).bind (Tells.pure _)
theorem upper_tells (s : ByteArray) (hs : s.size < 35184372088832) : Tells (fun k => texts_Upper.f k s) (upperV s.data.toList) := by
  unfold texts_Upper.f
  exact (moved_tells s hs 97 (-32) _ (fun h => (upper_map _ h).1)).bind (Tells.pure _)

/-! ### the page's example -/
theorem alive_tells : Tells (fun k => bolterlaw13_alive.f k) true := Tells.mono (bolterlaw13_alive.mono) 12 (by decide +kernel)
end Go.Proofs.YtdhjdddjgcfhkaaDoor.P
