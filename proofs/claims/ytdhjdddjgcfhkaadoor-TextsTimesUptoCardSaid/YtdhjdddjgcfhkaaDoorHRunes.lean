/- What utf.runes gives and what utf.Check answers, as functions of a text's octets: no program here. -/
import Derived.Shelf.Strings.MapAny
set_option linter.unusedVariables false
set_option linter.unusedSimpArgs false
namespace Go.Proofs.YtdhjdddjgcfhkaaDoor.B

/-- The decoder at a place, as utf.runes turns it: -1 for what is no character. -/
def runeAt (s : ByteArray) (i : Nat) : Int × Nat :=
  (if (Utf8.decode s i).1 = 65533 ∧ (Utf8.decode s i).2 = 1 then -1 else ((Utf8.decode s i).1 : Int), (Utf8.decode s i).2)
/-- The places and characters from a place on. -/
def runesF (s : ByteArray) : Nat → Nat → List (Int × Int)
  | 0, _ => []
  | k + 1, i => if i < s.size then ((i : Int), (runeAt s i).1) :: runesF s k (i + (runeAt s i).2) else []
def runesL (s : ByteArray) : List (Int × Int) := runesF s s.size 0
def checkOf (l : List (Int × Int)) (n : Int) : Int × Int :=
  match l.find? (fun p => decide (p.2 < 0)) with
  | some p => (p.1, 61)
  | none => (n, 0)
def checkL (s : ByteArray) : Int × Int := checkOf (runesL s) (s.size : Int)

theorem decode_pos (s : ByteArray) (i : Nat) : 1 ≤ (Utf8.decode s i).2 := by
  rw [Lib.decode_at]; unfold Lib.decodeN; repeat' split
  all_goals simp
theorem decode_le (s : ByteArray) (i : Nat) (h : i < s.size) : i + (Utf8.decode s i).2 ≤ s.size := by
  rw [Lib.decode_at]; unfold Lib.decodeN; repeat' split
  all_goals (simp only; omega)
theorem decode_rune (s : ByteArray) (i : Nat) : (Utf8.decode s i).1 ≤ 1114111 := by
  rw [Lib.decode_at]; unfold Lib.decodeN; repeat' split
  all_goals (simp only; omega)
theorem runeAt_pos (s : ByteArray) (i : Nat) : 1 ≤ (runeAt s i).2 := decode_pos s i
/-- Rounds that are more than needed change nothing. -/
theorem runesF_more (s : ByteArray) : ∀ (k : Nat) (i : Nat), s.size ≤ i + k → ∀ m, k ≤ m → runesF s m i = runesF s k i
  | 0, i, h, m, _ => by
    cases m with
    | zero => rfl
    | succ m => simp only [runesF]; rw [if_neg (by omega)]
  | k + 1, i, h, m, hm => by
    obtain ⟨m, rfl⟩ : ∃ m', m = m' + 1 := ⟨m - 1, by omega⟩
    have := runeAt_pos s i
    have ih := runesF_more s k (i + (runeAt s i).2) (by omega) m (by omega)
    simp only [runesF]
    split
    · rw [ih]
    · rfl
theorem runesF_step (s : ByteArray) (k i : Nat) (h : s.size ≤ i + k) (hi : i < s.size) : runesF s k i = ((i : Int), (runeAt s i).1) :: runesF s k (i + (runeAt s i).2) := by
  obtain ⟨k, rfl⟩ : ∃ k', k = k' + 1 := ⟨k - 1, by omega⟩
  have := runeAt_pos s i
  rw [runesF_more s k (i + (runeAt s i).2) (by omega) (k + 1) (by omega)]
  simp only [runesF]; rw [if_pos hi]
theorem runesF_end (s : ByteArray) (k i : Nat) (hi : s.size ≤ i) : runesF s k i = [] := by
  cases k with
  | zero => rfl
  | succ k => simp only [runesF]; rw [if_neg (by omega)]
theorem runesF_length (s : ByteArray) : ∀ k i, (runesF s k i).length ≤ k
  | 0, _ => Nat.le_refl _
  | k + 1, i => by
    simp only [runesF]; split
    · simp only [List.length_cons]; have := runesF_length s k (i + (runeAt s i).2); omega
    · simp
end Go.Proofs.YtdhjdddjgcfhkaaDoor.B
