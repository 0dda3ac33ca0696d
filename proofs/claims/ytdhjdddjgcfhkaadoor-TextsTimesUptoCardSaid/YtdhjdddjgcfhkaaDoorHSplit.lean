/- strings.Split: at a separator by the shelf; at none by the printed explode. -/
import Derived.WalkKit
import Derived.Lib.Hide
import Derived.Lib.SplitLaws
import Derived.Test.YtdhjdddjgcfhkaaDoorHLib
import Derived.Test.YtdhjdddjgcfhkaaDoorB0
import Derived.Test.YtdhjdddjgcfhkaaDoorB3
set_option linter.unusedVariables false
set_option linter.unusedSimpArgs false
namespace Go.Proofs.YtdhjdddjgcfhkaaDoor.B
open Go.RowKit Go.Shelf Go.Proofs.YtdhjdddjgcfhkaaDoorW.PrintWords

def strings_Split.f (k : Nat) (a0 a1 : ByteArray) : Option (List ByteArray) :=
  if a1.size = 0 then strings_explode.f k a0 (-1) else if a0.size < 4294967281 then some (Lib.splitB a1 0 (Lib.countB a0 a1) a0) else none
theorem strings_Split.mono : ∀ a0 a1 k, LeO (strings_Split.f k a0 a1) (strings_Split.f (k + 1) a0 a1) := fun _ _ _ =>
  LeO.ite (strings_explode.mono _ _ _) (LeO.refl _)

set_option maxHeartbeats 1000000 in
set_option maxRecDepth 100000 in
theorem strings_Split.calls (k : Nat) (a0 a1 : ByteArray) (r : List ByteArray) (w : World) (hG : Aside0 (GlobG w)) (h : strings_Split.f k a0 a1 = some r) :
    Calls Tryd.prog 78 #[.string a0, .string a1] w fun e w' => ∃ v0_ : Value, e = .returned (v0_) ∧ Kd.R Kd.string 9 w' w.heap.size (fun _ => True) v0_ r ∧ Below w.heap.size w w' := by
  unfold strings_Split.f at h
  split at h
  case isTrue h0 =>
    obtain rfl : a1 = ⟨#[]⟩ := ByteArray.ext (Array.eq_empty_of_size_eq_zero h0)
    have cE := strings_explode.calls k a0 (-1) r w hG h
    clear h h0
    have cG : Calls Tryd.prog 108 #[.string a0, .string ⟨#[]⟩, .int .i64 0, .int .i64 (-1)] w fun e w' => ∃ v0_ : Value, e = .returned (v0_) ∧ Kd.R Kd.string 9 w' w.heap.size (fun _ => True) v0_ r ∧ Below w.heap.size w w' := by
      go_enter Tryd.func108, Tryd.ntmps108
      go_wp2_with (go_at_call 121; refine cE.mono ?_; rintro e w' ⟨v, rfl, hR, hb⟩; obtain ⟨A, c, rfl⟩ := Kd.R_slice hR)
      go_ret
      exact ⟨_, rfl, hR, hb⟩
    go_enter Tryd.func78, Tryd.ntmps78
    go_wp2_with (go_at_call 108; refine cG.mono ?_; rintro e w' ⟨v, rfl, hR, hb⟩; obtain ⟨A, c, rfl⟩ := Kd.R_slice hR)
    go_ret
    exact ⟨_, rfl, hR, hb⟩
  case isFalse h0 =>
    split at h
    case isFalse => cases h
    case isTrue hs =>
      obtain rfl := Option.some.inj h
      obtain ⟨m, hm⟩ := hG.out.2
      have hl := Lib.splitB_all a1 (by omega) 0 _ a0 rfl
      have hle := Lib.countB_le a1 (by omega) _ a0 (Nat.le_refl _)
      refine (Tryd.strings_Split a0 a1 m w hs hm (by omega)).mono ?_
      rintro e w' ⟨rfl, rfl⟩
      refine ⟨_, rfl, Kd.R_of_own (enc := Value.string) ?_ (fun _ _ => trivial), (Below.refl _ _).alloc (Nat.le_refl _) _⟩
      have := World.ownsRow_lit (base := w.heap.size) (e := 9) (size := 1) w ((Lib.splitB a1 0 (Lib.countB a0 a1) a0).map Value.string).toArray (Lib.countB a0 a1 + 1) (Nat.le_refl _) (by unfold maxLen; omega) (by simp [hl])
      rw [hl]
      simpa [encs] using this
end Go.Proofs.YtdhjdddjgcfhkaaDoor.B
