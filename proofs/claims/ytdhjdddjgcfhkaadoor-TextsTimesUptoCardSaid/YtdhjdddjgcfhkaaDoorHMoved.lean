/- texts.moved: a text's letters moved, by strings.Map and a function literal, walked. -/
import Derived.WalkKit
import Derived.Lib.Hide
import Derived.Shelf.Abstract
import Derived.Outline
import Derived.RangeFuncBox
import Derived.Test.YtdhjdddjgcfhkaaDoorHLib
import Derived.Test.YtdhjdddjgcfhkaaDoorB0
import Derived.Test.YtdhjdddjgcfhkaaDoorB1
set_option linter.unusedVariables false
set_option linter.unusedSimpArgs false
namespace Go.Proofs.YtdhjdddjgcfhkaaDoor.B
open Go.RowKit Go.Shelf Go.Proofs.YtdhjdddjgcfhkaaDoorW.PrintWords

/-- What the literal answers. -/
def movedR (lo by_ : Int) (c : Int) : Int := if lo ≤ c ∧ c < wrap32 (lo + 26) then wrap32 (c + by_) else c

theorem i32_range (z : Int) : -2147483648 ≤ wrap32 z ∧ wrap32 z ≤ 2147483647 := by
  unfold wrap32; omega

set_option maxHeartbeats 1000000 in
set_option maxRecDepth 100000 in
theorem moved1_calls (lo by_ x : Int) (b1 b2 : Nat) (W : World) (h1 : W.cell? ⟨b1, 0, none⟩ = some (.int .i32 lo)) (h2 : W.cell? ⟨b2, 0, none⟩ = some (.int .i32 by_)) :
    Calls Tryd.prog 75 #[.int .i32 x, .pointer (some ⟨b1, 0, none⟩), .pointer (some ⟨b2, 0, none⟩)] W fun e W' => e = .returned (.int .i32 (movedR lo by_ x)) ∧ Below W.heap.size W W' := by
  by_cases hc : lo ≤ x ∧ x < wrap32 (lo + 26)
  · have hm : movedR lo by_ x = wrap32 (x + by_) := by unfold movedR; rw [if_pos hc]
    rw [hm]; clear hm
    obtain ⟨c1, c2⟩ := hc
    go_enter Tryd.func75, Tryd.ntmps75
    go_wp2
    go_ret
    exact ⟨rfl, Below.refl _ _⟩
  · have hm : movedR lo by_ x = x := by unfold movedR; rw [if_neg hc]
    rw [hm]; clear hm
    by_cases c1 : lo ≤ x
    · have c2 : wrap32 (lo + 26) ≤ x := Int.not_lt.1 (fun h => hc ⟨c1, h⟩)
      clear hc
      go_enter Tryd.func75, Tryd.ntmps75
      go_wp2
      go_ret
      exact ⟨rfl, Below.refl _ _⟩
    · have c2 : x < lo := Int.not_le.1 c1
      clear hc c1
      go_enter Tryd.func75, Tryd.ntmps75
      go_wp2
      go_ret
      exact ⟨rfl, Below.refl _ _⟩

def texts_moved.f (k : Nat) (a0 : ByteArray) (a1 a2 : Int) : Option (ByteArray × Int) :=
  (texts_Checks.f k [a0]).bind fun e => if a0.size < 35184372088832 then texts_whole.f ⟨(Lib.mapD (movedR a1 a2) a0.data.toList).toArray⟩ e else none
theorem texts_moved.mono : ∀ a0 a1 a2 k, LeO (texts_moved.f k a0 a1 a2) (texts_moved.f (k + 1) a0 a1 a2) := fun _ _ _ _ =>
  LeO.bind (texts_Checks.mono _ _) (fun _ => LeO.refl _)

theorem movedR_range (lo by_ : Int) (x : Nat) (hx : x ≤ 1114111) : -2147483648 ≤ movedR lo by_ x ∧ movedR lo by_ x ≤ 2147483647 := by
  unfold movedR; split
  · exact i32_range _
  · omega

set_option maxHeartbeats 2000000 in
set_option maxRecDepth 100000 in
theorem texts_moved.calls (k : Nat) (a0 : ByteArray) (a1 a2 : Int) (r1 : ByteArray) (r2 : Int) (w : World) (hG : Aside0 (GlobG w)) (h : texts_moved.f k a0 a1 a2 = some (r1, r2)) :
    Calls Tryd.prog 42 #[.string a0, .int .i32 a1, .int .i32 a2] w fun e w' => e = .returned (.tuple #[.string r1, .int .i64 r2]) ∧ Below w.heap.size w w' := by
  unfold texts_moved.f at h
  obtain ⟨er, he, h⟩ := Option.bind_eq_some_iff.1 h
  split at h
  case isFalse => cases h
  case isTrue hs =>
    have HE := Lib.hid he
    have HW := Lib.hid h
    clear he h
    go_enter Tryd.func42, Tryd.ntmps42
    have hG3 : GlobG (((w.alloc (.cells #[.int .i32 a1] 21)).alloc (.cells #[.int .i32 a2] 21)).alloc (.cells #[.string a0] 9)) := hG.out.below ((((Below.refl _ w).alloc (Nat.le_refl _) _).alloc (by simp) _).alloc (by simp; omega) _)
    have hB3 : Below w.heap.size w (((w.alloc (.cells #[.int .i32 a1] 21)).alloc (.cells #[.int .i32 a2] 21)).alloc (.cells #[.string a0] 9)) := (((Below.refl _ w).alloc (Nat.le_refl _) _).alloc (by simp) _).alloc (by simp; omega) _
    have b1 := Boxed.new w 21 (.int .i32 a1)
    have b2 := Boxed.new (w.alloc (.cells #[.int .i32 a1] 21)) 21 (.int .i32 a2)
    have b3 := Boxed.new ((w.alloc (.cells #[.int .i32 a1] 21)).alloc (.cells #[.int .i32 a2] 21)) 9 (.string a0)
    simp only [World.size_alloc] at b2 b3
    have d1 := ((b1.alloc (.cells #[.int .i32 a2] 21)).alloc (.cells #[.string a0] 9)).cell
    have d2 := (b2.alloc (.cells #[.string a0] 9)).cell
    have hC : Kd.C Kd.string (((w.alloc (.cells #[.int .i32 a1] 21)).alloc (.cells #[.int .i32 a2] 21)).alloc (.cells #[.string a0] 9)) (some ⟨w.heap.size + 1 + 1, 0, none⟩) ([a0] : List ByteArray).length [a0] := by
      refine Kd.C_of_reads (enc := Value.string) (d := ByteArray.empty) ⟨rfl, by simp, fun _ => ⟨_, rfl, fun j hj => ?_⟩⟩
      obtain rfl : j = 0 := by simp at hj; omega
      exact b3.cell
    have HC := Lib.hid hC
    have HG3 := Lib.hid hG3
    have HB3 := Lib.hid hB3
    have D1 := Lib.hid d1
    have D2 := Lib.hid d2
    clear hC hG3 hB3 d1 d2 b1 b2 b3
    have cK : Calls Tryd.prog 43 #[.slice (some ⟨w.heap.size + 1 + 1, 0, none⟩) 1 1] _ _ := texts_Checks.calls k _ 1 [a0] er _ HC.out (by simp) ⟨HG3.out⟩ HE.out
    go_wp2_with (go_at_call 43; refine cK.mono ?_; rintro e w1 ⟨rfl, hb1⟩)
    have hG1 := HG3.out.below hb1
    have hf : MapGrows Tryd.prog 75 #[.pointer (some ⟨w.heap.size, 0, none⟩), .pointer (some ⟨w.heap.size + 1, 0, none⟩)] (movedR a1 a2) w1 := fun W x _ hW =>
      moved1_calls a1 a2 x w.heap.size (w.heap.size + 1) W (pw_cell_below hW (pw_cell_below hb1 D1.out)) (pw_cell_below hW (pw_cell_below hb1 D2.out))
    have cM := Tryd.strings_Map_grows 75 #[.pointer (some ⟨w.heap.size, 0, none⟩), .pointer (some ⟨w.heap.size + 1, 0, none⟩)] (enters_of Tryd.func75 (by kernel_rfl) rfl) (movedR a1 a2) a0 w1 hs hf (movedR_range a1 a2) hG1.1
    have hb1' := HB3.out.trans (hb1.mono HB3.out.size)
    have HB1 := Lib.hid hb1'
    clear hf hG1 hb1 hb1' cK
    go_wp2_with (first | (go_at_call 74; refine cM.mono ?_; rintro e w2 ⟨rfl, hb2⟩) | (go_at_call 48; refine (texts_whole.calls _ er r1 r2 _ HW.out).mono ?_; rintro e w3 ⟨rfl, ⟨nd, rfl⟩⟩))
    go_ret2
    exact ⟨rfl, pw_below_drewN (HB1.out.trans (hb2.mono HB1.out.size)) _⟩
end Go.Proofs.YtdhjdddjgcfhkaaDoor.B
