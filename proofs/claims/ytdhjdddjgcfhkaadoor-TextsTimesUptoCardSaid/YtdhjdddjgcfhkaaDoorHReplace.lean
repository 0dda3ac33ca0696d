/- texts.Replace over the embedded Builder, walked. -/
import Derived.WalkKit
import Derived.Lib.Hide
import Derived.Shelf.Abstract
import Derived.Outline
import Derived.Deep.LoopGhost
import Derived.Test.YtdhjdddjgcfhkaaDoorHJoin
import Derived.Test.YtdhjdddjgcfhkaaDoorB0
import Derived.Test.YtdhjdddjgcfhkaaDoorB1
import Derived.Test.YtdhjdddjgcfhkaaDoorB9
set_option linter.unusedVariables false
set_option linter.unusedSimpArgs false
namespace Go.Proofs.YtdhjdddjgcfhkaaDoor.B
open Go.RowKit Go.Shelf Go.Proofs.YtdhjdddjgcfhkaaDoorW.PrintWords

def replF (old by_ : ByteArray) : Nat → List UInt8 → ByteArray → Option (List UInt8)
  | 0, _, _ => none
  | k + 1, acc, s => if s.size ≤ 70368744177664 then (strings_Cut.f s old).bind fun c =>
      if c.1.size ≤ 70368744177664 then (if (putL acc c.1).length ≤ 16384 then (if c.2.2 = true then replF old by_ k (putL (putL acc c.1) by_) c.2.1 else some (putL acc c.1)) else some (putL acc c.1)) else none else none
def texts_Replace.f (k : Nat) (a0 a1 a2 : ByteArray) : Option (ByteArray × Int) :=
  if a2.size ≤ 70368744177664 then (texts_Checks.f k [a0, a1, a2]).bind fun e => if e = 0 then (if a1.data.toList = [] then texts_whole.f a0 e else (replF a1 a2 k [] a0).bind fun l => texts_whole.f ⟨l.toArray⟩ 0) else texts_whole.f a0 e else none
theorem replF_mono (old by_ : ByteArray) : ∀ k acc s, LeO (replF old by_ k acc s) (replF old by_ (k + 1) acc s)
  | 0, _, _ => LeO.none _
  | k + 1, acc, s => LeO.ite (LeO.bind (LeO.refl _) (fun c => LeO.ite (LeO.ite (LeO.ite (replF_mono old by_ k _ _) (LeO.refl _)) (LeO.refl _)) (LeO.refl _))) (LeO.refl _)
theorem texts_Replace.mono : ∀ a0 a1 a2 k, LeO (texts_Replace.f k a0 a1 a2) (texts_Replace.f (k + 1) a0 a1 a2) := fun _ _ _ _ =>
  LeO.ite (LeO.bind (texts_Checks.mono _ _) (fun _ => LeO.ite (LeO.ite (LeO.refl _) (LeO.bind (replF_mono _ _ _ _ _) (fun _ => LeO.refl _))) (LeO.refl _))) (LeO.refl _)

structure RepRel (old by_ : ByteArray) (m B b : Nat) (w wr : World) (s : ByteArray) (acc total : List UInt8) : Prop where
  bld : ∃ p v, Bld 67 B b p v [] acc wr
  low : Below B w wr
  tot : replF old by_ m acc s = some total

theorem rep_checks (k : Nat) (a0 a1 a2 : ByteArray) (er : Int) (w : World) (hG : GlobG w) (h : texts_Checks.f k [a0, a1, a2] = some er) :
    Calls Tryd.prog 43 #[.slice (some ⟨w.heap.size, 0, none⟩) 3 3] (w.alloc (.cells #[.string a0, .string a1, .string a2] 9)) fun e w' => e = .returned (.int .i64 er) ∧ Below w.heap.size w w' := by
  have hb : Below w.heap.size w (w.alloc (.cells #[.string a0, .string a1, .string a2] 9)) := (Below.refl _ w).alloc (Nat.le_refl _) _
  have hC : Kd.C Kd.string (w.alloc (.cells #[.string a0, .string a1, .string a2] 9)) (some ⟨w.heap.size, 0, none⟩) ([a0, a1, a2] : List ByteArray).length [a0, a1, a2] := by
    refine Kd.C_of_reads (enc := Value.string) (d := ByteArray.empty) ⟨rfl, by simp, fun _ => ⟨_, rfl, fun j hj => ?_⟩⟩
    rw [add_at, Lib.cell_of_heap (World.alloc_heap_new _ _)]
    match j, hj with
    | 0, _ => rfl
    | 1, _ => rfl
    | 2, _ => rfl
    | n + 3, hj => exact absurd hj (by simp)
  exact (texts_Checks.calls k _ 3 [a0, a1, a2] er _ hC (by simp) ⟨hG.below hb⟩ h).mono fun e w' ⟨he, hb'⟩ => ⟨he, hb.trans (hb'.mono hb.size)⟩

set_option maxHeartbeats 8000000 in
set_option maxRecDepth 100000 in
theorem texts_Replace.calls (k : Nat) (a0 a1 a2 : ByteArray) (r1 : ByteArray) (r2 : Int) (w : World) (hG : Aside0 (GlobG w)) (h : texts_Replace.f k a0 a1 a2 = some (r1, r2)) :
    Calls Tryd.prog 22 #[.string a0, .string a1, .string a2] w fun e w' => e = .returned (.tuple #[.string r1, .int .i64 r2]) ∧ Below w.heap.size w w' := by
  unfold texts_Replace.f at h
  split at h
  case isFalse => cases h
  case isTrue hby =>
    obtain ⟨er, he, h⟩ := Option.bind_eq_some_iff.1 h
    have cK := rep_checks k a0 a1 a2 er w hG.out he
    clear he
    by_cases h0 : er = 0
    · subst h0
      rw [if_pos rfl] at h
      by_cases h1 : a1.data.toList = []
      · rw [if_pos h1] at h
        have HW := Lib.hid h
        have hl : (a1.toList == ([] : List UInt8)) = true := by rw [Lib.toList_data, h1]; rfl
        clear h h1
        go_enter Tryd.func22, Tryd.ntmps22
        go_wp2_with (first | (go_at_call 43; refine cK.mono ?_; rintro e w1 ⟨rfl, hb1⟩) | (go_at_call 48; refine (texts_whole.calls _ 0 r1 r2 _ HW.out).mono ?_; rintro e w7 ⟨rfl, ⟨nd, rfl⟩⟩))
        go_ret2
        exact ⟨rfl, pw_below_drewN hb1 _⟩
      · rw [if_neg h1] at h
        obtain ⟨total, ht, h⟩ := Option.bind_eq_some_iff.1 h
        have HW := Lib.hid h
        have HT := Lib.hid ht
        have hl : (a1.toList == ([] : List UInt8)) = false := by rw [Lib.toList_data]; simpa using h1
        clear h h1 ht
        go_enter Tryd.func22, Tryd.ntmps22
        go_wp2_with (go_at_call 43; refine cK.mono ?_; rintro e w3 ⟨rfl, hb3⟩)
        obtain ⟨b, hb⟩ : ∃ b, w3.heap.size = b := ⟨_, rfl⟩
        have hbld := bld_new w3 w.heap.size hb3.size
        have hlow : Below w.heap.size w (w3.alloc (.cells #[.pointer none, .slice none 0 0] 67)) := hb3.alloc hb3.size _
        rw [hb] at hbld
        rw [hb]
        have HBl := Lib.hid hbld
        have HLo := Lib.hid hlow
        clear hbld hlow hb hb3 cK hl
        go_loopg [0] k (fun m sv wr => ∃ s acc, sv = .string s ∧ RepRel a1 a2 m w.heap.size b w wr s acc total)
        case atStart => exact ⟨a0, [], rfl, ⟨⟨_, _, HBl.out⟩, HLo.out, HT.out⟩⟩
        case round =>
          obtain ⟨s, acc, rfl, hrel⟩ := hrel
          obtain ⟨p, v, hbl⟩ := hrel.bld
          have hwr : w.heap.size ≤ wr.heap.size := hrel.low.size
          have hlow := hrel.low
          have htot := hrel.tot
          cases gk with
          | zero => cases htot
          | succ m =>
            simp only [replF] at htot
            split at htot
            case isFalse => cases htot
            case isTrue hss =>
              obtain ⟨⟨c1, c2, c3⟩, hcut, htot⟩ := Option.bind_eq_some_iff.1 htot
              simp only at htot
              split at htot
              case isFalse => cases htot
              case isTrue hcs =>
                have cC := strings_Cut.calls s a1 c1 c2 c3 wr ⟨hG.out.below hlow⟩ hcut
                have HBL := Lib.hid hbl
                have HLow := Lib.hid hlow
                have hP1 : ∀ w1 : World, Below wr.heap.size wr w1 → Calls Tryd.prog 47 #[.pointer (some ⟨b, 0, none⟩), .slice (some ⟨w1.heap.size, 0, none⟩) 1 1] (w1.alloc (.cells #[.string c1] 9)) fun e w' => e = .returned (.bool (decide ((putL acc c1).length ≤ 16384))) ∧ PutDone w.heap.size b (putL acc c1) (w1.alloc (.cells #[.string c1] 9)) w' := fun w1 h1 =>
                  put_one (g := w1.heap.size) c1 (HBL.out.below (h1.alloc h1.size _)) hcs (by have := h1.size; simp; omega) (new_cell w1 (.string c1) 9)
                have HP1 := Lib.hid hP1
                clear hrel hbl hlow hcut hP1
                by_cases hle : (putL acc c1).length ≤ 16384
                · rw [if_pos hle] at htot
                  have hd : decide ((putL acc c1).length ≤ 16384) = true := decide_eq_true hle
                  rw [hd] at HP1
                  cases c3 with
                  | true =>
                    rw [if_pos rfl] at htot
                    have HTot := Lib.hid htot
                    clear htot hle hd
                    go_wp2_with (first | (go_at_call 56; refine cC.mono ?_; rintro e w1 ⟨rfl, hb1⟩; have cP1 := HP1.out w1 hb1) | (go_at_call 47; refine cP1.mono ?_; clear cP1 HP1; rintro e w4 ⟨rfl, hd4⟩; obtain ⟨p4, v4, hbl4⟩ := hd4.bld; have hlow4 : Below w.heap.size w w4 := ((HLow.out.trans (hb1.mono hwr)).alloc (Nat.le_trans hwr hb1.size) _).trans hd4.low; have hsz4 : w.heap.size ≤ w4.heap.size := hlow4.size; have cP2 := put_one (g := w4.heap.size) a2 (hbl4.below ((Below.refl _ w4).alloc (Nat.le_refl _) _)) hby (by simp; omega) (new_cell w4 (.string a2) 9); have HL4 := Lib.hid hlow4; clear hlow4 hd4 hbl4))
                    go_wp2_with (go_at_call 47; refine cP2.mono ?_; rintro e w5 ⟨rfl, hd5⟩)
                    have HD5 := Lib.hid hd5
                    clear hd5 cP2
                    go_roundg m
                    case measure => omega
                    case rel => exact ⟨c2, _, rfl, ⟨HD5.out.bld, (HL4.out.alloc hsz4 _).trans HD5.out.low, HTot.out⟩⟩
                  | false =>
                    rw [if_neg (by simp)] at htot
                    obtain rfl := Option.some.inj htot
                    clear hle hd
                    go_wp2_with (first | (go_at_call 56; refine cC.mono ?_; rintro e w1 ⟨rfl, hb1⟩; have cP1 := HP1.out w1 hb1) | (go_at_call 47; refine cP1.mono ?_; clear cP1 HP1; rintro e w4 ⟨rfl, hd4⟩; obtain ⟨p4, v4, hbl4⟩ := hd4.bld; have hlow4 : Below w.heap.size w w4 := ((HLow.out.trans (hb1.mono hwr)).alloc (Nat.le_trans hwr hb1.size) _).trans hd4.low; have cS := Bld_String hbl4 hlow4.size; have HL4 := Lib.hid hlow4; clear hlow4 hd4 hbl4) | (go_at_call 49; refine cS.mono ?_; clear cS; rintro e w6 ⟨rfl, hb6⟩) | (go_at_call 48; refine (texts_whole.calls _ 0 r1 r2 _ HW.out).mono ?_; rintro e w7 ⟨rfl, ⟨nd, rfl⟩⟩))
                    go_ret2
                    exact ⟨rfl, pw_below_drewN (HL4.out.trans hb6) _⟩
                · rw [if_neg hle] at htot
                  obtain rfl := Option.some.inj htot
                  have hd : decide ((putL acc c1).length ≤ 16384) = false := decide_eq_false hle
                  rw [hd] at HP1
                  clear hle hd
                  go_wp2_with (first | (go_at_call 56; refine cC.mono ?_; rintro e w1 ⟨rfl, hb1⟩; have cP1 := HP1.out w1 hb1) | (go_at_call 47; refine cP1.mono ?_; clear cP1 HP1; rintro e w4 ⟨rfl, hd4⟩; obtain ⟨p4, v4, hbl4⟩ := hd4.bld; have hlow4 : Below w.heap.size w w4 := ((HLow.out.trans (hb1.mono hwr)).alloc (Nat.le_trans hwr hb1.size) _).trans hd4.low; have cS := Bld_String hbl4 hlow4.size; have HL4 := Lib.hid hlow4; clear hlow4 hd4 hbl4) | (go_at_call 49; refine cS.mono ?_; clear cS; rintro e w6 ⟨rfl, hb6⟩) | (go_at_call 48; refine (texts_whole.calls _ 0 r1 r2 _ HW.out).mono ?_; rintro e w7 ⟨rfl, ⟨nd, rfl⟩⟩))
                  go_ret2
                  exact ⟨rfl, pw_below_drewN (HL4.out.trans hb6) _⟩
    · rw [if_neg h0] at h
      have HW := Lib.hid h
      have hne : (er != 0) = true := by rw [bne_iff_ne]; exact h0
      clear h h0
      go_enter Tryd.func22, Tryd.ntmps22
      go_wp2_with (first | (go_at_call 43; refine cK.mono ?_; rintro e w1 ⟨rfl, hb1⟩) | (go_at_call 48; refine (texts_whole.calls _ er r1 r2 _ HW.out).mono ?_; rintro e w7 ⟨rfl, ⟨nd, rfl⟩⟩))
      go_ret2
      exact ⟨rfl, pw_below_drewN hb1 _⟩
end Go.Proofs.YtdhjdddjgcfhkaaDoor.B
