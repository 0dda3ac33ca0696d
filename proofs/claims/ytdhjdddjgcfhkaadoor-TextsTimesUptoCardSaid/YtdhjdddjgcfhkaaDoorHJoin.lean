/- texts.Join and texts.Replace over the embedded Builder, walked. -/
import Derived.WalkKit
import Derived.Lib.Hide
import Derived.Shelf.Abstract
import Derived.Outline
import Derived.RangeFuncBox
import Derived.RangeFuncLeaves
import Derived.Test.YtdhjdddjgcfhkaaDoorHLib
import Derived.Test.YtdhjdddjgcfhkaaDoorHBld
import Derived.Test.YtdhjdddjgcfhkaaDoorB0
import Derived.Test.YtdhjdddjgcfhkaaDoorB1
import Derived.Test.YtdhjdddjgcfhkaaDoorHLib
set_option linter.unusedVariables false
set_option linter.unusedSimpArgs false
namespace Go.Proofs.YtdhjdddjgcfhkaaDoor.B
open Go.RowKit Go.Shelf Go.Proofs.YtdhjdddjgcfhkaaDoorW.PrintWords

theorem new_cell (W : World) (v : Value) (t : TypeId) : (W.alloc (.cells #[v] t)).cell? ⟨W.heap.size, 0, none⟩ = some v := (Boxed.new W t v).cell
/-- One more text, if it is not too long already. -/
def putL (l : List UInt8) (s : ByteArray) : List UInt8 := if l.length ≤ 16384 then l ++ s.data.toList else l

structure PutDone (B b : Nat) (l : List UInt8) (w wr : World) : Prop where
  bld : ∃ p v, Bld 67 B b p v [] l wr
  low : Below B w wr
  size : w.heap.size ≤ wr.heap.size

set_option maxHeartbeats 4000000 in
set_option maxRecDepth 100000 in
theorem put_one {B b g : Nat} {p v : Value} {l : List UInt8} {w : World} (s : ByteArray) (h : Bld 67 B b p v [] l w) (hs : s.size ≤ 70368744177664) (hBw : B ≤ w.heap.size) (hc : w.cell? ⟨g, 0, none⟩ = some (.string s)) :
    Calls Tryd.prog 47 #[.pointer (some ⟨b, 0, none⟩), .slice (some ⟨g, 0, none⟩) 1 1] w fun e w' => e = .returned (.bool (decide ((putL l s).length ≤ 16384))) ∧ PutDone B b (putL l s) w w' := by
  have HH := Lib.hid h
  have hlt := h.lt
  clear h
  go_enter Tryd.func47, Tryd.ntmps47
  go_wp2
  go_loopw [9] (fun i wr => ∃ k : Nat, k ≤ 1 ∧ i = .int .i64 k ∧ (k = 0 → wr = w) ∧ (k = 1 → PutDone B b (putL l s) w wr)) (fun i _ => 1 - (intOf i).toNat)
  case atStart => exact ⟨0, by omega, rfl, fun _ => rfl, fun h => absurd h (by omega)⟩
  case round =>
    obtain ⟨k, hk, rfl, h0, h1⟩ := hrel
    rcases Nat.lt_or_ge k 1 with hk0 | hk1
    · obtain rfl : k = 0 := by omega
      obtain rfl := h0 rfl
      clear h0 h1 hk
      have cLen := Bld_Len HH.out
      by_cases hle : l.length ≤ 16384
      · have cW := Bld_WriteString s HH.out (by omega) hBw
        have hput : putL l s = l ++ s.data.toList := by unfold putL; rw [if_pos hle]
        have HP := Lib.hid hput; clear hput
        have hle' : (l.length : Int) ≤ 16384 := by omega
        go_wp2_with (first | (go_at_call 79; refine cLen.mono ?_; rintro e w1 ⟨rfl, rfl⟩) | (go_at_call 68; refine cW.mono ?_; rintro e w1 ⟨rfl, ⟨v', hbl⟩, hbb, hkp⟩))
        go_roundw
        case rel => exact ⟨1, by omega, by go_num, fun h => absurd h (by omega), fun _ => ⟨⟨_, v', by rw [HP.out]; exact hbl⟩, hbb, hkp.1⟩⟩
        case measure => simp [intOf]
      · have hput : putL l s = l := by unfold putL; rw [if_neg hle]
        have HP := Lib.hid hput; clear hput
        have hle' : 16384 < (l.length : Int) := by omega
        clear hle
        go_wp2_with (go_at_call 79; refine cLen.mono ?_; rintro e w1 ⟨rfl, rfl⟩)
        go_roundw
        case rel => exact ⟨1, by omega, by go_num, fun h => absurd h (by omega), fun _ => ⟨⟨_, _, by rw [HP.out]; exact HH.out⟩, Below.refl _ _, Nat.le_refl _⟩⟩
        case measure => simp [intOf]
    · obtain rfl : k = 1 := by omega
      have hd := h1 rfl
      clear h0 h1 hk hk1
      obtain ⟨p', v', hb'⟩ := hd.bld
      have cLen := Bld_Len hb'
      have HD := Lib.hid hd
      obtain ⟨n, hn⟩ : ∃ n, (putL l s).length = n := ⟨_, rfl⟩
      rw [hn] at cLen
      have HN := Lib.hid hn
      clear hd hn hb'
      go_wp2_with (go_at_call 79; refine cLen.mono ?_; rintro e w1 ⟨rfl, rfl⟩)
      go_ret
      exact ⟨by rw [HN.out]; congr 2; simp; omega, HD.out⟩

def joinF (sep : ByteArray) : Nat → List UInt8 → List ByteArray → List UInt8
  | _, acc, [] => acc
  | i, acc, s :: r => joinF sep (i + 1) (putL (if 0 < i then putL acc sep else acc) s) r
def texts_Join.f (k : Nat) (l0 : List ByteArray) (a1 : ByteArray) : Option (ByteArray × Int) :=
  if (∀ s ∈ a1 :: l0, s.size ≤ 70368744177664) ∧ l0.length ≤ 1099511627776 then (texts_Checks.f k (l0 ++ [a1])).bind fun e => texts_whole.f ⟨(joinF a1 0 [] l0).toArray⟩ e else none
theorem texts_Join.mono : ∀ l0 a1 k, LeO (texts_Join.f k l0 a1) (texts_Join.f (k + 1) l0 a1) := fun _ _ _ =>
  LeO.ite (LeO.bind (texts_Checks.mono _ _) (fun _ => LeO.refl _)) (LeO.refl _)

theorem infoString : (Tryd.prog.info? 9).map (fun i => (i.zero, i.size, i.bytes)) = some (some (.string ByteArray.empty), 1, 16) := by kernel_rfl

theorem bld_new (W : World) (B : Nat) (hB : B ≤ W.heap.size) : Bld 67 B W.heap.size (.pointer none) (.slice none 0 0) [] [] (W.alloc (.cells #[.pointer none, .slice none 0 0] 67)) :=
  ⟨hB, World.alloc_heap_new _ _, World.ownsRow_nil _ _ _ _, .inl rfl, by kernel_rfl, by decide⟩

structure JoinRel (sep : ByteArray) (l0 : List ByteArray) (j : Nat) (B b : Nat) (w wr : World) (acc : List UInt8) : Prop where
  bld : ∃ p v, Bld 67 B b p v [] acc wr
  low : Below B w wr
  tot : joinF sep j acc (l0.drop j) = joinF sep 0 [] l0
theorem putL_le (l : List UInt8) (s : ByteArray) : (putL l s).length ≤ l.length + s.size := by
  unfold putL; split
  · rw [List.length_append]; have : s.data.toList.length = s.size := Array.length_toList
    omega
  · omega

set_option maxHeartbeats 8000000 in
set_option maxRecDepth 100000 in
theorem texts_Join.calls (k : Nat) (A0 : Option Addr) (c0 : Nat) (l0 : List ByteArray) (a1 : ByteArray) (r1 : ByteArray) (r2 : Int) (w : World) (hr0 : Kd.C Kd.string w A0 l0.length l0) (hc0 : l0.length ≤ c0) (hG : Aside0 (GlobG w)) (h : texts_Join.f k l0 a1 = some (r1, r2)) :
    Calls Tryd.prog 15 #[.slice A0 l0.length c0, .string a1] w fun e w' => e = .returned (.tuple #[.string r1, .int .i64 r2]) ∧ Below w.heap.size w w' := by
  unfold texts_Join.f at h
  split at h
  case isFalse => cases h
  case isTrue hsz =>
    obtain ⟨er, he, h⟩ := Option.bind_eq_some_iff.1 h
    have HE := Lib.hid he
    have HW := Lib.hid h
    have HSZ := Lib.hid hsz
    have cC := slices_Clone_string_string.calls A0 c0 l0 l0 w hr0 hc0 (by unfold slices_Clone_string_string.f; rw [if_pos (by have := hsz.2; omega)])
    have hR0 : ReadsOf Value.string ByteArray.empty w A0 l0.length l0 := Kd.reads_of_C hr0
    have HR := Lib.hid hR0
    obtain ⟨n, hn⟩ : ∃ n, l0.length = n := ⟨_, rfl⟩
    have hnb : n ≤ 1099511627776 := by rw [← hn]; exact hsz.2
    rw [hn] at cC ⊢
    have HN := Lib.hid hn
    obtain ⟨i0, hi, hz0, hz1, hz2⟩ := info_parts infoString
    clear he h hsz hR0 hr0 hc0 hn
    go_enter Tryd.func15, Tryd.ntmps15
    go_wp2_with (first | (go_at_call 46; refine cC.mono ?_; rintro e w1 ⟨v, rfl, hRv, hb1⟩; obtain ⟨A1, c1, hv⟩ := Kd.R_slice hRv; rw [HN.out] at hv; subst hv; have hown := Kd.own_of_R hRv; rw [HN.out] at hown; have HO := Lib.hid hown; have HBB := Lib.hid hb1; clear hRv hown hb1) | (at_builtin; refine wpList_append_own _ rfl _ _ 28 rfl w.heap.size 9 i0 (.string ByteArray.empty) 1 16 Tryd.underlying28 hi hz0 hz1 hz2 rfl (by decide) _ _ _ rfl (HO.out.alloc _) ⟨w1.heap.size, 0, none⟩ 1 1 [.string a1] rfl rfl ?c1 ?c2 ?c3 ?c4 ?c5 ?_))
    case c1 =>
      intro j u hj
      match j, hj with
      | 0, hj => simp at hj; subst hj; simp [Addr.add]
    case c2 => intro u hu; simp at hu; subst hu; rfl
    case c3 => unfold maxLen; omega
    case c4 => omega
    case c5 => have := HBB.out.size; simp; omega
    intro v2 w2 hown2 hgrow2 _
    have hB2 : Below w.heap.size w w2 := ((HBB.out).alloc HBB.out.size _).grown hgrow2 (by have := HBB.out.size; simp; omega) (fun k hk => (HO.out.lt k hk).1)
    have hG2 := hG.out.below hB2
    have hR2 : Kd.R Kd.string 9 w2 w.heap.size (fun _ => True) v2 (l0 ++ [a1]) := Kd.R_of_own (enc := Value.string) (by simpa [encs, HN.out] using hown2) (fun _ _ => trivial)
    obtain ⟨A2, c2, hv2, hl2, hC2⟩ := Kd.R_reads hR2
    have hn2 : (l0 ++ [a1]).length = n + 1 := by simp [HN.out]
    have cK := texts_Checks.calls k A2 c2 (l0 ++ [a1]) er w2 hC2 hl2 ⟨hG2⟩ HE.out
    rw [hn2] at hv2 cK
    subst hv2
    have HB2 := Lib.hid hB2
    clear hn2 hl2 hC2 hR2 hG2 hB2 hown2 hgrow2
    go_wp2_with (go_at_call 43; refine cK.mono ?_; rintro e w3 ⟨rfl, hb3⟩)
    have hB3 : Below w.heap.size w w3 := HB2.out.trans (hb3.mono HB2.out.size)
    have HB3 := Lib.hid hB3
    clear hB3 hb3 cK HB2 cC
    obtain ⟨b, hb⟩ : ∃ b, w3.heap.size = b := ⟨_, rfl⟩
    have hbld := bld_new w3 w.heap.size HB3.out.size
    have hlow : Below w.heap.size w (w3.alloc (.cells #[.pointer none, .slice none 0 0] 67)) := HB3.out.alloc HB3.out.size _
    rw [hb] at hbld
    rw [hb]
    have HBl := Lib.hid hbld
    have HLo := Lib.hid hlow
    clear hbld hlow hb
    go_loopw [20] (fun i wr => ∃ j : Nat, j ≤ n ∧ i = .int .i64 j ∧ ∃ acc, JoinRel a1 l0 j w.heap.size b w wr acc) (fun i _ => n - (intOf i).toNat)
    case atStart => exact ⟨0, Nat.zero_le _, rfl, [], ⟨⟨_, _, HBl.out⟩, HLo.out, rfl⟩⟩
    case round =>
      obtain ⟨j, hj, rfl, acc, hrel⟩ := hrel
      obtain ⟨p, v, hbl⟩ := hrel.bld
      have HREL := Lib.hid hrel
      have HBL := Lib.hid hbl
      clear hrel hbl
      have hwr : w.heap.size ≤ wr.heap.size := HREL.out.low.size
      by_cases hlt : j < n
      · have hlt' : (j : Int) < (n : Int) := by omega
        obtain ⟨ad, had, hc⟩ := HR.out.2.2 (by have := HN.out; omega)
        subst had
        obtain ⟨ab, ao, rfl⟩ := addr_plain (show w.cell? ad = _ from hc 0 (by have := HN.out; omega))
        obtain ⟨x, hx⟩ : ∃ x, l0.getD j ByteArray.empty = x := ⟨_, rfl⟩
        have hx? : l0[j]? = some x := by
          rw [← hx, List.getD_eq_getElem?_getD, List.getElem?_eq_getElem (by have := HN.out; omega)]; rfl
        have hck : wr.cell? ⟨ab, ao + j, none⟩ = some (.string x) := by
          have h1 := hc j (by have := HN.out; omega)
          rw [add_at, hx] at h1
          exact (HREL.out.low.cell (World.block_lt_of_cell? _ _ h1)).trans h1
        have hxs : x.size ≤ 70368744177664 := HSZ.out.1 x (List.mem_cons_of_mem _ (List.mem_of_getElem? hx?))
        have hss : a1.size ≤ 70368744177664 := HSZ.out.1 a1 List.mem_cons_self
        have hdrop : l0.drop j = x :: l0.drop (j + 1) := by
          obtain ⟨h1, h2⟩ := List.getElem?_eq_some_iff.1 hx?
          rw [List.drop_eq_getElem_cons h1, h2]
        have htot := HREL.out.tot
        rw [hdrop] at htot
        have HT := Lib.hid htot
        clear hx hx? hc hdrop htot
        by_cases hj0 : 0 < j
        · have hj0' : (0 : Int) < (j : Int) := by omega
          have hlow1 : Below wr.heap.size wr (wr.alloc (.cells #[.string a1] 9)) := (Below.refl _ wr).alloc (Nat.le_refl _) _
          have cP1 := put_one (g := wr.heap.size) a1 (HBL.out.below hlow1) hss (by simp; omega) (new_cell wr (.string a1) 9)
          have HT2 := Lib.hid (show joinF a1 (j + 1) (putL (putL acc a1) x) (l0.drop (j + 1)) = joinF a1 0 [] l0 by have := HT.out; simp only [joinF] at this; rwa [if_pos hj0] at this)
          clear hlow1 HT
          go_wp2_with (go_at_call 47; refine cP1.mono ?_; rintro e w4 ⟨rfl, hd4⟩; clear cP1; obtain ⟨p4, v4, hbl4⟩ := hd4.bld; have hlow4 : Below w.heap.size w w4 := (HREL.out.low.alloc hwr _).trans hd4.low; have hsz4 : w.heap.size ≤ w4.heap.size := hlow4.size; have hck4 : (w4.alloc (.cells #[.string x] 9)).cell? ⟨w4.heap.size, 0, none⟩ = some (.string x) := new_cell w4 (.string x) 9; have cP2 := put_one (g := w4.heap.size) x (hbl4.below ((Below.refl _ w4).alloc (Nat.le_refl _) _)) hxs (by simp; omega) hck4; have HL4 := Lib.hid hlow4; clear hlow4 hd4 hbl4 hck4)
          go_wp2_with (go_at_call 47; refine cP2.mono ?_; rintro e w5 ⟨rfl, hd5⟩)
          have HD5 := Lib.hid hd5
          clear hd5 cP2
          go_roundw
          case rel => exact ⟨j + 1, by omega, by go_num, _, ⟨HD5.out.bld, (HL4.out.alloc hsz4 _).trans HD5.out.low, HT2.out⟩⟩
          case measure => simp [intOf]; omega
        · obtain rfl : j = 0 := by omega
          have hck4 : (wr.alloc (.cells #[.string x] 9)).cell? ⟨wr.heap.size, 0, none⟩ = some (.string x) := new_cell wr (.string x) 9
          have cP2 := put_one (g := wr.heap.size) x (HBL.out.below ((Below.refl _ wr).alloc (Nat.le_refl _) _)) hxs (by simp; omega) hck4
          have HT2 := Lib.hid (show joinF a1 1 (putL acc x) (l0.drop 1) = joinF a1 0 [] l0 by have := HT.out; simpa only [joinF, Nat.lt_irrefl, if_false] using this)
          rw [Nat.add_zero] at hck
          clear HT hck4 hj0
          go_wp2_with (go_at_call 47; refine cP2.mono ?_; rintro e w5 ⟨rfl, hd5⟩)
          have HD5 := Lib.hid hd5
          clear hd5 cP2
          go_roundw
          case rel => exact ⟨1, by omega, by go_num, _, ⟨HD5.out.bld, (HREL.out.low.alloc hwr _).trans HD5.out.low, HT2.out⟩⟩
          case measure => simp [intOf]; omega
      · obtain rfl : j = n := by omega
        have htot := HREL.out.tot
        rw [List.drop_of_length_le (by rw [HN.out]; exact Nat.le_refl _)] at htot
        have hacc : acc = joinF a1 0 [] l0 := htot
        subst hacc
        have cS := Bld_String HBL.out hwr
        clear htot
        go_wp2_with (first | (go_at_call 49; refine cS.mono ?_; rintro e w6 ⟨rfl, hb6⟩) | (go_at_call 48; refine (texts_whole.calls _ er r1 r2 _ HW.out).mono ?_; rintro e w7 ⟨rfl, ⟨nd, rfl⟩⟩))
        go_ret2
        exact ⟨rfl, pw_below_drewN (HREL.out.low.trans hb6) _⟩
end Go.Proofs.YtdhjdddjgcfhkaaDoor.B
