/- utf.Check, walked: the iterator that utf.runes hands back, and the loop over it. -/
import Derived.RangeFuncNested
import Derived.RangeFuncBound
import Derived.RangeFuncCalls
import Derived.RangeFuncLeaves
import Derived.RangeFuncBox
import Derived.Shelf.Abstract
import Derived.Shelf.RegionOpen
import Derived.WalkKit
import Derived.OwnWalkIn
import Derived.TacticsInMore
import Derived.LoopNIn
import Derived.LoopIn
import Derived.Outline
import Derived.Deep.RegionHeld
import Derived.Lib.Hide
import Derived.Test.YtdhjdddjgcfhkaaDoorHGlob
import Derived.Test.YtdhjdddjgcfhkaaDoorHRunes
import Derived.Test.YtdhjdddjgcfhkaaDoorShelf
set_option linter.unusedVariables false
set_option linter.unusedSimpArgs false
namespace Go.Proofs.YtdhjdddjgcfhkaaDoor.B
open Go.RowKit Go.Shelf Go.Proofs.YtdhjdddjgcfhkaaDoorW.PrintWords
attribute [local go_sem] Oper.semAt_some

abbrev runeEnc (p : Int × Int) : Array Value := #[.int .i64 p.1, .int .i32 p.2]

theorem utf_runes_in (w : World) (s : ByteArray) (n : Nat) :
    CallsIn Fence.wide n Tryd.prog 97 #[.string s] w fun e w' => e = .returned (.func (.func 116) #[] #[.pointer (some ⟨w.heap.size, 0, none⟩)]) ∧ w' = w.alloc (.cells #[.string s] 9) := by
  refine callsIn_of_wp Tryd.func97 rfl trivial ?_ rfl
  simp only [Tryd.ntmps97, List.size_toArray, List.length_cons, List.length_nil, Nat.reduceAdd, Nat.reduceSub, Array.replicate_succ, Array.replicate_zero, List.push_toArray, List.append_toArray, List.nil_append, List.cons_append]
  gi_wp2
  go_ret
  exact ⟨rfl, rfl⟩

set_option maxRecDepth 100000 in
set_option maxHeartbeats 2000000 in
theorem utf_runes1_in (n : Nat) (hn : 1 ≤ n) (l Bs n₀ : Nat) (s : ByteArray) (hs : s.size ≤ 140737488351232) (hBn : Bs < n₀) (J Jx : List (Int × Int) → World → Prop)
    (W : World) (hn0 : GBelow n₀) (hnW : n₀ ≤ W.heap.size) (hJ : AbidesFrom W.heap.size J) (hG : GlobG W)
    (hY : ∀ pre x W1, J pre W1 → pre.length < s.size → YieldAt Fence.wide (n - 1) Tryd.prog l (runeEnc x) W1 fun e W' =>
      (e = .returned (.bool true) ∧ J (pre ++ [x]) W' ∧ Below n₀ W1 W') ∨ (e = .returned (.bool false) ∧ Jx (pre ++ [x]) W'))
    (hBs : W.cell? ⟨Bs, 0, none⟩ = some (.string s)) (h0 : J [] W) :
    CallsIn Fence.wide n Tryd.prog 116 #[.func (.yield l) #[] #[], .pointer (some ⟨Bs, 0, none⟩)] W fun e W' => (∃ v, e = .returned v) ∧
      ((∃ ys, ys = runesL s ∧ J ys W') ∨ (∃ pre, pre <+: runesL s ∧ Jx pre W')) := by
  refine callsIn_of_wp Tryd.func116 rfl trivial ?_ rfl
  simp only [Tryd.ntmps116, List.size_toArray, List.length_cons, List.length_nil, Nat.reduceAdd, Nat.reduceSub, Array.replicate_succ, Array.replicate_zero, List.push_toArray, List.append_toArray, List.nil_append, List.cons_append]
  gi_wp2
  gi_loopw [3] (fun i wr => ∃ (pos : Nat) (pre : List (Int × Int)), i = .int .i64 pos ∧ pos ≤ s.size ∧ pre.length ≤ pos ∧ runesL s = pre ++ runesF s s.size pos ∧ J pre wr ∧ Below n₀ W wr)
    (fun i _ => s.size - (intOf i).toNat)
  case atStart => exact ⟨0, [], rfl, Nat.zero_le _, Nat.zero_le _, rfl, h0, Below.refl _ _⟩
  case round =>
    obtain ⟨pos, pre, rfl, hp, hl, hr, hj, hb⟩ := hrel
    have hBs' : wr.cell? ⟨Bs, 0, none⟩ = some (.string s) := (hb.cell (p := ⟨Bs, 0, none⟩) hBn).trans hBs
    have hdp := decode_pos s pos
    have hdr := decode_rune s pos
    by_cases hlt : pos < s.size
    · have hlt' : (pos : Int) < (s.size : Int) := by omega
      have hdl := decode_le s pos hlt
      have hst := runesF_step s s.size pos (by omega) hlt
      have hra : runeAt s pos = (if (Utf8.decode s pos).1 = 65533 ∧ (Utf8.decode s pos).2 = 1 then -1 else ((Utf8.decode s pos).1 : Int), (Utf8.decode s pos).2) := rfl
      have hGr : GlobG wr := hG.belowN hn0 hb
      have cD := Tryd.utf8_DecodeRuneInString (s.extract pos s.size) wr hGr.1
      rw [Lib.decodeGo_extract s pos hlt] at cD
      rw [hra] at hst
      obtain ⟨R, hR⟩ : ∃ R, (Utf8.decode s pos).1 = R := ⟨_, rfl⟩
      obtain ⟨K, hK⟩ : ∃ K, (Utf8.decode s pos).2 = K := ⟨_, rfl⟩
      simp only [hR, hK] at cD hst hdp hdr hdl
      have HR := Lib.hid hr
      clear hR hK hr hra
      have hgo : ∀ w1 : World, Below wr.heap.size wr w1 → J pre w1 ∧ Below n₀ W w1 := fun w1 h1 =>
        ⟨hJ _ _ _ none hj (grown_of_below h1 none) (fun _ e => by cases e), hb.trans (h1.mono (Nat.le_trans hnW hb.size))⟩
      have hJ' := Lib.hid hJ; clear hJ
      have hgo' := Lib.hid hgo; clear hgo
      have hY' := Lib.hid hY; clear hY
      by_cases hbad : R = 65533
      · subst hbad
        by_cases hk : K = 1
        · subst hk
          rw [if_pos ⟨rfl, rfl⟩] at hst
          have HST := Lib.hid hst; clear hst
          gi_wp2_with (refine ⟨trivial, ?_⟩; gi_at_call 102; refine (callsIn_wide.2 cD).mono ?_; rintro e w1 ⟨rfl, hb1⟩; obtain ⟨hj1, hb2⟩ := hgo'.out w1 hb1; have hBs1 : w1.cell? ⟨Bs, 0, none⟩ = some (.string s) := (hb2.cell (p := ⟨Bs, 0, none⟩) hBn).trans hBs; obtain ⟨fn, tmps, assign, body, hy, hR⟩ := hY'.out pre ((pos : Int), (-1)) w1 hj1 (by omega); dsimp only [runeEnc] at hy)
          refine hR.mono ?_
          rintro e W3 (⟨rfl, hJ3, hk3⟩ | ⟨rfl, hJx3⟩)
          · gi_wp2
            go_roundw
            case rel => exact ⟨pos + 1, pre ++ [((pos : Int), (-1))], by go_num, by omega, by simp; omega, by rw [HR.out, HST.out]; simp, hJ3, hb2.trans hk3⟩
            case measure => simp [intOf]; omega
          · gi_wp2
            refine bodyPost_ret (results_none rfl _ _ _) rfl ?_
            exact ⟨⟨_, rfl⟩, .inr ⟨_, ⟨runesF s s.size (pos + 1), by rw [HR.out, HST.out]; simp⟩, hJx3⟩⟩
        · rw [if_neg (fun h => hk h.2)] at hst
          have HST := Lib.hid hst; clear hst
          have hk' : ((K : Int) == 1) = false := beq_eq_false_iff_ne.2 (by omega)
          clear hk
          gi_wp2_with (refine ⟨trivial, ?_⟩; gi_at_call 102; refine (callsIn_wide.2 cD).mono ?_; rintro e w1 ⟨rfl, hb1⟩; obtain ⟨hj1, hb2⟩ := hgo'.out w1 hb1; have hBs1 : w1.cell? ⟨Bs, 0, none⟩ = some (.string s) := (hb2.cell (p := ⟨Bs, 0, none⟩) hBn).trans hBs; obtain ⟨fn, tmps, assign, body, hy, hR⟩ := hY'.out pre ((pos : Int), 65533) w1 hj1 (by omega); dsimp only [runeEnc] at hy)
          refine hR.mono ?_
          rintro e W3 (⟨rfl, hJ3, hk3⟩ | ⟨rfl, hJx3⟩)
          · gi_wp2
            go_roundw
            case rel => exact ⟨pos + K, pre ++ [((pos : Int), 65533)], by go_num, by omega, by simp; omega, by rw [HR.out, HST.out]; simp, hJ3, hb2.trans hk3⟩
            case measure => simp [intOf]; omega
          · gi_wp2
            refine bodyPost_ret (results_none rfl _ _ _) rfl ?_
            exact ⟨⟨_, rfl⟩, .inr ⟨_, ⟨runesF s s.size (pos + K), by rw [HR.out, HST.out]; simp⟩, hJx3⟩⟩
      · rw [if_neg (fun h => hbad h.1)] at hst
        have HST := Lib.hid hst; clear hst
        have hb' : ((R : Int) == 65533) = false := beq_eq_false_iff_ne.2 (by omega)
        clear hbad
        gi_wp2_with (refine ⟨trivial, ?_⟩; gi_at_call 102; refine (callsIn_wide.2 cD).mono ?_; rintro e w1 ⟨rfl, hb1⟩; obtain ⟨hj1, hb2⟩ := hgo'.out w1 hb1; have hBs1 : w1.cell? ⟨Bs, 0, none⟩ = some (.string s) := (hb2.cell (p := ⟨Bs, 0, none⟩) hBn).trans hBs; obtain ⟨fn, tmps, assign, body, hy, hR⟩ := hY'.out pre ((pos : Int), (R : Int)) w1 hj1 (by omega); dsimp only [runeEnc] at hy)
        refine hR.mono ?_
        rintro e W3 (⟨rfl, hJ3, hk3⟩ | ⟨rfl, hJx3⟩)
        · gi_wp2
          go_roundw
          case rel => exact ⟨pos + K, pre ++ [((pos : Int), (R : Int))], by go_num, by omega, by simp; omega, by rw [HR.out, HST.out]; simp, hJ3, hb2.trans hk3⟩
          case measure => simp [intOf]; omega
        · gi_wp2
          refine bodyPost_ret (results_none rfl _ _ _) rfl ?_
          exact ⟨⟨_, rfl⟩, .inr ⟨_, ⟨runesF s s.size (pos + K), by rw [HR.out, HST.out]; simp⟩, hJx3⟩⟩
    · obtain rfl : pos = s.size := by omega
      have HR := Lib.hid hr; clear hr
      have hJ' := Lib.hid hJ; clear hJ
      have hY' := Lib.hid hY; clear hY
      gi_wp2
      go_end0
      exact ⟨⟨_, rfl⟩, .inl ⟨_, by rw [HR.out, runesF_end s _ _ (Nat.le_refl _)]; simp, hj⟩⟩

theorem utf_runes_stops (n : Nat) (hn : 1 ≤ n) (Bs n₀ : Nat) (s : ByteArray) (hs : s.size ≤ 140737488351232) (w : World) (hBn : Bs < n₀) (hn0 : GBelow n₀) (hnW : n₀ ≤ w.heap.size) (hG : GlobG w)
    (hBs : w.cell? ⟨Bs, 0, none⟩ = some (.string s)) :
    SeqStopsK Fence.wide n Tryd.prog 116 #[.pointer (some ⟨Bs, 0, none⟩)] runeEnc (Below n₀) (fun ys => ys = runesL s) (fun pre => pre <+: runesL s) s.size w := fun l J Jx W hW hJ _ hY h0 =>
  utf_runes1_in n hn l Bs n₀ s hs hBn J Jx W hn0 (Nat.le_trans hnW hW.size) hJ (hG.belowN (hn0.mono hnW) hW) hY ((hW.cell (p := ⟨Bs, 0, none⟩) (Nat.lt_of_lt_of_le hBn hnW)).trans hBs) h0

def utf_Check.f (a0 : ByteArray) : Option (Int × Int) := if a0.size ≤ 140737488351232 then some (checkL a0) else none

theorem checkOf_none {l : List (Int × Int)} {n : Int} (h : ∀ y ∈ l, ¬ y.2 < 0) : checkOf l n = (n, 0) := by
  unfold checkOf
  rw [List.find?_eq_none.2 (fun x hx => by simpa using h x hx)]
theorem checkOf_some {l pre : List (Int × Int)} {n : Int} {p : Int × Int} (h : pre.find? (fun p => decide (p.2 < 0)) = some p) (hp : pre <+: l) : checkOf l n = (p.1, 61) := by
  obtain ⟨r, rfl⟩ := hp
  unfold checkOf
  rw [List.find?_append, h]; rfl

def ChkI (w : World) (pre : List (Int × Int)) (W : World) : Prop := ((∀ y ∈ pre, ¬ y.2 < 0) ∧ (W.cell? ⟨w.heap.size, 0, none⟩ = some (.int .i64 0) ∧ W.frozen? ⟨w.heap.size, 0, none⟩ = false) ∧ W.cell? ⟨w.heap.size + 1, 0, none⟩ = some (.int .i64 0) ∧ W.frozen? ⟨w.heap.size + 1, 0, none⟩ = false) ∧ Below w.heap.size w W
def ChkX (w : World) (c : Code) (pre : List (Int × Int)) (W : World) : Prop := (c = .ret ∧ ∃ p, pre.find? (fun p => decide (p.2 < 0)) = some p ∧ W.cell? ⟨w.heap.size, 0, none⟩ = some (.int .i64 p.1) ∧ W.cell? ⟨w.heap.size + 1, 0, none⟩ = some (.int .i64 61)) ∧ Below w.heap.size w W

set_option maxRecDepth 100000 in
set_option maxHeartbeats 4000000 in
theorem utf_Check.calls (a0 : ByteArray) (r1 r2 : Int) (w : World) (hG : Aside0 (GlobG w)) (h : utf_Check.f a0 = some (r1, r2)) :
    Calls Tryd.prog 66 #[.string a0] w fun e w' => e = .returned (.tuple #[.int .i64 r1, .int .i64 r2]) ∧ Below w.heap.size w w' := by
  have hs : a0.size ≤ 140737488351232 := by
    unfold utf_Check.f at h; split at h
    · assumption
    · cases h
  unfold utf_Check.f at h; rw [if_pos hs] at h
  have h : checkOf (runesL a0) (a0.size : Int) = (r1, r2) := Option.some.inj h
  have H := Lib.hid h; clear h
  refine (callsIn_wide (n := 4)).1 ?_
  refine callsIn_of_wp_marks Tryd.func66 rfl trivial ?_ rfl
  simp only [Tryd.ntmps66, List.size_toArray, List.length_cons, List.length_nil, Nat.reduceAdd, Nat.reduceSub, Array.replicate_succ, Array.replicate_zero, List.push_toArray, List.append_toArray, List.nil_append, List.cons_append]
  gi_wp2_with (refine ⟨trivial, ?_⟩; gi_at_call 97; refine (utf_runes_in _ _ _).mono ?_; rintro e w1 ⟨rfl, rfl⟩)
  have b0 := Boxed.new w 3 (.int .i64 0)
  have b1 := Boxed.new (w.alloc (.cells #[.int .i64 0] 3)) 23 (.int .i64 0)
  have b2 := Boxed.new ((w.alloc (.cells #[.int .i64 0] 3)).alloc (.cells #[.int .i64 0] 23)) 9 (.string a0)
  simp only [World.size_alloc] at b1 b2
  have hB0 : Below w.heap.size w (((w.alloc (.cells #[.int .i64 0] 3)).alloc (.cells #[.int .i64 0] 23)).alloc (.cells #[.string a0] 9)) := (((Below.refl _ w).alloc (Nat.le_refl _) _).alloc (by simp) _).alloc (by simp; omega) _
  have hG3 := hG.out.below hB0
  refine wpIn_rangeFunc_ownF rfl (by decide) (gf := 116) (lb := #[.pointer (some ⟨w.heap.size + 1 + 1, 0, none⟩)]) rfl trivial (enters_of Tryd.func116 (by kernel_rfl) rfl)
    (utf_runes_stops 3 (by omega) (w.heap.size + 1 + 1) (w.heap.size + 1 + 1 + 1) a0 hs _ (by omega) (hG.out.gbelow.mono (by omega)) (by simp) hG3 b2.cell) belowK_t (belowK_b (by simp)) (Below.refl _ _) (fun _ => rfl)
    (ChkI w)
    (ChkX w)
    (OwnFrom.and (Own.from (fun s A B row hs hg hr => ⟨hs.1, ⟨cell_kept hs.2.1.1 hg hr, (frozen_kept hs.2.1.1 hg hr).trans hs.2.1.2⟩, cell_kept hs.2.2.1 hg hr, (frozen_kept hs.2.2.1 hg hr).trans hs.2.2.2⟩) _) (ownFrom_below (Nat.le_refl _) (by simp; omega)))
    (fun c => OwnFrom.and (Own.from (fun s A B row hs hg hr => by obtain ⟨h1, p, h2, h3, h4⟩ := hs; exact ⟨h1, p, h2, cell_kept h3 hg hr, cell_kept h4 hg hr⟩) _) (ownFrom_below (Nat.le_refl _) (by simp; omega)))
    ⟨⟨by simp, ⟨((b0.alloc _).alloc _).cell, ((b0.alloc _).alloc _).frozen⟩, (b1.alloc _).cell, (b1.alloc _).frozen⟩, hB0⟩
    (fun x => { tmps := #[.string a0, undef, .pointer (some ⟨w.heap.size, 0, none⟩), .pointer (some ⟨w.heap.size + 1, 0, none⟩), .int .i64 x.1, .int .i32 x.2, .string a0, .func (.func 116) #[] #[.pointer (some ⟨w.heap.size + 1 + 1, 0, none⟩)], .int .i64 x.1, .int .i32 x.2, undef, undef, undef, undef, undef], defers := [] }) ?assign ?body ?done ?stop
  case assign =>
    intro l x W K hK
    gi_wp2
    exact hK
  case body =>
    rintro l pre x W ⟨⟨hp, ⟨hc0, hf0⟩, hc1, hf1⟩, hB⟩ _
    have hp' := Lib.hid hp; clear hp
    by_cases hx : x.2 < 0
    · gi_wp2
      have hfnd : (pre ++ [x]).find? (fun p => decide (p.2 < 0)) = some x := by rw [List.find?_append, List.find?_eq_none.2 (fun y hy => by simpa using hp'.out y hy)]; simp [hx]
      refine ⟨(KeepsOthers.setCell _ _ _).trans (KeepsOthers.setCell _ _ _), ⟨rfl, x, hfnd, ?_, ?_⟩, (hB.setCell (p := ⟨w.heap.size, 0, none⟩) (by simp) _).setCell (p := ⟨w.heap.size + 1, 0, none⟩) (by simp) _⟩
      · rw [World.cell?_setCell_far _ _ _ _ (by simp)]; exact World.cell?_setCell_same' _ _ _ (by rw [hc0]; rfl)
      · exact World.cell?_setCell_same' _ _ _ (by rw [World.cell?_setCell_far _ _ _ _ (by simp), hc1]; rfl)
    · gi_wp2
      refine ⟨KeepsOthers.refl _, Below.refl _ _, ⟨fun y hy => ?_, ⟨hc0, hf0⟩, hc1, hf1⟩, hB⟩
      rcases List.mem_append.1 hy with e | e
      · exact Int.not_lt.2 (hp'.out y e)
      · rw [List.mem_singleton.1 e]; exact Int.not_lt.2 hx
  case done =>
    rintro D ys W hD rfl ⟨⟨hne, ⟨hc0, hf0⟩, hc1, hf1⟩, hB⟩ hK
    have H0 := H.out; rw [checkOf_none hne] at H0
    obtain ⟨rfl, rfl⟩ := Prod.mk.inj H0
    clear hne H H0
    gi_wp2
    have hK' := ((KeepsOthers.setCell W ⟨w.heap.size, 0, none⟩ (.int .i64 (a0.size : Int))).trans (KeepsOthers.setCell _ ⟨w.heap.size + 1, 0, none⟩ (.int .i64 0))).same D _ hK rfl
    refine ⟨by simp, .inl ⟨_, _, rfl, run_takeDeferred hK', ?_⟩⟩
    have e0 : ((W.setCell ⟨w.heap.size, 0, none⟩ (.int .i64 (a0.size : Int))).setCell ⟨w.heap.size + 1, 0, none⟩ (.int .i64 0)).cell? ⟨w.heap.size, 0, none⟩ = some (.int .i64 (a0.size : Int)) := by
      rw [World.cell?_setCell_far _ _ _ _ (by simp)]; exact World.cell?_setCell_same' _ _ _ (by rw [hc0]; rfl)
    have e1 : ((W.setCell ⟨w.heap.size, 0, none⟩ (.int .i64 (a0.size : Int))).setCell ⟨w.heap.size + 1, 0, none⟩ (.int .i64 0)).cell? ⟨w.heap.size + 1, 0, none⟩ = some (.int .i64 0) :=
      World.cell?_setCell_same' _ _ _ (by rw [World.cell?_setCell_far _ _ _ _ (by simp), hc1]; rfl)
    have hc5 := cell_kept e0 (grownBy_putObj' _ D (.deferred none)) (fun r e => by cases e; exact ⟨_, hK', rfl⟩)
    have hc6 := cell_kept e1 (grownBy_putObj' _ D (.deferred none)) (fun r e => by cases e; exact ⟨_, hK', rfl⟩)
    refine ⟨.tuple #[.int .i64 (a0.size : Int), .int .i64 0], ?_, rfl, ((hB.setCell (p := ⟨w.heap.size, 0, none⟩) (by simp) _).setCell (p := ⟨w.heap.size + 1, 0, none⟩) (by simp) _).trans (belowK_b (w := w) (Nat.le_refl _) _ D _ _ (by simp at hD; omega) hK' rfl rfl)⟩
    simp [results, Tryd.f66, go_sem, hc5, hc6]
  case stop =>
    rintro D c pre W hD hpre ⟨⟨rfl, p, hin, hc0, hc1⟩, hB⟩ hK
    have H0 := H.out; rw [checkOf_some hin hpre] at H0
    obtain ⟨rfl, rfl⟩ := Prod.mk.inj H0
    clear hin H H0
    gi_wp2
    refine ⟨by simp, .inl ⟨_, _, rfl, run_takeDeferred hK, ?_⟩⟩
    have hc5 := cell_kept hc0 (grownBy_putObj' _ D (.deferred none)) (fun r e => by cases e; exact ⟨_, hK, rfl⟩)
    have hc6 := cell_kept hc1 (grownBy_putObj' _ D (.deferred none)) (fun r e => by cases e; exact ⟨_, hK, rfl⟩)
    refine ⟨.tuple #[.int .i64 p.1, .int .i64 61], ?_, rfl, hB.trans (belowK_b (w := w) (Nat.le_refl _) W D _ _ (by simp at hD; omega) hK rfl rfl)⟩
    simp [results, Tryd.f66, go_sem, hc5, hc6]
end Go.Proofs.YtdhjdddjgcfhkaaDoor.B
