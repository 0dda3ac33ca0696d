/- FormatBack: part 3 of 3: the texts HUnbase B3 PFb RFormatBack of this claim, one behind the other. -/
import Derived.Test.YtnbkmaghdbhlnaaDoorZFormatBack1
import Derived.RangeFuncNested
import Derived.RangeFuncBound
import Derived.RangeFuncCalls
import Derived.RangeFuncLeaves
import Derived.RangeFuncBox
import Derived.Shelf.Abstract
import Derived.Shelf.RegionOpen
import Derived.WalkKit
import Derived.OwnWalkIn
import Derived.TacticsInMore
import Derived.LoopNIn
import Derived.LoopIn
import Derived.Outline
import Derived.Deep.RegionHeld
import Derived.Lib.Hide
import Derived.Laws.BitsAllLaws
import Derived.Laws.Bits128
import Derived.SizedLaws
section
/- format.Unbase64: 64 digits as a text; walked. -/
set_option linter.unusedVariables false
set_option linter.unusedSimpArgs false
namespace Go.Proofs.YtnbkmaghdbhlnaaDoor.B
open Go.RowKit Go.Shelf Go.Proofs.YtnbkmaghdbhlnaaDoorW.PrintWords
attribute [local go_sem] Oper.semAt_some

def flat4 (bs : List (List Int × Bool)) : List Int := (bs.map (·.1)).flatten
def format_Unbase64.f (a0 : ByteArray) : Option (ByteArray × Int) :=
  (utf_Check.f a0).bind fun c => if c.2 = 0 then
    (if (Lib.trimRightB a0.data.toList 61).length % 4 = 1 then some (⟨#[]⟩, 21) else
     if a0.size ≤ 200000 then ((chunksB 4 ⟨(Lib.trimRightB a0.data.toList 61).toArray⟩).mapM (format_four.f 6)).bind fun bs =>
       if (∀ b ∈ bs, b.2 = true → 1 ≤ b.1.length ∧ b.1.length ≤ 3) then
         (if bs.all (·.2) = true then (utf_Mend.f (flat4 bs)).bind fun m => format_whole.f m 0 else some (⟨#[]⟩, 21)) else none
     else none)
   else some (⟨#[]⟩, c.2)
theorem flat4_app (bs : List (List Int × Bool)) (b : List Int × Bool) : flat4 (bs ++ [b]) = flat4 bs ++ b.1 := by simp [flat4]
theorem flat4_len : ∀ (bs : List (List Int × Bool)), (∀ b ∈ bs, b.1.length ≤ 3) → (flat4 bs).length ≤ 3 * bs.length
  | [], _ => Nat.le_refl _
  | b :: r, h => by
    have ih := flat4_len r (fun t ht => h t (List.mem_cons_of_mem _ ht))
    have e : flat4 (b :: r) = b.1 ++ flat4 r := rfl
    have := h b List.mem_cons_self
    rw [e, List.length_append, List.length_cons]; omega
theorem trimR_len (c : UInt8) : ∀ (l : List UInt8) (n : Nat), l.length = n → (Lib.trimRightB l c).length ≤ n := by
  intro l n h
  unfold Lib.trimRightB
  have := (List.dropWhile_suffix (l := l.reverse) (· == c)).length_le
  simp at this ⊢; omega
theorem mapM_mem {α β : Type} {f : α → Option β} : ∀ {l : List α} {rs : List β}, l.mapM f = some rs → ∀ x ∈ l, ∃ y ∈ rs, f x = some y
  | [], _, _, x, hx => by cases hx
  | a :: l, rs, h, x, hx => by
    rw [List.mapM_cons] at h
    obtain ⟨y, hy, h⟩ := Option.bind_eq_some_iff.1 h
    obtain ⟨r, hr, h⟩ := Option.bind_eq_some_iff.1 h
    obtain rfl := Option.some.inj h
    rcases List.mem_cons.1 hx with rfl | hx
    · exact ⟨y, List.mem_cons_self, hy⟩
    · obtain ⟨z, hz, e⟩ := mapM_mem hr x hx
      exact ⟨z, List.mem_cons_of_mem _ hz, e⟩
structure UnI (w : World) (B : Nat) (pre : List ByteArray) (W : World) : Prop where
  ys : ∃ ys, pre.mapM (format_four.f 6) = some ys ∧ (∀ b ∈ ys, b.2 = true) ∧ ∃ v, Boxed W B 31 v ∧ W.ownsRow w.heap.size 5 1 v (flat4 ys).length (nums .u8 (flat4 ys))
  r0 : Boxed W w.heap.size 9 (.string ⟨#[]⟩)
  r1 : Boxed W (w.heap.size + 1) 23 (.int .i64 0)
  s : ∃ x, Boxed W (B + 1) 9 x
  n : Boxed W (B + 1 + 1) 3 (.int .i64 4)
  low : Below w.heap.size w W
structure UnX (w : World) (c : Code) (pre : List ByteArray) (W : World) : Prop where
  c : c = .ret
  bad : ∃ x ∈ pre, ∃ b, format_four.f 6 x = some b ∧ b.2 = false
  r0 : Boxed W w.heap.size 9 (.string ⟨#[]⟩)
  r1 : Boxed W (w.heap.size + 1) 23 (.int .i64 21)
  low : Below w.heap.size w W
theorem UnI.own {w : World} {B n : Nat} (hn : w.heap.size ≤ n) : OwnFrom n (UnI w B) := by
  rintro pre A W row ⟨⟨ys, hy, hall, v, hv, hown⟩, r0, r1, ⟨x, hx⟩, hn4, hb⟩ hg hr
  have hr' : ∀ r, row = some r → ∃ o : Obj, A.heap[r]? = some o ∧ o.isCells = false := fun r e => (hr r e).2
  have hne : ∀ (k t : Nat) (u : Value), Boxed A k t u → some k ≠ row := fun k t u hk e => by
    obtain ⟨o, ho, hc⟩ := hr' k e.symm
    rw [show A.heap[k]? = _ from hk] at ho
    obtain rfl := Option.some.inj ho
    cases hc
  exact ⟨⟨ys, hy, hall, v, hv.kept hg (hne _ _ _ hv), ownsRow_grown hown hg hr'⟩, r0.kept hg (hne _ _ _ r0), r1.kept hg (hne _ _ _ r1), ⟨x, hx.kept hg (hne _ _ _ hx)⟩, hn4.kept hg (hne _ _ _ hn4), (ownFrom_below (Nat.le_refl _) hn : OwnFrom _ (fun _ : List ByteArray => Below w.heap.size w)) pre A W row hb hg hr⟩
theorem UnX.own {w : World} {n : Nat} (hn : w.heap.size ≤ n) (c : Code) : OwnFrom n (UnX w c) := by
  rintro pre A W row ⟨hc, hbad, r0, r1, hb⟩ hg hr
  have hne : ∀ (k t : Nat) (u : Value), Boxed A k t u → some k ≠ row := fun k t u hk e => by
    obtain ⟨_, o, ho, hc⟩ := hr k e.symm
    rw [show A.heap[k]? = _ from hk] at ho
    obtain rfl := Option.some.inj ho
    cases hc
  exact ⟨hc, hbad, r0.kept hg (hne _ _ _ r0), r1.kept hg (hne _ _ _ r1), (ownFrom_below (Nat.le_refl _) hn : OwnFrom _ (fun _ : List ByteArray => Below w.heap.size w)) pre A W row hb hg hr⟩
theorem ownsRow_box {W : World} {base n b : Nat} {v x : Value} {xs : List Value} {t : Nat} (h : W.ownsRow base 5 1 v n xs) (hx : Boxed W b t x) (ht : t ≠ 5) (u : Value) : (W.setCell ⟨b, 0, none⟩ u).ownsRow base 5 1 v n xs :=
  h.kept (row := some b) ⟨rfl, rfl, rfl, by simp [World.setCell], fun k _ hk => Below.heap_setCell _ _ _ _ (fun e => hk (by simp [e]))⟩ (Or.inr (Lib.ownBlock_ne h hx ht))
theorem UnI.minds {w : World} {B : Nat} (hB : w.heap.size + 1 < B) : Minds (B + 1) (UnI w B) := by
  rintro pre W u ⟨⟨ys, hy, hall, v, hv, hown⟩, r0, r1, ⟨x, hx⟩, hn4, hb⟩
  exact ⟨⟨ys, hy, hall, v, (setCell_away W (B + 1) u _ (by omega)).trans hv, ownsRow_box hown hx (by decide) u⟩, (setCell_away W (B + 1) u _ (by omega)).trans r0, (setCell_away W (B + 1) u _ (by omega)).trans r1, ⟨u, hx.set u⟩, (setCell_away W (B + 1) u _ (by omega)).trans hn4, hb.setCell (p := ⟨B + 1, 0, none⟩) (by simp; omega) u⟩
theorem two_cells {W : World} {b t0 t1 : Nat} {x y : Value} (h0 : Boxed W b t0 x) (h1 : Boxed W (b + 1) t1 y) (u v : Value) :
    ((W.setCell ⟨b, 0, none⟩ u).setCell ⟨b + 1, 0, none⟩ v).cell? ⟨b, 0, none⟩ = some u ∧ ((W.setCell ⟨b, 0, none⟩ u).setCell ⟨b + 1, 0, none⟩ v).cell? ⟨b + 1, 0, none⟩ = some v := by
  have e0 : Boxed ((W.setCell ⟨b, 0, none⟩ u).setCell ⟨b + 1, 0, none⟩ v) b t0 u := (setCell_away _ (b + 1) v b (by omega)).trans (h0.set u)
  have e1 : Boxed (W.setCell ⟨b, 0, none⟩ u) (b + 1) t1 y := (setCell_away W b u (b + 1) (by omega)).trans h1
  exact ⟨e0.cell, (e1.set v).cell⟩
theorem two_below {w W : World} (hb : Below w.heap.size w W) (u v : Value) : Below w.heap.size w ((W.setCell ⟨w.heap.size, 0, none⟩ u).setCell ⟨w.heap.size + 1, 0, none⟩ v) :=
  (hb.setCell (p := ⟨w.heap.size, 0, none⟩) (by simp) u).setCell (p := ⟨w.heap.size + 1, 0, none⟩) (by simp) v
/-- Everything that a round keeps besides: the two results, the iterator's two variables. -/
structure Four (w : World) (B : Nat) (W W' : World) : Prop where
  r0 : W'.heap[w.heap.size]? = W.heap[w.heap.size]?
  r1 : W'.heap[w.heap.size + 1]? = W.heap[w.heap.size + 1]?
  s : W'.heap[B + 1]? = W.heap[B + 1]?
  n : W'.heap[B + 1 + 1]? = W.heap[B + 1 + 1]?
theorem Four.trans {w X Y Z : World} {B : Nat} (h : Four w B X Y) (k : Four w B Y Z) : Four w B X Z := ⟨k.r0.trans h.r0, k.r1.trans h.r1, k.s.trans h.s, k.n.trans h.n⟩
theorem unb_kept {w W : World} {B : Nat} {v : Value} {k m : Nat} {xs news : List Value} (hv : Boxed W B 31 v) (hown : W.ownsRow w.heap.size 5 1 v k xs) (hn : w.heap.size ≤ W.heap.size) (hB : w.heap.size + 1 < B) (hm : 1 ≤ m)
    {x0 x1 x2 x3 : Value} (r0 : Boxed W w.heap.size 9 x0) (r1 : Boxed W (w.heap.size + 1) 23 x1) (s : Boxed W (B + 1) 9 x2) (n : Boxed W (B + 1 + 1) 3 x3) :
    ∀ w1 v', w1.ownsRow w.heap.size 5 1 v' (k + m) (xs ++ news) → W.grownBy w1 v.ownBlock → ∃ g' cap', v' = .slice (some ⟨g', 0, none⟩) (k + m) cap' ∧ w1.cell? ⟨B, 0, none⟩ = some v ∧ w1.frozen? ⟨B, 0, none⟩ = false ∧
      (KeepsOthers W (w1.setCell ⟨B, 0, none⟩ v') ∧ Four w B W (w1.setCell ⟨B, 0, none⟩ v') ∧ Below w.heap.size W (w1.setCell ⟨B, 0, none⟩ v') ∧ Boxed (w1.setCell ⟨B, 0, none⟩ v') B 31 v' ∧ (w1.setCell ⟨B, 0, none⟩ v').ownsRow w.heap.size 5 1 v' (k + m) (xs ++ news)) := by
  intro w1 v' hown' hg
  obtain ⟨q, hq⟩ : ∃ q, k + m = q + 1 := ⟨k + m - 1, by omega⟩
  have hown2 := hown'
  rw [hq] at hown2
  obtain ⟨g', cap', e⟩ := ownsRow_succ hown2
  have hv1 : Boxed w1 B 31 v := hv.kept hg (hv.not_row (by decide) hown)
  have hoth : ∀ (b t : Nat) (x : Value), Boxed W b t x → t ≠ 5 → b ≠ B → (w1.setCell ⟨B, 0, none⟩ v').heap[b]? = W.heap[b]? := fun b t x hb ht hbB =>
    (setCell_away w1 B v' b hbB).trans (hg.block b hb.lt (hb.not_row ht hown))
  refine ⟨g', cap', by rw [hq]; exact e, hv1.cell, hv1.frozen, ?_, ⟨hoth _ _ _ r0 (by decide) (by omega), hoth _ _ _ r1 (by decide) (by omega), hoth _ _ _ s (by decide) (by omega), hoth _ _ _ n (by decide) (by omega)⟩, ?_, hv1.set v', hown'.kept (grownBy_setCell' w1 B v') (.inr (hv1.not_row (by decide) hown').symm)⟩
  · refine (KeepsOthers.of_grownBy hg fun j o ej hj => ?_).trans (KeepsOthers.setCell _ _ _)
    rcases hown.2 with ⟨rfl, _⟩ | ⟨g, cap, cur, rfl, _, hgb, _⟩
    · simp [Value.ownBlock] at ej
    · obtain rfl : g = j := by simpa [Value.ownBlock] using ej
      rw [hgb] at hj; cases hj; rfl
  · refine ((Below.refl w.heap.size W).grown hg hn fun j ej => ?_).setCell (p := ⟨B, 0, none⟩) (by simp; omega) v'
    rcases hown.2 with ⟨rfl, _⟩ | ⟨g, cap, cur, rfl, hb, _, _⟩
    · simp [Value.ownBlock] at ej
    · obtain rfl : g = j := by simpa [Value.ownBlock] using ej
      exact hb
theorem nums_R {W : World} {base : Nat} {ok : Nat → Prop} {v : Value} {xs : List Int} (h : Kd.R (Kd.int .u8) 5 W base ok v xs) (hp : 0 < xs.length) : ∃ g cap, v = .slice (some ⟨g, 0, none⟩) xs.length cap ∧ ∀ j u, (nums .u8 xs)[j]? = some u → W.cell? ((⟨g, 0, none⟩ : Addr).add j) = some u := by
  obtain ⟨g, cap, e, _⟩ := Kd.R_form h hp
  have ho := Kd.own_of_R h
  exact ⟨g, cap, e, ho.cells (g := g) (by rw [e]; rfl)⟩
theorem ownsRow_later {W w1 : World} {base n : Nat} {v : Value} {xs : List Value} (h : W.ownsRow base 5 1 v n xs) (hb : Below W.heap.size W w1) : w1.ownsRow base 5 1 v n xs :=
  h.kept (grown_of_below hb none) (by cases v.ownBlock <;> simp)
theorem infoU8 : (Tryd.prog.info? 5).map (fun i => (i.zero, i.size, i.bytes)) = some (some (.int .u8 0), 1, 1) := by kernel_rfl
set_option maxRecDepth 100000 in
set_option maxHeartbeats 4000000 in
theorem format_Unbase64.calls (a0 : ByteArray) (r1 : ByteArray) (r2 : Int) (w : World) (hG : Aside0 (GlobG w)) (h : format_Unbase64.f a0 = some (r1, r2)) :
    Calls Tryd.prog 6 #[.string a0] w fun e w' => e = .returned (.tuple #[.string r1, .int .i64 r2]) ∧ Below w.heap.size w w' := by
  unfold format_Unbase64.f at h
  obtain ⟨⟨c1, c2⟩, hc, h⟩ := Option.bind_eq_some_iff.1 h
  have hsz : a0.size ≤ 140737488351232 := by
    unfold utf_Check.f at hc; split at hc
    · assumption
    · cases hc
  have hbA : Below w.heap.size w ((w.alloc (.cells #[.string ⟨#[]⟩] 9)).alloc (.cells #[.int .i64 0] 23)) := ((Below.refl _ w).alloc (Nat.le_refl _) _).alloc (by simp) _
  have hG2 := hG.out.below hbA
  have cU := utf_Check.calls a0 c1 c2 _ (Aside0.mk hG2) hc
  have b0 := (Boxed.new w 9 (.string ⟨#[]⟩)).alloc (.cells #[.int .i64 0] 23)
  have b1 := Boxed.new (w.alloc (.cells #[.string ⟨#[]⟩] 9)) 23 (.int .i64 0)
  simp only [World.size_alloc] at b1
  have hkp : ∀ w1 : World, Below ((w.alloc (.cells #[.string ⟨#[]⟩] 9)).alloc (.cells #[.int .i64 0] 23)).heap.size ((w.alloc (.cells #[.string ⟨#[]⟩] 9)).alloc (.cells #[.int .i64 0] 23)) w1 →
      Boxed w1 w.heap.size 9 (.string ⟨#[]⟩) ∧ Boxed w1 (w.heap.size + 1) 23 (.int .i64 0) ∧ Below w.heap.size w w1 ∧ w.heap.size + 1 < w1.heap.size := fun w1 h1 =>
    ⟨(h1.block _ b0.lt).trans b0, (h1.block _ b1.lt).trans b1, hbA.trans (h1.mono (by simp; omega)), by have := h1.size; simp at this; omega⟩
  have HKp := Lib.hid hkp
  clear hkp b0 b1 hbA hG2
  clear hc
  refine (callsIn_wide (n := 4)).1 ?_
  refine callsIn_of_wp_marks Tryd.func6 rfl trivial ?_ rfl
  simp only [Tryd.ntmps6, List.size_toArray, List.length_cons, List.length_nil, Nat.reduceAdd, Nat.reduceSub, Array.replicate_succ, Array.replicate_zero, List.push_toArray, List.append_toArray, List.nil_append, List.cons_append]
  by_cases h0 : c2 = 0
  · subst h0
    rw [if_pos rfl] at h
    have cT := fun W : World => Tryd.strings_TrimRight_one a0 61 (by decide) W (by omega)
    have hTs : (Lib.trimRightB a0.data.toList 61).length ≤ a0.size := trimR_len _ _ _ (Lib.size_eq a0).symm
    obtain ⟨T, hT⟩ : ∃ T : ByteArray, ⟨(Lib.trimRightB a0.data.toList 61).toArray⟩ = T := ⟨_, rfl⟩
    have hTl : (Lib.trimRightB a0.data.toList 61).length = T.size := by rw [← hT]; rfl
    rw [hTl] at h hTs
    simp only [hT] at h cT
    clear hT hTl
    by_cases hm : T.size % 4 = 1
    · rw [if_pos hm] at h
      obtain ⟨rfl, rfl⟩ := Prod.mk.inj (Option.some.inj h)
      have hm' : ((T.size : Int) % 4 == 1) = true := beq_iff_eq.2 (by omega)
      gi_wp2_with (first | (refine ⟨trivial, ?_⟩; gi_at_call 8; refine (callsIn_wide.2 cU).mono ?_; rintro e w1 ⟨rfl, hb1⟩; obtain ⟨bx0, bx1, hlow, hw1⟩ := HKp.out w1 hb1; have hc0 := bx0.cell; have hf0 := bx0.frozen; have hc1 := bx1.cell; have hf1 := bx1.frozen) | (refine ⟨trivial, ?_⟩; gi_at_call 14; refine (callsIn_wide.2 (cT _)).mono ?_; rintro e w2 ⟨rfl, rfl⟩))
      obtain ⟨e0, e1⟩ := two_cells bx0 bx1 (.string ⟨#[]⟩) (.int .i64 21)
      exact ⟨.tuple #[.string ⟨#[]⟩, .int .i64 21], by simp [results, Tryd.f6, go_sem, e0, e1], rfl, two_below hlow _ _⟩
    · rw [if_neg hm] at h
      by_cases hs : a0.size ≤ 200000
      · rw [if_pos hs] at h
        have hm' : ((T.size : Int) % 4 == 1) = false := beq_eq_false_iff_ne.2 (by omega)
        have H := Lib.hid h
        clear h
        gi_wp2_with (first | (refine ⟨trivial, ?_⟩; gi_at_call 8; refine (callsIn_wide.2 cU).mono ?_; rintro e w1 ⟨rfl, hb1⟩; obtain ⟨bx0, bx1, hlow, hw1⟩ := HKp.out w1 hb1; have hc0 := bx0.cell; have hf0 := bx0.frozen; have hc1 := bx1.cell; have hf1 := bx1.frozen) | (refine ⟨trivial, ?_⟩; gi_at_call 14; refine (callsIn_wide.2 (cT _)).mono ?_; rintro e w2 ⟨rfl, rfl⟩) | (refine ⟨trivial, ?_⟩; gi_at_call 9; refine (format_chunks_in _ _ _ _).mono ?_; rintro e w1 ⟨rfl, rfl⟩))
        obtain ⟨bs, hbs, hf⟩ := Option.bind_eq_some_iff.1 H.out
        split at hf
        case isFalse => cases hf
        case isTrue h3 =>
        have HF := Lib.hid hf
        have HBS := Lib.hid hbs
        have H3 := Lib.hid h3
        clear hf hbs h3 H
        obtain ⟨i0, hi0, hz0, hz1, hz2⟩ := info_parts infoU8
        obtain ⟨B, hB⟩ : ∃ B, w2.heap.size = B := ⟨_, rfl⟩
        have bO := ((Boxed.new w2 31 (.slice none 0 0)).alloc (.cells #[.string T] 9)).alloc (.cells #[.int .i64 4] 3)
        have bS := (Boxed.new (w2.alloc (.cells #[.slice none 0 0] 31)) 9 (.string T)).alloc (.cells #[.int .i64 4] 3)
        have bN := Boxed.new ((w2.alloc (.cells #[.slice none 0 0] 31)).alloc (.cells #[.string T] 9)) 3 (.int .i64 4)
        have bR0 := ((bx0.alloc (.cells #[.slice none 0 0] 31)).alloc (.cells #[.string T] 9)).alloc (.cells #[.int .i64 4] 3)
        have bR1 := ((bx1.alloc (.cells #[.slice none 0 0] 31)).alloc (.cells #[.string T] 9)).alloc (.cells #[.int .i64 4] 3)
        have hB0 : Below w.heap.size w (((w2.alloc (.cells #[.slice none 0 0] 31)).alloc (.cells #[.string T] 9)).alloc (.cells #[.int .i64 4] 3)) :=
          ((hlow.alloc hlow.size _).alloc (by simp; omega) _).alloc (by simp; omega) _
        have hG3 := hG.out.below hlow
        simp only [World.size_alloc] at bS bN
        rw [hB] at bO bS bN hw1 ⊢
        clear cU hc0 hf0 hc1 hf1 hb1 cT bx0 bx1
        refine wpIn_rangeFunc_cell (b := B + 1) rfl (by decide) (gf := 18) (lb := #[.pointer (some ⟨B + 1, 0, none⟩), .pointer (some ⟨B + 1 + 1, 0, none⟩)]) rfl trivial (enters_of Tryd.func18 (by kernel_rfl) rfl)
          (format_chunks_stops 3 (by omega) (B + 1) (B + 1 + 1) T 4 (by omega) (by omega) (by omega) (by omega) _ bS bN) (by simp; omega) (fun h k => ⟨k.1.trans h.1, k.2.trans h.2⟩)
          (fun W l o o' hl ho hc hw => ⟨World.putObj_heap_other (by simp at hl; omega), World.putObj_heap_other (by simp at hl; omega)⟩) (Below.refl _ _) (fun _ => rfl)
          (UnI w B) (UnX w) (UnI.own (by simp; omega)) (UnX.own (by simp; omega)) (UnI.minds hw1) ?start
          (fun x => { tmps := #[.string T, undef, .pointer (some ⟨w.heap.size, 0, none⟩), .pointer (some ⟨w.heap.size + 1, 0, none⟩), .int .i64 c1, .int .i64 0, .pointer (some ⟨B, 0, none⟩), .string x, undef, undef, .tuple #[.int .i64 c1, .int .i64 0], .string a0, .tuple #[.int .i64 c1, .int .i64 0], .int .i64 c1, .int .i64 0, .int .i64 0, .bool false, undef, .string a0, .string T, .string T, .int .i64 T.size, .int .i64 ((T.size : Int) % 4), .bool false, .string T, .func (.func 18) #[] #[.pointer (some ⟨B + 1, 0, none⟩), .pointer (some ⟨B + 1 + 1, 0, none⟩)], .string x, undef, undef, undef, undef, undef, undef, undef, undef, undef, undef, undef, undef, undef, undef, undef], defers := [] }) ?assign ?body ?done ?stop
        case start => exact ⟨⟨[], rfl, fun _ h => (by cases h), _, bO, World.ownsRow_nil _ _ _ _⟩, bR0, bR1, ⟨_, bS⟩, bN, hB0⟩
        case assign =>
          intro l x W K hK
          gi_wp2
          exact hK
        case body =>
          rintro l pre x W ⟨⟨ys, hy, hall, v, hv, hown⟩, r0, r1, ⟨u, hx⟩, hn4, hb⟩ hlen hsp
          obtain ⟨ys', y, hy1, hy2, hy3⟩ := mapM_prefix HBS.out hsp
          obtain rfl : ys = ys' := Option.some.inj (hy.symm.trans hy1)
          obtain ⟨y1, y2⟩ := y
          have cF := format_four.calls 6 x y1 y2 W hy2
          have hymem : (y1, y2) ∈ bs := List.IsPrefix.subset hy3 (by simp)
          have hysm : ∀ b ∈ ys, b ∈ bs := fun b hb => List.IsPrefix.subset hy3 (by simp [hb])
          have hyl : ys.length = pre.length := Lib.mapM_length hy
          have hfl := flat4_len ys (fun b hb => (H3.out b (hysm b hb) (hall b hb)).2)
          have hfl' : (flat4 ys).length ≤ 600000 := by omega
          have hbz := hb.size
          have hcv := hv.cell
          cases y2 with
          | true =>
            have hln := H3.out _ hymem rfl
            simp only at hln
            have hmap : (pre ++ [x]).mapM (format_four.f 6) = some (ys ++ [(y1, true)]) := by rw [List.mapM_append, hy, List.mapM_cons, hy2]; rfl
            have hall2 : ∀ b ∈ ys ++ [(y1, true)], b.2 = true := fun b hb => by
              rcases List.mem_append.1 hb with h | h
              · exact hall b h
              · rw [List.mem_singleton.1 h]
            have hnx : ∀ W2 : World, Below W.heap.size W W2 → Boxed W2 B 31 v ∧ W2.ownsRow w.heap.size 5 1 v (flat4 ys).length (nums .u8 (flat4 ys)) ∧ Boxed W2 w.heap.size 9 (.string ⟨#[]⟩) ∧ Boxed W2 (w.heap.size + 1) 23 (.int .i64 0) ∧ Boxed W2 (B + 1) 9 u ∧ Boxed W2 (B + 1 + 1) 3 (.int .i64 4) ∧ w.heap.size ≤ W2.heap.size := fun W2 h2 =>
              ⟨(h2.block _ hv.lt).trans hv, ownsRow_later hown h2, (h2.block _ r0.lt).trans r0, (h2.block _ r1.lt).trans r1, (h2.block _ hx.lt).trans hx, (h2.block _ hn4.lt).trans hn4, Nat.le_trans hbz h2.size⟩
            have h4b : ∀ W2 : World, Below W.heap.size W W2 → Four w B W W2 := fun W2 h2 => ⟨h2.block _ r0.lt, h2.block _ r1.lt, h2.block _ hx.lt, h2.block _ hn4.lt⟩
            have HN := Lib.hid hnx
            have H4 := Lib.hid h4b
            have HM := Lib.hid hmap
            have HA := Lib.hid hall2
            have HB := Lib.hid hb
            have HR0 := Lib.hid r0
            have HR1 := Lib.hid r1
            have HS := Lib.hid hx
            have HN4 := Lib.hid hn4
            have hnl : (nums .u8 y1).length = y1.length * 1 := by simp [nums]
            have h1c : ∀ u ∈ nums .u8 y1, u.oneCell' = true := fun u hu => by
              obtain ⟨z, _, rfl⟩ := List.mem_map.1 hu; rfl
            have HNl := Lib.hid hnl
            have H1c := Lib.hid h1c
            clear hnx h4b hmap hall2 hb r0 r1 hx hn4 hall hysm hy hy1 hy2 hy3 hown hv hcv hyl hsp hnl h1c
            gi_wp2_with (first | (refine ⟨trivial, ?_⟩; gi_at_call 15; refine (CallsIn.inRound l (callsIn_wide.2 cF)).mono ?_; rintro e w3 ⟨v0, rfl, hR, hb3⟩; obtain ⟨g, cap, rfl, hcells⟩ := nums_R hR (by omega); obtain ⟨nv, no, n0, n1, ns, n4, nz⟩ := HN.out w3 hb3; have HC := Lib.hid hcells; clear hcells; have hcv := nv.cell) | (gi_at_builtin; refine wpListIn_append_own _ rfl _ _ 31 rfl w.heap.size 5 i0 (.int .u8 0) 1 1 Tryd.underlying31 hi0 hz0 hz1 hz2 rfl (by decide) _ _ _ rfl no _ _ _ (nums .u8 y1) rfl HNl.out HC.out H1c.out (by unfold maxLen; omega) (by omega) nz ?_; intro v' w4 hown' hgrow _; obtain ⟨g', cap', rfl, hc1, hf1, hfin⟩ := unb_kept nv no nz hw1 hln.1 n0 n1 ns n4 w4 v' hown' hgrow))
            have f4 := (H4.out w3 hb3).trans hfin.2.1
            refine ⟨⟨Nat.le_trans hb3.size hfin.1.size, fun k o _ ho hc => hfin.1.same k o ((hb3.block k (Array.getElem?_eq_some_iff.1 ho).1).trans ho) hc⟩, ⟨f4.s, f4.n⟩, ⟨_, HM.out, HA.out, _, hfin.2.2.2.1, ?_⟩, f4.r0.trans HR0.out, f4.r1.trans HR1.out, ⟨u, f4.s.trans HS.out⟩, f4.n.trans HN4.out, HB.out.trans ((hb3.mono hbz).trans hfin.2.2.1)⟩
            rw [flat4_app, List.length_append, nums_append]
            exact hfin.2.2.2.2
          | false =>
            have hnx : ∀ W2 : World, Below W.heap.size W W2 → Boxed W2 w.heap.size 9 (.string ⟨#[]⟩) ∧ Boxed W2 (w.heap.size + 1) 23 (.int .i64 0) := fun W2 h2 =>
              ⟨(h2.block _ r0.lt).trans r0, (h2.block _ r1.lt).trans r1⟩
            have HN := Lib.hid hnx
            have HB := Lib.hid hb
            have HY2 := Lib.hid hy2
            have hle : w.heap.size ≤ W.heap.size := hbz
            clear hnx hb r0 r1 hx hn4 hall hysm hy hy1 hy2 hy3 hown hv hcv hyl hsp hbz
            gi_wp2_with (refine ⟨trivial, ?_⟩; gi_at_call 15; refine (CallsIn.inRound l (callsIn_wide.2 cF)).mono ?_; rintro e w3 ⟨v0, rfl, hR, hb3⟩; obtain ⟨A3, c3, rfl⟩ := Kd.R_slice hR; obtain ⟨n0, n1⟩ := HN.out w3 hb3; have hc0 := n0.cell; have hf0 := n0.frozen; have hc1 := n1.cell; have hf1 := n1.frozen; clear hR)
            have e0 : Boxed ((w3.setCell ⟨w.heap.size, 0, none⟩ (.string ⟨#[]⟩)).setCell ⟨w.heap.size + 1, 0, none⟩ (.int .i64 21)) w.heap.size 9 (.string ⟨#[]⟩) := (setCell_away _ _ _ _ (by omega)).trans (n0.set _)
            have e1 : Boxed ((w3.setCell ⟨w.heap.size, 0, none⟩ (.string ⟨#[]⟩)).setCell ⟨w.heap.size + 1, 0, none⟩ (.int .i64 21)) (w.heap.size + 1) 23 (.int .i64 21) :=
              Boxed.set _ ((setCell_away w3 w.heap.size (.string ⟨#[]⟩) _ (by omega)).trans n1 : Boxed _ _ _ _)
            exact ⟨⟨by simp [World.setCell]; exact hb3.size, fun k o _ ho hc => ((KeepsOthers.setCell w3 ⟨w.heap.size, 0, none⟩ (.string ⟨#[]⟩)).trans (KeepsOthers.setCell _ ⟨w.heap.size + 1, 0, none⟩ (.int .i64 21))).same k o ((hb3.block k (Array.getElem?_eq_some_iff.1 ho).1).trans ho) hc⟩, ⟨rfl, ⟨x, by simp, _, HY2.out, rfl⟩, e0, e1, two_below (HB.out.trans (hb3.mono hle)) _ _⟩⟩
        case done =>
          rintro D xs W hD rfl ⟨⟨ys, hy, hall, v, hv, hown⟩, r0, r1', _, _, hb⟩ hK
          obtain rfl : ys = bs := Option.some.inj (hy.symm.trans HBS.out)
          have hq := HF.out
          rw [if_pos (by rw [List.all_eq_true]; exact hall)] at hq
          obtain ⟨m, hm1, hm2⟩ := Option.bind_eq_some_iff.1 hq
          have hR : Kd.R (Kd.int .u8) 5 W w.heap.size (fun _ => True) v (flat4 ys) := Kd.R_of_own (enc := Value.int .u8) hown (fun _ _ => trivial)
          obtain ⟨A, c, rfl, hle, hC⟩ := Kd.R_reads hR
          have cM := utf_Mend.calls A c (flat4 ys) m W hC hle (Aside0.mk (hG.out.below hb)) hm1
          have cW := fun W : World => format_whole.calls m 0 r1 r2 W hm2
          have hcv := hv.cell
          have hnx : ∀ W2 : World, Below W.heap.size W W2 → Boxed W2 w.heap.size 9 (.string ⟨#[]⟩) ∧ Boxed W2 (w.heap.size + 1) 23 (.int .i64 0) ∧ W2.heap[D]? = some (.deferred (some [])) ∧ Below w.heap.size w W2 := fun W2 h2 =>
            ⟨(h2.block _ r0.lt).trans r0, (h2.block _ r1'.lt).trans r1', (h2.block _ (Array.getElem?_eq_some_iff.1 hK).1).trans hK, hb.trans (h2.mono hb.size)⟩
          have HN := Lib.hid hnx
          clear hnx hb r0 r1' hown hv hR hC hle hK hall hy hq hm1 hm2
          gi_wp2_with (first | (refine ⟨trivial, ?_⟩; gi_at_call 16; refine (callsIn_wide.2 cM).mono ?_; rintro e w3 ⟨rfl, hb3⟩) | (refine ⟨trivial, ?_⟩; gi_at_call 12; refine (callsIn_wide.2 (cW _)).mono ?_; rintro e w4 ⟨rfl, ⟨nd, rfl⟩⟩; obtain ⟨n0, n1, nK, nb⟩ := HN.out _ (pw_below_drewN hb3 nd); have hc0 := n0.cell; have hf0 := n0.frozen; have hc1 := n1.cell; have hf1 := n1.frozen))
          have hK' := ((KeepsOthers.setCell (w3.drewN nd) ⟨w.heap.size, 0, none⟩ (.string r1)).trans (KeepsOthers.setCell _ ⟨w.heap.size + 1, 0, none⟩ (.int .i64 r2))).same D _ nK rfl
          refine ⟨by simp, .inl ⟨_, _, rfl, run_takeDeferred hK', ?_⟩⟩
          obtain ⟨e0, e1⟩ := two_cells n0 n1 (.string r1) (.int .i64 r2)
          have hc5 := cell_kept e0 (grownBy_putObj' _ D (.deferred none)) (fun r e => by cases e; exact ⟨_, hK', rfl⟩)
          have hc6 := cell_kept e1 (grownBy_putObj' _ D (.deferred none)) (fun r e => by cases e; exact ⟨_, hK', rfl⟩)
          exact ⟨.tuple #[.string r1, .int .i64 r2], by simp [results, Tryd.f6, go_sem, hc5, hc6], rfl, (two_below nb _ _).trans (belowK_b (w := w) (Nat.le_refl _) _ D _ _ (by simp at hD; omega) hK' rfl rfl)⟩
        case stop =>
          rintro D c pre W hD hpre ⟨rfl, ⟨x, hx, b, hxb, hbf⟩, r0, r1', hb⟩ hK
          have hbs : ¬ (bs.all (·.2) = true) := fun hq => by
            rw [List.all_eq_true] at hq
            obtain ⟨b', hb', hm⟩ := mapM_mem HBS.out x (List.IsPrefix.subset hpre hx)
            rw [hxb] at hm
            obtain rfl := Option.some.inj hm
            rw [hq _ hb'] at hbf; cases hbf
          have hq := HF.out
          rw [if_neg hbs] at hq
          obtain ⟨rfl, rfl⟩ := Prod.mk.inj (Option.some.inj hq)
          clear hq hbs
          gi_wp2
          refine ⟨by simp, .inl ⟨_, _, rfl, run_takeDeferred hK, ?_⟩⟩
          have hc5 := cell_kept r0.cell (grownBy_putObj' _ D (.deferred none)) (fun r e => by cases e; exact ⟨_, hK, rfl⟩)
          have hc6 := cell_kept r1'.cell (grownBy_putObj' _ D (.deferred none)) (fun r e => by cases e; exact ⟨_, hK, rfl⟩)
          exact ⟨.tuple #[.string ⟨#[]⟩, .int .i64 21], by simp [results, Tryd.f6, go_sem, hc5, hc6], rfl, hb.trans (belowK_b (w := w) (Nat.le_refl _) W D _ _ (by simp at hD; omega) hK rfl rfl)⟩
      · rw [if_neg hs] at h; cases h
  · rw [if_neg h0] at h
    obtain ⟨rfl, rfl⟩ := Prod.mk.inj (Option.some.inj h)
    have hne : (c2 != 0) = true := by rw [bne_iff_ne]; exact h0
    gi_wp2_with (refine ⟨trivial, ?_⟩; gi_at_call 8; refine (callsIn_wide.2 cU).mono ?_; rintro e w1 ⟨rfl, hb1⟩; obtain ⟨bx0, bx1, hlow, hw1⟩ := HKp.out w1 hb1; have hc0 := bx0.cell; have hf0 := bx0.frozen; have hc1 := bx1.cell; have hf1 := bx1.frozen)
    obtain ⟨e0, e1⟩ := two_cells bx0 bx1 (.string ⟨#[]⟩) (.int .i64 c2)
    exact ⟨.tuple #[.string ⟨#[]⟩, .int .i64 c2], by simp [results, Tryd.f6, go_sem, e0, e1], rfl, two_below hlow _ _⟩
end Go.Proofs.YtnbkmaghdbhlnaaDoor.B

end

section
namespace Go.Proofs.YtnbkmaghdbhlnaaDoor.B
open Go.RowKit Go.Proofs.YtnbkmaghdbhlnaaDoorW.PrintWords Go.Proofs.YtnbkmaghdbhlnaaDoorW.PrintLast Go.Proofs.YtnbkmaghdbhlnaaDoorW.PrintMore
attribute [local go_sem] max2_int min2_int max_two min_two max_three min_three max_four min_four   -- for this text's walks alone
set_option linter.unusedVariables false
set_option linter.unusedSimpArgs false

def bolterlaw14_num.f (a0 : Int) : Option (Int) := some a0
set_option maxHeartbeats 8000000 in
set_option maxRecDepth 100000 in
theorem bolterlaw14_num.calls (a0 : Int) (r : Int) (w : World) (h : bolterlaw14_num.f a0 = some r) :
    Calls Tryd.prog 7 #[.int .i64 a0] w fun e w' => e = .returned (.int .i64 r) ∧ Drawn0 w w' := by
  have H : (some a0) = some r := h
  clear h
  obtain rfl := Option.some.inj H
  go_enter Tryd.func7, Tryd.ntmps7
  go_wp2
  go_ret
  exact ⟨by first | rfl | (simp; done) | (simp [*]; done), by repeat (first | exact Drawn0.refl _ | apply Drawn0.step)⟩
def bolterlaw14_alive.f  : Option (Bool) := (format_Base64.f (⟨#[97, 98]⟩ : ByteArray)).bind fun bt108 => ((format_Unbase64.f bt108.1).bind fun bt110 => ((bolterlaw14_num.f bt108.2).bind fun t112 => ((bolterlaw14_num.f bt110.2).bind fun t113 => (if (wrap64 (t112 + t113)) = 0 then (if bt108.1.toList = ([89, 87, 73, 61] : List UInt8) then (some (bt110.1.toList == ([97, 98] : List UInt8))) else (some false)) else (some false)))))
set_option maxHeartbeats 8000000 in
set_option maxRecDepth 100000 in
theorem bolterlaw14_alive.calls  (r : Bool) (w : World) (hG : Aside0 (GlobG w)) (h : bolterlaw14_alive.f  = some r) :
    Calls Tryd.prog 4 #[] w fun e w' => e = .returned (.bool r) ∧ Below w.heap.size w w' := by
  have HB := Aside0.mk (Below.refl w.heap.size w)
  have H : ((format_Base64.f (⟨#[97, 98]⟩ : ByteArray)).bind fun bt108 => ((format_Unbase64.f bt108.1).bind fun bt110 => ((bolterlaw14_num.f bt108.2).bind fun t112 => ((bolterlaw14_num.f bt110.2).bind fun t113 => (if (wrap64 (t112 + t113)) = 0 then (if bt108.1.toList = ([89, 87, 73, 61] : List UInt8) then (some (bt110.1.toList == ([97, 98] : List UInt8))) else (some false)) else (some false)))))) = some r := h
  clear h
  replace H := Option.bind_eq_some_iff.mp H
  obtain ⟨⟨t108, t109⟩, A10, H⟩ := H
  replace H : ((format_Unbase64.f t108).bind fun bt110 => ((bolterlaw14_num.f t109).bind fun t112 => ((bolterlaw14_num.f bt110.2).bind fun t113 => (if (wrap64 (t112 + t113)) = 0 then (if t108.toList = ([89, 87, 73, 61] : List UInt8) then (some (bt110.1.toList == ([97, 98] : List UInt8))) else (some false)) else (some false))))) = some r := H
  have A1 := Aside0.mk A10
  clear A10
  replace H := Option.bind_eq_some_iff.mp H
  obtain ⟨⟨t110, t111⟩, A20, H⟩ := H
  replace H : ((bolterlaw14_num.f t109).bind fun t112 => ((bolterlaw14_num.f t111).bind fun t113 => (if (wrap64 (t112 + t113)) = 0 then (if t108.toList = ([89, 87, 73, 61] : List UInt8) then (some (t110.toList == ([97, 98] : List UInt8))) else (some false)) else (some false)))) = some r := H
  have A2 := Aside0.mk A20
  clear A20
  replace H := Option.bind_eq_some_iff.mp H
  obtain ⟨t112, A30, H⟩ := H
  replace H : ((bolterlaw14_num.f t111).bind fun t113 => (if (wrap64 (t112 + t113)) = 0 then (if t108.toList = ([89, 87, 73, 61] : List UInt8) then (some (t110.toList == ([97, 98] : List UInt8))) else (some false)) else (some false))) = some r := H
  have A3 := Aside0.mk A30
  clear A30
  replace H := Option.bind_eq_some_iff.mp H
  obtain ⟨t113, A40, H⟩ := H
  replace H : (if (wrap64 (t112 + t113)) = 0 then (if t108.toList = ([89, 87, 73, 61] : List UInt8) then (some (t110.toList == ([97, 98] : List UInt8))) else (some false)) else (some false)) = some r := H
  have A4 := Aside0.mk A40
  clear A40
  by_cases c5 : (wrap64 (t112 + t113)) = 0
  · rw [if_pos c5] at H
    have c5b0 : ((wrap64 (t112 + t113)) == 0) = true := beq_iff_eq.mpr c5
    have c5b1 : ((wrap64 (t112 + t113)) != 0) = false := bne_eq_false_iff_eq.mpr c5
    clear c5
    by_cases c6 : t108.toList = ([89, 87, 73, 61] : List UInt8)
    · rw [if_pos c6] at H
      have c6b0 : (t108.toList == ([89, 87, 73, 61] : List UInt8)) = true := beq_iff_eq.mpr c6
      have c6b1 : (t108.toList != ([89, 87, 73, 61] : List UInt8)) = false := bne_eq_false_iff_eq.mpr c6
      clear c6
      obtain rfl := Option.some.inj H
      go_enter Tryd.func4, Tryd.ntmps4
      go_wp2_with (first | ((with_reducible refine gate_callee (f := 5) rfl ?_); refine goesL_ (some 6) rfl rfl Tryd.func5 (by kernel_rfl) rfl #[.string (⟨#[97, 98]⟩ : ByteArray)] rfl (by (try simp only [List.map_toArray, List.map_cons, List.map_nil]); first | done | rfl | (simp only [List.length_drop, List.length_take]; rfl)) ?_; (with_reducible refine (format_Base64.calls (⟨#[97, 98]⟩ : ByteArray) t108 t109 _ ?side1 A1.out).mono ?_); (case side1 => exact Aside0.mk (GlobG.below (by repeat (first | (with_reducible first | exact HB.out | apply below_alloc | apply pw_below_drewN | apply below_drew1) | exact HB.out)) hG.out)); rintro e w7 ⟨rfl, hb⟩; refine ⟨_, rfl, ?_⟩; have n0_ := Aside0.mk (below_step (by repeat (first | (with_reducible first | exact HB.out | apply below_alloc | apply pw_below_drewN | apply below_drew1) | exact HB.out)) hb); clear HB; have HB := n0_; clear n0_; (try clear hb); (try clear hb2); (try clear hk); (try clear hi)) | ((with_reducible refine gate_callee (f := 6) rfl ?_); refine goesL_ (some 11) rfl rfl Tryd.func6 (by kernel_rfl) rfl #[.string t108] rfl (by (try simp only [List.map_toArray, List.map_cons, List.map_nil]); first | done | rfl | (simp only [List.length_drop, List.length_take]; rfl)) ?_; (with_reducible refine (format_Unbase64.calls t108 t110 t111 _ ?side1 A2.out).mono ?_); (case side1 => exact Aside0.mk (GlobG.below (by repeat (first | (with_reducible first | exact HB.out | apply below_alloc | apply pw_below_drewN | apply below_drew1) | exact HB.out)) hG.out)); rintro e w8 ⟨rfl, hb⟩; refine ⟨_, rfl, ?_⟩; have n0_ := Aside0.mk (below_step (by repeat (first | (with_reducible first | exact HB.out | apply below_alloc | apply pw_below_drewN | apply below_drew1) | exact HB.out)) hb); clear HB; have HB := n0_; clear n0_; (try clear hb); (try clear hb2); (try clear hk); (try clear hi)) | ((with_reducible refine gate_callee (f := 7) rfl ?_); refine goesL_ (some 15) rfl rfl Tryd.func7 (by kernel_rfl) rfl #[.int .i64 t109] rfl (by (try simp only [List.map_toArray, List.map_cons, List.map_nil]); first | done | rfl | (simp only [List.length_drop, List.length_take]; rfl)) ?_; (with_reducible refine (bolterlaw14_num.calls t109 t112 _ A3.out).mono ?_); rintro e w' ⟨rfl, ⟨nd, rfl⟩⟩; refine ⟨_, rfl, ?_⟩) | ((with_reducible refine gate_callee (f := 7) rfl ?_); refine goesL_ (some 17) rfl rfl Tryd.func7 (by kernel_rfl) rfl #[.int .i64 t111] rfl (by (try simp only [List.map_toArray, List.map_cons, List.map_nil]); first | done | rfl | (simp only [List.length_drop, List.length_take]; rfl)) ?_; (with_reducible refine (bolterlaw14_num.calls t111 t113 _ A4.out).mono ?_); rintro e w' ⟨rfl, ⟨nd, rfl⟩⟩; refine ⟨_, rfl, ?_⟩))
      go_ret
      exact ⟨by first | rfl | (simp [errW_none, errW_some] <;> rfl) | (simp [*, errW_none, errW_some] <;> rfl), by repeat (first | (with_reducible first | exact HB.out | apply below_alloc | apply pw_below_drewN | apply below_drew1) | exact HB.out)⟩
    · rw [if_neg c6] at H
      have c6b0 : (t108.toList == ([89, 87, 73, 61] : List UInt8)) = false := beq_eq_false_iff_ne.mpr c6
      have c6b1 : (t108.toList != ([89, 87, 73, 61] : List UInt8)) = true := bne_iff_ne.mpr c6
      obtain rfl := Option.some.inj H
      go_enter Tryd.func4, Tryd.ntmps4
      go_wp2_with (first | ((with_reducible refine gate_callee (f := 5) rfl ?_); refine goesL_ (some 6) rfl rfl Tryd.func5 (by kernel_rfl) rfl #[.string (⟨#[97, 98]⟩ : ByteArray)] rfl (by (try simp only [List.map_toArray, List.map_cons, List.map_nil]); first | done | rfl | (simp only [List.length_drop, List.length_take]; rfl)) ?_; (with_reducible refine (format_Base64.calls (⟨#[97, 98]⟩ : ByteArray) t108 t109 _ ?side1 A1.out).mono ?_); (case side1 => exact Aside0.mk (GlobG.below (by repeat (first | (with_reducible first | exact HB.out | apply below_alloc | apply pw_below_drewN | apply below_drew1) | exact HB.out)) hG.out)); rintro e w9 ⟨rfl, hb⟩; refine ⟨_, rfl, ?_⟩; have n0_ := Aside0.mk (below_step (by repeat (first | (with_reducible first | exact HB.out | apply below_alloc | apply pw_below_drewN | apply below_drew1) | exact HB.out)) hb); clear HB; have HB := n0_; clear n0_; (try clear hb); (try clear hb2); (try clear hk); (try clear hi)) | ((with_reducible refine gate_callee (f := 6) rfl ?_); refine goesL_ (some 11) rfl rfl Tryd.func6 (by kernel_rfl) rfl #[.string t108] rfl (by (try simp only [List.map_toArray, List.map_cons, List.map_nil]); first | done | rfl | (simp only [List.length_drop, List.length_take]; rfl)) ?_; (with_reducible refine (format_Unbase64.calls t108 t110 t111 _ ?side1 A2.out).mono ?_); (case side1 => exact Aside0.mk (GlobG.below (by repeat (first | (with_reducible first | exact HB.out | apply below_alloc | apply pw_below_drewN | apply below_drew1) | exact HB.out)) hG.out)); rintro e w10 ⟨rfl, hb⟩; refine ⟨_, rfl, ?_⟩; have n0_ := Aside0.mk (below_step (by repeat (first | (with_reducible first | exact HB.out | apply below_alloc | apply pw_below_drewN | apply below_drew1) | exact HB.out)) hb); clear HB; have HB := n0_; clear n0_; (try clear hb); (try clear hb2); (try clear hk); (try clear hi)) | ((with_reducible refine gate_callee (f := 7) rfl ?_); refine goesL_ (some 15) rfl rfl Tryd.func7 (by kernel_rfl) rfl #[.int .i64 t109] rfl (by (try simp only [List.map_toArray, List.map_cons, List.map_nil]); first | done | rfl | (simp only [List.length_drop, List.length_take]; rfl)) ?_; (with_reducible refine (bolterlaw14_num.calls t109 t112 _ A3.out).mono ?_); rintro e w' ⟨rfl, ⟨nd, rfl⟩⟩; refine ⟨_, rfl, ?_⟩) | ((with_reducible refine gate_callee (f := 7) rfl ?_); refine goesL_ (some 17) rfl rfl Tryd.func7 (by kernel_rfl) rfl #[.int .i64 t111] rfl (by (try simp only [List.map_toArray, List.map_cons, List.map_nil]); first | done | rfl | (simp only [List.length_drop, List.length_take]; rfl)) ?_; (with_reducible refine (bolterlaw14_num.calls t111 t113 _ A4.out).mono ?_); rintro e w' ⟨rfl, ⟨nd, rfl⟩⟩; refine ⟨_, rfl, ?_⟩))
      go_ret
      exact ⟨by first | rfl | (simp [errW_none, errW_some] <;> rfl) | (simp [*, errW_none, errW_some] <;> rfl), by repeat (first | (with_reducible first | exact HB.out | apply below_alloc | apply pw_below_drewN | apply below_drew1) | exact HB.out)⟩
  · rw [if_neg c5] at H
    have c5b0 : ((wrap64 (t112 + t113)) == 0) = false := beq_eq_false_iff_ne.mpr c5
    have c5b1 : ((wrap64 (t112 + t113)) != 0) = true := bne_iff_ne.mpr c5
    obtain rfl := Option.some.inj H
    go_enter Tryd.func4, Tryd.ntmps4
    go_wp2_with (first | ((with_reducible refine gate_callee (f := 5) rfl ?_); refine goesL_ (some 6) rfl rfl Tryd.func5 (by kernel_rfl) rfl #[.string (⟨#[97, 98]⟩ : ByteArray)] rfl (by (try simp only [List.map_toArray, List.map_cons, List.map_nil]); first | done | rfl | (simp only [List.length_drop, List.length_take]; rfl)) ?_; (with_reducible refine (format_Base64.calls (⟨#[97, 98]⟩ : ByteArray) t108 t109 _ ?side1 A1.out).mono ?_); (case side1 => exact Aside0.mk (GlobG.below (by repeat (first | (with_reducible first | exact HB.out | apply below_alloc | apply pw_below_drewN | apply below_drew1) | exact HB.out)) hG.out)); rintro e w11 ⟨rfl, hb⟩; refine ⟨_, rfl, ?_⟩; have n0_ := Aside0.mk (below_step (by repeat (first | (with_reducible first | exact HB.out | apply below_alloc | apply pw_below_drewN | apply below_drew1) | exact HB.out)) hb); clear HB; have HB := n0_; clear n0_; (try clear hb); (try clear hb2); (try clear hk); (try clear hi)) | ((with_reducible refine gate_callee (f := 6) rfl ?_); refine goesL_ (some 11) rfl rfl Tryd.func6 (by kernel_rfl) rfl #[.string t108] rfl (by (try simp only [List.map_toArray, List.map_cons, List.map_nil]); first | done | rfl | (simp only [List.length_drop, List.length_take]; rfl)) ?_; (with_reducible refine (format_Unbase64.calls t108 t110 t111 _ ?side1 A2.out).mono ?_); (case side1 => exact Aside0.mk (GlobG.below (by repeat (first | (with_reducible first | exact HB.out | apply below_alloc | apply pw_below_drewN | apply below_drew1) | exact HB.out)) hG.out)); rintro e w12 ⟨rfl, hb⟩; refine ⟨_, rfl, ?_⟩; have n0_ := Aside0.mk (below_step (by repeat (first | (with_reducible first | exact HB.out | apply below_alloc | apply pw_below_drewN | apply below_drew1) | exact HB.out)) hb); clear HB; have HB := n0_; clear n0_; (try clear hb); (try clear hb2); (try clear hk); (try clear hi)) | ((with_reducible refine gate_callee (f := 7) rfl ?_); refine goesL_ (some 15) rfl rfl Tryd.func7 (by kernel_rfl) rfl #[.int .i64 t109] rfl (by (try simp only [List.map_toArray, List.map_cons, List.map_nil]); first | done | rfl | (simp only [List.length_drop, List.length_take]; rfl)) ?_; (with_reducible refine (bolterlaw14_num.calls t109 t112 _ A3.out).mono ?_); rintro e w' ⟨rfl, ⟨nd, rfl⟩⟩; refine ⟨_, rfl, ?_⟩) | ((with_reducible refine gate_callee (f := 7) rfl ?_); refine goesL_ (some 17) rfl rfl Tryd.func7 (by kernel_rfl) rfl #[.int .i64 t111] rfl (by (try simp only [List.map_toArray, List.map_cons, List.map_nil]); first | done | rfl | (simp only [List.length_drop, List.length_take]; rfl)) ?_; (with_reducible refine (bolterlaw14_num.calls t111 t113 _ A4.out).mono ?_); rintro e w' ⟨rfl, ⟨nd, rfl⟩⟩; refine ⟨_, rfl, ?_⟩))
    go_ret
    exact ⟨by first | rfl | (simp [errW_none, errW_some] <;> rfl) | (simp [*, errW_none, errW_some] <;> rfl), by repeat (first | (with_reducible first | exact HB.out | apply below_alloc | apply pw_below_drewN | apply below_drew1) | exact HB.out)⟩
def bolterlaw14_FormatBack.f (a0 : ByteArray) : Option (Bool) := (bolterlaw14_alive.f).bind fun t114 => (if t114 = true then ((format_Base64.f a0).bind fun bt115 => ((format_Unbase64.f bt115.1).bind fun bt117 => ((bolterlaw14_num.f bt115.2).bind fun t119 => (if t119 = 0 then ((bolterlaw14_num.f bt117.2).bind fun t120 => (if t120 = 0 then (if bt117.1.toList = a0.toList then (some ((bt115.1.size : Int) == (wrap64 ((wrap64 (Int.tdiv (wrap64 ((a0.size : Int) + 2)) 3)) * 4)))) else (some false)) else (some false))) else (some (bt115.1.toList == ([] : List UInt8))))))) else (some false))
set_option maxHeartbeats 8000000 in
set_option maxRecDepth 100000 in
theorem bolterlaw14_FormatBack.calls (a0 : ByteArray) (r : Bool) (w : World) (hG : Aside0 (GlobG w)) (h : bolterlaw14_FormatBack.f a0 = some r) :
    Calls Tryd.prog 3 #[.string a0] w fun e w' => e = .returned (.bool r) ∧ Below w.heap.size w w' := by
  have HB := Aside0.mk (Below.refl w.heap.size w)
  have H : ((bolterlaw14_alive.f).bind fun t114 => (if t114 = true then ((format_Base64.f a0).bind fun bt115 => ((format_Unbase64.f bt115.1).bind fun bt117 => ((bolterlaw14_num.f bt115.2).bind fun t119 => (if t119 = 0 then ((bolterlaw14_num.f bt117.2).bind fun t120 => (if t120 = 0 then (if bt117.1.toList = a0.toList then (some ((bt115.1.size : Int) == (wrap64 ((wrap64 (Int.tdiv (wrap64 ((a0.size : Int) + 2)) 3)) * 4)))) else (some false)) else (some false))) else (some (bt115.1.toList == ([] : List UInt8))))))) else (some false))) = some r := h
  clear h
  replace H := Option.bind_eq_some_iff.mp H
  obtain ⟨t114, A20, H⟩ := H
  replace H : (if t114 = true then ((format_Base64.f a0).bind fun bt115 => ((format_Unbase64.f bt115.1).bind fun bt117 => ((bolterlaw14_num.f bt115.2).bind fun t119 => (if t119 = 0 then ((bolterlaw14_num.f bt117.2).bind fun t120 => (if t120 = 0 then (if bt117.1.toList = a0.toList then (some ((bt115.1.size : Int) == (wrap64 ((wrap64 (Int.tdiv (wrap64 ((a0.size : Int) + 2)) 3)) * 4)))) else (some false)) else (some false))) else (some (bt115.1.toList == ([] : List UInt8))))))) else (some false)) = some r := H
  have A2 := Aside0.mk A20
  clear A20
  by_cases c3 : t114 = true
  · subst c3
    have H1 : ((format_Base64.f a0).bind fun bt115 => ((format_Unbase64.f bt115.1).bind fun bt117 => ((bolterlaw14_num.f bt115.2).bind fun t119 => (if t119 = 0 then ((bolterlaw14_num.f bt117.2).bind fun t120 => (if t120 = 0 then (if bt117.1.toList = a0.toList then (some ((bt115.1.size : Int) == (wrap64 ((wrap64 (Int.tdiv (wrap64 ((a0.size : Int) + 2)) 3)) * 4)))) else (some false)) else (some false))) else (some (bt115.1.toList == ([] : List UInt8))))))) = some r := by rw [if_pos rfl] at H; exact H
    clear H
    have H := H1
    clear H1
    replace H := Option.bind_eq_some_iff.mp H
    obtain ⟨⟨t115, t116⟩, A40, H⟩ := H
    replace H : ((format_Unbase64.f t115).bind fun bt117 => ((bolterlaw14_num.f t116).bind fun t119 => (if t119 = 0 then ((bolterlaw14_num.f bt117.2).bind fun t120 => (if t120 = 0 then (if bt117.1.toList = a0.toList then (some ((t115.size : Int) == (wrap64 ((wrap64 (Int.tdiv (wrap64 ((a0.size : Int) + 2)) 3)) * 4)))) else (some false)) else (some false))) else (some (t115.toList == ([] : List UInt8)))))) = some r := H
    have A4 := Aside0.mk A40
    clear A40
    replace H := Option.bind_eq_some_iff.mp H
    obtain ⟨⟨t117, t118⟩, A50, H⟩ := H
    replace H : ((bolterlaw14_num.f t116).bind fun t119 => (if t119 = 0 then ((bolterlaw14_num.f t118).bind fun t120 => (if t120 = 0 then (if t117.toList = a0.toList then (some ((t115.size : Int) == (wrap64 ((wrap64 (Int.tdiv (wrap64 ((a0.size : Int) + 2)) 3)) * 4)))) else (some false)) else (some false))) else (some (t115.toList == ([] : List UInt8))))) = some r := H
    have A5 := Aside0.mk A50
    clear A50
    replace H := Option.bind_eq_some_iff.mp H
    obtain ⟨t119, A60, H⟩ := H
    replace H : (if t119 = 0 then ((bolterlaw14_num.f t118).bind fun t120 => (if t120 = 0 then (if t117.toList = a0.toList then (some ((t115.size : Int) == (wrap64 ((wrap64 (Int.tdiv (wrap64 ((a0.size : Int) + 2)) 3)) * 4)))) else (some false)) else (some false))) else (some (t115.toList == ([] : List UInt8)))) = some r := H
    have A6 := Aside0.mk A60
    clear A60
    by_cases c7 : t119 = 0
    · rw [if_pos c7] at H
      have c7b0 : (t119 == 0) = true := beq_iff_eq.mpr c7
      have c7b1 : (t119 != 0) = false := bne_eq_false_iff_eq.mpr c7
      clear c7
      replace H := Option.bind_eq_some_iff.mp H
      obtain ⟨t120, A80, H⟩ := H
      replace H : (if t120 = 0 then (if t117.toList = a0.toList then (some ((t115.size : Int) == (wrap64 ((wrap64 (Int.tdiv (wrap64 ((a0.size : Int) + 2)) 3)) * 4)))) else (some false)) else (some false)) = some r := H
      have A8 := Aside0.mk A80
      clear A80
      by_cases c9 : t120 = 0
      · rw [if_pos c9] at H
        have c9b0 : (t120 == 0) = true := beq_iff_eq.mpr c9
        have c9b1 : (t120 != 0) = false := bne_eq_false_iff_eq.mpr c9
        clear c9
        by_cases c10 : t117.toList = a0.toList
        · rw [if_pos c10] at H
          have c10b0 : (t117.toList == a0.toList) = true := beq_iff_eq.mpr c10
          have c10b1 : (t117.toList != a0.toList) = false := bne_eq_false_iff_eq.mpr c10
          clear c10
          obtain rfl := Option.some.inj H
          go_enter Tryd.func3, Tryd.ntmps3
          go_wp2_with (first | ((with_reducible refine gate_callee (f := 4) rfl ?_); refine goesL_ (some 7) rfl rfl Tryd.func4 (by kernel_rfl) rfl #[] rfl (by (try simp only [List.map_toArray, List.map_cons, List.map_nil]); first | done | rfl | (simp only [List.length_drop, List.length_take]; rfl)) ?_; (with_reducible refine (bolterlaw14_alive.calls  true _ ?side1 A2.out).mono ?_); (case side1 => exact Aside0.mk (GlobG.below (by repeat (first | (with_reducible first | exact HB.out | apply below_alloc | apply pw_below_drewN | apply below_drew1) | exact HB.out)) hG.out)); rintro e w11 ⟨rfl, hb⟩; refine ⟨_, rfl, ?_⟩; have n0_ := Aside0.mk (below_step (by repeat (first | (with_reducible first | exact HB.out | apply below_alloc | apply pw_below_drewN | apply below_drew1) | exact HB.out)) hb); clear HB; have HB := n0_; clear n0_; (try clear hb); (try clear hb2); (try clear hk); (try clear hi)) | ((with_reducible refine gate_callee (f := 5) rfl ?_); refine goesL_ (some 11) rfl rfl Tryd.func5 (by kernel_rfl) rfl #[.string a0] rfl (by (try simp only [List.map_toArray, List.map_cons, List.map_nil]); first | done | rfl | (simp only [List.length_drop, List.length_take]; rfl)) ?_; (with_reducible refine (format_Base64.calls a0 t115 t116 _ ?side1 A4.out).mono ?_); (case side1 => exact Aside0.mk (GlobG.below (by repeat (first | (with_reducible first | exact HB.out | apply below_alloc | apply pw_below_drewN | apply below_drew1) | exact HB.out)) hG.out)); rintro e w12 ⟨rfl, hb⟩; refine ⟨_, rfl, ?_⟩; have n0_ := Aside0.mk (below_step (by repeat (first | (with_reducible first | exact HB.out | apply below_alloc | apply pw_below_drewN | apply below_drew1) | exact HB.out)) hb); clear HB; have HB := n0_; clear n0_; (try clear hb); (try clear hb2); (try clear hk); (try clear hi)) | ((with_reducible refine gate_callee (f := 6) rfl ?_); refine goesL_ (some 16) rfl rfl Tryd.func6 (by kernel_rfl) rfl #[.string t115] rfl (by (try simp only [List.map_toArray, List.map_cons, List.map_nil]); first | done | rfl | (simp only [List.length_drop, List.length_take]; rfl)) ?_; (with_reducible refine (format_Unbase64.calls t115 t117 t118 _ ?side1 A5.out).mono ?_); (case side1 => exact Aside0.mk (GlobG.below (by repeat (first | (with_reducible first | exact HB.out | apply below_alloc | apply pw_below_drewN | apply below_drew1) | exact HB.out)) hG.out)); rintro e w13 ⟨rfl, hb⟩; refine ⟨_, rfl, ?_⟩; have n0_ := Aside0.mk (below_step (by repeat (first | (with_reducible first | exact HB.out | apply below_alloc | apply pw_below_drewN | apply below_drew1) | exact HB.out)) hb); clear HB; have HB := n0_; clear n0_; (try clear hb); (try clear hb2); (try clear hk); (try clear hi)) | ((with_reducible refine gate_callee (f := 7) rfl ?_); refine goesL_ (some 20) rfl rfl Tryd.func7 (by kernel_rfl) rfl #[.int .i64 t116] rfl (by (try simp only [List.map_toArray, List.map_cons, List.map_nil]); first | done | rfl | (simp only [List.length_drop, List.length_take]; rfl)) ?_; (with_reducible refine (bolterlaw14_num.calls t116 t119 _ A6.out).mono ?_); rintro e w' ⟨rfl, ⟨nd, rfl⟩⟩; refine ⟨_, rfl, ?_⟩) | ((with_reducible refine gate_callee (f := 7) rfl ?_); refine goesL_ (some 25) rfl rfl Tryd.func7 (by kernel_rfl) rfl #[.int .i64 t118] rfl (by (try simp only [List.map_toArray, List.map_cons, List.map_nil]); first | done | rfl | (simp only [List.length_drop, List.length_take]; rfl)) ?_; (with_reducible refine (bolterlaw14_num.calls t118 t120 _ A8.out).mono ?_); rintro e w' ⟨rfl, ⟨nd, rfl⟩⟩; refine ⟨_, rfl, ?_⟩))
          go_ret
          exact ⟨by first | rfl | (simp [errW_none, errW_some] <;> rfl) | (simp [*, errW_none, errW_some] <;> rfl), by repeat (first | (with_reducible first | exact HB.out | apply below_alloc | apply pw_below_drewN | apply below_drew1) | exact HB.out)⟩
        · rw [if_neg c10] at H
          have c10b0 : (t117.toList == a0.toList) = false := beq_eq_false_iff_ne.mpr c10
          have c10b1 : (t117.toList != a0.toList) = true := bne_iff_ne.mpr c10
          obtain rfl := Option.some.inj H
          go_enter Tryd.func3, Tryd.ntmps3
          go_wp2_with (first | ((with_reducible refine gate_callee (f := 4) rfl ?_); refine goesL_ (some 7) rfl rfl Tryd.func4 (by kernel_rfl) rfl #[] rfl (by (try simp only [List.map_toArray, List.map_cons, List.map_nil]); first | done | rfl | (simp only [List.length_drop, List.length_take]; rfl)) ?_; (with_reducible refine (bolterlaw14_alive.calls  true _ ?side1 A2.out).mono ?_); (case side1 => exact Aside0.mk (GlobG.below (by repeat (first | (with_reducible first | exact HB.out | apply below_alloc | apply pw_below_drewN | apply below_drew1) | exact HB.out)) hG.out)); rintro e w14 ⟨rfl, hb⟩; refine ⟨_, rfl, ?_⟩; have n0_ := Aside0.mk (below_step (by repeat (first | (with_reducible first | exact HB.out | apply below_alloc | apply pw_below_drewN | apply below_drew1) | exact HB.out)) hb); clear HB; have HB := n0_; clear n0_; (try clear hb); (try clear hb2); (try clear hk); (try clear hi)) | ((with_reducible refine gate_callee (f := 5) rfl ?_); refine goesL_ (some 11) rfl rfl Tryd.func5 (by kernel_rfl) rfl #[.string a0] rfl (by (try simp only [List.map_toArray, List.map_cons, List.map_nil]); first | done | rfl | (simp only [List.length_drop, List.length_take]; rfl)) ?_; (with_reducible refine (format_Base64.calls a0 t115 t116 _ ?side1 A4.out).mono ?_); (case side1 => exact Aside0.mk (GlobG.below (by repeat (first | (with_reducible first | exact HB.out | apply below_alloc | apply pw_below_drewN | apply below_drew1) | exact HB.out)) hG.out)); rintro e w15 ⟨rfl, hb⟩; refine ⟨_, rfl, ?_⟩; have n0_ := Aside0.mk (below_step (by repeat (first | (with_reducible first | exact HB.out | apply below_alloc | apply pw_below_drewN | apply below_drew1) | exact HB.out)) hb); clear HB; have HB := n0_; clear n0_; (try clear hb); (try clear hb2); (try clear hk); (try clear hi)) | ((with_reducible refine gate_callee (f := 6) rfl ?_); refine goesL_ (some 16) rfl rfl Tryd.func6 (by kernel_rfl) rfl #[.string t115] rfl (by (try simp only [List.map_toArray, List.map_cons, List.map_nil]); first | done | rfl | (simp only [List.length_drop, List.length_take]; rfl)) ?_; (with_reducible refine (format_Unbase64.calls t115 t117 t118 _ ?side1 A5.out).mono ?_); (case side1 => exact Aside0.mk (GlobG.below (by repeat (first | (with_reducible first | exact HB.out | apply below_alloc | apply pw_below_drewN | apply below_drew1) | exact HB.out)) hG.out)); rintro e w16 ⟨rfl, hb⟩; refine ⟨_, rfl, ?_⟩; have n0_ := Aside0.mk (below_step (by repeat (first | (with_reducible first | exact HB.out | apply below_alloc | apply pw_below_drewN | apply below_drew1) | exact HB.out)) hb); clear HB; have HB := n0_; clear n0_; (try clear hb); (try clear hb2); (try clear hk); (try clear hi)) | ((with_reducible refine gate_callee (f := 7) rfl ?_); refine goesL_ (some 20) rfl rfl Tryd.func7 (by kernel_rfl) rfl #[.int .i64 t116] rfl (by (try simp only [List.map_toArray, List.map_cons, List.map_nil]); first | done | rfl | (simp only [List.length_drop, List.length_take]; rfl)) ?_; (with_reducible refine (bolterlaw14_num.calls t116 t119 _ A6.out).mono ?_); rintro e w' ⟨rfl, ⟨nd, rfl⟩⟩; refine ⟨_, rfl, ?_⟩) | ((with_reducible refine gate_callee (f := 7) rfl ?_); refine goesL_ (some 25) rfl rfl Tryd.func7 (by kernel_rfl) rfl #[.int .i64 t118] rfl (by (try simp only [List.map_toArray, List.map_cons, List.map_nil]); first | done | rfl | (simp only [List.length_drop, List.length_take]; rfl)) ?_; (with_reducible refine (bolterlaw14_num.calls t118 t120 _ A8.out).mono ?_); rintro e w' ⟨rfl, ⟨nd, rfl⟩⟩; refine ⟨_, rfl, ?_⟩))
          go_ret
          exact ⟨by first | rfl | (simp [errW_none, errW_some] <;> rfl) | (simp [*, errW_none, errW_some] <;> rfl), by repeat (first | (with_reducible first | exact HB.out | apply below_alloc | apply pw_below_drewN | apply below_drew1) | exact HB.out)⟩
      · rw [if_neg c9] at H
        have c9b0 : (t120 == 0) = false := beq_eq_false_iff_ne.mpr c9
        have c9b1 : (t120 != 0) = true := bne_iff_ne.mpr c9
        obtain rfl := Option.some.inj H
        go_enter Tryd.func3, Tryd.ntmps3
        go_wp2_with (first | ((with_reducible refine gate_callee (f := 4) rfl ?_); refine goesL_ (some 7) rfl rfl Tryd.func4 (by kernel_rfl) rfl #[] rfl (by (try simp only [List.map_toArray, List.map_cons, List.map_nil]); first | done | rfl | (simp only [List.length_drop, List.length_take]; rfl)) ?_; (with_reducible refine (bolterlaw14_alive.calls  true _ ?side1 A2.out).mono ?_); (case side1 => exact Aside0.mk (GlobG.below (by repeat (first | (with_reducible first | exact HB.out | apply below_alloc | apply pw_below_drewN | apply below_drew1) | exact HB.out)) hG.out)); rintro e w17 ⟨rfl, hb⟩; refine ⟨_, rfl, ?_⟩; have n0_ := Aside0.mk (below_step (by repeat (first | (with_reducible first | exact HB.out | apply below_alloc | apply pw_below_drewN | apply below_drew1) | exact HB.out)) hb); clear HB; have HB := n0_; clear n0_; (try clear hb); (try clear hb2); (try clear hk); (try clear hi)) | ((with_reducible refine gate_callee (f := 5) rfl ?_); refine goesL_ (some 11) rfl rfl Tryd.func5 (by kernel_rfl) rfl #[.string a0] rfl (by (try simp only [List.map_toArray, List.map_cons, List.map_nil]); first | done | rfl | (simp only [List.length_drop, List.length_take]; rfl)) ?_; (with_reducible refine (format_Base64.calls a0 t115 t116 _ ?side1 A4.out).mono ?_); (case side1 => exact Aside0.mk (GlobG.below (by repeat (first | (with_reducible first | exact HB.out | apply below_alloc | apply pw_below_drewN | apply below_drew1) | exact HB.out)) hG.out)); rintro e w18 ⟨rfl, hb⟩; refine ⟨_, rfl, ?_⟩; have n0_ := Aside0.mk (below_step (by repeat (first | (with_reducible first | exact HB.out | apply below_alloc | apply pw_below_drewN | apply below_drew1) | exact HB.out)) hb); clear HB; have HB := n0_; clear n0_; (try clear hb); (try clear hb2); (try clear hk); (try clear hi)) | ((with_reducible refine gate_callee (f := 6) rfl ?_); refine goesL_ (some 16) rfl rfl Tryd.func6 (by kernel_rfl) rfl #[.string t115] rfl (by (try simp only [List.map_toArray, List.map_cons, List.map_nil]); first | done | rfl | (simp only [List.length_drop, List.length_take]; rfl)) ?_; (with_reducible refine (format_Unbase64.calls t115 t117 t118 _ ?side1 A5.out).mono ?_); (case side1 => exact Aside0.mk (GlobG.below (by repeat (first | (with_reducible first | exact HB.out | apply below_alloc | apply pw_below_drewN | apply below_drew1) | exact HB.out)) hG.out)); rintro e w19 ⟨rfl, hb⟩; refine ⟨_, rfl, ?_⟩; have n0_ := Aside0.mk (below_step (by repeat (first | (with_reducible first | exact HB.out | apply below_alloc | apply pw_below_drewN | apply below_drew1) | exact HB.out)) hb); clear HB; have HB := n0_; clear n0_; (try clear hb); (try clear hb2); (try clear hk); (try clear hi)) | ((with_reducible refine gate_callee (f := 7) rfl ?_); refine goesL_ (some 20) rfl rfl Tryd.func7 (by kernel_rfl) rfl #[.int .i64 t116] rfl (by (try simp only [List.map_toArray, List.map_cons, List.map_nil]); first | done | rfl | (simp only [List.length_drop, List.length_take]; rfl)) ?_; (with_reducible refine (bolterlaw14_num.calls t116 t119 _ A6.out).mono ?_); rintro e w' ⟨rfl, ⟨nd, rfl⟩⟩; refine ⟨_, rfl, ?_⟩) | ((with_reducible refine gate_callee (f := 7) rfl ?_); refine goesL_ (some 25) rfl rfl Tryd.func7 (by kernel_rfl) rfl #[.int .i64 t118] rfl (by (try simp only [List.map_toArray, List.map_cons, List.map_nil]); first | done | rfl | (simp only [List.length_drop, List.length_take]; rfl)) ?_; (with_reducible refine (bolterlaw14_num.calls t118 t120 _ A8.out).mono ?_); rintro e w' ⟨rfl, ⟨nd, rfl⟩⟩; refine ⟨_, rfl, ?_⟩))
        go_ret
        exact ⟨by first | rfl | (simp [errW_none, errW_some] <;> rfl) | (simp [*, errW_none, errW_some] <;> rfl), by repeat (first | (with_reducible first | exact HB.out | apply below_alloc | apply pw_below_drewN | apply below_drew1) | exact HB.out)⟩
    · rw [if_neg c7] at H
      have c7b0 : (t119 == 0) = false := beq_eq_false_iff_ne.mpr c7
      have c7b1 : (t119 != 0) = true := bne_iff_ne.mpr c7
      obtain rfl := Option.some.inj H
      go_enter Tryd.func3, Tryd.ntmps3
      go_wp2_with (first | ((with_reducible refine gate_callee (f := 4) rfl ?_); refine goesL_ (some 7) rfl rfl Tryd.func4 (by kernel_rfl) rfl #[] rfl (by (try simp only [List.map_toArray, List.map_cons, List.map_nil]); first | done | rfl | (simp only [List.length_drop, List.length_take]; rfl)) ?_; (with_reducible refine (bolterlaw14_alive.calls  true _ ?side1 A2.out).mono ?_); (case side1 => exact Aside0.mk (GlobG.below (by repeat (first | (with_reducible first | exact HB.out | apply below_alloc | apply pw_below_drewN | apply below_drew1) | exact HB.out)) hG.out)); rintro e w20 ⟨rfl, hb⟩; refine ⟨_, rfl, ?_⟩; have n0_ := Aside0.mk (below_step (by repeat (first | (with_reducible first | exact HB.out | apply below_alloc | apply pw_below_drewN | apply below_drew1) | exact HB.out)) hb); clear HB; have HB := n0_; clear n0_; (try clear hb); (try clear hb2); (try clear hk); (try clear hi)) | ((with_reducible refine gate_callee (f := 5) rfl ?_); refine goesL_ (some 11) rfl rfl Tryd.func5 (by kernel_rfl) rfl #[.string a0] rfl (by (try simp only [List.map_toArray, List.map_cons, List.map_nil]); first | done | rfl | (simp only [List.length_drop, List.length_take]; rfl)) ?_; (with_reducible refine (format_Base64.calls a0 t115 t116 _ ?side1 A4.out).mono ?_); (case side1 => exact Aside0.mk (GlobG.below (by repeat (first | (with_reducible first | exact HB.out | apply below_alloc | apply pw_below_drewN | apply below_drew1) | exact HB.out)) hG.out)); rintro e w21 ⟨rfl, hb⟩; refine ⟨_, rfl, ?_⟩; have n0_ := Aside0.mk (below_step (by repeat (first | (with_reducible first | exact HB.out | apply below_alloc | apply pw_below_drewN | apply below_drew1) | exact HB.out)) hb); clear HB; have HB := n0_; clear n0_; (try clear hb); (try clear hb2); (try clear hk); (try clear hi)) | ((with_reducible refine gate_callee (f := 6) rfl ?_); refine goesL_ (some 16) rfl rfl Tryd.func6 (by kernel_rfl) rfl #[.string t115] rfl (by (try simp only [List.map_toArray, List.map_cons, List.map_nil]); first | done | rfl | (simp only [List.length_drop, List.length_take]; rfl)) ?_; (with_reducible refine (format_Unbase64.calls t115 t117 t118 _ ?side1 A5.out).mono ?_); (case side1 => exact Aside0.mk (GlobG.below (by repeat (first | (with_reducible first | exact HB.out | apply below_alloc | apply pw_below_drewN | apply below_drew1) | exact HB.out)) hG.out)); rintro e w22 ⟨rfl, hb⟩; refine ⟨_, rfl, ?_⟩; have n0_ := Aside0.mk (below_step (by repeat (first | (with_reducible first | exact HB.out | apply below_alloc | apply pw_below_drewN | apply below_drew1) | exact HB.out)) hb); clear HB; have HB := n0_; clear n0_; (try clear hb); (try clear hb2); (try clear hk); (try clear hi)) | ((with_reducible refine gate_callee (f := 7) rfl ?_); refine goesL_ (some 20) rfl rfl Tryd.func7 (by kernel_rfl) rfl #[.int .i64 t116] rfl (by (try simp only [List.map_toArray, List.map_cons, List.map_nil]); first | done | rfl | (simp only [List.length_drop, List.length_take]; rfl)) ?_; (with_reducible refine (bolterlaw14_num.calls t116 t119 _ A6.out).mono ?_); rintro e w' ⟨rfl, ⟨nd, rfl⟩⟩; refine ⟨_, rfl, ?_⟩))
      go_ret
      exact ⟨by first | rfl | (simp [errW_none, errW_some] <;> rfl) | (simp [*, errW_none, errW_some] <;> rfl), by repeat (first | (with_reducible first | exact HB.out | apply below_alloc | apply pw_below_drewN | apply below_drew1) | exact HB.out)⟩
  · replace c3 := Bool.eq_false_iff.mpr c3
    subst c3
    have H1 : (some false) = some r := by rw [if_neg (show ¬ (false = true) by decide)] at H; exact H
    clear H
    have H := H1
    clear H1
    obtain rfl := Option.some.inj H
    go_enter Tryd.func3, Tryd.ntmps3
    go_wp2_with (first | ((with_reducible refine gate_callee (f := 4) rfl ?_); refine goesL_ (some 7) rfl rfl Tryd.func4 (by kernel_rfl) rfl #[] rfl (by (try simp only [List.map_toArray, List.map_cons, List.map_nil]); first | done | rfl | (simp only [List.length_drop, List.length_take]; rfl)) ?_; (with_reducible refine (bolterlaw14_alive.calls  false _ ?side1 A2.out).mono ?_); (case side1 => exact Aside0.mk (GlobG.below (by repeat (first | (with_reducible first | exact HB.out | apply below_alloc | apply pw_below_drewN | apply below_drew1) | exact HB.out)) hG.out)); rintro e w23 ⟨rfl, hb⟩; refine ⟨_, rfl, ?_⟩; have n0_ := Aside0.mk (below_step (by repeat (first | (with_reducible first | exact HB.out | apply below_alloc | apply pw_below_drewN | apply below_drew1) | exact HB.out)) hb); clear HB; have HB := n0_; clear n0_; (try clear hb); (try clear hb2); (try clear hk); (try clear hi)))
    go_ret
    exact ⟨by first | rfl | (simp [errW_none, errW_some] <;> rfl) | (simp [*, errW_none, errW_some] <;> rfl), by repeat (first | (with_reducible first | exact HB.out | apply below_alloc | apply pw_below_drewN | apply below_drew1) | exact HB.out)⟩
/-- THE ONE PURE STATEMENT of bolterlaw14_FormatBack: yours. -/
def bolterlaw14_FormatBack.Pure : Prop := ∀ (a0 : ByteArray), a0.size ≤ 140737488351232 → bolterlaw14_FormatBack.f a0 = some true
end Go.Proofs.YtnbkmaghdbhlnaaDoor.B

end

section
/- FormatBack: 64 digits told and read again give the octets back: plain Lean. -/
set_option linter.unusedVariables false
set_option linter.unusedSimpArgs false
namespace Go.Proofs.YtnbkmaghdbhlnaaDoor.P
open Go.Lib Go.RowKit Go.Proofs.YtnbkmaghdbhlnaaDoor.B Go.Proofs.YtnbkmaghdbhlnaaDoorW.PrintWords

theorem alive_tells : bolterlaw14_alive.f = some true := by decide +kernel
theorem or64 (i x y : Nat) (hx : x % 2 ^ i = 0) (hy : y < 2 ^ i) (hs : x + y < 4611686018427387904) : Go.bits .or .i64 (x : Int) (y : Int) = ((x + y : Nat) : Int) := by
  show IntKind.i64.wrap ((BitVec.ofInt 64 (x : Int) ||| BitVec.ofInt 64 (y : Int)).toNat : Int) = _
  rw [BitVec.toNat_or, ofInt_u64 x (by omega), ofInt_u64 y (by omega), nat_join i x y hx hy, IntKind.wrap_i64]; omega
theorem and63 (n : Nat) (hn : n < 4611686018427387904) : Go.bits .and .i64 (n : Int) 63 = ((n % 64 : Nat) : Int) := by
  show IntKind.i64.wrap ((BitVec.ofInt 64 (n : Int) &&& BitVec.ofInt 64 ((63 : Nat) : Int)).toNat : Int) = _
  rw [BitVec.toNat_and, ofInt_u64 n (by omega), ofInt_u64 63 (by omega), nat_mask6, IntKind.wrap_i64]; omega
def D (n : Nat) : UInt8 := digs64.data.toList.getD n 0
def N3 (a b c : UInt8) : Nat := a.toNat * 65536 + b.toNat * 256 + c.toNat
theorem u8lt (a : UInt8) : a.toNat < 256 := a.toNat_lt
theorem N3_lt (a b c : UInt8) : N3 a b c < 16777216 := by unfold N3; have := u8lt a; have := u8lt b; have := u8lt c; omega
theorem threeI_nat (n : Nat) (hn : n < 16777216) (i : Nat) : threeI (n : Int) i = ((n / 2 ^ (18 - 6 * i) % 64 : Nat) : Int) := by
  unfold threeI
  have e : (n : Int) / 2 ^ (18 - 6 * i) = ((n / 2 ^ (18 - 6 * i) : Nat) : Int) := by simp
  rw [e, and63 _ (Nat.lt_of_le_of_lt (Nat.div_le_self _ _) (by omega))]
theorem three_step (s : ByteArray) (i m : Nat) (c : UInt8) (h : i < s.size) (hb : bt s (i : Int) = c.toNat) (hm : threeN s i = (m : Int)) (hl : m < 16777216) : threeN s (i + 1) = ((m * 256 + c.toNat : Nat) : Int) := by
  have hc := u8lt c
  simp only [threeN]
  rw [if_pos h, hb, hm, w64 (by omega) (by omega), w64 (by omega) (by omega)]
  exact or64 8 (m * 256) c.toNat (by omega) (by omega) (by omega)
theorem three_none (s : ByteArray) (i m : Nat) (h : ¬ i < s.size) (hm : threeN s i = (m : Int)) (hl : m < 16777216) : threeN s (i + 1) = ((m * 256 : Nat) : Int) := by
  simp only [threeN]
  rw [if_neg h, hm, w64 (by omega) (by omega)]; rfl
theorem z8 : (0 : UInt8).toNat = 0 := rfl
theorem sz3 (a b c : UInt8) : (⟨#[a, b, c]⟩ : ByteArray).size = 3 := rfl
theorem sz2 (a b : UInt8) : (⟨#[a, b]⟩ : ByteArray).size = 2 := rfl
theorem sz1 (a : UInt8) : (⟨#[a]⟩ : ByteArray).size = 1 := rfl
theorem N_3 (a b c : UInt8) : threeN ⟨#[a, b, c]⟩ 3 = (N3 a b c : Int) := by
  have h1 := u8lt a; have h2 := u8lt b; have h3 := u8lt c
  have e1 := three_step ⟨#[a, b, c]⟩ 0 0 a (by rw [sz3]; decide) rfl rfl (by omega)
  have e2 := three_step ⟨#[a, b, c]⟩ 1 _ b (by rw [sz3]; decide) rfl e1 (by omega)
  have e3 := three_step ⟨#[a, b, c]⟩ 2 _ c (by rw [sz3]; decide) rfl e2 (by omega)
  rw [e3]; exact congrArg (fun n : Nat => (n : Int)) (by unfold N3; omega)
theorem N_2 (a b : UInt8) : threeN ⟨#[a, b]⟩ 3 = (N3 a b 0 : Int) := by
  have h1 := u8lt a; have h2 := u8lt b
  have e1 := three_step ⟨#[a, b]⟩ 0 0 a (by rw [sz2]; decide) rfl rfl (by omega)
  have e2 := three_step ⟨#[a, b]⟩ 1 _ b (by rw [sz2]; decide) rfl e1 (by omega)
  have e3 := three_none ⟨#[a, b]⟩ 2 _ (by rw [sz2]; decide) e2 (by omega)
  rw [e3]; exact congrArg (fun n : Nat => (n : Int)) (by unfold N3; rw [z8]; omega)
theorem N_1 (a : UInt8) : threeN ⟨#[a]⟩ 3 = (N3 a 0 0 : Int) := by
  have h1 := u8lt a
  have e1 := three_step ⟨#[a]⟩ 0 0 a (by rw [sz1]; decide) rfl rfl (by omega)
  have e2 := three_none ⟨#[a]⟩ 1 _ (by rw [sz1]; decide) e1 (by omega)
  have e3 := three_none ⟨#[a]⟩ 2 _ (by rw [sz1]; decide) e2 (by omega)
  rw [e3]; exact congrArg (fun n : Nat => (n : Int)) (by unfold N3; rw [z8]; omega)
theorem bt_dig (n : Nat) (h : n < 64) : bt digs64 (n : Int) = ((D n).toNat : Int) := by
  have : ∀ m : Fin 64, bt digs64 ((m.1 : Nat) : Int) = ((D m.1).toNat : Int) := by decide +kernel
  exact this ⟨n, h⟩
theorem three_of (s : ByteArray) (N : Nat) (hs : s.size ≤ 3) (hN : threeN s 3 = (N : Int)) (hl : N < 16777216) : format_three.f s = some (strOfNums ((List.range 4).map fun i => if i < s.size + 1 then ((D (N / 2 ^ (18 - 6 * i) % 64)).toNat : Int) else 61)) := by
  unfold format_three.f
  have hI := fun i => threeI_nat N hl i
  rw [hN, if_pos ⟨hs, fun i _ => by rw [hI]; have := Nat.mod_lt (N / 2 ^ (18 - 6 * i)) (show 0 < 64 by decide); omega⟩]
  congr 2
  apply List.map_congr_left
  intro i _
  unfold threeB
  rw [hN, hI]
  split
  · exact bt_dig _ (Nat.mod_lt _ (by decide))
  · rfl
theorem rg4 : List.range 4 = [0, 1, 2, 3] := by decide
theorem three3 (a b c : UInt8) : format_three.f ⟨#[a, b, c]⟩ = some ⟨#[D (N3 a b c / 262144 % 64), D (N3 a b c / 4096 % 64), D (N3 a b c / 64 % 64), D (N3 a b c % 64)]⟩ := by
  rw [three_of _ _ (by rw [sz3]; decide) (N_3 a b c) (N3_lt a b c), rg4]
  simp only [List.map_cons, List.map_nil, show (⟨#[a, b, c]⟩ : ByteArray).size = 3 from rfl, strOfNums]
  simp
theorem three2 (a b : UInt8) : format_three.f ⟨#[a, b]⟩ = some ⟨#[D (N3 a b 0 / 262144 % 64), D (N3 a b 0 / 4096 % 64), D (N3 a b 0 / 64 % 64), 61]⟩ := by
  rw [three_of _ _ (by rw [sz2]; decide) (N_2 a b) (N3_lt a b 0), rg4]
  simp only [List.map_cons, List.map_nil, show (⟨#[a, b]⟩ : ByteArray).size = 2 from rfl, strOfNums]
  simp
theorem three1 (a : UInt8) : format_three.f ⟨#[a]⟩ = some ⟨#[D (N3 a 0 0 / 262144 % 64), D (N3 a 0 0 / 4096 % 64), 61, 61]⟩ := by
  rw [three_of _ _ (by rw [sz1]; decide) (N_1 a) (N3_lt a 0 0), rg4]
  simp only [List.map_cons, List.map_nil, show (⟨#[a]⟩ : ByteArray).size = 1 from rfl, strOfNums]
  simp
abbrev digA : ByteArray := ⟨#[65, 66, 67, 68, 69, 70, 71, 72, 73, 74, 75, 76, 77, 78, 79, 80, 81, 82, 83, 84, 85, 86, 87, 88, 89, 90, 97, 98, 99, 100, 101, 102, 103, 104, 105, 106, 107, 108, 109, 110, 111, 112, 113, 114, 115, 116, 117, 118, 119, 120, 121, 122, 48, 49, 50, 51, 52, 53, 54, 55, 56, 57, 43, 47]⟩
theorem idx (n : Nat) (h : n < 64) : strings_IndexByte.f digA ((D n).toNat : Int) = some (n : Int) := by
  have : ∀ m : Fin 64, strings_IndexByte.f digA ((D m.1).toNat : Int) = some ((m.1 : Nat) : Int) := by decide +kernel
  exact this ⟨n, h⟩
theorem four_step (s : ByteArray) (i m n : Nat) (k : Nat) (hi : i < s.size) (h4 : i < 4) (hn : n < 64) (hb : bt s (i : Int) = ((D n).toNat : Int)) (hm : m < 16777216) : format_four.l0 (k + 1) s (m : Int) (i : Int) = format_four.l0 k s ((m * 64 + n : Nat) : Int) ((i + 1 : Nat) : Int) := by
  conv => lhs; simp only [format_four.l0]
  rw [if_pos (by omega), if_neg (by omega), if_pos (by omega), if_pos (by omega), hb]
  show (strings_IndexByte.f digA ((D n).toNat : Int)).bind _ = _
  rw [idx n hn]
  simp only [Option.bind_some]
  rw [if_neg (by omega), w64 (by omega) (by omega), w64 (by omega) (by omega)]
  have e : (m : Int) * 64 = ((m * 64 : Nat) : Int) := by simp
  rw [e, or64 6 (m * 64) n (by omega) (by omega) (by omega)]
  rfl
theorem four_none (s : ByteArray) (i m : Nat) (k : Nat) (hi : ¬ i < s.size) (h4 : i < 4) (hm : m < 16777216) : format_four.l0 (k + 1) s (m : Int) (i : Int) = format_four.l0 k s ((m * 64 : Nat) : Int) ((i + 1 : Nat) : Int) := by
  conv => lhs; simp only [format_four.l0]
  rw [if_pos (by omega), if_pos (by omega), w64 (by omega) (by omega), w64 (by omega) (by omega)]
  rfl
theorem four_sz (k n : Nat) (hs : k ≤ 4) (hn : k * 6 / 8 = n) : wrap64 (Int.tdiv (wrap64 ((k : Int) * 6)) 8) = (n : Int) := by
  rw [w64 (x := (k : Int) * 6) (by omega) (by omega), Int.tdiv_eq_ediv_of_nonneg (by omega), w64 (by omega) (by omega)]; omega
theorem four_oct (m : Nat) : ([((m : Int) / 65536) % 256, ((m : Int) / 256) % 256, (m : Int) % 256] : List Int) = [((m / 65536 % 256 : Nat) : Int), ((m / 256 % 256 : Nat) : Int), ((m % 256 : Nat) : Int)] := by
  have e1 : ((m : Int) / 65536) % 256 = ((m / 65536 % 256 : Nat) : Int) := by omega
  have e2 : ((m : Int) / 256) % 256 = ((m / 256 % 256 : Nat) : Int) := by omega
  have e3 : (m : Int) % 256 = ((m % 256 : Nat) : Int) := by omega
  rw [e1, e2, e3]
theorem four_end (s : ByteArray) (m n : Nat) (k : Nat) (hs : s.size ≤ 4) (hn : s.size * 6 / 8 = n) : format_four.l0 (k + 1) s (m : Int) 4 = some ((([((m / 65536 % 256 : Nat) : Int), ((m / 256 % 256 : Nat) : Int), ((m % 256 : Nat) : Int)] : List Int)).take n, true) := by
  have e := four_sz s.size n hs hn
  have hn3 : n ≤ 3 := by omega
  simp only [format_four.l0]
  rw [if_neg (by omega)]
  rw [Option.bind_some, e, if_pos (by omega), four_oct]
  have hl : ([((m / 65536 % 256 : Nat) : Int), ((m / 256 % 256 : Nat) : Int), ((m % 256 : Nat) : Int)] : List Int).length = 3 := rfl
  rw [hl, if_pos (by omega), Int.toNat_natCast]
theorem qs (N : Nat) (h : N < 16777216) : ((N / 262144 % 64 * 64 + N / 4096 % 64) * 64 + N / 64 % 64) * 64 + N % 64 = N := by omega
theorem t4 (a b c d : UInt8) : (⟨#[a, b, c, d]⟩ : ByteArray).size = 4 := rfl
theorem N3_a (a b c : UInt8) : N3 a b c / 65536 % 256 = a.toNat ∧ N3 a b c / 256 % 256 = b.toNat ∧ N3 a b c % 256 = c.toNat := by
  unfold N3; have := u8lt a; have := u8lt b; have := u8lt c; omega
theorem four4 (a b c : UInt8) : format_four.f 6 ⟨#[D (N3 a b c / 262144 % 64), D (N3 a b c / 4096 % 64), D (N3 a b c / 64 % 64), D (N3 a b c % 64)]⟩ = some ([(a.toNat : Int), (b.toNat : Int), (c.toNat : Int)], true) := by
  have hN := N3_lt a b c
  obtain ⟨e1, e2, e3⟩ := N3_a a b c
  obtain ⟨N, h⟩ : ∃ N, N3 a b c = N := ⟨_, rfl⟩
  rw [h] at hN e1 e2 e3 ⊢
  have m1 := Nat.mod_lt (N / 262144) (show 0 < 64 by decide)
  have m2 := Nat.mod_lt (N / 4096) (show 0 < 64 by decide)
  have m3 := Nat.mod_lt (N / 64) (show 0 < 64 by decide)
  have m4 := Nat.mod_lt N (show 0 < 64 by decide)
  have := qs N hN
  unfold format_four.f
  have s0 := four_step ⟨#[D (N / 262144 % 64), D (N / 4096 % 64), D (N / 64 % 64), D (N % 64)]⟩ 0 0 (N / 262144 % 64) 5 (by rw [t4]; omega) (by omega) m1 rfl (by omega)
  have s1 := four_step ⟨#[D (N / 262144 % 64), D (N / 4096 % 64), D (N / 64 % 64), D (N % 64)]⟩ 1 (0 * 64 + N / 262144 % 64) (N / 4096 % 64) 4 (by rw [t4]; omega) (by omega) m2 rfl (by omega)
  have s2 := four_step ⟨#[D (N / 262144 % 64), D (N / 4096 % 64), D (N / 64 % 64), D (N % 64)]⟩ 2 ((0 * 64 + N / 262144 % 64) * 64 + N / 4096 % 64) (N / 64 % 64) 3 (by rw [t4]; omega) (by omega) m3 rfl (by omega)
  have s3 := four_step ⟨#[D (N / 262144 % 64), D (N / 4096 % 64), D (N / 64 % 64), D (N % 64)]⟩ 3 (((0 * 64 + N / 262144 % 64) * 64 + N / 4096 % 64) * 64 + N / 64 % 64) (N % 64) 2 (by rw [t4]; omega) (by omega) m4 rfl (by omega)
  refine s0.trans (s1.trans (s2.trans (s3.trans ?_)))
  refine (four_end _ _ 3 1 (by rw [t4]; omega) (by rw [t4])).trans ?_
  rw [show (((0 * 64 + N / 262144 % 64) * 64 + N / 4096 % 64) * 64 + N / 64 % 64) * 64 + N % 64 = N by omega, e1, e2, e3]
  rfl
theorem four3 (a b : UInt8) : format_four.f 6 ⟨#[D (N3 a b 0 / 262144 % 64), D (N3 a b 0 / 4096 % 64), D (N3 a b 0 / 64 % 64)]⟩ = some ([(a.toNat : Int), (b.toNat : Int)], true) := by
  have hN := N3_lt a b 0
  obtain ⟨e1, e2, e3⟩ := N3_a a b 0
  rw [z8] at e3
  obtain ⟨N, h⟩ : ∃ N, N3 a b 0 = N := ⟨_, rfl⟩
  rw [h] at hN e1 e2 e3 ⊢
  have m1 := Nat.mod_lt (N / 262144) (show 0 < 64 by decide)
  have m2 := Nat.mod_lt (N / 4096) (show 0 < 64 by decide)
  have m3 := Nat.mod_lt (N / 64) (show 0 < 64 by decide)
  have := qs N hN
  unfold format_four.f
  have s0 := four_step ⟨#[D (N / 262144 % 64), D (N / 4096 % 64), D (N / 64 % 64)]⟩ 0 0 (N / 262144 % 64) 5 (by rw [sz3]; omega) (by omega) m1 rfl (by omega)
  have s1 := four_step ⟨#[D (N / 262144 % 64), D (N / 4096 % 64), D (N / 64 % 64)]⟩ 1 (0 * 64 + N / 262144 % 64) (N / 4096 % 64) 4 (by rw [sz3]; omega) (by omega) m2 rfl (by omega)
  have s2 := four_step ⟨#[D (N / 262144 % 64), D (N / 4096 % 64), D (N / 64 % 64)]⟩ 2 ((0 * 64 + N / 262144 % 64) * 64 + N / 4096 % 64) (N / 64 % 64) 3 (by rw [sz3]; omega) (by omega) m3 rfl (by omega)
  have s3 := four_none ⟨#[D (N / 262144 % 64), D (N / 4096 % 64), D (N / 64 % 64)]⟩ 3 (((0 * 64 + N / 262144 % 64) * 64 + N / 4096 % 64) * 64 + N / 64 % 64) 2 (by rw [sz3]; omega) (by omega) (by omega)
  refine s0.trans (s1.trans (s2.trans (s3.trans ?_)))
  refine (four_end _ _ 2 1 (by rw [sz3]; omega) (by rw [sz3])).trans ?_
  rw [show (((0 * 64 + N / 262144 % 64) * 64 + N / 4096 % 64) * 64 + N / 64 % 64) * 64 = N by omega, e1, e2]
  rfl
theorem four2 (a : UInt8) : format_four.f 6 ⟨#[D (N3 a 0 0 / 262144 % 64), D (N3 a 0 0 / 4096 % 64)]⟩ = some ([(a.toNat : Int)], true) := by
  have hN := N3_lt a 0 0
  obtain ⟨e1, e2, e3⟩ := N3_a a 0 0
  rw [z8] at e2 e3
  obtain ⟨N, h⟩ : ∃ N, N3 a 0 0 = N := ⟨_, rfl⟩
  rw [h] at hN e1 e2 e3 ⊢
  have m1 := Nat.mod_lt (N / 262144) (show 0 < 64 by decide)
  have m2 := Nat.mod_lt (N / 4096) (show 0 < 64 by decide)
  have := qs N hN
  unfold format_four.f
  have s0 := four_step ⟨#[D (N / 262144 % 64), D (N / 4096 % 64)]⟩ 0 0 (N / 262144 % 64) 5 (by rw [sz2]; omega) (by omega) m1 rfl (by omega)
  have s1 := four_step ⟨#[D (N / 262144 % 64), D (N / 4096 % 64)]⟩ 1 (0 * 64 + N / 262144 % 64) (N / 4096 % 64) 4 (by rw [sz2]; omega) (by omega) m2 rfl (by omega)
  have s2 := four_none ⟨#[D (N / 262144 % 64), D (N / 4096 % 64)]⟩ 2 ((0 * 64 + N / 262144 % 64) * 64 + N / 4096 % 64) 3 (by rw [sz2]; omega) (by omega) (by omega)
  have s3 := four_none ⟨#[D (N / 262144 % 64), D (N / 4096 % 64)]⟩ 3 (((0 * 64 + N / 262144 % 64) * 64 + N / 4096 % 64) * 64) 2 (by rw [sz2]; omega) (by omega) (by omega)
  refine s0.trans (s1.trans (s2.trans (s3.trans ?_)))
  refine (four_end _ _ 1 1 (by rw [sz2]; omega) (by rw [sz2])).trans ?_
  rw [show ((0 * 64 + N / 262144 % 64) * 64 + N / 4096 % 64) * 64 * 64 = N by omega, e1]
  rfl
def E : List UInt8 → List UInt8
  | [] => []
  | [a] => [D (N3 a 0 0 / 262144 % 64), D (N3 a 0 0 / 4096 % 64)]
  | [a, b] => [D (N3 a b 0 / 262144 % 64), D (N3 a b 0 / 4096 % 64), D (N3 a b 0 / 64 % 64)]
  | a :: b :: c :: r => [D (N3 a b c / 262144 % 64), D (N3 a b c / 4096 % 64), D (N3 a b c / 64 % 64), D (N3 a b c % 64)] ++ E r
def pad : List UInt8 → List UInt8
  | [] => []
  | [_] => [61, 61]
  | [_, _] => [61]
  | _ :: _ :: _ :: r => pad r
theorem chunks_cons (m : Nat) (hm : 0 < m) (p r : List UInt8) (hp : p.length = m) : chunksB m ⟨(p ++ r).toArray⟩ = ⟨p.toArray⟩ :: chunksB m ⟨r.toArray⟩ := by
  have hs : (⟨(p ++ r).toArray⟩ : ByteArray).size = p.length + r.length := by rw [size_eq]; simp
  rw [chunksB_step m hm _ (by rw [hs]; omega), hs, Nat.min_eq_left (by omega), extract_eq, extract_eq]
  simp [← hp]
theorem chunks_last (m : Nat) (hm : 0 < m) (p : List UInt8) (h0 : 0 < p.length) (hp : p.length ≤ m) : chunksB m ⟨p.toArray⟩ = [⟨p.toArray⟩] := by
  have hs : (⟨p.toArray⟩ : ByteArray).size = p.length := by rw [size_eq]
  rw [chunksB_step m hm _ (by rw [hs]; omega), hs, Nat.min_eq_right (by omega), extract_eq, extract_eq]
  rw [chunksB_end m _ (by rw [size_eq]; simp)]
  simp
theorem chunks_nil (m : Nat) : chunksB m ⟨([] : List UInt8).toArray⟩ = [] := chunksB_end m _ rfl
theorem mapM_cons' {α β : Type} {f : α → Option β} {x : α} {l : List α} {y : β} {ys : List β} (h : f x = some y) (k : l.mapM f = some ys) : (x :: l).mapM f = some (y :: ys) := by
  rw [List.mapM_cons, h, k]; rfl
theorem enc_tells : ∀ l : List UInt8, ∃ rs, (chunksB 3 ⟨l.toArray⟩).mapM format_three.f = some rs ∧ (∀ r ∈ rs, r.size = 4) ∧ cat4 rs = E l ++ pad l
  | [] => ⟨[], by rw [chunks_nil]; rfl, (fun _ h => by cases h), rfl⟩
  | [a] => ⟨_, by rw [chunks_last 3 (by decide) [a] (by simp) (by simp)]; exact mapM_cons' (three1 a) rfl, fun r h => by rw [List.mem_singleton.1 h]; rfl, rfl⟩
  | [a, b] => ⟨_, by rw [chunks_last 3 (by decide) [a, b] (by simp) (by simp)]; exact mapM_cons' (three2 a b) rfl, fun r h => by rw [List.mem_singleton.1 h]; rfl, rfl⟩
  | a :: b :: c :: r => by
    obtain ⟨rs, h1, h2, h3⟩ := enc_tells r
    refine ⟨_, by rw [show a :: b :: c :: r = [a, b, c] ++ r from rfl, chunks_cons 3 (by decide) [a, b, c] r rfl]; exact mapM_cons' (three3 a b c) h1, fun x hx => ?_, ?_⟩
    · rcases List.mem_cons.1 hx with rfl | hx
      · rfl
      · exact h2 x hx
    · show _ ++ cat4 rs = _
      rw [h3]; rfl
theorem dec_tells : ∀ l : List UInt8, ∃ bs, (chunksB 4 ⟨(E l).toArray⟩).mapM (format_four.f 6) = some bs ∧ (∀ b ∈ bs, b.2 = true ∧ 1 ≤ b.1.length ∧ b.1.length ≤ 3) ∧ flat4 bs = l.map fun b => (b.toNat : Int)
  | [] => ⟨[], by rw [show E [] = [] from rfl, chunks_nil]; rfl, (fun _ h => by cases h), rfl⟩
  | [a] => ⟨_, by rw [chunks_last 4 (by decide) (E [a]) (by simp [E]) (by simp [E])]; exact mapM_cons' (four2 a) rfl, fun r h => by rw [List.mem_singleton.1 h]; simp, rfl⟩
  | [a, b] => ⟨_, by rw [chunks_last 4 (by decide) (E [a, b]) (by simp [E]) (by simp [E])]; exact mapM_cons' (four3 a b) rfl, fun r h => by rw [List.mem_singleton.1 h]; simp, rfl⟩
  | a :: b :: c :: r => by
    obtain ⟨bs, h1, h2, h3⟩ := dec_tells r
    refine ⟨_, by rw [show E (a :: b :: c :: r) = _ ++ E r from rfl, chunks_cons 4 (by decide) _ (E r) rfl]; exact mapM_cons' (four4 a b c) h1, fun x hx => ?_, ?_⟩
    · rcases List.mem_cons.1 hx with rfl | hx
      · simp
      · exact h2 x hx
    · show _ ++ flat4 bs = _
      rw [h3]; rfl
theorem E_mem : ∀ (l : List UInt8) (x : UInt8), x ∈ E l → ∃ n, n < 64 ∧ x = D n
  | [], x, h => by cases h
  | [a], x, h => by
    simp only [E, List.mem_cons, List.not_mem_nil, or_false] at h
    rcases h with rfl | rfl <;> exact ⟨_, Nat.mod_lt _ (by decide), rfl⟩
  | [a, b], x, h => by
    simp only [E, List.mem_cons, List.not_mem_nil, or_false] at h
    rcases h with rfl | rfl | rfl <;> exact ⟨_, Nat.mod_lt _ (by decide), rfl⟩
  | a :: b :: c :: r, x, h => by
    simp only [E, List.mem_append, List.mem_cons, List.not_mem_nil, or_false] at h
    rcases h with (rfl | rfl | rfl | rfl) | h
    · exact ⟨_, Nat.mod_lt _ (by decide), rfl⟩
    · exact ⟨_, Nat.mod_lt _ (by decide), rfl⟩
    · exact ⟨_, Nat.mod_lt _ (by decide), rfl⟩
    · exact ⟨_, Nat.mod_lt _ (by decide), rfl⟩
    · exact E_mem r x h
theorem pad_mem : ∀ (l : List UInt8) (x : UInt8), x ∈ pad l → x = 61
  | [], x, h => by cases h
  | [a], x, h => by simpa [pad] using h
  | [a, b], x, h => by simpa [pad] using h
  | a :: b :: c :: r, x, h => pad_mem r x h
theorem len_all : ∀ l : List UInt8, (E l).length % 4 ≠ 1 ∧ (E l ++ pad l).length = (l.length + 2) / 3 * 4
  | [] => by simp [E, pad]
  | [a] => by simp [E, pad]
  | [a, b] => by simp [E, pad]
  | a :: b :: c :: r => by
    obtain ⟨h1, h2⟩ := len_all r
    simp only [E, pad, List.length_append, List.length_cons, List.length_nil] at h2 ⊢
    omega
theorem D_is (n : Nat) (h : n < 64) : D n ≠ 61 ∧ (D n).toNat < 128 := by
  have : ∀ m : Fin 64, D m.1 ≠ 61 ∧ (D m.1).toNat < 128 := by decide +kernel
  exact this ⟨n, h⟩
theorem trim_E (l : List UInt8) : Lib.trimRightB (E l ++ pad l) 61 = E l := by
  rw [Lib.trimRightB_take (E l ++ pad l) 61 (E l).length (by simp) (fun j b hj hb => ?_) (fun b h0 hb => ?_)]
  · simp
  · rw [List.getElem?_append_right hj] at hb
    exact pad_mem l b (List.mem_of_getElem? hb)
  · rw [List.getElem?_append_left (by omega)] at hb
    obtain ⟨n, hn, rfl⟩ := E_mem l b (List.mem_of_getElem? hb)
    exact (D_is n hn).1
theorem valid_ascii : ∀ l : List UInt8, (∀ x ∈ l, x.toNat < 128) → validD l = true
  | [], _ => rfl
  | b :: r, h => by
    have hb := h b List.mem_cons_self
    have e : encodeRune ((b.toNat : Nat) : Int) = [b] := by
      unfold encodeRune
      rw [encodeRuneZ_one (by omega) (by omega)]; simp
    have hc := Ch.of_enc b.toNat (by omega) (by omega)
    rw [e] at hc
    rw [show b :: r = [b] ++ r from rfl, valid_ch hc]
    exact valid_ascii r (fun x hx => h x (List.mem_cons_of_mem _ hx))
theorem valid_E (l : List UInt8) : validD (E l ++ pad l) = true := valid_ascii _ fun x hx => by
  rcases List.mem_append.1 hx with h | h
  · obtain ⟨n, hn, rfl⟩ := E_mem l x h; exact (D_is n hn).2
  · rw [pad_mem l x h]; decide
theorem mend_runes (s : ByteArray) : ∀ (k i : Nat), s.size ≤ i + k → validD (s.data.toList.drop i) = true → mendOf (runesF s k i) = s.data.toList.drop i
  | k, i, h, hv => by
    by_cases hi : i < s.size
    · obtain ⟨k, rfl⟩ : ∃ k', k = k' + 1 := ⟨k - 1, by omega⟩
      have hp := B.decode_pos s i
      have hne : s.data.toList.drop i ≠ [] := by
        intro h0
        have := congrArg List.length h0
        rw [List.length_drop, ← size_eq] at this
        simp at this; omega
      rw [validD_step _ hne] at hv
      have hd := decodeL_drop s i
      split at hv
      · cases hv
      · rename_i hc
        have he := encode_decode _ hne hc
        rw [hd] at he hc hv
        simp only [runesF, if_pos hi]
        have e : mendOf (((i : Int), (runeAt s i).1) :: runesF s k (i + (runeAt s i).2)) = encodeRune (mendR (runeAt s i).1) ++ mendOf (runesF s k (i + (runeAt s i).2)) := rfl
        rw [e]
        simp only [runeAt, if_neg hc]
        have hm : mendR (((Utf8.decode s i).1 : Nat) : Int) = (((Utf8.decode s i).1 : Nat) : Int) := by unfold mendR; rw [if_neg (by omega)]
        rw [List.drop_drop] at hv
        rw [hm, he, mend_runes s k _ (by omega) hv, ← List.drop_drop, List.take_append_drop]
    · have hne : s.data.toList.drop i = [] := List.drop_eq_nil_of_le (by rw [← size_eq]; omega)
      rw [hne, runesF_end s k i (by omega)]; rfl
theorem mend_tells (s : ByteArray) (hs : s.size ≤ 1000000) (hv : validD s.data.toList = true) : utf_Mend.f (s.data.toList.map fun b => (b.toNat : Int)) = some s := by
  unfold utf_Mend.f
  rw [if_pos (by rw [List.length_map, ← size_eq]; exact hs), str_of_bytes]
  have := mend_runes s s.size 0 (by omega) (by rw [List.drop_zero]; exact hv)
  unfold runesL
  rw [show (⟨s.data.toList.toArray⟩ : ByteArray) = s by simp, this, List.drop_zero]
theorem unbase_nil : format_Unbase64.f ⟨#[]⟩ = some (⟨#[]⟩, 0) := by decide +kernel
theorem base_tells (s : ByteArray) (hz : s.size ≤ 140737488351232) : (∃ e, e ≠ 0 ∧ format_Base64.f s = some (⟨#[]⟩, e)) ∨
    (validD s.data.toList = true ∧ s.size ≤ 16384 ∧ (E s.data.toList ++ pad s.data.toList).length ≤ 16384 ∧ format_Base64.f s = some (⟨(E s.data.toList ++ pad s.data.toList).toArray⟩, 0)) := by
  have hc := check_tells s hz
  have he := checkL_err s
  obtain ⟨⟨c1, c2⟩, hcc⟩ : ∃ c, checkL s = c := ⟨_, rfl⟩
  rw [hcc] at hc he
  simp only at he
  unfold format_Base64.f
  rw [hc]
  simp only [Option.bind_some]
  by_cases h0 : c2 = 0
  · rw [if_pos h0]
    by_cases h1 : s.size ≤ 16384
    · rw [if_pos h1]
      obtain ⟨rs, e1, e2, e3⟩ := enc_tells s.data.toList
      rw [show (⟨s.data.toList.toArray⟩ : ByteArray) = s by simp] at e1
      rw [e1]
      simp only [Option.bind_some]
      rw [if_pos e2, e3]
      unfold format_whole.f
      rw [if_pos rfl]
      have hl : (⟨(E s.data.toList ++ pad s.data.toList).toArray⟩ : ByteArray).size = (E s.data.toList ++ pad s.data.toList).length := by rw [size_eq]
      by_cases h2 : (E s.data.toList ++ pad s.data.toList).length ≤ 16384
      · right
        rw [if_neg (by rw [hl]; omega)]
        refine ⟨?_, h1, h2, rfl⟩
        rw [h0] at he
        unfold errV at he
        split at he
        · assumption
        · cases he
      · left
        rw [if_pos (by rw [hl]; omega)]
        exact ⟨5, by decide, rfl⟩
    · left
      rw [if_neg h1]
      exact ⟨5, by decide, rfl⟩
  · left
    rw [if_neg h0]
    exact ⟨c2, h0, rfl⟩
theorem unbase_tells (s : ByteArray) (hv : validD s.data.toList = true) (h1 : s.size ≤ 16384) (h2 : (E s.data.toList ++ pad s.data.toList).length ≤ 16384) : format_Unbase64.f ⟨(E s.data.toList ++ pad s.data.toList).toArray⟩ = some (s, 0) := by
  have hl : (⟨(E s.data.toList ++ pad s.data.toList).toArray⟩ : ByteArray).size = (E s.data.toList ++ pad s.data.toList).length := by rw [size_eq]
  have hc := check_tells ⟨(E s.data.toList ++ pad s.data.toList).toArray⟩ (by rw [hl]; omega)
  have he := checkL_err ⟨(E s.data.toList ++ pad s.data.toList).toArray⟩
  obtain ⟨⟨c1, c2⟩, hcc⟩ : ∃ c, checkL ⟨(E s.data.toList ++ pad s.data.toList).toArray⟩ = c := ⟨_, rfl⟩
  rw [hcc] at hc he
  simp only at he
  have h0 : c2 = 0 := by rw [he]; unfold errV; rw [if_pos (valid_E _)]
  obtain ⟨bs, e1, e2, e3⟩ := dec_tells s.data.toList
  unfold format_Unbase64.f
  rw [hc]
  simp only [Option.bind_some]
  rw [if_pos h0, trim_E, if_neg (len_all _).1, if_pos (by rw [hl]; omega), e1]
  simp only [Option.bind_some]
  rw [if_pos (fun b hb _ => (e2 b hb).2), if_pos (by rw [List.all_eq_true]; exact fun b hb => (e2 b hb).1), e3, mend_tells s (by omega) hv]
  simp only [Option.bind_some]
  unfold format_whole.f
  rw [if_pos rfl, if_neg (by omega)]
theorem formatBack : bolterlaw14_FormatBack.Pure := by
  intro s hz
  unfold bolterlaw14_FormatBack.f
  rw [alive_tells]
  simp only [Option.bind_some, if_true, bolterlaw14_num.f]
  rcases base_tells s hz with ⟨e, he, hb⟩ | ⟨hv, h1, h2, hb⟩
  · rw [hb]
    simp only [Option.bind_some]
    rw [unbase_nil]
    simp only [Option.bind_some]
    rw [if_neg he, Lib.toList_data]; rfl
  · have hl : (⟨(E s.data.toList ++ pad s.data.toList).toArray⟩ : ByteArray).size = (E s.data.toList ++ pad s.data.toList).length := by rw [size_eq]
    have hq := (len_all s.data.toList).2
    rw [← size_eq] at hq
    rw [hb]
    simp only [Option.bind_some]
    rw [unbase_tells s hv h1 h2]
    simp only [Option.bind_some]
    simp only [if_true]
    rw [hl, hq]
    have : wrap64 ((wrap64 (Int.tdiv (wrap64 ((s.size : Int) + 2)) 3)) * 4) = (((s.size + 2) / 3 * 4 : Nat) : Int) := by
      rw [w64 (x := (s.size : Int) + 2) (by omega) (by omega), Int.tdiv_eq_ediv_of_nonneg (by omega), w64 (x := ((s.size : Int) + 2) / 3) (by omega) (by omega), w64 (by omega) (by omega)]
      omega
    rw [this]; simp
end Go.Proofs.YtnbkmaghdbhlnaaDoor.P

end

section
/- FormatBack: its row and its cards, the first form (printed by wip/tools/rowgen.py). -/
set_option linter.unusedVariables false
set_option linter.unusedSimpArgs false
namespace Go.Proofs.YtnbkmaghdbhlnaaDoor.R.formatBack
open Go.ChangeShapes Go.WideShapes Go.ChangeAt Go.RowKit
open Go.ChangeMaps (open_string shut_string)
theorem reads (os : Os) {H : Type} (enc : TypeId × Value → H) : ∃ places, DataW.whole enc Tryd.prog ((laidWorld os).forCall (fun _ _ => 0) ⟨#[], #[Value.string ByteArray.empty], []⟩).memory Tryd.f3.params.toList Rows.formatBackSpec.vars false (#[Value.string ByteArray.empty] : Array Value).toList 8 = some ([.lit (.string [])], [], places) :=
  ⟨[], by kernel_rfl⟩
set_option maxRecDepth 100000 in
theorem contract (H : Type) (enc : TypeId × Value → H) (W : World) (base : Nat) (args : Array Value) (ds gs : List (DataW H)) (before : List MemPlace)
    (hval : ∀ (j : Nat) t v, Tryd.f3.params[j]? = some t → args[j]? = some v → Value.okWide Tryd.prog W .any base t v)
    (hW : DataW.Whole enc Tryd.prog Tryd.f3.params.toList Rows.formatBackSpec.vars false W args.toList ds gs before) (hk : (DataW.weightsEach Tryd.prog (Tryd.f3.params.toList ++ (OpenSpec.ofChange Rows.formatBackSpec).bare.plain.varTypes Tryd.prog) (ds ++ gs)).all (· ≤ reachBytes) = true) (hL : laidMetH Tryd.prog laidL W) (hsh : W.ShapedOpen Tryd.prog) :
    Calls Tryd.prog 3 args W fun e W' => ∃ v, e = .returned v ∧ Rows.formatBackSpec.post enc Tryd.prog Tryd.f3 false true false false W args v W' := by
  have hG := glob hL hsh
  have hW' := hW
  obtain ⟨p, q, hA0, hV, rfl, hfz, hnd⟩ := hW
  have hA : DataW.TrodAll enc Tryd.prog W 0 (fun _ => true) true Tryd.f3.params.toList args.toList ds p := hA0
  rw [Tryd.params3] at hA hval hk
  obtain ⟨v0, vs0, d0, ds0, p0, q0, hargs, rfl, rfl, h0, r0⟩ := trodAll_cons hA
  obtain ⟨rfl, rfl, rfl⟩ := trodAll_nil r0
  obtain rfl : args = #[v0] := by cases args; simp_all
  obtain ⟨rfl, rfl⟩ := trodVars_none hV
  obtain ⟨a0, rfl, rfl, rfl, y0⟩ := open_string Tryd.underlying9 (hval 0 9 v0 rfl rfl) h0
  have z0 : a0.size ≤ 140737488351232 := by
    have z := sized_string hk (j := 0) (t := 9) rfl rfl
    rw [Array.length_toList] at z
    exact z
  simp only [List.append_nil] at hW'
  clear hA0 hA hk hL
  have hp := P.formatBack a0 z0
  refine (B.bolterlaw14_FormatBack.calls a0 true W ⟨hG⟩ hp).mono fun e W' ⟨he, bel⟩ => ?_
  subst he
  exact ⟨_, rfl, _, _, _, [], _, [], hW', trodAll_mk1 (shut_bool Tryd.underlying4 _), (trodAll_cons_mk (shut_string Tryd.underlying9 y0) trodAll_mk0), rfl, bel.frame _, fun h => by cases h⟩
set_option maxRecDepth 100000 in
theorem lifted (os : Os) (started : os.Started) (H : Type) (enc : TypeId × Value → H) (F : Stop.Interp) :
    ReturnsInHanded {} Tryd.checked os 3 .any ((OpenSpec.ofChange Rows.formatBackSpec).preRow enc Tryd.prog Tryd.f3 Rows.formatBackRow.domain false Rows.formatBackRow.laid) (((OpenSpec.ofChange Rows.formatBackSpec).at F).post enc Tryd.prog Tryd.f3 false true false false) := by
  obtain ⟨places, hx⟩ := reads os enc
  refine returnsInHanded_of_row (C := Tryd.checked) (s := OpenSpec.ofChange Rows.formatBackSpec) own started (by kernel_rfl) Tryd.func3
    (witness_row_at (enc := enc) (C := Tryd.checked) false (laidWorld os) #[Value.string ByteArray.empty] rfl (by kernel_rfl) (by kernel_rfl) (by kernel_rfl)
      (OpenSpec.preRow_of_cond 8 hx (by kernel_rfl) (fun k hk => by cases hk) (by kernel_rfl) (laid_met os _))) ?_
  intro W base args ds gs before hval hW _ _ hk hL hsh _
  exact contract H enc W base args ds gs before hval hW hk hL hsh
theorem said : Rows.FormatBackSaid :=
  OpenClaim.holds_of_cond 3 Tryd.f3 rfl rfl rfl rfl rfl rfl rfl ⟨rfl, rfl, rfl, rfl, rfl⟩ rfl rfl rfl rfl rfl (by kernel_rfl) Tryd.func3 (by kernel_rfl)
    (of_decide_eq_true (by kernel_rfl)) (by unfold Func.isWrapper; first | (rw [if_pos (by decide +kernel)]; kernel_rfl) | (rw [if_neg (by decide +kernel)]; exact ⟨rfl, rfl⟩))
    (fun os started H enc _ F => by rw [OpenClaim.pre_eq_preRow]; exact lifted os started H enc F)
theorem plain (f : FuncId) (fn : Func) (hf : Tryd.pinned.checked.prog.funcNamed "bolter/bolterlaw14.FormatBack" = some f) (hfn : Tryd.pinned.checked.prog.funcs[f]? = some fn) :
    false = Tryd.pinned.checked.prog.looks [] ∧ ∀ (j : Nat) t, fn.params[j]? = some t → Tryd.pinned.checked.prog.wantsStandIn t = false := by
  obtain rfl : f = 3 := Option.some.inj ((show Tryd.prog.funcNamed "bolter/bolterlaw14.FormatBack" = some 3 by kernel_rfl).symm.trans hf) |>.symm
  obtain rfl : fn = Tryd.f3 := (Option.some.inj (Tryd.func3.symm.trans hfn)).symm
  refine ⟨by kernel_rfl, fun j t ht => ?_⟩
  rw [Tryd.params3] at ht
  have hm : t ∈ (#[9] : Array TypeId) := Array.mem_of_getElem? ht
  have hall : ∀ t ∈ [9], Tryd.prog.wantsStandIn t = false := by
    intro t h
    simp only [List.mem_cons, List.mem_nil_iff, or_false] at h
    rcases h with rfl <;> kernel_rfl
  exact hall t (by simpa using hm)
theorem card : Rows.FormatBackCardSaid :=
  Claim7.holds_tied_plain_at .later [] _ _ _ _ said (fun _ h => by cases h) (by kernel_rfl) (fun _ h => by cases h) formatBack_row_tie rfl ⟨rfl, rfl⟩ (by kernel_rfl) rfl plain (by kernel_rfl)
#print axioms card
end Go.Proofs.YtnbkmaghdbhlnaaDoor.R.formatBack

end
