/- TextsEnds: part 3 of 5: the texts HWholes B4 PTell HBld HJoin PSplit B8 B9 HReplace PRepl B5 PStr B6 PFirst of this claim, one behind the other. -/
import Derived.Test.YtdhjdddjgcfhkaaDoorZTextsEnds1
import Derived.WalkKit
import Derived.Lib.Hide
import Derived.Shelf.Abstract
import Derived.Outline
import Derived.Deep.DeepFit
import Derived.Shelf.Strings.BuilderX
import Derived.Shelf.RegionOpenPlain
import Derived.Lib.Strings
import Derived.Lib.Slices
import Derived.Lib.Walk
import Derived.Lib.Builder
import Derived.Lib.AppendStr
import Derived.Lib.UnsafeStr
import Derived.Lib.MakeNoZero
import Derived.Laws.Externs
import Derived.Laws.IdiomCopy
import Derived.Laws.BitsLemmas
import Derived.Shelf.Strings.Builder1
import Derived.Test.YtdhjdddjgcfhkaaDoorProg
import Derived.RangeFuncBox
import Derived.RangeFuncLeaves
import Derived.Lib.SplitLaws
import Derived.Deep.LoopGhost
import Derived.Lib.Repeat
section
/- texts.wholes, and slices.ContainsFunc under it, walked. -/
set_option linter.unusedVariables false
set_option linter.unusedSimpArgs false
namespace Go.Proofs.YtdhjdddjgcfhkaaDoor.B
open Go.RowKit Go.Shelf Go.Proofs.YtdhjdddjgcfhkaaDoorW.PrintWords

def idxOf {α : Type} (p : α → Bool) (l : List α) : Int := match l.findIdx? p with | some i => (i : Int) | none => -1
theorem idxOf_at {α : Type} {p : α → Bool} {l : List α} {k : Nat} {x : α} (hk : l[k]? = some x) (hx : p x = true) (hn : ∀ (j : Nat) y, j < k → l[j]? = some y → p y = false) : idxOf p l = k := by
  have : l.findIdx? p = some k := by
    rw [List.findIdx?_eq_some_iff_getElem]
    obtain ⟨h1, h2⟩ := List.getElem?_eq_some_iff.1 hk
    exact ⟨h1, by rw [h2]; exact hx, fun j hj => by simpa using hn j _ hj (List.getElem?_eq_getElem (by omega))⟩
  unfold idxOf; rw [this]
theorem idxOf_none {α : Type} {p : α → Bool} {l : List α} (hn : ∀ (j : Nat) y, l[j]? = some y → p y = false) : idxOf p l = -1 := by
  have : l.findIdx? p = none := by
    rw [List.findIdx?_eq_none_iff]
    intro x hx
    obtain ⟨j, hj⟩ := List.mem_iff_getElem?.1 hx
    exact hn j x hj
  unfold idxOf; rw [this]
theorem idxOf_any {α : Type} (p : α → Bool) (l : List α) : decide (0 ≤ idxOf p l) = l.any p := by
  unfold idxOf
  cases h : l.findIdx? p with
  | none =>
    rw [List.findIdx?_eq_none_iff] at h
    simp only [show decide ((0 : Int) ≤ -1) = false from rfl]
    symm; rw [List.any_eq_false]; intro x hx; simp [h x hx]
  | some i =>
    rw [List.findIdx?_eq_some_iff_getElem] at h
    obtain ⟨h1, h2, _⟩ := h
    have : l.any p = true := List.any_eq_true.2 ⟨l[i], List.getElem_mem _, h2⟩
    rw [this]; simp
set_option maxHeartbeats 2000000 in
set_option maxRecDepth 100000 in
theorem indexFunc_str (p : ByteArray → Bool) (A0 : Option Addr) (c0 : Nat) (l0 : List ByteArray) (w : World) (hr0 : Kd.C Kd.string w A0 l0.length l0)
    (hf : ∀ (x : ByteArray) (W : World), Below w.heap.size w W → Calls Tryd.prog 77 #[.string x] W fun e W' => e = .returned (.bool (p x)) ∧ Below W.heap.size W W') :
    Calls Tryd.prog 107 #[.slice A0 l0.length c0, .func (.func 77) #[] #[]] w fun e w' => e = .returned (.int .i64 (idxOf p l0)) ∧ Below w.heap.size w w' := by
  have hR : ReadsOf Value.string ByteArray.empty w A0 l0.length l0 := Kd.reads_of_C hr0
  have hm := hR.2.1
  have HR := Lib.hid hR
  have HF := Lib.hid hf
  obtain ⟨n, hn⟩ : ∃ n, l0.length = n := ⟨_, rfl⟩
  rw [hn] at hm
  have HN := Lib.hid hn
  clear hR hf hr0
  rw [hn]
  clear hn
  go_enter Tryd.func107, Tryd.ntmps107
  go_wp2
  go_loopw [8] (fun i wr => ∃ k : Nat, k ≤ n ∧ i = .int .i64 k ∧ (∀ (j : Nat) y, j < k → l0[j]? = some y → p y = false) ∧ Below w.heap.size w wr) (fun i _ => n - (intOf i).toNat)
  case atStart => exact ⟨0, Nat.zero_le _, rfl, fun _ _ h => absurd h (Nat.not_lt_zero _), Below.refl _ _⟩
  case round =>
    obtain ⟨k, hk, rfl, hpre, hb⟩ := hrel
    have HP := Lib.hid hpre; clear hpre
    by_cases hlt : k < n
    · have hlt' : (k : Int) < (n : Int) := by omega
      obtain ⟨ad, had, hc⟩ := HR.out.2.2 (by have := HN.out; omega)
      subst had
      obtain ⟨b, o, rfl⟩ := addr_plain (show w.cell? ad = _ from hc 0 (by have := HN.out; omega))
      obtain ⟨x, hx⟩ : ∃ x, l0.getD k ByteArray.empty = x := ⟨_, rfl⟩
      have hx? : l0[k]? = some x := by
        rw [← hx, List.getD_eq_getElem?_getD, List.getElem?_eq_getElem (by have := HN.out; omega)]; rfl
      have hck : wr.cell? ⟨b, o + k, none⟩ = some (.string x) := by
        have h1 := hc k (by have := HN.out; omega)
        rw [add_at, hx] at h1
        exact pw_cell_below hb h1
      have HX := Lib.hid hx?
      have cF := HF.out x wr hb
      clear hx hx? hc
      cases hp : p x with
      | true =>
        rw [hp] at cF
        have hres := idxOf_at HX.out hp HP.out
        have HRes := Lib.hid hres
        clear hp hres
        go_wp2_with (go_at_call 77; refine cF.mono ?_; rintro e w1 ⟨rfl, hb1⟩)
        go_ret
        exact ⟨by rw [HRes.out]; rfl, hb.trans (hb1.mono hb.size)⟩
      | false =>
        rw [hp] at cF
        have hpre' : ∀ (j : Nat) y, j < k + 1 → l0[j]? = some y → p y = false := fun j y hj hy => by
          rcases Nat.lt_or_ge j k with h | h
          · exact HP.out j y h hy
          · obtain rfl : j = k := by omega
            rw [HX.out] at hy; cases hy; exact hp
        have HP' := Lib.hid hpre'
        clear hp hpre'
        go_wp2_with (go_at_call 77; refine cF.mono ?_; rintro e w1 ⟨rfl, hb1⟩)
        go_roundw
        case rel => exact ⟨k + 1, by omega, by go_num, HP'.out, hb.trans (hb1.mono hb.size)⟩
        case measure => simp [intOf]; omega
    · obtain rfl : k = n := by omega
      have hres : idxOf p l0 = -1 := idxOf_none (fun j y hy => by
        have h1 := (List.getElem?_eq_some_iff.1 hy).1
        exact HP.out j y (by have := HN.out; omega) hy)
      have HRes := Lib.hid hres
      clear hres
      go_wp2
      go_ret
      exact ⟨by rw [HRes.out]; rfl, hb⟩
set_option maxHeartbeats 1000000 in
set_option maxRecDepth 100000 in
theorem containsFunc_str (p : ByteArray → Bool) (A0 : Option Addr) (c0 : Nat) (l0 : List ByteArray) (w : World) (hr0 : Kd.C Kd.string w A0 l0.length l0)
    (hf : ∀ (x : ByteArray) (W : World), Below w.heap.size w W → Calls Tryd.prog 77 #[.string x] W fun e W' => e = .returned (.bool (p x)) ∧ Below W.heap.size W W') :
    Calls Tryd.prog 76 #[.slice A0 l0.length c0, .func (.func 77) #[] #[]] w fun e w' => e = .returned (.bool (l0.any p)) ∧ Below w.heap.size w w' := by
  have cI := indexFunc_str p A0 c0 l0 w hr0 hf
  have ha := idxOf_any p l0
  obtain ⟨i, hi⟩ : ∃ i, idxOf p l0 = i := ⟨_, rfl⟩
  rw [hi] at cI ha
  rw [← ha]
  clear ha hi hf hr0
  go_enter Tryd.func76, Tryd.ntmps76
  go_wp2_with (go_at_call 107; refine cI.mono ?_; rintro e w1 ⟨rfl, hb1⟩)
  go_ret
  exact ⟨rfl, hb1⟩
def texts_wholes.f (l0 : List ByteArray) (a1 : Int) : Option (List ByteArray × Int) :=
  if a1 = 0 then (if l0.any (fun x => decide ((x.size : Int) > 16384)) = true then some ([], 5) else some (l0, 0)) else some ([], a1)
set_option maxHeartbeats 1000000 in
set_option maxRecDepth 100000 in
theorem texts_wholes.calls (P0_ : Nat → Prop) (u9000_ : Value) (l0 : List ByteArray) (a1 : Int) (r1 : List ByteArray) (r2 : Int) (w0 w : World) (hB : Below w0.heap.size w0 w) (ho0 : Kd.R Kd.string 9 w w0.heap.size P0_ u9000_ l0) (h : texts_wholes.f l0 a1 = some (r1, r2)) :
    Calls Tryd.prog 44 #[u9000_, .int .i64 a1] w fun e w' => ∃ v0_ : Value, e = .returned (.tuple #[v0_, .int .i64 r2]) ∧ Kd.R Kd.string 9 w' w0.heap.size (fun k_ => (P0_ k_ ∨ w.heap.size ≤ k_)) v0_ r1 ∧ Below w0.heap.size w0 w' ∧ Kept w w' (fun k_ => P0_ k_) := by
  obtain ⟨A, c, rfl, hc, hr⟩ := Kd.R_reads ho0
  have HO := Lib.hid ho0
  have HBw := Lib.hid hB
  clear ho0 hB
  unfold texts_wholes.f at h
  by_cases h1 : a1 = 0
  · subst h1
    rw [if_pos rfl] at h
    have cC := containsFunc_str (fun x => decide ((x.size : Int) > 16384)) A c l0 w hr (fun x W _ => (texts_long.calls x _ W rfl).mono (fun e W' ⟨he, hd⟩ => ⟨he, hd.below⟩))
    cases hany : l0.any (fun x => decide ((x.size : Int) > 16384)) with
    | true =>
      rw [hany, if_pos rfl] at h
      obtain ⟨rfl, rfl⟩ := Prod.mk.inj (Option.some.inj h)
      rw [hany] at cC
      clear hany h hr
      go_enter Tryd.func44, Tryd.ntmps44
      go_wp2_with (go_at_call 76; refine cC.mono ?_; rintro e w1 ⟨rfl, hb1⟩)
      go_ret2
      exact ⟨_, rfl, Kd.R_nil _ _ _ _ _, HBw.out.trans (hb1.mono HBw.out.size), hb1.size, fun i hi _ => hb1.block i hi⟩
    | false =>
      rw [hany, if_neg (by simp)] at h
      obtain ⟨rfl, rfl⟩ := Prod.mk.inj (Option.some.inj h)
      rw [hany] at cC
      clear hany h hr
      go_enter Tryd.func44, Tryd.ntmps44
      go_wp2_with (go_at_call 76; refine cC.mono ?_; rintro e w1 ⟨rfl, hb1⟩)
      go_ret2
      exact ⟨_, rfl, Kd.R_mono (Kd.R_below HO.out hb1) (fun k hk => .inl hk), HBw.out.trans (hb1.mono HBw.out.size), hb1.size, fun i hi _ => hb1.block i hi⟩
  · rw [if_neg h1] at h
    obtain ⟨rfl, rfl⟩ := Prod.mk.inj (Option.some.inj h)
    have hne : (a1 != 0) = true := by rw [bne_iff_ne]; exact h1
    clear h h1 hr
    go_enter Tryd.func44, Tryd.ntmps44
    go_wp2
    go_ret2
    exact ⟨_, rfl, Kd.R_nil _ _ _ _ _, HBw.out, Nat.le_refl _, fun i hi _ => rfl⟩
end Go.Proofs.YtdhjdddjgcfhkaaDoor.B

end

section
namespace Go.Proofs.YtdhjdddjgcfhkaaDoor.B
open Go.RowKit Go.Proofs.YtdhjdddjgcfhkaaDoorW.PrintWords Go.Proofs.YtdhjdddjgcfhkaaDoorW.PrintLast Go.Proofs.YtdhjdddjgcfhkaaDoorW.PrintMore
attribute [local go_sem] max2_int min2_int max_two min_two max_three min_three max_four min_four   -- for this text's walks alone
set_option linter.unusedVariables false
set_option linter.unusedSimpArgs false

def arith_Cut.f (k : Nat) (a0 : ByteArray) (a1 : ByteArray) : Option (List ByteArray) := if a0.toList = ([] : List UInt8) then (some ([] : List ByteArray)) else ((strings_Split.f k a0 a1).bind fun t115 => (some t115))
theorem arith_Cut.mono : ∀ a0 a1 k, LeO (arith_Cut.f k a0 a1) (arith_Cut.f (k + 1) a0 a1) := by
  intro a0 a1 k
  unfold arith_Cut.f
  repeat' first
      | (with_reducible exact strings_Split.mono _ _ _)
      | (with_reducible exact LeO.refl _)
      | (with_reducible exact LeO.none _)
      | (with_reducible refine LeO.ite ?_ ?_)
      | (with_reducible refine LeO.bind ?_ (fun _ => ?_))
      | exact strings_Split.mono _ _ _
      | exact LeO.none _
      | refine LeO.ite ?_ ?_
      | refine LeO.bind ?_ (fun _ => ?_)
set_option maxHeartbeats 8000000 in
set_option maxRecDepth 100000 in
theorem arith_Cut.calls (k : Nat) (a0 : ByteArray) (a1 : ByteArray) (r : List ByteArray) (w : World) (hG : Aside0 (GlobG w)) (h : arith_Cut.f k a0 a1 = some r) :
    Calls Tryd.prog 45 #[.string a0, .string a1] w fun e w' => ∃ v0_ : Value, e = .returned (v0_) ∧ Kd.R Kd.string 9 w' w.heap.size (fun _ => True) v0_ r ∧ Below w.heap.size w w' := by
  have HB := Aside0.mk (Below.refl w.heap.size w)
  have H : (if a0.toList = ([] : List UInt8) then (some ([] : List ByteArray)) else ((strings_Split.f k a0 a1).bind fun t115 => (some t115))) = some r := h
  clear h
  by_cases c3 : a0.toList = ([] : List UInt8)
  · rw [if_pos c3] at H
    have c3b0 : (a0.toList == ([] : List UInt8)) = true := beq_iff_eq.mpr c3
    have c3b1 : (a0.toList != ([] : List UInt8)) = false := bne_eq_false_iff_eq.mpr c3
    clear c3
    obtain rfl := Option.some.inj H
    go_enter Tryd.func45, Tryd.ntmps45
    go_wp2
    go_ret
    exact ⟨_, by first | rfl | (simp [errW_none, errW_some] <;> rfl) | (simp [*, errW_none, errW_some] <;> rfl), by first | exact Kd.R_nil _ _ _ _ _ | exact Kd.N_nil _ _ _ _ _ | exact Kd.V_nil _ _ _ _ _ | exact Kd.Q_nil _ _ _ _ _ | exact Kd.S_nil _ _ _ _ _, by repeat (first | (with_reducible first | exact HB.out | apply below_alloc | apply pw_below_drewN | apply below_drew1) | exact HB.out)⟩
  · rw [if_neg c3] at H
    have c3b0 : (a0.toList == ([] : List UInt8)) = false := beq_eq_false_iff_ne.mpr c3
    have c3b1 : (a0.toList != ([] : List UInt8)) = true := bne_iff_ne.mpr c3
    replace H := Option.bind_eq_some_iff.mp H
    obtain ⟨t115, A40, H⟩ := H
    replace H : (some t115) = some r := H
    have A4 := Aside0.mk A40
    clear A40
    obtain rfl := Option.some.inj H
    go_enter Tryd.func45, Tryd.ntmps45
    go_wp2_with (first | ((with_reducible refine gate_callee (f := 78) rfl ?_); refine goesL_ (some 9) rfl rfl Tryd.func78 (by kernel_rfl) rfl #[.string a0, .string a1] rfl (by (try simp only [List.map_toArray, List.map_cons, List.map_nil]); first | done | rfl | (simp only [List.length_drop, List.length_take]; rfl)) ?_; (with_reducible refine (strings_Split.calls k a0 a1 t115 _ ?side1 A4.out).mono ?_); (case side1 => exact Aside0.mk (GlobG.below (by repeat (first | (with_reducible first | exact HB.out | apply below_alloc | apply pw_below_drewN | apply below_drew1) | exact HB.out)) hG.out)); rintro e w5 ⟨v116, rfl, ho0, hb⟩; refine ⟨_, rfl, ?_⟩; have n0_ := Aside0.mk (Kd.R_lower ho0 (below_size (by repeat (first | (with_reducible first | exact HB.out | apply below_alloc | apply pw_below_drewN | apply below_drew1) | exact HB.out)))); have n1_ := Aside0.mk (below_step (by repeat (first | (with_reducible first | exact HB.out | apply below_alloc | apply pw_below_drewN | apply below_drew1) | exact HB.out)) hb); clear HB; have HO117 := n0_; have HB := n1_; clear n0_ n1_; (try clear hb); (try clear hb2); (try clear hk); (try clear hi); (try clear ho0)))
    go_ret
    exact ⟨_, by first | rfl | (simp [errW_none, errW_some] <;> rfl) | (simp [*, errW_none, errW_some] <;> rfl), by (with_reducible repeat (first | apply Kd.R_alloc | apply Kd.R_drewN | apply Kd.R_drew)); exact HO117.out, by repeat (first | (with_reducible first | exact HB.out | apply below_alloc | apply pw_below_drewN | apply below_drew1) | exact HB.out)⟩
def texts_Split.f (k : Nat) (a0 : ByteArray) (a1 : ByteArray) : Option (List ByteArray × Int) := (texts_Checks.f k (([a0, a1] : List ByteArray))).bind fun t121 => (if t121 = 0 then ((arith_Cut.f k a0 a1).bind fun t122 => ((texts_wholes.f t122 0).bind fun bt125 => (some (bt125.1, bt125.2)))) else (some (([] : List ByteArray), t121)))
theorem texts_Split.mono : ∀ a0 a1 k, LeO (texts_Split.f k a0 a1) (texts_Split.f (k + 1) a0 a1) := by
  intro a0 a1 k
  unfold texts_Split.f
  repeat' first
      | (with_reducible exact arith_Cut.mono _ _ _)
      | (with_reducible exact texts_Checks.mono _ _)
      | (with_reducible exact LeO.refl _)
      | (with_reducible exact LeO.none _)
      | (with_reducible refine LeO.ite ?_ ?_)
      | (with_reducible refine LeO.bind ?_ (fun _ => ?_))
      | exact arith_Cut.mono _ _ _
      | exact texts_Checks.mono _ _
      | exact LeO.none _
      | refine LeO.ite ?_ ?_
      | refine LeO.bind ?_ (fun _ => ?_)
set_option maxHeartbeats 8000000 in
set_option maxRecDepth 100000 in
theorem texts_Split.calls (k : Nat) (a0 : ByteArray) (a1 : ByteArray) (r1 : List ByteArray) (r2 : Int) (w : World) (hG : Aside0 (GlobG w)) (h : texts_Split.f k a0 a1 = some (r1, r2)) :
    Calls Tryd.prog 14 #[.string a0, .string a1] w fun e w' => ∃ v0_ : Value, e = .returned (.tuple #[v0_, .int .i64 r2]) ∧ Kd.R Kd.string 9 w' w.heap.size (fun _ => True) v0_ r1 ∧ Below w.heap.size w w' := by
  have HB := Aside0.mk (Below.refl w.heap.size w)
  have H : ((texts_Checks.f k (([a0, a1] : List ByteArray))).bind fun t121 => (if t121 = 0 then ((arith_Cut.f k a0 a1).bind fun t122 => ((texts_wholes.f t122 0).bind fun bt125 => (some (bt125.1, bt125.2)))) else (some (([] : List ByteArray), t121)))) = some (r1, r2) := h
  clear h
  obtain ⟨y118, hy118⟩ : ∃ y_ : List ByteArray, y_ = (([a0, a1] : List ByteArray)) := ⟨_, rfl⟩
  replace H : ((texts_Checks.f k y118).bind fun t121 => (if t121 = 0 then ((arith_Cut.f k a0 a1).bind fun t122 => ((texts_wholes.f t122 0).bind fun bt125 => (some (bt125.1, bt125.2)))) else (some (([] : List ByteArray), t121)))) = some (r1, r2) := by first | (rw [hy118]; with_reducible exact H) | (have H2_ := (Option.bind_some _ _).symm.trans H; rw [hy118]; with_reducible exact H2_) | (have H2_ := (Option.bind_some _ _).symm.trans H; with_reducible exact H2_) | with_reducible exact H | (rw [hy118]; exact H) | exact H
  have Ny118 := Aside0.mk hy118
  clear hy118
  replace H := Option.bind_eq_some_iff.mp H
  obtain ⟨t121, A30, H⟩ := H
  replace H : (if t121 = 0 then ((arith_Cut.f k a0 a1).bind fun t122 => ((texts_wholes.f t122 0).bind fun bt125 => (some (bt125.1, bt125.2)))) else (some (([] : List ByteArray), t121))) = some (r1, r2) := H
  have A3 := Aside0.mk A30
  clear A30
  by_cases c4 : t121 = 0
  · rw [if_pos c4] at H
    have c4b0 : (t121 == 0) = true := beq_iff_eq.mpr c4
    have c4b1 : (t121 != 0) = false := bne_eq_false_iff_eq.mpr c4
    clear c4
    replace H := Option.bind_eq_some_iff.mp H
    obtain ⟨t122, A50, H⟩ := H
    replace H : ((texts_wholes.f t122 0).bind fun bt125 => (some (bt125.1, bt125.2))) = some (r1, r2) := H
    have A5 := Aside0.mk A50
    clear A50
    replace H := Option.bind_eq_some_iff.mp H
    obtain ⟨⟨t125, t128⟩, A60, H⟩ := H
    replace H : (some (t125, t128)) = some (r1, r2) := H
    have A6 := Aside0.mk A60
    clear A60
    simp only [Option.some.injEq, Prod.mk.injEq] at H
    obtain ⟨rfl, rfl⟩ := H
    go_enter Tryd.func14, Tryd.ntmps14
    go_wp2_with (first | ((with_reducible refine gate_dst (N := 9) rfl ?_); refine Kd.R_lit Kd.string _ 9 ?hg (N := 9) ?hd (xs := ([a0, a1] : List ByteArray)) (inner := [.string a0, .string a1]) (ok := fun _ => True) (okp := fun _ => True) ?hr ?hp (fun _ hk => hk) trivial (Below.refl _ _) (Nat.le_refl _) (by simp) ?_; (case hd => rfl); (case hg => rfl); (case hr => first | (go_simp; done) | (go_simp; rfl)); (case hp => exact (Reps.one (show Kd.M Kd.string _ _ _ a0 [.string a0] from rfl) (Reps.one (show Kd.M Kd.string _ _ _ a1 [.string a1] from rfl) (Reps.none _ _)))); intro v119 w7 ho8 hb hg_ hnew_; clear hg_ hnew_; (first | rw [← Ny118.out] at ho8 | (simp only [Int.reduceToNat] at ho8; rw [← Ny118.out] at ho8)); have n0_ := Aside0.mk (Kd.R_lower ho8 (below_size (by repeat (first | (with_reducible first | exact HB.out | apply below_alloc | apply pw_below_drewN | apply below_drew1) | exact HB.out)))); have n1_ := Aside0.mk (below_step (by repeat (first | (with_reducible first | exact HB.out | apply below_alloc | apply pw_below_drewN | apply below_drew1) | exact HB.out)) hb); clear HB; have HO120 := n0_; have HB := n1_; clear n0_ n1_; clear hb ho8; obtain ⟨Ao9, co9, eo9⟩ := Kd.R_slice HO120.out; subst eo9) | ((with_reducible refine gate_callee (f := 43) rfl ?_); refine goesL_ (some 10) rfl rfl Tryd.func43 (by kernel_rfl) rfl #[.slice Ao9 y118.length co9] rfl (by (try simp only [List.map_toArray, List.map_cons, List.map_nil]); first | done | rfl | (simp only [List.length_drop, List.length_take]; rfl)) ?_; (with_reducible refine (texts_Checks.calls k _ _ y118 t121 _ ?side1 ?side2 ?side3 A3.out).mono ?_); (case side1 => repeat (first | exact (Kd.R_reads' HO120.out).2.2 | (with_reducible refine Kd.C_alloc ?_ _) | (with_reducible refine Kd.C_drewN ?_ _) | (with_reducible refine Kd.C_drew ?_))); (case side2 => exact (Kd.R_reads' HO120.out).2.1); (case side3 => exact Aside0.mk (GlobG.below (by repeat (first | (with_reducible first | exact HB.out | apply below_alloc | apply pw_below_drewN | apply below_drew1) | exact HB.out)) hG.out)); rintro e w10 ⟨rfl, hb⟩; refine ⟨_, rfl, ?_⟩; have n0_ := Aside0.mk (Kd.R_below (by (with_reducible repeat (first | apply Kd.R_alloc | apply Kd.R_drewN | apply Kd.R_drew)); exact HO120.out) hb); have n1_ := Aside0.mk (below_step (by repeat (first | (with_reducible first | exact HB.out | apply below_alloc | apply pw_below_drewN | apply below_drew1) | exact HB.out)) hb); clear HO120; clear HB; have HO120 := n0_; have HB := n1_; clear n0_ n1_; (try clear hb); (try clear hb2); (try clear hk); (try clear hi)) | ((with_reducible refine gate_callee (f := 45) rfl ?_); refine goesL_ (some 16) rfl rfl Tryd.func45 (by kernel_rfl) rfl #[.string a0, .string a1] rfl (by (try simp only [List.map_toArray, List.map_cons, List.map_nil]); first | done | rfl | (simp only [List.length_drop, List.length_take]; rfl)) ?_; (with_reducible refine (arith_Cut.calls k a0 a1 t122 _ ?side1 A5.out).mono ?_); (case side1 => exact Aside0.mk (GlobG.below (by repeat (first | (with_reducible first | exact HB.out | apply below_alloc | apply pw_below_drewN | apply below_drew1) | exact HB.out)) hG.out)); rintro e w11 ⟨v123, rfl, ho0, hb⟩; refine ⟨_, rfl, ?_⟩; have n0_ := Aside0.mk (Kd.R_elder' (by (with_reducible repeat (first | apply Kd.R_alloc | apply Kd.R_drewN | apply Kd.R_drew)); exact HO120.out) (Kd.R_base ho0) hb); have n1_ := Aside0.mk (Kd.R_lower (Kd.R_new' ho0 (Kd.R_lt (by (with_reducible repeat (first | apply Kd.R_alloc | apply Kd.R_drewN | apply Kd.R_drew)); exact HO120.out))) (below_size (by repeat (first | (with_reducible first | exact HB.out | apply below_alloc | apply pw_below_drewN | apply below_drew1) | exact HB.out)))); have n2_ := Aside0.mk (below_step (by repeat (first | (with_reducible first | exact HB.out | apply below_alloc | apply pw_below_drewN | apply below_drew1) | exact HB.out)) hb); clear HO120; clear HB; have HO120 := n0_; have HO124 := n1_; have HB := n2_; clear n0_ n1_ n2_; (try clear hb); (try clear hb2); (try clear hk); (try clear hi); (try clear ho0); obtain ⟨Ao12, co12, eo12⟩ := Kd.R_slice HO124.out; subst eo12) | ((with_reducible refine gate_callee (f := 44) rfl ?_); refine goesL_ (some 17) rfl rfl Tryd.func44 (by kernel_rfl) rfl #[.slice Ao12 t122.length co12, .int .i64 0] rfl (by (try simp only [List.map_toArray, List.map_cons, List.map_nil]); first | done | rfl | (simp only [List.length_drop, List.length_take]; rfl)) ?_; (with_reducible refine (texts_wholes.calls (fun k_ => some k_ = (.slice Ao12 t122.length co12 : Value).ownBlock) (.slice Ao12 t122.length co12) t122 0 t125 t128 w _ ?side1 ?side2 A6.out).mono ?_); (case side1 => repeat (first | (with_reducible first | exact HB.out | apply below_alloc | apply pw_below_drewN | apply below_drew1) | exact HB.out)); (case side2 => exact Kd.R_tight rfl HO124.out); rintro e w13 ⟨v126, rfl, ho0, hb, hkp⟩; refine ⟨_, rfl, ?_⟩; have n0_ := Aside0.mk (Kd.R_mono (ok' := fun k_ => some k_ ≠ (v126 : Value).ownBlock) (Kd.R_keptB (HO120.out) hkp (fun k_ hk_ hs_ => (hk_.2) hs_)) (fun k_ hk_ => fun e_ => Or.elim (ho0.1 k_ e_.symm) (fun hs_ => hk_.2.1 hs_) (fun hn_ => Nat.not_le.2 hk_.2.2 hn_))); have n1_ := Aside0.mk (Kd.R_mono (ok' := fun k_ => some k_ ≠ (.slice Ao9 y118.length co9 : Value).ownBlock) ho0 (fun k_ hk_ => Or.elim hk_ (fun hs_ => fun e_ => (((HO120.out).1 k_ e_.symm).2) hs_) (fun hn_ => (Kd.fresh' (Kd.R_lt (by (with_reducible repeat (first | apply Kd.R_alloc | apply Kd.R_drewN | apply Kd.R_drew)); exact HO120.out)) k_ hn_)))); have n2_ := Aside0.mk (hb); clear HO120; clear HB; clear HO124; have HO120 := n0_; have HO127 := n1_; have HB := n2_; clear n0_ n1_ n2_; (try clear hb); (try clear hkp); (try clear ho0)))
    go_ret2
    exact ⟨_, by first | rfl | (simp [errW_none, errW_some] <;> rfl) | (simp [*, errW_none, errW_some] <;> rfl), by (with_reducible repeat (first | apply Kd.R_alloc | apply Kd.R_drewN | apply Kd.R_drew)); exact Kd.R_mono HO127.out (fun _ hk => trivial), by repeat (first | (with_reducible first | exact HB.out | apply below_alloc | apply pw_below_drewN | apply below_drew1) | exact HB.out)⟩
  · rw [if_neg c4] at H
    have c4b0 : (t121 == 0) = false := beq_eq_false_iff_ne.mpr c4
    have c4b1 : (t121 != 0) = true := bne_iff_ne.mpr c4
    simp only [Option.some.injEq, Prod.mk.injEq] at H
    obtain ⟨rfl, rfl⟩ := H
    go_enter Tryd.func14, Tryd.ntmps14
    go_wp2_with (first | ((with_reducible refine gate_dst (N := 9) rfl ?_); refine Kd.R_lit Kd.string _ 9 ?hg (N := 9) ?hd (xs := ([a0, a1] : List ByteArray)) (inner := [.string a0, .string a1]) (ok := fun _ => True) (okp := fun _ => True) ?hr ?hp (fun _ hk => hk) trivial (Below.refl _ _) (Nat.le_refl _) (by simp) ?_; (case hd => rfl); (case hg => rfl); (case hr => first | (go_simp; done) | (go_simp; rfl)); (case hp => exact (Reps.one (show Kd.M Kd.string _ _ _ a0 [.string a0] from rfl) (Reps.one (show Kd.M Kd.string _ _ _ a1 [.string a1] from rfl) (Reps.none _ _)))); intro v119 w14 ho15 hb hg_ hnew_; clear hg_ hnew_; (first | rw [← Ny118.out] at ho15 | (simp only [Int.reduceToNat] at ho15; rw [← Ny118.out] at ho15)); have n0_ := Aside0.mk (Kd.R_lower ho15 (below_size (by repeat (first | (with_reducible first | exact HB.out | apply below_alloc | apply pw_below_drewN | apply below_drew1) | exact HB.out)))); have n1_ := Aside0.mk (below_step (by repeat (first | (with_reducible first | exact HB.out | apply below_alloc | apply pw_below_drewN | apply below_drew1) | exact HB.out)) hb); clear HB; have HO120 := n0_; have HB := n1_; clear n0_ n1_; clear hb ho15; obtain ⟨Ao16, co16, eo16⟩ := Kd.R_slice HO120.out; subst eo16) | ((with_reducible refine gate_callee (f := 43) rfl ?_); refine goesL_ (some 10) rfl rfl Tryd.func43 (by kernel_rfl) rfl #[.slice Ao16 y118.length co16] rfl (by (try simp only [List.map_toArray, List.map_cons, List.map_nil]); first | done | rfl | (simp only [List.length_drop, List.length_take]; rfl)) ?_; (with_reducible refine (texts_Checks.calls k _ _ y118 t121 _ ?side1 ?side2 ?side3 A3.out).mono ?_); (case side1 => repeat (first | exact (Kd.R_reads' HO120.out).2.2 | (with_reducible refine Kd.C_alloc ?_ _) | (with_reducible refine Kd.C_drewN ?_ _) | (with_reducible refine Kd.C_drew ?_))); (case side2 => exact (Kd.R_reads' HO120.out).2.1); (case side3 => exact Aside0.mk (GlobG.below (by repeat (first | (with_reducible first | exact HB.out | apply below_alloc | apply pw_below_drewN | apply below_drew1) | exact HB.out)) hG.out)); rintro e w17 ⟨rfl, hb⟩; refine ⟨_, rfl, ?_⟩; have n0_ := Aside0.mk (Kd.R_below (by (with_reducible repeat (first | apply Kd.R_alloc | apply Kd.R_drewN | apply Kd.R_drew)); exact HO120.out) hb); have n1_ := Aside0.mk (below_step (by repeat (first | (with_reducible first | exact HB.out | apply below_alloc | apply pw_below_drewN | apply below_drew1) | exact HB.out)) hb); clear HO120; clear HB; have HO120 := n0_; have HB := n1_; clear n0_ n1_; (try clear hb); (try clear hb2); (try clear hk); (try clear hi)))
    go_ret2
    exact ⟨_, by first | rfl | (simp [errW_none, errW_some] <;> rfl) | (simp [*, errW_none, errW_some] <;> rfl), by first | exact Kd.R_nil _ _ _ _ _ | exact Kd.N_nil _ _ _ _ _ | exact Kd.V_nil _ _ _ _ _ | exact Kd.Q_nil _ _ _ _ _ | exact Kd.S_nil _ _ _ _ _, by repeat (first | (with_reducible first | exact HB.out | apply below_alloc | apply pw_below_drewN | apply below_drew1) | exact HB.out)⟩
def bolterplain_SameStrings.l0 : Nat → List ByteArray → List ByteArray → Int → Option (Bool)
  | 0, _, _, _ => none
  | k + 1, x0, x1, x5 => if x5 < (x0.length : Int) then (if 0 ≤ x5 then (if x5 < (x1.length : Int) then (if (rdOf ByteArray.empty x0 x5).toList = (rdOf ByteArray.empty x1 x5).toList then (bolterplain_SameStrings.l0 k x0 x1 (wrap64 (x5 + 1))) else (some false)) else (none)) else (none)) else (some true)
def bolterplain_SameStrings.f (k : Nat) (l0 : List ByteArray) (l1 : List ByteArray) : Option (Bool) := if (l0.length : Int) = (l1.length : Int) then (bolterplain_SameStrings.l0 k l0 l1 0) else (some false)
theorem bolterplain_SameStrings.mono_l : ∀ k, (∀ y0 y1 y2, LeO (bolterplain_SameStrings.l0 k y0 y1 y2) (bolterplain_SameStrings.l0 (k + 1) y0 y1 y2))
  | 0 => fun _ _ _ r h => by simp [bolterplain_SameStrings.l0] at h
  | k + 1 => by
    have ih0 := bolterplain_SameStrings.mono_l k
    · intro y0 y1 y2
      unfold bolterplain_SameStrings.l0
      repeat' first
      | (with_reducible exact ih0 _ _ _)
      | (with_reducible exact LeO.refl _)
      | (with_reducible exact LeO.none _)
      | (with_reducible refine LeO.ite ?_ ?_)
      | (with_reducible refine LeO.bind ?_ (fun _ => ?_))
      | exact ih0 _ _ _
      | exact LeO.none _
      | refine LeO.ite ?_ ?_
      | refine LeO.bind ?_ (fun _ => ?_)
theorem bolterplain_SameStrings.mono : ∀ a0 a1 k, LeO (bolterplain_SameStrings.f k a0 a1) (bolterplain_SameStrings.f (k + 1) a0 a1) := by
  intro a0 a1 k
  have ih0 := bolterplain_SameStrings.mono_l k
  unfold bolterplain_SameStrings.f
  repeat' first
      | (with_reducible exact ih0 _ _ _)
      | (with_reducible exact LeO.refl _)
      | (with_reducible exact LeO.none _)
      | (with_reducible refine LeO.ite ?_ ?_)
      | (with_reducible refine LeO.bind ?_ (fun _ => ?_))
      | exact ih0 _ _ _
      | exact LeO.none _
      | refine LeO.ite ?_ ?_
      | refine LeO.bind ?_ (fun _ => ?_)
set_option maxHeartbeats 8000000 in
set_option maxRecDepth 100000 in
theorem bolterplain_SameStrings.calls (k : Nat) (A0 : Option Addr) (c0 : Nat) (l0 : List ByteArray) (A1 : Option Addr) (c1 : Nat) (l1 : List ByteArray) (r : Bool) (w : World) (hr0 : Kd.C Kd.string w A0 l0.length l0) (hc0 : l0.length ≤ c0) (hr1 : Kd.C Kd.string w A1 l1.length l1) (hc1 : l1.length ≤ c1) (h : bolterplain_SameStrings.f k l0 l1 = some r) :
    Calls Tryd.prog 31 #[.slice A0 l0.length c0, .slice A1 l1.length c1] w fun e w' => e = .returned (.bool r) ∧ Drawn0 w w' := by
  have HR0 := Aside0.mk hr0
  have HC0 := Aside0.mk hc0
  clear hr0 hc0
  have HR1 := Aside0.mk hr1
  have HC1 := Aside0.mk hc1
  clear hr1 hc1
  have H : (if (l0.length : Int) = (l1.length : Int) then (bolterplain_SameStrings.l0 k l0 l1 0) else (some false)) = some r := h
  clear h
  by_cases c3 : (l0.length : Int) = (l1.length : Int)
  · rw [if_pos c3] at H
    have c3b0 : ((l0.length : Int) == (l1.length : Int)) = true := beq_iff_eq.mpr c3
    have c3b1 : ((l0.length : Int) != (l1.length : Int)) = false := bne_eq_false_iff_eq.mpr c3
    have c3b2 : (l0.length == l1.length) = true := by first | simpa using c3 | (simp at c3 ⊢; omega)
    clear c3
    have H' := Aside0.mk H
    clear H
    go_enter Tryd.func31, Tryd.ntmps31
    go_wp2
    repeat (go_quiet (fail); try go_wp2)
    go_loopg [5] k (fun kq v5 w' => ∃ (x5_1 : Int), v5 = .int .i64 x5_1 ∧ Aside0 (bolterplain_SameStrings.l0 kq l0 l1 x5_1 = some r) ∧ Aside0 (kq ≤ k) ∧ Drawn0 w w')
    case atStart => exact ⟨(0), (by first | rfl | (simp; done) | (simp [*]; done)), H', ⟨Nat.le_refl _⟩, by repeat (first | exact Drawn0.refl _ | apply Drawn0.step)⟩
    case round =>
      clear H'
      try clear c1
      try clear p2
      try clear c3
      try clear c3b0
      try clear c3b1
      try clear c3b2
      obtain ⟨x5_1, rfl, HA, HK1, ⟨m1, rfl⟩⟩ := hrel
      cases gk with
      | zero => exact absurd HA.out (by simp [bolterplain_SameStrings.l0])
      | succ k1 =>
        have H := HA.out
        clear HA
        simp only [bolterplain_SameStrings.l0] at H
        by_cases c4 : x5_1 < (l0.length : Int)
        · rw [if_pos c4] at H
          have c4b0 : decide (x5_1 < (l0.length : Int)) = true := decide_eq_true c4
          clear c4
          by_cases c5 : 0 ≤ x5_1
          · rw [if_pos c5] at H
            have c5b0 : decide (0 ≤ x5_1) = true := decide_eq_true c5
            clear c5
            by_cases c6 : x5_1 < (l1.length : Int)
            · rw [if_pos c6] at H
              have c6b0 : decide (x5_1 < (l1.length : Int)) = true := decide_eq_true c6
              clear c6
              by_cases c7 : (rdOf ByteArray.empty l0 x5_1).toList = (rdOf ByteArray.empty l1 x5_1).toList
              · rw [if_pos c7] at H
                have c7b0 : ((rdOf ByteArray.empty l0 x5_1).toList == (rdOf ByteArray.empty l1 x5_1).toList) = true := beq_iff_eq.mpr c7
                have c7b1 : ((rdOf ByteArray.empty l0 x5_1).toList != (rdOf ByteArray.empty l1 x5_1).toList) = false := bne_eq_false_iff_eq.mpr c7
                clear c7
                have H' := Aside0.mk H
                clear H
                have p129 : 0 ≤ (x5_1 : Int) := of_decide_eq_true (by first | (with_reducible assumption) | assumption)
                have q129 : x5_1 < (l0.length : Int) := of_decide_eq_true (by first | (with_reducible assumption) | assumption)
                obtain ⟨ad129, e129, hx129_0⟩ := Kd.at_string HR0.out x5_1 p129 q129
                cases e129
                replace p129 := eq_true p129
                replace q129 := eq_true q129
                have p130 : 0 ≤ (x5_1 : Int) := of_decide_eq_true (by first | (with_reducible assumption) | assumption)
                have q130 : x5_1 < (l1.length : Int) := of_decide_eq_true (by first | (with_reducible assumption) | assumption)
                obtain ⟨ad130, e130, hx130_0⟩ := Kd.at_string HR1.out x5_1 p130 q130
                cases e130
                replace p130 := eq_true p130
                replace q130 := eq_true q130
                go_wp2
                repeat (go_quiet (fail); try go_wp2)
                go_roundg k1
                case measure => have := HK1.out; omega
                case rel => exact ⟨(wrap64 (x5_1 + 1)), (by first | rfl | (simp; done) | (simp [*]; done)), H', ⟨by have := HK1.out; omega⟩, by repeat (first | exact Drawn0.refl _ | apply Drawn0.step)⟩
              · rw [if_neg c7] at H
                have c7b0 : ((rdOf ByteArray.empty l0 x5_1).toList == (rdOf ByteArray.empty l1 x5_1).toList) = false := beq_eq_false_iff_ne.mpr c7
                have c7b1 : ((rdOf ByteArray.empty l0 x5_1).toList != (rdOf ByteArray.empty l1 x5_1).toList) = true := bne_iff_ne.mpr c7
                obtain rfl := Option.some.inj H
                have p129 : 0 ≤ (x5_1 : Int) := of_decide_eq_true (by first | (with_reducible assumption) | assumption)
                have q129 : x5_1 < (l0.length : Int) := of_decide_eq_true (by first | (with_reducible assumption) | assumption)
                obtain ⟨ad129, e129, hx129_0⟩ := Kd.at_string HR0.out x5_1 p129 q129
                cases e129
                replace p129 := eq_true p129
                replace q129 := eq_true q129
                have p130 : 0 ≤ (x5_1 : Int) := of_decide_eq_true (by first | (with_reducible assumption) | assumption)
                have q130 : x5_1 < (l1.length : Int) := of_decide_eq_true (by first | (with_reducible assumption) | assumption)
                obtain ⟨ad130, e130, hx130_0⟩ := Kd.at_string HR1.out x5_1 p130 q130
                cases e130
                replace p130 := eq_true p130
                replace q130 := eq_true q130
                go_wp2
                repeat (go_quiet (fail); try go_wp2)
                go_ret
                exact ⟨by first | rfl | (simp; done) | (simp [*]; done), by repeat (first | exact Drawn0.refl _ | apply Drawn0.step)⟩
            · rw [if_neg c6] at H
              exact absurd H (by simp)
          · rw [if_neg c5] at H
            exact absurd H (by simp)
        · rw [if_neg c4] at H
          have c4b0 : decide (x5_1 < (l0.length : Int)) = false := decide_eq_false c4
          clear c4
          obtain rfl := Option.some.inj H
          go_wp2
          repeat (go_quiet (fail); try go_wp2)
          go_ret
          exact ⟨by first | rfl | (simp; done) | (simp [*]; done), by repeat (first | exact Drawn0.refl _ | apply Drawn0.step)⟩
  · rw [if_neg c3] at H
    have c3b0 : ((l0.length : Int) == (l1.length : Int)) = false := beq_eq_false_iff_ne.mpr c3
    have c3b1 : ((l0.length : Int) != (l1.length : Int)) = true := bne_iff_ne.mpr c3
    have c3b2 : (l0.length == l1.length) = false := by first | simpa using c3 | (simp at c3 ⊢; omega)
    obtain rfl := Option.some.inj H
    go_enter Tryd.func31, Tryd.ntmps31
    go_wp2
    repeat (go_quiet (fail); try go_wp2)
    go_ret
    exact ⟨by first | rfl | (simp; done) | (simp [*]; done), by repeat (first | exact Drawn0.refl _ | apply Drawn0.step)⟩
def bolterlaw13_alive.f (k : Nat)  : Option (Bool) := (texts_Split.f k (⟨#[97, 44, 98]⟩ : ByteArray) (⟨#[44]⟩ : ByteArray)).bind fun bt131 => ((texts_Upper.f k (⟨#[97, 98]⟩ : ByteArray)).bind fun bt135 => ((bolterlaw13_num.f bt131.2).bind fun t137 => ((bolterlaw13_num.f bt135.2).bind fun t138 => (if (wrap64 (t137 + t138)) = 0 then ((bolterplain_SameStrings.f k bt131.1 (([(⟨#[97]⟩ : ByteArray), (⟨#[98]⟩ : ByteArray)] : List ByteArray))).bind fun t142 => (if t142 = true then (some (bt135.1.toList == ([65, 66] : List UInt8))) else (some false))) else (some false)))))
theorem bolterlaw13_alive.mono : ∀ k, LeO (bolterlaw13_alive.f k ) (bolterlaw13_alive.f (k + 1) ) := by
  intro  k
  unfold bolterlaw13_alive.f
  repeat' first
      | (with_reducible exact bolterplain_SameStrings.mono _ _ _)
      | (with_reducible exact texts_Split.mono _ _ _)
      | (with_reducible exact texts_Upper.mono _ _)
      | (with_reducible exact LeO.refl _)
      | (with_reducible exact LeO.none _)
      | (with_reducible refine LeO.ite ?_ ?_)
      | (with_reducible refine LeO.bind ?_ (fun _ => ?_))
      | exact bolterplain_SameStrings.mono _ _ _
      | exact texts_Split.mono _ _ _
      | exact texts_Upper.mono _ _
      | exact LeO.none _
      | refine LeO.ite ?_ ?_
      | refine LeO.bind ?_ (fun _ => ?_)
set_option maxHeartbeats 8000000 in
set_option maxRecDepth 100000 in
theorem bolterlaw13_alive.calls (k : Nat)  (r : Bool) (w : World) (hG : Aside0 (GlobG w)) (h : bolterlaw13_alive.f k  = some r) :
    Calls Tryd.prog 10 #[] w fun e w' => e = .returned (.bool r) ∧ Below w.heap.size w w' := by
  have HB := Aside0.mk (Below.refl w.heap.size w)
  have H : ((texts_Split.f k (⟨#[97, 44, 98]⟩ : ByteArray) (⟨#[44]⟩ : ByteArray)).bind fun bt131 => ((texts_Upper.f k (⟨#[97, 98]⟩ : ByteArray)).bind fun bt135 => ((bolterlaw13_num.f bt131.2).bind fun t137 => ((bolterlaw13_num.f bt135.2).bind fun t138 => (if (wrap64 (t137 + t138)) = 0 then ((bolterplain_SameStrings.f k bt131.1 (([(⟨#[97]⟩ : ByteArray), (⟨#[98]⟩ : ByteArray)] : List ByteArray))).bind fun t142 => (if t142 = true then (some (bt135.1.toList == ([65, 66] : List UInt8))) else (some false))) else (some false)))))) = some r := h
  clear h
  replace H := Option.bind_eq_some_iff.mp H
  obtain ⟨⟨t131, t132⟩, A10, H⟩ := H
  replace H : ((texts_Upper.f k (⟨#[97, 98]⟩ : ByteArray)).bind fun bt135 => ((bolterlaw13_num.f t132).bind fun t137 => ((bolterlaw13_num.f bt135.2).bind fun t138 => (if (wrap64 (t137 + t138)) = 0 then ((bolterplain_SameStrings.f k t131 (([(⟨#[97]⟩ : ByteArray), (⟨#[98]⟩ : ByteArray)] : List ByteArray))).bind fun t142 => (if t142 = true then (some (bt135.1.toList == ([65, 66] : List UInt8))) else (some false))) else (some false))))) = some r := H
  have A1 := Aside0.mk A10
  clear A10
  replace H := Option.bind_eq_some_iff.mp H
  obtain ⟨⟨t135, t136⟩, A20, H⟩ := H
  replace H : ((bolterlaw13_num.f t132).bind fun t137 => ((bolterlaw13_num.f t136).bind fun t138 => (if (wrap64 (t137 + t138)) = 0 then ((bolterplain_SameStrings.f k t131 (([(⟨#[97]⟩ : ByteArray), (⟨#[98]⟩ : ByteArray)] : List ByteArray))).bind fun t142 => (if t142 = true then (some (t135.toList == ([65, 66] : List UInt8))) else (some false))) else (some false)))) = some r := H
  have A2 := Aside0.mk A20
  clear A20
  replace H := Option.bind_eq_some_iff.mp H
  obtain ⟨t137, A30, H⟩ := H
  replace H : ((bolterlaw13_num.f t136).bind fun t138 => (if (wrap64 (t137 + t138)) = 0 then ((bolterplain_SameStrings.f k t131 (([(⟨#[97]⟩ : ByteArray), (⟨#[98]⟩ : ByteArray)] : List ByteArray))).bind fun t142 => (if t142 = true then (some (t135.toList == ([65, 66] : List UInt8))) else (some false))) else (some false))) = some r := H
  have A3 := Aside0.mk A30
  clear A30
  replace H := Option.bind_eq_some_iff.mp H
  obtain ⟨t138, A40, H⟩ := H
  replace H : (if (wrap64 (t137 + t138)) = 0 then ((bolterplain_SameStrings.f k t131 (([(⟨#[97]⟩ : ByteArray), (⟨#[98]⟩ : ByteArray)] : List ByteArray))).bind fun t142 => (if t142 = true then (some (t135.toList == ([65, 66] : List UInt8))) else (some false))) else (some false)) = some r := H
  have A4 := Aside0.mk A40
  clear A40
  by_cases c5 : (wrap64 (t137 + t138)) = 0
  · rw [if_pos c5] at H
    have c5b0 : ((wrap64 (t137 + t138)) == 0) = true := beq_iff_eq.mpr c5
    have c5b1 : ((wrap64 (t137 + t138)) != 0) = false := bne_eq_false_iff_eq.mpr c5
    clear c5
    obtain ⟨y139, hy139⟩ : ∃ y_ : List ByteArray, y_ = (([(⟨#[97]⟩ : ByteArray), (⟨#[98]⟩ : ByteArray)] : List ByteArray)) := ⟨_, rfl⟩
    replace H : ((bolterplain_SameStrings.f k t131 y139).bind fun t142 => (if t142 = true then (some (t135.toList == ([65, 66] : List UInt8))) else (some false))) = some r := by first | (rw [hy139]; with_reducible exact H) | (have H2_ := (Option.bind_some _ _).symm.trans H; rw [hy139]; with_reducible exact H2_) | (have H2_ := (Option.bind_some _ _).symm.trans H; with_reducible exact H2_) | with_reducible exact H | (rw [hy139]; exact H) | exact H
    have Ny139 := Aside0.mk hy139
    clear hy139
    replace H := Option.bind_eq_some_iff.mp H
    obtain ⟨t142, A60, H⟩ := H
    replace H : (if t142 = true then (some (t135.toList == ([65, 66] : List UInt8))) else (some false)) = some r := H
    have A6 := Aside0.mk A60
    clear A60
    by_cases c7 : t142 = true
    · subst c7
      have H1 : (some (t135.toList == ([65, 66] : List UInt8))) = some r := by rw [if_pos rfl] at H; exact H
      clear H
      have H := H1
      clear H1
      obtain rfl := Option.some.inj H
      go_enter Tryd.func10, Tryd.ntmps10
      go_wp2_with (first | ((with_reducible refine gate_callee (f := 14) rfl ?_); refine goesL_ (some 6) rfl rfl Tryd.func14 (by kernel_rfl) rfl #[.string (⟨#[97, 44, 98]⟩ : ByteArray), .string (⟨#[44]⟩ : ByteArray)] rfl (by (try simp only [List.map_toArray, List.map_cons, List.map_nil]); first | done | rfl | (simp only [List.length_drop, List.length_take]; rfl)) ?_; (with_reducible refine (texts_Split.calls k (⟨#[97, 44, 98]⟩ : ByteArray) (⟨#[44]⟩ : ByteArray) t131 t132 _ ?side1 A1.out).mono ?_); (case side1 => exact Aside0.mk (GlobG.below (by repeat (first | (with_reducible first | exact HB.out | apply below_alloc | apply pw_below_drewN | apply below_drew1) | exact HB.out)) hG.out)); rintro e w8 ⟨v133, rfl, ho0, hb⟩; refine ⟨_, rfl, ?_⟩; have n0_ := Aside0.mk (Kd.R_lower ho0 (below_size (by repeat (first | (with_reducible first | exact HB.out | apply below_alloc | apply pw_below_drewN | apply below_drew1) | exact HB.out)))); have n1_ := Aside0.mk (below_step (by repeat (first | (with_reducible first | exact HB.out | apply below_alloc | apply pw_below_drewN | apply below_drew1) | exact HB.out)) hb); clear HB; have HO134 := n0_; have HB := n1_; clear n0_ n1_; (try clear hb); (try clear hb2); (try clear hk); (try clear hi); (try clear ho0)) | ((with_reducible refine gate_callee (f := 12) rfl ?_); refine goesL_ (some 10) rfl rfl Tryd.func12 (by kernel_rfl) rfl #[.string (⟨#[97, 98]⟩ : ByteArray)] rfl (by (try simp only [List.map_toArray, List.map_cons, List.map_nil]); first | done | rfl | (simp only [List.length_drop, List.length_take]; rfl)) ?_; (with_reducible refine (texts_Upper.calls k (⟨#[97, 98]⟩ : ByteArray) t135 t136 _ ?side1 A2.out).mono ?_); (case side1 => exact Aside0.mk (GlobG.below (by repeat (first | (with_reducible first | exact HB.out | apply below_alloc | apply pw_below_drewN | apply below_drew1) | exact HB.out)) hG.out)); rintro e w9 ⟨rfl, hb⟩; refine ⟨_, rfl, ?_⟩; have n0_ := Aside0.mk (Kd.R_below (by (with_reducible repeat (first | apply Kd.R_alloc | apply Kd.R_drewN | apply Kd.R_drew)); exact HO134.out) hb); have n1_ := Aside0.mk (below_step (by repeat (first | (with_reducible first | exact HB.out | apply below_alloc | apply pw_below_drewN | apply below_drew1) | exact HB.out)) hb); clear HO134; clear HB; have HO134 := n0_; have HB := n1_; clear n0_ n1_; (try clear hb); (try clear hb2); (try clear hk); (try clear hi)) | ((with_reducible refine gate_callee (f := 13) rfl ?_); refine goesL_ (some 14) rfl rfl Tryd.func13 (by kernel_rfl) rfl #[.int .i64 t132] rfl (by (try simp only [List.map_toArray, List.map_cons, List.map_nil]); first | done | rfl | (simp only [List.length_drop, List.length_take]; rfl)) ?_; (with_reducible refine (bolterlaw13_num.calls t132 t137 _ A3.out).mono ?_); rintro e w' ⟨rfl, ⟨nd, rfl⟩⟩; refine ⟨_, rfl, ?_⟩) | ((with_reducible refine gate_callee (f := 13) rfl ?_); refine goesL_ (some 16) rfl rfl Tryd.func13 (by kernel_rfl) rfl #[.int .i64 t136] rfl (by (try simp only [List.map_toArray, List.map_cons, List.map_nil]); first | done | rfl | (simp only [List.length_drop, List.length_take]; rfl)) ?_; (with_reducible refine (bolterlaw13_num.calls t136 t138 _ A4.out).mono ?_); rintro e w' ⟨rfl, ⟨nd, rfl⟩⟩; refine ⟨_, rfl, ?_⟩) | ((with_reducible refine gate_dst (N := 21) rfl ?_); (try (refine gate_guard (by rfl) ?_; dsimp only)); refine Kd.R_lit Kd.string _ 9 ?hg (N := 21) ?hd (xs := ([(⟨#[97]⟩ : ByteArray), (⟨#[98]⟩ : ByteArray)] : List ByteArray)) (inner := [.string (⟨#[97]⟩ : ByteArray), .string (⟨#[98]⟩ : ByteArray)]) (ok := fun _ => True) (okp := fun _ => True) ?hr ?hp (fun _ hk => hk) trivial (Below.refl _ _) (Nat.le_refl _) (by simp) ?_; (case hd => rfl); (case hg => rfl); (case hr => first | (go_simp; done) | (go_simp; rfl)); (case hp => exact (Reps.one (show Kd.M Kd.string _ _ _ (⟨#[97]⟩ : ByteArray) [.string (⟨#[97]⟩ : ByteArray)] from rfl) (Reps.one (show Kd.M Kd.string _ _ _ (⟨#[98]⟩ : ByteArray) [.string (⟨#[98]⟩ : ByteArray)] from rfl) (Reps.none _ _)))); intro v140 w10 ho11 hb hg_ hnew_; clear hg_ hnew_; (first | rw [← Ny139.out] at ho11 | (simp only [Int.reduceToNat] at ho11; rw [← Ny139.out] at ho11)); have n0_ := Aside0.mk (Kd.R_elder' (by (with_reducible repeat (first | apply Kd.R_alloc | apply Kd.R_drewN | apply Kd.R_drew)); exact HO134.out) (Kd.R_base ho11) hb); have n1_ := Aside0.mk (Kd.R_lower (Kd.R_new' ho11 (Kd.R_lt (by (with_reducible repeat (first | apply Kd.R_alloc | apply Kd.R_drewN | apply Kd.R_drew)); exact HO134.out))) (below_size (by repeat (first | (with_reducible first | exact HB.out | apply below_alloc | apply pw_below_drewN | apply below_drew1) | exact HB.out)))); have n2_ := Aside0.mk (below_step (by repeat (first | (with_reducible first | exact HB.out | apply below_alloc | apply pw_below_drewN | apply below_drew1) | exact HB.out)) hb); clear HO134; clear HB; have HO134 := n0_; have HO141 := n1_; have HB := n2_; clear n0_ n1_ n2_; clear hb ho11; obtain ⟨Ao12, co12, eo12⟩ := Kd.R_slice HO134.out; subst eo12; obtain ⟨Ao13, co13, eo13⟩ := Kd.R_slice HO141.out; subst eo13) | (go_at_call 31; (with_reducible refine (bolterplain_SameStrings.calls k _ _ t131 _ _ y139 true _ ?side1 ?side2 ?side3 ?side4 A6.out).mono ?_); (case side1 => repeat (first | exact (Kd.R_reads' HO134.out).2.2 | (with_reducible refine Kd.C_alloc ?_ _) | (with_reducible refine Kd.C_drewN ?_ _) | (with_reducible refine Kd.C_drew ?_))); (case side2 => exact (Kd.R_reads' HO134.out).2.1); (case side3 => repeat (first | exact (Kd.R_reads' HO141.out).2.2 | (with_reducible refine Kd.C_alloc ?_ _) | (with_reducible refine Kd.C_drewN ?_ _) | (with_reducible refine Kd.C_drew ?_))); (case side4 => exact (Kd.R_reads' HO141.out).2.1); rintro e w' ⟨rfl, ⟨nd, rfl⟩⟩))
      go_ret
      exact ⟨by first | rfl | (simp [errW_none, errW_some] <;> rfl) | (simp [*, errW_none, errW_some] <;> rfl), by repeat (first | (with_reducible first | exact HB.out | apply below_alloc | apply pw_below_drewN | apply below_drew1) | exact HB.out)⟩
    · replace c7 := Bool.eq_false_iff.mpr c7
      subst c7
      have H1 : (some false) = some r := by rw [if_neg (show ¬ (false = true) by decide)] at H; exact H
      clear H
      have H := H1
      clear H1
      obtain rfl := Option.some.inj H
      go_enter Tryd.func10, Tryd.ntmps10
      go_wp2_with (first | ((with_reducible refine gate_callee (f := 14) rfl ?_); refine goesL_ (some 6) rfl rfl Tryd.func14 (by kernel_rfl) rfl #[.string (⟨#[97, 44, 98]⟩ : ByteArray), .string (⟨#[44]⟩ : ByteArray)] rfl (by (try simp only [List.map_toArray, List.map_cons, List.map_nil]); first | done | rfl | (simp only [List.length_drop, List.length_take]; rfl)) ?_; (with_reducible refine (texts_Split.calls k (⟨#[97, 44, 98]⟩ : ByteArray) (⟨#[44]⟩ : ByteArray) t131 t132 _ ?side1 A1.out).mono ?_); (case side1 => exact Aside0.mk (GlobG.below (by repeat (first | (with_reducible first | exact HB.out | apply below_alloc | apply pw_below_drewN | apply below_drew1) | exact HB.out)) hG.out)); rintro e w14 ⟨v133, rfl, ho0, hb⟩; refine ⟨_, rfl, ?_⟩; have n0_ := Aside0.mk (Kd.R_lower ho0 (below_size (by repeat (first | (with_reducible first | exact HB.out | apply below_alloc | apply pw_below_drewN | apply below_drew1) | exact HB.out)))); have n1_ := Aside0.mk (below_step (by repeat (first | (with_reducible first | exact HB.out | apply below_alloc | apply pw_below_drewN | apply below_drew1) | exact HB.out)) hb); clear HB; have HO134 := n0_; have HB := n1_; clear n0_ n1_; (try clear hb); (try clear hb2); (try clear hk); (try clear hi); (try clear ho0)) | ((with_reducible refine gate_callee (f := 12) rfl ?_); refine goesL_ (some 10) rfl rfl Tryd.func12 (by kernel_rfl) rfl #[.string (⟨#[97, 98]⟩ : ByteArray)] rfl (by (try simp only [List.map_toArray, List.map_cons, List.map_nil]); first | done | rfl | (simp only [List.length_drop, List.length_take]; rfl)) ?_; (with_reducible refine (texts_Upper.calls k (⟨#[97, 98]⟩ : ByteArray) t135 t136 _ ?side1 A2.out).mono ?_); (case side1 => exact Aside0.mk (GlobG.below (by repeat (first | (with_reducible first | exact HB.out | apply below_alloc | apply pw_below_drewN | apply below_drew1) | exact HB.out)) hG.out)); rintro e w15 ⟨rfl, hb⟩; refine ⟨_, rfl, ?_⟩; have n0_ := Aside0.mk (Kd.R_below (by (with_reducible repeat (first | apply Kd.R_alloc | apply Kd.R_drewN | apply Kd.R_drew)); exact HO134.out) hb); have n1_ := Aside0.mk (below_step (by repeat (first | (with_reducible first | exact HB.out | apply below_alloc | apply pw_below_drewN | apply below_drew1) | exact HB.out)) hb); clear HO134; clear HB; have HO134 := n0_; have HB := n1_; clear n0_ n1_; (try clear hb); (try clear hb2); (try clear hk); (try clear hi)) | ((with_reducible refine gate_callee (f := 13) rfl ?_); refine goesL_ (some 14) rfl rfl Tryd.func13 (by kernel_rfl) rfl #[.int .i64 t132] rfl (by (try simp only [List.map_toArray, List.map_cons, List.map_nil]); first | done | rfl | (simp only [List.length_drop, List.length_take]; rfl)) ?_; (with_reducible refine (bolterlaw13_num.calls t132 t137 _ A3.out).mono ?_); rintro e w' ⟨rfl, ⟨nd, rfl⟩⟩; refine ⟨_, rfl, ?_⟩) | ((with_reducible refine gate_callee (f := 13) rfl ?_); refine goesL_ (some 16) rfl rfl Tryd.func13 (by kernel_rfl) rfl #[.int .i64 t136] rfl (by (try simp only [List.map_toArray, List.map_cons, List.map_nil]); first | done | rfl | (simp only [List.length_drop, List.length_take]; rfl)) ?_; (with_reducible refine (bolterlaw13_num.calls t136 t138 _ A4.out).mono ?_); rintro e w' ⟨rfl, ⟨nd, rfl⟩⟩; refine ⟨_, rfl, ?_⟩) | ((with_reducible refine gate_dst (N := 21) rfl ?_); (try (refine gate_guard (by rfl) ?_; dsimp only)); refine Kd.R_lit Kd.string _ 9 ?hg (N := 21) ?hd (xs := ([(⟨#[97]⟩ : ByteArray), (⟨#[98]⟩ : ByteArray)] : List ByteArray)) (inner := [.string (⟨#[97]⟩ : ByteArray), .string (⟨#[98]⟩ : ByteArray)]) (ok := fun _ => True) (okp := fun _ => True) ?hr ?hp (fun _ hk => hk) trivial (Below.refl _ _) (Nat.le_refl _) (by simp) ?_; (case hd => rfl); (case hg => rfl); (case hr => first | (go_simp; done) | (go_simp; rfl)); (case hp => exact (Reps.one (show Kd.M Kd.string _ _ _ (⟨#[97]⟩ : ByteArray) [.string (⟨#[97]⟩ : ByteArray)] from rfl) (Reps.one (show Kd.M Kd.string _ _ _ (⟨#[98]⟩ : ByteArray) [.string (⟨#[98]⟩ : ByteArray)] from rfl) (Reps.none _ _)))); intro v140 w16 ho17 hb hg_ hnew_; clear hg_ hnew_; (first | rw [← Ny139.out] at ho17 | (simp only [Int.reduceToNat] at ho17; rw [← Ny139.out] at ho17)); have n0_ := Aside0.mk (Kd.R_elder' (by (with_reducible repeat (first | apply Kd.R_alloc | apply Kd.R_drewN | apply Kd.R_drew)); exact HO134.out) (Kd.R_base ho17) hb); have n1_ := Aside0.mk (Kd.R_lower (Kd.R_new' ho17 (Kd.R_lt (by (with_reducible repeat (first | apply Kd.R_alloc | apply Kd.R_drewN | apply Kd.R_drew)); exact HO134.out))) (below_size (by repeat (first | (with_reducible first | exact HB.out | apply below_alloc | apply pw_below_drewN | apply below_drew1) | exact HB.out)))); have n2_ := Aside0.mk (below_step (by repeat (first | (with_reducible first | exact HB.out | apply below_alloc | apply pw_below_drewN | apply below_drew1) | exact HB.out)) hb); clear HO134; clear HB; have HO134 := n0_; have HO141 := n1_; have HB := n2_; clear n0_ n1_ n2_; clear hb ho17; obtain ⟨Ao18, co18, eo18⟩ := Kd.R_slice HO134.out; subst eo18; obtain ⟨Ao19, co19, eo19⟩ := Kd.R_slice HO141.out; subst eo19) | (go_at_call 31; (with_reducible refine (bolterplain_SameStrings.calls k _ _ t131 _ _ y139 false _ ?side1 ?side2 ?side3 ?side4 A6.out).mono ?_); (case side1 => repeat (first | exact (Kd.R_reads' HO134.out).2.2 | (with_reducible refine Kd.C_alloc ?_ _) | (with_reducible refine Kd.C_drewN ?_ _) | (with_reducible refine Kd.C_drew ?_))); (case side2 => exact (Kd.R_reads' HO134.out).2.1); (case side3 => repeat (first | exact (Kd.R_reads' HO141.out).2.2 | (with_reducible refine Kd.C_alloc ?_ _) | (with_reducible refine Kd.C_drewN ?_ _) | (with_reducible refine Kd.C_drew ?_))); (case side4 => exact (Kd.R_reads' HO141.out).2.1); rintro e w' ⟨rfl, ⟨nd, rfl⟩⟩))
      go_ret
      exact ⟨by first | rfl | (simp [errW_none, errW_some] <;> rfl) | (simp [*, errW_none, errW_some] <;> rfl), by repeat (first | (with_reducible first | exact HB.out | apply below_alloc | apply pw_below_drewN | apply below_drew1) | exact HB.out)⟩
  · rw [if_neg c5] at H
    have c5b0 : ((wrap64 (t137 + t138)) == 0) = false := beq_eq_false_iff_ne.mpr c5
    have c5b1 : ((wrap64 (t137 + t138)) != 0) = true := bne_iff_ne.mpr c5
    obtain rfl := Option.some.inj H
    go_enter Tryd.func10, Tryd.ntmps10
    go_wp2_with (first | ((with_reducible refine gate_callee (f := 14) rfl ?_); refine goesL_ (some 6) rfl rfl Tryd.func14 (by kernel_rfl) rfl #[.string (⟨#[97, 44, 98]⟩ : ByteArray), .string (⟨#[44]⟩ : ByteArray)] rfl (by (try simp only [List.map_toArray, List.map_cons, List.map_nil]); first | done | rfl | (simp only [List.length_drop, List.length_take]; rfl)) ?_; (with_reducible refine (texts_Split.calls k (⟨#[97, 44, 98]⟩ : ByteArray) (⟨#[44]⟩ : ByteArray) t131 t132 _ ?side1 A1.out).mono ?_); (case side1 => exact Aside0.mk (GlobG.below (by repeat (first | (with_reducible first | exact HB.out | apply below_alloc | apply pw_below_drewN | apply below_drew1) | exact HB.out)) hG.out)); rintro e w20 ⟨v133, rfl, ho0, hb⟩; refine ⟨_, rfl, ?_⟩; have n0_ := Aside0.mk (Kd.R_lower ho0 (below_size (by repeat (first | (with_reducible first | exact HB.out | apply below_alloc | apply pw_below_drewN | apply below_drew1) | exact HB.out)))); have n1_ := Aside0.mk (below_step (by repeat (first | (with_reducible first | exact HB.out | apply below_alloc | apply pw_below_drewN | apply below_drew1) | exact HB.out)) hb); clear HB; have HO134 := n0_; have HB := n1_; clear n0_ n1_; (try clear hb); (try clear hb2); (try clear hk); (try clear hi); (try clear ho0)) | ((with_reducible refine gate_callee (f := 12) rfl ?_); refine goesL_ (some 10) rfl rfl Tryd.func12 (by kernel_rfl) rfl #[.string (⟨#[97, 98]⟩ : ByteArray)] rfl (by (try simp only [List.map_toArray, List.map_cons, List.map_nil]); first | done | rfl | (simp only [List.length_drop, List.length_take]; rfl)) ?_; (with_reducible refine (texts_Upper.calls k (⟨#[97, 98]⟩ : ByteArray) t135 t136 _ ?side1 A2.out).mono ?_); (case side1 => exact Aside0.mk (GlobG.below (by repeat (first | (with_reducible first | exact HB.out | apply below_alloc | apply pw_below_drewN | apply below_drew1) | exact HB.out)) hG.out)); rintro e w21 ⟨rfl, hb⟩; refine ⟨_, rfl, ?_⟩; have n0_ := Aside0.mk (Kd.R_below (by (with_reducible repeat (first | apply Kd.R_alloc | apply Kd.R_drewN | apply Kd.R_drew)); exact HO134.out) hb); have n1_ := Aside0.mk (below_step (by repeat (first | (with_reducible first | exact HB.out | apply below_alloc | apply pw_below_drewN | apply below_drew1) | exact HB.out)) hb); clear HO134; clear HB; have HO134 := n0_; have HB := n1_; clear n0_ n1_; (try clear hb); (try clear hb2); (try clear hk); (try clear hi)) | ((with_reducible refine gate_callee (f := 13) rfl ?_); refine goesL_ (some 14) rfl rfl Tryd.func13 (by kernel_rfl) rfl #[.int .i64 t132] rfl (by (try simp only [List.map_toArray, List.map_cons, List.map_nil]); first | done | rfl | (simp only [List.length_drop, List.length_take]; rfl)) ?_; (with_reducible refine (bolterlaw13_num.calls t132 t137 _ A3.out).mono ?_); rintro e w' ⟨rfl, ⟨nd, rfl⟩⟩; refine ⟨_, rfl, ?_⟩) | ((with_reducible refine gate_callee (f := 13) rfl ?_); refine goesL_ (some 16) rfl rfl Tryd.func13 (by kernel_rfl) rfl #[.int .i64 t136] rfl (by (try simp only [List.map_toArray, List.map_cons, List.map_nil]); first | done | rfl | (simp only [List.length_drop, List.length_take]; rfl)) ?_; (with_reducible refine (bolterlaw13_num.calls t136 t138 _ A4.out).mono ?_); rintro e w' ⟨rfl, ⟨nd, rfl⟩⟩; refine ⟨_, rfl, ?_⟩))
    go_ret
    exact ⟨by first | rfl | (simp [errW_none, errW_some] <;> rfl) | (simp [*, errW_none, errW_some] <;> rfl), by repeat (first | (with_reducible first | exact HB.out | apply below_alloc | apply pw_below_drewN | apply below_drew1) | exact HB.out)⟩
def texts_Lower.f (k : Nat) (a0 : ByteArray) : Option (ByteArray × Int) := (texts_moved.f k a0 65 32).bind fun bt143 => (some (bt143.1, bt143.2))
def bolterlaw13_TextsCase.l0 : Nat → ByteArray → ByteArray → ByteArray → Int → ByteArray → Int → Int → Option (Bool)
  | 0, _, _, _, _, _, _, _ => none
  | k + 1, x0, x3, x5, x6, x7, x8, x9 => if x9 < (x0.size : Int) then (if 0 ≤ x9 then (if (bt x0 x9) < 65 then (if x9 < (x3.size : Int) then (if (bt x3 x9) = (bt x0 x9) then (if x9 < (x7.size : Int) then (if (bt x7 x9) = (bt x0 x9) then (bolterlaw13_TextsCase.l0 k x0 x3 x5 x6 x7 x8 (wrap64 (x9 + 1))) else (some false)) else (none)) else (some false)) else (none)) else (if (bt x0 x9) > 122 then (if x9 < (x3.size : Int) then (if (bt x3 x9) = (bt x0 x9) then (if x9 < (x7.size : Int) then (if (bt x7 x9) = (bt x0 x9) then (bolterlaw13_TextsCase.l0 k x0 x3 x5 x6 x7 x8 (wrap64 (x9 + 1))) else (some false)) else (none)) else (some false)) else (none)) else (if (bt x0 x9) > 90 then (if (bt x0 x9) < 97 then (if x9 < (x3.size : Int) then (if (bt x3 x9) = (bt x0 x9) then (if x9 < (x7.size : Int) then (if (bt x7 x9) = (bt x0 x9) then (bolterlaw13_TextsCase.l0 k x0 x3 x5 x6 x7 x8 (wrap64 (x9 + 1))) else (some false)) else (none)) else (some false)) else (none)) else (bolterlaw13_TextsCase.l0 k x0 x3 x5 x6 x7 x8 (wrap64 (x9 + 1)))) else (bolterlaw13_TextsCase.l0 k x0 x3 x5 x6 x7 x8 (wrap64 (x9 + 1)))))) else (none)) else ((bolterlaw13_num.f x6).bind fun t153 => ((bolterlaw13_num.f x8).bind fun t154 => (if (wrap64 (t153 + t154)) = 0 then (if x5.toList = x7.toList then (some ((x3.size : Int) == (x0.size : Int))) else (some false)) else (some false))))
def bolterlaw13_TextsCase.f (k : Nat) (a0 : ByteArray) : Option (Bool) := (bolterlaw13_alive.f k).bind fun t145 => (if t145 = true then ((texts_Lower.f k a0).bind fun bt146 => ((texts_Upper.f k bt146.1).bind fun bt148 => ((texts_Upper.f k a0).bind fun bt150 => ((bolterlaw13_num.f bt146.2).bind fun t152 => (if t152 = 0 then (bolterlaw13_TextsCase.l0 k a0 bt146.1 bt148.1 bt148.2 bt150.1 bt150.2 0) else (if bt146.2 = bt150.2 then (some (bt146.1.toList == ([] : List UInt8))) else (some false))))))) else (some false))
end Go.Proofs.YtdhjdddjgcfhkaaDoor.B

end

section
/- What printed functions tell with rounds enough; what the checks of texts tell. -/
set_option linter.unusedVariables false
set_option linter.unusedSimpArgs false
namespace Go.Proofs.YtdhjdddjgcfhkaaDoor.P
open Go.Lib Go.RowKit Go.Proofs.YtdhjdddjgcfhkaaDoor.B Go.Proofs.YtdhjdddjgcfhkaaDoorW.PrintWords

/-- f tells v, with rounds enough. -/
def Tells {α : Type} (f : Nat → Option α) (v : α) : Prop := ∃ k0, ∀ k, k0 ≤ k → f k = some v
theorem Tells.pure {α : Type} (v : α) : Tells (fun _ => some v) v := ⟨0, fun _ _ => rfl⟩
theorem Tells.of {α : Type} {f : Option α} {v : α} (h : f = some v) : Tells (fun _ => f) v := ⟨0, fun _ _ => h⟩
theorem Tells.bind {α β : Type} {f : Nat → Option α} {g : Nat → α → Option β} {v : α} {u : β} (h : Tells f v) (hg : Tells (fun k => g k v) u) : Tells (fun k => (f k).bind (g k)) u := by
  obtain ⟨k1, h1⟩ := h
  obtain ⟨k2, h2⟩ := hg
  exact ⟨max k1 k2, fun k hk => by show (f k).bind (g k) = some u; rw [h1 k (by omega)]; exact h2 k (by omega)⟩
theorem Tells.succ {α : Type} {f : Nat → Option α} {v : α} (h : Tells (fun k => f (k + 1)) v) : Tells f v := by
  obtain ⟨k1, h1⟩ := h
  exact ⟨k1 + 1, fun k hk => by
    obtain ⟨m, rfl⟩ : ∃ m, k = m + 1 := ⟨k - 1, by omega⟩
    exact h1 m (by omega)⟩
theorem Tells.congr {α : Type} {f g : Nat → Option α} {v : α} (h : Tells f v) (e : ∀ k, g k = f k) : Tells g v := by
  obtain ⟨k1, h1⟩ := h
  exact ⟨k1, fun k hk => by rw [e, h1 k hk]⟩
theorem Tells.ifp {α : Type} {f g : Nat → Option α} {v : α} {c : Prop} [Decidable c] (hc : c) (h : Tells f v) : Tells (fun k => if c then f k else g k) v := h.congr fun k => by rw [if_pos hc]
theorem Tells.ifn {α : Type} {f g : Nat → Option α} {v : α} {c : Prop} [Decidable c] (hc : ¬ c) (h : Tells g v) : Tells (fun k => if c then f k else g k) v := h.congr fun k => by rw [if_neg hc]
theorem Tells.ex {α : Type} {f : Nat → Option α} {v : α} (h : Tells f v) : ∃ k, f k = some v := ⟨_, h.choose_spec _ (Nat.le_refl _)⟩
/-- From one telling, where more rounds tell the same. -/
theorem Tells.mono {α : Type} {f : Nat → Option α} {v : α} (m : ∀ k, LeO (f k) (f (k + 1))) (k0 : Nat) (h : f k0 = some v) : Tells f v := by
  refine ⟨k0, fun k hk => ?_⟩
  obtain ⟨d, rfl⟩ : ∃ d, k = k0 + d := ⟨k - k0, by omega⟩
  clear hk
  induction d with
  | zero => exact h
  | succ d ih => exact m _ _ ih
def errV (l : List UInt8) : Int := if validD l = true then 0 else 61
theorem find_runes (s : ByteArray) : ∀ (k i : Nat), s.size ≤ i + k → (((runesF s k i).find? (fun p => decide (p.2 < 0))).isSome = !validD (s.data.toList.drop i))
  | k, i, h => by
    by_cases hi : i < s.size
    · obtain ⟨k, rfl⟩ : ∃ k', k = k' + 1 := ⟨k - 1, by omega⟩
      have hp := B.decode_pos s i
      have hle := B.decode_le s i hi
      have ih := find_runes s k (i + (Utf8.decode s i).2) (by omega)
      have hne : s.data.toList.drop i ≠ [] := by
        intro h0
        have := congrArg List.length h0
        rw [List.length_drop, ← size_eq] at this
        simp at this; omega
      rw [validD_step _ hne, decodeL_drop]
      simp only [runesF, if_pos hi, runeAt, List.find?_cons]
      by_cases hc : (Utf8.decode s i).1 = 65533 ∧ (Utf8.decode s i).2 = 1
      · rw [if_pos hc, if_pos hc]; rfl
      · rw [if_neg hc, if_neg hc]
        have : decide (((Utf8.decode s i).1 : Int) < 0) = false := by simp
        rw [this]
        simp only
        rw [ih, List.drop_drop]
    · have hne : s.data.toList.drop i = [] := List.drop_eq_nil_of_le (by rw [← size_eq]; omega)
      rw [hne, runesF_end s k i (by omega)]; rfl
theorem checkL_err (s : ByteArray) : (checkL s).2 = errV s.data.toList := by
  have h := find_runes s s.size 0 (by omega)
  rw [List.drop_zero] at h
  unfold checkL checkOf errV runesL
  cases hv : validD s.data.toList with
  | true =>
    rw [hv] at h
    have : (runesF s s.size 0).find? (fun p => decide (p.2 < 0)) = none := by
      cases hf : (runesF s s.size 0).find? (fun p => decide (p.2 < 0)) with
      | none => rfl
      | some p => rw [hf] at h; simp at h
    rw [this]; rfl
  | false =>
    rw [hv] at h
    obtain ⟨p, hp⟩ := Option.isSome_iff_exists.1 h
    rw [hp]; rfl
theorem check_tells (s : ByteArray) (hs : s.size ≤ 140737488351232) : utf_Check.f s = some (checkL s) := by
  unfold utf_Check.f; rw [if_pos hs]
def errs : List ByteArray → Int
  | [] => 0
  | s :: r => if errV s.data.toList = 0 then errs r else errV s.data.toList
theorem w64 {x : Int} (h : -9223372036854775808 ≤ x) (h2 : x < 9223372036854775808) : wrap64 x = x := by
  unfold wrap64; omega
theorem rdOf_at {α : Type} (d : α) (l : List α) (i : Nat) (x : α) (h : l[i]? = some x) : rdOf d l (i : Int) = x := by
  unfold rdOf; simp [List.getD, h]
theorem checks_l (l : List ByteArray) (hl : l.length < 9223372036854775807) (hs : ∀ s ∈ l, s.size ≤ 140737488351232) : ∀ (r pre : List ByteArray) (k : Nat), l = pre ++ r → r.length < k → texts_Checks.l0 k l (l.length : Int) (pre.length : Int) = some (errs r)
  | [], pre, k, e, hk => by
    obtain ⟨k, rfl⟩ : ∃ k', k = k' + 1 := ⟨k - 1, by simp at hk; omega⟩
    subst e
    simp only [texts_Checks.l0, List.append_nil]
    rw [if_neg (by omega)]; rfl
  | s :: r, pre, k, e, hk => by
    obtain ⟨k, rfl⟩ : ∃ k', k = k' + 1 := ⟨k - 1, by simp at hk; omega⟩
    have hlen : pre.length < l.length := by rw [e]; simp
    have hx : l[pre.length]? = some s := by rw [e]; simp
    have ih := checks_l l hl hs r (pre ++ [s]) k (by rw [e]; simp) (by simp at hk; omega)
    simp only [texts_Checks.l0]
    rw [if_pos (by omega), if_pos (by omega), if_pos (by omega), rdOf_at _ _ _ _ hx, check_tells s (hs s (List.mem_of_getElem? hx))]
    show (if (checkL s).2 = 0 then _ else _) = _
    rw [checkL_err, w64 (by omega) (by omega)]
    have e2 : ((pre.length : Int) + 1) = ((pre ++ [s]).length : Int) := by simp
    rw [e2, ih]
    rw [errs]
    split <;> rfl
theorem checks_tells (l : List ByteArray) (hl : l.length < 9223372036854775807) (hs : ∀ s ∈ l, s.size ≤ 140737488351232) : Tells (fun k => texts_Checks.f k l) (errs l) :=
  ⟨l.length + 1, fun k hk => checks_l l hl hs l [] k rfl hk⟩
def wholeV (l : List UInt8) : ByteArray × Int := if l.length ≤ 16384 then (⟨l.toArray⟩, 0) else (⟨#[]⟩, 5)
theorem whole_ok (s : ByteArray) : texts_whole.f s 0 = some (wholeV s.data.toList) := by
  unfold texts_whole.f texts_long.f wholeV
  rw [if_pos rfl, ← size_eq]
  simp only [Option.bind_some, decide_eq_true_eq]
  by_cases h : s.size ≤ 16384
  · rw [if_neg (by omega), if_pos h]
  · rw [if_pos (by omega), if_neg h]
theorem whole_err (s : ByteArray) (e : Int) (he : e ≠ 0) : texts_whole.f s e = some (⟨#[]⟩, e) := by
  unfold texts_whole.f; rw [if_neg he]
theorem alive_tells : Tells (fun k => bolterlaw13_alive.f k) true := Tells.mono (bolterlaw13_alive.mono) 12 (by decide +kernel)
end Go.Proofs.YtdhjdddjgcfhkaaDoor.P

end

section
/- A strings.Builder at the beginning of a block (alone, or embedded as the first field of a struct): copyCheck, Len, WriteString, String, walked. -/
set_option linter.unusedVariables false
namespace Go.Proofs.YtdhjdddjgcfhkaaDoor.B
open Go.RowKit Go.Shelf Go.Proofs.YtdhjdddjgcfhkaaDoorW.PrintWords

theorem infoByte : (Tryd.prog.info? 5).map (fun i => (i.zero, i.size, i.bytes)) = some (some (.int .u8 0), 1, 1) := by kernel_rfl
theorem sizeBuilder : (Tryd.prog.info? 65).map (·.size) = some 2 := by kernel_rfl
theorem cellsByte : Tryd.prog.cellsOf 5 = 1 := by kernel_rfl
/-- A block of type T whose first two cells are a Builder that holds these octets: 'addr' nil or its own address; 'buf' a row of the call's own. -/
structure Bld (T : TypeId) (B b : Nat) (p v : Value) (rest : List Value) (l : List UInt8) (w : World) : Prop where
  low : B ≤ b
  blk : w.heap[b]? = some (.cells (p :: v :: rest).toArray T (0, 0))
  own : w.ownsRow B 5 1 v l.length (Lib.byteCells l)
  addr : p = .pointer none ∨ p = .pointer (some ⟨b, 0, none⟩)
  /-- what the copy check asks of the block's type -/
  lies : liesAt Tryd.prog Tryd.prog.depth T ((rest.length + 2) / Tryd.prog.cellsOf T) 0 65 1 = true
  ne : T ≠ 5
section
variable {T : TypeId} {B b : Nat} {p v : Value} {rest : List Value} {l : List UInt8} {w : World}
theorem Bld.cell (h : Bld T B b p v rest l w) (j : Nat) : w.cell? ⟨b, j, none⟩ = (p :: v :: rest)[j]? := by
  rw [Lib.cell_of_heap h.blk]; simp
theorem Bld.cell0 (h : Bld T B b p v rest l w) : w.cell? ⟨b, 0, none⟩ = some p := h.cell 0
theorem Bld.cell1 (h : Bld T B b p v rest l w) : w.cell? ⟨b, 1, none⟩ = some v := h.cell 1
theorem Bld.frozen (h : Bld T B b p v rest l w) (j : Nat) : w.frozen? ⟨b, j, none⟩ = false := Lib.frozen_of_heap h.blk j
theorem Bld.shape (h : Bld T B b p v rest l w) : w.shape? b = some (T, rest.length + 2) := by simp [World.shape?, h.blk]
theorem Bld.lt (h : Bld T B b p v rest l w) : b < w.heap.size := by
  rcases Nat.lt_or_ge b w.heap.size with h' | h'
  · exact h'
  · have := h.blk; simp [Array.getElem?_eq_none h'] at this
theorem Bld.away (h : Bld T B b p v rest l w) : v.ownBlock ≠ some b := Lib.ownBlock_ne h.own h.blk h.ne
theorem Bld.slice (h : Bld T B b p v rest l w) : ∃ ao cap, v = .slice ao l.length cap := by
  have := Lib.byteCells_length l
  rcases h.own.2 with ⟨hv, h0⟩ | ⟨g, cap, cur, hv, _⟩
  · exact ⟨none, 0, by rw [hv, h0]⟩
  · exact ⟨_, _, hv⟩
/-- A store of its own address into 'addr'. -/
theorem Bld.used (h : Bld T B b p v rest l w) : Bld T B b (.pointer (some ⟨b, 0, none⟩)) v rest l (w.setCell ⟨b, 0, none⟩ (.pointer (some ⟨b, 0, none⟩))) := by
  refine ⟨h.low, ?_, ?_, .inr rfl, h.lies, h.ne⟩
  · simp [World.setCell, Array.getElem?_modify, h.blk]
  · exact h.own.kept (row := some b) ⟨rfl, rfl, rfl, by simp [World.setCell], fun k _ hk => Below.heap_setCell _ _ _ _ (fun e => hk (by simp [e]))⟩ (Or.inr h.away)
/-- A new buffer laid into 'buf'. -/
theorem Bld.put {w1 : World} {v' : Value} {l' : List UInt8} (h : Bld T B b p v rest l w) (hb : w1.heap[b]? = w.heap[b]?) (hown : w1.ownsRow B 5 1 v' l'.length (Lib.byteCells l')) : Bld T B b p v' rest l' (w1.setCell ⟨b, 1, none⟩ v') := by
  have hb1 := hb.trans h.blk
  refine ⟨h.low, ?_, ?_, h.addr, h.lies, h.ne⟩
  · simp [World.setCell, Array.getElem?_modify, hb1]
  · exact hown.kept (row := some b) ⟨rfl, rfl, rfl, by simp [World.setCell], fun k _ hk => Below.heap_setCell _ _ _ _ (fun e => hk (by simp [e]))⟩ (Or.inr (Lib.ownBlock_ne hown hb1 h.ne))
/-- It stays where memory only grows. -/
theorem Bld.below {w1 : World} (h : Bld T B b p v rest l w) (hb : Below w.heap.size w w1) : Bld T B b p v rest l w1 :=
  ⟨h.low, (hb.block b h.lt).trans h.blk, pw_own_below h.own hb, h.addr, h.lies, h.ne⟩
end

theorem byteCells_str (l : List UInt8) (s : ByteArray) : Lib.byteCells l ++ Lib.strCells s = Lib.byteCells (l ++ s.data.toList) := by
  simp [Lib.byteCells, Lib.strCells]
set_option maxHeartbeats 1000000 in
set_option maxRecDepth 100000 in
theorem Bld_copyCheck {T : TypeId} {B b : Nat} {p v : Value} {rest : List Value} {l : List UInt8} {w : World} (h : Bld T B b p v rest l w) :
    Calls Tryd.prog 99 #[.pointer (some ⟨b, 0, none⟩)] w fun e w' => e = .returned (.tuple #[]) ∧ Bld T B b (.pointer (some ⟨b, 0, none⟩)) v rest l w' ∧ Below B w w' ∧ KeepBut w w' b none := by
  obtain ⟨j, hj, hjs⟩ := Option.map_eq_some_iff.1 sizeBuilder
  rcases h.addr with hp | hp
  · subst hp
    have h0 := h.cell0
    have hfz := h.frozen 0
    have hsh := h.shape
    have HU := Lib.hid h.used
    have HL := Lib.hid h.low
    have HLies := Lib.hid h.lies
    clear h
    go_enter Tryd.func99, Tryd.ntmps99
    go_wp2
    rw [Lib.run_to_unsafe w ⟨b, 0, none⟩ Tryd.underlying62 Tryd.underlying133 hj (by rw [hjs]; decide) hsh (Nat.zero_lt_succ _)]
    simp only [Result.andThen]
    rw [Oper.upon_value]
    go_wp2
    rw [run_callFunc_extern Tryd.func117 (by kernel_rfl) (by kernel_rfl) (by kernel_rfl) (e := Extern.AbiNoEscape.same) (by kernel_rfl)]
    rw [Lib.run_noEscape]
    simp only [Result.andThen]
    rw [Oper.upon_value]
    go_wp2
    rw [Lib.run_from_unsafe w ⟨b, 0, none⟩ Tryd.underlying133 Tryd.underlying62 hj hsh HLies.out]
    simp only [Result.andThen]
    rw [Oper.upon_value]
    go_wp2
    go_end0
    exact ⟨rfl, HU.out, (Below.refl B w).setCell (p := ⟨b, 0, none⟩) HL.out _, by simp [World.setCell], fun k _ hk _ => Below.heap_setCell _ _ _ _ hk⟩
  · subst hp
    have h0 := h.cell0
    have HH := Lib.hid h
    clear h
    go_enter Tryd.func99, Tryd.ntmps99
    go_wp2
    rw [Lib.run_neq_ptr_same w _ Tryd.underlying62 hj]
    go_wp2
    go_end0
    exact ⟨rfl, HH.out, Below.refl B w, Nat.le_refl _, fun _ _ _ _ => rfl⟩
set_option maxHeartbeats 1000000 in
set_option maxRecDepth 100000 in
theorem Bld_Len {T : TypeId} {B b : Nat} {p v : Value} {rest : List Value} {l : List UInt8} {w : World} (h : Bld T B b p v rest l w) :
    Calls Tryd.prog 79 #[.pointer (some ⟨b, 0, none⟩)] w fun e w' => e = .returned (.int .i64 l.length) ∧ w' = w := by
  obtain ⟨ao, cap, rfl⟩ := h.slice
  have c1 := h.cell1
  clear h
  go_enter Tryd.func79, Tryd.ntmps79
  go_wp2
  go_ret
  exact ⟨rfl, rfl⟩
set_option maxHeartbeats 2000000 in
set_option maxRecDepth 100000 in
theorem Bld_WriteString {T : TypeId} {B b : Nat} {p v : Value} {rest : List Value} {l : List UInt8} {w : World} (s : ByteArray) (h : Bld T B b p v rest l w) (hlen : l.length + s.size ≤ 140737488355328) (hBw : B ≤ w.heap.size) :
    Calls Tryd.prog 68 #[.pointer (some ⟨b, 0, none⟩), .string s] w fun e w' => e = .returned (.tuple #[.int .i64 s.size, .nilIface]) ∧ (∃ v', Bld T B b (.pointer (some ⟨b, 0, none⟩)) v' rest (l ++ s.data.toList) w') ∧ Below B w w' ∧ KeepBut w w' b v.ownBlock := by
  obtain ⟨i0, hi, hz0, hz1, hz2⟩ := info_parts infoByte
  have cC := Bld_copyCheck h
  clear h
  go_enter Tryd.func68, Tryd.ntmps68
  go_wp2_with (go_at_call 99; refine cC.mono ?_)
  rintro e w1 ⟨rfl, h1, hb1, hkb⟩
  have HKB := Lib.hid hkb; clear hkb
  have c0 := h1.cell0
  have c1 := h1.cell1
  have hown := h1.own
  have H1 := Lib.hid h1
  have HO := Lib.hid hown
  have hlow := h1.low
  clear h1 cC
  go_wp2_with (at_builtin; refine Lib.wpList_append_own_string _ rfl _ _ 63 9 rfl B 5 i0 Tryd.underlying63 Tryd.underlying9 hi hz0 hz1 hz2 _ _ _ rfl hown s rfl ?c3 ?c4 ?c5 ?_)
  case c3 => unfold maxLen; omega
  case c4 => omega
  case c5 => have := hb1.size; omega
  intro v' w2 hown' hgrow _
  have hkeep : w2.heap[b]? = w1.heap[b]? := hgrow.block b H1.out.lt (fun e => H1.out.away e.symm)
  have hb2 := hkeep.trans H1.out.blk
  have d0 : w2.cell? ⟨b, 0, none⟩ = some (.pointer (some ⟨b, 0, none⟩)) := by rw [Lib.cell_of_heap hb2]; rfl
  have d1 : w2.cell? ⟨b, 1, none⟩ = some v := by rw [Lib.cell_of_heap hb2]; rfl
  have f1 : w2.frozen? ⟨b, 1, none⟩ = false := Lib.frozen_of_heap hb2 1
  obtain ⟨ao, n', cap, rfl⟩ : ∃ ao n' cap, v' = .slice ao n' cap := by
    rcases hown'.2 with ⟨hv, _⟩ | ⟨g, cap, cur, hv, _⟩
    · exact ⟨_, _, _, hv⟩
    · exact ⟨_, _, _, hv⟩
  have HO2 := Lib.hid hown'
  have HG := Lib.hid hgrow
  have HK := Lib.hid hkeep
  clear hown' hgrow hown hkeep hb2
  go_wp2
  go_ret2
  refine ⟨rfl, ⟨_, H1.out.put HK.out (by rw [← byteCells_str]; simpa using HO2.out)⟩, ?_, ?_, ?_⟩
  · exact (hb1.grown HG.out (by have := hb1.size; omega) (fun k hk => (HO.out.lt k hk).1)).setCell (p := ⟨b, 1, none⟩) hlow _
  · have := HKB.out.1; have := HG.out.size; simp [World.setCell]; omega
  · intro k hk h1 h2
    have := HKB.out.1
    rw [Below.heap_setCell _ _ _ _ h1, HG.out.block k (by omega) (fun e => h2 e), HKB.out.2 k hk h1 (by simp)]
theorem unsafeString_none (W : World) (q : Option Addr) : (Builtin.unsafeString_ #[96, 3] 9 #[.pointer q, .int .i64 0]).run Tryd.prog W = .ok (.string .empty) W :=
  Lib.run_unsafeString_none W _ _ _ q
set_option maxHeartbeats 4000000 in
set_option maxRecDepth 100000 in
/-- String: what has been written. -/
theorem Bld_String {T : TypeId} {B b : Nat} {p v : Value} {rest : List Value} {l : List UInt8} {w : World} (h : Bld T B b p v rest l w) (hBw : B ≤ w.heap.size) :
    Calls Tryd.prog 49 #[.pointer (some ⟨b, 0, none⟩)] w fun e w' => e = .returned (.string ⟨l.toArray⟩) ∧ Below B w w' := by
  have c1 : w.drew.cell? ⟨b, 1, none⟩ = some v := h.cell1
  have hlt := h.lt
  have hblk := Lib.hid h.blk
  have hown := Lib.hid h.own
  clear h
  by_cases hl : l = []
  · subst hl
    have hUS := unsafeString_none
    rcases hown.out.2 with ⟨rfl, _⟩ | ⟨g, cap, cur, rfl, hbg, hg, hnc, hcm, hcs, htake⟩
    · have hSD : (Builtin.unsafeSliceData_ #[63] 96 #[.slice none 0 0]).run Tryd.prog w.drew = .ok (.pointer none) w.drew := rfl
      go_enter Tryd.func49, Tryd.ntmps49
      go_wp2
      go_region
      all_goals (go_wp2; go_ret; exact ⟨rfl, Below.drew (Below.refl B w)⟩)
    · have HG := Lib.hid hg
      clear hg htake hcs hnc hcm hown
      by_cases hc0 : cap = 0
      · subst hc0
        have hSD : (Builtin.unsafeSliceData_ #[63] 96 #[.slice (some ⟨g, 0, none⟩) 0 0]).run Tryd.prog w.drew = .ok (.pointer (some ⟨w.drew.heap.size, 0, none⟩)) (w.drew.alloc (.view ⟨g, 0, none⟩ 5)) :=
          Lib.run_unsafeSliceData_zero w.drew _ _ 5 Tryd.underlying96 ⟨g, 0, none⟩ 0 (5, cur.size) (by have hg' : w.drew.heap[g]? = some (.cells cur 5 (0, 0)) := HG.out; simp [World.shape?, hg'])
        have c2 : (w.drew.alloc (.view ⟨g, 0, none⟩ 5)).cell? ⟨b, 1, none⟩ = some (.slice (some ⟨g, 0, none⟩) 0 0) := by
          have : (w.drew.alloc (.view ⟨g, 0, none⟩ 5)).heap[b]? = _ := (Lib.alloc_old w.drew _ b hlt).trans hblk.out
          rw [Lib.cell_of_heap this]; rfl
        have c3 : (w.alloc (.view ⟨g, 0, none⟩ 5)).drew.cell? ⟨b, 1, none⟩ = some (.slice (some ⟨g, 0, none⟩) 0 0) := c2
        have c0 : w.cell? ⟨b, 1, none⟩ = some (.slice (some ⟨g, 0, none⟩) 0 0) := c1
        go_enter Tryd.func49, Tryd.ntmps49
        go_wp2
        go_region
        all_goals (go_wp2; go_ret; exact ⟨rfl, (Below.drew (Below.refl B w)).alloc hBw _⟩)
      · have hSD : (Builtin.unsafeSliceData_ #[63] 96 #[.slice (some ⟨g, 0, none⟩) 0 cap]).run Tryd.prog w.drew = .ok (.pointer (some ⟨g, 0, none⟩)) w.drew :=
          Lib.run_unsafeSliceData_row _ _ _ _ _ _ hc0
        clear hc0
        go_enter Tryd.func49, Tryd.ntmps49
        go_wp2
        go_region
        all_goals (go_wp2; go_ret; exact ⟨rfl, Below.drew (Below.refl B w)⟩)
  · have hl0 : l.length ≠ 0 := by simpa using hl
    have hown2 := hown.out
    obtain ⟨g, cap, cur, rfl, hbg, hg, hnc, hcm, hcs, htake⟩ : ∃ g cap cur, v = .slice (some ⟨g, 0, none⟩) l.length cap ∧ B ≤ g ∧ w.heap[g]? = some (.cells cur 5 (0, 0)) ∧ l.length ≤ cap ∧ cap ≤ maxLen ∧ cur.size = cap * 1 ∧ cur.toList.take (l.length * 1) = Lib.byteCells l := by
      rcases hown2.2 with ⟨_, hz⟩ | ⟨g, cap, cur, hv, r⟩
      · exact absurd hz hl0
      · exact ⟨g, cap, cur, hv, r⟩
    have hSD : (Builtin.unsafeSliceData_ #[63] 96 #[.slice (some ⟨g, 0, none⟩) l.length cap]).run Tryd.prog w.drew = .ok (.pointer (some ⟨g, 0, none⟩)) w.drew :=
      Lib.run_unsafeSliceData_row _ _ _ _ _ _ (by omega)
    have hUS : (Builtin.unsafeString_ #[96, 3] 9 #[.pointer (some ⟨g, 0, none⟩), .int .i64 l.length]).run Tryd.prog w.drew = .ok (.string ⟨l.toArray⟩) (w.drew.freeze ⟨g, 0, none⟩ l.length) := by
      refine Lib.run_unsafeString_row w.drew 96 3 9 5 Tryd.underlying96 cellsByte g cur.size (by have hg' : w.drew.heap[g]? = some (.cells cur 5 (0, 0)) := hg; simp [World.shape?, hg']) l hl (by omega) (by unfold maxLen at hcm; omega) ?_
      intro j x hx
      have := hown2.cells (g := g) rfl j (.int .u8 x.toNat) (by simp [Lib.byteCells, hx])
      exact this
    clear htake hcs hnc hg hown2 hown hl hl0
    go_enter Tryd.func49, Tryd.ntmps49
    go_wp2
    go_region
    all_goals (go_wp2; go_ret; exact ⟨rfl, Lib.below_freeze (Below.drew (Below.refl B w)) (p := ⟨g, 0, none⟩) hbg _⟩)
end Go.Proofs.YtdhjdddjgcfhkaaDoor.B

end

section
/- texts.Join and texts.Replace over the embedded Builder, walked. -/
set_option linter.unusedVariables false
set_option linter.unusedSimpArgs false
namespace Go.Proofs.YtdhjdddjgcfhkaaDoor.B
open Go.RowKit Go.Shelf Go.Proofs.YtdhjdddjgcfhkaaDoorW.PrintWords

theorem new_cell (W : World) (v : Value) (t : TypeId) : (W.alloc (.cells #[v] t)).cell? ⟨W.heap.size, 0, none⟩ = some v := (Boxed.new W t v).cell
/-- One more text, if it is not too long already. -/
def putL (l : List UInt8) (s : ByteArray) : List UInt8 := if l.length ≤ 16384 then l ++ s.data.toList else l
structure PutDone (B b : Nat) (l : List UInt8) (w wr : World) : Prop where
  bld : ∃ p v, Bld 67 B b p v [] l wr
  low : Below B w wr
  size : w.heap.size ≤ wr.heap.size
set_option maxHeartbeats 4000000 in
set_option maxRecDepth 100000 in
theorem put_one {B b g : Nat} {p v : Value} {l : List UInt8} {w : World} (s : ByteArray) (h : Bld 67 B b p v [] l w) (hs : s.size ≤ 70368744177664) (hBw : B ≤ w.heap.size) (hc : w.cell? ⟨g, 0, none⟩ = some (.string s)) :
    Calls Tryd.prog 47 #[.pointer (some ⟨b, 0, none⟩), .slice (some ⟨g, 0, none⟩) 1 1] w fun e w' => e = .returned (.bool (decide ((putL l s).length ≤ 16384))) ∧ PutDone B b (putL l s) w w' := by
  have HH := Lib.hid h
  have hlt := h.lt
  clear h
  go_enter Tryd.func47, Tryd.ntmps47
  go_wp2
  go_loopw [9] (fun i wr => ∃ k : Nat, k ≤ 1 ∧ i = .int .i64 k ∧ (k = 0 → wr = w) ∧ (k = 1 → PutDone B b (putL l s) w wr)) (fun i _ => 1 - (intOf i).toNat)
  case atStart => exact ⟨0, by omega, rfl, fun _ => rfl, fun h => absurd h (by omega)⟩
  case round =>
    obtain ⟨k, hk, rfl, h0, h1⟩ := hrel
    rcases Nat.lt_or_ge k 1 with hk0 | hk1
    · obtain rfl : k = 0 := by omega
      obtain rfl := h0 rfl
      clear h0 h1 hk
      have cLen := Bld_Len HH.out
      by_cases hle : l.length ≤ 16384
      · have cW := Bld_WriteString s HH.out (by omega) hBw
        have hput : putL l s = l ++ s.data.toList := by unfold putL; rw [if_pos hle]
        have HP := Lib.hid hput; clear hput
        have hle' : (l.length : Int) ≤ 16384 := by omega
        go_wp2_with (first | (go_at_call 79; refine cLen.mono ?_; rintro e w1 ⟨rfl, rfl⟩) | (go_at_call 68; refine cW.mono ?_; rintro e w1 ⟨rfl, ⟨v', hbl⟩, hbb, hkp⟩))
        go_roundw
        case rel => exact ⟨1, by omega, by go_num, fun h => absurd h (by omega), fun _ => ⟨⟨_, v', by rw [HP.out]; exact hbl⟩, hbb, hkp.1⟩⟩
        case measure => simp [intOf]
      · have hput : putL l s = l := by unfold putL; rw [if_neg hle]
        have HP := Lib.hid hput; clear hput
        have hle' : 16384 < (l.length : Int) := by omega
        clear hle
        go_wp2_with (go_at_call 79; refine cLen.mono ?_; rintro e w1 ⟨rfl, rfl⟩)
        go_roundw
        case rel => exact ⟨1, by omega, by go_num, fun h => absurd h (by omega), fun _ => ⟨⟨_, _, by rw [HP.out]; exact HH.out⟩, Below.refl _ _, Nat.le_refl _⟩⟩
        case measure => simp [intOf]
    · obtain rfl : k = 1 := by omega
      have hd := h1 rfl
      clear h0 h1 hk hk1
      obtain ⟨p', v', hb'⟩ := hd.bld
      have cLen := Bld_Len hb'
      have HD := Lib.hid hd
      obtain ⟨n, hn⟩ : ∃ n, (putL l s).length = n := ⟨_, rfl⟩
      rw [hn] at cLen
      have HN := Lib.hid hn
      clear hd hn hb'
      go_wp2_with (go_at_call 79; refine cLen.mono ?_; rintro e w1 ⟨rfl, rfl⟩)
      go_ret
      exact ⟨by rw [HN.out]; congr 2; simp; omega, HD.out⟩
def joinF (sep : ByteArray) : Nat → List UInt8 → List ByteArray → List UInt8
  | _, acc, [] => acc
  | i, acc, s :: r => joinF sep (i + 1) (putL (if 0 < i then putL acc sep else acc) s) r
def texts_Join.f (k : Nat) (l0 : List ByteArray) (a1 : ByteArray) : Option (ByteArray × Int) :=
  if (∀ s ∈ a1 :: l0, s.size ≤ 70368744177664) ∧ l0.length ≤ 1099511627776 then (texts_Checks.f k (l0 ++ [a1])).bind fun e => texts_whole.f ⟨(joinF a1 0 [] l0).toArray⟩ e else none
theorem bld_new (W : World) (B : Nat) (hB : B ≤ W.heap.size) : Bld 67 B W.heap.size (.pointer none) (.slice none 0 0) [] [] (W.alloc (.cells #[.pointer none, .slice none 0 0] 67)) :=
  ⟨hB, World.alloc_heap_new _ _, World.ownsRow_nil _ _ _ _, .inl rfl, by kernel_rfl, by decide⟩
end Go.Proofs.YtdhjdddjgcfhkaaDoor.B

end

section
/- Texts cut and joined, plain; what Split and Join of texts tell. -/
set_option linter.unusedVariables false
set_option linter.unusedSimpArgs false
namespace Go.Proofs.YtdhjdddjgcfhkaaDoor.P
open Go.Lib Go.RowKit Go.Proofs.YtdhjdddjgcfhkaaDoor.B Go.Proofs.YtdhjdddjgcfhkaaDoorW.PrintWords

def cutA (sep s : List UInt8) : List (List UInt8) := splitK sep 0 (s.length + 1) s
theorem splitK_more (sep : List UInt8) (hsep : sep ≠ []) : ∀ (n m : Nat) (s : List UInt8), s.length < n → s.length < m → splitK sep 0 n s = splitK sep 0 m s
  | n, m, s, hn, hm => by
    obtain ⟨n, rfl⟩ : ∃ n', n = n' + 1 := ⟨n - 1, by omega⟩
    obtain ⟨m, rfl⟩ : ∃ m', m = m' + 1 := ⟨m - 1, by omega⟩
    have hp : 0 < sep.length := List.length_pos_iff.2 hsep
    simp only [splitK]
    by_cases h : (index s sep == -1) = true
    · rw [if_pos h, if_pos h]
    · rw [if_neg h, if_neg h]
      have hr := index_room s sep (by have := index_ge s sep; have : index s sep ≠ -1 := fun e => h (by simp [e]); omega)
      have hg : 0 ≤ index s sep := by have := index_ge s sep; have : index s sep ≠ -1 := fun e => h (by simp [e]); omega
      rw [splitK_more sep hsep n m _ (by rw [List.length_drop]; omega) (by rw [List.length_drop]; omega)]
termination_by n _ _ => n
theorem cutA_miss (sep s : List UInt8) (h : index s sep = -1) : cutA sep s = [s] := by
  unfold cutA; simp only [splitK]; rw [if_pos (by simp [h])]
theorem cutA_hit (sep s : List UInt8) (hsep : sep ≠ []) (i : Nat) (h : index s sep = (i : Int)) : cutA sep s = s.take i :: cutA sep (s.drop (i + sep.length)) := by
  have hp : 0 < sep.length := List.length_pos_iff.2 hsep
  have hr := index_room s sep (by omega)
  unfold cutA
  conv => lhs; simp only [splitK]
  rw [if_neg (by simp [h]), h, Int.toNat_natCast, Nat.add_zero, splitK_more sep hsep s.length ((s.drop (i + sep.length)).length + 1) _ (by rw [List.length_drop]; omega) (by omega)]
theorem splitK_count (sep : List UInt8) (hsep : sep ≠ []) : ∀ (n : Nat) (s : List UInt8), splitK sep 0 (countFrom sep n s) s = splitK sep 0 n s
  | 0, _ => rfl
  | n + 1, s => by
    simp only [countFrom]
    by_cases h : (index s sep == -1) = true
    · rw [if_pos h]; simp only [splitK]; rw [if_pos h]
    · rw [if_neg h, Nat.add_comm]; simp only [splitK]; rw [if_neg h, if_neg h, splitK_count sep hsep n]
theorem split_cutA (sep s : List UInt8) (hsep : sep ≠ []) : splitK sep 0 (count s sep) s = cutA sep s := splitK_count sep hsep _ s
/-- An instance, by its place. -/
theorem hit_parts (sep s : List UInt8) (i : Nat) (h : index s sep = (i : Int)) : s = s.take i ++ (sep ++ s.drop (i + sep.length)) := by
  rcases index_spec s sep with ⟨h1, _⟩ | ⟨j, h1, h2, h3, _⟩
  · omega
  · obtain rfl : j = i := by omega
    unfold occAt at h3
    obtain ⟨r, hr⟩ := List.isPrefixOf_iff_prefix.1 h3
    have e : s.drop (j + sep.length) = r := by rw [← List.drop_drop, ← hr, List.drop_left]
    rw [e, hr, List.take_append_drop]
theorem cutA_cases (sep s : List UInt8) (hsep : sep ≠ []) : (index s sep = -1 ∧ cutA sep s = [s]) ∨ ∃ i : Nat, index s sep = (i : Int) ∧ i + sep.length ≤ s.length ∧ cutA sep s = s.take i :: cutA sep (s.drop (i + sep.length)) ∧ s = s.take i ++ (sep ++ s.drop (i + sep.length)) := by
  by_cases h : index s sep = -1
  · exact .inl ⟨h, cutA_miss sep s h⟩
  · have hg := index_ge s sep
    refine .inr ⟨(index s sep).toNat, by omega, ?_, cutA_hit sep s hsep _ (by omega), hit_parts sep s _ (by omega)⟩
    have := index_room s sep (by omega)
    omega
/-- Joined. -/
def joinL (sep : List UInt8) : List (List UInt8) → List UInt8
  | [] => []
  | [x] => x
  | x :: y :: r => x ++ (sep ++ joinL sep (y :: r))
theorem cutA_ne (sep s : List UInt8) : cutA sep s ≠ [] := by
  unfold cutA; simp only [splitK]; split <;> simp
theorem join_cons (sep x : List UInt8) (r : List (List UInt8)) (h : r ≠ []) : joinL sep (x :: r) = x ++ (sep ++ joinL sep r) := by
  match r, h with
  | y :: r, _ => rfl
theorem join_cutA (sep : List UInt8) (hsep : sep ≠ []) : ∀ (n : Nat) (s : List UInt8), s.length ≤ n → joinL sep (cutA sep s) = s
  | n, s, hn => by
    have hp : 0 < sep.length := List.length_pos_iff.2 hsep
    rcases cutA_cases sep s hsep with ⟨_, e⟩ | ⟨i, _, hle, e, hs⟩
    · rw [e]; rfl
    · obtain ⟨n, rfl⟩ : ∃ n', n = n' + 1 := ⟨n - 1, by omega⟩
      rw [e, join_cons _ _ _ (cutA_ne _ _), join_cutA sep hsep n _ (by rw [List.length_drop]; omega)]
      exact hs.symm
termination_by n => n
theorem cutA_lens (sep : List UInt8) (hsep : sep ≠ []) : ∀ (n : Nat) (s : List UInt8), s.length ≤ n → (∀ x ∈ cutA sep s, x.length ≤ s.length) ∧ (cutA sep s).length ≤ s.length + 1
  | n, s, hn => by
    have hp : 0 < sep.length := List.length_pos_iff.2 hsep
    rcases cutA_cases sep s hsep with ⟨_, e⟩ | ⟨i, _, hle, e, hsx⟩
    · rw [e]; exact ⟨fun x hx => by simp at hx; subst hx; exact Nat.le_refl _, by simp⟩
    · obtain ⟨n, rfl⟩ : ∃ n', n = n' + 1 := ⟨n - 1, by omega⟩
      obtain ⟨i1, i2⟩ := cutA_lens sep hsep n (s.drop (i + sep.length)) (by rw [List.length_drop]; omega)
      rw [e]
      rw [List.length_drop] at i1 i2
      refine ⟨fun x hx => ?_, by rw [List.length_cons]; omega⟩
      rcases List.mem_cons.1 hx with rfl | hx
      · rw [List.length_take]; omega
      · have := i1 x hx; omega
termination_by n => n
theorem Txt.count {l : List UInt8} {cs : List (List UInt8)} {rs : List Nat} (h : Txt l cs rs) : ∀ (s : ByteArray) (i fuel : Nat), s.data.toList.drop i = l → l.length ≤ fuel → runeCountFrom s fuel i = cs.length := by
  induction h with
  | nil =>
    intro s i fuel e _
    have : s.size ≤ i := by rw [size_eq]; exact List.drop_eq_nil_iff.1 e
    exact runeCountFrom_end s fuel i (by omega)
  | @cons c r l cs rs hc ht ih =>
    intro s i fuel e hf
    have hp := hc.pos
    rw [List.length_append] at hf
    obtain ⟨fuel, rfl⟩ : ∃ f, fuel = f + 1 := ⟨fuel - 1, by omega⟩
    have hd : Utf8.decode s i = (r, c.length) := by rw [← decodeL_drop, e, hc.app]
    have hi : i < s.size := by
      rw [size_eq]
      apply Nat.lt_of_not_le; intro h
      rw [List.drop_eq_nil_of_le h] at e
      exact absurd (List.append_eq_nil_iff.1 e.symm).1 hc.1
    simp only [runeCountFrom]
    rw [if_pos hi, hd, ih s (i + c.length) fuel (by rw [← List.drop_drop, e, List.drop_left]) (by omega), List.length_cons]
    omega
theorem Txt.count' {s : ByteArray} {cs : List (List UInt8)} {rs : List Nat} (h : Txt s.data.toList cs rs) : runeCount s = cs.length :=
  h.count s 0 s.size (List.drop_zero ..) (by rw [← size_eq]; exact Nat.le_refl _)
def mkS (l : List UInt8) : ByteArray := ⟨l.toArray⟩
theorem mkS_data (l : List UInt8) : (mkS l).data.toList = l := rfl
theorem ext_mk (s : ByteArray) (a b : Nat) : s.extract a b = mkS ((s.data.toList.drop a).take (b - a)) := extract_eq s a b
theorem mkS_size (l : List UInt8) : (mkS l).size = l.length := by rw [size_eq]; rfl
theorem decodeGo_mk (l : List UInt8) (h : l ≠ []) : decodeGo (mkS l) = decodeL l := by
  unfold decodeGo
  rw [if_neg (by rw [mkS_size]; have := List.length_pos_iff.2 h; omega)]
  rfl
set_option maxHeartbeats 1000000 in
theorem explode_l (n : Nat) (hn : n < 9223372036854775807) : ∀ (cs : List (List UInt8)) (c : List UInt8) (rs : List Nat) (l : List UInt8) (done : List ByteArray) (k : Nat), Txt l (c :: cs) rs → done.length + (cs.length + 1) = n → cs.length + 1 < k →
    strings_explode.l0 k (mkS l) (n : Int) (done ++ List.replicate (cs.length + 1) (⟨#[]⟩ : ByteArray)) (done.length : Int) = some (done ++ (c :: cs).map mkS)
  | [], c, rs, l, done, k, ht, hd, hk => by
    obtain ⟨k, rfl⟩ : ∃ k', k = k' + 1 := ⟨k - 1, by omega⟩
    simp only [List.length_nil] at hd
    simp only [strings_explode.l0]
    rw [w64 (by omega) (by omega), if_neg (by omega), if_pos (by omega), if_pos (by omega), if_pos (by simp; omega)]
    cases ht with
    | cons hc hr =>
      cases hr
      rw [show ((n : Int) - 1).toNat = done.length by omega]
      simp [List.set_append_right]
  | d :: cs, c, rs, l, done, k, ht, hd, hk => by
    obtain ⟨k, rfl⟩ : ∃ k', k = k' + 1 := ⟨k - 1, by omega⟩
    simp only [List.length_cons] at hd hk
    cases ht with
    | @cons c r l cs rs hc hr =>
      have hne : c ++ l ≠ [] := by simp [hc.1]
      have hp := hc.pos
      have ih := explode_l n hn cs d _ l (done ++ [mkS c]) k hr (by simp; omega) (by omega)
      simp only [strings_explode.l0]
      rw [w64 (x := (n : Int) - 1) (by omega) (by omega), if_pos (by omega)]
      unfold utf8_DecodeRuneInString.f
      simp only [Option.bind_some]
      rw [decodeGo_mk _ hne, hc.app l]
      simp only
      rw [if_pos (by omega), mkS_size, if_pos (by simp; omega), if_pos (by omega), if_pos (by simp; omega), Int.toNat_natCast, Int.toNat_natCast, ext_mk, ext_mk, mkS_data, w64 (by omega) (by omega)]
      rw [List.drop_left, List.drop_zero, Nat.sub_zero, List.take_left, List.length_append, List.take_of_length_le (by omega)]
      have e1 : (done ++ List.replicate (cs.length + 1 + 1) (⟨#[]⟩ : ByteArray)).set done.length (mkS c) = (done ++ [mkS c]) ++ List.replicate (cs.length + 1) (⟨#[]⟩ : ByteArray) := by
        rw [List.set_append_right _ _ (Nat.le_refl _), Nat.sub_self, List.replicate_succ, List.set_cons_zero, List.append_assoc]; rfl
      have e2 : ((done.length : Int) + 1) = ((done ++ [mkS c]).length : Int) := by simp
      simp only [List.length_cons]
      rw [e1, e2, ih, List.append_assoc]
      rfl
theorem explode_tells (s : ByteArray) (cs : List (List UInt8)) (rs : List Nat) (ht : Txt s.data.toList cs rs) (hne : cs ≠ []) (hs : s.size < 17592186044416) : Tells (fun k => strings_explode.f k s (-1)) (cs.map mkS) := by
  have hlen := ht.lens
  rw [← size_eq] at hlen
  unfold strings_explode.f utf8_RuneCountInString.f
  rw [if_pos (by omega)]
  simp only [Option.bind_some]
  refine Tells.ifp (by decide) ?_
  refine Tells.succ (Tells.succ ?_)
  simp only [strings_explode.j0, strings_explode.j1, if_true]
  rw [ht.count']
  match cs, hne, ht with
  | c :: cs, _, ht =>
    refine Tells.ifp (by omega) (Tells.ifp (by simp only [List.length_cons] at hlen ⊢; omega) ?_)
    refine ⟨cs.length + 2, fun k hk => ?_⟩
    have := explode_l (cs.length + 1) (by simp at hlen; omega) cs c rs s.data.toList [] k ht (by simp) (by omega)
    rw [show mkS s.data.toList = s from mk_data s] at this
    simpa using this
/-- The pieces of a text. -/
def cutV (s sep : List UInt8) (cs : List (List UInt8)) : List (List UInt8) := if s = [] then [] else if sep = [] then cs else cutA sep s
theorem splitB_cutA (s sep : ByteArray) (hsep : sep.size ≠ 0) : splitB sep 0 (countB s sep) s = (cutA sep.data.toList s.data.toList).map mkS := by
  have hne : sep.data.toList ≠ [] := by
    intro h; apply hsep; rw [size_eq, h]; rfl
  rw [← split_cutA _ _ hne, ← splitB_data, List.map_map]
  conv => lhs; rw [← List.map_id (splitB sep 0 (countB s sep) s)]
  exact List.map_congr_left (fun x _ => (mk_data x).symm)
theorem arithCut_tells (s sep : ByteArray) (hs : s.size < 4294967281) (cs : List (List UInt8)) (rs : List Nat) (ht : sep.size = 0 → Txt s.data.toList cs rs) :
    Tells (fun k => arith_Cut.f k s sep) ((cutV s.data.toList sep.data.toList cs).map mkS) := by
  unfold arith_Cut.f cutV
  by_cases h0 : s.data.toList = []
  · rw [if_pos h0]
    exact Tells.ifp (by rw [toList_data]; exact h0) (Tells.pure _)
  · rw [if_neg h0]
    refine Tells.ifn (by rw [toList_data]; exact h0) ?_
    refine Tells.bind ?_ (Tells.pure _)
    unfold strings_Split.f
    by_cases h1 : sep.size = 0
    · have h1' : sep.data.toList = [] := List.eq_nil_of_length_eq_zero (by rw [← size_eq]; exact h1)
      rw [if_pos h1']
      refine Tells.ifp h1 ?_
      have t := ht h1
      refine explode_tells s cs rs t ?_ (by omega)
      rintro rfl
      cases hl : s.data.toList with
      | nil => exact h0 hl
      | cons b t2 => rw [hl] at t; have := t.flat; simp at this
    · have h1' : sep.data.toList ≠ [] := by
        intro h; apply h1; rw [size_eq, h]; rfl
      rw [if_neg h1']
      refine Tells.ifn h1 ?_
      rw [if_pos hs, splitB_cutA s sep h1]
      exact Tells.pure _
def wholesV (l : List (List UInt8)) : List ByteArray × Int := if (∀ x ∈ l, x.length ≤ 16384) then (l.map mkS, 0) else ([], 5)
theorem wholes_ok (l : List (List UInt8)) : texts_wholes.f (l.map mkS) 0 = some (wholesV l) := by
  unfold texts_wholes.f wholesV
  rw [if_pos rfl]
  by_cases h : ∀ x ∈ l, x.length ≤ 16384
  · rw [if_pos h, if_neg]
    rw [List.any_eq_true]
    rintro ⟨x, hx, hd⟩
    obtain ⟨y, hy, rfl⟩ := List.mem_map.1 hx
    have := of_decide_eq_true hd
    rw [mkS_size] at this
    have := h y hy
    omega
  · rw [if_neg h, if_pos]
    rw [List.any_eq_true]
    have ⟨x, hx, hl⟩ : ∃ x ∈ l, ¬ x.length ≤ 16384 := by
      apply Classical.byContradiction; intro hn
      exact h (fun x hx => Classical.byContradiction fun hc => hn ⟨x, hx, hc⟩)
    exact ⟨mkS x, List.mem_map.2 ⟨x, hx, rfl⟩, decide_eq_true (by rw [mkS_size]; omega)⟩
end Go.Proofs.YtdhjdddjgcfhkaaDoor.P

end

section
namespace Go.Proofs.YtdhjdddjgcfhkaaDoor.B
open Go.RowKit Go.Proofs.YtdhjdddjgcfhkaaDoorW.PrintWords Go.Proofs.YtdhjdddjgcfhkaaDoorW.PrintLast Go.Proofs.YtdhjdddjgcfhkaaDoorW.PrintMore
attribute [local go_sem] max2_int min2_int max_two min_two max_three min_three max_four min_four   -- for this text's walks alone
set_option linter.unusedVariables false
set_option linter.unusedSimpArgs false

def texts_Repeat.j0 : Nat → ByteArray → Int → Bool → Option (ByteArray × Int)
  | 0, _, _, _ => none
  | k + 1, x0, x1, x18 => if x18 = true then (some ((⟨#[]⟩ : ByteArray), 0)) else ((strings_Repeat.f x0 (mn x1 16385)).bind fun t236 => ((texts_whole.f t236 0).bind fun bt237 => (some (bt237.1, bt237.2))))
def texts_Repeat.f (k : Nat) (a0 : ByteArray) (a1 : Int) : Option (ByteArray × Int) := (texts_Checks.f k (([a0] : List ByteArray))).bind fun t235 => (if t235 = 0 then (if a0.toList = ([] : List UInt8) then (texts_Repeat.j0 k a0 a1 true) else (texts_Repeat.j0 k a0 a1 (decide (a1 < 1)))) else (some ((⟨#[]⟩ : ByteArray), t235)))
set_option maxHeartbeats 8000000 in
set_option maxRecDepth 100000 in
theorem texts_Repeat.calls (k : Nat) (a0 : ByteArray) (a1 : Int) (r1 : ByteArray) (r2 : Int) (w : World) (hG : Aside0 (GlobG w)) (h : texts_Repeat.f k a0 a1 = some (r1, r2)) :
    Calls Tryd.prog 21 #[.string a0, .int .i64 a1] w fun e w' => e = .returned (.tuple #[.string r1, .int .i64 r2]) ∧ Below w.heap.size w w' := by
  have HB := Aside0.mk (Below.refl w.heap.size w)
  have H : ((texts_Checks.f k (([a0] : List ByteArray))).bind fun t235 => (if t235 = 0 then (if a0.toList = ([] : List UInt8) then (texts_Repeat.j0 k a0 a1 true) else (texts_Repeat.j0 k a0 a1 (decide (a1 < 1)))) else (some ((⟨#[]⟩ : ByteArray), t235)))) = some (r1, r2) := h
  clear h
  obtain ⟨y232, hy232⟩ : ∃ y_ : List ByteArray, y_ = (([a0] : List ByteArray)) := ⟨_, rfl⟩
  replace H : ((texts_Checks.f k y232).bind fun t235 => (if t235 = 0 then (if a0.toList = ([] : List UInt8) then (texts_Repeat.j0 k a0 a1 true) else (texts_Repeat.j0 k a0 a1 (decide (a1 < 1)))) else (some ((⟨#[]⟩ : ByteArray), t235)))) = some (r1, r2) := by first | (rw [hy232]; with_reducible exact H) | (have H2_ := (Option.bind_some _ _).symm.trans H; rw [hy232]; with_reducible exact H2_) | (have H2_ := (Option.bind_some _ _).symm.trans H; with_reducible exact H2_) | with_reducible exact H | (rw [hy232]; exact H) | exact H
  have Ny232 := Aside0.mk hy232
  clear hy232
  replace H := Option.bind_eq_some_iff.mp H
  obtain ⟨t235, A30, H⟩ := H
  replace H : (if t235 = 0 then (if a0.toList = ([] : List UInt8) then (texts_Repeat.j0 k a0 a1 true) else (texts_Repeat.j0 k a0 a1 (decide (a1 < 1)))) else (some ((⟨#[]⟩ : ByteArray), t235))) = some (r1, r2) := H
  have A3 := Aside0.mk A30
  clear A30
  by_cases c4 : t235 = 0
  · rw [if_pos c4] at H
    have c4b0 : (t235 == 0) = true := beq_iff_eq.mpr c4
    have c4b1 : (t235 != 0) = false := bne_eq_false_iff_eq.mpr c4
    clear c4
    have HC5 := Aside0.mk H
    clear H
    go_enter Tryd.func21, Tryd.ntmps21
    go_upto_region 4 with (first | ((with_reducible refine gate_dst (N := 8) rfl ?_); refine Kd.R_lit Kd.string _ 9 ?hg (N := 8) ?hd (xs := ([a0] : List ByteArray)) (inner := [.string a0]) (ok := fun _ => True) (okp := fun _ => True) ?hr ?hp (fun _ hk => hk) trivial (Below.refl _ _) (Nat.le_refl _) (by simp) ?_; (case hd => rfl); (case hg => rfl); (case hr => first | (go_simp; done) | (go_simp; rfl)); (case hp => exact (Reps.one (show Kd.M Kd.string _ _ _ a0 [.string a0] from rfl) (Reps.none _ _))); intro v233 w6 ho7 hb hg_ hnew_; clear hg_ hnew_; (first | rw [← Ny232.out] at ho7 | (simp only [Int.reduceToNat] at ho7; rw [← Ny232.out] at ho7)); have n0_ := Aside0.mk (Kd.R_lower ho7 (below_size (by repeat (first | (with_reducible first | exact HB.out | apply below_alloc | apply pw_below_drewN | apply below_drew1) | exact HB.out)))); have n1_ := Aside0.mk (below_step (by repeat (first | (with_reducible first | exact HB.out | apply below_alloc | apply pw_below_drewN | apply below_drew1) | exact HB.out)) hb); clear HB; have HO234 := n0_; have HB := n1_; clear n0_ n1_; clear hb ho7; obtain ⟨Ao8, co8, eo8⟩ := Kd.R_slice HO234.out; subst eo8) | ((with_reducible refine gate_callee (f := 43) rfl ?_); refine goesL_ (some 9) rfl rfl Tryd.func43 (by kernel_rfl) rfl #[.slice Ao8 y232.length co8] rfl (by (try simp only [List.map_toArray, List.map_cons, List.map_nil]); first | done | rfl | (simp only [List.length_drop, List.length_take]; rfl)) ?_; (with_reducible refine (texts_Checks.calls k _ _ y232 t235 _ ?side1 ?side2 ?side3 A3.out).mono ?_); (case side1 => repeat (first | exact (Kd.R_reads' HO234.out).2.2 | (with_reducible refine Kd.C_alloc ?_ _) | (with_reducible refine Kd.C_drewN ?_ _) | (with_reducible refine Kd.C_drew ?_))); (case side2 => exact (Kd.R_reads' HO234.out).2.1); (case side3 => exact Aside0.mk (GlobG.below (by repeat (first | (with_reducible first | exact HB.out | apply below_alloc | apply pw_below_drewN | apply below_drew1) | exact HB.out)) hG.out)); rintro e w9 ⟨rfl, hb⟩; refine ⟨_, rfl, ?_⟩; have n0_ := Aside0.mk (Kd.R_below (by (with_reducible repeat (first | apply Kd.R_alloc | apply Kd.R_drewN | apply Kd.R_drew)); exact HO234.out) hb); have n1_ := Aside0.mk (below_step (by repeat (first | (with_reducible first | exact HB.out | apply below_alloc | apply pw_below_drewN | apply below_drew1) | exact HB.out)) hb); clear HO234; clear HB; have HO234 := n0_; have HB := n1_; clear n0_ n1_; (try clear hb); (try clear hb2); (try clear hk); (try clear hi)))
    (try simp only [Act.put, List.setIfInBounds_toArray, List.set_cons_zero, List.set_cons_succ])
    go_cut [18] (fun v18 wc => ∃ (kq : Nat) (x18_4 : Bool), v18 = .bool x18_4 ∧ Aside0 (texts_Repeat.j0 kq a0 a1 x18_4 = some (r1, r2)) ∧ Aside0 (kq ≤ k) ∧ Aside0 (Below w.heap.size w wc))
    case first =>
      have H := HC5.out
      clear HC5
      by_cases c10 : a0.toList = ([] : List UInt8)
      · rw [if_pos c10] at H
        have c10b0 : (a0.toList == ([] : List UInt8)) = true := beq_iff_eq.mpr c10
        have c10b1 : (a0.toList != ([] : List UInt8)) = false := bne_eq_false_iff_eq.mpr c10
        clear c10
        (first | rw [c10b0] | (simp only [i64_w, i32_w]; rw [c10b0]) | skip)
        have H' := Aside0.mk H
        clear H
        go_wp2
        go_meet
        case rel => exact ⟨_, (true), (by first | rfl | (simp; done) | (simp [*]; done)), H', ⟨by first | omega | exact Nat.le_refl _⟩, ⟨by repeat (first | (with_reducible first | exact HB.out | apply below_alloc | apply pw_below_drewN | apply below_drew1) | exact HB.out)⟩⟩
      · rw [if_neg c10] at H
        have c10b0 : (a0.toList == ([] : List UInt8)) = false := beq_eq_false_iff_ne.mpr c10
        have c10b1 : (a0.toList != ([] : List UInt8)) = true := bne_iff_ne.mpr c10
        (first | rw [c10b0] | (simp only [i64_w, i32_w]; rw [c10b0]) | skip)
        have H' := Aside0.mk H
        clear H
        go_wp2
        go_meet
        case rel => exact ⟨_, (decide (a1 < 1)), (by first | rfl | (simp; done) | (simp [*]; done)), H', ⟨by first | omega | exact Nat.le_refl _⟩, ⟨by repeat (first | (with_reducible first | exact HB.out | apply below_alloc | apply pw_below_drewN | apply below_drew1) | exact HB.out)⟩⟩
    case rest =>
      clear HC5
      try clear c1
      try clear c2
      try clear p2
      try clear c4
      try clear c4b0
      try clear c4b1
      try clear c10
      try clear c10b0
      try clear c10b1
      obtain ⟨kq, x18_4, rfl, HA, HJ4, HB⟩ := hcut
      cases kq with
      | zero => exact absurd HA.out (by simp [texts_Repeat.j0])
      | succ kj4 =>
        have H := HA.out
        clear HA
        simp only [texts_Repeat.j0] at H
        by_cases c11 : x18_4 = true
        · subst c11
          have H1 : (some ((⟨#[]⟩ : ByteArray), 0)) = some (r1, r2) := by rw [if_pos rfl] at H; exact H
          clear H
          have H := H1
          clear H1
          simp only [Option.some.injEq, Prod.mk.injEq] at H
          obtain ⟨rfl, rfl⟩ := H
          go_wp2
          go_ret2
          exact ⟨by first | rfl | (simp [errW_none, errW_some] <;> rfl) | (simp [*, errW_none, errW_some] <;> rfl), by repeat (first | (with_reducible first | exact HB.out | apply below_alloc | apply pw_below_drewN | apply below_drew1) | exact HB.out)⟩
        · replace c11 := Bool.eq_false_iff.mpr c11
          subst c11
          have H1 : ((strings_Repeat.f a0 (mn a1 16385)).bind fun t236 => ((texts_whole.f t236 0).bind fun bt237 => (some (bt237.1, bt237.2)))) = some (r1, r2) := by rw [if_neg (show ¬ (false = true) by decide)] at H; exact H
          clear H
          have H := H1
          clear H1
          obtain ⟨ji12, hji12⟩ : ∃ j_ : Int, (mn a1 16385) = j_ := ⟨_, rfl⟩
          replace H : ((strings_Repeat.f a0 (ji12)).bind fun t236 => ((texts_whole.f t236 0).bind fun bt237 => (some (bt237.1, bt237.2)))) = some (r1, r2) := by first | (rw [hji12] at H; exact H) | (simp only [hji12] at H ⊢; exact H)
          have hji12_ : (if 16385 < a1 then 16385 else a1) = ji12 := hji12
          replace H := Option.bind_eq_some_iff.mp H
          obtain ⟨t236, A130, H⟩ := H
          replace H : ((texts_whole.f t236 0).bind fun bt237 => (some (bt237.1, bt237.2))) = some (r1, r2) := H
          have A13 := Aside0.mk A130
          clear A130
          replace H := Option.bind_eq_some_iff.mp H
          obtain ⟨⟨t237, t238⟩, A140, H⟩ := H
          replace H : (some (t237, t238)) = some (r1, r2) := H
          have A14 := Aside0.mk A140
          clear A140
          simp only [Option.some.injEq, Prod.mk.injEq] at H
          obtain ⟨rfl, rfl⟩ := H
          go_wp2_with (first | ((with_reducible refine gate_callee (f := 55) rfl ?_); refine goesL_ (some 22) rfl rfl Tryd.func55 (by kernel_rfl) rfl #[.string a0, .int .i64 ji12] rfl (by (try simp only [List.map_toArray, List.map_cons, List.map_nil]); first | done | (simp only [hji12]; rfl) | rfl | (simp only [List.length_drop, List.length_take]; rfl)) ?_; (with_reducible refine (strings_Repeat.calls a0 ji12 t236 _ A13.out).mono ?_); rintro e w15 ⟨rfl, hb⟩; refine ⟨_, rfl, ?_⟩; have n0_ := Aside0.mk (below_step (by repeat (first | (with_reducible first | exact HB.out | apply below_alloc | apply pw_below_drewN | apply below_drew1) | exact HB.out)) hb); clear HB; have HB := n0_; clear n0_; (try clear hb); (try clear hb2); (try clear hk); (try clear hi)) | ((with_reducible refine gate_callee (f := 48) rfl ?_); refine goesL_ (some 23) rfl rfl Tryd.func48 (by kernel_rfl) rfl #[.string t236, .int .i64 0] rfl (by (try simp only [List.map_toArray, List.map_cons, List.map_nil]); first | done | rfl | (simp only [List.length_drop, List.length_take]; rfl)) ?_; (with_reducible refine (texts_whole.calls t236 0 t237 t238 _ A14.out).mono ?_); rintro e w' ⟨rfl, ⟨nd, rfl⟩⟩; refine ⟨_, rfl, ?_⟩))
          go_ret2
          exact ⟨by first | rfl | (simp [errW_none, errW_some] <;> rfl) | (simp only [← hji12]; first | rfl | (simp [errW_none, errW_some] <;> rfl)) | (simp [*, errW_none, errW_some] <;> rfl), by repeat (first | (with_reducible first | exact HB.out | apply below_alloc | apply pw_below_drewN | apply below_drew1) | exact HB.out)⟩
  · rw [if_neg c4] at H
    have c4b0 : (t235 == 0) = false := beq_eq_false_iff_ne.mpr c4
    have c4b1 : (t235 != 0) = true := bne_iff_ne.mpr c4
    simp only [Option.some.injEq, Prod.mk.injEq] at H
    obtain ⟨rfl, rfl⟩ := H
    go_enter Tryd.func21, Tryd.ntmps21
    go_wp2_with (first | ((with_reducible refine gate_dst (N := 8) rfl ?_); refine Kd.R_lit Kd.string _ 9 ?hg (N := 8) ?hd (xs := ([a0] : List ByteArray)) (inner := [.string a0]) (ok := fun _ => True) (okp := fun _ => True) ?hr ?hp (fun _ hk => hk) trivial (Below.refl _ _) (Nat.le_refl _) (by simp) ?_; (case hd => rfl); (case hg => rfl); (case hr => first | (go_simp; done) | (go_simp; rfl)); (case hp => exact (Reps.one (show Kd.M Kd.string _ _ _ a0 [.string a0] from rfl) (Reps.none _ _))); intro v233 w16 ho17 hb hg_ hnew_; clear hg_ hnew_; (first | rw [← Ny232.out] at ho17 | (simp only [Int.reduceToNat] at ho17; rw [← Ny232.out] at ho17)); have n0_ := Aside0.mk (Kd.R_lower ho17 (below_size (by repeat (first | (with_reducible first | exact HB.out | apply below_alloc | apply pw_below_drewN | apply below_drew1) | exact HB.out)))); have n1_ := Aside0.mk (below_step (by repeat (first | (with_reducible first | exact HB.out | apply below_alloc | apply pw_below_drewN | apply below_drew1) | exact HB.out)) hb); clear HB; have HO234 := n0_; have HB := n1_; clear n0_ n1_; clear hb ho17; obtain ⟨Ao18, co18, eo18⟩ := Kd.R_slice HO234.out; subst eo18) | ((with_reducible refine gate_callee (f := 43) rfl ?_); refine goesL_ (some 9) rfl rfl Tryd.func43 (by kernel_rfl) rfl #[.slice Ao18 y232.length co18] rfl (by (try simp only [List.map_toArray, List.map_cons, List.map_nil]); first | done | rfl | (simp only [List.length_drop, List.length_take]; rfl)) ?_; (with_reducible refine (texts_Checks.calls k _ _ y232 t235 _ ?side1 ?side2 ?side3 A3.out).mono ?_); (case side1 => repeat (first | exact (Kd.R_reads' HO234.out).2.2 | (with_reducible refine Kd.C_alloc ?_ _) | (with_reducible refine Kd.C_drewN ?_ _) | (with_reducible refine Kd.C_drew ?_))); (case side2 => exact (Kd.R_reads' HO234.out).2.1); (case side3 => exact Aside0.mk (GlobG.below (by repeat (first | (with_reducible first | exact HB.out | apply below_alloc | apply pw_below_drewN | apply below_drew1) | exact HB.out)) hG.out)); rintro e w19 ⟨rfl, hb⟩; refine ⟨_, rfl, ?_⟩; have n0_ := Aside0.mk (Kd.R_below (by (with_reducible repeat (first | apply Kd.R_alloc | apply Kd.R_drewN | apply Kd.R_drew)); exact HO234.out) hb); have n1_ := Aside0.mk (below_step (by repeat (first | (with_reducible first | exact HB.out | apply below_alloc | apply pw_below_drewN | apply below_drew1) | exact HB.out)) hb); clear HO234; clear HB; have HO234 := n0_; have HB := n1_; clear n0_ n1_; (try clear hb); (try clear hb2); (try clear hk); (try clear hi)))
    go_ret2
    exact ⟨by first | rfl | (simp [errW_none, errW_some] <;> rfl) | (simp [*, errW_none, errW_some] <;> rfl), by repeat (first | (with_reducible first | exact HB.out | apply below_alloc | apply pw_below_drewN | apply below_drew1) | exact HB.out)⟩
end Go.Proofs.YtdhjdddjgcfhkaaDoor.B

end

section
namespace Go.Proofs.YtdhjdddjgcfhkaaDoor.B
open Go.RowKit Go.Proofs.YtdhjdddjgcfhkaaDoorW.PrintWords Go.Proofs.YtdhjdddjgcfhkaaDoorW.PrintLast Go.Proofs.YtdhjdddjgcfhkaaDoorW.PrintMore
attribute [local go_sem] max2_int min2_int max_two min_two max_three min_three max_four min_four   -- for this text's walks alone
set_option linter.unusedVariables false
set_option linter.unusedSimpArgs false

def stringslite_Cut.f (a0 : ByteArray) (a1 : ByteArray) : Option (ByteArray × ByteArray × Bool) := (stringslite_Index.f a0 a1).bind fun t239 => (if t239 ≥ 0 then (if 0 ≤ t239 then (if t239 ≤ (a0.size : Int) then (if 0 ≤ (wrap64 (t239 + (a1.size : Int))) then (if (wrap64 (t239 + (a1.size : Int))) ≤ (a0.size : Int) then (some (a0.extract 0 (t239 : Int).toNat, a0.extract ((wrap64 (t239 + (a1.size : Int))) : Int).toNat a0.size, true)) else (none)) else (none)) else (none)) else (none)) else (some (a0, (⟨#[]⟩ : ByteArray), false)))
set_option maxHeartbeats 8000000 in
set_option maxRecDepth 100000 in
theorem stringslite_Cut.calls (a0 : ByteArray) (a1 : ByteArray) (r1 : ByteArray) (r2 : ByteArray) (r3 : Bool) (w : World) (hG : Aside0 (GlobG w)) (h : stringslite_Cut.f a0 a1 = some (r1, r2, r3)) :
    Calls Tryd.prog 88 #[.string a0, .string a1] w fun e w' => e = .returned (.tuple #[.string r1, .string r2, .bool r3]) ∧ Below w.heap.size w w' := by
  have HB := Aside0.mk (Below.refl w.heap.size w)
  have H : ((stringslite_Index.f a0 a1).bind fun t239 => (if t239 ≥ 0 then (if 0 ≤ t239 then (if t239 ≤ (a0.size : Int) then (if 0 ≤ (wrap64 (t239 + (a1.size : Int))) then (if (wrap64 (t239 + (a1.size : Int))) ≤ (a0.size : Int) then (some (a0.extract 0 (t239 : Int).toNat, a0.extract ((wrap64 (t239 + (a1.size : Int))) : Int).toNat a0.size, true)) else (none)) else (none)) else (none)) else (none)) else (some (a0, (⟨#[]⟩ : ByteArray), false)))) = some (r1, r2, r3) := h
  clear h
  replace H := Option.bind_eq_some_iff.mp H
  obtain ⟨t239, A30, H⟩ := H
  replace H : (if t239 ≥ 0 then (if 0 ≤ t239 then (if t239 ≤ (a0.size : Int) then (if 0 ≤ (wrap64 (t239 + (a1.size : Int))) then (if (wrap64 (t239 + (a1.size : Int))) ≤ (a0.size : Int) then (some (a0.extract 0 (t239 : Int).toNat, a0.extract ((wrap64 (t239 + (a1.size : Int))) : Int).toNat a0.size, true)) else (none)) else (none)) else (none)) else (none)) else (some (a0, (⟨#[]⟩ : ByteArray), false))) = some (r1, r2, r3) := H
  have A3 := Aside0.mk A30
  clear A30
  by_cases c4 : t239 ≥ 0
  · rw [if_pos c4] at H
    have c4b0 : decide (0 ≤ t239) = true := decide_eq_true c4
    clear c4
    by_cases c5 : 0 ≤ t239
    · rw [if_pos c5] at H
      have c5b0 := eq_true c5
      have c5b1 : decide (0 ≤ t239) = true := decide_eq_true c5
      clear c5
      by_cases c6 : t239 ≤ (a0.size : Int)
      · rw [if_pos c6] at H
        have c6b0 := eq_true c6
        have c6b1 : decide (t239 ≤ (a0.size : Int)) = true := decide_eq_true c6
        clear c6
        obtain ⟨ji7, hji7⟩ : ∃ j_ : Int, (wrap64 (t239 + (a1.size : Int))) = j_ := ⟨_, rfl⟩
        replace H : (if 0 ≤ (ji7) then (if (ji7) ≤ (a0.size : Int) then (some (a0.extract 0 (t239 : Int).toNat, a0.extract ((ji7) : Int).toNat a0.size, true)) else (none)) else (none)) = some (r1, r2, r3) := by first | (rw [hji7] at H; exact H) | (simp only [hji7] at H ⊢; exact H)
        (try rw [hji7] at A3)
        have hji7w : (IntKind.i64.wrap (t239 + (a1.size : Int))) = ji7 := (i64_w _).trans hji7
        by_cases c8 : 0 ≤ (ji7)
        · rw [if_pos c8] at H
          have c8b0 := eq_true c8
          have c8b1 : decide (0 ≤ (ji7)) = true := decide_eq_true c8
          clear c8
          by_cases c9 : (ji7) ≤ (a0.size : Int)
          · rw [if_pos c9] at H
            have c9b0 := eq_true c9
            have c9b1 : decide ((ji7) ≤ (a0.size : Int)) = true := decide_eq_true c9
            clear c9
            simp only [Option.some.injEq, Prod.mk.injEq] at H
            obtain ⟨rfl, rfl, rfl⟩ := H
            go_enter Tryd.func88, Tryd.ntmps88
            go_wp2_with (first | (go_at_call 112; (with_reducible refine (stringslite_Index.calls a0 a1 t239 _ ?side1 A3.out).mono ?_); (case side1 => exact Aside0.mk (GlobG.below (by repeat (first | (with_reducible first | exact HB.out | apply below_alloc | apply pw_below_drewN | apply below_drew1) | exact HB.out)) hG.out)); rintro e w10 ⟨rfl, hb⟩; have n0_ := Aside0.mk (below_step (by repeat (first | (with_reducible first | exact HB.out | apply below_alloc | apply pw_below_drewN | apply below_drew1) | exact HB.out)) hb); clear HB; have HB := n0_; clear n0_; (try clear hb); (try clear hb2); (try clear hk); (try clear hi)))
            repeat (go_quiet (first | (go_at_call 112; (with_reducible refine (stringslite_Index.calls a0 a1 t239 _ ?side1 A3.out).mono ?_); (case side1 => exact Aside0.mk (GlobG.below (by repeat (first | (with_reducible first | exact HB.out | apply below_alloc | apply pw_below_drewN | apply below_drew1) | exact HB.out)) hG.out)); rintro e w10 ⟨rfl, hb⟩; have n0_ := Aside0.mk (below_step (by repeat (first | (with_reducible first | exact HB.out | apply below_alloc | apply pw_below_drewN | apply below_drew1) | exact HB.out)) hb); clear HB; have HB := n0_; clear n0_; (try clear hb); (try clear hb2); (try clear hk); (try clear hi))); try go_wp2_with (first | (go_at_call 112; (with_reducible refine (stringslite_Index.calls a0 a1 t239 _ ?side1 A3.out).mono ?_); (case side1 => exact Aside0.mk (GlobG.below (by repeat (first | (with_reducible first | exact HB.out | apply below_alloc | apply pw_below_drewN | apply below_drew1) | exact HB.out)) hG.out)); rintro e w10 ⟨rfl, hb⟩; have n0_ := Aside0.mk (below_step (by repeat (first | (with_reducible first | exact HB.out | apply below_alloc | apply pw_below_drewN | apply below_drew1) | exact HB.out)) hb); clear HB; have HB := n0_; clear n0_; (try clear hb); (try clear hb2); (try clear hk); (try clear hi))))
            go_ret3
            exact ⟨by first | rfl | (simp [errW_none, errW_some] <;> rfl) | (simp only [← hji7]; first | rfl | (simp [errW_none, errW_some] <;> rfl)) | (simp [*, errW_none, errW_some] <;> rfl), by repeat (first | (with_reducible first | exact HB.out | apply below_alloc | apply pw_below_drewN | apply below_drew1) | exact HB.out)⟩
          · rw [if_neg c9] at H
            exact absurd H (by simp)
        · rw [if_neg c8] at H
          exact absurd H (by simp)
      · rw [if_neg c6] at H
        exact absurd H (by simp)
    · rw [if_neg c5] at H
      exact absurd H (by simp)
  · rw [if_neg c4] at H
    have c4b0 : decide (0 ≤ t239) = false := decide_eq_false c4
    clear c4
    simp only [Option.some.injEq, Prod.mk.injEq] at H
    obtain ⟨rfl, rfl, rfl⟩ := H
    go_enter Tryd.func88, Tryd.ntmps88
    go_wp2_with (first | (go_at_call 112; (with_reducible refine (stringslite_Index.calls a0 a1 t239 _ ?side1 A3.out).mono ?_); (case side1 => exact Aside0.mk (GlobG.below (by repeat (first | (with_reducible first | exact HB.out | apply below_alloc | apply pw_below_drewN | apply below_drew1) | exact HB.out)) hG.out)); rintro e w11 ⟨rfl, hb⟩; have n0_ := Aside0.mk (below_step (by repeat (first | (with_reducible first | exact HB.out | apply below_alloc | apply pw_below_drewN | apply below_drew1) | exact HB.out)) hb); clear HB; have HB := n0_; clear n0_; (try clear hb); (try clear hb2); (try clear hk); (try clear hi)))
    repeat (go_quiet (first | (go_at_call 112; (with_reducible refine (stringslite_Index.calls a0 a1 t239 _ ?side1 A3.out).mono ?_); (case side1 => exact Aside0.mk (GlobG.below (by repeat (first | (with_reducible first | exact HB.out | apply below_alloc | apply pw_below_drewN | apply below_drew1) | exact HB.out)) hG.out)); rintro e w11 ⟨rfl, hb⟩; have n0_ := Aside0.mk (below_step (by repeat (first | (with_reducible first | exact HB.out | apply below_alloc | apply pw_below_drewN | apply below_drew1) | exact HB.out)) hb); clear HB; have HB := n0_; clear n0_; (try clear hb); (try clear hb2); (try clear hk); (try clear hi))); try go_wp2_with (first | (go_at_call 112; (with_reducible refine (stringslite_Index.calls a0 a1 t239 _ ?side1 A3.out).mono ?_); (case side1 => exact Aside0.mk (GlobG.below (by repeat (first | (with_reducible first | exact HB.out | apply below_alloc | apply pw_below_drewN | apply below_drew1) | exact HB.out)) hG.out)); rintro e w11 ⟨rfl, hb⟩; have n0_ := Aside0.mk (below_step (by repeat (first | (with_reducible first | exact HB.out | apply below_alloc | apply pw_below_drewN | apply below_drew1) | exact HB.out)) hb); clear HB; have HB := n0_; clear n0_; (try clear hb); (try clear hb2); (try clear hk); (try clear hi))))
    go_ret3
    exact ⟨by first | rfl | (simp [errW_none, errW_some] <;> rfl) | (simp [*, errW_none, errW_some] <;> rfl), by repeat (first | (with_reducible first | exact HB.out | apply below_alloc | apply pw_below_drewN | apply below_drew1) | exact HB.out)⟩
def strings_Cut.f (a0 : ByteArray) (a1 : ByteArray) : Option (ByteArray × ByteArray × Bool) := (stringslite_Cut.f a0 a1).bind fun bt240 => (some (bt240.1, bt240.2.1, bt240.2.2))
set_option maxHeartbeats 8000000 in
set_option maxRecDepth 100000 in
theorem strings_Cut.calls (a0 : ByteArray) (a1 : ByteArray) (r1 : ByteArray) (r2 : ByteArray) (r3 : Bool) (w : World) (hG : Aside0 (GlobG w)) (h : strings_Cut.f a0 a1 = some (r1, r2, r3)) :
    Calls Tryd.prog 56 #[.string a0, .string a1] w fun e w' => e = .returned (.tuple #[.string r1, .string r2, .bool r3]) ∧ Below w.heap.size w w' := by
  have HB := Aside0.mk (Below.refl w.heap.size w)
  have H : ((stringslite_Cut.f a0 a1).bind fun bt240 => (some (bt240.1, bt240.2.1, bt240.2.2))) = some (r1, r2, r3) := h
  clear h
  replace H := Option.bind_eq_some_iff.mp H
  obtain ⟨⟨t240, t241, t242⟩, A30, H⟩ := H
  replace H : (some (t240, t241, t242)) = some (r1, r2, r3) := H
  have A3 := Aside0.mk A30
  clear A30
  simp only [Option.some.injEq, Prod.mk.injEq] at H
  obtain ⟨rfl, rfl, rfl⟩ := H
  go_enter Tryd.func56, Tryd.ntmps56
  go_wp2_with (first | ((with_reducible refine gate_callee (f := 88) rfl ?_); refine goesL_ (some 9) rfl rfl Tryd.func88 (by kernel_rfl) rfl #[.string a0, .string a1] rfl (by (try simp only [List.map_toArray, List.map_cons, List.map_nil]); first | done | rfl | (simp only [List.length_drop, List.length_take]; rfl)) ?_; (with_reducible refine (stringslite_Cut.calls a0 a1 t240 t241 t242 _ ?side1 A3.out).mono ?_); (case side1 => exact Aside0.mk (GlobG.below (by repeat (first | (with_reducible first | exact HB.out | apply below_alloc | apply pw_below_drewN | apply below_drew1) | exact HB.out)) hG.out)); rintro e w4 ⟨rfl, hb⟩; refine ⟨_, rfl, ?_⟩; have n0_ := Aside0.mk (below_step (by repeat (first | (with_reducible first | exact HB.out | apply below_alloc | apply pw_below_drewN | apply below_drew1) | exact HB.out)) hb); clear HB; have HB := n0_; clear n0_; (try clear hb); (try clear hb2); (try clear hk); (try clear hi)))
  go_ret3
  exact ⟨by first | rfl | (simp [errW_none, errW_some] <;> rfl) | (simp [*, errW_none, errW_some] <;> rfl), by repeat (first | (with_reducible first | exact HB.out | apply below_alloc | apply pw_below_drewN | apply below_drew1) | exact HB.out)⟩
end Go.Proofs.YtdhjdddjgcfhkaaDoor.B

end

section
/- texts.Replace over the embedded Builder, walked. -/
set_option linter.unusedVariables false
set_option linter.unusedSimpArgs false
namespace Go.Proofs.YtdhjdddjgcfhkaaDoor.B
open Go.RowKit Go.Shelf Go.Proofs.YtdhjdddjgcfhkaaDoorW.PrintWords

def replF (old by_ : ByteArray) : Nat → List UInt8 → ByteArray → Option (List UInt8)
  | 0, _, _ => none
  | k + 1, acc, s => if s.size ≤ 70368744177664 then (strings_Cut.f s old).bind fun c =>
      if c.1.size ≤ 70368744177664 then (if (putL acc c.1).length ≤ 16384 then (if c.2.2 = true then replF old by_ k (putL (putL acc c.1) by_) c.2.1 else some (putL acc c.1)) else some (putL acc c.1)) else none else none
def texts_Replace.f (k : Nat) (a0 a1 a2 : ByteArray) : Option (ByteArray × Int) :=
  if a2.size ≤ 70368744177664 then (texts_Checks.f k [a0, a1, a2]).bind fun e => if e = 0 then (if a1.data.toList = [] then texts_whole.f a0 e else (replF a1 a2 k [] a0).bind fun l => texts_whole.f ⟨l.toArray⟩ 0) else texts_whole.f a0 e else none
theorem replF_mono (old by_ : ByteArray) : ∀ k acc s, LeO (replF old by_ k acc s) (replF old by_ (k + 1) acc s)
  | 0, _, _ => LeO.none _
  | k + 1, acc, s => LeO.ite (LeO.bind (LeO.refl _) (fun c => LeO.ite (LeO.ite (LeO.ite (replF_mono old by_ k _ _) (LeO.refl _)) (LeO.refl _)) (LeO.refl _))) (LeO.refl _)
structure RepRel (old by_ : ByteArray) (m B b : Nat) (w wr : World) (s : ByteArray) (acc total : List UInt8) : Prop where
  bld : ∃ p v, Bld 67 B b p v [] acc wr
  low : Below B w wr
  tot : replF old by_ m acc s = some total
theorem rep_checks (k : Nat) (a0 a1 a2 : ByteArray) (er : Int) (w : World) (hG : GlobG w) (h : texts_Checks.f k [a0, a1, a2] = some er) :
    Calls Tryd.prog 43 #[.slice (some ⟨w.heap.size, 0, none⟩) 3 3] (w.alloc (.cells #[.string a0, .string a1, .string a2] 9)) fun e w' => e = .returned (.int .i64 er) ∧ Below w.heap.size w w' := by
  have hb : Below w.heap.size w (w.alloc (.cells #[.string a0, .string a1, .string a2] 9)) := (Below.refl _ w).alloc (Nat.le_refl _) _
  have hC : Kd.C Kd.string (w.alloc (.cells #[.string a0, .string a1, .string a2] 9)) (some ⟨w.heap.size, 0, none⟩) ([a0, a1, a2] : List ByteArray).length [a0, a1, a2] := by
    refine Kd.C_of_reads (enc := Value.string) (d := ByteArray.empty) ⟨rfl, by simp, fun _ => ⟨_, rfl, fun j hj => ?_⟩⟩
    rw [add_at, Lib.cell_of_heap (World.alloc_heap_new _ _)]
    match j, hj with
    | 0, _ => rfl
    | 1, _ => rfl
    | 2, _ => rfl
    | n + 3, hj => exact absurd hj (by simp)
  exact (texts_Checks.calls k _ 3 [a0, a1, a2] er _ hC (by simp) ⟨hG.below hb⟩ h).mono fun e w' ⟨he, hb'⟩ => ⟨he, hb.trans (hb'.mono hb.size)⟩
set_option maxHeartbeats 8000000 in
set_option maxRecDepth 100000 in
theorem texts_Replace.calls (k : Nat) (a0 a1 a2 : ByteArray) (r1 : ByteArray) (r2 : Int) (w : World) (hG : Aside0 (GlobG w)) (h : texts_Replace.f k a0 a1 a2 = some (r1, r2)) :
    Calls Tryd.prog 22 #[.string a0, .string a1, .string a2] w fun e w' => e = .returned (.tuple #[.string r1, .int .i64 r2]) ∧ Below w.heap.size w w' := by
  unfold texts_Replace.f at h
  split at h
  case isFalse => cases h
  case isTrue hby =>
    obtain ⟨er, he, h⟩ := Option.bind_eq_some_iff.1 h
    have cK := rep_checks k a0 a1 a2 er w hG.out he
    clear he
    by_cases h0 : er = 0
    · subst h0
      rw [if_pos rfl] at h
      by_cases h1 : a1.data.toList = []
      · rw [if_pos h1] at h
        have HW := Lib.hid h
        have hl : (a1.toList == ([] : List UInt8)) = true := by rw [Lib.toList_data, h1]; rfl
        clear h h1
        go_enter Tryd.func22, Tryd.ntmps22
        go_wp2_with (first | (go_at_call 43; refine cK.mono ?_; rintro e w1 ⟨rfl, hb1⟩) | (go_at_call 48; refine (texts_whole.calls _ 0 r1 r2 _ HW.out).mono ?_; rintro e w7 ⟨rfl, ⟨nd, rfl⟩⟩))
        go_ret2
        exact ⟨rfl, pw_below_drewN hb1 _⟩
      · rw [if_neg h1] at h
        obtain ⟨total, ht, h⟩ := Option.bind_eq_some_iff.1 h
        have HW := Lib.hid h
        have HT := Lib.hid ht
        have hl : (a1.toList == ([] : List UInt8)) = false := by rw [Lib.toList_data]; simpa using h1
        clear h h1 ht
        go_enter Tryd.func22, Tryd.ntmps22
        go_wp2_with (go_at_call 43; refine cK.mono ?_; rintro e w3 ⟨rfl, hb3⟩)
        obtain ⟨b, hb⟩ : ∃ b, w3.heap.size = b := ⟨_, rfl⟩
        have hbld := bld_new w3 w.heap.size hb3.size
        have hlow : Below w.heap.size w (w3.alloc (.cells #[.pointer none, .slice none 0 0] 67)) := hb3.alloc hb3.size _
        rw [hb] at hbld
        rw [hb]
        have HBl := Lib.hid hbld
        have HLo := Lib.hid hlow
        clear hbld hlow hb hb3 cK hl
        go_loopg [0] k (fun m sv wr => ∃ s acc, sv = .string s ∧ RepRel a1 a2 m w.heap.size b w wr s acc total)
        case atStart => exact ⟨a0, [], rfl, ⟨⟨_, _, HBl.out⟩, HLo.out, HT.out⟩⟩
        case round =>
          obtain ⟨s, acc, rfl, hrel⟩ := hrel
          obtain ⟨p, v, hbl⟩ := hrel.bld
          have hwr : w.heap.size ≤ wr.heap.size := hrel.low.size
          have hlow := hrel.low
          have htot := hrel.tot
          cases gk with
          | zero => cases htot
          | succ m =>
            simp only [replF] at htot
            split at htot
            case isFalse => cases htot
            case isTrue hss =>
              obtain ⟨⟨c1, c2, c3⟩, hcut, htot⟩ := Option.bind_eq_some_iff.1 htot
              simp only at htot
              split at htot
              case isFalse => cases htot
              case isTrue hcs =>
                have cC := strings_Cut.calls s a1 c1 c2 c3 wr ⟨hG.out.below hlow⟩ hcut
                have HBL := Lib.hid hbl
                have HLow := Lib.hid hlow
                have hP1 : ∀ w1 : World, Below wr.heap.size wr w1 → Calls Tryd.prog 47 #[.pointer (some ⟨b, 0, none⟩), .slice (some ⟨w1.heap.size, 0, none⟩) 1 1] (w1.alloc (.cells #[.string c1] 9)) fun e w' => e = .returned (.bool (decide ((putL acc c1).length ≤ 16384))) ∧ PutDone w.heap.size b (putL acc c1) (w1.alloc (.cells #[.string c1] 9)) w' := fun w1 h1 =>
                  put_one (g := w1.heap.size) c1 (HBL.out.below (h1.alloc h1.size _)) hcs (by have := h1.size; simp; omega) (new_cell w1 (.string c1) 9)
                have HP1 := Lib.hid hP1
                clear hrel hbl hlow hcut hP1
                by_cases hle : (putL acc c1).length ≤ 16384
                · rw [if_pos hle] at htot
                  have hd : decide ((putL acc c1).length ≤ 16384) = true := decide_eq_true hle
                  rw [hd] at HP1
                  cases c3 with
                  | true =>
                    rw [if_pos rfl] at htot
                    have HTot := Lib.hid htot
                    clear htot hle hd
                    go_wp2_with (first | (go_at_call 56; refine cC.mono ?_; rintro e w1 ⟨rfl, hb1⟩; have cP1 := HP1.out w1 hb1) | (go_at_call 47; refine cP1.mono ?_; clear cP1 HP1; rintro e w4 ⟨rfl, hd4⟩; obtain ⟨p4, v4, hbl4⟩ := hd4.bld; have hlow4 : Below w.heap.size w w4 := ((HLow.out.trans (hb1.mono hwr)).alloc (Nat.le_trans hwr hb1.size) _).trans hd4.low; have hsz4 : w.heap.size ≤ w4.heap.size := hlow4.size; have cP2 := put_one (g := w4.heap.size) a2 (hbl4.below ((Below.refl _ w4).alloc (Nat.le_refl _) _)) hby (by simp; omega) (new_cell w4 (.string a2) 9); have HL4 := Lib.hid hlow4; clear hlow4 hd4 hbl4))
                    go_wp2_with (go_at_call 47; refine cP2.mono ?_; rintro e w5 ⟨rfl, hd5⟩)
                    have HD5 := Lib.hid hd5
                    clear hd5 cP2
                    go_roundg m
                    case measure => omega
                    case rel => exact ⟨c2, _, rfl, ⟨HD5.out.bld, (HL4.out.alloc hsz4 _).trans HD5.out.low, HTot.out⟩⟩
                  | false =>
                    rw [if_neg (by simp)] at htot
                    obtain rfl := Option.some.inj htot
                    clear hle hd
                    go_wp2_with (first | (go_at_call 56; refine cC.mono ?_; rintro e w1 ⟨rfl, hb1⟩; have cP1 := HP1.out w1 hb1) | (go_at_call 47; refine cP1.mono ?_; clear cP1 HP1; rintro e w4 ⟨rfl, hd4⟩; obtain ⟨p4, v4, hbl4⟩ := hd4.bld; have hlow4 : Below w.heap.size w w4 := ((HLow.out.trans (hb1.mono hwr)).alloc (Nat.le_trans hwr hb1.size) _).trans hd4.low; have cS := Bld_String hbl4 hlow4.size; have HL4 := Lib.hid hlow4; clear hlow4 hd4 hbl4) | (go_at_call 49; refine cS.mono ?_; clear cS; rintro e w6 ⟨rfl, hb6⟩) | (go_at_call 48; refine (texts_whole.calls _ 0 r1 r2 _ HW.out).mono ?_; rintro e w7 ⟨rfl, ⟨nd, rfl⟩⟩))
                    go_ret2
                    exact ⟨rfl, pw_below_drewN (HL4.out.trans hb6) _⟩
                · rw [if_neg hle] at htot
                  obtain rfl := Option.some.inj htot
                  have hd : decide ((putL acc c1).length ≤ 16384) = false := decide_eq_false hle
                  rw [hd] at HP1
                  clear hle hd
                  go_wp2_with (first | (go_at_call 56; refine cC.mono ?_; rintro e w1 ⟨rfl, hb1⟩; have cP1 := HP1.out w1 hb1) | (go_at_call 47; refine cP1.mono ?_; clear cP1 HP1; rintro e w4 ⟨rfl, hd4⟩; obtain ⟨p4, v4, hbl4⟩ := hd4.bld; have hlow4 : Below w.heap.size w w4 := ((HLow.out.trans (hb1.mono hwr)).alloc (Nat.le_trans hwr hb1.size) _).trans hd4.low; have cS := Bld_String hbl4 hlow4.size; have HL4 := Lib.hid hlow4; clear hlow4 hd4 hbl4) | (go_at_call 49; refine cS.mono ?_; clear cS; rintro e w6 ⟨rfl, hb6⟩) | (go_at_call 48; refine (texts_whole.calls _ 0 r1 r2 _ HW.out).mono ?_; rintro e w7 ⟨rfl, ⟨nd, rfl⟩⟩))
                  go_ret2
                  exact ⟨rfl, pw_below_drewN (HL4.out.trans hb6) _⟩
    · rw [if_neg h0] at h
      have HW := Lib.hid h
      have hne : (er != 0) = true := by rw [bne_iff_ne]; exact h0
      clear h h0
      go_enter Tryd.func22, Tryd.ntmps22
      go_wp2_with (first | (go_at_call 43; refine cK.mono ?_; rintro e w1 ⟨rfl, hb1⟩) | (go_at_call 48; refine (texts_whole.calls _ er r1 r2 _ HW.out).mono ?_; rintro e w7 ⟨rfl, ⟨nd, rfl⟩⟩))
      go_ret2
      exact ⟨rfl, pw_below_drewN hb1 _⟩
end Go.Proofs.YtdhjdddjgcfhkaaDoor.B

end

section
/- What Repeat and Replace of texts tell. -/
set_option linter.unusedVariables false
set_option linter.unusedSimpArgs false
namespace Go.Proofs.YtdhjdddjgcfhkaaDoor.P
open Go.Lib Go.RowKit Go.Proofs.YtdhjdddjgcfhkaaDoor.B Go.Proofs.YtdhjdddjgcfhkaaDoorW.PrintWords

theorem wholeV_long {l : List UInt8} (h : 16384 < l.length) : wholeV l = (⟨#[]⟩, 5) := by unfold wholeV; rw [if_neg (by omega)]
theorem errs_one (s : ByteArray) : errs [s] = errV s.data.toList := by
  simp only [errs]; split <;> simp_all
def repV (s : List UInt8) (n : Int) : ByteArray × Int := if errV s = 0 then wholeV (repeatL s n.toNat) else (⟨#[]⟩, errV s)
theorem repeat_tells (s : ByteArray) (n : Int) (hs : s.size < 1048576) (hn : n ≤ 9223372036854775807) : Tells (fun k => texts_Repeat.f k s n) (repV s.data.toList n) := by
  unfold texts_Repeat.f
  refine (checks_tells [s] (by simp) (fun x hx => by simp at hx; subst hx; omega)).bind ?_
  rw [errs_one]
  unfold repV
  by_cases he : errV s.data.toList = 0
  · rw [if_pos he]
    refine Tells.ifp he ?_
    by_cases h0 : s.data.toList = []
    · refine Tells.ifp (by rw [toList_data]; exact h0) (Tells.succ ?_)
      simp only [texts_Repeat.j0, if_true]
      rw [h0, repeatL_nil]
      exact Tells.of rfl
    · refine Tells.ifn (by rw [toList_data]; exact h0) (Tells.succ ?_)
      simp only [texts_Repeat.j0, decide_eq_true_eq]
      by_cases h1 : n < 1
      · refine Tells.ifp h1 ?_
        rw [show n.toNat = 0 by omega]
        exact Tells.of rfl
      · refine Tells.ifn h1 ?_
        have hpos : 1 ≤ s.data.toList.length := List.length_pos_iff.2 h0
        have hm : (mn n 16385).toNat ≤ 16385 ∧ 0 ≤ mn n 16385 := by unfold mn; split <;> omega
        have hsz : s.size * (mn n 16385).toNat ≤ 140737488355328 := Nat.le_trans (Nat.mul_le_mul (Nat.le_of_lt hs) hm.1) (by decide)
        unfold strings_Repeat.f
        rw [if_pos ⟨hm.2, by unfold mn; split <;> omega, hsz⟩]
        simp only [Option.bind_some]
        rw [whole_ok]
        refine Tells.of (congrArg some ?_)
        show wholeV (repeatL s.data.toList (mn n 16385).toNat) = wholeV (repeatL s.data.toList n.toNat)
        by_cases hb : n ≤ 16385
        · rw [show mn n 16385 = n by unfold mn; split <;> omega]
        · rw [show mn n 16385 = 16385 by unfold mn; split <;> omega, wholeV_long, wholeV_long]
          · rw [repeatL_length]
            exact Nat.lt_of_lt_of_le (show 16384 < n.toNat * 1 by omega) (Nat.mul_le_mul_left _ hpos)
          · rw [repeatL_length]
            exact Nat.lt_of_lt_of_le (show 16384 < (16385 : Int).toNat * 1 by decide) (Nat.mul_le_mul_left _ hpos)
  · rw [if_neg he]
    exact Tells.ifn he (Tells.pure _)
theorem cut_f (s sep : ByteArray) (hs : s.size < 4294967281) : strings_Cut.f s sep = some (if index s.data.toList sep.data.toList = -1 then (s, ⟨#[]⟩, false) else
    (mkS (s.data.toList.take (index s.data.toList sep.data.toList).toNat), mkS (s.data.toList.drop ((index s.data.toList sep.data.toList).toNat + sep.data.toList.length)), true)) := by
  unfold strings_Cut.f stringslite_Cut.f stringslite_Index.f
  rw [if_pos hs]
  simp only [Option.bind_some]
  have hg := index_ge s.data.toList sep.data.toList
  have hz := size_eq s
  have hz2 := size_eq sep
  by_cases h : index s.data.toList sep.data.toList = -1
  · rw [if_pos h, if_neg (by omega)]; rfl
  · have hr := index_room s.data.toList sep.data.toList (by omega)
    rw [if_neg h, if_pos (by omega), if_pos (by omega), if_pos (by omega), w64 (by omega) (by omega), if_pos (by omega), if_pos (by omega), ext_mk, ext_mk]
    simp only [Option.bind_some, List.drop_zero, Nat.sub_zero]
    rw [show (index s.data.toList sep.data.toList + (sep.size : Int)).toNat = (index s.data.toList sep.data.toList).toNat + sep.data.toList.length by omega, List.take_of_length_le (l := s.data.toList.drop _) (by rw [List.length_drop]; omega)]
def replL (old by_ s : List UInt8) : List UInt8 := joinL by_ (cutA old s)
theorem replL_miss (old by_ s : List UInt8) (h : index s old = -1) : replL old by_ s = s := by unfold replL; rw [cutA_miss _ _ h]; rfl
theorem replL_hit (old by_ s : List UInt8) (ho : old ≠ []) (i : Nat) (h : index s old = (i : Int)) : replL old by_ s = s.take i ++ (by_ ++ replL old by_ (s.drop (i + old.length))) := by
  unfold replL; rw [cutA_hit _ _ ho i h, join_cons _ _ _ (cutA_ne _ _)]
theorem replF_all (old by_ : ByteArray) (ho : old.data.toList ≠ []) : ∀ (k : Nat) (acc : List UInt8) (s : List UInt8), s.length < k → s.length < 1048576 →
    ∃ L, replF old by_ k acc (mkS s) = some L ∧ (L = acc ++ replL old.data.toList by_.data.toList s ∨ (16384 < L.length ∧ 16384 < (acc ++ replL old.data.toList by_.data.toList s).length))
  | 0, _, _, h, _ => by omega
  | k + 1, acc, s, hk, hs => by
    have hop : 0 < old.data.toList.length := List.length_pos_iff.2 ho
    simp only [replF]
    rw [mkS_size, if_pos (by omega), cut_f _ _ (by rw [mkS_size]; omega), mkS_data]
    simp only [Option.bind_some]
    by_cases h : index s old.data.toList = -1
    · rw [if_pos h]
      simp only [mkS_size]
      rw [if_pos (by omega), replL_miss _ _ _ h]
      simp only [Bool.false_eq_true, if_false, ite_self]
      refine ⟨_, rfl, ?_⟩
      by_cases ha : acc.length ≤ 16384
      · left; unfold putL; rw [if_pos ha]; rfl
      · right
        have e : putL acc (mkS s) = acc := by unfold putL; rw [if_neg ha]
        rw [e, List.length_append]; omega
    · rw [if_neg h]
      have hg := index_ge s old.data.toList
      obtain ⟨i, hi⟩ : ∃ i : Nat, index s old.data.toList = (i : Int) := ⟨(index s old.data.toList).toNat, by omega⟩
      have hr := index_room s old.data.toList (by omega)
      rw [hi] at hr
      rw [hi, Int.toNat_natCast, replL_hit _ _ _ ho i hi]
      simp only [mkS_size, List.length_take]
      rw [if_pos (by omega)]
      have hp : putL acc (mkS (s.take i)) = acc ++ s.take i ∨ (putL acc (mkS (s.take i)) = acc ∧ 16384 < acc.length) := by
        by_cases ha : acc.length ≤ 16384
        · left; unfold putL; rw [if_pos ha]; rfl
        · right; unfold putL; rw [if_neg ha]; exact ⟨rfl, by omega⟩
      by_cases hA : (putL acc (mkS (s.take i))).length ≤ 16384
      · rw [if_pos hA]
        simp only [if_true]
        have e1 : putL acc (mkS (s.take i)) = acc ++ s.take i := by
          rcases hp with hp | ⟨hp, hl⟩
          · exact hp
          · rw [hp] at hA; omega
        have e2 : putL (putL acc (mkS (s.take i))) by_ = acc ++ s.take i ++ by_.data.toList := by
          rw [e1] at hA ⊢
          show (if (acc ++ s.take i).length ≤ 16384 then _ else _) = _
          rw [if_pos hA]
        rw [e2]
        obtain ⟨L, hL, hc⟩ := replF_all old by_ ho k (acc ++ s.take i ++ by_.data.toList) (s.drop (i + old.data.toList.length)) (by rw [List.length_drop]; omega) (by rw [List.length_drop]; omega)
        refine ⟨L, hL, ?_⟩
        simpa only [List.append_assoc] using hc
      · rw [if_neg hA]
        refine ⟨_, rfl, .inr ⟨by omega, ?_⟩⟩
        rcases hp with hp | ⟨hp, hl⟩
        · rw [hp] at hA; simp only [List.length_append] at hA ⊢; omega
        · simp only [List.length_append]; omega
/-- What Replace answers. -/
def replV (s old by_ : List UInt8) (e : Int) : ByteArray × Int := if e = 0 then (if old = [] then wholeV s else wholeV (replL old by_ s)) else (⟨#[]⟩, e)
theorem replace_tells (s old by_ : ByteArray) (hs : s.size < 1048576) (ho : old.size < 1048576) (hb : by_.size < 1048576) : Tells (fun k => texts_Replace.f k s old by_) (replV s.data.toList old.data.toList by_.data.toList (errs [s, old, by_])) := by
  unfold texts_Replace.f
  refine Tells.ifp (by omega) ?_
  refine (checks_tells [s, old, by_] (by simp) (fun x hx => by
    simp only [List.mem_cons, List.mem_nil_iff, or_false] at hx
    rcases hx with rfl | rfl | rfl <;> omega)).bind ?_
  unfold replV
  by_cases he : errs [s, old, by_] = 0
  · rw [if_pos he]
    refine Tells.ifp he ?_
    by_cases h0 : old.data.toList = []
    · rw [if_pos h0]
      refine Tells.ifp h0 ?_
      rw [he, whole_ok]
      exact Tells.pure _
    · rw [if_neg h0]
      refine Tells.ifn h0 ?_
      obtain ⟨L, hL, hc⟩ := replF_all old by_ h0 (s.data.toList.length + 1) [] s.data.toList (by omega) (by rw [← size_eq]; omega)
      rw [show mkS s.data.toList = s from mk_data s] at hL
      refine (Tells.mono (replF_mono old by_ · [] s) _ hL).bind ?_
      rw [whole_ok ⟨L.toArray⟩]
      refine Tells.of (congrArg some ?_)
      rcases hc with hc | ⟨h1, h2⟩
      · rw [hc]; rfl
      · rw [wholeV_long h1, wholeV_long (by simpa using h2)]
  · rw [if_neg he]
    refine Tells.ifn he ?_
    rw [whole_err _ _ he]
    exact Tells.pure _
end Go.Proofs.YtdhjdddjgcfhkaaDoor.P

end

section
namespace Go.Proofs.YtdhjdddjgcfhkaaDoor.B
open Go.RowKit Go.Proofs.YtdhjdddjgcfhkaaDoorW.PrintWords Go.Proofs.YtdhjdddjgcfhkaaDoorW.PrintLast Go.Proofs.YtdhjdddjgcfhkaaDoorW.PrintMore
attribute [local go_sem] max2_int min2_int max_two min_two max_three min_three max_four min_four   -- for this text's walks alone
set_option linter.unusedVariables false
set_option linter.unusedSimpArgs false

def bolterlaw13_TextsBack.j0 : Nat → ByteArray → ByteArray → List ByteArray → Int → Bool → Option (Bool)
  | 0, _, _, _, _, _ => none
  | k + 1, x0, x1, x5, x6, x24 => if x24 = true then ((bolterlaw13_num.f x6).bind fun t161 => (if t161 = 0 then (some true) else (some ((x5.length : Int) == 0)))) else ((texts_Join.f k x5 x1).bind fun bt162 => ((bolterlaw13_num.f bt162.2).bind fun t164 => (if t164 = 0 then (some (bt162.1.toList == x0.toList)) else (some false))))
def bolterlaw13_TextsBack.f (k : Nat) (a0 : ByteArray) (a1 : ByteArray) : Option (Bool) := (bolterlaw13_alive.f k).bind fun t155 => (if t155 = true then ((texts_Split.f k a0 a1).bind fun bt156 => ((bolterlaw13_num.f bt156.2).bind fun t160 => (if t160 = 0 then (bolterlaw13_TextsBack.j0 k a0 a1 bt156.1 bt156.2 (decide ((a0.size : Int) > 16384))) else (bolterlaw13_TextsBack.j0 k a0 a1 bt156.1 bt156.2 true)))) else (some false))
def stringslite_HasPrefix.f (a0 : ByteArray) (a1 : ByteArray) : Option (Bool) := if (a0.size : Int) ≥ (a1.size : Int) then (if 0 ≤ (a1.size : Int) then (if (a1.size : Int) ≤ (a0.size : Int) then (some ((a0.extract 0 ((a1.size : Int) : Int).toNat).toList == a1.toList)) else (none)) else (none)) else (some false)
set_option maxHeartbeats 8000000 in
set_option maxRecDepth 100000 in
theorem stringslite_HasPrefix.calls (a0 : ByteArray) (a1 : ByteArray) (r : Bool) (w : World) (h : stringslite_HasPrefix.f a0 a1 = some r) :
    Calls Tryd.prog 80 #[.string a0, .string a1] w fun e w' => e = .returned (.bool r) ∧ Drawn0 w w' := by
  have H : (if (a0.size : Int) ≥ (a1.size : Int) then (if 0 ≤ (a1.size : Int) then (if (a1.size : Int) ≤ (a0.size : Int) then (some ((a0.extract 0 ((a1.size : Int) : Int).toNat).toList == a1.toList)) else (none)) else (none)) else (some false)) = some r := h
  clear h
  by_cases c3 : (a0.size : Int) ≥ (a1.size : Int)
  · rw [if_pos c3] at H
    have c3b0 : decide ((a1.size : Int) ≤ (a0.size : Int)) = true := decide_eq_true c3
    have c3b1 : decide (a1.size ≤ a0.size) = true := decide_eq_true (Int.ofNat_le.mp c3)
    clear c3
    by_cases c4 : 0 ≤ (a1.size : Int)
    · rw [if_pos c4] at H
      have c4b0 := eq_true c4
      have c4b1 : decide (0 ≤ (a1.size : Int)) = true := decide_eq_true c4
      clear c4
      by_cases c5 : (a1.size : Int) ≤ (a0.size : Int)
      · rw [if_pos c5] at H
        have c5b0 := eq_true c5
        have c5b1 : decide ((a1.size : Int) ≤ (a0.size : Int)) = true := decide_eq_true c5
        clear c5
        obtain rfl := Option.some.inj H
        go_enter Tryd.func80, Tryd.ntmps80
        go_wp2
        go_ret
        exact ⟨by first | rfl | (simp; done) | (simp [*]; done), by repeat (first | exact Drawn0.refl _ | apply Drawn0.step)⟩
      · rw [if_neg c5] at H
        exact absurd H (by simp)
    · rw [if_neg c4] at H
      exact absurd H (by simp)
  · rw [if_neg c3] at H
    have c3b0 : decide ((a1.size : Int) ≤ (a0.size : Int)) = false := decide_eq_false c3
    have c3b1 : decide (a1.size ≤ a0.size) = false := decide_eq_false (fun h => c3 (Int.ofNat_le.mpr h))
    clear c3
    obtain rfl := Option.some.inj H
    go_enter Tryd.func80, Tryd.ntmps80
    go_wp2
    go_ret
    exact ⟨by first | rfl | (simp; done) | (simp [*]; done), by repeat (first | exact Drawn0.refl _ | apply Drawn0.step)⟩
def strings_HasPrefix.f (a0 : ByteArray) (a1 : ByteArray) : Option (Bool) := (stringslite_HasPrefix.f a0 a1).bind fun t165 => (some t165)
set_option maxHeartbeats 8000000 in
set_option maxRecDepth 100000 in
theorem strings_HasPrefix.calls (a0 : ByteArray) (a1 : ByteArray) (r : Bool) (w : World) (h : strings_HasPrefix.f a0 a1 = some r) :
    Calls Tryd.prog 50 #[.string a0, .string a1] w fun e w' => e = .returned (.bool r) ∧ Drawn0 w w' := by
  have H : ((stringslite_HasPrefix.f a0 a1).bind fun t165 => (some t165)) = some r := h
  clear h
  replace H := Option.bind_eq_some_iff.mp H
  obtain ⟨t165, A30, H⟩ := H
  replace H : (some t165) = some r := H
  have A3 := Aside0.mk A30
  clear A30
  obtain rfl := Option.some.inj H
  go_enter Tryd.func50, Tryd.ntmps50
  go_wp2_with (first | ((with_reducible refine gate_callee (f := 80) rfl ?_); refine goesL_ (some 7) rfl rfl Tryd.func80 (by kernel_rfl) rfl #[.string a0, .string a1] rfl (by (try simp only [List.map_toArray, List.map_cons, List.map_nil]); first | done | rfl | (simp only [List.length_drop, List.length_take]; rfl)) ?_; (with_reducible refine (stringslite_HasPrefix.calls a0 a1 t165 _ A3.out).mono ?_); rintro e w' ⟨rfl, ⟨nd, rfl⟩⟩; refine ⟨_, rfl, ?_⟩))
  go_ret
  exact ⟨by first | rfl | (simp; done) | (simp [*]; done), by repeat (first | exact Drawn0.refl _ | apply Drawn0.step)⟩
def texts_Begins.f (k : Nat) (a0 : ByteArray) (a1 : ByteArray) : Option (Bool × Int) := (texts_Checks.f k (([a0, a1] : List ByteArray))).bind fun t169 => (if t169 = 0 then ((strings_HasPrefix.f a0 a1).bind fun t170 => (some (t170, t169))) else (some (false, t169)))
set_option maxHeartbeats 8000000 in
set_option maxRecDepth 100000 in
theorem texts_Begins.calls (k : Nat) (a0 : ByteArray) (a1 : ByteArray) (r1 : Bool) (r2 : Int) (w : World) (hG : Aside0 (GlobG w)) (h : texts_Begins.f k a0 a1 = some (r1, r2)) :
    Calls Tryd.prog 16 #[.string a0, .string a1] w fun e w' => e = .returned (.tuple #[.bool r1, .int .i64 r2]) ∧ Below w.heap.size w w' := by
  have HB := Aside0.mk (Below.refl w.heap.size w)
  have H : ((texts_Checks.f k (([a0, a1] : List ByteArray))).bind fun t169 => (if t169 = 0 then ((strings_HasPrefix.f a0 a1).bind fun t170 => (some (t170, t169))) else (some (false, t169)))) = some (r1, r2) := h
  clear h
  obtain ⟨y166, hy166⟩ : ∃ y_ : List ByteArray, y_ = (([a0, a1] : List ByteArray)) := ⟨_, rfl⟩
  replace H : ((texts_Checks.f k y166).bind fun t169 => (if t169 = 0 then ((strings_HasPrefix.f a0 a1).bind fun t170 => (some (t170, t169))) else (some (false, t169)))) = some (r1, r2) := by first | (rw [hy166]; with_reducible exact H) | (have H2_ := (Option.bind_some _ _).symm.trans H; rw [hy166]; with_reducible exact H2_) | (have H2_ := (Option.bind_some _ _).symm.trans H; with_reducible exact H2_) | with_reducible exact H | (rw [hy166]; exact H) | exact H
  have Ny166 := Aside0.mk hy166
  clear hy166
  replace H := Option.bind_eq_some_iff.mp H
  obtain ⟨t169, A30, H⟩ := H
  replace H : (if t169 = 0 then ((strings_HasPrefix.f a0 a1).bind fun t170 => (some (t170, t169))) else (some (false, t169))) = some (r1, r2) := H
  have A3 := Aside0.mk A30
  clear A30
  by_cases c4 : t169 = 0
  · rw [if_pos c4] at H
    have c4b0 : (t169 == 0) = true := beq_iff_eq.mpr c4
    have c4b1 : (t169 != 0) = false := bne_eq_false_iff_eq.mpr c4
    clear c4
    replace H := Option.bind_eq_some_iff.mp H
    obtain ⟨t170, A50, H⟩ := H
    replace H : (some (t170, t169)) = some (r1, r2) := H
    have A5 := Aside0.mk A50
    clear A50
    simp only [Option.some.injEq, Prod.mk.injEq] at H
    obtain ⟨rfl, rfl⟩ := H
    go_enter Tryd.func16, Tryd.ntmps16
    go_wp2_with (first | ((with_reducible refine gate_dst (N := 9) rfl ?_); refine Kd.R_lit Kd.string _ 9 ?hg (N := 9) ?hd (xs := ([a0, a1] : List ByteArray)) (inner := [.string a0, .string a1]) (ok := fun _ => True) (okp := fun _ => True) ?hr ?hp (fun _ hk => hk) trivial (Below.refl _ _) (Nat.le_refl _) (by simp) ?_; (case hd => rfl); (case hg => rfl); (case hr => first | (go_simp; done) | (go_simp; rfl)); (case hp => exact (Reps.one (show Kd.M Kd.string _ _ _ a0 [.string a0] from rfl) (Reps.one (show Kd.M Kd.string _ _ _ a1 [.string a1] from rfl) (Reps.none _ _)))); intro v167 w6 ho7 hb hg_ hnew_; clear hg_ hnew_; (first | rw [← Ny166.out] at ho7 | (simp only [Int.reduceToNat] at ho7; rw [← Ny166.out] at ho7)); have n0_ := Aside0.mk (Kd.R_lower ho7 (below_size (by repeat (first | (with_reducible first | exact HB.out | apply below_alloc | apply pw_below_drewN | apply below_drew1) | exact HB.out)))); have n1_ := Aside0.mk (below_step (by repeat (first | (with_reducible first | exact HB.out | apply below_alloc | apply pw_below_drewN | apply below_drew1) | exact HB.out)) hb); clear HB; have HO168 := n0_; have HB := n1_; clear n0_ n1_; clear hb ho7; obtain ⟨Ao8, co8, eo8⟩ := Kd.R_slice HO168.out; subst eo8) | ((with_reducible refine gate_callee (f := 43) rfl ?_); refine goesL_ (some 10) rfl rfl Tryd.func43 (by kernel_rfl) rfl #[.slice Ao8 y166.length co8] rfl (by (try simp only [List.map_toArray, List.map_cons, List.map_nil]); first | done | rfl | (simp only [List.length_drop, List.length_take]; rfl)) ?_; (with_reducible refine (texts_Checks.calls k _ _ y166 t169 _ ?side1 ?side2 ?side3 A3.out).mono ?_); (case side1 => repeat (first | exact (Kd.R_reads' HO168.out).2.2 | (with_reducible refine Kd.C_alloc ?_ _) | (with_reducible refine Kd.C_drewN ?_ _) | (with_reducible refine Kd.C_drew ?_))); (case side2 => exact (Kd.R_reads' HO168.out).2.1); (case side3 => exact Aside0.mk (GlobG.below (by repeat (first | (with_reducible first | exact HB.out | apply below_alloc | apply pw_below_drewN | apply below_drew1) | exact HB.out)) hG.out)); rintro e w9 ⟨rfl, hb⟩; refine ⟨_, rfl, ?_⟩; have n0_ := Aside0.mk (Kd.R_below (by (with_reducible repeat (first | apply Kd.R_alloc | apply Kd.R_drewN | apply Kd.R_drew)); exact HO168.out) hb); have n1_ := Aside0.mk (below_step (by repeat (first | (with_reducible first | exact HB.out | apply below_alloc | apply pw_below_drewN | apply below_drew1) | exact HB.out)) hb); clear HO168; clear HB; have HO168 := n0_; have HB := n1_; clear n0_ n1_; (try clear hb); (try clear hb2); (try clear hk); (try clear hi)) | (go_at_call 50; (with_reducible refine (strings_HasPrefix.calls a0 a1 t170 _ A5.out).mono ?_); rintro e w' ⟨rfl, ⟨nd, rfl⟩⟩))
    go_ret2
    exact ⟨by first | rfl | (simp [errW_none, errW_some] <;> rfl) | (simp [*, errW_none, errW_some] <;> rfl), by repeat (first | (with_reducible first | exact HB.out | apply below_alloc | apply pw_below_drewN | apply below_drew1) | exact HB.out)⟩
  · rw [if_neg c4] at H
    have c4b0 : (t169 == 0) = false := beq_eq_false_iff_ne.mpr c4
    have c4b1 : (t169 != 0) = true := bne_iff_ne.mpr c4
    simp only [Option.some.injEq, Prod.mk.injEq] at H
    obtain ⟨rfl, rfl⟩ := H
    go_enter Tryd.func16, Tryd.ntmps16
    go_wp2_with (first | ((with_reducible refine gate_dst (N := 9) rfl ?_); refine Kd.R_lit Kd.string _ 9 ?hg (N := 9) ?hd (xs := ([a0, a1] : List ByteArray)) (inner := [.string a0, .string a1]) (ok := fun _ => True) (okp := fun _ => True) ?hr ?hp (fun _ hk => hk) trivial (Below.refl _ _) (Nat.le_refl _) (by simp) ?_; (case hd => rfl); (case hg => rfl); (case hr => first | (go_simp; done) | (go_simp; rfl)); (case hp => exact (Reps.one (show Kd.M Kd.string _ _ _ a0 [.string a0] from rfl) (Reps.one (show Kd.M Kd.string _ _ _ a1 [.string a1] from rfl) (Reps.none _ _)))); intro v167 w10 ho11 hb hg_ hnew_; clear hg_ hnew_; (first | rw [← Ny166.out] at ho11 | (simp only [Int.reduceToNat] at ho11; rw [← Ny166.out] at ho11)); have n0_ := Aside0.mk (Kd.R_lower ho11 (below_size (by repeat (first | (with_reducible first | exact HB.out | apply below_alloc | apply pw_below_drewN | apply below_drew1) | exact HB.out)))); have n1_ := Aside0.mk (below_step (by repeat (first | (with_reducible first | exact HB.out | apply below_alloc | apply pw_below_drewN | apply below_drew1) | exact HB.out)) hb); clear HB; have HO168 := n0_; have HB := n1_; clear n0_ n1_; clear hb ho11; obtain ⟨Ao12, co12, eo12⟩ := Kd.R_slice HO168.out; subst eo12) | ((with_reducible refine gate_callee (f := 43) rfl ?_); refine goesL_ (some 10) rfl rfl Tryd.func43 (by kernel_rfl) rfl #[.slice Ao12 y166.length co12] rfl (by (try simp only [List.map_toArray, List.map_cons, List.map_nil]); first | done | rfl | (simp only [List.length_drop, List.length_take]; rfl)) ?_; (with_reducible refine (texts_Checks.calls k _ _ y166 t169 _ ?side1 ?side2 ?side3 A3.out).mono ?_); (case side1 => repeat (first | exact (Kd.R_reads' HO168.out).2.2 | (with_reducible refine Kd.C_alloc ?_ _) | (with_reducible refine Kd.C_drewN ?_ _) | (with_reducible refine Kd.C_drew ?_))); (case side2 => exact (Kd.R_reads' HO168.out).2.1); (case side3 => exact Aside0.mk (GlobG.below (by repeat (first | (with_reducible first | exact HB.out | apply below_alloc | apply pw_below_drewN | apply below_drew1) | exact HB.out)) hG.out)); rintro e w13 ⟨rfl, hb⟩; refine ⟨_, rfl, ?_⟩; have n0_ := Aside0.mk (Kd.R_below (by (with_reducible repeat (first | apply Kd.R_alloc | apply Kd.R_drewN | apply Kd.R_drew)); exact HO168.out) hb); have n1_ := Aside0.mk (below_step (by repeat (first | (with_reducible first | exact HB.out | apply below_alloc | apply pw_below_drewN | apply below_drew1) | exact HB.out)) hb); clear HO168; clear HB; have HO168 := n0_; have HB := n1_; clear n0_ n1_; (try clear hb); (try clear hb2); (try clear hk); (try clear hi)))
    go_ret2
    exact ⟨by first | rfl | (simp [errW_none, errW_some] <;> rfl) | (simp [*, errW_none, errW_some] <;> rfl), by repeat (first | (with_reducible first | exact HB.out | apply below_alloc | apply pw_below_drewN | apply below_drew1) | exact HB.out)⟩
def stringslite_HasSuffix.f (a0 : ByteArray) (a1 : ByteArray) : Option (Bool) := if (a0.size : Int) ≥ (a1.size : Int) then (if 0 ≤ (wrap64 ((a0.size : Int) - (a1.size : Int))) then (if (wrap64 ((a0.size : Int) - (a1.size : Int))) ≤ (a0.size : Int) then (some ((a0.extract ((wrap64 ((a0.size : Int) - (a1.size : Int))) : Int).toNat a0.size).toList == a1.toList)) else (none)) else (none)) else (some false)
set_option maxHeartbeats 8000000 in
set_option maxRecDepth 100000 in
theorem stringslite_HasSuffix.calls (a0 : ByteArray) (a1 : ByteArray) (r : Bool) (w : World) (h : stringslite_HasSuffix.f a0 a1 = some r) :
    Calls Tryd.prog 81 #[.string a0, .string a1] w fun e w' => e = .returned (.bool r) ∧ Drawn0 w w' := by
  have H : (if (a0.size : Int) ≥ (a1.size : Int) then (if 0 ≤ (wrap64 ((a0.size : Int) - (a1.size : Int))) then (if (wrap64 ((a0.size : Int) - (a1.size : Int))) ≤ (a0.size : Int) then (some ((a0.extract ((wrap64 ((a0.size : Int) - (a1.size : Int))) : Int).toNat a0.size).toList == a1.toList)) else (none)) else (none)) else (some false)) = some r := h
  clear h
  by_cases c3 : (a0.size : Int) ≥ (a1.size : Int)
  · rw [if_pos c3] at H
    have c3b0 : decide ((a1.size : Int) ≤ (a0.size : Int)) = true := decide_eq_true c3
    have c3b1 : decide (a1.size ≤ a0.size) = true := decide_eq_true (Int.ofNat_le.mp c3)
    clear c3
    obtain ⟨ji4, hji4⟩ : ∃ j_ : Int, (wrap64 ((a0.size : Int) - (a1.size : Int))) = j_ := ⟨_, rfl⟩
    replace H : (if 0 ≤ (ji4) then (if (ji4) ≤ (a0.size : Int) then (some ((a0.extract ((ji4) : Int).toNat a0.size).toList == a1.toList)) else (none)) else (none)) = some r := by first | (rw [hji4] at H; exact H) | (simp only [hji4] at H ⊢; exact H)
    have hji4w : (IntKind.i64.wrap ((a0.size : Int) - (a1.size : Int))) = ji4 := (i64_w _).trans hji4
    by_cases c5 : 0 ≤ (ji4)
    · rw [if_pos c5] at H
      have c5b0 := eq_true c5
      have c5b1 : decide (0 ≤ (ji4)) = true := decide_eq_true c5
      clear c5
      by_cases c6 : (ji4) ≤ (a0.size : Int)
      · rw [if_pos c6] at H
        have c6b0 := eq_true c6
        have c6b1 : decide ((ji4) ≤ (a0.size : Int)) = true := decide_eq_true c6
        clear c6
        obtain rfl := Option.some.inj H
        go_enter Tryd.func81, Tryd.ntmps81
        go_wp2
        go_ret
        exact ⟨by first | rfl | (simp; done) | (simp only [← hji4] <;> (first | rfl | simp)) | (simp [*]; done), by repeat (first | exact Drawn0.refl _ | apply Drawn0.step)⟩
      · rw [if_neg c6] at H
        exact absurd H (by simp)
    · rw [if_neg c5] at H
      exact absurd H (by simp)
  · rw [if_neg c3] at H
    have c3b0 : decide ((a1.size : Int) ≤ (a0.size : Int)) = false := decide_eq_false c3
    have c3b1 : decide (a1.size ≤ a0.size) = false := decide_eq_false (fun h => c3 (Int.ofNat_le.mpr h))
    clear c3
    obtain rfl := Option.some.inj H
    go_enter Tryd.func81, Tryd.ntmps81
    go_wp2
    go_ret
    exact ⟨by first | rfl | (simp; done) | (simp [*]; done), by repeat (first | exact Drawn0.refl _ | apply Drawn0.step)⟩
def strings_HasSuffix.f (a0 : ByteArray) (a1 : ByteArray) : Option (Bool) := (stringslite_HasSuffix.f a0 a1).bind fun t171 => (some t171)
set_option maxHeartbeats 8000000 in
set_option maxRecDepth 100000 in
theorem strings_HasSuffix.calls (a0 : ByteArray) (a1 : ByteArray) (r : Bool) (w : World) (h : strings_HasSuffix.f a0 a1 = some r) :
    Calls Tryd.prog 51 #[.string a0, .string a1] w fun e w' => e = .returned (.bool r) ∧ Drawn0 w w' := by
  have H : ((stringslite_HasSuffix.f a0 a1).bind fun t171 => (some t171)) = some r := h
  clear h
  replace H := Option.bind_eq_some_iff.mp H
  obtain ⟨t171, A30, H⟩ := H
  replace H : (some t171) = some r := H
  have A3 := Aside0.mk A30
  clear A30
  obtain rfl := Option.some.inj H
  go_enter Tryd.func51, Tryd.ntmps51
  go_wp2_with (first | ((with_reducible refine gate_callee (f := 81) rfl ?_); refine goesL_ (some 7) rfl rfl Tryd.func81 (by kernel_rfl) rfl #[.string a0, .string a1] rfl (by (try simp only [List.map_toArray, List.map_cons, List.map_nil]); first | done | rfl | (simp only [List.length_drop, List.length_take]; rfl)) ?_; (with_reducible refine (stringslite_HasSuffix.calls a0 a1 t171 _ A3.out).mono ?_); rintro e w' ⟨rfl, ⟨nd, rfl⟩⟩; refine ⟨_, rfl, ?_⟩))
  go_ret
  exact ⟨by first | rfl | (simp; done) | (simp [*]; done), by repeat (first | exact Drawn0.refl _ | apply Drawn0.step)⟩
def texts_Ends.f (k : Nat) (a0 : ByteArray) (a1 : ByteArray) : Option (Bool × Int) := (texts_Checks.f k (([a0, a1] : List ByteArray))).bind fun t175 => (if t175 = 0 then ((strings_HasSuffix.f a0 a1).bind fun t176 => (some (t176, t175))) else (some (false, t175)))
set_option maxHeartbeats 8000000 in
set_option maxRecDepth 100000 in
theorem texts_Ends.calls (k : Nat) (a0 : ByteArray) (a1 : ByteArray) (r1 : Bool) (r2 : Int) (w : World) (hG : Aside0 (GlobG w)) (h : texts_Ends.f k a0 a1 = some (r1, r2)) :
    Calls Tryd.prog 17 #[.string a0, .string a1] w fun e w' => e = .returned (.tuple #[.bool r1, .int .i64 r2]) ∧ Below w.heap.size w w' := by
  have HB := Aside0.mk (Below.refl w.heap.size w)
  have H : ((texts_Checks.f k (([a0, a1] : List ByteArray))).bind fun t175 => (if t175 = 0 then ((strings_HasSuffix.f a0 a1).bind fun t176 => (some (t176, t175))) else (some (false, t175)))) = some (r1, r2) := h
  clear h
  obtain ⟨y172, hy172⟩ : ∃ y_ : List ByteArray, y_ = (([a0, a1] : List ByteArray)) := ⟨_, rfl⟩
  replace H : ((texts_Checks.f k y172).bind fun t175 => (if t175 = 0 then ((strings_HasSuffix.f a0 a1).bind fun t176 => (some (t176, t175))) else (some (false, t175)))) = some (r1, r2) := by first | (rw [hy172]; with_reducible exact H) | (have H2_ := (Option.bind_some _ _).symm.trans H; rw [hy172]; with_reducible exact H2_) | (have H2_ := (Option.bind_some _ _).symm.trans H; with_reducible exact H2_) | with_reducible exact H | (rw [hy172]; exact H) | exact H
  have Ny172 := Aside0.mk hy172
  clear hy172
  replace H := Option.bind_eq_some_iff.mp H
  obtain ⟨t175, A30, H⟩ := H
  replace H : (if t175 = 0 then ((strings_HasSuffix.f a0 a1).bind fun t176 => (some (t176, t175))) else (some (false, t175))) = some (r1, r2) := H
  have A3 := Aside0.mk A30
  clear A30
  by_cases c4 : t175 = 0
  · rw [if_pos c4] at H
    have c4b0 : (t175 == 0) = true := beq_iff_eq.mpr c4
    have c4b1 : (t175 != 0) = false := bne_eq_false_iff_eq.mpr c4
    clear c4
    replace H := Option.bind_eq_some_iff.mp H
    obtain ⟨t176, A50, H⟩ := H
    replace H : (some (t176, t175)) = some (r1, r2) := H
    have A5 := Aside0.mk A50
    clear A50
    simp only [Option.some.injEq, Prod.mk.injEq] at H
    obtain ⟨rfl, rfl⟩ := H
    go_enter Tryd.func17, Tryd.ntmps17
    go_wp2_with (first | ((with_reducible refine gate_dst (N := 9) rfl ?_); refine Kd.R_lit Kd.string _ 9 ?hg (N := 9) ?hd (xs := ([a0, a1] : List ByteArray)) (inner := [.string a0, .string a1]) (ok := fun _ => True) (okp := fun _ => True) ?hr ?hp (fun _ hk => hk) trivial (Below.refl _ _) (Nat.le_refl _) (by simp) ?_; (case hd => rfl); (case hg => rfl); (case hr => first | (go_simp; done) | (go_simp; rfl)); (case hp => exact (Reps.one (show Kd.M Kd.string _ _ _ a0 [.string a0] from rfl) (Reps.one (show Kd.M Kd.string _ _ _ a1 [.string a1] from rfl) (Reps.none _ _)))); intro v173 w6 ho7 hb hg_ hnew_; clear hg_ hnew_; (first | rw [← Ny172.out] at ho7 | (simp only [Int.reduceToNat] at ho7; rw [← Ny172.out] at ho7)); have n0_ := Aside0.mk (Kd.R_lower ho7 (below_size (by repeat (first | (with_reducible first | exact HB.out | apply below_alloc | apply pw_below_drewN | apply below_drew1) | exact HB.out)))); have n1_ := Aside0.mk (below_step (by repeat (first | (with_reducible first | exact HB.out | apply below_alloc | apply pw_below_drewN | apply below_drew1) | exact HB.out)) hb); clear HB; have HO174 := n0_; have HB := n1_; clear n0_ n1_; clear hb ho7; obtain ⟨Ao8, co8, eo8⟩ := Kd.R_slice HO174.out; subst eo8) | ((with_reducible refine gate_callee (f := 43) rfl ?_); refine goesL_ (some 10) rfl rfl Tryd.func43 (by kernel_rfl) rfl #[.slice Ao8 y172.length co8] rfl (by (try simp only [List.map_toArray, List.map_cons, List.map_nil]); first | done | rfl | (simp only [List.length_drop, List.length_take]; rfl)) ?_; (with_reducible refine (texts_Checks.calls k _ _ y172 t175 _ ?side1 ?side2 ?side3 A3.out).mono ?_); (case side1 => repeat (first | exact (Kd.R_reads' HO174.out).2.2 | (with_reducible refine Kd.C_alloc ?_ _) | (with_reducible refine Kd.C_drewN ?_ _) | (with_reducible refine Kd.C_drew ?_))); (case side2 => exact (Kd.R_reads' HO174.out).2.1); (case side3 => exact Aside0.mk (GlobG.below (by repeat (first | (with_reducible first | exact HB.out | apply below_alloc | apply pw_below_drewN | apply below_drew1) | exact HB.out)) hG.out)); rintro e w9 ⟨rfl, hb⟩; refine ⟨_, rfl, ?_⟩; have n0_ := Aside0.mk (Kd.R_below (by (with_reducible repeat (first | apply Kd.R_alloc | apply Kd.R_drewN | apply Kd.R_drew)); exact HO174.out) hb); have n1_ := Aside0.mk (below_step (by repeat (first | (with_reducible first | exact HB.out | apply below_alloc | apply pw_below_drewN | apply below_drew1) | exact HB.out)) hb); clear HO174; clear HB; have HO174 := n0_; have HB := n1_; clear n0_ n1_; (try clear hb); (try clear hb2); (try clear hk); (try clear hi)) | (go_at_call 51; (with_reducible refine (strings_HasSuffix.calls a0 a1 t176 _ A5.out).mono ?_); rintro e w' ⟨rfl, ⟨nd, rfl⟩⟩))
    go_ret2
    exact ⟨by first | rfl | (simp [errW_none, errW_some] <;> rfl) | (simp [*, errW_none, errW_some] <;> rfl), by repeat (first | (with_reducible first | exact HB.out | apply below_alloc | apply pw_below_drewN | apply below_drew1) | exact HB.out)⟩
  · rw [if_neg c4] at H
    have c4b0 : (t175 == 0) = false := beq_eq_false_iff_ne.mpr c4
    have c4b1 : (t175 != 0) = true := bne_iff_ne.mpr c4
    simp only [Option.some.injEq, Prod.mk.injEq] at H
    obtain ⟨rfl, rfl⟩ := H
    go_enter Tryd.func17, Tryd.ntmps17
    go_wp2_with (first | ((with_reducible refine gate_dst (N := 9) rfl ?_); refine Kd.R_lit Kd.string _ 9 ?hg (N := 9) ?hd (xs := ([a0, a1] : List ByteArray)) (inner := [.string a0, .string a1]) (ok := fun _ => True) (okp := fun _ => True) ?hr ?hp (fun _ hk => hk) trivial (Below.refl _ _) (Nat.le_refl _) (by simp) ?_; (case hd => rfl); (case hg => rfl); (case hr => first | (go_simp; done) | (go_simp; rfl)); (case hp => exact (Reps.one (show Kd.M Kd.string _ _ _ a0 [.string a0] from rfl) (Reps.one (show Kd.M Kd.string _ _ _ a1 [.string a1] from rfl) (Reps.none _ _)))); intro v173 w10 ho11 hb hg_ hnew_; clear hg_ hnew_; (first | rw [← Ny172.out] at ho11 | (simp only [Int.reduceToNat] at ho11; rw [← Ny172.out] at ho11)); have n0_ := Aside0.mk (Kd.R_lower ho11 (below_size (by repeat (first | (with_reducible first | exact HB.out | apply below_alloc | apply pw_below_drewN | apply below_drew1) | exact HB.out)))); have n1_ := Aside0.mk (below_step (by repeat (first | (with_reducible first | exact HB.out | apply below_alloc | apply pw_below_drewN | apply below_drew1) | exact HB.out)) hb); clear HB; have HO174 := n0_; have HB := n1_; clear n0_ n1_; clear hb ho11; obtain ⟨Ao12, co12, eo12⟩ := Kd.R_slice HO174.out; subst eo12) | ((with_reducible refine gate_callee (f := 43) rfl ?_); refine goesL_ (some 10) rfl rfl Tryd.func43 (by kernel_rfl) rfl #[.slice Ao12 y172.length co12] rfl (by (try simp only [List.map_toArray, List.map_cons, List.map_nil]); first | done | rfl | (simp only [List.length_drop, List.length_take]; rfl)) ?_; (with_reducible refine (texts_Checks.calls k _ _ y172 t175 _ ?side1 ?side2 ?side3 A3.out).mono ?_); (case side1 => repeat (first | exact (Kd.R_reads' HO174.out).2.2 | (with_reducible refine Kd.C_alloc ?_ _) | (with_reducible refine Kd.C_drewN ?_ _) | (with_reducible refine Kd.C_drew ?_))); (case side2 => exact (Kd.R_reads' HO174.out).2.1); (case side3 => exact Aside0.mk (GlobG.below (by repeat (first | (with_reducible first | exact HB.out | apply below_alloc | apply pw_below_drewN | apply below_drew1) | exact HB.out)) hG.out)); rintro e w13 ⟨rfl, hb⟩; refine ⟨_, rfl, ?_⟩; have n0_ := Aside0.mk (Kd.R_below (by (with_reducible repeat (first | apply Kd.R_alloc | apply Kd.R_drewN | apply Kd.R_drew)); exact HO174.out) hb); have n1_ := Aside0.mk (below_step (by repeat (first | (with_reducible first | exact HB.out | apply below_alloc | apply pw_below_drewN | apply below_drew1) | exact HB.out)) hb); clear HO174; clear HB; have HO174 := n0_; have HB := n1_; clear n0_ n1_; (try clear hb); (try clear hb2); (try clear hk); (try clear hi)))
    go_ret2
    exact ⟨by first | rfl | (simp [errW_none, errW_some] <;> rfl) | (simp [*, errW_none, errW_some] <;> rfl), by repeat (first | (with_reducible first | exact HB.out | apply below_alloc | apply pw_below_drewN | apply below_drew1) | exact HB.out)⟩
def stringslite_TrimPrefix.f (a0 : ByteArray) (a1 : ByteArray) : Option (ByteArray) := (stringslite_HasPrefix.f a0 a1).bind fun t177 => (if t177 = true then (if 0 ≤ (a1.size : Int) then (if (a1.size : Int) ≤ (a0.size : Int) then (some (a0.extract ((a1.size : Int) : Int).toNat a0.size)) else (none)) else (none)) else (some a0))
set_option maxHeartbeats 8000000 in
set_option maxRecDepth 100000 in
theorem stringslite_TrimPrefix.calls (a0 : ByteArray) (a1 : ByteArray) (r : ByteArray) (w : World) (h : stringslite_TrimPrefix.f a0 a1 = some r) :
    Calls Tryd.prog 82 #[.string a0, .string a1] w fun e w' => e = .returned (.string r) ∧ Drawn0 w w' := by
  have H : ((stringslite_HasPrefix.f a0 a1).bind fun t177 => (if t177 = true then (if 0 ≤ (a1.size : Int) then (if (a1.size : Int) ≤ (a0.size : Int) then (some (a0.extract ((a1.size : Int) : Int).toNat a0.size)) else (none)) else (none)) else (some a0))) = some r := h
  clear h
  replace H := Option.bind_eq_some_iff.mp H
  obtain ⟨t177, A30, H⟩ := H
  replace H : (if t177 = true then (if 0 ≤ (a1.size : Int) then (if (a1.size : Int) ≤ (a0.size : Int) then (some (a0.extract ((a1.size : Int) : Int).toNat a0.size)) else (none)) else (none)) else (some a0)) = some r := H
  have A3 := Aside0.mk A30
  clear A30
  by_cases c4 : t177 = true
  · subst c4
    have H1 : (if 0 ≤ (a1.size : Int) then (if (a1.size : Int) ≤ (a0.size : Int) then (some (a0.extract ((a1.size : Int) : Int).toNat a0.size)) else (none)) else (none)) = some r := by rw [if_pos rfl] at H; exact H
    clear H
    have H := H1
    clear H1
    by_cases c5 : 0 ≤ (a1.size : Int)
    · rw [if_pos c5] at H
      have c5b0 := eq_true c5
      have c5b1 : decide (0 ≤ (a1.size : Int)) = true := decide_eq_true c5
      clear c5
      by_cases c6 : (a1.size : Int) ≤ (a0.size : Int)
      · rw [if_pos c6] at H
        have c6b0 := eq_true c6
        have c6b1 : decide ((a1.size : Int) ≤ (a0.size : Int)) = true := decide_eq_true c6
        clear c6
        obtain rfl := Option.some.inj H
        go_enter Tryd.func82, Tryd.ntmps82
        go_wp2_with (first | ((with_reducible refine gate_callee (f := 80) rfl ?_); refine goesL_ (some 7) rfl rfl Tryd.func80 (by kernel_rfl) rfl #[.string a0, .string a1] rfl (by (try simp only [List.map_toArray, List.map_cons, List.map_nil]); first | done | rfl | (simp only [List.length_drop, List.length_take]; rfl)) ?_; (with_reducible refine (stringslite_HasPrefix.calls a0 a1 true _ A3.out).mono ?_); rintro e w' ⟨rfl, ⟨nd, rfl⟩⟩; refine ⟨_, rfl, ?_⟩))
        go_ret
        exact ⟨by first | rfl | (simp; done) | (simp [*]; done), by repeat (first | exact Drawn0.refl _ | apply Drawn0.step)⟩
      · rw [if_neg c6] at H
        exact absurd H (by simp)
    · rw [if_neg c5] at H
      exact absurd H (by simp)
  · replace c4 := Bool.eq_false_iff.mpr c4
    subst c4
    have H1 : (some a0) = some r := by rw [if_neg (show ¬ (false = true) by decide)] at H; exact H
    clear H
    have H := H1
    clear H1
    obtain rfl := Option.some.inj H
    go_enter Tryd.func82, Tryd.ntmps82
    go_wp2_with (first | ((with_reducible refine gate_callee (f := 80) rfl ?_); refine goesL_ (some 7) rfl rfl Tryd.func80 (by kernel_rfl) rfl #[.string a0, .string a1] rfl (by (try simp only [List.map_toArray, List.map_cons, List.map_nil]); first | done | rfl | (simp only [List.length_drop, List.length_take]; rfl)) ?_; (with_reducible refine (stringslite_HasPrefix.calls a0 a1 false _ A3.out).mono ?_); rintro e w' ⟨rfl, ⟨nd, rfl⟩⟩; refine ⟨_, rfl, ?_⟩))
    go_ret
    exact ⟨by first | rfl | (simp; done) | (simp [*]; done), by repeat (first | exact Drawn0.refl _ | apply Drawn0.step)⟩
def strings_TrimPrefix.f (a0 : ByteArray) (a1 : ByteArray) : Option (ByteArray) := (stringslite_TrimPrefix.f a0 a1).bind fun t178 => (some t178)
set_option maxHeartbeats 8000000 in
set_option maxRecDepth 100000 in
theorem strings_TrimPrefix.calls (a0 : ByteArray) (a1 : ByteArray) (r : ByteArray) (w : World) (h : strings_TrimPrefix.f a0 a1 = some r) :
    Calls Tryd.prog 52 #[.string a0, .string a1] w fun e w' => e = .returned (.string r) ∧ Drawn0 w w' := by
  have H : ((stringslite_TrimPrefix.f a0 a1).bind fun t178 => (some t178)) = some r := h
  clear h
  replace H := Option.bind_eq_some_iff.mp H
  obtain ⟨t178, A30, H⟩ := H
  replace H : (some t178) = some r := H
  have A3 := Aside0.mk A30
  clear A30
  obtain rfl := Option.some.inj H
  go_enter Tryd.func52, Tryd.ntmps52
  go_wp2_with (first | ((with_reducible refine gate_callee (f := 82) rfl ?_); refine goesL_ (some 7) rfl rfl Tryd.func82 (by kernel_rfl) rfl #[.string a0, .string a1] rfl (by (try simp only [List.map_toArray, List.map_cons, List.map_nil]); first | done | rfl | (simp only [List.length_drop, List.length_take]; rfl)) ?_; (with_reducible refine (stringslite_TrimPrefix.calls a0 a1 t178 _ A3.out).mono ?_); rintro e w' ⟨rfl, ⟨nd, rfl⟩⟩; refine ⟨_, rfl, ?_⟩))
  go_ret
  exact ⟨by first | rfl | (simp; done) | (simp [*]; done), by repeat (first | exact Drawn0.refl _ | apply Drawn0.step)⟩
def texts_TrimLeft.f (k : Nat) (a0 : ByteArray) (a1 : ByteArray) : Option (ByteArray × Int) := (strings_TrimPrefix.f a0 a1).bind fun t179 => ((texts_Checks.f k (([a0, a1] : List ByteArray))).bind fun t183 => ((texts_whole.f t179 t183).bind fun bt184 => (some (bt184.1, bt184.2))))
set_option maxHeartbeats 8000000 in
set_option maxRecDepth 100000 in
theorem texts_TrimLeft.calls (k : Nat) (a0 : ByteArray) (a1 : ByteArray) (r1 : ByteArray) (r2 : Int) (w : World) (hG : Aside0 (GlobG w)) (h : texts_TrimLeft.f k a0 a1 = some (r1, r2)) :
    Calls Tryd.prog 18 #[.string a0, .string a1] w fun e w' => e = .returned (.tuple #[.string r1, .int .i64 r2]) ∧ Below w.heap.size w w' := by
  have HB := Aside0.mk (Below.refl w.heap.size w)
  have H : ((strings_TrimPrefix.f a0 a1).bind fun t179 => ((texts_Checks.f k (([a0, a1] : List ByteArray))).bind fun t183 => ((texts_whole.f t179 t183).bind fun bt184 => (some (bt184.1, bt184.2))))) = some (r1, r2) := h
  clear h
  replace H := Option.bind_eq_some_iff.mp H
  obtain ⟨t179, A30, H⟩ := H
  replace H : ((texts_Checks.f k (([a0, a1] : List ByteArray))).bind fun t183 => ((texts_whole.f t179 t183).bind fun bt184 => (some (bt184.1, bt184.2)))) = some (r1, r2) := H
  have A3 := Aside0.mk A30
  clear A30
  obtain ⟨y180, hy180⟩ : ∃ y_ : List ByteArray, y_ = (([a0, a1] : List ByteArray)) := ⟨_, rfl⟩
  replace H : ((texts_Checks.f k y180).bind fun t183 => ((texts_whole.f t179 t183).bind fun bt184 => (some (bt184.1, bt184.2)))) = some (r1, r2) := by first | (rw [hy180]; with_reducible exact H) | (have H2_ := (Option.bind_some _ _).symm.trans H; rw [hy180]; with_reducible exact H2_) | (have H2_ := (Option.bind_some _ _).symm.trans H; with_reducible exact H2_) | with_reducible exact H | (rw [hy180]; exact H) | exact H
  have Ny180 := Aside0.mk hy180
  clear hy180
  replace H := Option.bind_eq_some_iff.mp H
  obtain ⟨t183, A40, H⟩ := H
  replace H : ((texts_whole.f t179 t183).bind fun bt184 => (some (bt184.1, bt184.2))) = some (r1, r2) := H
  have A4 := Aside0.mk A40
  clear A40
  replace H := Option.bind_eq_some_iff.mp H
  obtain ⟨⟨t184, t185⟩, A50, H⟩ := H
  replace H : (some (t184, t185)) = some (r1, r2) := H
  have A5 := Aside0.mk A50
  clear A50
  simp only [Option.some.injEq, Prod.mk.injEq] at H
  obtain ⟨rfl, rfl⟩ := H
  go_enter Tryd.func18, Tryd.ntmps18
  go_wp2_with (first | ((with_reducible refine gate_callee (f := 52) rfl ?_); refine goesL_ (some 8) rfl rfl Tryd.func52 (by kernel_rfl) rfl #[.string a0, .string a1] rfl (by (try simp only [List.map_toArray, List.map_cons, List.map_nil]); first | done | rfl | (simp only [List.length_drop, List.length_take]; rfl)) ?_; (with_reducible refine (strings_TrimPrefix.calls a0 a1 t179 _ A3.out).mono ?_); rintro e w' ⟨rfl, ⟨nd, rfl⟩⟩; refine ⟨_, rfl, ?_⟩) | ((with_reducible refine gate_dst (N := 11) rfl ?_); refine Kd.R_lit Kd.string _ 9 ?hg (N := 11) ?hd (xs := ([a0, a1] : List ByteArray)) (inner := [.string a0, .string a1]) (ok := fun _ => True) (okp := fun _ => True) ?hr ?hp (fun _ hk => hk) trivial (Below.refl _ _) (Nat.le_refl _) (by simp) ?_; (case hd => rfl); (case hg => rfl); (case hr => first | (go_simp; done) | (go_simp; rfl)); (case hp => exact (Reps.one (show Kd.M Kd.string _ _ _ a0 [.string a0] from rfl) (Reps.one (show Kd.M Kd.string _ _ _ a1 [.string a1] from rfl) (Reps.none _ _)))); intro v181 w6 ho7 hb hg_ hnew_; clear hg_ hnew_; (first | rw [← Ny180.out] at ho7 | (simp only [Int.reduceToNat] at ho7; rw [← Ny180.out] at ho7)); have n0_ := Aside0.mk (Kd.R_lower ho7 (below_size (by repeat (first | (with_reducible first | exact HB.out | apply below_alloc | apply pw_below_drewN | apply below_drew1) | exact HB.out)))); have n1_ := Aside0.mk (below_step (by repeat (first | (with_reducible first | exact HB.out | apply below_alloc | apply pw_below_drewN | apply below_drew1) | exact HB.out)) hb); clear HB; have HO182 := n0_; have HB := n1_; clear n0_ n1_; clear hb ho7; obtain ⟨Ao8, co8, eo8⟩ := Kd.R_slice HO182.out; subst eo8) | ((with_reducible refine gate_callee (f := 43) rfl ?_); refine goesL_ (some 12) rfl rfl Tryd.func43 (by kernel_rfl) rfl #[.slice Ao8 y180.length co8] rfl (by (try simp only [List.map_toArray, List.map_cons, List.map_nil]); first | done | rfl | (simp only [List.length_drop, List.length_take]; rfl)) ?_; (with_reducible refine (texts_Checks.calls k _ _ y180 t183 _ ?side1 ?side2 ?side3 A4.out).mono ?_); (case side1 => repeat (first | exact (Kd.R_reads' HO182.out).2.2 | (with_reducible refine Kd.C_alloc ?_ _) | (with_reducible refine Kd.C_drewN ?_ _) | (with_reducible refine Kd.C_drew ?_))); (case side2 => exact (Kd.R_reads' HO182.out).2.1); (case side3 => exact Aside0.mk (GlobG.below (by repeat (first | (with_reducible first | exact HB.out | apply below_alloc | apply pw_below_drewN | apply below_drew1) | exact HB.out)) hG.out)); rintro e w9 ⟨rfl, hb⟩; refine ⟨_, rfl, ?_⟩; have n0_ := Aside0.mk (Kd.R_below (by (with_reducible repeat (first | apply Kd.R_alloc | apply Kd.R_drewN | apply Kd.R_drew)); exact HO182.out) hb); have n1_ := Aside0.mk (below_step (by repeat (first | (with_reducible first | exact HB.out | apply below_alloc | apply pw_below_drewN | apply below_drew1) | exact HB.out)) hb); clear HO182; clear HB; have HO182 := n0_; have HB := n1_; clear n0_ n1_; (try clear hb); (try clear hb2); (try clear hk); (try clear hi)) | ((with_reducible refine gate_callee (f := 48) rfl ?_); refine goesL_ (some 13) rfl rfl Tryd.func48 (by kernel_rfl) rfl #[.string t179, .int .i64 t183] rfl (by (try simp only [List.map_toArray, List.map_cons, List.map_nil]); first | done | rfl | (simp only [List.length_drop, List.length_take]; rfl)) ?_; (with_reducible refine (texts_whole.calls t179 t183 t184 t185 _ A5.out).mono ?_); rintro e w' ⟨rfl, ⟨nd, rfl⟩⟩; refine ⟨_, rfl, ?_⟩))
  go_ret2
  exact ⟨by first | rfl | (simp [errW_none, errW_some] <;> rfl) | (simp [*, errW_none, errW_some] <;> rfl), by repeat (first | (with_reducible first | exact HB.out | apply below_alloc | apply pw_below_drewN | apply below_drew1) | exact HB.out)⟩
def stringslite_TrimSuffix.f (a0 : ByteArray) (a1 : ByteArray) : Option (ByteArray) := (stringslite_HasSuffix.f a0 a1).bind fun t186 => (if t186 = true then (if 0 ≤ (wrap64 ((a0.size : Int) - (a1.size : Int))) then (if (wrap64 ((a0.size : Int) - (a1.size : Int))) ≤ (a0.size : Int) then (some (a0.extract 0 ((wrap64 ((a0.size : Int) - (a1.size : Int))) : Int).toNat)) else (none)) else (none)) else (some a0))
set_option maxHeartbeats 8000000 in
set_option maxRecDepth 100000 in
theorem stringslite_TrimSuffix.calls (a0 : ByteArray) (a1 : ByteArray) (r : ByteArray) (w : World) (h : stringslite_TrimSuffix.f a0 a1 = some r) :
    Calls Tryd.prog 83 #[.string a0, .string a1] w fun e w' => e = .returned (.string r) ∧ Drawn0 w w' := by
  have H : ((stringslite_HasSuffix.f a0 a1).bind fun t186 => (if t186 = true then (if 0 ≤ (wrap64 ((a0.size : Int) - (a1.size : Int))) then (if (wrap64 ((a0.size : Int) - (a1.size : Int))) ≤ (a0.size : Int) then (some (a0.extract 0 ((wrap64 ((a0.size : Int) - (a1.size : Int))) : Int).toNat)) else (none)) else (none)) else (some a0))) = some r := h
  clear h
  replace H := Option.bind_eq_some_iff.mp H
  obtain ⟨t186, A30, H⟩ := H
  replace H : (if t186 = true then (if 0 ≤ (wrap64 ((a0.size : Int) - (a1.size : Int))) then (if (wrap64 ((a0.size : Int) - (a1.size : Int))) ≤ (a0.size : Int) then (some (a0.extract 0 ((wrap64 ((a0.size : Int) - (a1.size : Int))) : Int).toNat)) else (none)) else (none)) else (some a0)) = some r := H
  have A3 := Aside0.mk A30
  clear A30
  by_cases c4 : t186 = true
  · subst c4
    have H1 : (if 0 ≤ (wrap64 ((a0.size : Int) - (a1.size : Int))) then (if (wrap64 ((a0.size : Int) - (a1.size : Int))) ≤ (a0.size : Int) then (some (a0.extract 0 ((wrap64 ((a0.size : Int) - (a1.size : Int))) : Int).toNat)) else (none)) else (none)) = some r := by rw [if_pos rfl] at H; exact H
    clear H
    have H := H1
    clear H1
    obtain ⟨ji5, hji5⟩ : ∃ j_ : Int, (wrap64 ((a0.size : Int) - (a1.size : Int))) = j_ := ⟨_, rfl⟩
    replace H : (if 0 ≤ (ji5) then (if (ji5) ≤ (a0.size : Int) then (some (a0.extract 0 ((ji5) : Int).toNat)) else (none)) else (none)) = some r := by first | (rw [hji5] at H; exact H) | (simp only [hji5] at H ⊢; exact H)
    (try rw [hji5] at A3)
    have hji5w : (IntKind.i64.wrap ((a0.size : Int) - (a1.size : Int))) = ji5 := (i64_w _).trans hji5
    by_cases c6 : 0 ≤ (ji5)
    · rw [if_pos c6] at H
      have c6b0 := eq_true c6
      have c6b1 : decide (0 ≤ (ji5)) = true := decide_eq_true c6
      clear c6
      by_cases c7 : (ji5) ≤ (a0.size : Int)
      · rw [if_pos c7] at H
        have c7b0 := eq_true c7
        have c7b1 : decide ((ji5) ≤ (a0.size : Int)) = true := decide_eq_true c7
        clear c7
        obtain rfl := Option.some.inj H
        go_enter Tryd.func83, Tryd.ntmps83
        go_wp2_with (first | ((with_reducible refine gate_callee (f := 81) rfl ?_); refine goesL_ (some 7) rfl rfl Tryd.func81 (by kernel_rfl) rfl #[.string a0, .string a1] rfl (by (try simp only [List.map_toArray, List.map_cons, List.map_nil]); first | done | rfl | (simp only [List.length_drop, List.length_take]; rfl)) ?_; (with_reducible refine (stringslite_HasSuffix.calls a0 a1 true _ A3.out).mono ?_); rintro e w' ⟨rfl, ⟨nd, rfl⟩⟩; refine ⟨_, rfl, ?_⟩))
        go_ret
        exact ⟨by first | rfl | (simp; done) | (simp only [← hji5] <;> (first | rfl | simp)) | (simp [*]; done), by repeat (first | exact Drawn0.refl _ | apply Drawn0.step)⟩
      · rw [if_neg c7] at H
        exact absurd H (by simp)
    · rw [if_neg c6] at H
      exact absurd H (by simp)
  · replace c4 := Bool.eq_false_iff.mpr c4
    subst c4
    have H1 : (some a0) = some r := by rw [if_neg (show ¬ (false = true) by decide)] at H; exact H
    clear H
    have H := H1
    clear H1
    obtain rfl := Option.some.inj H
    go_enter Tryd.func83, Tryd.ntmps83
    go_wp2_with (first | ((with_reducible refine gate_callee (f := 81) rfl ?_); refine goesL_ (some 7) rfl rfl Tryd.func81 (by kernel_rfl) rfl #[.string a0, .string a1] rfl (by (try simp only [List.map_toArray, List.map_cons, List.map_nil]); first | done | rfl | (simp only [List.length_drop, List.length_take]; rfl)) ?_; (with_reducible refine (stringslite_HasSuffix.calls a0 a1 false _ A3.out).mono ?_); rintro e w' ⟨rfl, ⟨nd, rfl⟩⟩; refine ⟨_, rfl, ?_⟩))
    go_ret
    exact ⟨by first | rfl | (simp; done) | (simp [*]; done), by repeat (first | exact Drawn0.refl _ | apply Drawn0.step)⟩
def strings_TrimSuffix.f (a0 : ByteArray) (a1 : ByteArray) : Option (ByteArray) := (stringslite_TrimSuffix.f a0 a1).bind fun t187 => (some t187)
set_option maxHeartbeats 8000000 in
set_option maxRecDepth 100000 in
theorem strings_TrimSuffix.calls (a0 : ByteArray) (a1 : ByteArray) (r : ByteArray) (w : World) (h : strings_TrimSuffix.f a0 a1 = some r) :
    Calls Tryd.prog 53 #[.string a0, .string a1] w fun e w' => e = .returned (.string r) ∧ Drawn0 w w' := by
  have H : ((stringslite_TrimSuffix.f a0 a1).bind fun t187 => (some t187)) = some r := h
  clear h
  replace H := Option.bind_eq_some_iff.mp H
  obtain ⟨t187, A30, H⟩ := H
  replace H : (some t187) = some r := H
  have A3 := Aside0.mk A30
  clear A30
  obtain rfl := Option.some.inj H
  go_enter Tryd.func53, Tryd.ntmps53
  go_wp2_with (first | ((with_reducible refine gate_callee (f := 83) rfl ?_); refine goesL_ (some 7) rfl rfl Tryd.func83 (by kernel_rfl) rfl #[.string a0, .string a1] rfl (by (try simp only [List.map_toArray, List.map_cons, List.map_nil]); first | done | rfl | (simp only [List.length_drop, List.length_take]; rfl)) ?_; (with_reducible refine (stringslite_TrimSuffix.calls a0 a1 t187 _ A3.out).mono ?_); rintro e w' ⟨rfl, ⟨nd, rfl⟩⟩; refine ⟨_, rfl, ?_⟩))
  go_ret
  exact ⟨by first | rfl | (simp; done) | (simp [*]; done), by repeat (first | exact Drawn0.refl _ | apply Drawn0.step)⟩
def texts_TrimRight.f (k : Nat) (a0 : ByteArray) (a1 : ByteArray) : Option (ByteArray × Int) := (strings_TrimSuffix.f a0 a1).bind fun t188 => ((texts_Checks.f k (([a0, a1] : List ByteArray))).bind fun t192 => ((texts_whole.f t188 t192).bind fun bt193 => (some (bt193.1, bt193.2))))
set_option maxHeartbeats 8000000 in
set_option maxRecDepth 100000 in
theorem texts_TrimRight.calls (k : Nat) (a0 : ByteArray) (a1 : ByteArray) (r1 : ByteArray) (r2 : Int) (w : World) (hG : Aside0 (GlobG w)) (h : texts_TrimRight.f k a0 a1 = some (r1, r2)) :
    Calls Tryd.prog 19 #[.string a0, .string a1] w fun e w' => e = .returned (.tuple #[.string r1, .int .i64 r2]) ∧ Below w.heap.size w w' := by
  have HB := Aside0.mk (Below.refl w.heap.size w)
  have H : ((strings_TrimSuffix.f a0 a1).bind fun t188 => ((texts_Checks.f k (([a0, a1] : List ByteArray))).bind fun t192 => ((texts_whole.f t188 t192).bind fun bt193 => (some (bt193.1, bt193.2))))) = some (r1, r2) := h
  clear h
  replace H := Option.bind_eq_some_iff.mp H
  obtain ⟨t188, A30, H⟩ := H
  replace H : ((texts_Checks.f k (([a0, a1] : List ByteArray))).bind fun t192 => ((texts_whole.f t188 t192).bind fun bt193 => (some (bt193.1, bt193.2)))) = some (r1, r2) := H
  have A3 := Aside0.mk A30
  clear A30
  obtain ⟨y189, hy189⟩ : ∃ y_ : List ByteArray, y_ = (([a0, a1] : List ByteArray)) := ⟨_, rfl⟩
  replace H : ((texts_Checks.f k y189).bind fun t192 => ((texts_whole.f t188 t192).bind fun bt193 => (some (bt193.1, bt193.2)))) = some (r1, r2) := by first | (rw [hy189]; with_reducible exact H) | (have H2_ := (Option.bind_some _ _).symm.trans H; rw [hy189]; with_reducible exact H2_) | (have H2_ := (Option.bind_some _ _).symm.trans H; with_reducible exact H2_) | with_reducible exact H | (rw [hy189]; exact H) | exact H
  have Ny189 := Aside0.mk hy189
  clear hy189
  replace H := Option.bind_eq_some_iff.mp H
  obtain ⟨t192, A40, H⟩ := H
  replace H : ((texts_whole.f t188 t192).bind fun bt193 => (some (bt193.1, bt193.2))) = some (r1, r2) := H
  have A4 := Aside0.mk A40
  clear A40
  replace H := Option.bind_eq_some_iff.mp H
  obtain ⟨⟨t193, t194⟩, A50, H⟩ := H
  replace H : (some (t193, t194)) = some (r1, r2) := H
  have A5 := Aside0.mk A50
  clear A50
  simp only [Option.some.injEq, Prod.mk.injEq] at H
  obtain ⟨rfl, rfl⟩ := H
  go_enter Tryd.func19, Tryd.ntmps19
  go_wp2_with (first | ((with_reducible refine gate_callee (f := 53) rfl ?_); refine goesL_ (some 8) rfl rfl Tryd.func53 (by kernel_rfl) rfl #[.string a0, .string a1] rfl (by (try simp only [List.map_toArray, List.map_cons, List.map_nil]); first | done | rfl | (simp only [List.length_drop, List.length_take]; rfl)) ?_; (with_reducible refine (strings_TrimSuffix.calls a0 a1 t188 _ A3.out).mono ?_); rintro e w' ⟨rfl, ⟨nd, rfl⟩⟩; refine ⟨_, rfl, ?_⟩) | ((with_reducible refine gate_dst (N := 11) rfl ?_); refine Kd.R_lit Kd.string _ 9 ?hg (N := 11) ?hd (xs := ([a0, a1] : List ByteArray)) (inner := [.string a0, .string a1]) (ok := fun _ => True) (okp := fun _ => True) ?hr ?hp (fun _ hk => hk) trivial (Below.refl _ _) (Nat.le_refl _) (by simp) ?_; (case hd => rfl); (case hg => rfl); (case hr => first | (go_simp; done) | (go_simp; rfl)); (case hp => exact (Reps.one (show Kd.M Kd.string _ _ _ a0 [.string a0] from rfl) (Reps.one (show Kd.M Kd.string _ _ _ a1 [.string a1] from rfl) (Reps.none _ _)))); intro v190 w6 ho7 hb hg_ hnew_; clear hg_ hnew_; (first | rw [← Ny189.out] at ho7 | (simp only [Int.reduceToNat] at ho7; rw [← Ny189.out] at ho7)); have n0_ := Aside0.mk (Kd.R_lower ho7 (below_size (by repeat (first | (with_reducible first | exact HB.out | apply below_alloc | apply pw_below_drewN | apply below_drew1) | exact HB.out)))); have n1_ := Aside0.mk (below_step (by repeat (first | (with_reducible first | exact HB.out | apply below_alloc | apply pw_below_drewN | apply below_drew1) | exact HB.out)) hb); clear HB; have HO191 := n0_; have HB := n1_; clear n0_ n1_; clear hb ho7; obtain ⟨Ao8, co8, eo8⟩ := Kd.R_slice HO191.out; subst eo8) | ((with_reducible refine gate_callee (f := 43) rfl ?_); refine goesL_ (some 12) rfl rfl Tryd.func43 (by kernel_rfl) rfl #[.slice Ao8 y189.length co8] rfl (by (try simp only [List.map_toArray, List.map_cons, List.map_nil]); first | done | rfl | (simp only [List.length_drop, List.length_take]; rfl)) ?_; (with_reducible refine (texts_Checks.calls k _ _ y189 t192 _ ?side1 ?side2 ?side3 A4.out).mono ?_); (case side1 => repeat (first | exact (Kd.R_reads' HO191.out).2.2 | (with_reducible refine Kd.C_alloc ?_ _) | (with_reducible refine Kd.C_drewN ?_ _) | (with_reducible refine Kd.C_drew ?_))); (case side2 => exact (Kd.R_reads' HO191.out).2.1); (case side3 => exact Aside0.mk (GlobG.below (by repeat (first | (with_reducible first | exact HB.out | apply below_alloc | apply pw_below_drewN | apply below_drew1) | exact HB.out)) hG.out)); rintro e w9 ⟨rfl, hb⟩; refine ⟨_, rfl, ?_⟩; have n0_ := Aside0.mk (Kd.R_below (by (with_reducible repeat (first | apply Kd.R_alloc | apply Kd.R_drewN | apply Kd.R_drew)); exact HO191.out) hb); have n1_ := Aside0.mk (below_step (by repeat (first | (with_reducible first | exact HB.out | apply below_alloc | apply pw_below_drewN | apply below_drew1) | exact HB.out)) hb); clear HO191; clear HB; have HO191 := n0_; have HB := n1_; clear n0_ n1_; (try clear hb); (try clear hb2); (try clear hk); (try clear hi)) | ((with_reducible refine gate_callee (f := 48) rfl ?_); refine goesL_ (some 13) rfl rfl Tryd.func48 (by kernel_rfl) rfl #[.string t188, .int .i64 t192] rfl (by (try simp only [List.map_toArray, List.map_cons, List.map_nil]); first | done | rfl | (simp only [List.length_drop, List.length_take]; rfl)) ?_; (with_reducible refine (texts_whole.calls t188 t192 t193 t194 _ A5.out).mono ?_); rintro e w' ⟨rfl, ⟨nd, rfl⟩⟩; refine ⟨_, rfl, ?_⟩))
  go_ret2
  exact ⟨by first | rfl | (simp [errW_none, errW_some] <;> rfl) | (simp [*, errW_none, errW_some] <;> rfl), by repeat (first | (with_reducible first | exact HB.out | apply below_alloc | apply pw_below_drewN | apply below_drew1) | exact HB.out)⟩
def bolterref04_may.f (a0 : Int) : Option (Bool) := if a0 ≥ 0 then (if a0 ≤ 1114111 then (if a0 < 55296 then (some true) else (some (decide (a0 > 57343)))) else (some false)) else (some false)
set_option maxHeartbeats 8000000 in
set_option maxRecDepth 100000 in
theorem bolterref04_may.calls (a0 : Int) (r : Bool) (w : World) (h : bolterref04_may.f a0 = some r) :
    Calls Tryd.prog 84 #[.int .i64 a0] w fun e w' => e = .returned (.bool r) ∧ Drawn0 w w' := by
  have H : (if a0 ≥ 0 then (if a0 ≤ 1114111 then (if a0 < 55296 then (some true) else (some (decide (a0 > 57343)))) else (some false)) else (some false)) = some r := h
  clear h
  by_cases c2 : a0 ≥ 0
  · rw [if_pos c2] at H
    have c2b0 : decide (0 ≤ a0) = true := decide_eq_true c2
    clear c2
    by_cases c3 : a0 ≤ 1114111
    · rw [if_pos c3] at H
      have c3b0 : decide (a0 ≤ 1114111) = true := decide_eq_true c3
      clear c3
      by_cases c4 : a0 < 55296
      · rw [if_pos c4] at H
        have c4b0 : decide (a0 < 55296) = true := decide_eq_true c4
        clear c4
        obtain rfl := Option.some.inj H
        go_enter Tryd.func84, Tryd.ntmps84
        go_wp2
        go_ret
        exact ⟨by first | rfl | (simp; done) | (simp [*]; done), by repeat (first | exact Drawn0.refl _ | apply Drawn0.step)⟩
      · rw [if_neg c4] at H
        have c4b0 : decide (a0 < 55296) = false := decide_eq_false c4
        clear c4
        obtain rfl := Option.some.inj H
        go_enter Tryd.func84, Tryd.ntmps84
        go_wp2
        go_ret
        exact ⟨by first | rfl | (simp; done) | (simp [*]; done), by repeat (first | exact Drawn0.refl _ | apply Drawn0.step)⟩
    · rw [if_neg c3] at H
      have c3b0 : decide (a0 ≤ 1114111) = false := decide_eq_false c3
      clear c3
      obtain rfl := Option.some.inj H
      go_enter Tryd.func84, Tryd.ntmps84
      go_wp2
      go_ret
      exact ⟨by first | rfl | (simp; done) | (simp [*]; done), by repeat (first | exact Drawn0.refl _ | apply Drawn0.step)⟩
  · rw [if_neg c2] at H
    have c2b0 : decide (0 ≤ a0) = false := decide_eq_false c2
    clear c2
    obtain rfl := Option.some.inj H
    go_enter Tryd.func84, Tryd.ntmps84
    go_wp2
    go_ret
    exact ⟨by first | rfl | (simp; done) | (simp [*]; done), by repeat (first | exact Drawn0.refl _ | apply Drawn0.step)⟩
def bolterref04_Octets.f (a0 : Int) : Option (List Int) := if a0 < 128 then (some (([(a0) % 256] : List Int))) else (if a0 < 2048 then (some (([(wrap64 (192 + (wrap64 (Int.tdiv a0 64)))) % 256, (wrap64 (128 + (Int.tmod a0 64))) % 256] : List Int))) else (if a0 < 65536 then (some (([(wrap64 (224 + (wrap64 (Int.tdiv a0 4096)))) % 256, (wrap64 (128 + (Int.tmod (wrap64 (Int.tdiv a0 64)) 64))) % 256, (wrap64 (128 + (Int.tmod a0 64))) % 256] : List Int))) else (some (([(wrap64 (240 + (wrap64 (Int.tdiv a0 262144)))) % 256, (wrap64 (128 + (Int.tmod (wrap64 (Int.tdiv a0 4096)) 64))) % 256, (wrap64 (128 + (Int.tmod (wrap64 (Int.tdiv a0 64)) 64))) % 256, (wrap64 (128 + (Int.tmod a0 64))) % 256] : List Int)))))
set_option maxHeartbeats 8000000 in
set_option maxRecDepth 100000 in
theorem bolterref04_Octets.calls (a0 : Int) (r : List Int) (w : World) (h : bolterref04_Octets.f a0 = some r) :
    Calls Tryd.prog 85 #[.int .i64 a0] w fun e w' => ∃ v0_ : Value, e = .returned (v0_) ∧ Kd.R (Kd.int .u8) 5 w' w.heap.size (fun _ => True) v0_ r ∧ Below w.heap.size w w' := by
  have HB := Aside0.mk (Below.refl w.heap.size w)
  have H : (if a0 < 128 then (some (([(a0) % 256] : List Int))) else (if a0 < 2048 then (some (([(wrap64 (192 + (wrap64 (Int.tdiv a0 64)))) % 256, (wrap64 (128 + (Int.tmod a0 64))) % 256] : List Int))) else (if a0 < 65536 then (some (([(wrap64 (224 + (wrap64 (Int.tdiv a0 4096)))) % 256, (wrap64 (128 + (Int.tmod (wrap64 (Int.tdiv a0 64)) 64))) % 256, (wrap64 (128 + (Int.tmod a0 64))) % 256] : List Int))) else (some (([(wrap64 (240 + (wrap64 (Int.tdiv a0 262144)))) % 256, (wrap64 (128 + (Int.tmod (wrap64 (Int.tdiv a0 4096)) 64))) % 256, (wrap64 (128 + (Int.tmod (wrap64 (Int.tdiv a0 64)) 64))) % 256, (wrap64 (128 + (Int.tmod a0 64))) % 256] : List Int)))))) = some r := h
  clear h
  by_cases c2 : a0 < 128
  · rw [if_pos c2] at H
    have c2b0 : decide (a0 < 128) = true := decide_eq_true c2
    clear c2
    obtain ⟨y195, hy195⟩ : ∃ y_ : List Int, y_ = (([(a0) % 256] : List Int)) := ⟨_, rfl⟩
    replace H : (some y195) = some r := by first | (rw [hy195]; with_reducible exact H) | (have H2_ := (Option.bind_some _ _).symm.trans H; rw [hy195]; with_reducible exact H2_) | (have H2_ := (Option.bind_some _ _).symm.trans H; with_reducible exact H2_) | with_reducible exact H | (rw [hy195]; exact H) | exact H
    have Ny195 := Aside0.mk hy195
    clear hy195
    obtain rfl := Option.some.inj H
    go_enter Tryd.func85, Tryd.ntmps85
    go_wp2_with (first | ((with_reducible refine gate_dst (N := 8) rfl ?_); refine Kd.R_lit (Kd.int .u8) _ 5 ?hg (N := 8) ?hd (xs := ([(a0) % 256] : List Int)) (inner := [.int .u8 ((a0) % 256)]) (ok := fun _ => True) (okp := fun _ => True) ?hr ?hp (fun _ hk => hk) trivial (Below.refl _ _) (Nat.le_refl _) (by simp) ?_; (case hd => rfl); (case hg => rfl); (case hr => first | (go_simp; done) | (go_simp; rfl)); (case hp => exact (Reps.one (show Kd.M (Kd.int .u8) _ _ _ ((a0) % 256) [.int .u8 ((a0) % 256)] from rfl) (Reps.none _ _))); intro v196 w3 ho4 hb hg_ hnew_; clear hg_ hnew_; (first | rw [← Ny195.out] at ho4 | (simp only [Int.reduceToNat] at ho4; rw [← Ny195.out] at ho4)); have n0_ := Aside0.mk (Kd.R_lower ho4 (below_size (by repeat (first | (with_reducible first | exact HB.out | apply below_alloc | apply pw_below_drewN | apply below_drew1) | exact HB.out)))); have n1_ := Aside0.mk (below_step (by repeat (first | (with_reducible first | exact HB.out | apply below_alloc | apply pw_below_drewN | apply below_drew1) | exact HB.out)) hb); clear HB; have HO197 := n0_; have HB := n1_; clear n0_ n1_; clear hb ho4))
    go_ret
    exact ⟨_, by first | rfl | (simp [errW_none, errW_some] <;> rfl) | (simp [*, errW_none, errW_some] <;> rfl), by (with_reducible repeat (first | apply Kd.R_alloc | apply Kd.R_drewN | apply Kd.R_drew)); exact HO197.out, by repeat (first | (with_reducible first | exact HB.out | apply below_alloc | apply pw_below_drewN | apply below_drew1) | exact HB.out)⟩
  · rw [if_neg c2] at H
    have c2b0 : decide (a0 < 128) = false := decide_eq_false c2
    clear c2
    by_cases c5 : a0 < 2048
    · rw [if_pos c5] at H
      have c5b0 : decide (a0 < 2048) = true := decide_eq_true c5
      clear c5
      obtain ⟨y198, hy198⟩ : ∃ y_ : List Int, y_ = (([(wrap64 (192 + (wrap64 (Int.tdiv a0 64)))) % 256, (wrap64 (128 + (Int.tmod a0 64))) % 256] : List Int)) := ⟨_, rfl⟩
      replace H : (some y198) = some r := by first | (rw [hy198]; with_reducible exact H) | (have H2_ := (Option.bind_some _ _).symm.trans H; rw [hy198]; with_reducible exact H2_) | (have H2_ := (Option.bind_some _ _).symm.trans H; with_reducible exact H2_) | with_reducible exact H | (rw [hy198]; exact H) | exact H
      have Ny198 := Aside0.mk hy198
      clear hy198
      obtain rfl := Option.some.inj H
      go_enter Tryd.func85, Tryd.ntmps85
      go_wp2_with (first | ((with_reducible refine gate_dst (N := 20) rfl ?_); refine Kd.R_lit (Kd.int .u8) _ 5 ?hg (N := 20) ?hd (xs := ([(wrap64 (192 + (wrap64 (Int.tdiv a0 64)))) % 256, (wrap64 (128 + (Int.tmod a0 64))) % 256] : List Int)) (inner := [.int .u8 ((wrap64 (192 + (wrap64 (Int.tdiv a0 64)))) % 256), .int .u8 ((wrap64 (128 + (Int.tmod a0 64))) % 256)]) (ok := fun _ => True) (okp := fun _ => True) ?hr ?hp (fun _ hk => hk) trivial (Below.refl _ _) (Nat.le_refl _) (by simp) ?_; (case hd => rfl); (case hg => rfl); (case hr => first | (go_simp; done) | (go_simp; rfl)); (case hp => exact (Reps.one (show Kd.M (Kd.int .u8) _ _ _ ((wrap64 (192 + (wrap64 (Int.tdiv a0 64)))) % 256) [.int .u8 ((wrap64 (192 + (wrap64 (Int.tdiv a0 64)))) % 256)] from rfl) (Reps.one (show Kd.M (Kd.int .u8) _ _ _ ((wrap64 (128 + (Int.tmod a0 64))) % 256) [.int .u8 ((wrap64 (128 + (Int.tmod a0 64))) % 256)] from rfl) (Reps.none _ _)))); intro v199 w6 ho7 hb hg_ hnew_; clear hg_ hnew_; (first | rw [← Ny198.out] at ho7 | (simp only [Int.reduceToNat] at ho7; rw [← Ny198.out] at ho7)); have n0_ := Aside0.mk (Kd.R_lower ho7 (below_size (by repeat (first | (with_reducible first | exact HB.out | apply below_alloc | apply pw_below_drewN | apply below_drew1) | exact HB.out)))); have n1_ := Aside0.mk (below_step (by repeat (first | (with_reducible first | exact HB.out | apply below_alloc | apply pw_below_drewN | apply below_drew1) | exact HB.out)) hb); clear HB; have HO200 := n0_; have HB := n1_; clear n0_ n1_; clear hb ho7))
      go_ret
      exact ⟨_, by first | rfl | (simp [errW_none, errW_some] <;> rfl) | (simp [*, errW_none, errW_some] <;> rfl), by (with_reducible repeat (first | apply Kd.R_alloc | apply Kd.R_drewN | apply Kd.R_drew)); exact HO200.out, by repeat (first | (with_reducible first | exact HB.out | apply below_alloc | apply pw_below_drewN | apply below_drew1) | exact HB.out)⟩
    · rw [if_neg c5] at H
      have c5b0 : decide (a0 < 2048) = false := decide_eq_false c5
      clear c5
      by_cases c8 : a0 < 65536
      · rw [if_pos c8] at H
        have c8b0 : decide (a0 < 65536) = true := decide_eq_true c8
        clear c8
        obtain ⟨y201, hy201⟩ : ∃ y_ : List Int, y_ = (([(wrap64 (224 + (wrap64 (Int.tdiv a0 4096)))) % 256, (wrap64 (128 + (Int.tmod (wrap64 (Int.tdiv a0 64)) 64))) % 256, (wrap64 (128 + (Int.tmod a0 64))) % 256] : List Int)) := ⟨_, rfl⟩
        replace H : (some y201) = some r := by first | (rw [hy201]; with_reducible exact H) | (have H2_ := (Option.bind_some _ _).symm.trans H; rw [hy201]; with_reducible exact H2_) | (have H2_ := (Option.bind_some _ _).symm.trans H; with_reducible exact H2_) | with_reducible exact H | (rw [hy201]; exact H) | exact H
        have Ny201 := Aside0.mk hy201
        clear hy201
        obtain rfl := Option.some.inj H
        go_enter Tryd.func85, Tryd.ntmps85
        go_wp2_with (first | ((with_reducible refine gate_dst (N := 37) rfl ?_); refine Kd.R_lit (Kd.int .u8) _ 5 ?hg (N := 37) ?hd (xs := ([(wrap64 (224 + (wrap64 (Int.tdiv a0 4096)))) % 256, (wrap64 (128 + (Int.tmod (wrap64 (Int.tdiv a0 64)) 64))) % 256, (wrap64 (128 + (Int.tmod a0 64))) % 256] : List Int)) (inner := [.int .u8 ((wrap64 (224 + (wrap64 (Int.tdiv a0 4096)))) % 256), .int .u8 ((wrap64 (128 + (Int.tmod (wrap64 (Int.tdiv a0 64)) 64))) % 256), .int .u8 ((wrap64 (128 + (Int.tmod a0 64))) % 256)]) (ok := fun _ => True) (okp := fun _ => True) ?hr ?hp (fun _ hk => hk) trivial (Below.refl _ _) (Nat.le_refl _) (by simp) ?_; (case hd => rfl); (case hg => rfl); (case hr => first | (go_simp; done) | (go_simp; rfl)); (case hp => exact (Reps.one (show Kd.M (Kd.int .u8) _ _ _ ((wrap64 (224 + (wrap64 (Int.tdiv a0 4096)))) % 256) [.int .u8 ((wrap64 (224 + (wrap64 (Int.tdiv a0 4096)))) % 256)] from rfl) (Reps.one (show Kd.M (Kd.int .u8) _ _ _ ((wrap64 (128 + (Int.tmod (wrap64 (Int.tdiv a0 64)) 64))) % 256) [.int .u8 ((wrap64 (128 + (Int.tmod (wrap64 (Int.tdiv a0 64)) 64))) % 256)] from rfl) (Reps.one (show Kd.M (Kd.int .u8) _ _ _ ((wrap64 (128 + (Int.tmod a0 64))) % 256) [.int .u8 ((wrap64 (128 + (Int.tmod a0 64))) % 256)] from rfl) (Reps.none _ _))))); intro v202 w9 ho10 hb hg_ hnew_; clear hg_ hnew_; (first | rw [← Ny201.out] at ho10 | (simp only [Int.reduceToNat] at ho10; rw [← Ny201.out] at ho10)); have n0_ := Aside0.mk (Kd.R_lower ho10 (below_size (by repeat (first | (with_reducible first | exact HB.out | apply below_alloc | apply pw_below_drewN | apply below_drew1) | exact HB.out)))); have n1_ := Aside0.mk (below_step (by repeat (first | (with_reducible first | exact HB.out | apply below_alloc | apply pw_below_drewN | apply below_drew1) | exact HB.out)) hb); clear HB; have HO203 := n0_; have HB := n1_; clear n0_ n1_; clear hb ho10))
        go_ret
        exact ⟨_, by first | rfl | (simp [errW_none, errW_some] <;> rfl) | (simp [*, errW_none, errW_some] <;> rfl), by (with_reducible repeat (first | apply Kd.R_alloc | apply Kd.R_drewN | apply Kd.R_drew)); exact HO203.out, by repeat (first | (with_reducible first | exact HB.out | apply below_alloc | apply pw_below_drewN | apply below_drew1) | exact HB.out)⟩
      · rw [if_neg c8] at H
        have c8b0 : decide (a0 < 65536) = false := decide_eq_false c8
        clear c8
        obtain ⟨y204, hy204⟩ : ∃ y_ : List Int, y_ = (([(wrap64 (240 + (wrap64 (Int.tdiv a0 262144)))) % 256, (wrap64 (128 + (Int.tmod (wrap64 (Int.tdiv a0 4096)) 64))) % 256, (wrap64 (128 + (Int.tmod (wrap64 (Int.tdiv a0 64)) 64))) % 256, (wrap64 (128 + (Int.tmod a0 64))) % 256] : List Int)) := ⟨_, rfl⟩
        replace H : (some y204) = some r := by first | (rw [hy204]; with_reducible exact H) | (have H2_ := (Option.bind_some _ _).symm.trans H; rw [hy204]; with_reducible exact H2_) | (have H2_ := (Option.bind_some _ _).symm.trans H; with_reducible exact H2_) | with_reducible exact H | (rw [hy204]; exact H) | exact H
        have Ny204 := Aside0.mk hy204
        clear hy204
        obtain rfl := Option.some.inj H
        go_enter Tryd.func85, Tryd.ntmps85
        go_wp2_with (first | ((with_reducible refine gate_dst (N := 56) rfl ?_); refine Kd.R_lit (Kd.int .u8) _ 5 ?hg (N := 56) ?hd (xs := ([(wrap64 (240 + (wrap64 (Int.tdiv a0 262144)))) % 256, (wrap64 (128 + (Int.tmod (wrap64 (Int.tdiv a0 4096)) 64))) % 256, (wrap64 (128 + (Int.tmod (wrap64 (Int.tdiv a0 64)) 64))) % 256, (wrap64 (128 + (Int.tmod a0 64))) % 256] : List Int)) (inner := [.int .u8 ((wrap64 (240 + (wrap64 (Int.tdiv a0 262144)))) % 256), .int .u8 ((wrap64 (128 + (Int.tmod (wrap64 (Int.tdiv a0 4096)) 64))) % 256), .int .u8 ((wrap64 (128 + (Int.tmod (wrap64 (Int.tdiv a0 64)) 64))) % 256), .int .u8 ((wrap64 (128 + (Int.tmod a0 64))) % 256)]) (ok := fun _ => True) (okp := fun _ => True) ?hr ?hp (fun _ hk => hk) trivial (Below.refl _ _) (Nat.le_refl _) (by simp) ?_; (case hd => rfl); (case hg => rfl); (case hr => first | (go_simp; done) | (go_simp; rfl)); (case hp => exact (Reps.one (show Kd.M (Kd.int .u8) _ _ _ ((wrap64 (240 + (wrap64 (Int.tdiv a0 262144)))) % 256) [.int .u8 ((wrap64 (240 + (wrap64 (Int.tdiv a0 262144)))) % 256)] from rfl) (Reps.one (show Kd.M (Kd.int .u8) _ _ _ ((wrap64 (128 + (Int.tmod (wrap64 (Int.tdiv a0 4096)) 64))) % 256) [.int .u8 ((wrap64 (128 + (Int.tmod (wrap64 (Int.tdiv a0 4096)) 64))) % 256)] from rfl) (Reps.one (show Kd.M (Kd.int .u8) _ _ _ ((wrap64 (128 + (Int.tmod (wrap64 (Int.tdiv a0 64)) 64))) % 256) [.int .u8 ((wrap64 (128 + (Int.tmod (wrap64 (Int.tdiv a0 64)) 64))) % 256)] from rfl) (Reps.one (show Kd.M (Kd.int .u8) _ _ _ ((wrap64 (128 + (Int.tmod a0 64))) % 256) [.int .u8 ((wrap64 (128 + (Int.tmod a0 64))) % 256)] from rfl) (Reps.none _ _)))))); intro v205 w11 ho12 hb hg_ hnew_; clear hg_ hnew_; (first | rw [← Ny204.out] at ho12 | (simp only [Int.reduceToNat] at ho12; rw [← Ny204.out] at ho12)); have n0_ := Aside0.mk (Kd.R_lower ho12 (below_size (by repeat (first | (with_reducible first | exact HB.out | apply below_alloc | apply pw_below_drewN | apply below_drew1) | exact HB.out)))); have n1_ := Aside0.mk (below_step (by repeat (first | (with_reducible first | exact HB.out | apply below_alloc | apply pw_below_drewN | apply below_drew1) | exact HB.out)) hb); clear HB; have HO206 := n0_; have HB := n1_; clear n0_ n1_; clear hb ho12))
        go_ret
        exact ⟨_, by first | rfl | (simp [errW_none, errW_some] <;> rfl) | (simp [*, errW_none, errW_some] <;> rfl), by (with_reducible repeat (first | apply Kd.R_alloc | apply Kd.R_drewN | apply Kd.R_drew)); exact HO206.out, by repeat (first | (with_reducible first | exact HB.out | apply below_alloc | apply pw_below_drewN | apply below_drew1) | exact HB.out)⟩
end Go.Proofs.YtdhjdddjgcfhkaaDoor.B

end

section
/- What Begins, Ends, TrimLeft, TrimRight of texts tell. -/
set_option linter.unusedVariables false
set_option linter.unusedSimpArgs false
namespace Go.Proofs.YtdhjdddjgcfhkaaDoor.P
open Go.Lib Go.RowKit Go.Proofs.YtdhjdddjgcfhkaaDoor.B Go.Proofs.YtdhjdddjgcfhkaaDoorW.PrintWords

theorem hasPrefix_f (a0 a1 : ByteArray) : stringslite_HasPrefix.f a0 a1 = some (hasPrefix a0.data.toList a1.data.toList) := by
  unfold stringslite_HasPrefix.f
  rw [← hasPrefix_raw]
  by_cases h : a1.size ≤ a0.size
  · rw [if_pos (by omega), if_pos (by omega), if_pos (by omega), Int.toNat_natCast, decide_eq_true h]; rfl
  · rw [if_neg (by omega), decide_eq_false h]; rfl
theorem hasSuffix_f (a0 a1 : ByteArray) (hz : a0.size < 9223372036854775807) : stringslite_HasSuffix.f a0 a1 = some (hasSuffix a0.data.toList a1.data.toList) := by
  unfold stringslite_HasSuffix.f
  rw [← hasSuffix_raw]
  by_cases h : a1.size ≤ a0.size
  · rw [if_pos (by omega), w64 (by omega) (by omega), if_pos (by omega), if_pos (by omega), show ((a0.size : Int) - a1.size).toNat = a0.size - a1.size by omega, decide_eq_true h]; rfl
  · rw [if_neg (by omega), decide_eq_false h]; rfl
theorem prefix_size {a0 a1 : ByteArray} (h : hasPrefix a0.data.toList a1.data.toList = true) : a1.size ≤ a0.size := by
  rw [← hasPrefix_raw, Bool.and_eq_true] at h
  exact of_decide_eq_true h.1
theorem suffix_size {a0 a1 : ByteArray} (h : hasSuffix a0.data.toList a1.data.toList = true) : a1.size ≤ a0.size := by
  rw [← hasSuffix_raw, Bool.and_eq_true] at h
  exact of_decide_eq_true h.1
theorem trimPrefix_f (a0 a1 : ByteArray) : stringslite_TrimPrefix.f a0 a1 = some ⟨(trimPrefix a0.data.toList a1.data.toList).toArray⟩ := by
  unfold stringslite_TrimPrefix.f
  rw [hasPrefix_f]
  simp only [Option.bind_some]
  by_cases h : hasPrefix a0.data.toList a1.data.toList = true
  · have h' := h
    rw [← hasPrefix_raw, Bool.and_eq_true] at h'
    rw [if_pos h, if_pos (by omega), if_pos (by have := of_decide_eq_true h'.1; omega), Int.toNat_natCast, trimPrefix_hit _ _ (of_decide_eq_true h'.1) h'.2]
  · rw [if_neg h, trimPrefix_miss]
    rw [hasPrefix_raw]; simpa using h
theorem trimSuffix_f (a0 a1 : ByteArray) (hz : a0.size < 9223372036854775807) : stringslite_TrimSuffix.f a0 a1 = some ⟨(trimSuffix a0.data.toList a1.data.toList).toArray⟩ := by
  unfold stringslite_TrimSuffix.f
  rw [hasSuffix_f _ _ hz]
  simp only [Option.bind_some]
  by_cases h : hasSuffix a0.data.toList a1.data.toList = true
  · have h' := h
    rw [← hasSuffix_raw, Bool.and_eq_true] at h'
    have hle := of_decide_eq_true h'.1
    rw [if_pos h, w64 (by omega) (by omega), if_pos (by omega), if_pos (by omega), show ((a0.size : Int) - a1.size).toNat = a0.size - a1.size by omega, trimSuffix_hit _ _ hle h'.2]
  · rw [if_neg h, trimSuffix_miss]
    rw [hasSuffix_raw]; simpa using h
def begV (a b : List UInt8) (e : Int) : Bool × Int := if e = 0 then (hasPrefix a b, 0) else (false, e)
def endV (a b : List UInt8) (e : Int) : Bool × Int := if e = 0 then (hasSuffix a b, 0) else (false, e)
def whoV (l : List UInt8) (e : Int) : ByteArray × Int := if e = 0 then wholeV l else (⟨#[]⟩, e)
theorem two_le (a b : ByteArray) (ha : a.size ≤ 140737488351232) (hb : b.size ≤ 140737488351232) : ∀ s ∈ [a, b], s.size ≤ 140737488351232 := by
  intro s h
  simp only [List.mem_cons, List.mem_nil_iff, or_false] at h
  rcases h with rfl | rfl <;> assumption
theorem begins_tells (a b : ByteArray) (ha : a.size ≤ 140737488351232) (hb : b.size ≤ 140737488351232) : Tells (fun k => texts_Begins.f k a b) (begV a.data.toList b.data.toList (errs [a, b])) := by
  unfold texts_Begins.f
  refine (checks_tells [a, b] (by simp) (two_le a b ha hb)).bind ?_
  unfold begV
  by_cases he : errs [a, b] = 0
  · simp only [he, if_true]
    unfold strings_HasPrefix.f
    rw [hasPrefix_f]
    exact Tells.pure _
  · simp only [he, if_false]
    exact Tells.pure _
theorem ends_tells (a b : ByteArray) (ha : a.size ≤ 140737488351232) (hb : b.size ≤ 140737488351232) : Tells (fun k => texts_Ends.f k a b) (endV a.data.toList b.data.toList (errs [a, b])) := by
  unfold texts_Ends.f
  refine (checks_tells [a, b] (by simp) (two_le a b ha hb)).bind ?_
  unfold endV
  by_cases he : errs [a, b] = 0
  · simp only [he, if_true]
    unfold strings_HasSuffix.f
    rw [hasSuffix_f _ _ (by omega)]
    exact Tells.pure _
  · simp only [he, if_false]
    exact Tells.pure _
theorem who_f (l : List UInt8) (e : Int) : texts_whole.f ⟨l.toArray⟩ e = some (whoV l e) := by
  unfold whoV
  by_cases he : e = 0
  · subst he; rw [if_pos rfl, whole_ok]
  · rw [if_neg he, whole_err _ _ he]
theorem trimLeft_tells (a b : ByteArray) (ha : a.size ≤ 140737488351232) (hb : b.size ≤ 140737488351232) : Tells (fun k => texts_TrimLeft.f k a b) (whoV (trimPrefix a.data.toList b.data.toList) (errs [a, b])) := by
  unfold texts_TrimLeft.f strings_TrimPrefix.f
  rw [trimPrefix_f]
  simp only [Option.bind_some]
  refine (checks_tells [a, b] (by simp) (two_le a b ha hb)).bind ?_
  rw [who_f]
  exact Tells.pure _
theorem trimRight_tells (a b : ByteArray) (ha : a.size ≤ 140737488351232) (hb : b.size ≤ 140737488351232) : Tells (fun k => texts_TrimRight.f k a b) (whoV (trimSuffix a.data.toList b.data.toList) (errs [a, b])) := by
  unfold texts_TrimRight.f strings_TrimSuffix.f
  rw [trimSuffix_f _ _ (by omega)]
  simp only [Option.bind_some]
  refine (checks_tells [a, b] (by simp) (two_le a b ha hb)).bind ?_
  rw [who_f]
  exact Tells.pure _
end Go.Proofs.YtdhjdddjgcfhkaaDoor.P

end

section
namespace Go.Proofs.YtdhjdddjgcfhkaaDoor.B
open Go.RowKit Go.Proofs.YtdhjdddjgcfhkaaDoorW.PrintWords Go.Proofs.YtdhjdddjgcfhkaaDoorW.PrintLast Go.Proofs.YtdhjdddjgcfhkaaDoorW.PrintMore
attribute [local go_sem] max2_int min2_int max_two min_two max_three min_three max_four min_four   -- for this text's walks alone
set_option linter.unusedVariables false
set_option linter.unusedSimpArgs false

mutual
def bolterref04_First.j0 : Nat → ByteArray → Int → Int → Option (Int × Int)
  | 0, _, _, _ => none
  | k + 1, x0, x5, x6 => if (x0.size : Int) < x6 then (some (0, 0)) else (bolterref04_First.l0 k x0 x5 x6 1)
def bolterref04_First.l0 : Nat → ByteArray → Int → Int → Int → Option (Int × Int)
  | 0, _, _, _, _ => none
  | k + 1, x0, x5, x6, x7 => if x7 < x6 then (if 0 ≤ x7 then (if x7 < (x0.size : Int) then (bolterref04_First.l0 k x0 (wrap64 ((wrap64 (x5 * 64)) + (Int.tmod (wrap64 (bt x0 x7)) 64))) x6 (wrap64 (x7 + 1))) else (none)) else (none)) else ((bolterref04_may.f x5).bind fun t207 => (if t207 = true then ((bolterref04_Octets.f x5).bind fun t208 => (if 0 ≤ x6 then (if x6 ≤ (x0.size : Int) then (if (strOfNums t208).toList = (x0.extract 0 (x6 : Int).toNat).toList then (some (x5, x6)) else (some (0, 0))) else (none)) else (none))) else (some (0, 0))))
end
def bolterref04_First.f (k : Nat) (a0 : ByteArray) : Option (Int × Int) := if (a0.size : Int) = 0 then (some (0, 0)) else (if 0 < (a0.size : Int) then (if (wrap64 (bt a0 0)) ≥ 240 then (bolterref04_First.j0 k a0 (wrap64 ((wrap64 (bt a0 0)) - 240)) 4) else (if (wrap64 (bt a0 0)) ≥ 224 then (bolterref04_First.j0 k a0 (wrap64 ((wrap64 (bt a0 0)) - 224)) 3) else (if (wrap64 (bt a0 0)) ≥ 192 then (bolterref04_First.j0 k a0 (wrap64 ((wrap64 (bt a0 0)) - 192)) 2) else (bolterref04_First.j0 k a0 (wrap64 (bt a0 0)) 1)))) else (none))
theorem bolterref04_First.mono_l : ∀ k, (∀ y0 y1 y2, LeO (bolterref04_First.j0 k y0 y1 y2) (bolterref04_First.j0 (k + 1) y0 y1 y2)) ∧ (∀ y0 y1 y2 y3, LeO (bolterref04_First.l0 k y0 y1 y2 y3) (bolterref04_First.l0 (k + 1) y0 y1 y2 y3))
  | 0 => ⟨fun _ _ _ r h => by simp [bolterref04_First.j0] at h, fun _ _ _ _ r h => by simp [bolterref04_First.l0] at h⟩
  | k + 1 => by
    obtain ⟨ih0, ih1⟩ := bolterref04_First.mono_l k
    refine ⟨?_, ?_⟩
    · intro y0 y1 y2
      unfold bolterref04_First.j0
      repeat' first
      | (with_reducible exact ih0 _ _ _)
      | (with_reducible exact ih1 _ _ _ _)
      | (with_reducible exact LeO.refl _)
      | (with_reducible exact LeO.none _)
      | (with_reducible refine LeO.ite ?_ ?_)
      | (with_reducible refine LeO.bind ?_ (fun _ => ?_))
      | exact ih0 _ _ _
      | exact ih1 _ _ _ _
      | exact LeO.none _
      | refine LeO.ite ?_ ?_
      | refine LeO.bind ?_ (fun _ => ?_)
    · intro y0 y1 y2 y3
      unfold bolterref04_First.l0
      repeat' first
      | (with_reducible exact ih0 _ _ _)
      | (with_reducible exact ih1 _ _ _ _)
      | (with_reducible exact LeO.refl _)
      | (with_reducible exact LeO.none _)
      | (with_reducible refine LeO.ite ?_ ?_)
      | (with_reducible refine LeO.bind ?_ (fun _ => ?_))
      | exact ih0 _ _ _
      | exact ih1 _ _ _ _
      | exact LeO.none _
      | refine LeO.ite ?_ ?_
      | refine LeO.bind ?_ (fun _ => ?_)
theorem bolterref04_First.mono : ∀ a0 k, LeO (bolterref04_First.f k a0) (bolterref04_First.f (k + 1) a0) := by
  intro a0 k
  obtain ⟨ih0, ih1⟩ := bolterref04_First.mono_l k
  unfold bolterref04_First.f
  repeat' first
      | (with_reducible exact ih0 _ _ _)
      | (with_reducible exact ih1 _ _ _ _)
      | (with_reducible exact LeO.refl _)
      | (with_reducible exact LeO.none _)
      | (with_reducible refine LeO.ite ?_ ?_)
      | (with_reducible refine LeO.bind ?_ (fun _ => ?_))
      | exact ih0 _ _ _
      | exact ih1 _ _ _ _
      | exact LeO.none _
      | refine LeO.ite ?_ ?_
      | refine LeO.bind ?_ (fun _ => ?_)
def bolterref04_First.T17 : Bool × List (List Nat × List Nat) := (true, [([], []), ([0], [0]), ([1], [1]), ([2, 1], [2]), ([3], [3]), ([4, 3, 3], [3, 4]), ([5, 3], [3, 5]), ([3], [3]), ([3], [3]), ([7, 8, 3], [3, 7, 8]), ([6, 9, 3], [3, 6, 9]), ([3, 10], [3, 10])])
def bolterref04_First.B17 : List Nat := [0, 1, 3, 7, 15, 31, 63, 15, 15, 399, 1023, 2047]
theorem bolterref04_First.tab17 : rtab .any (opsOf Tryd.f54 17) = bolterref04_First.T17 := by kernel_rfl
theorem bolterref04_First.bits17 : waitsOk bolterref04_First.T17.2 bolterref04_First.B17 = true := by kernel_rfl
set_option maxHeartbeats 8000000 in
set_option maxRecDepth 100000 in
theorem bolterref04_First.calls (k : Nat) (a0 : ByteArray) (r1 : Int) (r2 : Int) (w : World) (h : bolterref04_First.f k a0 = some (r1, r2)) :
    Calls Tryd.prog 54 #[.string a0] w fun e w' => e = .returned (.tuple #[.int .i64 r1, .int .i64 r2]) ∧ Below w.heap.size w w' := by
  have HB := Aside0.mk (Below.refl w.heap.size w)
  have H : (if (a0.size : Int) = 0 then (some (0, 0)) else (if 0 < (a0.size : Int) then (if (wrap64 (bt a0 0)) ≥ 240 then (bolterref04_First.j0 k a0 (wrap64 ((wrap64 (bt a0 0)) - 240)) 4) else (if (wrap64 (bt a0 0)) ≥ 224 then (bolterref04_First.j0 k a0 (wrap64 ((wrap64 (bt a0 0)) - 224)) 3) else (if (wrap64 (bt a0 0)) ≥ 192 then (bolterref04_First.j0 k a0 (wrap64 ((wrap64 (bt a0 0)) - 192)) 2) else (bolterref04_First.j0 k a0 (wrap64 (bt a0 0)) 1)))) else (none))) = some (r1, r2) := h
  clear h
  by_cases c2 : (a0.size : Int) = 0
  · rw [if_pos c2] at H
    have c2b0 : ((a0.size : Int) == 0) = true := beq_iff_eq.mpr c2
    have c2b1 : ((a0.size : Int) != 0) = false := bne_eq_false_iff_eq.mpr c2
    clear c2
    simp only [Option.some.injEq, Prod.mk.injEq] at H
    obtain ⟨rfl, rfl⟩ := H
    go_enter Tryd.func54, Tryd.ntmps54
    go_wp2
    go_ret2
    exact ⟨by first | rfl | (simp [errW_none, errW_some] <;> rfl) | (simp [*, errW_none, errW_some] <;> rfl), by repeat (first | (with_reducible first | exact HB.out | apply below_alloc | apply pw_below_drewN | apply below_drew1) | exact HB.out)⟩
  · rw [if_neg c2] at H
    have c2b0 : ((a0.size : Int) == 0) = false := beq_eq_false_iff_ne.mpr c2
    have c2b1 : ((a0.size : Int) != 0) = true := bne_iff_ne.mpr c2
    by_cases c3 : 0 < (a0.size : Int)
    · rw [if_pos c3] at H
      have c3b0 : decide (0 < (a0.size : Int)) = true := decide_eq_true c3
      have c3b1 : decide (0 < a0.size) = true := decide_eq_true (by omega)
      clear c3
      have HC5 := Aside0.mk H
      clear H
      have p4 : 0 ≤ (0 : Int) := (by omega)
      have q4 : 0 < a0.size := (by have : (0 : Int) < (a0.size : Int) := of_decide_eq_true (by first | (with_reducible assumption) | assumption); omega)
      have hx4 : ∀ h : 0 < a0.size, ((a0[0]'h).toNat : Int) = bt a0 0 := bt_at a0 0
      clear p4
      have qi4 : (0 < (a0.size : Int)) = True := eq_true (of_decide_eq_true (by first | (with_reducible assumption) | assumption))
      replace q4 := eq_true q4
      go_enter Tryd.func54, Tryd.ntmps54
      go_upto_block 0 with (fail)
      go_cut [5, 6] (fun v5 v6 wc => ∃ (kq : Nat) (x5_4 : Int) (x6_4 : Int), v5 = .int .i64 x5_4 ∧ v6 = .int .i64 x6_4 ∧ Aside0 (bolterref04_First.j0 kq a0 x5_4 x6_4 = some (r1, r2)) ∧ Aside0 (kq ≤ k) ∧ Aside0 (Below w.heap.size w wc))
      case first =>
        have H := HC5.out
        clear HC5
        by_cases c6 : (wrap64 (bt a0 0)) ≥ 240
        · rw [if_pos c6] at H
          have c6b0 : decide (240 ≤ (wrap64 (bt a0 0))) = true := decide_eq_true c6
          clear c6
          (first | rw [c6b0] | (simp only [i64_w, i32_w]; rw [c6b0]) | skip)
          have H' := Aside0.mk H
          clear H
          go_wp2
          go_meet
          case rel => exact ⟨_, (wrap64 ((wrap64 (bt a0 0)) - 240)), (4), (by first | rfl | (simp; done) | (simp [*]; done)), (by first | rfl | (simp; done) | (simp [*]; done)), H', ⟨by first | omega | exact Nat.le_refl _⟩, ⟨by repeat (first | (with_reducible first | exact HB.out | apply below_alloc | apply pw_below_drewN | apply below_drew1) | exact HB.out)⟩⟩
        · rw [if_neg c6] at H
          have c6b0 : decide (240 ≤ (wrap64 (bt a0 0))) = false := decide_eq_false c6
          clear c6
          (first | rw [c6b0] | (simp only [i64_w, i32_w]; rw [c6b0]) | skip)
          by_cases c7 : (wrap64 (bt a0 0)) ≥ 224
          · rw [if_pos c7] at H
            have c7b0 : decide (224 ≤ (wrap64 (bt a0 0))) = true := decide_eq_true c7
            clear c7
            have H' := Aside0.mk H
            clear H
            go_wp2
            go_meet
            case rel => exact ⟨_, (wrap64 ((wrap64 (bt a0 0)) - 224)), (3), (by first | rfl | (simp; done) | (simp [*]; done)), (by first | rfl | (simp; done) | (simp [*]; done)), H', ⟨by first | omega | exact Nat.le_refl _⟩, ⟨by repeat (first | (with_reducible first | exact HB.out | apply below_alloc | apply pw_below_drewN | apply below_drew1) | exact HB.out)⟩⟩
          · rw [if_neg c7] at H
            have c7b0 : decide (224 ≤ (wrap64 (bt a0 0))) = false := decide_eq_false c7
            clear c7
            by_cases c8 : (wrap64 (bt a0 0)) ≥ 192
            · rw [if_pos c8] at H
              have c8b0 : decide (192 ≤ (wrap64 (bt a0 0))) = true := decide_eq_true c8
              clear c8
              have H' := Aside0.mk H
              clear H
              go_wp2
              go_meet
              case rel => exact ⟨_, (wrap64 ((wrap64 (bt a0 0)) - 192)), (2), (by first | rfl | (simp; done) | (simp [*]; done)), (by first | rfl | (simp; done) | (simp [*]; done)), H', ⟨by first | omega | exact Nat.le_refl _⟩, ⟨by repeat (first | (with_reducible first | exact HB.out | apply below_alloc | apply pw_below_drewN | apply below_drew1) | exact HB.out)⟩⟩
            · rw [if_neg c8] at H
              have c8b0 : decide (192 ≤ (wrap64 (bt a0 0))) = false := decide_eq_false c8
              clear c8
              have H' := Aside0.mk H
              clear H
              go_wp2
              go_meet
              case rel => exact ⟨_, (wrap64 (bt a0 0)), (1), (by first | rfl | (simp; done) | (simp [*]; done)), (by first | rfl | (simp; done) | (simp [*]; done)), H', ⟨by first | omega | exact Nat.le_refl _⟩, ⟨by repeat (first | (with_reducible first | exact HB.out | apply below_alloc | apply pw_below_drewN | apply below_drew1) | exact HB.out)⟩⟩
      case rest =>
        clear HC5
        try clear c2
        try clear c2b0
        try clear c2b1
        try clear p2
        try clear c3
        try clear c3b0
        try clear c3b1
        try clear p4
        try clear q4
        try clear hx4
        try clear qi4
        try clear c5
        try clear c6
        try clear c6b0
        try clear p6
        try clear c7
        try clear c7b0
        try clear c8
        try clear c8b0
        try clear p4
        try clear q4
        obtain ⟨kq, x5_4, x6_4, rfl, rfl, HA, HJ4, HB⟩ := hcut
        cases kq with
        | zero => exact absurd HA.out (by simp [bolterref04_First.j0])
        | succ kj4 =>
          have H := HA.out
          clear HA
          simp only [bolterref04_First.j0] at H
          by_cases c9 : (a0.size : Int) < x6_4
          · rw [if_pos c9] at H
            have c9b0 : decide ((a0.size : Int) < x6_4) = true := decide_eq_true c9
            clear c9
            simp only [Option.some.injEq, Prod.mk.injEq] at H
            obtain ⟨rfl, rfl⟩ := H
            go_wp2
            go_ret2
            exact ⟨by first | rfl | (simp [errW_none, errW_some] <;> rfl) | (simp [*, errW_none, errW_some] <;> rfl), by repeat (first | (with_reducible first | exact HB.out | apply below_alloc | apply pw_below_drewN | apply below_drew1) | exact HB.out)⟩
          · rw [if_neg c9] at H
            have c9b0 : decide ((a0.size : Int) < x6_4) = false := decide_eq_false c9
            clear c9
            have H' := Aside0.mk H
            clear H
            go_wp2
            go_loopg [5, 7] kj4 (fun kq v5 v7 w' => ∃ (x5_2 : Int) (x7_2 : Int), v5 = .int .i64 x5_2 ∧ v7 = .int .i64 x7_2 ∧ Aside0 (bolterref04_First.l0 kq a0 x5_2 x6_4 x7_2 = some (r1, r2)) ∧ Aside0 (kq ≤ kj4) ∧ Aside0 (Below w.heap.size w w'))
            case atStart => exact ⟨(x5_4), (1), (by first | rfl | (simp; done) | (simp [*]; done)), (by first | rfl | (simp; done) | (simp [*]; done)), H', ⟨Nat.le_refl _⟩, ⟨by repeat (first | (with_reducible first | exact HB.out | apply below_alloc | apply pw_below_drewN | apply below_drew1) | exact HB.out)⟩⟩
            case round =>
              clear H'
              try clear c2
              try clear c2b0
              try clear c2b1
              try clear p2
              try clear c3
              try clear c3b0
              try clear c3b1
              try clear p4
              try clear q4
              try clear hx4
              try clear qi4
              try clear c5
              try clear c6
              try clear c6b0
              try clear p6
              try clear c7
              try clear c7b0
              try clear c8
              try clear c8b0
              try clear c9
              try clear c9b0
              try clear p2
              try clear p4
              try clear p6
              try clear q4
              obtain ⟨x5_2, x7_2, rfl, rfl, HA, HK2, HB⟩ := hrel
              cases gk with
              | zero => exact absurd HA.out (by simp [bolterref04_First.l0])
              | succ k2 =>
                have H := HA.out
                clear HA
                simp only [bolterref04_First.l0] at H
                by_cases c10 : x7_2 < x6_4
                · rw [if_pos c10] at H
                  have c10b0 : decide (x7_2 < x6_4) = true := decide_eq_true c10
                  clear c10
                  by_cases c11 : 0 ≤ x7_2
                  · rw [if_pos c11] at H
                    have c11b0 : decide (0 ≤ x7_2) = true := decide_eq_true c11
                    clear c11
                    by_cases c12 : x7_2 < (a0.size : Int)
                    · rw [if_pos c12] at H
                      have c12b0 : decide (x7_2 < (a0.size : Int)) = true := decide_eq_true c12
                      clear c12
                      have H' := Aside0.mk H
                      clear H
                      have p13 : 0 ≤ (x7_2 : Int) := of_decide_eq_true (by first | (with_reducible assumption) | assumption)
                      have q13 : x7_2 < (a0.size : Int) := of_decide_eq_true (by first | (with_reducible assumption) | assumption)
                      have hx13 := bt_at a0 x7_2
                      replace p13 := eq_true p13
                      replace q13 := eq_true q13
                      go_wp2
                      go_roundg k2
                      case measure => have := HJ4.out; have := HK2.out; omega
                      case rel => exact ⟨(wrap64 ((wrap64 (x5_2 * 64)) + (Int.tmod (wrap64 (bt a0 x7_2)) 64))), (wrap64 (x7_2 + 1)), (by first | rfl | (simp; done) | (simp [*]; done)), (by first | rfl | (simp; done) | (simp [*]; done)), H', ⟨by have := HJ4.out; have := HK2.out; omega⟩, ⟨by repeat (first | (with_reducible first | exact HB.out | apply below_alloc | apply pw_below_drewN | apply below_drew1) | exact HB.out)⟩⟩
                    · rw [if_neg c12] at H
                      exact absurd H (by simp)
                  · rw [if_neg c11] at H
                    exact absurd H (by simp)
                · rw [if_neg c10] at H
                  have c10b0 : decide (x7_2 < x6_4) = false := decide_eq_false c10
                  clear c10
                  replace H := Option.bind_eq_some_iff.mp H
                  obtain ⟨t207, A140, H⟩ := H
                  replace H : (if t207 = true then ((bolterref04_Octets.f x5_2).bind fun t208 => (if 0 ≤ x6_4 then (if x6_4 ≤ (a0.size : Int) then (if (strOfNums t208).toList = (a0.extract 0 (x6_4 : Int).toNat).toList then (some (x5_2, x6_4)) else (some (0, 0))) else (none)) else (none))) else (some (0, 0))) = some (r1, r2) := H
                  have A14 := Aside0.mk A140
                  clear A140
                  by_cases c15 : t207 = true
                  · subst c15
                    have H1 : ((bolterref04_Octets.f x5_2).bind fun t208 => (if 0 ≤ x6_4 then (if x6_4 ≤ (a0.size : Int) then (if (strOfNums t208).toList = (a0.extract 0 (x6_4 : Int).toNat).toList then (some (x5_2, x6_4)) else (some (0, 0))) else (none)) else (none))) = some (r1, r2) := by rw [if_pos rfl] at H; exact H
                    clear H
                    have H := H1
                    clear H1
                    replace H := Option.bind_eq_some_iff.mp H
                    obtain ⟨t208, A160, H⟩ := H
                    replace H : (if 0 ≤ x6_4 then (if x6_4 ≤ (a0.size : Int) then (if (strOfNums t208).toList = (a0.extract 0 (x6_4 : Int).toNat).toList then (some (x5_2, x6_4)) else (some (0, 0))) else (none)) else (none)) = some (r1, r2) := H
                    have A16 := Aside0.mk A160
                    clear A160
                    by_cases c17 : 0 ≤ x6_4
                    · rw [if_pos c17] at H
                      have c17b0 := eq_true c17
                      have c17b1 : decide (0 ≤ x6_4) = true := decide_eq_true c17
                      clear c17
                      by_cases c18 : x6_4 ≤ (a0.size : Int)
                      · rw [if_pos c18] at H
                        have c18b0 := eq_true c18
                        have c18b1 : decide (x6_4 ≤ (a0.size : Int)) = true := decide_eq_true c18
                        clear c18
                        by_cases c19 : (strOfNums t208).toList = (a0.extract 0 (x6_4 : Int).toNat).toList
                        · rw [if_pos c19] at H
                          have c19b0 : ((strOfNums t208).toList == (a0.extract 0 (x6_4 : Int).toNat).toList) = true := beq_iff_eq.mpr c19
                          have c19b1 : ((strOfNums t208).toList != (a0.extract 0 (x6_4 : Int).toNat).toList) = false := bne_eq_false_iff_eq.mpr c19
                          clear c19
                          simp only [Option.some.injEq, Prod.mk.injEq] at H
                          obtain ⟨rfl, rfl⟩ := H
                          try go_wp2
                          have n0_ := Aside0.mk (below_drew1 HB.out)
                          clear HB
                          have HB := n0_
                          clear n0_
                          refine start_ (n := 12) (S := fun w' => True) (ds := []) #[false, false, false, false, false, false, false, false, false, false, false, false] (by kernel_rfl) rfl rfl trivial (fun hHeld => ?_); refine with_tabW bolterref04_First.tab17 bolterref04_First.bits17 (fun HT_ HW_ => ?_)
                          generalize wr.drew = w20 at HB hHeld ⊢
                          refine pure_ (i := 0) (N := some 47) (v := ?_) (a' := ?_) #[true, false, false, false, false, false, false, false, false, false, false, false] rfl rfl (any_of HT_.out (by kernel_rfl)) (fun _ _ _ h => h) (Or.inl ⟨by rfl, ?_⟩) ?_ ?_
                          rotate_left
                          · intro w'
                            go_simp
                            with_reducible rfl
                          rotate_left
                          · simp only [Act.put, List.setIfInBounds_toArray, List.set_cons_zero, List.set_cons_succ, i64_w, i32_w]
                            rfl
                          refine one_ (i := 1) (N := some 48) #[true, true, false, false, false, false, false, false, false, false, false, false] rfl rfl (one_of HT_.out (by kernel_rfl)) (by decide) (fun K hK => ?_)
                          refine goes_ Tryd.func84 (by kernel_rfl) rfl #[.int .i64 x5_2] (by rfl) rfl rfl (by (try simp only [List.map_toArray, List.map_cons, List.map_nil]); first | done | rfl | (simp only [List.length_drop, List.length_take]; rfl)) ?_
                          with_reducible refine (bolterref04_may.calls x5_2 true _ A14.out).mono ?_
                          rintro e w' ⟨rfl, ⟨nd, rfl⟩⟩
                          refine ⟨_, rfl, ?_⟩
                          refine hK.out _ _ trivial (fun hHeld => ?_)
                          clear hK K
                          refine norm_ (a' := ?_) ?_ ?_
                          rotate_left
                          · show Act.put _ (some 48) _ = _
                            simp only [Act.put, List.setIfInBounds_toArray, List.set_cons_zero, List.set_cons_succ, i64_w, i32_w]
                            rfl
                          refine pure_ (i := 2) (N := some 49) (v := ?_) (a' := ?_) #[true, true, true, false, false, false, false, false, false, false, false, false] rfl rfl (any_of HT_.out (by kernel_rfl)) (fun _ _ _ h => h) (Or.inl ⟨by rfl, ?_⟩) ?_ ?_
                          rotate_left
                          · intro w'
                            go_simp
                            with_reducible rfl
                          rotate_left
                          · simp only [Act.put, List.setIfInBounds_toArray, List.set_cons_zero, List.set_cons_succ, i64_w, i32_w]
                            rfl
                          refine pure_ (i := 3) (N := some 50) (v := ?_) (a' := ?_) #[true, true, true, true, false, false, false, false, false, false, false, false] rfl rfl (any_of HT_.out (by kernel_rfl)) (fun _ _ _ h => h) (Or.inl ⟨by rfl, ?_⟩) ?_ ?_
                          rotate_left
                          · intro w'
                            go_simp
                            with_reducible rfl
                          rotate_left
                          · simp only [Act.put, List.setIfInBounds_toArray, List.set_cons_zero, List.set_cons_succ, i64_w, i32_w]
                            rfl
                          refine pure_ (i := 4) (N := some 51) (v := ?_) (a' := ?_) #[true, true, true, true, true, false, false, false, false, false, false, false] rfl rfl (any_of HT_.out (by kernel_rfl)) (fun _ _ _ h => h) (Or.inl ⟨by rfl, ?_⟩) ?_ ?_
                          rotate_left
                          · intro w'
                            go_simp
                            with_reducible rfl
                          rotate_left
                          · simp only [Act.put, List.setIfInBounds_toArray, List.set_cons_zero, List.set_cons_succ, i64_w, i32_w]
                            rfl
                          refine pure_ (i := 7) (N := some 54) (v := ?_) (a' := ?_) #[true, true, true, true, true, false, false, true, false, false, false, false] rfl rfl (any_of HT_.out (by kernel_rfl)) (fun _ _ _ h => h) (Or.inl ⟨by rfl, ?_⟩) ?_ ?_
                          rotate_left
                          · intro w'
                            go_simp
                            with_reducible rfl
                          rotate_left
                          · simp only [Act.put, List.setIfInBounds_toArray, List.set_cons_zero, List.set_cons_succ, i64_w, i32_w]
                            rfl
                          refine pure_ (i := 8) (N := some 55) (v := ?_) (a' := ?_) #[true, true, true, true, true, false, false, true, true, false, false, false] rfl rfl (any_of HT_.out (by kernel_rfl)) (fun _ _ _ h => h) (Or.inl ⟨by rfl, ?_⟩) ?_ ?_
                          rotate_left
                          · intro w'
                            go_simp
                            with_reducible rfl
                          rotate_left
                          · simp only [Act.put, List.setIfInBounds_toArray, List.set_cons_zero, List.set_cons_succ, i64_w, i32_w]
                            rfl
                          refine pure_ (i := 9) (N := some 56) (v := ?_) (a' := ?_) #[true, true, true, true, true, false, false, true, true, true, false, false] rfl rfl (any_of HT_.out (by kernel_rfl)) (fun _ _ _ h => h) (Or.inl ⟨by rfl, ?_⟩) ?_ ?_
                          rotate_left
                          · intro w'
                            go_simp
                            with_reducible rfl
                          rotate_left
                          · simp only [Act.put, List.setIfInBounds_toArray, List.set_cons_zero, List.set_cons_succ, i64_w, i32_w]
                            rfl
                          refine one_ (i := 5) (N := some 52) #[true, true, true, true, true, true, false, true, true, true, false, false] rfl rfl (one_of HT_.out (by kernel_rfl)) (by decide) (fun K hK => ?_)
                          refine goes_ Tryd.func85 (by kernel_rfl) rfl #[.int .i64 x5_2] (by rfl) rfl rfl (by (try simp only [List.map_toArray, List.map_cons, List.map_nil]); first | done | rfl | (simp only [List.length_drop, List.length_take]; rfl)) ?_
                          with_reducible refine (bolterref04_Octets.calls x5_2 t208 _ A16.out).mono ?_
                          rintro e w21 ⟨v209, rfl, ho0, hb⟩
                          refine ⟨_, rfl, ?_⟩
                          have n0_ := Aside0.mk (Kd.R_lower ho0 (below_size (by repeat (first | (with_reducible first | exact HB.out | apply below_alloc | apply pw_below_drewN | apply below_drew1) | exact HB.out))))
                          have n1_ := Aside0.mk (below_step (by repeat (first | (with_reducible first | exact HB.out | apply below_alloc | apply pw_below_drewN | apply below_drew1) | exact HB.out)) hb)
                          clear HB
                          have HO210 := n0_
                          have HB := n1_
                          clear n0_ n1_
                          (try clear hb)
                          (try clear hb2)
                          (try clear hk)
                          (try clear hi)
                          (try clear ho0)
                          refine hK.out _ _ trivial (fun hHeld => ?_)
                          clear hK K
                          refine norm_ (a' := ?_) ?_ ?_
                          rotate_left
                          · show Act.put _ (some 52) _ = _
                            simp only [Act.put, List.setIfInBounds_toArray, List.set_cons_zero, List.set_cons_succ, i64_w, i32_w]
                            rfl
                          refine one_ (i := 6) (N := some 53) #[true, true, true, true, true, true, true, true, true, true, false, false] rfl rfl (one_of HT_.out (by kernel_rfl)) (by decide) (fun K hK => ?_)
                          have hcv22 := own_string (P := Tryd.prog) Tryd.underlying63 Tryd.underlying5 Tryd.underlying9 (Kd.own_of_R HO210.out)
                          refine value_ (w1 := ?_) (v := ?_) (by rfl) rfl ?_ ?_
                          rotate_left 2
                          · go_simp
                            constructor
                            · rfl
                            · rfl
                          clear hcv22
                          refine hK.out _ _ trivial (fun hHeld => ?_)
                          clear hK K
                          refine norm_ (a' := ?_) ?_ ?_
                          rotate_left
                          · show Act.put _ (some 53) _ = _
                            simp only [Act.put, List.setIfInBounds_toArray, List.set_cons_zero, List.set_cons_succ, i64_w, i32_w]
                            rfl
                          refine pure_ (i := 10) (N := some 57) (v := ?_) (a' := ?_) #[true, true, true, true, true, true, true, true, true, true, true, false] rfl rfl (any_of HT_.out (by kernel_rfl)) (fun _ _ _ h => h) (Or.inl ⟨by rfl, ?_⟩) ?_ ?_
                          rotate_left
                          · intro w'
                            go_simp
                            with_reducible rfl
                          rotate_left
                          · simp only [Act.put, List.setIfInBounds_toArray, List.set_cons_zero, List.set_cons_succ, i64_w, i32_w]
                            rfl
                          refine pure_ (i := 11) (N := some 58) (v := ?_) (a' := ?_) #[true, true, true, true, true, true, true, true, true, true, true, true] rfl rfl (any_of HT_.out (by kernel_rfl)) (fun _ _ _ h => h) (Or.inl ⟨by rfl, ?_⟩) ?_ ?_
                          rotate_left
                          · intro w'
                            go_simp
                            with_reducible rfl
                          rotate_left
                          · simp only [Act.put, List.setIfInBounds_toArray, List.set_cons_zero, List.set_cons_succ, i64_w, i32_w]
                            rfl
                          refine done_ (done_of HT_.out (by kernel_rfl)) ?_
                          try go_wp2
                          go_ret2
                          exact ⟨by first | rfl | (simp [errW_none, errW_some] <;> rfl) | (simp [*, errW_none, errW_some] <;> rfl), by repeat (first | (with_reducible first | exact HB.out | apply below_alloc | apply pw_below_drewN | apply below_drew1) | exact HB.out)⟩
                        · rw [if_neg c19] at H
                          have c19b0 : ((strOfNums t208).toList == (a0.extract 0 (x6_4 : Int).toNat).toList) = false := beq_eq_false_iff_ne.mpr c19
                          have c19b1 : ((strOfNums t208).toList != (a0.extract 0 (x6_4 : Int).toNat).toList) = true := bne_iff_ne.mpr c19
                          simp only [Option.some.injEq, Prod.mk.injEq] at H
                          obtain ⟨rfl, rfl⟩ := H
                          try go_wp2
                          have n0_ := Aside0.mk (below_drew1 HB.out)
                          clear HB
                          have HB := n0_
                          clear n0_
                          refine start_ (n := 12) (S := fun w' => True) (ds := []) #[false, false, false, false, false, false, false, false, false, false, false, false] (by kernel_rfl) rfl rfl trivial (fun hHeld => ?_); refine with_tabW bolterref04_First.tab17 bolterref04_First.bits17 (fun HT_ HW_ => ?_)
                          generalize wr.drew = w23 at HB hHeld ⊢
                          refine pure_ (i := 0) (N := some 47) (v := ?_) (a' := ?_) #[true, false, false, false, false, false, false, false, false, false, false, false] rfl rfl (any_of HT_.out (by kernel_rfl)) (fun _ _ _ h => h) (Or.inl ⟨by rfl, ?_⟩) ?_ ?_
                          rotate_left
                          · intro w'
                            go_simp
                            with_reducible rfl
                          rotate_left
                          · simp only [Act.put, List.setIfInBounds_toArray, List.set_cons_zero, List.set_cons_succ, i64_w, i32_w]
                            rfl
                          refine one_ (i := 1) (N := some 48) #[true, true, false, false, false, false, false, false, false, false, false, false] rfl rfl (one_of HT_.out (by kernel_rfl)) (by decide) (fun K hK => ?_)
                          refine goes_ Tryd.func84 (by kernel_rfl) rfl #[.int .i64 x5_2] (by rfl) rfl rfl (by (try simp only [List.map_toArray, List.map_cons, List.map_nil]); first | done | rfl | (simp only [List.length_drop, List.length_take]; rfl)) ?_
                          with_reducible refine (bolterref04_may.calls x5_2 true _ A14.out).mono ?_
                          rintro e w' ⟨rfl, ⟨nd, rfl⟩⟩
                          refine ⟨_, rfl, ?_⟩
                          refine hK.out _ _ trivial (fun hHeld => ?_)
                          clear hK K
                          refine norm_ (a' := ?_) ?_ ?_
                          rotate_left
                          · show Act.put _ (some 48) _ = _
                            simp only [Act.put, List.setIfInBounds_toArray, List.set_cons_zero, List.set_cons_succ, i64_w, i32_w]
                            rfl
                          refine pure_ (i := 2) (N := some 49) (v := ?_) (a' := ?_) #[true, true, true, false, false, false, false, false, false, false, false, false] rfl rfl (any_of HT_.out (by kernel_rfl)) (fun _ _ _ h => h) (Or.inl ⟨by rfl, ?_⟩) ?_ ?_
                          rotate_left
                          · intro w'
                            go_simp
                            with_reducible rfl
                          rotate_left
                          · simp only [Act.put, List.setIfInBounds_toArray, List.set_cons_zero, List.set_cons_succ, i64_w, i32_w]
                            rfl
                          refine pure_ (i := 3) (N := some 50) (v := ?_) (a' := ?_) #[true, true, true, true, false, false, false, false, false, false, false, false] rfl rfl (any_of HT_.out (by kernel_rfl)) (fun _ _ _ h => h) (Or.inl ⟨by rfl, ?_⟩) ?_ ?_
                          rotate_left
                          · intro w'
                            go_simp
                            with_reducible rfl
                          rotate_left
                          · simp only [Act.put, List.setIfInBounds_toArray, List.set_cons_zero, List.set_cons_succ, i64_w, i32_w]
                            rfl
                          refine pure_ (i := 4) (N := some 51) (v := ?_) (a' := ?_) #[true, true, true, true, true, false, false, false, false, false, false, false] rfl rfl (any_of HT_.out (by kernel_rfl)) (fun _ _ _ h => h) (Or.inl ⟨by rfl, ?_⟩) ?_ ?_
                          rotate_left
                          · intro w'
                            go_simp
                            with_reducible rfl
                          rotate_left
                          · simp only [Act.put, List.setIfInBounds_toArray, List.set_cons_zero, List.set_cons_succ, i64_w, i32_w]
                            rfl
                          refine pure_ (i := 7) (N := some 54) (v := ?_) (a' := ?_) #[true, true, true, true, true, false, false, true, false, false, false, false] rfl rfl (any_of HT_.out (by kernel_rfl)) (fun _ _ _ h => h) (Or.inl ⟨by rfl, ?_⟩) ?_ ?_
                          rotate_left
                          · intro w'
                            go_simp
                            with_reducible rfl
                          rotate_left
                          · simp only [Act.put, List.setIfInBounds_toArray, List.set_cons_zero, List.set_cons_succ, i64_w, i32_w]
                            rfl
                          refine pure_ (i := 8) (N := some 55) (v := ?_) (a' := ?_) #[true, true, true, true, true, false, false, true, true, false, false, false] rfl rfl (any_of HT_.out (by kernel_rfl)) (fun _ _ _ h => h) (Or.inl ⟨by rfl, ?_⟩) ?_ ?_
                          rotate_left
                          · intro w'
                            go_simp
                            with_reducible rfl
                          rotate_left
                          · simp only [Act.put, List.setIfInBounds_toArray, List.set_cons_zero, List.set_cons_succ, i64_w, i32_w]
                            rfl
                          refine pure_ (i := 9) (N := some 56) (v := ?_) (a' := ?_) #[true, true, true, true, true, false, false, true, true, true, false, false] rfl rfl (any_of HT_.out (by kernel_rfl)) (fun _ _ _ h => h) (Or.inl ⟨by rfl, ?_⟩) ?_ ?_
                          rotate_left
                          · intro w'
                            go_simp
                            with_reducible rfl
                          rotate_left
                          · simp only [Act.put, List.setIfInBounds_toArray, List.set_cons_zero, List.set_cons_succ, i64_w, i32_w]
                            rfl
                          refine one_ (i := 5) (N := some 52) #[true, true, true, true, true, true, false, true, true, true, false, false] rfl rfl (one_of HT_.out (by kernel_rfl)) (by decide) (fun K hK => ?_)
                          refine goes_ Tryd.func85 (by kernel_rfl) rfl #[.int .i64 x5_2] (by rfl) rfl rfl (by (try simp only [List.map_toArray, List.map_cons, List.map_nil]); first | done | rfl | (simp only [List.length_drop, List.length_take]; rfl)) ?_
                          with_reducible refine (bolterref04_Octets.calls x5_2 t208 _ A16.out).mono ?_
                          rintro e w24 ⟨v209, rfl, ho0, hb⟩
                          refine ⟨_, rfl, ?_⟩
                          have n0_ := Aside0.mk (Kd.R_lower ho0 (below_size (by repeat (first | (with_reducible first | exact HB.out | apply below_alloc | apply pw_below_drewN | apply below_drew1) | exact HB.out))))
                          have n1_ := Aside0.mk (below_step (by repeat (first | (with_reducible first | exact HB.out | apply below_alloc | apply pw_below_drewN | apply below_drew1) | exact HB.out)) hb)
                          clear HB
                          have HO210 := n0_
                          have HB := n1_
                          clear n0_ n1_
                          (try clear hb)
                          (try clear hb2)
                          (try clear hk)
                          (try clear hi)
                          (try clear ho0)
                          refine hK.out _ _ trivial (fun hHeld => ?_)
                          clear hK K
                          refine norm_ (a' := ?_) ?_ ?_
                          rotate_left
                          · show Act.put _ (some 52) _ = _
                            simp only [Act.put, List.setIfInBounds_toArray, List.set_cons_zero, List.set_cons_succ, i64_w, i32_w]
                            rfl
                          refine one_ (i := 6) (N := some 53) #[true, true, true, true, true, true, true, true, true, true, false, false] rfl rfl (one_of HT_.out (by kernel_rfl)) (by decide) (fun K hK => ?_)
                          have hcv25 := own_string (P := Tryd.prog) Tryd.underlying63 Tryd.underlying5 Tryd.underlying9 (Kd.own_of_R HO210.out)
                          refine value_ (w1 := ?_) (v := ?_) (by rfl) rfl ?_ ?_
                          rotate_left 2
                          · go_simp
                            constructor
                            · rfl
                            · rfl
                          clear hcv25
                          refine hK.out _ _ trivial (fun hHeld => ?_)
                          clear hK K
                          refine norm_ (a' := ?_) ?_ ?_
                          rotate_left
                          · show Act.put _ (some 53) _ = _
                            simp only [Act.put, List.setIfInBounds_toArray, List.set_cons_zero, List.set_cons_succ, i64_w, i32_w]
                            rfl
                          refine pure_ (i := 10) (N := some 57) (v := ?_) (a' := ?_) #[true, true, true, true, true, true, true, true, true, true, true, false] rfl rfl (any_of HT_.out (by kernel_rfl)) (fun _ _ _ h => h) (Or.inl ⟨by rfl, ?_⟩) ?_ ?_
                          rotate_left
                          · intro w'
                            go_simp
                            with_reducible rfl
                          rotate_left
                          · simp only [Act.put, List.setIfInBounds_toArray, List.set_cons_zero, List.set_cons_succ, i64_w, i32_w]
                            rfl
                          refine pure_ (i := 11) (N := some 58) (v := ?_) (a' := ?_) #[true, true, true, true, true, true, true, true, true, true, true, true] rfl rfl (any_of HT_.out (by kernel_rfl)) (fun _ _ _ h => h) (Or.inl ⟨by rfl, ?_⟩) ?_ ?_
                          rotate_left
                          · intro w'
                            go_simp
                            with_reducible rfl
                          rotate_left
                          · simp only [Act.put, List.setIfInBounds_toArray, List.set_cons_zero, List.set_cons_succ, i64_w, i32_w]
                            rfl
                          refine done_ (done_of HT_.out (by kernel_rfl)) ?_
                          try go_wp2
                          go_ret2
                          exact ⟨by first | rfl | (simp [errW_none, errW_some] <;> rfl) | (simp [*, errW_none, errW_some] <;> rfl), by repeat (first | (with_reducible first | exact HB.out | apply below_alloc | apply pw_below_drewN | apply below_drew1) | exact HB.out)⟩
                      · rw [if_neg c18] at H
                        exact absurd H (by simp)
                    · rw [if_neg c17] at H
                      exact absurd H (by simp)
                  · replace c15 := Bool.eq_false_iff.mpr c15
                    subst c15
                    have H1 : (some (0, 0)) = some (r1, r2) := by rw [if_neg (show ¬ (false = true) by decide)] at H; exact H
                    clear H
                    have H := H1
                    clear H1
                    simp only [Option.some.injEq, Prod.mk.injEq] at H
                    obtain ⟨rfl, rfl⟩ := H
                    try go_wp2
                    have n0_ := Aside0.mk (below_drew1 HB.out)
                    clear HB
                    have HB := n0_
                    clear n0_
                    refine start_ (n := 12) (S := fun w' => True) (ds := []) #[false, false, false, false, false, false, false, false, false, false, false, false] (by kernel_rfl) rfl rfl trivial (fun hHeld => ?_); refine with_tabW bolterref04_First.tab17 bolterref04_First.bits17 (fun HT_ HW_ => ?_)
                    generalize wr.drew = w26 at HB hHeld ⊢
                    refine pure_ (i := 0) (N := some 47) (v := ?_) (a' := ?_) #[true, false, false, false, false, false, false, false, false, false, false, false] rfl rfl (any_of HT_.out (by kernel_rfl)) (fun _ _ _ h => h) (Or.inl ⟨by rfl, ?_⟩) ?_ ?_
                    rotate_left
                    · intro w'
                      go_simp
                      with_reducible rfl
                    rotate_left
                    · simp only [Act.put, List.setIfInBounds_toArray, List.set_cons_zero, List.set_cons_succ, i64_w, i32_w]
                      rfl
                    refine one_ (i := 1) (N := some 48) #[true, true, false, false, false, false, false, false, false, false, false, false] rfl rfl (one_of HT_.out (by kernel_rfl)) (by decide) (fun K hK => ?_)
                    refine goes_ Tryd.func84 (by kernel_rfl) rfl #[.int .i64 x5_2] (by rfl) rfl rfl (by (try simp only [List.map_toArray, List.map_cons, List.map_nil]); first | done | rfl | (simp only [List.length_drop, List.length_take]; rfl)) ?_
                    with_reducible refine (bolterref04_may.calls x5_2 false _ A14.out).mono ?_
                    rintro e w' ⟨rfl, ⟨nd, rfl⟩⟩
                    refine ⟨_, rfl, ?_⟩
                    refine hK.out _ _ trivial (fun hHeld => ?_)
                    clear hK K
                    refine norm_ (a' := ?_) ?_ ?_
                    rotate_left
                    · show Act.put _ (some 48) _ = _
                      simp only [Act.put, List.setIfInBounds_toArray, List.set_cons_zero, List.set_cons_succ, i64_w, i32_w]
                      rfl
                    refine pure_ (i := 2) (N := some 49) (v := ?_) (a' := ?_) #[true, true, true, false, false, false, false, false, false, false, false, false] rfl rfl (any_of HT_.out (by kernel_rfl)) (fun _ _ _ h => h) (Or.inl ⟨by rfl, ?_⟩) ?_ ?_
                    rotate_left
                    · intro w'
                      go_simp
                      with_reducible rfl
                    rotate_left
                    · simp only [Act.put, List.setIfInBounds_toArray, List.set_cons_zero, List.set_cons_succ, i64_w, i32_w]
                      rfl
                    refine pure_ (i := 3) (N := some 50) (v := ?_) (a' := ?_) #[true, true, true, true, false, false, false, false, false, false, false, false] rfl rfl (any_of HT_.out (by kernel_rfl)) (fun _ _ _ h => h) (Or.inl ⟨by rfl, ?_⟩) ?_ ?_
                    rotate_left
                    · intro w'
                      go_simp
                      with_reducible rfl
                    rotate_left
                    · simp only [Act.put, List.setIfInBounds_toArray, List.set_cons_zero, List.set_cons_succ, i64_w, i32_w]
                      rfl
                    refine pure_ (i := 4) (N := some 51) (v := undef) (a' := ?_) #[true, true, true, true, true, false, false, false, false, false, false, false] rfl rfl (any_of HT_.out (by kernel_rfl)) (fun _ _ _ h => h) (Or.inr ⟨by rfl, rfl⟩) ?_ ?_
                    rotate_left
                    · simp only [Act.put, List.setIfInBounds_toArray, List.set_cons_zero, List.set_cons_succ, i64_w, i32_w]
                      rfl
                    refine pure_ (i := 5) (N := some 52) (v := undef) (a' := ?_) #[true, true, true, true, true, true, false, false, false, false, false, false] rfl rfl (any_of HT_.out (by kernel_rfl)) (fun _ _ _ h => h) (Or.inr ⟨by rfl, rfl⟩) ?_ ?_
                    rotate_left
                    · simp only [Act.put, List.setIfInBounds_toArray, List.set_cons_zero, List.set_cons_succ, i64_w, i32_w]
                      rfl
                    refine pure_ (i := 6) (N := some 53) (v := undef) (a' := ?_) #[true, true, true, true, true, true, true, false, false, false, false, false] rfl rfl (any_of HT_.out (by kernel_rfl)) (fun _ _ _ h => h) (Or.inr ⟨by rfl, rfl⟩) ?_ ?_
                    rotate_left
                    · simp only [Act.put, List.setIfInBounds_toArray, List.set_cons_zero, List.set_cons_succ, i64_w, i32_w]
                      rfl
                    refine pure_ (i := 7) (N := some 54) (v := undef) (a' := ?_) #[true, true, true, true, true, true, true, true, false, false, false, false] rfl rfl (any_of HT_.out (by kernel_rfl)) (fun _ _ _ h => h) (Or.inr ⟨by rfl, rfl⟩) ?_ ?_
                    rotate_left
                    · simp only [Act.put, List.setIfInBounds_toArray, List.set_cons_zero, List.set_cons_succ, i64_w, i32_w]
                      rfl
                    refine pure_ (i := 8) (N := some 55) (v := undef) (a' := ?_) #[true, true, true, true, true, true, true, true, true, false, false, false] rfl rfl (any_of HT_.out (by kernel_rfl)) (fun _ _ _ h => h) (Or.inr ⟨by rfl, rfl⟩) ?_ ?_
                    rotate_left
                    · simp only [Act.put, List.setIfInBounds_toArray, List.set_cons_zero, List.set_cons_succ, i64_w, i32_w]
                      rfl
                    refine pure_ (i := 9) (N := some 56) (v := undef) (a' := ?_) #[true, true, true, true, true, true, true, true, true, true, false, false] rfl rfl (any_of HT_.out (by kernel_rfl)) (fun _ _ _ h => h) (Or.inr ⟨by rfl, rfl⟩) ?_ ?_
                    rotate_left
                    · simp only [Act.put, List.setIfInBounds_toArray, List.set_cons_zero, List.set_cons_succ, i64_w, i32_w]
                      rfl
                    refine pure_ (i := 10) (N := some 57) (v := undef) (a' := ?_) #[true, true, true, true, true, true, true, true, true, true, true, false] rfl rfl (any_of HT_.out (by kernel_rfl)) (fun _ _ _ h => h) (Or.inr ⟨by rfl, rfl⟩) ?_ ?_
                    rotate_left
                    · simp only [Act.put, List.setIfInBounds_toArray, List.set_cons_zero, List.set_cons_succ, i64_w, i32_w]
                      rfl
                    refine pure_ (i := 11) (N := some 58) (v := ?_) (a' := ?_) #[true, true, true, true, true, true, true, true, true, true, true, true] rfl rfl (any_of HT_.out (by kernel_rfl)) (fun _ _ _ h => h) (Or.inl ⟨by rfl, ?_⟩) ?_ ?_
                    rotate_left
                    · intro w'
                      go_simp
                      with_reducible rfl
                    rotate_left
                    · simp only [Act.put, List.setIfInBounds_toArray, List.set_cons_zero, List.set_cons_succ, i64_w, i32_w]
                      rfl
                    refine done_ (done_of HT_.out (by kernel_rfl)) ?_
                    try go_wp2
                    go_ret2
                    exact ⟨by first | rfl | (simp [errW_none, errW_some] <;> rfl) | (simp [*, errW_none, errW_some] <;> rfl), by repeat (first | (with_reducible first | exact HB.out | apply below_alloc | apply pw_below_drewN | apply below_drew1) | exact HB.out)⟩
    · rw [if_neg c3] at H
      exact absurd H (by simp)
def bolterref04_Check.l0 : Nat → ByteArray → Int → Option (Int × Int)
  | 0, _, _ => none
  | k + 1, x0, x4 => if x4 < (x0.size : Int) then (if 0 ≤ x4 then (if x4 ≤ (x0.size : Int) then ((bolterref04_First.f k (x0.extract (x4 : Int).toNat x0.size)).bind fun bt211 => (if bt211.2 = 0 then (some (x4, 61)) else (bolterref04_Check.l0 k x0 (wrap64 (x4 + bt211.2))))) else (none)) else (none)) else (some ((x0.size : Int), 0))
def bolterref04_Check.f (k : Nat) (a0 : ByteArray) : Option (Int × Int) := bolterref04_Check.l0 k a0 0
theorem bolterref04_Check.mono_l : ∀ k, (∀ y0 y1, LeO (bolterref04_Check.l0 k y0 y1) (bolterref04_Check.l0 (k + 1) y0 y1))
  | 0 => fun _ _ r h => by simp [bolterref04_Check.l0] at h
  | k + 1 => by
    have ih0 := bolterref04_Check.mono_l k
    · intro y0 y1
      unfold bolterref04_Check.l0
      repeat' first
      | (with_reducible exact ih0 _ _)
      | (with_reducible exact bolterref04_First.mono _ _)
      | (with_reducible exact LeO.refl _)
      | (with_reducible exact LeO.none _)
      | (with_reducible refine LeO.ite ?_ ?_)
      | (with_reducible refine LeO.bind ?_ (fun _ => ?_))
      | exact ih0 _ _
      | exact bolterref04_First.mono _ _
      | exact LeO.none _
      | refine LeO.ite ?_ ?_
      | refine LeO.bind ?_ (fun _ => ?_)
theorem bolterref04_Check.mono : ∀ a0 k, LeO (bolterref04_Check.f k a0) (bolterref04_Check.f (k + 1) a0) := by
  intro a0 k
  have ih0 := bolterref04_Check.mono_l k
  unfold bolterref04_Check.f
  repeat' first
      | (with_reducible exact ih0 _ _)
      | (with_reducible exact bolterref04_First.mono _ _)
      | (with_reducible exact LeO.refl _)
      | (with_reducible exact LeO.none _)
      | (with_reducible refine LeO.ite ?_ ?_)
      | (with_reducible refine LeO.bind ?_ (fun _ => ?_))
      | exact ih0 _ _
      | exact bolterref04_First.mono _ _
      | exact LeO.none _
      | refine LeO.ite ?_ ?_
      | refine LeO.bind ?_ (fun _ => ?_)
set_option maxHeartbeats 8000000 in
set_option maxRecDepth 100000 in
theorem bolterref04_Check.calls (k : Nat) (a0 : ByteArray) (r1 : Int) (r2 : Int) (w : World) (h : bolterref04_Check.f k a0 = some (r1, r2)) :
    Calls Tryd.prog 20 #[.string a0] w fun e w' => e = .returned (.tuple #[.int .i64 r1, .int .i64 r2]) ∧ Below w.heap.size w w' := by
  have HB := Aside0.mk (Below.refl w.heap.size w)
  have H : (bolterref04_Check.l0 k a0 0) = some (r1, r2) := h
  clear h
  have H' := Aside0.mk H
  clear H
  go_enter Tryd.func20, Tryd.ntmps20
  go_wp2
  go_loopg [4] k (fun kq v4 w' => ∃ (x4_1 : Int), v4 = .int .i64 x4_1 ∧ Aside0 (bolterref04_Check.l0 kq a0 x4_1 = some (r1, r2)) ∧ Aside0 (kq ≤ k) ∧ Aside0 (Below w.heap.size w w'))
  case atStart => exact ⟨(0), (by first | rfl | (simp; done) | (simp [*]; done)), H', ⟨Nat.le_refl _⟩, ⟨by repeat (first | (with_reducible first | exact HB.out | apply below_alloc | apply pw_below_drewN | apply below_drew1) | exact HB.out)⟩⟩
  case round =>
    clear H'
    obtain ⟨x4_1, rfl, HA, HK1, HB⟩ := hrel
    cases gk with
    | zero => exact absurd HA.out (by simp [bolterref04_Check.l0])
    | succ k1 =>
      have H := HA.out
      clear HA
      simp only [bolterref04_Check.l0] at H
      by_cases c2 : x4_1 < (a0.size : Int)
      · rw [if_pos c2] at H
        have c2b0 : decide (x4_1 < (a0.size : Int)) = true := decide_eq_true c2
        clear c2
        by_cases c3 : 0 ≤ x4_1
        · rw [if_pos c3] at H
          have c3b0 := eq_true c3
          have c3b1 : decide (0 ≤ x4_1) = true := decide_eq_true c3
          clear c3
          by_cases c4 : x4_1 ≤ (a0.size : Int)
          · rw [if_pos c4] at H
            have c4b0 := eq_true c4
            have c4b1 : decide (x4_1 ≤ (a0.size : Int)) = true := decide_eq_true c4
            clear c4
            replace H := Option.bind_eq_some_iff.mp H
            obtain ⟨⟨t211, t212⟩, A50, H⟩ := H
            replace H : (if t212 = 0 then (some (x4_1, 61)) else (bolterref04_Check.l0 k1 a0 (wrap64 (x4_1 + t212)))) = some (r1, r2) := H
            have A5 := Aside0.mk A50
            clear A50
            by_cases c6 : t212 = 0
            · rw [if_pos c6] at H
              have c6b0 : (t212 == 0) = true := beq_iff_eq.mpr c6
              have c6b1 : (t212 != 0) = false := bne_eq_false_iff_eq.mpr c6
              clear c6
              simp only [Option.some.injEq, Prod.mk.injEq] at H
              obtain ⟨rfl, rfl⟩ := H
              go_wp2_with (first | ((with_reducible refine gate_callee (f := 54) rfl ?_); refine goesL_ (some 15) rfl rfl Tryd.func54 (by kernel_rfl) rfl #[.string (a0.extract (x4_1 : Int).toNat a0.size)] rfl (by (try simp only [List.map_toArray, List.map_cons, List.map_nil]); first | done | rfl | (simp only [List.length_drop, List.length_take]; rfl)) ?_; (with_reducible refine (bolterref04_First.calls k1 (a0.extract (x4_1 : Int).toNat a0.size) t211 t212 _ A5.out).mono ?_); rintro e w7 ⟨rfl, hb⟩; refine ⟨_, rfl, ?_⟩; have n0_ := Aside0.mk (below_step (by repeat (first | (with_reducible first | exact HB.out | apply below_alloc | apply pw_below_drewN | apply below_drew1) | exact HB.out)) hb); clear HB; have HB := n0_; clear n0_; (try clear hb); (try clear hb2); (try clear hk); (try clear hi)))
              go_ret2
              exact ⟨by first | rfl | (simp [errW_none, errW_some] <;> rfl) | (simp [*, errW_none, errW_some] <;> rfl), by repeat (first | (with_reducible first | exact HB.out | apply below_alloc | apply pw_below_drewN | apply below_drew1) | exact HB.out)⟩
            · rw [if_neg c6] at H
              have c6b0 : (t212 == 0) = false := beq_eq_false_iff_ne.mpr c6
              have c6b1 : (t212 != 0) = true := bne_iff_ne.mpr c6
              have H' := Aside0.mk H
              clear H
              go_wp2_with (first | ((with_reducible refine gate_callee (f := 54) rfl ?_); refine goesL_ (some 15) rfl rfl Tryd.func54 (by kernel_rfl) rfl #[.string (a0.extract (x4_1 : Int).toNat a0.size)] rfl (by (try simp only [List.map_toArray, List.map_cons, List.map_nil]); first | done | rfl | (simp only [List.length_drop, List.length_take]; rfl)) ?_; (with_reducible refine (bolterref04_First.calls k1 (a0.extract (x4_1 : Int).toNat a0.size) t211 t212 _ A5.out).mono ?_); rintro e w8 ⟨rfl, hb⟩; refine ⟨_, rfl, ?_⟩; have n0_ := Aside0.mk (below_step (by repeat (first | (with_reducible first | exact HB.out | apply below_alloc | apply pw_below_drewN | apply below_drew1) | exact HB.out)) hb); clear HB; have HB := n0_; clear n0_; (try clear hb); (try clear hb2); (try clear hk); (try clear hi)))
              go_roundg k1
              case measure => have := HK1.out; omega
              case rel => exact ⟨(wrap64 (x4_1 + t212)), (by first | rfl | (simp; done) | (simp [*]; done)), H', ⟨by have := HK1.out; omega⟩, ⟨by repeat (first | (with_reducible first | exact HB.out | apply below_alloc | apply pw_below_drewN | apply below_drew1) | exact HB.out)⟩⟩
          · rw [if_neg c4] at H
            exact absurd H (by simp)
        · rw [if_neg c3] at H
          exact absurd H (by simp)
      · rw [if_neg c2] at H
        have c2b0 : decide (x4_1 < (a0.size : Int)) = false := decide_eq_false c2
        clear c2
        simp only [Option.some.injEq, Prod.mk.injEq] at H
        obtain ⟨rfl, rfl⟩ := H
        go_wp2
        go_ret2
        exact ⟨by first | rfl | (simp [errW_none, errW_some] <;> rfl) | (simp [*, errW_none, errW_some] <;> rfl), by repeat (first | (with_reducible first | exact HB.out | apply below_alloc | apply pw_below_drewN | apply below_drew1) | exact HB.out)⟩
end Go.Proofs.YtdhjdddjgcfhkaaDoor.B

end

section
/- What the reference's First, Check and Runes tell (bolterref04), by the decoder. -/
set_option linter.unusedVariables false
set_option linter.unusedSimpArgs false
namespace Go.Proofs.YtdhjdddjgcfhkaaDoor.P
open Go.Lib Go.RowKit Go.Proofs.YtdhjdddjgcfhkaaDoor.B Go.Proofs.YtdhjdddjgcfhkaaDoorW.PrintWords

def clsSz (l : List UInt8) : Nat := if 240 ≤ (l.getD 0 0).toNat then 4 else if 224 ≤ (l.getD 0 0).toNat then 3 else if 192 ≤ (l.getD 0 0).toNat then 2 else 1
def clsV (l : List UInt8) : Nat :=
  if 240 ≤ (l.getD 0 0).toNat then ((((l.getD 0 0).toNat - 240) * 64 + (l.getD 1 0).toNat % 64) * 64 + (l.getD 2 0).toNat % 64) * 64 + (l.getD 3 0).toNat % 64
  else if 224 ≤ (l.getD 0 0).toNat then (((l.getD 0 0).toNat - 224) * 64 + (l.getD 1 0).toNat % 64) * 64 + (l.getD 2 0).toNat % 64
  else if 192 ≤ (l.getD 0 0).toNat then ((l.getD 0 0).toNat - 192) * 64 + (l.getD 1 0).toNat % 64 else (l.getD 0 0).toNat
theorem cls_dec (l : List UInt8) (hne : l ≠ []) (hb : ¬ ((decodeL l).1 = 65533 ∧ (decodeL l).2 = 1)) : decodeL l = (clsV l, clsSz l) ∧ clsSz l ≤ l.length := by
  have hl : 0 < l.length := List.length_pos_iff.2 hne
  have k0 := (l.getD 0 0).toNat_lt
  rw [decodeL_N] at hb ⊢
  unfold clsV clsSz
  rcases decodeN_shape l.length (l.getD 0 0).toNat (l.getD 1 0).toNat (l.getD 2 0).toNat (l.getD 3 0).toNat with ⟨c, e⟩ | ⟨c1, c2, c3, cv, e⟩ | ⟨c1, c2, c3, c4, cv, cs, e⟩ | ⟨c1, c2, c3, c4, c5, cv, cw, e⟩ | e
  · rw [e, if_neg (by omega), if_neg (by omega), if_neg (by omega), if_neg (by omega), if_neg (by omega), if_neg (by omega)]; exact ⟨rfl, by omega⟩
  · rw [e, if_neg (by omega), if_neg (by omega), if_pos (by omega), if_neg (by omega), if_neg (by omega), if_pos (by omega)]; exact ⟨Prod.ext (by simp only; omega) rfl, by omega⟩
  · rw [e, if_neg (by omega), if_pos (by omega), if_neg (by omega), if_pos (by omega)]; exact ⟨Prod.ext (by simp only; omega) rfl, by omega⟩
  · rw [e, if_pos (by omega), if_pos (by omega)]; exact ⟨Prod.ext (by simp only; omega) rfl, by omega⟩
  · rw [e] at hb; exact absurd ⟨rfl, rfl⟩ hb
def mayN (v : Nat) : Prop := v ≤ 1114111 ∧ (v < 55296 ∨ 57343 < v)
instance (v : Nat) : Decidable (mayN v) := by unfold mayN; infer_instance
theorem may_tells (v : Nat) : bolterref04_may.f (v : Int) = some (decide (mayN v)) := by
  unfold bolterref04_may.f
  rw [if_pos (by omega)]
  by_cases h1 : v ≤ 1114111
  · rw [if_pos (by omega)]
    by_cases h2 : v < 55296
    · rw [if_pos (by omega)]; exact congrArg some (decide_eq_true (show mayN v from ⟨h1, .inl h2⟩)).symm
    · rw [if_neg (by omega)]
      refine congrArg some (decide_eq_decide.2 ⟨fun h => ⟨h1, .inr (by omega)⟩, fun h => ?_⟩)
      have := h.2
      omega
  · rw [if_neg (by omega)]; exact congrArg some (decide_eq_false (fun h : mayN v => h1 h.1)).symm
theorem oct (a x : Int) (ha : 0 ≤ a) (hx : 0 ≤ x) (h : a + x < 256) : wrap64 (a + x) % 256 = a + x := by
  rw [w64 (by omega) (by omega), Int.emod_eq_of_lt (by omega) h]
theorem octets_tells (v : Nat) (h : mayN v) : bolterref04_Octets.f (v : Int) = some (encodeRuneZ (v : Int)) := by
  obtain ⟨h1, h2⟩ := h
  unfold bolterref04_Octets.f
  have td : ∀ n : Int, 0 ≤ n → wrap64 (Int.tdiv (v : Int) n) = (v : Int) / n := fun n hn => by
    rw [Int.tdiv_eq_ediv_of_nonneg (by omega)]
    have a1 : 0 ≤ (v : Int) / n := Int.ediv_nonneg (by omega) hn
    have a2 : (v : Int) / n ≤ v := Int.ediv_le_self _ (by omega)
    exact w64 (by omega) (by omega)
  have tm : ∀ (x n : Int), 0 ≤ x → Int.tmod x n = x % n := fun x n hn => Int.tmod_eq_emod_of_nonneg hn
  by_cases a1 : v < 128
  · rw [if_pos (by omega), encodeRuneZ_one (by omega) (by omega)]
    rw [Int.emod_eq_of_lt (by omega) (by omega)]
  rw [if_neg (by omega)]
  by_cases a2 : v < 2048
  · rw [if_pos (by omega), encodeRuneZ_two (by omega) (by omega)]
    rw [td _ (by omega), tm _ _ (by omega), oct 192 _ (by omega) (by omega) (by omega), oct 128 ((v : Int) % 64) (by omega) (by omega) (by omega)]
  rw [if_neg (by omega)]
  by_cases a3 : v < 65536
  · rw [if_pos (by omega), encodeRuneZ_three (by omega)]
    rw [td _ (by omega), td _ (by omega), tm _ _ (by omega), tm _ _ (by omega), oct 224 _ (by omega) (by omega) (by omega), oct 128 ((v : Int) / 64 % 64) (by omega) (by omega) (by omega), oct 128 ((v : Int) % 64) (by omega) (by omega) (by omega)]
  · rw [if_neg (by omega), encodeRuneZ_four (by omega) (by omega)]
    rw [td _ (by omega), td _ (by omega), td _ (by omega), tm _ _ (by omega), tm _ _ (by omega), tm _ _ (by omega), oct 240 _ (by omega) (by omega) (by omega), oct 128 ((v : Int) / 4096 % 64) (by omega) (by omega) (by omega), oct 128 ((v : Int) / 64 % 64) (by omega) (by omega) (by omega), oct 128 ((v : Int) % 64) (by omega) (by omega) (by omega)]
theorem bt_g (s : ByteArray) (i : Nat) : bt s (i : Int) = ((s.data.toList.getD i 0).toNat : Int) := by
  unfold bt
  split
  · rename_i h
    have h' : i < s.size := by simpa only [Int.toNat_natCast] using h
    have h2 : i < s.data.toList.length := by rw [← size_eq]; exact h'
    have h3 : s.data.toList.getD i 0 = s.data.toList[i] := by rw [List.getD, List.getElem?_eq_getElem h2]; rfl
    rw [h3]
    simp only [Int.toNat_natCast]
    rfl
  · rename_i h
    have h' : ¬ i < s.size := by simpa only [Int.toNat_natCast] using h
    have h2 : ¬ i < s.data.toList.length := by rw [← size_eq]; exact h'
    have h3 : s.data.toList[i]? = none := List.getElem?_eq_none (by omega)
    simp only [List.getD, h3]; rfl
/-- The last step. -/
theorem first_end (s : ByteArray) (v sz k : Nat) (hs : sz ≤ s.size) (hz : s.size < 9223372036854775807) : bolterref04_First.l0 (k + 1) s (v : Int) (sz : Int) (sz : Int) =
    some (if mayN v ∧ encodeRune (v : Int) = s.data.toList.take sz then ((v : Int), (sz : Int)) else (0, 0)) := by
  simp only [bolterref04_First.l0]
  rw [if_neg (by omega), may_tells]
  simp only [Option.bind_some, decide_eq_true_eq]
  by_cases hm : mayN v
  · rw [if_pos hm, octets_tells v hm]
    simp only [Option.bind_some]
    rw [if_pos (by omega), if_pos (by omega)]
    have e1 : (strOfNums (encodeRuneZ (v : Int))).toList = encodeRune (v : Int) := by rw [toList_data]; rfl
    have e2 : (s.extract 0 ((sz : Int)).toNat).toList = s.data.toList.take sz := by rw [extract_toList]; simp
    rw [e1, e2]
    by_cases he : encodeRune (v : Int) = s.data.toList.take sz
    · rw [if_pos he, if_pos ⟨hm, he⟩]
    · rw [if_neg he, if_neg (fun h => he h.2)]
  · rw [if_neg hm, if_neg (fun h => hm h.1)]
theorem first_step (s : ByteArray) (v i sz k : Nat) (h : i < sz) (hs : sz ≤ s.size) (hsz : sz ≤ 4) (hv : v < 100000000) : bolterref04_First.l0 (k + 1) s (v : Int) (sz : Int) (i : Int) = bolterref04_First.l0 k s ((v * 64 + (s.data.toList.getD i 0).toNat % 64 : Nat) : Int) (sz : Int) ((i + 1 : Nat) : Int) := by
  have hb := (s.data.toList.getD i 0).toNat_lt
  conv => lhs; simp only [bolterref04_First.l0]
  rw [if_pos (by omega), if_pos (by omega), if_pos (by omega), bt_g, w64 (x := (v : Int) * 64) (by omega) (by omega), w64 (x := ((s.data.toList.getD i 0).toNat : Int)) (by omega) (by omega), Int.tmod_eq_emod_of_nonneg (by omega), w64 (by omega) (by omega), w64 (by omega) (by omega)]
  congr 1
def firstV (l : List UInt8) : Int × Int := if l = [] then (0, 0) else if (decodeL l).1 = 65533 ∧ (decodeL l).2 = 1 then (0, 0) else (((decodeL l).1 : Int), ((decodeL l).2 : Int))
theorem first_core (l : List UInt8) (hne : l ≠ []) (hs : clsSz l ≤ l.length) : (if mayN (clsV l) ∧ encodeRune (clsV l : Int) = l.take (clsSz l) then ((clsV l : Int), (clsSz l : Int)) else (0, 0)) = firstV l := by
  unfold firstV
  rw [if_neg hne]
  by_cases hb : (decodeL l).1 = 65533 ∧ (decodeL l).2 = 1
  · rw [if_pos hb, if_neg]
    rintro ⟨hm, he⟩
    have hc := Ch.of_enc (clsV l) hm.1 hm.2
    have hd := hc.app (l.drop (clsSz l))
    rw [he, List.take_append_drop] at hd
    apply hc.2.2
    rw [hd] at hb
    rw [he]
    exact hb
  · rw [if_neg hb]
    obtain ⟨e1, e2⟩ := cls_dec l hne hb
    obtain ⟨hc, _, _⟩ := Ch.take hne e1 (by rw [e1] at hb; exact hb)
    have hle := hc.le
    rw [if_pos ⟨⟨hle.1, hle.2.1⟩, hc.enc⟩, e1]
theorem first_short (l : List UInt8) (hne : l ≠ []) (hs : ¬ clsSz l ≤ l.length) : firstV l = (0, 0) := by
  unfold firstV
  rw [if_neg hne]
  by_cases hb : (decodeL l).1 = 65533 ∧ (decodeL l).2 = 1
  · rw [if_pos hb]
  · exact absurd (cls_dec l hne hb).2 hs
set_option maxHeartbeats 1000000 in
theorem first_tells (s : ByteArray) (hz : s.size < 9223372036854775807) (k : Nat) : bolterref04_First.f (k + 6) s = some (firstV s.data.toList) := by
  have hb := (s.data.toList.getD 0 0).toNat_lt
  unfold bolterref04_First.f
  by_cases h0 : s.size = 0
  · rw [if_pos (by omega)]
    have : s.data.toList = [] := List.eq_nil_of_length_eq_zero (by rw [← size_eq]; exact h0)
    rw [this]; rfl
  have hne : s.data.toList ≠ [] := by
    intro h; apply h0; rw [size_eq, h]; rfl
  rw [if_neg (by omega), if_pos (by omega), show bt s 0 = bt s ((0 : Nat) : Int) from rfl, bt_g, w64 (by omega) (by omega)]
  have hz' := size_eq s
  -- a class
  have go : ∀ (v sz : Nat), bolterref04_First.j0 (k + 6) s (v : Int) (sz : Int) = if s.size < sz then some (0, 0) else bolterref04_First.l0 (k + 5) s (v : Int) (sz : Int) ((1 : Nat) : Int) := by
    intro v sz
    simp only [bolterref04_First.j0]
    by_cases h : s.size < sz
    · rw [if_pos (by omega), if_pos h]
    · rw [if_neg (by omega), if_neg h]; rfl
  have fin : ∀ (hh : clsSz s.data.toList ≤ s.size) (k : Nat), bolterref04_First.l0 (k + 1) s (clsV s.data.toList : Int) (clsSz s.data.toList : Int) (clsSz s.data.toList : Int) = some (firstV s.data.toList) := by
    intro hh k
    rw [first_end s _ _ k hh hz, first_core _ hne (by omega)]
  by_cases c4 : 240 ≤ (s.data.toList.getD 0 0).toNat
  · rw [if_pos (by omega), w64 (by omega) (by omega), show (((s.data.toList.getD 0 0).toNat : Int) - 240) = (((s.data.toList.getD 0 0).toNat - 240 : Nat) : Int) by omega, show (4 : Int) = ((4 : Nat) : Int) from rfl, go]
    have e1 : clsSz s.data.toList = 4 := by unfold clsSz; rw [if_pos c4]
    by_cases hs : s.size < 4
    · rw [if_pos hs, first_short _ hne (by omega)]
    · rw [if_neg hs, first_step s _ 1 4 (k + 4) (by omega) (by omega) (by omega) (by omega), first_step s _ 2 4 (k + 3) (by omega) (by omega) (by omega) (by omega), first_step s _ 3 4 (k + 2) (by omega) (by omega) (by omega) (by omega)]
      have e2 : clsV s.data.toList = ((((s.data.toList.getD 0 0).toNat - 240) * 64 + (s.data.toList.getD 1 0).toNat % 64) * 64 + (s.data.toList.getD 2 0).toNat % 64) * 64 + (s.data.toList.getD 3 0).toNat % 64 := by unfold clsV; rw [if_pos c4]
      rw [← e2]
      have := fin (by omega) (k + 1)
      rw [e1] at this
      exact this
  rw [if_neg (by omega)]
  by_cases c3 : 224 ≤ (s.data.toList.getD 0 0).toNat
  · rw [if_pos (by omega), w64 (by omega) (by omega), show (((s.data.toList.getD 0 0).toNat : Int) - 224) = (((s.data.toList.getD 0 0).toNat - 224 : Nat) : Int) by omega, show (3 : Int) = ((3 : Nat) : Int) from rfl, go]
    have e1 : clsSz s.data.toList = 3 := by unfold clsSz; rw [if_neg c4, if_pos c3]
    by_cases hs : s.size < 3
    · rw [if_pos hs, first_short _ hne (by omega)]
    · rw [if_neg hs, first_step s _ 1 3 (k + 4) (by omega) (by omega) (by omega) (by omega), first_step s _ 2 3 (k + 3) (by omega) (by omega) (by omega) (by omega)]
      have e2 : clsV s.data.toList = (((s.data.toList.getD 0 0).toNat - 224) * 64 + (s.data.toList.getD 1 0).toNat % 64) * 64 + (s.data.toList.getD 2 0).toNat % 64 := by unfold clsV; rw [if_neg c4, if_pos c3]
      rw [← e2]
      have := fin (by omega) (k + 2)
      rw [e1] at this
      exact this
  rw [if_neg (by omega)]
  by_cases c2 : 192 ≤ (s.data.toList.getD 0 0).toNat
  · rw [if_pos (by omega), w64 (by omega) (by omega), show (((s.data.toList.getD 0 0).toNat : Int) - 192) = (((s.data.toList.getD 0 0).toNat - 192 : Nat) : Int) by omega, show (2 : Int) = ((2 : Nat) : Int) from rfl, go]
    have e1 : clsSz s.data.toList = 2 := by unfold clsSz; rw [if_neg c4, if_neg c3, if_pos c2]
    by_cases hs : s.size < 2
    · rw [if_pos hs, first_short _ hne (by omega)]
    · rw [if_neg hs, first_step s _ 1 2 (k + 4) (by omega) (by omega) (by omega) (by omega)]
      have e2 : clsV s.data.toList = ((s.data.toList.getD 0 0).toNat - 192) * 64 + (s.data.toList.getD 1 0).toNat % 64 := by unfold clsV; rw [if_neg c4, if_neg c3, if_pos c2]
      rw [← e2]
      have := fin (by omega) (k + 3)
      rw [e1] at this
      exact this
  · rw [if_neg (by omega), show (1 : Int) = ((1 : Nat) : Int) from rfl, go, if_neg (by omega)]
    have e1 : clsSz s.data.toList = 1 := by unfold clsSz; rw [if_neg c4, if_neg c3, if_neg c2]
    have e2 : clsV s.data.toList = (s.data.toList.getD 0 0).toNat := by unfold clsV; rw [if_neg c4, if_neg c3, if_neg c2]
    rw [← e2]
    have := fin (by omega) (k + 4)
    rw [e1] at this
    exact this
theorem check_l (s : ByteArray) (hz : s.size < 9223372036854775807) : ∀ (d i k : Nat), s.size ≤ i + d → i ≤ s.size → d + 7 ≤ k → ∃ r, bolterref04_Check.l0 k s (i : Int) = some r ∧ r.2 = errV (s.data.toList.drop i)
  | d, i, k, hd, hi, hk => by
    obtain ⟨k, rfl⟩ : ∃ k', k = k' + 1 := ⟨k - 1, by omega⟩
    simp only [bolterref04_Check.l0]
    by_cases h : i < s.size
    · obtain ⟨d, rfl⟩ : ∃ d', d = d' + 1 := ⟨d - 1, by omega⟩
      obtain ⟨k, rfl⟩ : ∃ k', k = k' + 6 := ⟨k - 6, by omega⟩
      have hne : s.data.toList.drop i ≠ [] := by
        intro h0
        have := congrArg List.length h0
        rw [List.length_drop, ← size_eq] at this
        simp at this; omega
      rw [if_pos (by omega), if_pos (by omega), if_pos (by omega), Int.toNat_natCast]
      have hx : (s.extract i s.size).data.toList = s.data.toList.drop i := by
        rw [extract_data, List.take_of_length_le (by rw [List.length_drop, ← size_eq]; exact Nat.le_refl _)]
      rw [first_tells _ (by rw [size_eq, hx, List.length_drop, ← size_eq]; omega), hx]
      simp only [Option.bind_some]
      unfold firstV errV
      rw [if_neg hne, validD_step _ hne]
      by_cases hb : (decodeL (s.data.toList.drop i)).1 = 65533 ∧ (decodeL (s.data.toList.drop i)).2 = 1
      · rw [if_pos hb, if_pos hb, if_pos rfl]
        exact ⟨_, rfl, rfl⟩
      · obtain ⟨hc, h1, h2⟩ := Ch.take hne (Prod.ext rfl rfl : decodeL (s.data.toList.drop i) = ((decodeL (s.data.toList.drop i)).1, (decodeL (s.data.toList.drop i)).2)) hb
        rw [List.length_drop, ← size_eq] at h1
        rw [if_neg hb, if_neg hb, if_neg (by simp only; omega)]
        simp only
        rw [w64 (by omega) (by omega), List.drop_drop]
        have := check_l s hz d (i + (decodeL (s.data.toList.drop i)).2) (k + 6) (by omega) (by omega) (by omega)
        rw [Int.natCast_add] at this
        exact this
    · rw [if_neg (by omega)]
      refine ⟨_, rfl, ?_⟩
      rw [List.drop_eq_nil_of_le (by rw [← size_eq]; omega)]; rfl
theorem checkR_tells (s : ByteArray) (hz : s.size < 9223372036854775807) : ∃ r, Tells (fun k => bolterref04_Check.f k s) r ∧ r.2 = errV s.data.toList := by
  obtain ⟨r, hr, he⟩ := check_l s hz s.size 0 (s.size + 7) (by omega) (by omega) (by omega)
  exact ⟨r, Tells.mono (bolterref04_Check.mono s) _ hr, by rw [he, List.drop_zero]⟩
end Go.Proofs.YtdhjdddjgcfhkaaDoor.P

end
