/- texts.wholes, and slices.ContainsFunc under it, walked. -/
import Derived.WalkKit
import Derived.Lib.Hide
import Derived.Shelf.Abstract
import Derived.Outline
import Derived.Deep.DeepFit
import Derived.Test.YtdhjdddjgcfhkaaDoorHLib
import Derived.Test.YtdhjdddjgcfhkaaDoorB0
import Derived.Test.YtdhjdddjgcfhkaaDoorB1
set_option linter.unusedVariables false
set_option linter.unusedSimpArgs false
namespace Go.Proofs.YtdhjdddjgcfhkaaDoor.B
open Go.RowKit Go.Shelf Go.Proofs.YtdhjdddjgcfhkaaDoorW.PrintWords

def idxOf {α : Type} (p : α → Bool) (l : List α) : Int := match l.findIdx? p with | some i => (i : Int) | none => -1
theorem idxOf_at {α : Type} {p : α → Bool} {l : List α} {k : Nat} {x : α} (hk : l[k]? = some x) (hx : p x = true) (hn : ∀ (j : Nat) y, j < k → l[j]? = some y → p y = false) : idxOf p l = k := by
  have : l.findIdx? p = some k := by
    rw [List.findIdx?_eq_some_iff_getElem]
    obtain ⟨h1, h2⟩ := List.getElem?_eq_some_iff.1 hk
    exact ⟨h1, by rw [h2]; exact hx, fun j hj => by simpa using hn j _ hj (List.getElem?_eq_getElem (by omega))⟩
  unfold idxOf; rw [this]
theorem idxOf_none {α : Type} {p : α → Bool} {l : List α} (hn : ∀ (j : Nat) y, l[j]? = some y → p y = false) : idxOf p l = -1 := by
  have : l.findIdx? p = none := by
    rw [List.findIdx?_eq_none_iff]
    intro x hx
    obtain ⟨j, hj⟩ := List.mem_iff_getElem?.1 hx
    exact hn j x hj
  unfold idxOf; rw [this]
theorem idxOf_any {α : Type} (p : α → Bool) (l : List α) : decide (0 ≤ idxOf p l) = l.any p := by
  unfold idxOf
  cases h : l.findIdx? p with
  | none =>
    rw [List.findIdx?_eq_none_iff] at h
    simp only [show decide ((0 : Int) ≤ -1) = false from rfl]
    symm; rw [List.any_eq_false]; intro x hx; simp [h x hx]
  | some i =>
    rw [List.findIdx?_eq_some_iff_getElem] at h
    obtain ⟨h1, h2, _⟩ := h
    have : l.any p = true := List.any_eq_true.2 ⟨l[i], List.getElem_mem _, h2⟩
    rw [this]; simp

set_option maxHeartbeats 2000000 in
set_option maxRecDepth 100000 in
theorem indexFunc_str (p : ByteArray → Bool) (A0 : Option Addr) (c0 : Nat) (l0 : List ByteArray) (w : World) (hr0 : Kd.C Kd.string w A0 l0.length l0)
    (hf : ∀ (x : ByteArray) (W : World), Below w.heap.size w W → Calls Tryd.prog 77 #[.string x] W fun e W' => e = .returned (.bool (p x)) ∧ Below W.heap.size W W') :
    Calls Tryd.prog 107 #[.slice A0 l0.length c0, .func (.func 77) #[] #[]] w fun e w' => e = .returned (.int .i64 (idxOf p l0)) ∧ Below w.heap.size w w' := by
  have hR : ReadsOf Value.string ByteArray.empty w A0 l0.length l0 := Kd.reads_of_C hr0
  have hm := hR.2.1
  have HR := Lib.hid hR
  have HF := Lib.hid hf
  obtain ⟨n, hn⟩ : ∃ n, l0.length = n := ⟨_, rfl⟩
  rw [hn] at hm
  have HN := Lib.hid hn
  clear hR hf hr0
  rw [hn]
  clear hn
  go_enter Tryd.func107, Tryd.ntmps107
  go_wp2
  go_loopw [8] (fun i wr => ∃ k : Nat, k ≤ n ∧ i = .int .i64 k ∧ (∀ (j : Nat) y, j < k → l0[j]? = some y → p y = false) ∧ Below w.heap.size w wr) (fun i _ => n - (intOf i).toNat)
  case atStart => exact ⟨0, Nat.zero_le _, rfl, fun _ _ h => absurd h (Nat.not_lt_zero _), Below.refl _ _⟩
  case round =>
    obtain ⟨k, hk, rfl, hpre, hb⟩ := hrel
    have HP := Lib.hid hpre; clear hpre
    by_cases hlt : k < n
    · have hlt' : (k : Int) < (n : Int) := by omega
      obtain ⟨ad, had, hc⟩ := HR.out.2.2 (by have := HN.out; omega)
      subst had
      obtain ⟨b, o, rfl⟩ := addr_plain (show w.cell? ad = _ from hc 0 (by have := HN.out; omega))
      obtain ⟨x, hx⟩ : ∃ x, l0.getD k ByteArray.empty = x := ⟨_, rfl⟩
      have hx? : l0[k]? = some x := by
        rw [← hx, List.getD_eq_getElem?_getD, List.getElem?_eq_getElem (by have := HN.out; omega)]; rfl
      have hck : wr.cell? ⟨b, o + k, none⟩ = some (.string x) := by
        have h1 := hc k (by have := HN.out; omega)
        rw [add_at, hx] at h1
        exact pw_cell_below hb h1
      have HX := Lib.hid hx?
      have cF := HF.out x wr hb
      clear hx hx? hc
      cases hp : p x with
      | true =>
        rw [hp] at cF
        have hres := idxOf_at HX.out hp HP.out
        have HRes := Lib.hid hres
        clear hp hres
        go_wp2_with (go_at_call 77; refine cF.mono ?_; rintro e w1 ⟨rfl, hb1⟩)
        go_ret
        exact ⟨by rw [HRes.out]; rfl, hb.trans (hb1.mono hb.size)⟩
      | false =>
        rw [hp] at cF
        have hpre' : ∀ (j : Nat) y, j < k + 1 → l0[j]? = some y → p y = false := fun j y hj hy => by
          rcases Nat.lt_or_ge j k with h | h
          · exact HP.out j y h hy
          · obtain rfl : j = k := by omega
            rw [HX.out] at hy; cases hy; exact hp
        have HP' := Lib.hid hpre'
        clear hp hpre'
        go_wp2_with (go_at_call 77; refine cF.mono ?_; rintro e w1 ⟨rfl, hb1⟩)
        go_roundw
        case rel => exact ⟨k + 1, by omega, by go_num, HP'.out, hb.trans (hb1.mono hb.size)⟩
        case measure => simp [intOf]; omega
    · obtain rfl : k = n := by omega
      have hres : idxOf p l0 = -1 := idxOf_none (fun j y hy => by
        have h1 := (List.getElem?_eq_some_iff.1 hy).1
        exact HP.out j y (by have := HN.out; omega) hy)
      have HRes := Lib.hid hres
      clear hres
      go_wp2
      go_ret
      exact ⟨by rw [HRes.out]; rfl, hb⟩

set_option maxHeartbeats 1000000 in
set_option maxRecDepth 100000 in
theorem containsFunc_str (p : ByteArray → Bool) (A0 : Option Addr) (c0 : Nat) (l0 : List ByteArray) (w : World) (hr0 : Kd.C Kd.string w A0 l0.length l0)
    (hf : ∀ (x : ByteArray) (W : World), Below w.heap.size w W → Calls Tryd.prog 77 #[.string x] W fun e W' => e = .returned (.bool (p x)) ∧ Below W.heap.size W W') :
    Calls Tryd.prog 76 #[.slice A0 l0.length c0, .func (.func 77) #[] #[]] w fun e w' => e = .returned (.bool (l0.any p)) ∧ Below w.heap.size w w' := by
  have cI := indexFunc_str p A0 c0 l0 w hr0 hf
  have ha := idxOf_any p l0
  obtain ⟨i, hi⟩ : ∃ i, idxOf p l0 = i := ⟨_, rfl⟩
  rw [hi] at cI ha
  rw [← ha]
  clear ha hi hf hr0
  go_enter Tryd.func76, Tryd.ntmps76
  go_wp2_with (go_at_call 107; refine cI.mono ?_; rintro e w1 ⟨rfl, hb1⟩)
  go_ret
  exact ⟨rfl, hb1⟩

def texts_wholes.f (l0 : List ByteArray) (a1 : Int) : Option (List ByteArray × Int) :=
  if a1 = 0 then (if l0.any (fun x => decide ((x.size : Int) > 16384)) = true then some ([], 5) else some (l0, 0)) else some ([], a1)

set_option maxHeartbeats 1000000 in
set_option maxRecDepth 100000 in
theorem texts_wholes.calls (P0_ : Nat → Prop) (u9000_ : Value) (l0 : List ByteArray) (a1 : Int) (r1 : List ByteArray) (r2 : Int) (w0 w : World) (hB : Below w0.heap.size w0 w) (ho0 : Kd.R Kd.string 9 w w0.heap.size P0_ u9000_ l0) (h : texts_wholes.f l0 a1 = some (r1, r2)) :
    Calls Tryd.prog 44 #[u9000_, .int .i64 a1] w fun e w' => ∃ v0_ : Value, e = .returned (.tuple #[v0_, .int .i64 r2]) ∧ Kd.R Kd.string 9 w' w0.heap.size (fun k_ => (P0_ k_ ∨ w.heap.size ≤ k_)) v0_ r1 ∧ Below w0.heap.size w0 w' ∧ Kept w w' (fun k_ => P0_ k_) := by
  obtain ⟨A, c, rfl, hc, hr⟩ := Kd.R_reads ho0
  have HO := Lib.hid ho0
  have HBw := Lib.hid hB
  clear ho0 hB
  unfold texts_wholes.f at h
  by_cases h1 : a1 = 0
  · subst h1
    rw [if_pos rfl] at h
    have cC := containsFunc_str (fun x => decide ((x.size : Int) > 16384)) A c l0 w hr (fun x W _ => (texts_long.calls x _ W rfl).mono (fun e W' ⟨he, hd⟩ => ⟨he, hd.below⟩))
    cases hany : l0.any (fun x => decide ((x.size : Int) > 16384)) with
    | true =>
      rw [hany, if_pos rfl] at h
      obtain ⟨rfl, rfl⟩ := Prod.mk.inj (Option.some.inj h)
      rw [hany] at cC
      clear hany h hr
      go_enter Tryd.func44, Tryd.ntmps44
      go_wp2_with (go_at_call 76; refine cC.mono ?_; rintro e w1 ⟨rfl, hb1⟩)
      go_ret2
      exact ⟨_, rfl, Kd.R_nil _ _ _ _ _, HBw.out.trans (hb1.mono HBw.out.size), hb1.size, fun i hi _ => hb1.block i hi⟩
    | false =>
      rw [hany, if_neg (by simp)] at h
      obtain ⟨rfl, rfl⟩ := Prod.mk.inj (Option.some.inj h)
      rw [hany] at cC
      clear hany h hr
      go_enter Tryd.func44, Tryd.ntmps44
      go_wp2_with (go_at_call 76; refine cC.mono ?_; rintro e w1 ⟨rfl, hb1⟩)
      go_ret2
      exact ⟨_, rfl, Kd.R_mono (Kd.R_below HO.out hb1) (fun k hk => .inl hk), HBw.out.trans (hb1.mono HBw.out.size), hb1.size, fun i hi _ => hb1.block i hi⟩
  · rw [if_neg h1] at h
    obtain ⟨rfl, rfl⟩ := Prod.mk.inj (Option.some.inj h)
    have hne : (a1 != 0) = true := by rw [bne_iff_ne]; exact h1
    clear h h1 hr
    go_enter Tryd.func44, Tryd.ntmps44
    go_wp2
    go_ret2
    exact ⟨_, rfl, Kd.R_nil _ _ _ _ _, HBw.out, Nat.le_refl _, fun i hi _ => rfl⟩
end Go.Proofs.YtdhjdddjgcfhkaaDoor.B
