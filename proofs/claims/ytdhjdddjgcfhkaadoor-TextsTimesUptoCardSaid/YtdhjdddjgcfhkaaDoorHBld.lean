/- A strings.Builder at the beginning of a block (alone, or embedded as the first field of a struct): copyCheck, Len, WriteString, String, walked. -/
import Derived.Shelf.Strings.BuilderX
import Derived.Shelf.RegionOpenPlain
import Derived.Lib.Strings
import Derived.Lib.Slices
import Derived.Lib.Walk
import Derived.Lib.Builder
import Derived.Lib.AppendStr
import Derived.Lib.UnsafeStr
import Derived.Lib.MakeNoZero
import Derived.WalkKit
import Derived.Laws.Externs
import Derived.Laws.IdiomCopy
import Derived.Laws.BitsLemmas
import Derived.Shelf.Strings.Builder1
import Derived.Lib.Hide
import Derived.Test.YtdhjdddjgcfhkaaDoorProg
import Derived.Test.YtdhjdddjgcfhkaaDoorWWords
set_option linter.unusedVariables false
namespace Go.Proofs.YtdhjdddjgcfhkaaDoor.B
open Go.RowKit Go.Shelf Go.Proofs.YtdhjdddjgcfhkaaDoorW.PrintWords

theorem infoByte : (Tryd.prog.info? 5).map (fun i => (i.zero, i.size, i.bytes)) = some (some (.int .u8 0), 1, 1) := by kernel_rfl
theorem sizeBuilder : (Tryd.prog.info? 65).map (·.size) = some 2 := by kernel_rfl
theorem cellsByte : Tryd.prog.cellsOf 5 = 1 := by kernel_rfl

/-- A block of type T whose first two cells are a Builder that holds these octets: 'addr' nil or its own address; 'buf' a row of the call's own. -/
structure Bld (T : TypeId) (B b : Nat) (p v : Value) (rest : List Value) (l : List UInt8) (w : World) : Prop where
  low : B ≤ b
  blk : w.heap[b]? = some (.cells (p :: v :: rest).toArray T (0, 0))
  own : w.ownsRow B 5 1 v l.length (Lib.byteCells l)
  addr : p = .pointer none ∨ p = .pointer (some ⟨b, 0, none⟩)
  /-- what the copy check asks of the block's type -/
  lies : liesAt Tryd.prog Tryd.prog.depth T ((rest.length + 2) / Tryd.prog.cellsOf T) 0 65 1 = true
  ne : T ≠ 5

section
variable {T : TypeId} {B b : Nat} {p v : Value} {rest : List Value} {l : List UInt8} {w : World}
theorem Bld.cell (h : Bld T B b p v rest l w) (j : Nat) : w.cell? ⟨b, j, none⟩ = (p :: v :: rest)[j]? := by
  rw [Lib.cell_of_heap h.blk]; simp
theorem Bld.cell0 (h : Bld T B b p v rest l w) : w.cell? ⟨b, 0, none⟩ = some p := h.cell 0
theorem Bld.cell1 (h : Bld T B b p v rest l w) : w.cell? ⟨b, 1, none⟩ = some v := h.cell 1
theorem Bld.frozen (h : Bld T B b p v rest l w) (j : Nat) : w.frozen? ⟨b, j, none⟩ = false := Lib.frozen_of_heap h.blk j
theorem Bld.shape (h : Bld T B b p v rest l w) : w.shape? b = some (T, rest.length + 2) := by simp [World.shape?, h.blk]
theorem Bld.lt (h : Bld T B b p v rest l w) : b < w.heap.size := by
  rcases Nat.lt_or_ge b w.heap.size with h' | h'
  · exact h'
  · have := h.blk; simp [Array.getElem?_eq_none h'] at this
theorem Bld.away (h : Bld T B b p v rest l w) : v.ownBlock ≠ some b := Lib.ownBlock_ne h.own h.blk h.ne
theorem Bld.slice (h : Bld T B b p v rest l w) : ∃ ao cap, v = .slice ao l.length cap := by
  have := Lib.byteCells_length l
  rcases h.own.2 with ⟨hv, h0⟩ | ⟨g, cap, cur, hv, _⟩
  · exact ⟨none, 0, by rw [hv, h0]⟩
  · exact ⟨_, _, hv⟩
/-- A store of its own address into 'addr'. -/
theorem Bld.used (h : Bld T B b p v rest l w) : Bld T B b (.pointer (some ⟨b, 0, none⟩)) v rest l (w.setCell ⟨b, 0, none⟩ (.pointer (some ⟨b, 0, none⟩))) := by
  refine ⟨h.low, ?_, ?_, .inr rfl, h.lies, h.ne⟩
  · simp [World.setCell, Array.getElem?_modify, h.blk]
  · exact h.own.kept (row := some b) ⟨rfl, rfl, rfl, by simp [World.setCell], fun k _ hk => Below.heap_setCell _ _ _ _ (fun e => hk (by simp [e]))⟩ (Or.inr h.away)
/-- A new buffer laid into 'buf'. -/
theorem Bld.put {w1 : World} {v' : Value} {l' : List UInt8} (h : Bld T B b p v rest l w) (hb : w1.heap[b]? = w.heap[b]?) (hown : w1.ownsRow B 5 1 v' l'.length (Lib.byteCells l')) : Bld T B b p v' rest l' (w1.setCell ⟨b, 1, none⟩ v') := by
  have hb1 := hb.trans h.blk
  refine ⟨h.low, ?_, ?_, h.addr, h.lies, h.ne⟩
  · simp [World.setCell, Array.getElem?_modify, hb1]
  · exact hown.kept (row := some b) ⟨rfl, rfl, rfl, by simp [World.setCell], fun k _ hk => Below.heap_setCell _ _ _ _ (fun e => hk (by simp [e]))⟩ (Or.inr (Lib.ownBlock_ne hown hb1 h.ne))
/-- It stays where memory only grows. -/
theorem Bld.below {w1 : World} (h : Bld T B b p v rest l w) (hb : Below w.heap.size w w1) : Bld T B b p v rest l w1 :=
  ⟨h.low, (hb.block b h.lt).trans h.blk, pw_own_below h.own hb, h.addr, h.lies, h.ne⟩
end

theorem byteCells_str (l : List UInt8) (s : ByteArray) : Lib.byteCells l ++ Lib.strCells s = Lib.byteCells (l ++ s.data.toList) := by
  simp [Lib.byteCells, Lib.strCells]

set_option maxHeartbeats 1000000 in
set_option maxRecDepth 100000 in
theorem Bld_copyCheck {T : TypeId} {B b : Nat} {p v : Value} {rest : List Value} {l : List UInt8} {w : World} (h : Bld T B b p v rest l w) :
    Calls Tryd.prog 99 #[.pointer (some ⟨b, 0, none⟩)] w fun e w' => e = .returned (.tuple #[]) ∧ Bld T B b (.pointer (some ⟨b, 0, none⟩)) v rest l w' ∧ Below B w w' ∧ KeepBut w w' b none := by
  obtain ⟨j, hj, hjs⟩ := Option.map_eq_some_iff.1 sizeBuilder
  rcases h.addr with hp | hp
  · subst hp
    have h0 := h.cell0
    have hfz := h.frozen 0
    have hsh := h.shape
    have HU := Lib.hid h.used
    have HL := Lib.hid h.low
    have HLies := Lib.hid h.lies
    clear h
    go_enter Tryd.func99, Tryd.ntmps99
    go_wp2
    rw [Lib.run_to_unsafe w ⟨b, 0, none⟩ Tryd.underlying62 Tryd.underlying133 hj (by rw [hjs]; decide) hsh (Nat.zero_lt_succ _)]
    simp only [Result.andThen]
    rw [Oper.upon_value]
    go_wp2
    rw [run_callFunc_extern Tryd.func117 (by kernel_rfl) (by kernel_rfl) (by kernel_rfl) (e := Extern.AbiNoEscape.same) (by kernel_rfl)]
    rw [Lib.run_noEscape]
    simp only [Result.andThen]
    rw [Oper.upon_value]
    go_wp2
    rw [Lib.run_from_unsafe w ⟨b, 0, none⟩ Tryd.underlying133 Tryd.underlying62 hj hsh HLies.out]
    simp only [Result.andThen]
    rw [Oper.upon_value]
    go_wp2
    go_end0
    exact ⟨rfl, HU.out, (Below.refl B w).setCell (p := ⟨b, 0, none⟩) HL.out _, by simp [World.setCell], fun k _ hk _ => Below.heap_setCell _ _ _ _ hk⟩
  · subst hp
    have h0 := h.cell0
    have HH := Lib.hid h
    clear h
    go_enter Tryd.func99, Tryd.ntmps99
    go_wp2
    rw [Lib.run_neq_ptr_same w _ Tryd.underlying62 hj]
    go_wp2
    go_end0
    exact ⟨rfl, HH.out, Below.refl B w, Nat.le_refl _, fun _ _ _ _ => rfl⟩

set_option maxHeartbeats 1000000 in
set_option maxRecDepth 100000 in
theorem Bld_Len {T : TypeId} {B b : Nat} {p v : Value} {rest : List Value} {l : List UInt8} {w : World} (h : Bld T B b p v rest l w) :
    Calls Tryd.prog 79 #[.pointer (some ⟨b, 0, none⟩)] w fun e w' => e = .returned (.int .i64 l.length) ∧ w' = w := by
  obtain ⟨ao, cap, rfl⟩ := h.slice
  have c1 := h.cell1
  clear h
  go_enter Tryd.func79, Tryd.ntmps79
  go_wp2
  go_ret
  exact ⟨rfl, rfl⟩

set_option maxHeartbeats 2000000 in
set_option maxRecDepth 100000 in
theorem Bld_WriteString {T : TypeId} {B b : Nat} {p v : Value} {rest : List Value} {l : List UInt8} {w : World} (s : ByteArray) (h : Bld T B b p v rest l w) (hlen : l.length + s.size ≤ 140737488355328) (hBw : B ≤ w.heap.size) :
    Calls Tryd.prog 68 #[.pointer (some ⟨b, 0, none⟩), .string s] w fun e w' => e = .returned (.tuple #[.int .i64 s.size, .nilIface]) ∧ (∃ v', Bld T B b (.pointer (some ⟨b, 0, none⟩)) v' rest (l ++ s.data.toList) w') ∧ Below B w w' ∧ KeepBut w w' b v.ownBlock := by
  obtain ⟨i0, hi, hz0, hz1, hz2⟩ := info_parts infoByte
  have cC := Bld_copyCheck h
  clear h
  go_enter Tryd.func68, Tryd.ntmps68
  go_wp2_with (go_at_call 99; refine cC.mono ?_)
  rintro e w1 ⟨rfl, h1, hb1, hkb⟩
  have HKB := Lib.hid hkb; clear hkb
  have c0 := h1.cell0
  have c1 := h1.cell1
  have hown := h1.own
  have H1 := Lib.hid h1
  have HO := Lib.hid hown
  have hlow := h1.low
  clear h1 cC
  go_wp2_with (at_builtin; refine Lib.wpList_append_own_string _ rfl _ _ 63 9 rfl B 5 i0 Tryd.underlying63 Tryd.underlying9 hi hz0 hz1 hz2 _ _ _ rfl hown s rfl ?c3 ?c4 ?c5 ?_)
  case c3 => unfold maxLen; omega
  case c4 => omega
  case c5 => have := hb1.size; omega
  intro v' w2 hown' hgrow _
  have hkeep : w2.heap[b]? = w1.heap[b]? := hgrow.block b H1.out.lt (fun e => H1.out.away e.symm)
  have hb2 := hkeep.trans H1.out.blk
  have d0 : w2.cell? ⟨b, 0, none⟩ = some (.pointer (some ⟨b, 0, none⟩)) := by rw [Lib.cell_of_heap hb2]; rfl
  have d1 : w2.cell? ⟨b, 1, none⟩ = some v := by rw [Lib.cell_of_heap hb2]; rfl
  have f1 : w2.frozen? ⟨b, 1, none⟩ = false := Lib.frozen_of_heap hb2 1
  obtain ⟨ao, n', cap, rfl⟩ : ∃ ao n' cap, v' = .slice ao n' cap := by
    rcases hown'.2 with ⟨hv, _⟩ | ⟨g, cap, cur, hv, _⟩
    · exact ⟨_, _, _, hv⟩
    · exact ⟨_, _, _, hv⟩
  have HO2 := Lib.hid hown'
  have HG := Lib.hid hgrow
  have HK := Lib.hid hkeep
  clear hown' hgrow hown hkeep hb2
  go_wp2
  go_ret2
  refine ⟨rfl, ⟨_, H1.out.put HK.out (by rw [← byteCells_str]; simpa using HO2.out)⟩, ?_, ?_, ?_⟩
  · exact (hb1.grown HG.out (by have := hb1.size; omega) (fun k hk => (HO.out.lt k hk).1)).setCell (p := ⟨b, 1, none⟩) hlow _
  · have := HKB.out.1; have := HG.out.size; simp [World.setCell]; omega
  · intro k hk h1 h2
    have := HKB.out.1
    rw [Below.heap_setCell _ _ _ _ h1, HG.out.block k (by omega) (fun e => h2 e), HKB.out.2 k hk h1 (by simp)]

theorem unsafeString_none (W : World) (q : Option Addr) : (Builtin.unsafeString_ #[96, 3] 9 #[.pointer q, .int .i64 0]).run Tryd.prog W = .ok (.string .empty) W :=
  Lib.run_unsafeString_none W _ _ _ q

set_option maxHeartbeats 4000000 in
set_option maxRecDepth 100000 in
/-- String: what has been written. -/
theorem Bld_String {T : TypeId} {B b : Nat} {p v : Value} {rest : List Value} {l : List UInt8} {w : World} (h : Bld T B b p v rest l w) (hBw : B ≤ w.heap.size) :
    Calls Tryd.prog 49 #[.pointer (some ⟨b, 0, none⟩)] w fun e w' => e = .returned (.string ⟨l.toArray⟩) ∧ Below B w w' := by
  have c1 : w.drew.cell? ⟨b, 1, none⟩ = some v := h.cell1
  have hlt := h.lt
  have hblk := Lib.hid h.blk
  have hown := Lib.hid h.own
  clear h
  by_cases hl : l = []
  · subst hl
    have hUS := unsafeString_none
    rcases hown.out.2 with ⟨rfl, _⟩ | ⟨g, cap, cur, rfl, hbg, hg, hnc, hcm, hcs, htake⟩
    · have hSD : (Builtin.unsafeSliceData_ #[63] 96 #[.slice none 0 0]).run Tryd.prog w.drew = .ok (.pointer none) w.drew := rfl
      go_enter Tryd.func49, Tryd.ntmps49
      go_wp2
      go_region
      all_goals (go_wp2; go_ret; exact ⟨rfl, Below.drew (Below.refl B w)⟩)
    · have HG := Lib.hid hg
      clear hg htake hcs hnc hcm hown
      by_cases hc0 : cap = 0
      · subst hc0
        have hSD : (Builtin.unsafeSliceData_ #[63] 96 #[.slice (some ⟨g, 0, none⟩) 0 0]).run Tryd.prog w.drew = .ok (.pointer (some ⟨w.drew.heap.size, 0, none⟩)) (w.drew.alloc (.view ⟨g, 0, none⟩ 5)) :=
          Lib.run_unsafeSliceData_zero w.drew _ _ 5 Tryd.underlying96 ⟨g, 0, none⟩ 0 (5, cur.size) (by have hg' : w.drew.heap[g]? = some (.cells cur 5 (0, 0)) := HG.out; simp [World.shape?, hg'])
        have c2 : (w.drew.alloc (.view ⟨g, 0, none⟩ 5)).cell? ⟨b, 1, none⟩ = some (.slice (some ⟨g, 0, none⟩) 0 0) := by
          have : (w.drew.alloc (.view ⟨g, 0, none⟩ 5)).heap[b]? = _ := (Lib.alloc_old w.drew _ b hlt).trans hblk.out
          rw [Lib.cell_of_heap this]; rfl
        have c3 : (w.alloc (.view ⟨g, 0, none⟩ 5)).drew.cell? ⟨b, 1, none⟩ = some (.slice (some ⟨g, 0, none⟩) 0 0) := c2
        have c0 : w.cell? ⟨b, 1, none⟩ = some (.slice (some ⟨g, 0, none⟩) 0 0) := c1
        go_enter Tryd.func49, Tryd.ntmps49
        go_wp2
        go_region
        all_goals (go_wp2; go_ret; exact ⟨rfl, (Below.drew (Below.refl B w)).alloc hBw _⟩)
      · have hSD : (Builtin.unsafeSliceData_ #[63] 96 #[.slice (some ⟨g, 0, none⟩) 0 cap]).run Tryd.prog w.drew = .ok (.pointer (some ⟨g, 0, none⟩)) w.drew :=
          Lib.run_unsafeSliceData_row _ _ _ _ _ _ hc0
        clear hc0
        go_enter Tryd.func49, Tryd.ntmps49
        go_wp2
        go_region
        all_goals (go_wp2; go_ret; exact ⟨rfl, Below.drew (Below.refl B w)⟩)
  · have hl0 : l.length ≠ 0 := by simpa using hl
    have hown2 := hown.out
    obtain ⟨g, cap, cur, rfl, hbg, hg, hnc, hcm, hcs, htake⟩ : ∃ g cap cur, v = .slice (some ⟨g, 0, none⟩) l.length cap ∧ B ≤ g ∧ w.heap[g]? = some (.cells cur 5 (0, 0)) ∧ l.length ≤ cap ∧ cap ≤ maxLen ∧ cur.size = cap * 1 ∧ cur.toList.take (l.length * 1) = Lib.byteCells l := by
      rcases hown2.2 with ⟨_, hz⟩ | ⟨g, cap, cur, hv, r⟩
      · exact absurd hz hl0
      · exact ⟨g, cap, cur, hv, r⟩
    have hSD : (Builtin.unsafeSliceData_ #[63] 96 #[.slice (some ⟨g, 0, none⟩) l.length cap]).run Tryd.prog w.drew = .ok (.pointer (some ⟨g, 0, none⟩)) w.drew :=
      Lib.run_unsafeSliceData_row _ _ _ _ _ _ (by omega)
    have hUS : (Builtin.unsafeString_ #[96, 3] 9 #[.pointer (some ⟨g, 0, none⟩), .int .i64 l.length]).run Tryd.prog w.drew = .ok (.string ⟨l.toArray⟩) (w.drew.freeze ⟨g, 0, none⟩ l.length) := by
      refine Lib.run_unsafeString_row w.drew 96 3 9 5 Tryd.underlying96 cellsByte g cur.size (by have hg' : w.drew.heap[g]? = some (.cells cur 5 (0, 0)) := hg; simp [World.shape?, hg']) l hl (by omega) (by unfold maxLen at hcm; omega) ?_
      intro j x hx
      have := hown2.cells (g := g) rfl j (.int .u8 x.toNat) (by simp [Lib.byteCells, hx])
      exact this
    clear htake hcs hnc hg hown2 hown hl hl0
    go_enter Tryd.func49, Tryd.ntmps49
    go_wp2
    go_region
    all_goals (go_wp2; go_ret; exact ⟨rfl, Lib.below_freeze (Below.drew (Below.refl B w)) (p := ⟨g, 0, none⟩) hbg _⟩)
end Go.Proofs.YtdhjdddjgcfhkaaDoor.B
