/- What the library's tables hold, as the calls that decode characters and look for texts want it; and that it stays where memory only grows. -/
import Derived.Test.YtdhjdddjgcfhkaaDoorProg
import Derived.Test.YtdhjdddjgcfhkaaDoorWWords
import Derived.Test.YtdhjdddjgcfhkaaDoorWMore
import Derived.Lib.ConvBytes
import Derived.Lib.LaidU8
import Derived.Shelf.Unicode.DecodeAny
set_option linter.unusedVariables false
set_option linter.unusedSimpArgs false
namespace Go.Proofs.YtdhjdddjgcfhkaaDoor.B
open Go.RowKit Go.Proofs.YtdhjdddjgcfhkaaDoorW.PrintWords

/-- The two tables of unicode/utf8, and the library's MaxLen, which holds some number. -/
def GlobG (w : World) : Prop :=
  Lib.Utf8Tabs 1 2 w ∧ ∃ m, w.cell? ⟨0, 0, none⟩ = some (.int .i64 m)

theorem GlobG.below {w w1 : World} (hb : Below w.heap.size w w1) (h : GlobG w) : GlobG w1 := by
  obtain ⟨⟨h1, h2⟩, m, h3⟩ := h
  exact ⟨⟨fun c hc => pw_cell_below hb (h1 c hc), fun i hi => ⟨pw_cell_below hb (h2 i hi).1, pw_cell_below hb (h2 i hi).2⟩⟩, m, pw_cell_below hb h3⟩
/-- The same where only what lies below some block is told to stay, if the tables lie below it. -/
def GBelow (n₀ : Nat) : Prop := 1 < n₀ ∧ 2 < n₀ ∧ 0 < n₀
theorem GlobG.gbelow {w : World} (h : GlobG w) : GBelow w.heap.size :=
  ⟨World.block_lt_of_cell? w _ (h.1.1 0 (by omega)), World.block_lt_of_cell? w _ (h.1.2 0 (by omega)).1, by obtain ⟨m, hm⟩ := h.2; exact World.block_lt_of_cell? w _ hm⟩
theorem GBelow.mono {n m : Nat} (h : GBelow n) (hm : n ≤ m) : GBelow m := ⟨Nat.lt_of_lt_of_le h.1 hm, Nat.lt_of_lt_of_le h.2.1 hm, Nat.lt_of_lt_of_le h.2.2 hm⟩
theorem GlobG.belowN {n₀ : Nat} {w w1 : World} (h : GlobG w) (hn : GBelow n₀) (hb : Below n₀ w w1) : GlobG w1 := by
  obtain ⟨⟨h1, h2⟩, m, h3⟩ := h
  exact ⟨⟨fun c hc => (hb.cell (p := ⟨_, c, none⟩) hn.1).trans (h1 c hc), fun i hi => ⟨(hb.cell (p := ⟨_, _, none⟩) hn.2.1).trans (h2 i hi).1, (hb.cell (p := ⟨_, _, none⟩) hn.2.1).trans (h2 i hi).2⟩⟩, m, (hb.cell (p := ⟨_, _, none⟩) hn.2.2).trans h3⟩

/-- '[]byte(s)': a new row that is only read. -/
def conv_bytes63.f (s : ByteArray) : Option (List Int) := if s.size ≤ 9223372036854775807 then some (bytesOf s) else none
theorem conv_bytes63.op {ops : Array Oper} {rest : List Oper} {o : Oper} {a : Act} {Q : Exit → Act → World → Prop} {W : World} (s : ByteArray) (y : List Int) (x : Operand) (hgd : o.guard = none)
    (ho : o.op = .convert 9 63 x) (hx : a.eval x = .string s) (h : conv_bytes63.f s = some y)
    (k : ∀ v w1, Kd.V (Kd.int .u8) 5 w1 W.heap.size (fun k_ => (W.heap.size ≤ k_)) v y → Below W.heap.size W w1 → wpList Tryd.prog ops Q rest (a.put o.dst v) w1) : wpList Tryd.prog ops Q (o :: rest) a W := by
  unfold conv_bytes63.f at h
  split at h
  case isFalse => cases h
  case isTrue hs =>
    obtain rfl := Option.some.inj h
    have hrun : (execOp a.eval o).run Tryd.prog W = .ok (.value (.slice (some ⟨W.heap.size, 0, none⟩) s.size (grownCap W s.size 0 5))) (Lib.bytesWorld W 5 s) := by
      unfold execOp
      simp only [ho]
      rw [hx]
      simp [Lib.run_convert_string_bytes W _ _ 5 s Tryd.underlying9 Tryd.underlying63 Tryd.underlying5, go_sem]
    have hb : Below W.heap.size W (Lib.bytesWorld W 5 s) := ⟨rfl, rfl, rfl, by rw [Lib.bytesWorld_size]; omega, fun i hi => Lib.bytesWorld_at_old W _ s i hi⟩
    have hl : (bytesOf s).length = s.size := by simp [bytesOf]
    have hC : ∀ W1 : World, (∀ j, j < s.size → W1.cell? ⟨W.heap.size, j, none⟩ = some (.int .u8 ((s.data.toList.getD j 0).toNat : Int))) → Kd.C (Kd.int .u8) W1 (some ⟨W.heap.size, 0, none⟩) (bytesOf s).length (bytesOf s) := fun W1 hc =>
      Kd.C_of_reads (enc := Value.int .u8) (d := 0) ⟨rfl, by rw [hl]; exact hs, fun _ => ⟨_, rfl, fun j hj => by
        rw [hl] at hj
        rw [show (⟨W.heap.size, 0, none⟩ : Addr).add j = ⟨W.heap.size, j, none⟩ from add_plain _ _, hc j hj]
        simp [bytesOf, List.getD_eq_getElem?_getD, hj]⟩⟩
    refine Kd.event_run hgd hrun (k _ _ ⟨some ⟨W.heap.size, 0, none⟩, grownCap W s.size 0 5, by rw [hl], ?_, ?_⟩ hb)
    · rw [hl]; exact grownCap_ge _ _ _ _
    · intro W' hk
      refine hC W' (fun j hj => ?_)
      have hsz := Lib.bytesWorld_size W 5 s
      have := hk W.heap.size (Nat.le_refl _) (by omega)
      rw [World.cell?_of_block (w := Lib.bytesWorld W 5 s) (a := ⟨W.heap.size, j, none⟩) this]
      exact Lib.bytesWorld_cell W _ s j hj
end Go.Proofs.YtdhjdddjgcfhkaaDoor.B
