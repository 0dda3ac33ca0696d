/- FormatBack: part 2 of 3: the texts WZeros WFoot WKept WShare WN WNEv WMore HGlob RBase PUtf WTab WFootNe WAt WRepsOne WInvWords B0 HRunes HUtf PTells HRfw HChunks HBld HBldS HLib HThree B1 HBase HMend B2 of this claim, one behind the other. -/
import Derived.Test.YtnbkmaghdbhlnaaDoorZFormatBack0
import Derived.Test.YtnbkmaghdbhlnaaDoorProg
import Derived.Lib.ConvBytes
import Derived.Lib.LaidU8
import Derived.Shelf.Unicode.DecodeAny
import Derived.Test.YtnbkmaghdbhlnaaDoorCards
import Derived.Test.YtnbkmaghdbhlnaaDoorTie
import Derived.WalkKit
import Derived.ProofKit
import Derived.OpenShut
import Derived.ShutString
import Derived.ChangeOld
import Derived.Below
import Derived.Deep.DeepHandedRow
import Derived.PinnedBridge
import Derived.HandedShaped
import Derived.Shelf.Vars
import Derived.Lib.MapLaws
import Derived.Lib.ValidLaws
import Derived.Lib.TrimUEq
import Derived.Laws.StructEq
import Derived.Deep.Draws
import Derived.Deep.AppendLies
import Derived.Maps.AppendAt
import Derived.OwnWalk
import Derived.Laws.BytesArg
import Derived.Laws.MakeOwn
import Derived.Laws.OwnMore
import Derived.Deep.OwnRows
import Derived.Tactics
import Derived.Laws.Slices
import Derived.KernelRfl
import Derived.RowKit3
import Derived.Deep.LoopGhost
import Derived.Deep.QuietTactic
import Derived.BigQuiet
import Derived.WideLaws
import Derived.Deep.DeepCutAuto
import Derived.Deep.CutBlock
import Derived.Deep.RegionHeld3
import Derived.Laws.Rows
import Derived.Lib.AppendStr
import Derived.ArgAppend
import Derived.Laws.IdiomCopy
import Derived.OrdersHeld
import Derived.Laws.BitsLemmas
import Derived.RowKit
import Derived.Shelf.Strings.MapAny
import Derived.RangeFuncNested
import Derived.RangeFuncBound
import Derived.RangeFuncCalls
import Derived.RangeFuncLeaves
import Derived.RangeFuncBox
import Derived.Shelf.Abstract
import Derived.Shelf.RegionOpen
import Derived.OwnWalkIn
import Derived.TacticsInMore
import Derived.LoopNIn
import Derived.LoopIn
import Derived.Outline
import Derived.Deep.RegionHeld
import Derived.Lib.Hide
import Derived.RangeFuncWrites
import Derived.Lib.Strings
import Derived.Shelf.Strings.BuilderX
import Derived.Shelf.RegionOpenPlain
import Derived.Lib.Slices
import Derived.Lib.Walk
import Derived.Lib.Builder
import Derived.Lib.UnsafeStr
import Derived.Lib.MakeNoZero
import Derived.Laws.Externs
import Derived.Shelf.Strings.Builder1
import Derived.Shelf.Strings.SlTrimAscii
import Derived.Lib.SlBytesConst
section
namespace Go.Proofs.YtnbkmaghdbhlnaaDoorW.PrintWords
open Go.RowKit
section
variable {P : Program}
theorem run_append_zeros (w : World) (base : Nat) (t ti ty e : TypeId) (i : TypeInfo) (z : Value) (size bytes : Nat) (ht : P.underlying t = some (.slice e)) {k : IntKind} (hti : P.underlying ti = some (.int k)) (hi : P.info? e = some i) (hz : i.zero = some z)
    (hsize : i.size = size) (hby : i.bytes = bytes) (hzs : z.cells.size = size) (hsz : 0 < size) (hb0 : 0 < bytes)
    (v : Value) (n : Nat) (xs : List Value) (hown : w.ownsRow base e size v n xs) (kx : IntKind) (m : Nat) (h1 : ∀ u ∈ (Builtin.zeroCells z.cells m).toList, u.oneCell' = true)
    (hbytes : (n + m) * bytes ≤ 140737488355328) (hbase : base ≤ w.heap.size) :
    ∃ v' w', (Builtin.append_ #[t, ti] ty #[v, .int kx m]).run P w = .ok v' w' ∧ w'.ownsRow base e size v' (n + m) (xs ++ (Builtin.zeroCells z.cells m).toList) ∧ w.grownBy w' v.ownBlock ∧
      (v'.ownBlock = v.ownBlock ∨ v'.ownBlock = some w.heap.size) := by
  subst hsize
  subst hby
  have hle : n + m ≤ 140737488355328 := Nat.le_trans (Nat.le_mul_of_pos_right _ hb0) hbytes
  have h63 : n + m ≤ maxLen := by simp only [maxLen]; omega
  have hw : IntKind.i64.wrap (m : Int) = m := by rw [IntKind.wrap_i64]; omega
  have hw0 : IntKind.i64.wrap 0 = 0 := by rw [IntKind.wrap_i64]; rfl
  have hneg : ¬ ((m : Int) < 0) := by omega
  have hmb : m * i.bytes ≤ 140737488355328 := Nat.le_trans (Nat.mul_le_mul_right _ (Nat.le_add_left m n)) hbytes
  have hbig : ¬ (281474976710656 < (m : Int) * (i.bytes : Int)) := by
    rw [← Int.natCast_mul]
    omega
  have hsn : i.size ≠ 0 := by omega
  obtain ⟨news, hnews⟩ : ∃ news, news = (Builtin.zeroCells z.cells m).toList := ⟨_, rfl⟩
  rw [← hnews] at h1 ⊢
  have hl : news.length = m * i.size := by rw [hnews, Array.length_toList, size_zeroCells, hzs]
  have hna : Builtin.zeroCells z.cells m = news.toArray := by rw [hnews]
  have hlen : (xs ++ news).length = (n + m) * i.size := by rw [List.length_append, hown.1, hl, Nat.add_mul]
  have hnil : m = 0 → news = [] := fun h => List.eq_nil_of_length_eq_zero (by rw [hl, h, Nat.zero_mul])
  have grown : ∀ (old : Nat), old < n + m → ∀ (row : Option Nat),
      (w.drew.alloc (.cells (xs.toArray ++ news.toArray ++ Builtin.zeroCells z.cells (grownCap w (n + m) old e - (n + m))) e)).ownsRow base e i.size
        (.slice (some ⟨w.heap.size, 0, none⟩) (n + m) (grownCap w (n + m) old e)) (n + m) (xs ++ news) ∧
      w.grownBy (w.drew.alloc (.cells (xs.toArray ++ news.toArray ++ Builtin.zeroCells z.cells (grownCap w (n + m) old e - (n + m))) e)) row := by
    intro old ho row
    have hge := grownCap_ge w (n + m) old e
    have hcm : grownCap w (n + m) old e ≤ maxLen := grownCap_le_maxLen w (n + m) old e h63
    refine ⟨⟨hlen, .inr ⟨w.heap.size, _, _, rfl, hbase, heap_alloc_new w.drew _, hge, hcm, ?_, ?_⟩⟩, ⟨rfl, rfl, rfl, by simp, fun k hk _ => heap_alloc_old w.drew _ hk⟩⟩
    · simp only [Array.size_append, List.size_toArray, size_zeroCells, hzs, hown.1, hl, ← Nat.add_mul]
      congr 1
      omega
    · simp only [Array.toList_append, List.append_assoc]
      rw [← List.append_assoc, ← hlen]
      exact List.take_left
  have runs : ∀ (A : Option Addr) (cap : Nat), cap < n + m → (Builtin.firstCells i.size n (.slice A n cap)).run P w.drew = .ok xs.toArray w.drew → (Builtin.append_ #[t, ti] ty #[.slice A n cap, .int kx m]).run P w =
      .ok (.slice (some ⟨w.heap.size, 0, none⟩) (n + m) (grownCap w (n + m) cap e)) (w.drew.alloc (.cells (xs.toArray ++ news.toArray ++ Builtin.zeroCells z.cells (grownCap w (n + m) cap e - (n + m))) e)) := by
    intro A cap hcap hfo
    have hn : ¬ (n + m ≤ cap) := by omega
    have h63' : ¬ (9223372036854775807 < ((n : Int) + (m : Int))) := by omega
    have hfit := growslice_fits hcap hbytes
    have h48' : ¬ (281474976710656 < Builtin.nextslicecap (n + m) cap * i.bytes) := by omega
    by_cases hm : m = 0
    · have hnl := hnil hm
      subst hm
      rw [hnl]
      simp only [Nat.add_zero] at hn h63' h48' ⊢
      have h63'' : ¬ (9223372036854775807 < (n : Int)) := by omega
      simp [Builtin.append_, run_underlying ht, run_underlying hti, sizeOf, typeInfo, zeroValue, hi, hz, asInt, asIntOf, hw0, hn, h63'', h48', Question.forced, hfo, newRow, grownCap]
    · have hmz : ¬ (m * i.size = 0) := Nat.mul_ne_zero hm hsn
      simp [Builtin.append_, run_underlying ht, run_underlying hti, sizeOf, typeInfo, zeroValue, hi, hz, asInt, asIntOf, hw, hneg, hbig, hn, h63', h48', Question.forced, hfo, newRow, grownCap, hmz, hna]
      congr 2
      apply Array.ext'
      simp [List.append_assoc]
  rcases hown.2 with ⟨rfl, rfl⟩ | ⟨g, cap, cur, rfl, hbg, hg, hnc, hcm, hcs, htake⟩
  · have hx : xs = [] := List.eq_nil_of_length_eq_zero (by simpa using hown.1)
    subst hx
    by_cases hm : m = 0
    · have hnl := hnil hm
      subst hm
      rw [hnl]
      refine ⟨.slice none 0 0, w, ?_, World.ownsRow_nil w base e i.size, ⟨rfl, rfl, rfl, Nat.le_refl _, fun _ _ _ => rfl⟩, Or.inl rfl⟩
      simp [Builtin.append_, run_underlying ht, run_underlying hti, sizeOf, typeInfo, hi, asInt, asIntOf, hw0]
    · have hgr := grown 0 (by omega) (Value.ownBlock (.slice none 0 0))
      exact ⟨_, _, runs none 0 (by omega) (by simp [Builtin.firstCells]), hgr.1, hgr.2, Or.inr rfl⟩
  · by_cases hroom : n + m ≤ cap
    · have hfit : n * i.size + news.length ≤ cur.size := by rw [hl, hcs, ← Nat.add_mul]; exact Nat.mul_le_mul_right _ hroom
      obtain ⟨cur', h3, h4, h5⟩ := setCells_row news (n * i.size) w cur hg hfit
      obtain ⟨s1, s2, s3, s4⟩ := setCells_same g news (n * i.size) w
      have hst := run_storeCells_cells (P := P) g (n * i.size) news 0 w (fun j hj => by rw [cell_of_row w g _ cur e (0, 0) hg]; simp; omega) (fun j _ => blk_frozen hg _) h1
      simp only [Nat.add_zero] at hst
      refine ⟨.slice (some ⟨g, 0, none⟩) (n + m) cap, w.setCells g (n * i.size) news, ?_, ⟨hlen, .inr ⟨g, cap, cur', rfl, hbg, h3, hroom, hcm, by rw [h4, hcs], ?_⟩⟩, ⟨s1, s2, s3, by rw [s4]; exact Nat.le_refl _, fun k _ hk => setCells_far news _ k (fun e => hk (by simp [Value.ownBlock, e]))⟩, Or.inl rfl⟩
      · by_cases hm : m = 0
        · have hnl := hnil hm
          subst hm
          rw [hnl] at hst ⊢
          simp [Builtin.append_, run_underlying ht, run_underlying hti, sizeOf, typeInfo, hi, asInt, asIntOf, hw0, hnc, add_plain, hst]
        · have hmz : ¬ (m * i.size = 0) := Nat.mul_ne_zero hm hsn
          simp [Builtin.append_, run_underlying ht, run_underlying hti, sizeOf, typeInfo, zeroValue, hi, hz, asInt, asIntOf, hw, hneg, hbig, hroom, hmz, hna, add_plain, hst]
      · rw [h5]
        have h6 : cur.toList.take (n * i.size) = xs := htake
        rw [h6, ← hlen]
        exact List.take_left
    · have holds : ∀ j u, xs[j]? = some u → w.cell? ((⟨g, 0, none⟩ : Addr).add j) = some u := hown.cells (g := g) rfl
      have hgr := grown cap (by omega) (Value.ownBlock (.slice (some ⟨g, 0, none⟩) n cap))
      exact ⟨_, _, runs (some ⟨g, 0, none⟩) cap (by omega) (run_firstCells_some (P := P) w.drew i.size n _ n cap xs hown.1 (by simpa using holds)), hgr.1, hgr.2, Or.inr rfl⟩
end
namespace Kd
/-- What zeros are made of. -/
theorem reps_zeros {α : Type} {R : α → List Value → Prop} {z : Value} {size : Nat} {z0 : α} (hz : z.cells.size = size) (hs : 0 < size) (h0 : R z0 z.cells.toList) (m : Nat) : Reps R size (List.replicate m z0) (Builtin.zeroCells z.cells m).toList := by
  have h := reps_made hz hs h0 m
  rw [show Builtin.zeroCells z.cells m = madeCells z.cells (m * size) by unfold Builtin.zeroCells madeCells; rw [hz]]
  exact h
section
variable {P : Program} {ops : Array Oper} {rest : List Oper} {o : Oper} {a : Act} {Q : Exit → Act → World → Prop} {Kc : Act → World → Prop} {α : Type}
theorem R_zeros_run (d : Kd α) {W : World} (base : Nat) (t ti ty e : TypeId) (z : Value) (bytes : Nat) (ht : P.underlying t = some (.slice e)) {k : IntKind} (hti : P.underlying ti = some (.int k)) (hinfo : (P.info? e).map (fun i => (i.zero, i.size, i.bytes)) = some (some z, d.sz, bytes)) (hz : z.cells.size = d.sz) (hs0 : 0 < d.sz) (hb0 : 0 < bytes)
    (v : Value) (xs : List α) (z0 : α) {ok : Nat → Prop} (hzero : d.M W base (fun _ => False) z0 z.cells.toList) (hfresh : ∀ k, W.heap.size ≤ k → ok k) (HO : d.R e W base ok v xs) (kx : IntKind) (n : Int) (h0 : 0 ≤ n) (hl : (xs.length + n.toNat) * bytes ≤ 140737488355328) (hbase : base ≤ W.heap.size) :
    ∃ v1 w1, (Builtin.append_ #[t, ti] ty #[v, .int kx n]).run P W = .ok v1 w1 ∧ d.R e w1 base ok v1 (xs ++ List.replicate n.toNat z0) ∧ W.grownBy w1 v.ownBlock ∧ (v1.ownBlock = v.ownBlock ∨ ∃ b, v1.ownBlock = some b ∧ W.heap.size ≤ b) := by
  obtain ⟨m, rfl⟩ := Int.eq_ofNat_of_zero_le h0
  simp only [Int.toNat_natCast] at hl ⊢
  obtain ⟨i0, hi, hzz⟩ := Option.map_eq_some_iff.1 hinfo
  simp only [Prod.mk.injEq] at hzz
  obtain ⟨hz0, hz1, hz2⟩ := hzz
  obtain ⟨hok, inner, hown, hr⟩ := HO
  have hnM : Reps (d.M W base (fun _ => False)) d.sz (List.replicate m z0) (Builtin.zeroCells z.cells m).toList := reps_zeros hz hs0 hzero m
  obtain ⟨v1, w1, hrun, h2, hg, hat⟩ := run_append_zeros (P := P) W base t ti ty e i0 z d.sz bytes ht hti hi hz0 hz1 hz2 hz hs0 hb0 v xs.length inner hown kx m (reps_one hnM hs0 (fun _ _ hp => d.K_one (d.K_of_M hp))) hl hbase
  have hat' : v1.ownBlock = v.ownBlock ∨ ∃ b, v1.ownBlock = some b ∧ W.heap.size ≤ b := by
    rcases hat with hat | hat
    · exact .inl hat
    · exact .inr ⟨_, hat, Nat.le_refl _⟩
  have hne : ∀ k, some k ≠ v.ownBlock → k < W.heap.size → some k ≠ v1.ownBlock := by
    intro k hk hlt
    rcases hat' with hat | ⟨b, hb, hle⟩
    · rw [hat]; exact hk
    · rw [hb]
      intro he
      injection he with he
      omega
  have step : ∀ {q : α} {c : List Value} {o : Nat → Prop}, d.M W base o q c → (∀ k, o k → ok k ∧ some k ≠ v.ownBlock) → d.M w1 base (fun k => ok k ∧ some k ≠ v1.ownBlock) q c := by
    intro q c o hq ho
    have h1 := d.M_move (w1 := w1) (fun k hk => hg.block k hk.2.2.1 (ho k hk.1).2) (d.M_bound hq)
    exact d.M_mono (fun k hk => ⟨(ho k hk.1).1, hne k (ho k hk.1).2 hk.2.2.1⟩) h1
  refine ⟨v1, w1, hrun, ⟨fun k hk => ?_, inner ++ (Builtin.zeroCells z.cells m).toList, by rw [List.length_append, List.length_replicate]; exact h2, reps_append (hr.imp_ (fun _ _ hq => step hq (fun _ hk => hk))) (hnM.imp_ (fun _ _ hq => step hq (fun _ hk => hk.elim)))⟩, hg, hat'⟩
  rcases hat' with hat | ⟨b, hb, hle⟩
  · exact hok k (hat ▸ hk)
  · rw [hb] at hk
    injection hk with hk
    exact hfresh k (by omega)
/-- append(v, make([]T, n)...): z0's cells are the type's zero's. -/
theorem R_append_zeros (d : Kd α) {w0 W : World} (base : Nat) (hgd : o.guard = none) (s x : Operand) (t ti e : TypeId) (z : Value) (bytes : Nat)
    (ho : o.op = .call { callee := .builtin .append, args := #[s, x], argTypes := #[t, ti] })
    (ht : P.underlying t = some (.slice e)) {k : IntKind} (hti : P.underlying ti = some (.int k)) (hinfo : (P.info? e).map (fun i => (i.zero, i.size, i.bytes)) = some (some z, d.sz, bytes)) (hz : z.cells.size = d.sz) (hs0 : 0 < d.sz) (hb0 : 0 < bytes)
    (v : Value) (xs : List α) (z0 : α) {kx : IntKind} (n : Int) (ok : Nat → Prop) (hs : a.eval s = v) (hx : a.eval x = .int kx n) (hzero : d.M W base (fun _ => False) z0 z.cells.toList) (hfresh : ∀ k, W.heap.size ≤ k → ok k)
    (HO : d.R e W base ok v xs) (h0 : 0 ≤ n) (HB : Below base w0 W) (hbase : base ≤ W.heap.size) (hl : (xs.length + n.toNat) * bytes ≤ 140737488355328)
    (h : ∀ v1 w1, d.R e w1 base ok v1 (xs ++ List.replicate n.toNat z0) → Below base w0 w1 → W.grownBy w1 v.ownBlock → (v1.ownBlock = v.ownBlock ∨ ∃ b, v1.ownBlock = some b ∧ W.heap.size ≤ b) → wpList P ops Q rest (a.put o.dst v1) w1) :
    wpList P ops Q (o :: rest) a W := by
  obtain ⟨v1, w1, hr1, h1, hg, hat⟩ := R_zeros_run (P := P) d base t ti o.type e z bytes ht hti hinfo hz hs0 hb0 v xs z0 hzero hfresh HO kx n h0 hl hbase
  refine wpList_plain hgd fun K hK => ?_
  unfold Oper.wp execOp
  simp only [ho, resolve, invoke, builtin, Sem.run_bind, Sem.run_pure, Result.andThen_ok, List.map_toArray, List.map_cons, List.map_nil, hs, hx, hr1]
  exact hK _ _ (h v1 w1 h1 (HB.grown hg hbase (R_base HO)) hg hat)
theorem R_append_zeros_step (d : Kd α) {w0 W : World} (base : Nat) (hw : Region.wanted o (yielded ops a.tmps) = true) (s x : Operand) (t ti e : TypeId) (z : Value) (bytes : Nat)
    (ho : o.op = .call { callee := .builtin .append, args := #[s, x], argTypes := #[t, ti] })
    (ht : P.underlying t = some (.slice e)) {k : IntKind} (hti : P.underlying ti = some (.int k)) (hinfo : (P.info? e).map (fun i => (i.zero, i.size, i.bytes)) = some (some z, d.sz, bytes)) (hz : z.cells.size = d.sz) (hs0 : 0 < d.sz) (hb0 : 0 < bytes)
    (v : Value) (xs : List α) (z0 : α) {kx : IntKind} (n : Int) (ok : Nat → Prop) (hs : a.eval s = v) (hx : a.eval x = .int kx n) (hzero : d.M W base (fun _ => False) z0 z.cells.toList) (hfresh : ∀ k, W.heap.size ≤ k → ok k)
    (HO : d.R e W base ok v xs) (h0 : 0 ≤ n) (HB : Below base w0 W) (hbase : base ≤ W.heap.size) (hl : (xs.length + n.toNat) * bytes ≤ 140737488355328)
    (h : ∀ v1 w1, d.R e w1 base ok v1 (xs ++ List.replicate n.toNat z0) → Below base w0 w1 → W.grownBy w1 v.ownBlock → (v1.ownBlock = v.ownBlock ∨ ∃ b, v1.ownBlock = some b ∧ W.heap.size ≤ b) → Kc (a.put o.dst v1) w1) :
    if Region.wanted o (yielded ops a.tmps) = true then Oper.wp P o a W Kc Q else Kc (a.put o.dst undef) W := by
  obtain ⟨v1, w1, hr1, h1, hg, hat⟩ := R_zeros_run (P := P) d base t ti o.type e z bytes ht hti hinfo hz hs0 hb0 v xs z0 hzero hfresh HO kx n h0 hl hbase
  rw [if_pos hw]
  unfold Oper.wp execOp
  simp only [ho, resolve, invoke, builtin, Sem.run_bind, Sem.run_pure, Result.andThen_ok, List.map_toArray, List.map_cons, List.map_nil, hs, hx, hr1]
  exact h v1 w1 h1 (HB.grown hg hbase (R_base HO)) hg hat
end
/-- As_ tag; an element without index leads to nothing. -/
def tagO {α : Type} (f : Nat → Nat) (d : Kd α) : Kd (α × Option Nat) where
  sz := d.sz
  E := d.E
  K := fun w x cs => d.K w x.1 cs
  M := fun w base ok x cs => d.M w base (fun k => ok k ∧ some (f k) = x.2) x.1 cs
  K_len := fun h => d.K_len h
  K_one := fun h => d.K_one h
  K_below := fun hb h => d.K_below hb h
  K_of_M := fun h => d.K_of_M h
  M_mono := fun hok h => d.M_mono (fun k hk => ⟨hok k hk.1, hk.2⟩) h
  M_bound := fun h => d.M_mono (fun _ hk => ⟨⟨hk.1.1, hk.2⟩, hk.1.2⟩) (d.M_bound h)
  M_move := fun hm h => d.M_move (fun k hk => hm k hk.1) h
  M_lower := fun hb h => d.M_lower hb h
section
variable {α : Type} {d : Kd α} {e : Nat} {w : World} {base : Nat} {ok : Nat → Prop} {v : Value} {xs : List α}
def zipO (xs : List α) (z : α) (m : Nat) : List (α × Option Nat) := xs.zipIdx.map (fun p => (p.1, some p.2)) ++ List.replicate m (z, none)
theorem zipO_length (xs : List α) (z : α) (m : Nat) : (zipO xs z m).length = (xs ++ List.replicate m z).length := by simp [zipO]
theorem S_zipO {f : Nat → Nat} {z : α} {m : Nat} (h : (tagO f d).R e w base ok v (zipO xs z m)) : S d e w base ok v (xs ++ List.replicate m z) := by
  obtain ⟨h0, inner, ho, hr⟩ := h
  have hl := hr.1
  rw [zipO_length] at ho hl
  refine ⟨f, h0, inner, by rw [List.length_zipIdx]; exact ho, by rw [List.length_zipIdx]; exact hl, fun j p hj => ?_⟩
  rw [List.getElem?_zipIdx, Nat.zero_add] at hj
  obtain ⟨x, hx, rfl⟩ := Option.map_eq_some_iff.1 hj
  rcases Nat.lt_or_ge j xs.length with hlt | hge
  · rw [List.getElem?_append_left hlt] at hx
    have h2 := hr.2 j (x, some j) (by
      unfold zipO
      rw [List.getElem?_append_left (by simpa using hlt), List.getElem?_map, zip_at hx]
      rfl)
    exact d.M_mono (fun k hk => ⟨hk.1, by have := hk.2; simpa using this⟩) h2
  · rw [List.getElem?_append_right hge] at hx
    have hxz : z = x := by
      have := (List.getElem?_eq_some_iff.1 hx).2
      simpa using this
    subst hxz
    have hjm := (List.getElem?_eq_some_iff.1 hx).1
    have h2 := hr.2 j (z, none) (by
      unfold zipO
      rw [List.getElem?_append_right (by simpa using hge)]
      rw [List.getElem?_replicate]
      rw [List.length_replicate] at hjm
      rw [if_pos (by simpa using hjm)])
    exact d.M_mono (fun k hk => absurd hk.2 (by simp)) h2
theorem R_zipO (h : S d e w base ok v xs) : ∃ f, (tagO f d).R e w base ok v (xs.zipIdx.map (fun p => (p.1, some p.2))) := by
  obtain ⟨f, h0, inner, ho, hr⟩ := h
  refine ⟨f, h0, inner, by rw [List.length_map]; exact ho, by rw [List.length_map]; exact hr.1, fun j p hj => ?_⟩
  rw [List.getElem?_map] at hj
  obtain ⟨q, hq, rfl⟩ := Option.map_eq_some_iff.1 hj
  exact d.M_mono (fun k hk => ⟨hk.1, by have : f k = q.2 := hk.2; show some (f k) = some q.2; rw [this]⟩) (hr.2 j q hq)
end
section
variable {P : Program} {ops : Array Oper} {rest : List Oper} {o : Oper} {a : Act} {Q : Exit → Act → World → Prop} {Kc : Act → World → Prop} {α : Type}
theorem S_append_zeros (d : Kd α) {w0 W : World} (base : Nat) (hgd : o.guard = none) (s x : Operand) (t ti e : TypeId) (z : Value) (bytes : Nat)
    (ho : o.op = .call { callee := .builtin .append, args := #[s, x], argTypes := #[t, ti] })
    (ht : P.underlying t = some (.slice e)) {k : IntKind} (hti : P.underlying ti = some (.int k)) (hinfo : (P.info? e).map (fun i => (i.zero, i.size, i.bytes)) = some (some z, d.sz, bytes)) (hz : z.cells.size = d.sz) (hs0 : 0 < d.sz) (hb0 : 0 < bytes)
    (v : Value) (xs : List α) (z0 : α) {kx : IntKind} (n : Int) (ok : Nat → Prop) (hs : a.eval s = v) (hx : a.eval x = .int kx n) (hzero : d.M W base (fun _ => False) z0 z.cells.toList) (hfresh : ∀ k, W.heap.size ≤ k → ok k)
    (HO : S d e W base ok v xs) (h0 : 0 ≤ n) (HB : Below base w0 W) (hbase : base ≤ W.heap.size) (hl : (xs.length + n.toNat) * bytes ≤ 140737488355328)
    (h : ∀ v1 w1, S d e w1 base ok v1 (xs ++ List.replicate n.toNat z0) → Below base w0 w1 → W.grownBy w1 v.ownBlock → (v1.ownBlock = v.ownBlock ∨ ∃ b, v1.ownBlock = some b ∧ W.heap.size ≤ b) → wpList P ops Q rest (a.put o.dst v1) w1) :
    wpList P ops Q (o :: rest) a W := by
  obtain ⟨f, HR⟩ := R_zipO HO
  refine R_append_zeros (tagO f d) base hgd s x t ti e z bytes ho ht hti hinfo hz hs0 hb0 v _ (z0, none) n ok hs hx (d.M_mono (fun _ hk => hk.elim) hzero) hfresh HR h0 HB hbase (by rw [List.length_map, List.length_zipIdx]; exact hl) ?_
  intro v1 w1 hr
  exact h v1 w1 (S_zipO (f := f) hr)
theorem S_append_zeros_step (d : Kd α) {w0 W : World} (base : Nat) (hw : Region.wanted o (yielded ops a.tmps) = true) (s x : Operand) (t ti e : TypeId) (z : Value) (bytes : Nat)
    (ho : o.op = .call { callee := .builtin .append, args := #[s, x], argTypes := #[t, ti] })
    (ht : P.underlying t = some (.slice e)) {k : IntKind} (hti : P.underlying ti = some (.int k)) (hinfo : (P.info? e).map (fun i => (i.zero, i.size, i.bytes)) = some (some z, d.sz, bytes)) (hz : z.cells.size = d.sz) (hs0 : 0 < d.sz) (hb0 : 0 < bytes)
    (v : Value) (xs : List α) (z0 : α) {kx : IntKind} (n : Int) (ok : Nat → Prop) (hs : a.eval s = v) (hx : a.eval x = .int kx n) (hzero : d.M W base (fun _ => False) z0 z.cells.toList) (hfresh : ∀ k, W.heap.size ≤ k → ok k)
    (HO : S d e W base ok v xs) (h0 : 0 ≤ n) (HB : Below base w0 W) (hbase : base ≤ W.heap.size) (hl : (xs.length + n.toNat) * bytes ≤ 140737488355328)
    (h : ∀ v1 w1, S d e w1 base ok v1 (xs ++ List.replicate n.toNat z0) → Below base w0 w1 → W.grownBy w1 v.ownBlock → (v1.ownBlock = v.ownBlock ∨ ∃ b, v1.ownBlock = some b ∧ W.heap.size ≤ b) → Kc (a.put o.dst v1) w1) :
    if Region.wanted o (yielded ops a.tmps) = true then Oper.wp P o a W Kc Q else Kc (a.put o.dst undef) W := by
  obtain ⟨f, HR⟩ := R_zipO HO
  refine R_append_zeros_step (tagO f d) base hw s x t ti e z bytes ho ht hti hinfo hz hs0 hb0 v _ (z0, none) n ok hs hx (d.M_mono (fun _ hk => hk.elim) hzero) hfresh HR h0 HB hbase (by rw [List.length_map, List.length_zipIdx]; exact hl) ?_
  intro v1 w1 hr
  exact h v1 w1 (S_zipO (f := f) hr)
end
end Kd
end Go.Proofs.YtnbkmaghdbhlnaaDoorW.PrintWords

end

section
namespace Go.Proofs.YtnbkmaghdbhlnaaDoorW.PrintWords
open Go.RowKit
namespace Kd
/-- What a kind reads lies in the blocks: nothing else of the world is looked at. -/
structure Heap {α : Type} (d : Kd α) : Prop where
  K : ∀ {w w1 : World} {x : α} {cs : List Value}, (∀ k, k < w.heap.size → w1.heap[k]? = w.heap[k]?) → d.K w x cs → d.K w1 x cs
theorem cell_heap {w w1 : World} (hb : ∀ k, k < w.heap.size → w1.heap[k]? = w.heap[k]?) {a : Addr} {v : Value} (h : w.cell? a = some v) : w1.cell? a = some v := by
  have := hb a.block (World.block_lt_of_cell? w a h)
  simpa [World.cell?, this] using h
theorem Heap.C {α : Type} {d : Kd α} (hd : Heap d) {w w1 : World} {A : Option Addr} {n : Nat} {xs : List α} (hb : ∀ k, k < w.heap.size → w1.heap[k]? = w.heap[k]?) (h : d.C w A n xs) : d.C w1 A n xs :=
  ⟨h.1, h.2.1, fun hn => by
    obtain ⟨ad, e, hc⟩ := h.2.2 hn
    refine ⟨ad, e, fun j p hj => ?_⟩
    obtain ⟨c, hs, hr, hcell⟩ := hc j p hj
    exact ⟨c, hs, hd.K hb hr, fun i u hu => cell_heap hb (hcell i u hu)⟩⟩
theorem heap_scalar {α : Type} {enc : α → Value} {h1 : ∀ x, (enc x).oneCell' = true} : Heap (scalar enc h1) := ⟨fun _ h => h⟩
theorem heap_int (k : IntKind) : Heap (Kd.int k) := ⟨fun _ h => h⟩
theorem heap_bool : Heap Kd.bool := ⟨fun _ h => h⟩
theorem heap_string : Heap Kd.string := ⟨fun _ h => h⟩
theorem heap_slice {α : Type} {d : Kd α} (e : Nat) (hd : Heap d) : Heap (slice e d) := ⟨by
  rintro w w1 x cs hb ⟨A, c, rfl, hl, hr⟩
  exact ⟨A, c, rfl, hl, hd.C hb hr⟩⟩
theorem heap_pair {α β : Type} {a : Kd α} {b : Kd β} (ha : Heap a) (hb' : Heap b) : Heap (pair a b) := ⟨by
  rintro w w1 x cs hb ⟨c0, c1, rfl, h0, h1⟩
  exact ⟨c0, c1, rfl, ha.K hb h0, hb'.K hb h1⟩⟩
theorem heap_iso {α β : Type} {d : Kd α} (f : β → α) (hd : Heap d) : Heap (iso d f) := ⟨fun hb h => hd.K hb h⟩
theorem heap_bot {α : Type} (sz : Nat) (E : List Nat) : Heap (bot sz E : Kd α) := ⟨fun _ h => h⟩
theorem heap_upto {α : Type} {F : Kd α → Kd α} {sz : Nat} {E : List Nat} (hF : ∀ d, Heap d → Heap (F d)) : ∀ n, Heap (upto F sz E n)
  | 0 => heap_bot sz E
  | n + 1 => hF _ (heap_upto hF n)
theorem heap_fix {α : Type} {F : Kd α → Kd α} {sz : Nat} {E : List Nat} {hs : ∀ n, (upto F sz E n).sz = sz} {hE : ∀ n q, q ∈ (upto F sz E n).E → q ∈ E} (hF : ∀ d, Heap d → Heap (F d)) : Heap (fix F sz E hs hE) := ⟨by
  rintro w w1 x cs hb ⟨n, h⟩
  exact ⟨n, (heap_upto hF n).K hb h⟩⟩
theorem heap_arr {α : Type} {n : Nat} {d : Kd α} {hs : 0 < d.sz} (hd : Heap d) : Heap (arr n d hs) := ⟨fun hb h => ⟨h.1, h.2.imp_ (fun _ _ hk => hd.K hb hk)⟩⟩
section
variable {α : Type} {d : Kd α} {e base g n c : Nat} {ok : Nat → Prop} {w w0 W : World} {A : Option Addr} {xs : List α}
/-- A row of the call's own, apart from the state's block. -/
theorem C_foot_own (h : d.R e W base ok (.slice A n c) xs) (hok : ∀ k, ok k → k ≠ g) : ∀ W', KeepBut W W' g none → d.C W' A n xs := fun W' hk => by
  have h2 := R_reads' (R_keep h hk hok)
  rw [h2.1]
  exact h2.2.2
theorem C_foot_ownQ (h : d.Q e W base ok (.slice A n c) xs) (hok : ∀ k, ok k → k ≠ g) : ∀ W', KeepBut W W' g none → d.C W' A n xs := fun W' hk => by
  have h2 := Q_reads' (Q_step h (w1 := W') (fun k ho hlt => hk.2 k hlt (hok k ho) (by simp)))
  rw [h2.1]
  exact h2.2.2
/-- A row that came in. -/
theorem C_foot_came (hd : Heap d) (h : d.C w0 A n xs) (hb : Below w0.heap.size w0 W) (hg : w0.heap.size ≤ g) : ∀ W', KeepBut W W' g none → d.C W' A n xs := fun W' hk =>
  hd.C (fun k hlt => (hk.2 k (Nat.lt_of_lt_of_le hlt hb.size) (by omega) (by simp)).trans (hb.block k hlt)) h
/-- A row told so before: it is so from a later world on too. -/
theorem C_foot_step (h : ∀ W', KeepBut w W' g none → d.C W' A n xs) (hk : KeepBut w W g none) : ∀ W', KeepBut W W' g none → d.C W' A n xs := fun W' hk' => h W' (hk.trans hk' (.inl rfl))
theorem C_foot_now (h : ∀ W', KeepBut w W' g none → d.C W' A n xs) (hk : KeepBut w W g none) : d.C W A n xs := h W hk
theorem C_foot_nil : ∀ W', KeepBut W W' g none → d.C W' none ([] : List α).length [] := fun W' _ => C_nil d W'
end
/-- What came in stays where it lies elsewhere than the state's block. -/
theorem keep_heap {w0 W W' : World} {g : Nat} (hb : Below w0.heap.size w0 W) (hk : KeepBut W W' g none) (hg : w0.heap.size ≤ g) : ∀ k, k < w0.heap.size → W'.heap[k]? = w0.heap[k]? :=
  fun k hlt => (hk.2 k (Nat.lt_of_lt_of_le hlt hb.size) (by omega) (by simp)).trans (hb.block k hlt)
end Kd
end Go.Proofs.YtnbkmaghdbhlnaaDoorW.PrintWords

end

section
namespace Go.Proofs.YtnbkmaghdbhlnaaDoorW.PrintWords
open Go.RowKit
def Kept (w W : World) (S : Nat → Prop) : Prop := w.heap.size ≤ W.heap.size ∧ ∀ i, i < w.heap.size → ¬ S i → W.heap[i]? = w.heap[i]?
section
variable {w W W2 : World} {S S2 S' : Nat → Prop}
theorem Kept.refl (w : World) (S : Nat → Prop) : Kept w w S := ⟨Nat.le_refl _, fun _ _ _ => rfl⟩
theorem Kept.of_below (h : Below w.heap.size w W) (S : Nat → Prop) : Kept w W S := ⟨h.size, fun i hi _ => h.block i hi⟩
theorem Kept.mono (h : Kept w W S) (hs : ∀ k, S k → S' k) : Kept w W S' := ⟨h.1, fun i hi hn => h.2 i hi (fun hk => hn (hs i hk))⟩
theorem Kept.then_ (h : Kept w W S) (k : Kept W W2 S2) (hs : ∀ k, S2 k → S k ∨ w.heap.size ≤ k) : Kept w W2 S :=
  ⟨Nat.le_trans h.1 k.1, fun i hi hn => (k.2 i (Nat.lt_of_lt_of_le hi h.1) (fun h2 => (hs i h2).elim hn (fun h3 => by omega))).trans (h.2 i hi hn)⟩
theorem Kept.of_grown {row : Option Nat} (hg : W.grownBy W2 row) (h : Kept w W S) (hr : ∀ k, row = some k → S k ∨ w.heap.size ≤ k) : Kept w W2 S :=
  h.then_ (S2 := fun k => row = some k) ⟨hg.size, fun i hi hn => hg.block i hi (fun he => hn he.symm)⟩ hr
theorem Kept.below (h : Kept w W S) (hb : Below W.heap.size W W2) : Kept w W2 S := h.then_ (Kept.of_below hb (fun _ => False)) (fun _ hk => hk.elim)
theorem Kept.alloc (h : Kept w W S) (o : Obj) : Kept w (W.alloc o) S := h.below (below_alloc (Below.refl _ _) o)
theorem Kept.drew (h : Kept w W S) : Kept w W.drew S := h
theorem Kept.drewN (h : Kept w W S) (m : Nat) : Kept w (W.drewN m) S := h
theorem Kept.setCell (h : Kept w W S) {p : Addr} (hp : S p.block ∨ w.heap.size ≤ p.block) (u : Value) : Kept w (W.setCell p u) S :=
  h.then_ (S2 := fun k => k = p.block) ⟨by simp [World.setCell], fun i _ hn => Below.heap_setCell W p u i hn⟩ (fun k hk => by rw [hk]; exact hp)
/-- A state's call that keeps all but the state's block. -/
theorem Kept.of_keep {g : Nat} (h : Kept w W S) (k : KeepBut W W2 g none) (hg : S g ∨ w.heap.size ≤ g) : Kept w W2 S :=
  h.then_ (S2 := fun k => k = g) ⟨k.1, fun i hi hn => k.2 i hi hn (by simp)⟩ (fun k hk => by rw [hk]; exact hg)
/-- Beside a state: what was written is new since. -/
theorem Kept.keep {g : Nat} (h : KeepBut w W g none) (k : Kept W W2 S2) (hs : ∀ k, S2 k → w.heap.size ≤ k) : KeepBut w W2 g none :=
  ⟨Nat.le_trans h.1 k.1, fun i hi hg hr => (k.2 i (Nat.lt_of_lt_of_le hi h.1) (fun h2 => by have := hs i h2; omega)).trans (h.2 i hi hg hr)⟩
theorem cell_kept {a : Addr} {v : Value} (hc : W.cell? a = some v) (hk : Kept W W2 S) (hne : ¬ S a.block) : W2.cell? a = some v := by
  have := hk.2 a.block (World.block_lt_of_cell? W a hc) hne
  simpa [World.cell?, this] using hc
end
namespace Kd
section
variable {α : Type} {d : Kd α} {e base n c : Nat} {ok oki S S2 : Nat → Prop} {w w0 W W1 W2 : World} {v : Value} {A : Option Addr} {xs : List α} {i : Int} {cs : List Value}
theorem R_kept (h : d.R e W base ok v xs) (hk : Kept W W2 S) (hne : ∀ k, ok k → ¬ S k) : d.R e W2 base ok v xs := R_step h (fun k ho hlt => hk.2 k hlt (hne k ho))
theorem Q_kept (h : d.Q e W base ok v xs) (hk : Kept W W2 S) (hne : ∀ k, ok k → ¬ S k) : d.Q e W2 base ok v xs := Q_step h (fun k ho hlt => hk.2 k hlt (hne k ho))
theorem S_kept (h : Kd.S d e W base ok v xs) (hk : Kept W W2 S) (hne : ∀ k, ok k → ¬ S k) : Kd.S d e W2 base ok v xs := S_step h (fun k ho hlt => hk.2 k hlt (hne k ho))
theorem H_kept (h : Kd.H d e W base ok v xs i oki cs) (hk : Kept W W2 S) (hne : ∀ k, ok k → ¬ oki k → ¬ S k) : Kd.H d e W2 base ok v xs i oki cs := H_step h (fun k ho hn hlt => hk.2 k hlt (hne k ho hn))
theorem M_kept {x : α} (h : d.M W base ok x cs) (hk : Kept W W2 S) (hne : ∀ k, ok k → ¬ S k) : d.M W2 base ok x cs := M_step h (fun k ho hlt => hk.2 k hlt (hne k ho))
/-- A row of the call's own, apart from what is written. -/
theorem C_kept_own (h : d.R e W base ok (.slice A n c) xs) (hok : ∀ k, ok k → ¬ S k) : ∀ W', Kept W W' S → d.C W' A n xs := fun W' hk => by
  have h2 := R_reads' (R_kept h hk hok)
  rw [h2.1]
  exact h2.2.2
theorem C_kept_ownQ (h : d.Q e W base ok (.slice A n c) xs) (hok : ∀ k, ok k → ¬ S k) : ∀ W', Kept W W' S → d.C W' A n xs := fun W' hk => by
  have h2 := Q_reads' (Q_kept h hk hok)
  rw [h2.1]
  exact h2.2.2
/-- A row that came in. -/
theorem C_kept_came (hd : Heap d) (h : d.C w0 A n xs) (hb : Below w0.heap.size w0 W) (hS : ∀ k, S k → w0.heap.size ≤ k) : ∀ W', Kept W W' S → d.C W' A n xs := fun W' hk =>
  hd.C (fun k hlt => (hk.2 k (Nat.lt_of_lt_of_le hlt hb.size) (fun h2 => by have := hS k h2; omega)).trans (hb.block k hlt)) h
/-- A row told so before: it is so from a later world on too. -/
theorem C_kept_step (h : ∀ W', Kept w W' S → d.C W' A n xs) (hk : Kept w W S) : ∀ W', Kept W W' S → d.C W' A n xs := fun W' hk' => h W' (hk.then_ hk' (fun _ h2 => .inl h2))
/-- .. and at a call that writes less. -/
theorem C_kept_call (h : ∀ W', Kept w W' S → d.C W' A n xs) (hk : Kept w W S) (hs : ∀ k, S2 k → S k ∨ w.heap.size ≤ k) : ∀ W', Kept W W' S2 → d.C W' A n xs := fun W' hk' => h W' (hk.then_ hk' hs)
theorem C_kept_now (h : ∀ W', Kept w W' S → d.C W' A n xs) (hk : Kept w W S) : d.C W A n xs := h W hk
theorem C_kept_nil : ∀ W', Kept W W' S → d.C W' none ([] : List α).length [] := fun W' _ => C_nil d W'
/-- What was made since is the call's own to hand back. -/
theorem R_mine (h : d.R e W1 W.heap.size ok v xs) (hle : w.heap.size ≤ W.heap.size) : d.R e W1 W.heap.size (fun k => (S k ∨ w.heap.size ≤ k) ∧ ok k) v xs := R_mono (R_bound h) (fun _ hk => ⟨.inr (Nat.le_trans hle hk.2.1), hk.1⟩)
theorem Q_mine (h : d.Q e W1 W.heap.size ok v xs) (hle : w.heap.size ≤ W.heap.size) : d.Q e W1 W.heap.size (fun k => (S k ∨ w.heap.size ≤ k) ∧ ok k) v xs := Q_mono (Q_bound h) (fun _ hk => ⟨.inr (Nat.le_trans hle hk.2.1), hk.1⟩)
theorem S_mine (h : Kd.S d e W1 W.heap.size ok v xs) (hle : w.heap.size ≤ W.heap.size) : Kd.S d e W1 W.heap.size (fun k => (S k ∨ w.heap.size ≤ k) ∧ ok k) v xs := S_mono (S_bound h) (fun _ hk => ⟨.inr (Nat.le_trans hle hk.2.1), hk.1⟩)
end
end Kd
end Go.Proofs.YtnbkmaghdbhlnaaDoorW.PrintWords

end

section
namespace Go.Proofs.YtnbkmaghdbhlnaaDoorW.PrintWords
open Go.RowKit
/-- P holds in W and in every world that has W's blocks of ok. -/
def Foot (P : World → Prop) (W : World) (ok : Nat → Prop) : Prop := ∀ W' : World, (∀ k, ok k → k < W.heap.size → W'.heap[k]? = W.heap[k]?) → P W'
theorem heap_lt {W W1 : World} {k : Nat} (h : W1.heap[k]? = W.heap[k]?) (hlt : k < W.heap.size) : k < W1.heap.size := by
  rw [Array.getElem?_eq_getElem hlt] at h
  exact (Array.getElem?_eq_some_iff.1 h).1
namespace Foot
variable {P Q : World → Prop} {W W1 : World} {ok ok' : Nat → Prop}
theorem now (h : Foot P W ok) : P W := h W (fun _ _ _ => rfl)
theorem mono (h : Foot P W ok) (hok : ∀ k, ok k → ok' k) : Foot P W ok' := fun W' hW => h W' (fun k hk hlt => hW k (hok k hk) hlt)
theorem bound (h : Foot P W ok) : Foot P W (fun k => ok k ∧ k < W.heap.size) := fun W' hW => h W' (fun k hk hlt => hW k ⟨hk, hlt⟩ hlt)
theorem step (h : Foot P W ok) (hm : ∀ k, ok k → k < W.heap.size → W1.heap[k]? = W.heap[k]?) : Foot P W1 ok := fun W' hW => h W' (fun k hk hlt => (hW k hk (heap_lt (hm k hk hlt) hlt)).trans (hm k hk hlt))
theorem imp (h : Foot P W ok) (hi : ∀ W', P W' → Q W') : Foot Q W ok := fun W' hW => hi W' (h W' hW)
/-- Moved, and still elder than what is new since W. -/
theorem old (h : Foot P W ok) (hb : Below W.heap.size W W1) : Foot P W1 (fun k => ok k ∧ k < W.heap.size) := (h.bound).step (fun k _ hlt => hb.block k hlt)
end Foot
namespace Kd
/-- A row that is only read: what it leads to lies in ok. -/
def F {α : Type} (d : Kd α) (W : World) (ok : Nat → Prop) (A : Option Addr) (n : Nat) (xs : List α) : Prop := Foot (fun W => d.C W A n xs) W ok
/-- An element's cells: what they lead to lies in ok. -/
def FK {α : Type} (d : Kd α) (W : World) (ok : Nat → Prop) (x : α) (c : List Value) : Prop := Foot (fun W => d.K W x c) W ok
section
variable {α β : Type} {d : Kd α} {e base n n' cc g N : Nat} {ok ok' okp S : Nat → Prop} {w w0 w1 W W1 : World} {A A' : Option Addr} {u v v1 : Value} {xs : List α} {xs' : List β} {d' : Kd β} {x : α} {c : List Value}
theorem F_now (h : F d W ok A n xs) : d.C W A n xs := Foot.now h
theorem F_mono (h : F d W ok A n xs) (hok : ∀ k, ok k → ok' k) : F d W ok' A n xs := Foot.mono h hok
theorem F_bound (h : F d W ok A n xs) : F d W (fun k => ok k ∧ k < W.heap.size) A n xs := Foot.bound h
theorem F_step (h : F d W ok A n xs) (hm : ∀ k, ok k → k < W.heap.size → W1.heap[k]? = W.heap[k]?) : F d W1 ok A n xs := Foot.step h hm
theorem F_imp (h : F d W ok A n xs) (hi : ∀ W', d.C W' A n xs → d'.C W' A' n' xs') : F d' W ok A' n' xs' := Foot.imp h hi
theorem F_below (h : F d W ok A n xs) (hb : Below W.heap.size W W1) : F d W1 ok A n xs := F_step h (fun k _ hlt => hb.block k hlt)
theorem F_alloc (h : F d W ok A n xs) (o : Obj) : F d (W.alloc o) ok A n xs := F_below h (below_alloc (Below.refl _ _) o)
theorem F_drew (h : F d W ok A n xs) : F d W.drew ok A n xs := F_below h (below_drew (Below.refl _ _))
theorem F_drewN (h : F d W ok A n xs) (m : Nat) : F d (W.drewN m) ok A n xs := F_below h (pw_below_drewN (Below.refl _ _) m)
theorem F_grown (h : F d W ok A n xs) {row : Option Nat} (hg : W.grownBy W1 row) (hok : ∀ k, ok k → some k ≠ row) : F d W1 ok A n xs := F_step h (fun k hk hlt => hg.block k hlt (hok k hk))
theorem F_far (h : F d W ok A n xs) {p : Addr} (hok : ∀ k, ok k → k ≠ p.block) (u : Value) : F d (W.setCell p u) ok A n xs := F_step h (fun k hk _ => Below.heap_setCell W p u k (hok k hk))
theorem F_keep (h : F d W ok A n xs) (hk : KeepBut W W1 g none) (hok : ∀ k, ok k → k ≠ g) : F d W1 ok A n xs := F_step h (fun k ho hlt => hk.2 k hlt (hok k ho) (by simp))
theorem F_kept (h : F d W ok A n xs) (hk : Kept W W1 S) (hok : ∀ k, ok k → ¬ S k) : F d W1 ok A n xs := F_step h (fun k ho hlt => hk.2 k hlt (hok k ho))
theorem F_nil (d : Kd α) (W : World) (ok : Nat → Prop) : F d W ok none ([] : List α).length [] := fun W' _ => C_nil d W'
theorem F_len (h : F d W ok A n xs) : xs.length = n := (F_now h).1
theorem F_max (h : F d W ok A n xs) : n ≤ 9223372036854775807 := (F_now h).2.1
/-- A new row's block is none of an elder one's. -/
theorem F_elder' (h : F d W ok A n xs) (hbase : ∀ k, v.ownBlock = some k → W.heap.size ≤ k) (hb : Below W.heap.size W W1) : F d W1 (fun k => ok k ∧ some k ≠ v.ownBlock) A n xs :=
  F_mono (Foot.old h hb) (fun k hk => ⟨hk.1, fun he => by have := hbase k he.symm; have := hk.2; omega⟩)
theorem F_elderB (h : F d W ok A n xs) (a : Nat) (ha : W.heap.size ≤ a) : F d W (fun k => ok k ∧ k ≠ a) A n xs := F_mono (F_bound h) (fun k hk => ⟨hk.1, by have := hk.2; omega⟩)
/-- Behind an append to v (it left v1): what lies apart from v lies apart from v1. -/
theorem F_after (h : F d W (fun k => ok k ∧ some k ≠ v.ownBlock) A n xs) (hg : W.grownBy W1 v.ownBlock) (hat : v1.ownBlock = v.ownBlock ∨ ∃ b, v1.ownBlock = some b ∧ W.heap.size ≤ b) : F d W1 (fun k => ok k ∧ some k ≠ v1.ownBlock) A n xs := by
  refine F_mono (Foot.step (F_bound h) (fun k hk hlt => hg.block k hlt hk.1.2)) (fun k hk => ⟨hk.1.1, ?_⟩)
  rcases hat with hat | ⟨b, hb, hle⟩
  · rw [hat]; exact hk.1.2
  · rw [hb]
    intro he
    injection he with he
    have := hk.2
    omega
theorem F_old (h : F d W ok A n xs) (hb : Below W.heap.size W W1) : F d W1 (fun k => ok k ∧ k < W.heap.size) A n xs := Foot.old h hb
theorem F_oldK (h : F d W (fun k => ok k ∧ k ≠ g) A n xs) (hk : KeepBut W W1 g none) : F d W1 (fun k => ok k ∧ k < W.heap.size) A n xs :=
  F_mono (F_keep (F_bound h) hk (fun _ hk => hk.1.2)) (fun _ hk => ⟨hk.1.1, hk.2⟩)
theorem F_oldS (h : F d W (fun k => ok k ∧ ¬ S k) A n xs) (hk : Kept W W1 S) : F d W1 (fun k => ok k ∧ k < W.heap.size) A n xs :=
  F_mono (F_kept (F_bound h) hk (fun _ hk => hk.1.2)) (fun _ hk => ⟨hk.1.1, hk.2⟩)
theorem F_told (h : F d W1 (fun k => ok k ∧ k < N) A n xs) (hbase : ∀ k, v.ownBlock = some k → N ≤ k) : F d W1 (fun k => (ok k ∧ some k ≠ v.ownBlock) ∧ k < N) A n xs :=
  F_mono h (fun k hk => ⟨⟨hk.1, fun he => Nat.lt_irrefl _ (Nat.lt_of_lt_of_le hk.2 (hbase k he.symm))⟩, hk.2⟩)
theorem F_apart_nil (h : F d W ok A n xs) : F d W (fun k => ok k ∧ some k ≠ (Value.slice none 0 0).ownBlock) A n xs := F_mono h (fun k hk => ⟨hk, by simp [Value.ownBlock]⟩)
theorem F_drop (h : F d W (fun k => ok k ∧ ok' k) A n xs) : F d W ok A n xs := F_mono h (fun _ hk => hk.1)
/-- What came in, a row of the call's own. -/
theorem C_F (hd : Heap d) (h : d.C w A n xs) : F d w (fun k => k < w.heap.size) A n xs := fun _ hW => hd.C (fun k hlt => hW k hlt hlt) h
theorem R_F (h : d.R e W base ok (.slice A n cc) xs) : F d W ok A n xs := fun W' hW => by
  have h2 := R_reads' (R_step h hW)
  rw [h2.1]
  exact h2.2.2
theorem S_F (h : Kd.S d e W base ok (.slice A n cc) xs) : F d W ok A n xs := R_F (S_R h)
theorem Q_F (h : d.Q e W base ok (.slice A n cc) xs) : F d W ok A n xs := fun W' hW => by
  have h2 := Q_reads' (Q_step h hW)
  rw [h2.1]
  exact h2.2.2
/-- The same of an element's cells. -/
theorem FK_now (h : FK d W ok x c) : d.K W x c := Foot.now h
theorem FK_mono (h : FK d W ok x c) (hok : ∀ k, ok k → ok' k) : FK d W ok' x c := Foot.mono h hok
theorem FK_bound (h : FK d W ok x c) : FK d W (fun k => ok k ∧ k < W.heap.size) x c := Foot.bound h
theorem FK_step (h : FK d W ok x c) (hm : ∀ k, ok k → k < W.heap.size → W1.heap[k]? = W.heap[k]?) : FK d W1 ok x c := Foot.step h hm
theorem FK_below (h : FK d W ok x c) (hb : Below W.heap.size W W1) : FK d W1 ok x c := FK_step h (fun k _ hlt => hb.block k hlt)
theorem FK_grown (h : FK d W ok x c) {row : Option Nat} (hg : W.grownBy W1 row) (hok : ∀ k, ok k → some k ≠ row) : FK d W1 ok x c := FK_step h (fun k hk hlt => hg.block k hlt (hok k hk))
theorem FK_of_M (h : d.M W base ok x c) : FK d W ok x c := fun _ hW => d.K_of_M (M_step h hW)
/-- A block that is emptied reads no more. -/
theorem emptied (W : World) (g : Nat) : ∃ W' : World, (∀ k, k ≠ g → W'.heap[k]? = W.heap[k]?) ∧ ∀ a : Addr, a.block = g → W'.cell? a = none := by
  refine ⟨{ W with heap := W.heap.setIfInBounds g (.cells #[] 0) }, fun k hk => by simp [Ne.symm hk], fun a ha => ?_⟩
  subst ha
  by_cases hlt : a.block < W.heap.size
  · simp [World.cell?, hlt]
  · simp [World.cell?, hlt]
end
end Kd
end Go.Proofs.YtnbkmaghdbhlnaaDoorW.PrintWords

end

section
namespace Go.Proofs.YtnbkmaghdbhlnaaDoorW.PrintWords
open Go.RowKit
namespace Kd
/-- The cells one behind the other, element by element. -/
def chunks (sz : Nat) (n : Nat) (inner : List Value) : List (List Value) := (List.range n).map fun j => (inner.drop (j * sz)).take sz
theorem chunks_length (sz n : Nat) (inner : List Value) : (chunks sz n inner).length = n := by simp [chunks]
theorem chunks_at {sz n : Nat} {inner : List Value} {j : Nat} (hj : j < n) : (chunks sz n inner)[j]? = some ((inner.drop (j * sz)).take sz) := by simp [chunks, hj]
theorem chunks_get {sz n : Nat} {inner : List Value} {j : Nat} {c : List Value} (h : (chunks sz n inner)[j]? = some c) : c = (inner.drop (j * sz)).take sz := by
  have hj : j < n := by have := (List.getElem?_eq_some_iff.1 h).1; rwa [chunks_length] at this
  rw [chunks_at hj] at h
  injection h with h
  exact h.symm
theorem reps_raw {α : Type} {Rr : α → List Value → Prop} {sz : Nat} {xs : List α} {inner : List Value} (h : Reps Rr sz xs inner) (hR : ∀ x c, Rr x c → c.length = sz ∧ ∀ u ∈ c, u.oneCell' = true) : Reps (fun x cs => cs = x ∧ cs.length = sz ∧ ∀ u ∈ cs, u.oneCell' = true) sz (chunks sz xs.length inner) inner := by
  refine ⟨by rw [chunks_length]; exact h.1, fun j p hj => ?_⟩
  have hjl : j < xs.length := by have := (List.getElem?_eq_some_iff.1 hj).1; rwa [chunks_length] at this
  have hp := chunks_get hj
  exact ⟨hp.symm, hR _ _ (h.2 j _ (List.getElem?_eq_getElem hjl))⟩
section
variable {α : Type} {d : Kd α} {e base n cc g : Nat} {ok ok' okp S : Nat → Prop} {w w1 W W1 : World} {A : Option Addr} {u v v1 : Value} {xs : List α} {x : α} {c : List Value}
/-- Element i of a row that is read: its cells, and what they lead to, in ok. -/
theorem F_get (h : F d W ok A n xs) (z : α) (i : Int) (h0 : 0 ≤ i) (h1 : i < n) :
    ∃ ad c, A = some ad ∧ c.length = d.sz ∧ FK d W ok (xs.getD i.toNat z) c ∧ (∀ j u, c[j]? = some u → W.cell? (ad.add (i.toNat * d.sz + j)) = some u) ∧ (0 < d.sz → ok ad.block) := by
  obtain ⟨ad, c, rfl, hcl, hK, hcc⟩ := C_get (F_now h) z i h0 h1
  have hin : 0 < d.sz → ok ad.block := by
    intro hs
    by_cases hk : ok ad.block
    · exact hk
    · obtain ⟨W', h2, h3⟩ := emptied W ad.block
      obtain ⟨ad', c', he, hcl', _, hcc'⟩ := C_get (h W' (fun k hk' _ => h2 k (fun e => hk (e ▸ hk')))) z i h0 h1
      injection he with he
      subst he
      have h4 := hcc' 0 _ (List.getElem?_eq_getElem (by omega))
      rw [h3 _ (add_block _ _)] at h4
      cases h4
  refine ⟨ad, c, rfl, hcl, fun W' hW => ?_, hcc, hin⟩
  obtain ⟨ad', c', he, hcl', hK', hcc'⟩ := C_get (h W' hW) z i h0 h1
  injection he with he
  subst he
  have hc : c = c' := by
    apply List.ext_getElem?
    intro j
    by_cases hj : j < d.sz
    · have hb : W'.heap[ad.block]? = W.heap[ad.block]? := by
        have h5 := hcc j _ (List.getElem?_eq_getElem (by omega))
        have h6 := World.block_lt_of_cell? W _ h5
        rw [add_block] at h6
        exact hW _ (hin (by omega)) h6
      have h5 := hcc j _ (List.getElem?_eq_getElem (by omega))
      have h6 := hcc' j _ (List.getElem?_eq_getElem (by omega))
      have h7 : W'.cell? (ad.add (i.toNat * d.sz + j)) = W.cell? (ad.add (i.toNat * d.sz + j)) := by simp [World.cell?, add_block, hb]
      rw [h7, h5] at h6
      rw [List.getElem?_eq_getElem (by omega), List.getElem?_eq_getElem (by omega)]
      exact h6
    · rw [List.getElem?_eq_none (by omega), List.getElem?_eq_none (by omega)]
  rw [hc]
  exact hK'
/-- .. as_ a row of such elements. -/
theorem F_rows (h : F d W ok A n xs) : ReadsRow (fun x c => FK d W ok x c) d.sz W A n xs := by
  obtain ⟨hl, hm, hn⟩ := F_now h
  refine ⟨hl, hm, fun hp => ?_⟩
  obtain ⟨ad, rfl, _⟩ := hn hp
  refine ⟨ad, rfl, fun j p hj => ?_⟩
  obtain ⟨hjl, hjp⟩ := List.getElem?_eq_some_iff.1 hj
  obtain ⟨ad', c, he, hcl, hK, hcc, _⟩ := F_get h p (j : Int) (by omega) (by omega)
  injection he with he
  subst he
  simp only [Int.toNat_natCast] at hK hcc
  rw [List.getD_eq_getElem?_getD, hj] at hK
  exact ⟨c, hcl, hK, hcc⟩
/-- A row of elements (type e) of the call's own; what the elements lead to is only read, and is not this row. -/
def N {α : Type} (d : Kd α) (e : Nat) (w : World) (base : Nat) (ok : Nat → Prop) (v : Value) (xs : List α) : Prop :=
  (∀ k, v.ownBlock = some k → ok k) ∧ ∃ rows : List (List Value), rows.length = xs.length ∧ (raw d.sz).R e w base (fun k => some k = v.ownBlock) v rows ∧ ∀ (j : Nat) (x : α) (c : List Value), xs[j]? = some x → rows[j]? = some c → FK d w (fun k => ok k ∧ some k ≠ v.ownBlock) x c
theorem raw_tight {sz : Nat} {rows : List (List Value)} (h : (raw sz).R e w base ok v rows) : (raw sz).R e w base (fun k => some k = v.ownBlock) v rows := R_tight rfl h
theorem raw_any {sz : Nat} {rows : List (List Value)} (h : (raw sz).R e w base ok v rows) : (raw sz).R e w base (fun _ => True) v rows := R_mono h (fun _ _ => trivial)
theorem R_N (h : d.R e w base ok v xs) : N d e w base ok v xs := by
  obtain ⟨h0, inner, ho, hr⟩ := h
  refine ⟨h0, chunks d.sz xs.length inner, chunks_length _ _ _, ⟨fun k hk => hk.symm, inner, by rw [chunks_length]; exact ho, reps_raw hr (fun x c hp => ⟨d.K_len (d.K_of_M hp), d.K_one (d.K_of_M hp)⟩)⟩, fun j x c hx hc => ?_⟩
  rw [chunks_get hc]
  exact FK_of_M (hr.2 j x hx)
theorem S_N (h : Kd.S d e w base ok v xs) : N d e w base ok v xs := R_N (S_R h)
theorem N_nil (d : Kd α) (e : Nat) (w : World) (base : Nat) (ok : Nat → Prop) : N d e w base ok (.slice none 0 0) [] := R_N (R_nil _ _ _ _ _)
theorem N_mono (h : N d e w base ok v xs) (hok : ∀ k, ok k → ok' k) : N d e w base ok' v xs := by
  obtain ⟨h0, rows, hl, hR, hf⟩ := h
  exact ⟨fun k hk => hok k (h0 k hk), rows, hl, hR, fun j x c hx hc => FK_mono (hf j x c hx hc) (fun k hk => ⟨hok k hk.1, hk.2⟩)⟩
theorem N_lt (h : N d e w base ok v xs) : ∀ k, v.ownBlock = some k → k < w.heap.size := by
  obtain ⟨_, rows, _, hR, _⟩ := h
  exact R_lt hR
theorem N_base (h : N d e w base ok v xs) : ∀ k, v.ownBlock = some k → base ≤ k := by
  obtain ⟨_, rows, _, hR, _⟩ := h
  exact R_base hR
theorem N_base2 (h : N d e w base ok v xs) : v.ownBlock = none ∨ ∃ k, v.ownBlock = some k ∧ base ≤ k := by
  obtain ⟨_, rows, _, hR, _⟩ := h
  exact R_base2 hR
theorem N_typed (h : N d e w base ok v xs) : ∀ k, v.ownBlock = some k → ∃ cells, w.heap[k]? = some (.cells cells e (0, 0)) := by
  obtain ⟨_, rows, _, hR, _⟩ := h
  exact R_typed hR
/-- By types: the row itself is none of a block of another type (its elements' blocks may be: they are told by ok). -/
theorem N_ne (h : N d e w base ok v xs) {t : Nat} {cells : Array Value} (hb : w.heap[g]? = some (.cells cells t (0, 0))) (ht : e ≠ t) : some g ≠ v.ownBlock := by
  obtain ⟨_, rows, _, hR, _⟩ := h
  exact R_ne hR hb ht
theorem N_away (h : N d e w base ok v xs) (hok : ∀ k, ok k → k ≠ g) : some g ≠ v.ownBlock := fun he => hok g (h.1 g he.symm) rfl
theorem N_bound (h : N d e w base ok v xs) : N d e w base (fun k => ok k ∧ k < w.heap.size) v xs := by
  have hlt := N_lt h
  obtain ⟨h0, rows, hl, hR, hf⟩ := h
  exact ⟨fun k hk => ⟨h0 k hk, hlt k hk⟩, rows, hl, hR, fun j x c hx hc => FK_mono (FK_bound (hf j x c hx hc)) (fun k hk => ⟨⟨hk.1.1, hk.2⟩, hk.1.2⟩)⟩
theorem N_lower {base' : Nat} (h : N d e w base ok v xs) (hb : base' ≤ base) : N d e w base' ok v xs := by
  obtain ⟨h0, rows, hl, hR, hf⟩ := h
  exact ⟨h0, rows, hl, R_lower hR hb, hf⟩
theorem N_step (h : N d e w base ok v xs) (hm : ∀ k, ok k → k < w.heap.size → w1.heap[k]? = w.heap[k]?) : N d e w1 base ok v xs := by
  obtain ⟨h0, rows, hl, hR, hf⟩ := h
  exact ⟨h0, rows, hl, R_step hR (fun k hk hlt => hm k (h0 k hk.symm) hlt), fun j x c hx hc => FK_step (hf j x c hx hc) (fun k hk hlt => hm k hk.1 hlt)⟩
theorem N_below (h : N d e w base ok v xs) (hb : Below w.heap.size w w1) : N d e w1 base ok v xs := N_step h (fun k _ hk => hb.block k hk)
theorem N_alloc (h : N d e w base ok v xs) (o : Obj) : N d e (w.alloc o) base ok v xs := N_below h (below_alloc (Below.refl _ _) o)
theorem N_drew (h : N d e w base ok v xs) : N d e w.drew base ok v xs := N_below h (below_drew (Below.refl _ _))
theorem N_drewN (h : N d e w base ok v xs) (m : Nat) : N d e (w.drewN m) base ok v xs := N_below h (pw_below_drewN (Below.refl _ _) m)
theorem N_grown (h : N d e w base ok v xs) {row : Option Nat} (hg : w.grownBy w1 row) (hok : ∀ k, ok k → some k ≠ row) : N d e w1 base ok v xs := N_step h (fun k ho hk => hg.block k hk (hok k ho))
theorem N_far (h : N d e w base ok v xs) {p : Addr} (hok : ∀ k, ok k → k ≠ p.block) (u : Value) : N d e (w.setCell p u) base ok v xs := N_step h (fun k ho _ => Below.heap_setCell w p u k (hok k ho))
theorem N_keep (h : N d e w base ok v xs) (hk : KeepBut w w1 g none) (hok : ∀ k, ok k → k ≠ g) : N d e w1 base ok v xs := N_step h (fun k ho hlt => hk.2 k hlt (hok k ho) (by simp))
theorem N_kept (h : N d e w base ok v xs) (hk : Kept w w1 S) (hok : ∀ k, ok k → ¬ S k) : N d e w1 base ok v xs := N_step h (fun k ho hlt => hk.2 k hlt (hok k ho))
theorem N_drop (h : N d e w base (fun k => ok k ∧ ok' k) v xs) : N d e w base ok v xs := N_mono h (fun _ hk => hk.1)
theorem N_apart_nil (h : N d e w base ok v xs) : N d e w base (fun k => ok k ∧ some k ≠ (Value.slice none 0 0).ownBlock) v xs := N_mono h (fun k hk => ⟨hk, by simp [Value.ownBlock]⟩)
theorem N_elder' (h : N d e W base ok v xs) (hbase : ∀ k, u.ownBlock = some k → W.heap.size ≤ k) (hb : Below W.heap.size W w1) : N d e w1 base (fun k => ok k ∧ some k ≠ u.ownBlock) v xs :=
  N_mono (N_below (N_bound h) hb) (fun k hk => ⟨hk.1, fun he => by have := hbase k he.symm; have := hk.2; omega⟩)
theorem N_elderB (h : N d e w base ok v xs) (a : Nat) (ha : w.heap.size ≤ a) : N d e w base (fun k => ok k ∧ k ≠ a) v xs := N_mono (N_bound h) (fun k hk => ⟨hk.1, by have := hk.2; omega⟩)
theorem N_after (h : N d e W base (fun k => ok k ∧ some k ≠ u.ownBlock) v xs) {u1 : Value} (hg : W.grownBy w1 u.ownBlock) (hat : u1.ownBlock = u.ownBlock ∨ ∃ b, u1.ownBlock = some b ∧ W.heap.size ≤ b) : N d e w1 base (fun k => ok k ∧ some k ≠ u1.ownBlock) v xs := by
  refine N_mono (N_step (N_bound h) (fun k hk hlt => hg.block k hlt hk.1.2)) (fun k hk => ⟨hk.1.1, ?_⟩)
  rcases hat with hat | ⟨b, hb, hle⟩
  · rw [hat]; exact hk.1.2
  · rw [hb]
    intro he
    injection he with he
    have := hk.2
    omega
theorem N_old (h : N d e W base ok v xs) (hb : Below W.heap.size W w1) : N d e w1 base (fun k => ok k ∧ k < W.heap.size) v xs := N_below (N_bound h) hb
theorem N_oldK (h : N d e W base (fun k => ok k ∧ k ≠ g) v xs) (hk : KeepBut W w1 g none) : N d e w1 base (fun k => ok k ∧ k < W.heap.size) v xs := N_mono (N_keep (N_bound h) hk (fun _ hk => hk.1.2)) (fun _ hk => ⟨hk.1.1, hk.2⟩)
theorem N_oldS (h : N d e W base (fun k => ok k ∧ ¬ S k) v xs) (hk : Kept W w1 S) : N d e w1 base (fun k => ok k ∧ k < W.heap.size) v xs := N_mono (N_kept (N_bound h) hk (fun _ hk => hk.1.2)) (fun _ hk => ⟨hk.1.1, hk.2⟩)
theorem N_told {b : Nat} (h : N d e w1 base (fun k => ok k ∧ k < b) v xs) (hbase : ∀ k, u.ownBlock = some k → b ≤ k) : N d e w1 base (fun k => (ok k ∧ some k ≠ u.ownBlock) ∧ k < b) v xs :=
  N_mono h (fun k hk => ⟨⟨hk.1, fun e => Nat.lt_irrefl _ (Nat.lt_of_lt_of_le hk.2 (hbase k e.symm))⟩, hk.2⟩)
theorem N_slice (h : N d e w base ok v xs) : ∃ A c, v = .slice A xs.length c := by
  obtain ⟨_, rows, hl, hR, _⟩ := h
  obtain ⟨A, c, he⟩ := R_slice hR
  exact ⟨A, c, by rw [he, hl]⟩
theorem N_val (h : N d e w base ok v xs) : v.cells.toList = [v] ∧ v.oneCell' = true := by
  obtain ⟨A, c, rfl⟩ := N_slice h
  exact ⟨rfl, rfl⟩
theorem N_form (h : N d e w base ok v xs) (hp : 0 < xs.length) : ∃ g cap, v = .slice (some ⟨g, 0, none⟩) xs.length cap ∧ base ≤ g ∧ g < w.heap.size ∧ ∃ cells, w.heap[g]? = some (.cells cells e (0, 0)) := by
  obtain ⟨_, rows, hl, hR, _⟩ := h
  rw [← hl] at hp ⊢
  exact R_form hR hp
theorem N_reads' {n c : Nat} (h : N d e w base ok (.slice A n c) xs) : n = xs.length ∧ n ≤ c ∧ d.C w A xs.length xs := by
  obtain ⟨_, rows, hl, hR, hf⟩ := h
  obtain ⟨hn, hc, hC⟩ := R_reads' hR
  refine ⟨by omega, hc, ?_⟩
  rw [hl] at hC
  refine ⟨rfl, hC.2.1, fun hp => ?_⟩
  obtain ⟨ad, he, hcell⟩ := hC.2.2 hp
  refine ⟨ad, he, fun j p hj => ?_⟩
  have hjl : j < rows.length := by have := (List.getElem?_eq_some_iff.1 hj).1; omega
  obtain ⟨c', hcl, hK, hcc⟩ := hcell j _ (List.getElem?_eq_getElem hjl)
  have hk := FK_now (hf j p _ hj (List.getElem?_eq_getElem hjl))
  refine ⟨c', hcl, ?_, hcc⟩
  rw [show c' = rows[j] from hK.1]
  exact hk
theorem N_reads (h : N d e w base ok v xs) : ∃ A c, v = .slice A xs.length c ∧ xs.length ≤ c ∧ d.C w A xs.length xs := by
  obtain ⟨A, c, rfl⟩ := N_slice h
  exact ⟨A, c, rfl, (N_reads' h).2⟩
theorem N_F {n : Nat} (h : N d e w base ok (.slice A n cc) xs) : F d w ok A n xs := fun W' hW => by
  have h2 := N_reads' (N_step h hW)
  rw [h2.1]
  exact h2.2.2
/-- Element i: its cells, and what they lead to. -/
theorem N_elem {n cap : Nat} (h : N d e W base ok (.slice (some ⟨g, 0, none⟩) n cap) xs) (z : α) (i : Int) (h0 : 0 ≤ i) (h1 : i < n) :
    ∃ c, c.length = d.sz ∧ FK d W (fun k => ok k ∧ k ≠ g) (xs.getD i.toNat z) c ∧ (∀ j u, c[j]? = some u → W.cell? ⟨g, i.toNat * d.sz + j, none⟩ = some u) ∧ ∀ j, W.frozen? ⟨g, i.toNat * d.sz + j, none⟩ = false := by
  obtain ⟨_, rows, hl, hR, hf⟩ := h
  have hn := (R_reads' hR).1
  obtain ⟨c, hcl, hM, hcc, hfr⟩ := R_elem hR [] i h0 h1
  have hil : i.toNat < rows.length := by omega
  have hil' : i.toNat < xs.length := by omega
  have hc : c = rows[i.toNat] := by
    have h2 := hM.1
    rwa [List.getD_eq_getElem?_getD, List.getElem?_eq_getElem hil] at h2
  refine ⟨c, hcl, ?_, hcc, hfr⟩
  rw [List.getD_eq_getElem?_getD, List.getElem?_eq_getElem hil']
  exact FK_mono (hf _ _ _ (List.getElem?_eq_getElem hil') (by rw [hc]; exact List.getElem?_eq_getElem hil)) (fun k hk => ⟨hk.1, fun he => hk.2 (by rw [he]; simp [Value.ownBlock])⟩)
theorem N_get {ad : Addr} {n cap : Nat} (h : N d e W base ok (.slice (some ad) n cap) xs) (z : α) (i : Int) (h0 : 0 ≤ i) (h1 : i < n) :
    ∃ c, c.length = d.sz ∧ FK d W (fun k => ok k ∧ some k ≠ (Value.slice (some ad) n cap).ownBlock) (xs.getD i.toNat z) c ∧ ∀ j u, c[j]? = some u → W.cell? (ad.add (i.toNat * d.sz + j)) = some u := by
  obtain ⟨g, rfl⟩ : ∃ g, ad = ⟨g, 0, none⟩ := by
    obtain ⟨_, rows, _, hR, _⟩ := h
    exact R_head hR
  obtain ⟨c, hcl, hM, hcc, _⟩ := N_elem h z i h0 h1
  refine ⟨c, hcl, FK_mono hM (fun k hk => ⟨hk.1, fun he => hk.2 (by simpa [Value.ownBlock] using he)⟩), fun j u hu => ?_⟩
  rw [add_at, Nat.zero_add]
  exact hcc j u hu
end
end Kd
end Go.Proofs.YtnbkmaghdbhlnaaDoorW.PrintWords

end

section
namespace Go.Proofs.YtnbkmaghdbhlnaaDoorW.PrintWords
open Go.RowKit
namespace Kd
section
variable {α : Type} {d : Kd α} {e base n cap g : Nat} {ok ok' okp : Nat → Prop} {w w1 W : World} {v v1 : Value} {xs ys : List α}
/-- Behind an append: the old elements and the new ones, moved. -/
theorem N_appended {rows news : List (List Value)} (h0 : ∀ k, v.ownBlock = some k → ok k) (hl : rows.length = xs.length) (hf : ∀ (j : Nat) (x : α) (c : List Value), xs[j]? = some x → rows[j]? = some c → FK d W (fun k => ok k ∧ some k ≠ v.ownBlock) x c)
    (hl2 : news.length = ys.length) (hf2 : ∀ (j : Nat) (x : α) (c : List Value), ys[j]? = some x → news[j]? = some c → FK d W okp x c) (hokp : ∀ k, okp k → ok k ∧ some k ≠ v.ownBlock) (hfresh : ∀ k, W.heap.size ≤ k → ok k)
    (hR : (raw d.sz).R e w1 base (fun _ => True) v1 (rows ++ news)) (hg : W.grownBy w1 v.ownBlock) (hat : v1.ownBlock = v.ownBlock ∨ ∃ b, v1.ownBlock = some b ∧ W.heap.size ≤ b) : N d e w1 base ok v1 (xs ++ ys) := by
  have hne : ∀ k, some k ≠ v.ownBlock → k < W.heap.size → some k ≠ v1.ownBlock := by
    intro k hk hlt
    rcases hat with hat | ⟨b, hb, hle⟩
    · rw [hat]; exact hk
    · rw [hb]
      intro he
      injection he with he
      omega
  have step : ∀ {x : α} {c : List Value} {o : Nat → Prop}, FK d W o x c → (∀ k, o k → ok k ∧ some k ≠ v.ownBlock) → FK d w1 (fun k => ok k ∧ some k ≠ v1.ownBlock) x c := by
    intro x c o hq ho
    exact FK_mono (FK_step (FK_bound hq) (fun k hk hlt => hg.block k hlt (ho k hk.1).2)) (fun k hk => ⟨(ho k hk.1).1, hne k (ho k hk.1).2 hk.2⟩)
  refine ⟨fun k hk => ?_, rows ++ news, by rw [List.length_append, List.length_append, hl, hl2], raw_tight hR, fun j x c hx hc => ?_⟩
  · rcases hat with hat | ⟨b, hb, hle⟩
    · exact h0 k (hat ▸ hk)
    · rw [hb] at hk
      injection hk with hk
      exact hfresh k (by omega)
  · rcases Nat.lt_or_ge j xs.length with hlt | hge
    · rw [List.getElem?_append_left hlt] at hx
      rw [List.getElem?_append_left (by omega)] at hc
      exact step (hf j x c hx hc) (fun _ hk => hk)
    · rw [List.getElem?_append_right hge] at hx
      rw [List.getElem?_append_right (by omega), hl] at hc
      exact step (hf2 _ x c hx hc) hokp
theorem FK_raw {x : α} {c : List Value} (h : FK d W ok x c) : c = c ∧ c.length = d.sz ∧ ∀ u ∈ c, u.oneCell' = true := ⟨rfl, d.K_len (FK_now h), d.K_one (FK_now h)⟩
/-- What was made just now. -/
theorem N_made {rows : List (List Value)} (hR : (raw d.sz).R e w1 base (fun k => k = W.heap.size) v1 rows) (hg : W.grownBy w1 none) (hat : ∃ b, v1.ownBlock = some b ∧ W.heap.size ≤ b) (hl : rows.length = xs.length) (hf : ∀ (j : Nat) (x : α) (c : List Value), xs[j]? = some x → rows[j]? = some c → FK d W okp x c)
    (hok : ∀ k, okp k → ok k) (hfresh : ok W.heap.size) : N d e w1 base ok v1 xs := by
  obtain ⟨b, hb, hle⟩ := hat
  refine ⟨fun k hk => by rw [hR.1 k hk]; exact hfresh, rows, hl, raw_tight hR, fun j x c hx hc => ?_⟩
  refine FK_mono (FK_step (FK_bound (hf j x c hx hc)) (fun k hk hlt => hg.block k hlt (by simp))) (fun k hk => ⟨hok k hk.1, fun he => ?_⟩)
  rw [hb] at he
  injection he with he
  have := hk.2
  omega
/-- Element i's cells were written: it is x' then. -/
theorem N_written {rows : List (List Value)} {i : Int} {x' : α} {c' : List Value} (h0 : ∀ k, (Value.slice (some ⟨g, 0, none⟩) n cap).ownBlock = some k → ok k) (hl : rows.length = xs.length) (hf : ∀ (j : Nat) (x : α) (c : List Value), xs[j]? = some x → rows[j]? = some c → FK d W (fun k => ok k ∧ some k ≠ (Value.slice (some ⟨g, 0, none⟩) n cap).ownBlock) x c)
    (hR : (raw d.sz).R e w1 base (fun _ => True) (.slice (some ⟨g, 0, none⟩) n cap) (rows.set i.toNat c')) (hg : W.grownBy w1 (some g)) (hM : FK d W okp x' c') (hokp : ∀ k, okp k → ok k ∧ k ≠ g) : N d e w1 base ok (.slice (some ⟨g, 0, none⟩) n cap) (xs.set i.toNat x') := by
  have hgo : some g = (Value.slice (some ⟨g, 0, none⟩) n cap).ownBlock := by simp [Value.ownBlock]
  refine ⟨h0, rows.set i.toNat c', by rw [List.length_set, List.length_set, hl], raw_tight hR, fun j x c hx hc => ?_⟩
  have hjl : j < xs.length := by have := (List.getElem?_eq_some_iff.1 hx).1; rwa [List.length_set] at this
  by_cases hji : j = i.toNat
  · subst hji
    rw [List.getElem?_set_self hjl] at hx
    rw [List.getElem?_set_self (by omega)] at hc
    injection hx with hx
    injection hc with hc
    rw [← hx, ← hc]
    exact FK_mono (FK_step hM (fun k hk hlt => hg.block k hlt (fun he => (hokp k hk).2 (by injection he)))) (fun k hk => ⟨(hokp k hk).1, fun he => (hokp k hk).2 (by rw [← hgo] at he; injection he)⟩)
  · rw [List.getElem?_set_ne (Ne.symm hji)] at hx hc
    exact FK_step (hf j x c hx hc) (fun k hk hlt => hg.block k hlt (by rw [hgo]; exact hk.2))
/-- Element k was taken out. -/
theorem N_erased {rows : List (List Value)} {k : Nat} (h0 : ∀ k, (Value.slice (some ⟨g, 0, none⟩) n cap).ownBlock = some k → ok k) (hl : rows.length = xs.length) (hf : ∀ (j : Nat) (x : α) (c : List Value), xs[j]? = some x → rows[j]? = some c → FK d W (fun k => ok k ∧ some k ≠ (Value.slice (some ⟨g, 0, none⟩) n cap).ownBlock) x c)
    {n' : Nat} (hR : (raw d.sz).R e w1 base (fun _ => True) (.slice (some ⟨g, 0, none⟩) n' cap) (rows.eraseIdx k)) (hg : W.grownBy w1 (some g)) : N d e w1 base ok (.slice (some ⟨g, 0, none⟩) n' cap) (xs.eraseIdx k) := by
  have hgo : ∀ m, some g = (Value.slice (some ⟨g, 0, none⟩) m cap).ownBlock := fun m => by simp [Value.ownBlock]
  refine ⟨fun b hb => h0 b (by rw [← hgo] at hb ⊢; exact hb), rows.eraseIdx k, by rw [List.length_eraseIdx, List.length_eraseIdx, hl], raw_tight hR, fun j x c hx hc => ?_⟩
  rw [List.getElem?_eraseIdx] at hx hc
  have key : ∀ j', xs[j']? = some x → rows[j']? = some c → FK d w1 (fun k => ok k ∧ some k ≠ (Value.slice (some ⟨g, 0, none⟩) n' cap).ownBlock) x c := fun j' h1 h2 =>
    FK_mono (FK_step (hf j' x c h1 h2) (fun b hb hlt => hg.block b hlt (by rw [hgo n]; exact hb.2))) (fun b hb => ⟨hb.1, by rw [← hgo]; rw [← hgo] at hb; exact hb.2⟩)
  by_cases hjk : j < k
  · rw [if_pos hjk] at hx hc
    exact key _ hx hc
  · rw [if_neg hjk] at hx hc
    exact key _ hx hc
/-- xs = xs[:m]. -/
theorem N_take {A : Option Addr} {m c : Nat} (h : N d e w base ok (.slice A n c) xs) (hm : m ≤ xs.length) : N d e w base ok (.slice A m c) (xs.take m) := by
  obtain ⟨h0, rows, hl, hR, hf⟩ := h
  have hb : ∀ x y : Nat, (Value.slice A x c).ownBlock = (Value.slice A y c).ownBlock := by
    intro x y
    cases A <;> rfl
  refine ⟨fun k hk => h0 k (by rw [hb _ m]; exact hk), rows.take m, by rw [List.length_take, List.length_take, hl], raw_tight (R_take (raw_any hR) (by omega)), fun j x c' hx hc => ?_⟩
  rw [List.getElem?_take] at hx hc
  split at hx
  · rename_i hj
    rw [if_pos hj] at hc
    rw [hb m n]
    exact hf j x c' hx hc
  · cases hx
/-- Cells of element i are written, the world as_ it is then. -/
theorem N_seg (h : N d e W base ok (.slice (some ⟨g, 0, none⟩) n cap) xs) (i : Int) (h0 : 0 ≤ i) (h1 : i < n) {c seg : List Value} {j : Nat} (hcl : c.length = d.sz) (hcc : ∀ j u, c[j]? = some u → W.cell? ⟨g, i.toNat * d.sz + j, none⟩ = some u)
    (hj : j + seg.length ≤ d.sz) {x' : α} (hM : FK d W okp x' (c.take j ++ seg ++ c.drop (j + seg.length))) (hokp : ∀ k, okp k → ok k ∧ k ≠ g) :
    N d e (W.setCells g (i.toNat * d.sz + j) seg) base ok (.slice (some ⟨g, 0, none⟩) n cap) (xs.set i.toNat x') ∧ W.grownBy (W.setCells g (i.toNat * d.sz + j) seg) (some g) := by
  obtain ⟨hown, rows, hl, hR, hf⟩ := h
  obtain ⟨h2, h3⟩ := R_seg (raw_any hR) i h0 h1 (c := c) (seg := seg) (j := j) (x' := c.take j ++ seg ++ c.drop (j + seg.length)) (okp := fun _ => False) hcl hcc hj ⟨rfl, d.K_len (FK_now hM), d.K_one (FK_now hM)⟩ (fun _ hk => hk.elim)
  exact ⟨N_written hown hl hf h2 h3 hM hokp, h3⟩
/-- What is read as_ a row, as_ rows of cells. -/
theorem reads_raw {Rr : α → List Value → Prop} {sz m : Nat} {A : Option Addr} (h : ReadsRow Rr sz W A m ys) (hR : ∀ x c, Rr x c → c.length = sz ∧ ∀ u ∈ c, u.oneCell' = true) :
    ∃ news : List (List Value), news.length = ys.length ∧ ReadsRow (fun x cs => cs = x ∧ cs.length = sz ∧ ∀ u ∈ cs, u.oneCell' = true) sz W A m news ∧ ∀ (j : Nat) (x : α) (c : List Value), ys[j]? = some x → news[j]? = some c → Rr x c := by
  rcases Nat.eq_zero_or_pos m with h0 | hp
  · have hy : ys = [] := List.eq_nil_of_length_eq_zero (h.1.trans h0)
    subst hy
    exact ⟨[], rfl, ⟨h0 ▸ rfl, h.2.1, fun hp => by omega⟩, fun j x c hx => by simp at hx⟩
  · obtain ⟨ad, rfl, _⟩ := h.2.2 hp
    obtain ⟨inner, hr, hc⟩ := ReadsRow.inner_ h
    refine ⟨chunks sz ys.length inner, chunks_length _ _ _, ⟨by rw [chunks_length]; exact h.1, h.2.1, fun _ => ⟨ad, rfl, fun j p hj => ?_⟩⟩, fun j x c hx hcc => ?_⟩
    · have hjl : j < ys.length := by have := (List.getElem?_eq_some_iff.1 hj).1; rwa [chunks_length] at this
      have hpe := chunks_get hj
      have hq := hR _ _ (hr.2 j _ (List.getElem?_eq_getElem hjl))
      rw [← hpe] at hq
      refine ⟨p, hq.1, ⟨rfl, hq⟩, fun i u hu => ?_⟩
      have hu2 : inner[j * sz + i]? = some u := by
        rw [hpe, List.getElem?_take] at hu
        split at hu
        · rw [List.getElem?_drop] at hu
          exact hu
        · cases hu
      exact hc _ u hu2
    · rw [chunks_get hcc]
      exact hr.2 j x hx
end
section
variable {P : Program} {ops : Array Oper} {rest : List Oper} {o : Oper} {a : Act} {Q : Exit → Act → World → Prop} {Kc : Act → World → Prop} {α : Type}
/-- append(v, x), behind 'at_builtin': x's cells are cs. -/
theorem N_append (d : Kd α) {w0 W : World} (base : Nat) (hgd : o.guard = none) (s x : Operand) (t e : TypeId) (z : Value) (bytes : Nat)
    (ho : o.op = .call { callee := .builtin .append, args := #[s, x], argTypes := #[t, t] })
    (ht : P.underlying t = some (.slice e)) (hinfo : (P.info? e).map (fun i => (i.zero, i.size, i.bytes)) = some (some z, d.sz, bytes)) (hz : z.cells.size = d.sz) (hs0 : 0 < d.sz) (hb0 : 0 < bytes)
    (v : Value) (xs : List α) (p : α) (cs : List Value) (ok okp : Nat → Prop) (hs : a.eval s = v) (hx : a.eval x = .slice (some ⟨W.heap.size, 0, none⟩) 1 1) (hp : FK d W okp p cs) (hokp : ∀ k, okp k → ok k ∧ some k ≠ v.ownBlock) (hfresh : ∀ k, W.heap.size ≤ k → ok k)
    (HO : N d e W base ok v xs) (HB : Below base w0 W) (hbase : base ≤ W.heap.size) (hl : (xs.length + 1) * bytes ≤ 140737488355328)
    (h : ∀ v1 w1, N d e w1 base ok v1 (xs ++ [p]) → Below base w0 w1 → W.grownBy w1 v.ownBlock → (v1.ownBlock = v.ownBlock ∨ ∃ b, v1.ownBlock = some b ∧ W.heap.size ≤ b) → wpList P ops Q rest (a.put o.dst v1) w1) :
    wpList P ops Q (o :: rest) a (W.alloc (.cells cs.toArray e)) := by
  obtain ⟨h0, rows, hlr, hR, hf⟩ := HO
  refine R_append (raw d.sz) base hgd s x t e z bytes ho ht hinfo hz hs0 hb0 v rows cs cs (fun _ => True) (fun _ => False) hs hx (FK_raw hp) (fun _ hk => hk.elim) (fun _ _ => trivial) (raw_any hR) HB hbase (by rw [hlr]; exact hl) ?_
  intro v1 w1 hr hb hg hat
  exact h v1 w1 (N_appended h0 hlr hf (ys := [p]) (news := [cs]) rfl (fun j y c hy hc => by
    rcases j with _ | j
    · simp only [List.getElem?_cons_zero, Option.some.injEq] at hy hc
      rw [← hy, ← hc]; exact hp
    · simp at hy) hokp hfresh hr hg hat) hb hg hat
theorem N_append_step (d : Kd α) {w0 W : World} (base : Nat) (hw : Region.wanted o (yielded ops a.tmps) = true) (s x : Operand) (t e : TypeId) (z : Value) (bytes : Nat)
    (ho : o.op = .call { callee := .builtin .append, args := #[s, x], argTypes := #[t, t] })
    (ht : P.underlying t = some (.slice e)) (hinfo : (P.info? e).map (fun i => (i.zero, i.size, i.bytes)) = some (some z, d.sz, bytes)) (hz : z.cells.size = d.sz) (hs0 : 0 < d.sz) (hb0 : 0 < bytes)
    (v : Value) (xs : List α) (p : α) (cs : List Value) (ok okp : Nat → Prop) (hs : a.eval s = v) (hx : a.eval x = .slice (some ⟨W.heap.size, 0, none⟩) 1 1) (hp : FK d W okp p cs) (hokp : ∀ k, okp k → ok k ∧ some k ≠ v.ownBlock) (hfresh : ∀ k, W.heap.size ≤ k → ok k)
    (HO : N d e W base ok v xs) (HB : Below base w0 W) (hbase : base ≤ W.heap.size) (hl : (xs.length + 1) * bytes ≤ 140737488355328)
    (h : ∀ v1 w1, N d e w1 base ok v1 (xs ++ [p]) → Below base w0 w1 → W.grownBy w1 v.ownBlock → (v1.ownBlock = v.ownBlock ∨ ∃ b, v1.ownBlock = some b ∧ W.heap.size ≤ b) → Kc (a.put o.dst v1) w1) :
    if Region.wanted o (yielded ops a.tmps) = true then Oper.wp P o a (W.alloc (.cells cs.toArray e)) Kc Q else Kc (a.put o.dst undef) (W.alloc (.cells cs.toArray e)) := by
  obtain ⟨h0, rows, hlr, hR, hf⟩ := HO
  refine R_append_step (raw d.sz) base hw s x t e z bytes ho ht hinfo hz hs0 hb0 v rows cs cs (fun _ => True) (fun _ => False) hs hx (FK_raw hp) (fun _ hk => hk.elim) (fun _ _ => trivial) (raw_any hR) HB hbase (by rw [hlr]; exact hl) ?_
  intro v1 w1 hr hb hg hat
  exact h v1 w1 (N_appended h0 hlr hf (ys := [p]) (news := [cs]) rfl (fun j y c hy hc => by
    rcases j with _ | j
    · simp only [List.getElem?_cons_zero, Option.some.injEq] at hy hc
      rw [← hy, ← hc]; exact hp
    · simp at hy) hokp hfresh hr hg hat) hb hg hat
/-- append(v, ys...): ys is read (F). -/
theorem N_append_rows (d : Kd α) {w0 W : World} (base : Nat) (hgd : o.guard = none) (s x : Operand) (t e : TypeId) (z : Value) (bytes : Nat)
    (ho : o.op = .call { callee := .builtin .append, args := #[s, x], argTypes := #[t, t] })
    (ht : P.underlying t = some (.slice e)) (hinfo : (P.info? e).map (fun i => (i.zero, i.size, i.bytes)) = some (some z, d.sz, bytes)) (hz : z.cells.size = d.sz) (hs0 : 0 < d.sz) (hb0 : 0 < bytes)
    (v : Value) (xs ys : List α) (A : Option Addr) (m c : Nat) (ok okp : Nat → Prop) (hs : a.eval s = v) (hx : a.eval x = .slice A m c)
    (HO : N d e W base ok v xs) (HR : F d W okp A m ys) (hokp : ∀ k, okp k → ok k ∧ some k ≠ v.ownBlock) (hfresh : ∀ k, W.heap.size ≤ k → ok k)
    (HB : Below base w0 W) (hbase : base ≤ W.heap.size) (hl : (xs.length + m) * bytes ≤ 140737488355328)
    (h : ∀ v1 w1, N d e w1 base ok v1 (xs ++ ys) → Below base w0 w1 → W.grownBy w1 v.ownBlock → (v1.ownBlock = v.ownBlock ∨ ∃ b, v1.ownBlock = some b ∧ W.heap.size ≤ b) → wpList P ops Q rest (a.put o.dst v1) w1) :
    wpList P ops Q (o :: rest) a W := by
  obtain ⟨h0, rows, hlr, hR, hf⟩ := HO
  obtain ⟨news, hnl, hnr, hnf⟩ := reads_raw (F_rows HR) (fun y c hk => ⟨d.K_len (FK_now hk), d.K_one (FK_now hk)⟩)
  refine R_append_rows (raw d.sz) base hgd s x t e z bytes ho ht hinfo hz hs0 hb0 v rows news A m c (fun _ => True) (fun _ => False) hs hx (raw_any hR) hnr (fun _ _ hk => hk) (fun _ hk => hk.elim) (fun _ _ => trivial) HB hbase (by rw [hlr]; exact hl) ?_
  intro v1 w1 hr hb hg hat
  exact h v1 w1 (N_appended h0 hlr hf hnl hnf hokp hfresh hr hg hat) hb hg hat
theorem N_append_rows_step (d : Kd α) {w0 W : World} (base : Nat) (hw : Region.wanted o (yielded ops a.tmps) = true) (s x : Operand) (t e : TypeId) (z : Value) (bytes : Nat)
    (ho : o.op = .call { callee := .builtin .append, args := #[s, x], argTypes := #[t, t] })
    (ht : P.underlying t = some (.slice e)) (hinfo : (P.info? e).map (fun i => (i.zero, i.size, i.bytes)) = some (some z, d.sz, bytes)) (hz : z.cells.size = d.sz) (hs0 : 0 < d.sz) (hb0 : 0 < bytes)
    (v : Value) (xs ys : List α) (A : Option Addr) (m c : Nat) (ok okp : Nat → Prop) (hs : a.eval s = v) (hx : a.eval x = .slice A m c)
    (HO : N d e W base ok v xs) (HR : F d W okp A m ys) (hokp : ∀ k, okp k → ok k ∧ some k ≠ v.ownBlock) (hfresh : ∀ k, W.heap.size ≤ k → ok k)
    (HB : Below base w0 W) (hbase : base ≤ W.heap.size) (hl : (xs.length + m) * bytes ≤ 140737488355328)
    (h : ∀ v1 w1, N d e w1 base ok v1 (xs ++ ys) → Below base w0 w1 → W.grownBy w1 v.ownBlock → (v1.ownBlock = v.ownBlock ∨ ∃ b, v1.ownBlock = some b ∧ W.heap.size ≤ b) → Kc (a.put o.dst v1) w1) :
    if Region.wanted o (yielded ops a.tmps) = true then Oper.wp P o a W Kc Q else Kc (a.put o.dst undef) W := by
  obtain ⟨h0, rows, hlr, hR, hf⟩ := HO
  obtain ⟨news, hnl, hnr, hnf⟩ := reads_raw (F_rows HR) (fun y c hk => ⟨d.K_len (FK_now hk), d.K_one (FK_now hk)⟩)
  refine R_append_rows_step (raw d.sz) base hw s x t e z bytes ho ht hinfo hz hs0 hb0 v rows news A m c (fun _ => True) (fun _ => False) hs hx (raw_any hR) hnr (fun _ _ hk => hk) (fun _ hk => hk.elim) (fun _ _ => trivial) HB hbase (by rw [hlr]; exact hl) ?_
  intro v1 w1 hr hb hg hat
  exact h v1 w1 (N_appended h0 hlr hf hnl hnf hokp hfresh hr hg hat) hb hg hat
/-- append(v, make([]T, n)...). -/
theorem N_append_zeros (d : Kd α) {w0 W : World} (base : Nat) (hgd : o.guard = none) (s x : Operand) (t ti e : TypeId) (z : Value) (bytes : Nat)
    (ho : o.op = .call { callee := .builtin .append, args := #[s, x], argTypes := #[t, ti] })
    (ht : P.underlying t = some (.slice e)) {k : IntKind} (hti : P.underlying ti = some (.int k)) (hinfo : (P.info? e).map (fun i => (i.zero, i.size, i.bytes)) = some (some z, d.sz, bytes)) (hz : z.cells.size = d.sz) (hs0 : 0 < d.sz) (hb0 : 0 < bytes)
    (v : Value) (xs : List α) (z0 : α) {kx : IntKind} (n : Int) (ok : Nat → Prop) (hs : a.eval s = v) (hx : a.eval x = .int kx n) (hzero : FK d W (fun _ => False) z0 z.cells.toList) (hfresh : ∀ k, W.heap.size ≤ k → ok k)
    (HO : N d e W base ok v xs) (h0 : 0 ≤ n) (HB : Below base w0 W) (hbase : base ≤ W.heap.size) (hl : (xs.length + n.toNat) * bytes ≤ 140737488355328)
    (h : ∀ v1 w1, N d e w1 base ok v1 (xs ++ List.replicate n.toNat z0) → Below base w0 w1 → W.grownBy w1 v.ownBlock → (v1.ownBlock = v.ownBlock ∨ ∃ b, v1.ownBlock = some b ∧ W.heap.size ≤ b) → wpList P ops Q rest (a.put o.dst v1) w1) :
    wpList P ops Q (o :: rest) a W := by
  obtain ⟨h0', rows, hlr, hR, hf⟩ := HO
  refine R_append_zeros (raw d.sz) base hgd s x t ti e z bytes ho ht hti hinfo hz hs0 hb0 v rows z.cells.toList n (fun _ => True) hs hx (FK_raw hzero) (fun _ _ => trivial) (raw_any hR) h0 HB hbase (by rw [hlr]; exact hl) ?_
  intro v1 w1 hr hb hg hat
  refine h v1 w1 (N_appended h0' hlr hf (ys := List.replicate n.toNat z0) (news := List.replicate n.toNat z.cells.toList) (by rw [List.length_replicate, List.length_replicate]) (okp := fun _ => False) (fun j y c hy hc => ?_) (fun _ hk => hk.elim) hfresh hr hg hat) hb hg hat
  have h1 := (List.getElem?_eq_some_iff.1 hy).2
  have h2 := (List.getElem?_eq_some_iff.1 hc).2
  rw [List.getElem_replicate] at h1 h2
  rw [← h1, ← h2]
  exact hzero
theorem N_append_zeros_step (d : Kd α) {w0 W : World} (base : Nat) (hw : Region.wanted o (yielded ops a.tmps) = true) (s x : Operand) (t ti e : TypeId) (z : Value) (bytes : Nat)
    (ho : o.op = .call { callee := .builtin .append, args := #[s, x], argTypes := #[t, ti] })
    (ht : P.underlying t = some (.slice e)) {k : IntKind} (hti : P.underlying ti = some (.int k)) (hinfo : (P.info? e).map (fun i => (i.zero, i.size, i.bytes)) = some (some z, d.sz, bytes)) (hz : z.cells.size = d.sz) (hs0 : 0 < d.sz) (hb0 : 0 < bytes)
    (v : Value) (xs : List α) (z0 : α) {kx : IntKind} (n : Int) (ok : Nat → Prop) (hs : a.eval s = v) (hx : a.eval x = .int kx n) (hzero : FK d W (fun _ => False) z0 z.cells.toList) (hfresh : ∀ k, W.heap.size ≤ k → ok k)
    (HO : N d e W base ok v xs) (h0 : 0 ≤ n) (HB : Below base w0 W) (hbase : base ≤ W.heap.size) (hl : (xs.length + n.toNat) * bytes ≤ 140737488355328)
    (h : ∀ v1 w1, N d e w1 base ok v1 (xs ++ List.replicate n.toNat z0) → Below base w0 w1 → W.grownBy w1 v.ownBlock → (v1.ownBlock = v.ownBlock ∨ ∃ b, v1.ownBlock = some b ∧ W.heap.size ≤ b) → Kc (a.put o.dst v1) w1) :
    if Region.wanted o (yielded ops a.tmps) = true then Oper.wp P o a W Kc Q else Kc (a.put o.dst undef) W := by
  obtain ⟨h0', rows, hlr, hR, hf⟩ := HO
  refine R_append_zeros_step (raw d.sz) base hw s x t ti e z bytes ho ht hti hinfo hz hs0 hb0 v rows z.cells.toList n (fun _ => True) hs hx (FK_raw hzero) (fun _ _ => trivial) (raw_any hR) h0 HB hbase (by rw [hlr]; exact hl) ?_
  intro v1 w1 hr hb hg hat
  refine h v1 w1 (N_appended h0' hlr hf (ys := List.replicate n.toNat z0) (news := List.replicate n.toNat z.cells.toList) (by rw [List.length_replicate, List.length_replicate]) (okp := fun _ => False) (fun j y c hy hc => ?_) (fun _ hk => hk.elim) hfresh hr hg hat) hb hg hat
  have h1 := (List.getElem?_eq_some_iff.1 hy).2
  have h2 := (List.getElem?_eq_some_iff.1 hc).2
  rw [List.getElem_replicate] at h1 h2
  rw [← h1, ← h2]
  exact hzero
/-- A literal '[]T{..}': inner its cells; what the elements lead to is okp. -/
theorem N_lit (d : Kd α) {w0 W : World} (base e : Nat) (hgd : o.guard = none) {N' : Tmp} (_hd : o.dst = some N') {xs : List α} {inner : List Value} {ok okp : Nat → Prop}
    (hrun : (execOp a.eval o).run P W = .ok (.value (.slice (some ⟨W.heap.size, 0, none⟩) xs.length xs.length)) (W.alloc (.cells inner.toArray e)))
    (hrep : Reps (FK d W okp) d.sz xs inner) (hok : ∀ k, okp k → ok k) (hfresh : ok W.heap.size) (HB : Below base w0 W) (hbase : base ≤ W.heap.size) (hm : xs.length ≤ 9223372036854775807)
    (h : ∀ v1 w1, N d e w1 base ok v1 xs → Below base w0 w1 → W.grownBy w1 none → (∃ b, v1.ownBlock = some b ∧ W.heap.size ≤ b) → wpList P ops Q rest (a.put o.dst v1) w1) :
    wpList P ops Q (o :: rest) a W := by
  refine R_lit (raw d.sz) base e hgd _hd (xs := chunks d.sz xs.length inner) (inner := inner) (ok := fun k => k = W.heap.size) (okp := fun _ => False) (by rw [chunks_length]; exact hrun) (reps_raw hrep (fun y c hk => ⟨d.K_len (FK_now hk), d.K_one (FK_now hk)⟩)) (fun _ hk => hk.elim) rfl HB hbase (by rw [chunks_length]; exact hm) ?_
  intro v1 w1 hr hb hg hat
  exact h v1 w1 (N_made hr hg hat (chunks_length _ _ _) (fun j y c hy hc => by rw [chunks_get hc]; exact hrep.2 j y hy) hok hfresh) hb hg hat
theorem N_lit_step (d : Kd α) {w0 W : World} (base e : Nat) (hw : Region.wanted o (yielded ops a.tmps) = true) {N' : Tmp} (_hd : o.dst = some N') {xs : List α} {inner : List Value} {ok okp : Nat → Prop}
    (hrun : (execOp a.eval o).run P W = .ok (.value (.slice (some ⟨W.heap.size, 0, none⟩) xs.length xs.length)) (W.alloc (.cells inner.toArray e)))
    (hrep : Reps (FK d W okp) d.sz xs inner) (hok : ∀ k, okp k → ok k) (hfresh : ok W.heap.size) (HB : Below base w0 W) (hbase : base ≤ W.heap.size) (hm : xs.length ≤ 9223372036854775807)
    (h : ∀ v1 w1, N d e w1 base ok v1 xs → Below base w0 w1 → W.grownBy w1 none → (∃ b, v1.ownBlock = some b ∧ W.heap.size ≤ b) → Kc (a.put o.dst v1) w1) :
    if Region.wanted o (yielded ops a.tmps) = true then Oper.wp P o a W Kc Q else Kc (a.put o.dst undef) W := by
  refine R_lit_step (raw d.sz) base e hw _hd (xs := chunks d.sz xs.length inner) (inner := inner) (ok := fun k => k = W.heap.size) (okp := fun _ => False) (by rw [chunks_length]; exact hrun) (reps_raw hrep (fun y c hk => ⟨d.K_len (FK_now hk), d.K_one (FK_now hk)⟩)) (fun _ hk => hk.elim) rfl HB hbase (by rw [chunks_length]; exact hm) ?_
  intro v1 w1 hr hb hg hat
  exact h v1 w1 (N_made hr hg hat (chunks_length _ _ _) (fun j y c hy hc => by rw [chunks_get hc]; exact hrep.2 j y hy) hok hfresh) hb hg hat
theorem N_make (d : Kd α) {w0 W : World} (base e : Nat) (hgd : o.guard = none) {N' : Tmp} (hd : o.dst = some N') (t : TypeId) (x y : Operand) (ho : o.op = .makeSlice t x y) (n : Int) (hx : a.eval x = .int .i64 n) (hy : a.eval y = .int .i64 n)
    (ht : P.underlying t = some (.slice e)) (z : Value) (bytes : Nat) (hinfo : (P.info? e).map (fun i => (i.zero, i.size, i.bytes)) = some (some z, d.sz, bytes)) (hz : z.cells.size = d.sz) (hs0 : 0 < d.sz) (hb0 : 0 < bytes)
    (z0 : α) {ok okp : Nat → Prop} (hzero : FK d W okp z0 z.cells.toList) (hok : ∀ k, okp k → ok k) (hfresh : ok W.heap.size) (h0 : 0 ≤ n) (hl : n.toNat * bytes ≤ 281474976710656) (HB : Below base w0 W) (hbase : base ≤ W.heap.size)
    (h : ∀ v1 w1, N d e w1 base ok v1 (List.replicate n.toNat z0) → Below base w0 w1 → W.grownBy w1 none → (∃ b, v1.ownBlock = some b ∧ W.heap.size ≤ b) → wpList P ops Q rest (a.put o.dst v1) w1) :
    wpList P ops Q (o :: rest) a W := by
  refine R_make (raw d.sz) base e hgd hd t x y ho n hx hy ht z bytes hinfo hz hs0 hb0 z.cells.toList (ok := fun k => k = W.heap.size) (okp := fun _ => False) (FK_raw hzero) (fun _ hk => hk.elim) rfl h0 hl HB hbase ?_
  intro v1 w1 hr hb hg hat
  refine h v1 w1 (N_made hr hg hat (by rw [List.length_replicate, List.length_replicate]) (fun j y c hy hc => ?_) hok hfresh) hb hg hat
  have h1 := (List.getElem?_eq_some_iff.1 hy).2
  have h2 := (List.getElem?_eq_some_iff.1 hc).2
  rw [List.getElem_replicate] at h1 h2
  rw [← h1, ← h2]
  exact hzero
theorem N_make_step (d : Kd α) {w0 W : World} (base e : Nat) (hw : Region.wanted o (yielded ops a.tmps) = true) {N' : Tmp} (hd : o.dst = some N') (t : TypeId) (x y : Operand) (ho : o.op = .makeSlice t x y) (n : Int) (hx : a.eval x = .int .i64 n) (hy : a.eval y = .int .i64 n)
    (ht : P.underlying t = some (.slice e)) (z : Value) (bytes : Nat) (hinfo : (P.info? e).map (fun i => (i.zero, i.size, i.bytes)) = some (some z, d.sz, bytes)) (hz : z.cells.size = d.sz) (hs0 : 0 < d.sz) (hb0 : 0 < bytes)
    (z0 : α) {ok okp : Nat → Prop} (hzero : FK d W okp z0 z.cells.toList) (hok : ∀ k, okp k → ok k) (hfresh : ok W.heap.size) (h0 : 0 ≤ n) (hl : n.toNat * bytes ≤ 281474976710656) (HB : Below base w0 W) (hbase : base ≤ W.heap.size)
    (h : ∀ v1 w1, N d e w1 base ok v1 (List.replicate n.toNat z0) → Below base w0 w1 → W.grownBy w1 none → (∃ b, v1.ownBlock = some b ∧ W.heap.size ≤ b) → Kc (a.put o.dst v1) w1) :
    if Region.wanted o (yielded ops a.tmps) = true then Oper.wp P o a W Kc Q else Kc (a.put o.dst undef) W := by
  refine R_make_step (raw d.sz) base e hw hd t x y ho n hx hy ht z bytes hinfo hz hs0 hb0 z.cells.toList (ok := fun k => k = W.heap.size) (okp := fun _ => False) (FK_raw hzero) (fun _ hk => hk.elim) rfl h0 hl HB hbase ?_
  intro v1 w1 hr hb hg hat
  refine h v1 w1 (N_made hr hg hat (by rw [List.length_replicate, List.length_replicate]) (fun j y c hy hc => ?_) hok hfresh) hb hg hat
  have h1 := (List.getElem?_eq_some_iff.1 hy).2
  have h2 := (List.getElem?_eq_some_iff.1 hc).2
  rw [List.getElem_replicate] at h1 h2
  rw [← h1, ← h2]
  exact hzero
/-- out[i] = T{..}, out[i].f = v: as_ R_store. -/
theorem N_store (d : Kd α) {w0 W : World} (base : Nat) (hN : o.dst = none) (hgd : o.guard = none) (t : TypeId) (p x : Operand) (ho : o.op = .store t p x) (e : TypeId) {g n cap o' : Nat} (i : Int) (j : Nat) (xs : List α) (x' : α) (u : Value) (seg c : List Value) (ok okp : Nat → Prop)
    (haddr : a.eval p = .pointer (some ⟨g, o', none⟩)) (hoff : o' = i.toNat * d.sz + j) (hx : a.eval x = u) (hu : u.cells.toList = seg) (ht : (P.info? t).map (·.size) = some seg.length) (h1 : ∀ q ∈ seg, q.oneCell' = true)
    (HO : N d e W base ok (.slice (some ⟨g, 0, none⟩) n cap) xs) (h0 : 0 ≤ i) (hi : i < n) (hcl : c.length = d.sz) (hcc : ∀ j u, c[j]? = some u → W.cell? ⟨g, i.toNat * d.sz + j, none⟩ = some u)
    (hj : j + seg.length ≤ d.sz) (hM : FK d W okp x' (c.take j ++ seg ++ c.drop (j + seg.length))) (hokp : ∀ k, okp k → ok k ∧ k ≠ g) (HB : Below base w0 W)
    (h : ∀ w1, N d e w1 base ok (.slice (some ⟨g, 0, none⟩) n cap) (xs.set i.toNat x') → Below base w0 w1 → W.grownBy w1 (some g) → wpList P ops Q rest a w1) : wpList P ops Q (o :: rest) a W := by
  obtain ⟨hown, rows, hl, hR, hf⟩ := HO
  refine R_store (raw d.sz) base hN hgd t p x ho e i j rows (c.take j ++ seg ++ c.drop (j + seg.length)) u seg c (fun _ => True) (fun _ => False) haddr hoff hx hu ht h1 (raw_any hR) h0 hi hcl hcc hj (FK_raw hM) (fun _ hk => hk.elim) HB ?_
  intro w1 hr hb hg
  exact h w1 (N_written hown hl hf hr hg hM hokp) hb hg
/-- out = append(out[:k], out[k+1:]...). -/
theorem N_delete (d : Kd α) {w0 W : World} (base : Nat) (hgd : o.guard = none) (s x : Operand) (t e : TypeId) (ho : o.op = .call { callee := .builtin .append, args := #[s, x], argTypes := #[t, t] })
    (ht : P.underlying t = some (.slice e)) (hinfo : (P.info? e).map (·.size) = some d.sz) {g n c k m c2 : Nat} {A : Option Addr} {xs : List α} {ok : Nat → Prop}
    (hs : a.eval s = .slice (some ⟨g, 0, none⟩) k c) (hx : a.eval x = .slice A m c2) (hA : A = if c = k + 1 then some ⟨g, 0, none⟩ else (some (⟨g, 0, none⟩ : Addr)).map (·.add ((k + 1) * d.sz))) (hm : m = n - (k + 1))
    (HO : N d e W base ok (.slice (some ⟨g, 0, none⟩) n c) xs) (hk : k < n) (HB : Below base w0 W) (hbase : base ≤ W.heap.size)
    (h : ∀ w1, N d e w1 base ok (.slice (some ⟨g, 0, none⟩) (n - 1) c) (xs.eraseIdx k) → Below base w0 w1 → W.grownBy w1 (some g) → wpList P ops Q rest (a.put o.dst (.slice (some ⟨g, 0, none⟩) (n - 1) c)) w1) : wpList P ops Q (o :: rest) a W := by
  obtain ⟨hown, rows, hl, hR, hf⟩ := HO
  exact R_delete (raw d.sz) base hgd s x t e ho ht hinfo hs hx hA hm (raw_any hR) hk HB hbase (fun w1 hr hb hg => h w1 (N_erased hown hl hf hr hg) hb hg)
theorem N_delete_step (d : Kd α) {w0 W : World} (base : Nat) (hw : Region.wanted o (yielded ops a.tmps) = true) (s x : Operand) (t e : TypeId) (ho : o.op = .call { callee := .builtin .append, args := #[s, x], argTypes := #[t, t] })
    (ht : P.underlying t = some (.slice e)) (hinfo : (P.info? e).map (·.size) = some d.sz) {g n c k m c2 : Nat} {A : Option Addr} {xs : List α} {ok : Nat → Prop}
    (hs : a.eval s = .slice (some ⟨g, 0, none⟩) k c) (hx : a.eval x = .slice A m c2) (hA : A = if c = k + 1 then some ⟨g, 0, none⟩ else (some (⟨g, 0, none⟩ : Addr)).map (·.add ((k + 1) * d.sz))) (hm : m = n - (k + 1))
    (HO : N d e W base ok (.slice (some ⟨g, 0, none⟩) n c) xs) (hk : k < n) (HB : Below base w0 W) (hbase : base ≤ W.heap.size)
    (h : ∀ w1, N d e w1 base ok (.slice (some ⟨g, 0, none⟩) (n - 1) c) (xs.eraseIdx k) → Below base w0 w1 → W.grownBy w1 (some g) → Kc (a.put o.dst (.slice (some ⟨g, 0, none⟩) (n - 1) c)) w1) :
    if Region.wanted o (yielded ops a.tmps) = true then Oper.wp P o a W Kc Q else Kc (a.put o.dst undef) W := by
  obtain ⟨hown, rows, hl, hR, hf⟩ := HO
  exact R_delete_step (raw d.sz) base hw s x t e ho ht hinfo hs hx hA hm (raw_any hR) hk HB hbase (fun w1 hr hb hg => h w1 (N_erased hown hl hf hr hg) hb hg)
end
end Kd
end Go.Proofs.YtnbkmaghdbhlnaaDoorW.PrintWords

end

section
namespace Go.Proofs.YtnbkmaghdbhlnaaDoorW.PrintMore
open Go.RowKit Go.Proofs.YtnbkmaghdbhlnaaDoorW.PrintWords
namespace Kd
open Go.Proofs.YtnbkmaghdbhlnaaDoorW.PrintWords.Kd
end Kd

namespace Kd
open Go.Proofs.YtnbkmaghdbhlnaaDoorW.PrintWords.Kd
section
variable {α : Type} {d : Kd α} {e base g N : Nat} {ok : Nat → Prop} {W w1 : World} {u v : Value} {xs : List α}
end
end Kd
/-- 'max' and 'min' of two whole numbers. -/
theorem max2_int (k k' : IntKind) (x y : Int) : Builtin.max2 (.int k x) (.int k' y) = pure (.int k (if x < y then y else x)) := by simp only [Builtin.max2, gt_iff_lt]
theorem min2_int (k k' : IntKind) (x y : Int) : Builtin.min2 (.int k x) (.int k' y) = pure (.int k (if y < x then y else x)) := by simp only [Builtin.min2]
theorem max_two (ats : Array TypeId) (ty : TypeId) (a b : Value) : Builtin.max_ ats ty #[a, b] = (Builtin.max2 a b >>= fun s => pure s) := by simp only [Builtin.max_, List.foldlM_cons, List.foldlM_nil]
theorem min_two (ats : Array TypeId) (ty : TypeId) (a b : Value) : Builtin.min_ ats ty #[a, b] = (Builtin.min2 a b >>= fun s => pure s) := by simp only [Builtin.min_, List.foldlM_cons, List.foldlM_nil]
theorem max_three (ats : Array TypeId) (ty : TypeId) (a b c : Value) : Builtin.max_ ats ty #[a, b, c] = (Builtin.max2 a b >>= fun s => Builtin.max2 s c >>= fun s => pure s) := by simp only [Builtin.max_, List.foldlM_cons, List.foldlM_nil]
theorem min_three (ats : Array TypeId) (ty : TypeId) (a b c : Value) : Builtin.min_ ats ty #[a, b, c] = (Builtin.min2 a b >>= fun s => Builtin.min2 s c >>= fun s => pure s) := by simp only [Builtin.min_, List.foldlM_cons, List.foldlM_nil]
theorem max_four (ats : Array TypeId) (ty : TypeId) (a b c d : Value) : Builtin.max_ ats ty #[a, b, c, d] = (Builtin.max2 a b >>= fun s => Builtin.max2 s c >>= fun s => Builtin.max2 s d >>= fun s => pure s) := by simp only [Builtin.max_, List.foldlM_cons, List.foldlM_nil]
theorem min_four (ats : Array TypeId) (ty : TypeId) (a b c d : Value) : Builtin.min_ ats ty #[a, b, c, d] = (Builtin.min2 a b >>= fun s => Builtin.min2 s c >>= fun s => Builtin.min2 s d >>= fun s => pure s) := by simp only [Builtin.min_, List.foldlM_cons, List.foldlM_nil]
end Go.Proofs.YtnbkmaghdbhlnaaDoorW.PrintMore
namespace Go.Proofs.YtnbkmaghdbhlnaaDoorW.PrintWords
open Go.RowKit
section
variable {P : Program} {ops : Array Oper} {rest : List Oper} {o : Oper} {a : Act} {Q : Exit → Act → World → Prop} {W : World}
/-- The operation is a call of this function (a cheap look ahead of a dear step). -/
theorem gate_callee {f : FuncId} {as0 : Array Operand} {ts : Array TypeId} (_ho : o.op = .call { callee := .value (.func f), args := as0, argTypes := ts }) (h : wpList P ops Q (o :: rest) a W) : wpList P ops Q (o :: rest) a W := h
end
namespace Kd
section
variable {α : Type} {d : Kd α} {e base : Nat} {ok : Nat → Prop} {W w1 : World} {v : Value} {xs : List α}
/-- A row of scalars beside a block that is not its own: written. -/
theorem R_grown1 (h : d.R e W base ok v xs) (hE : d.E = []) {row : Option Nat} (hg : W.grownBy w1 row) (hne : row ≠ v.ownBlock) : d.R e w1 base ok v xs :=
  R_mono (R_grown (R_tight hE h) hg (fun _ hk e_ => hne (e_.symm.trans hk))) (fun k hk => h.1 k hk.symm)
/-- The same, told: its block is not that one. -/
theorem R_far1 (h : d.R e W base ok v xs) (hE : d.E = []) {g : Nat} (hne : some g ≠ v.ownBlock) : d.R e W base (fun k => ok k ∧ k ≠ g) v xs :=
  R_mono (R_tight hE h) (fun k hk => ⟨h.1 k hk.symm, fun e_ => hne (by rw [← e_]; exact hk)⟩)
/-- The same, where the row that was written may be none. -/
theorem R_grown2 (h : d.R e W base ok v xs) (hE : d.E = []) {row : Option Nat} (hg : W.grownBy w1 row) (hne : ∀ k, row = some k → some k ≠ v.ownBlock) : d.R e w1 base ok v xs :=
  R_mono (R_grown (R_tight hE h) hg (fun k hk e_ => hne k e_.symm hk)) (fun k hk => h.1 k hk.symm)
end
section
variable {α : Type} {d : Kd α} {e base g n cap : Nat} {ok oki okp : Nat → Prop} {W : World} {xs : List α} {i : Int} {c : List Value}
/-- The place where an element's row comes back: its cells are there, and may be written. -/
theorem H_at (h : H d e W base ok (.slice (some ⟨g, 0, none⟩) n cap) xs i oki c) (h0 : 0 ≤ i) (h1 : i < n) : (∀ j u, c[j]? = some u → W.cell? ⟨g, i.toNat * d.sz + j, none⟩ = some u) ∧ ∀ j, W.frozen? ⟨g, i.toNat * d.sz + j, none⟩ = false := by
  obtain ⟨rows, _, hraw, _, _, hcc, _⟩ := H_raw h h0 h1
  obtain ⟨_, _, _, _, hfr⟩ := R_elem hraw [] i h0 h1
  exact ⟨hcc, hfr⟩
theorem S_seg0 (hH : H d e W base ok (.slice (some ⟨g, 0, none⟩) n cap) xs i oki c) (h0 : 0 ≤ i) (h1 : i < n) {seg : List Value} {j : Nat} (hj : j + seg.length ≤ d.sz)
    {x' : α} (hM : d.M W base okp x' (c.take j ++ seg ++ c.drop (j + seg.length))) (hokp : ∀ k, okp k → oki k) :
    S d e (W.setCells g (i.toNat * d.sz + j) seg) base ok (.slice (some ⟨g, 0, none⟩) n cap) (xs.set i.toNat x') ∧ W.grownBy (W.setCells g (i.toNat * d.sz + j) seg) (some g) :=
  S_seg (okg := fun _ => False) (H_mono hH (fun _ hk => ⟨hk, fun h => h⟩)) h0 h1 hj hM (fun k hk => .inl (hokp k hk)) (fun _ hk => hk.elim)
end
section
variable {α : Type} {d : Kd α} {e base b b' g N : Nat} {ok ok1 : Nat → Prop} {W W2 w1 : World} {u v : Value} {xs ys : List α} {S : Nat → Prop}
theorem Q_tight (hE : d.E = []) (h : d.Q e W base ok v xs) : d.Q e W base (fun k => some k = v.ownBlock) v xs := by
  obtain ⟨h0, inner, ho, hr⟩ := h
  refine ⟨fun k hk => hk.symm, inner, ho, hr.imp_ (fun p c hp => d.M_mono (fun k hk => ?_) (d.M_bound hp))⟩
  obtain ⟨_, _, _, q, hq, _⟩ := hk
  rw [hE] at hq
  cases hq
theorem Q_ok (h : d.Q e W base ok v xs) : ∀ k, v.ownBlock = some k → ok k := h.1
theorem Q_grown1 (h : d.Q e W base ok v xs) (hE : d.E = []) {row : Option Nat} (hg : W.grownBy w1 row) (hne : row ≠ v.ownBlock) : d.Q e w1 base ok v xs :=
  Q_mono (Q_grown (Q_tight hE h) hg (fun _ hk e_ => hne (e_.symm.trans hk))) (fun k hk => h.1 k hk.symm)
theorem Q_grown2 (h : d.Q e W base ok v xs) (hE : d.E = []) {row : Option Nat} (hg : W.grownBy w1 row) (hne : ∀ k, row = some k → some k ≠ v.ownBlock) : d.Q e w1 base ok v xs :=
  Q_mono (Q_grown (Q_tight hE h) hg (fun k hk e_ => hne k e_.symm hk)) (fun k hk => h.1 k hk.symm)
theorem Q_far1 (h : d.Q e W base ok v xs) (hE : d.E = []) {g : Nat} (hne : some g ≠ v.ownBlock) : d.Q e W base (fun k => ok k ∧ k ≠ g) v xs :=
  Q_mono (Q_tight hE h) (fun k hk => ⟨h.1 k hk.symm, fun e_ => hne (by rw [← e_]; exact hk)⟩)
theorem R_tight2 (hE : d.E = []) (h : d.R e W base ok v xs) : d.R e W base (fun k => some k = v.ownBlock ∧ ok k) v xs := R_mono (R_tight hE h) (fun k hk => ⟨hk, h.1 k hk.symm⟩)
theorem R_reok (hE : d.E = []) (h : d.R e W base ok1 v xs) (hok : ∀ k, v.ownBlock = some k → ok k) : d.R e W base ok v xs := R_mono (R_tight hE h) (fun k hk => hok k hk.symm)
theorem own_raise {n size : Nat} {cs : List Value} (h : W.ownsRow b e size v n cs) (hb : ∀ k, v.ownBlock = some k → b' ≤ k) : W.ownsRow b' e size v n cs := by
  obtain ⟨h1, h2⟩ := h
  refine ⟨h1, ?_⟩
  rcases h2 with h2 | ⟨g, cap, cur, rfl, _, r⟩
  · exact .inl h2
  · exact .inr ⟨g, cap, cur, rfl, hb g (by simp [Value.ownBlock]), r⟩
/-- A row whose elements lead to nothing, and whose block is younger than was told. -/
theorem R_raise (hM : ∀ w ok x cs, d.M w b ok x cs → d.M w b' ok x cs) (h : d.R e W b ok v xs) (hb : ∀ k, v.ownBlock = some k → b' ≤ k) : d.R e W b' ok v xs := by
  obtain ⟨h0, inner, ho, hr⟩ := h
  exact ⟨h0, inner, own_raise ho hb, hr.imp_ (fun _ _ hp => hM _ _ _ _ hp)⟩
theorem R_keptB (h : d.R e W base ok v xs) (hk : Kept W W2 S) (hne : ∀ k, ok k → ¬ S k) : d.R e W2 base (fun k => ok k ∧ (¬ S k ∧ k < W.heap.size)) v xs :=
  R_kept (R_mono (R_bound h) (fun k hk => ⟨hk.1, hne k hk.1, hk.2.2.1⟩)) hk (fun _ hk => hk.2.1)
theorem Q_keptB (h : d.Q e W base ok v xs) (hk : Kept W W2 S) (hne : ∀ k, ok k → ¬ S k) : d.Q e W2 base (fun k => ok k ∧ (¬ S k ∧ k < W.heap.size)) v xs :=
  Q_kept (Q_mono (Q_bound h) (fun k hk => ⟨hk.1, hne k hk.1, hk.2.2.1⟩)) hk (fun _ hk => hk.2.1)
theorem S_keptB (h : Kd.S d e W base ok v xs) (hk : Kept W W2 S) (hne : ∀ k, ok k → ¬ S k) : Kd.S d e W2 base (fun k => ok k ∧ (¬ S k ∧ k < W.heap.size)) v xs :=
  S_kept (S_mono (S_bound h) (fun k hk => ⟨hk.1, hne k hk.1, hk.2.2.1⟩)) hk (fun _ hk => hk.2.1)
theorem Q_old (hu : d.Q e W base ok u xs) (hb : Below W.heap.size W w1) : d.Q e w1 base (fun k => ok k ∧ k < W.heap.size) u xs := Q_mono (Q_below (Q_bound hu) hb) (fun _ h => ⟨h.1, h.2.2.1⟩)
theorem Q_oldK (hu : d.Q e W base (fun k => ok k ∧ k ≠ g) u xs) (hk : KeepBut W w1 g none) : d.Q e w1 base (fun k => ok k ∧ k < W.heap.size) u xs := Q_mono (Q_keep (Q_bound hu) hk (fun _ h => h.1.2)) (fun _ h => ⟨h.1.1, h.2.2.1⟩)
theorem Q_apart_nil (h : d.Q e W base ok u xs) : d.Q e W base (fun k => ok k ∧ some k ≠ (Value.slice none 0 0).ownBlock) u xs := Q_mono h (fun k hk => ⟨hk, by simp [Value.ownBlock]⟩)
theorem Q_told (h : d.Q e w1 base (fun k => ok k ∧ k < N) u xs) (hbase : ∀ k, v.ownBlock = some k → N ≤ k) : d.Q e w1 base (fun k => (ok k ∧ some k ≠ v.ownBlock) ∧ k < N) u xs :=
  Q_mono h (fun k hk => ⟨⟨hk.1, fun e => Nat.lt_irrefl _ (Nat.lt_of_lt_of_le hk.2 (hbase k e.symm))⟩, hk.2⟩)
end
end Kd
end Go.Proofs.YtnbkmaghdbhlnaaDoorW.PrintWords
namespace Go.Proofs.YtnbkmaghdbhlnaaDoorW.PrintWords
open Go.RowKit
/-- Beside a state: what was written is the state's, or new since. -/
theorem Kept.keepG {w W W2 : World} {S2 : Nat → Prop} {g : Nat} (h : KeepBut w W g none) (k : Kept W W2 S2) (hs : ∀ k, S2 k → k = g ∨ w.heap.size ≤ k) : KeepBut w W2 g none :=
  ⟨Nat.le_trans h.1 k.1, fun i hi hg hr => (k.2 i (Nat.lt_of_lt_of_le hi h.1) (fun h2 => (hs i h2).elim hg (fun h3 => by omega))).trans (h.2 i hi hg hr)⟩
namespace Kd
/-- A row that is only read, told by its value: its form, its length, what it leads to (in ok). e and base say nothing; they make it as0 the others are. -/
def V {α : Type} (d : Kd α) (_e : Nat) (W : World) (_base : Nat) (ok : Nat → Prop) (v : Value) (xs : List α) : Prop := ∃ A c, v = .slice A xs.length c ∧ xs.length ≤ c ∧ F d W ok A xs.length xs
section
variable {α β : Type} {d : Kd α} {e base base' n m c g N' lo hi : Nat} {ok ok' S : Nat → Prop} {w W w1 : World} {A : Option Addr} {ad : Addr} {u v v1 : Value} {xs : List α}
theorem V_map (h : V d e W base ok v xs) (hF : ∀ A, F d W ok A xs.length xs → F d w1 ok' A xs.length xs) : V d e w1 base' ok' v xs := by
  obtain ⟨A, c, hv, hl, hf⟩ := h
  exact ⟨A, c, hv, hl, hF A hf⟩
theorem V_mk (hl : xs.length ≤ c) (hf : F d W ok A xs.length xs) : V d e W base ok (.slice A xs.length c) xs := ⟨A, c, rfl, hl, hf⟩
theorem V_slice (h : V d e W base ok v xs) : ∃ A c, v = .slice A xs.length c := by
  obtain ⟨A, c, hv, _⟩ := h
  exact ⟨A, c, hv⟩
theorem V_at (h : V d e W base ok (.slice A n c) xs) : n = xs.length ∧ n ≤ c ∧ F d W ok A xs.length xs := by
  obtain ⟨A', c', hv, hl, hf⟩ := h
  injection hv with ha hn hc
  subst ha; subst hc
  exact ⟨hn, by rw [hn]; exact hl, hf⟩
theorem V_reads' (h : V d e W base ok (.slice A n c) xs) : n = xs.length ∧ n ≤ c ∧ d.C W A xs.length xs := ⟨(V_at h).1, (V_at h).2.1, F_now (V_at h).2.2⟩
theorem V_F (h : V d e W base ok (.slice A n c) xs) : F d W ok A n xs := by
  obtain ⟨hn, _, hf⟩ := V_at h
  rw [hn]
  exact hf
theorem V_nil (d : Kd α) (e : Nat) (W : World) (base : Nat) (ok : Nat → Prop) : V d e W base ok (.slice none 0 0) [] := ⟨none, 0, rfl, Nat.le_refl _, F_nil d W ok⟩
theorem R_V (h : d.R e W base ok v xs) : V d e W base' ok v xs := by
  obtain ⟨A, c, rfl⟩ := R_slice h
  exact ⟨A, c, rfl, (R_reads' h).2.1, R_F h⟩
theorem Q_V (h : d.Q e W base ok v xs) : V d e W base' ok v xs := by
  obtain ⟨A, c, rfl, hl⟩ := Q_slice h
  exact ⟨A, c, rfl, hl, Q_F h⟩
theorem S_V (h : Kd.S d e W base ok v xs) : V d e W base' ok v xs := R_V (S_R h)
theorem N_V (h : N d e W base ok v xs) : V d e W base' ok v xs := by
  obtain ⟨A, c, rfl⟩ := N_slice h
  exact ⟨A, c, rfl, (N_reads' h).2.1, N_F h⟩
theorem V_mono (h : V d e W base ok v xs) (hok : ∀ k, ok k → ok' k) : V d e W base ok' v xs := V_map h (fun _ hf => F_mono hf hok)
theorem V_bound (h : V d e W base ok v xs) : V d e W base (fun k => ok k ∧ k < W.heap.size) v xs := V_map h (fun _ hf => F_bound hf)
theorem V_lower (h : V d e W base ok v xs) (_ : base' ≤ base) : V d e W base' ok v xs := h
theorem V_step (h : V d e W base ok v xs) (hm : ∀ k, ok k → k < W.heap.size → w1.heap[k]? = W.heap[k]?) : V d e w1 base ok v xs := V_map h (fun _ hf => F_step hf hm)
theorem V_below (h : V d e W base ok v xs) (hb : Below W.heap.size W w1) : V d e w1 base ok v xs := V_map h (fun _ hf => F_below hf hb)
theorem V_alloc (h : V d e W base ok v xs) (o : Obj) : V d e (W.alloc o) base ok v xs := V_map h (fun _ hf => F_alloc hf o)
theorem V_drew (h : V d e W base ok v xs) : V d e W.drew base ok v xs := V_map h (fun _ hf => F_drew hf)
theorem V_drewN (h : V d e W base ok v xs) (m : Nat) : V d e (W.drewN m) base ok v xs := V_map h (fun _ hf => F_drewN hf m)
theorem V_grown (h : V d e W base ok v xs) {row : Option Nat} (hg : W.grownBy w1 row) (hok : ∀ k, ok k → some k ≠ row) : V d e w1 base ok v xs := V_map h (fun _ hf => F_grown hf hg hok)
theorem V_far (h : V d e W base ok v xs) {p : Addr} (hok : ∀ k, ok k → k ≠ p.block) (u : Value) : V d e (W.setCell p u) base ok v xs := V_map h (fun _ hf => F_far hf hok u)
theorem V_keep (h : V d e W base ok v xs) (hk : KeepBut W w1 g none) (hok : ∀ k, ok k → k ≠ g) : V d e w1 base ok v xs := V_map h (fun _ hf => F_keep hf hk hok)
theorem V_kept (h : V d e W base ok v xs) (hk : Kept W w1 S) (hok : ∀ k, ok k → ¬ S k) : V d e w1 base ok v xs := V_map h (fun _ hf => F_kept hf hk hok)
theorem V_after (h : V d e W base (fun k => ok k ∧ some k ≠ u.ownBlock) v xs) (hg : W.grownBy w1 u.ownBlock) (hat : v1.ownBlock = u.ownBlock ∨ ∃ b, v1.ownBlock = some b ∧ W.heap.size ≤ b) : V d e w1 base (fun k => ok k ∧ some k ≠ v1.ownBlock) v xs := V_map h (fun _ hf => F_after hf hg hat)
theorem V_afterv (h : V d e W base (fun k => ok k ∧ some k ≠ v.ownBlock) u xs) (hg : W.grownBy w1 v.ownBlock) (hat : v1.ownBlock = v.ownBlock ∨ ∃ b, v1.ownBlock = some b ∧ W.heap.size ≤ b) : V d e w1 base (fun k => ok k ∧ some k ≠ v1.ownBlock) u xs := V_after h hg hat
theorem N_afterv (h : N d e W base (fun k => ok k ∧ some k ≠ v.ownBlock) u xs) (hg : W.grownBy w1 v.ownBlock) (hat : v1.ownBlock = v.ownBlock ∨ ∃ b, v1.ownBlock = some b ∧ W.heap.size ≤ b) : N d e w1 base (fun k => ok k ∧ some k ≠ v1.ownBlock) u xs := N_after h hg hat
theorem V_apart_nil (h : V d e W base ok v xs) : V d e W base (fun k => ok k ∧ some k ≠ (Value.slice none 0 0).ownBlock) v xs := V_map h (fun _ hf => F_apart_nil hf)
theorem V_elder' (h : V d e W base ok v xs) (hbase : ∀ k, u.ownBlock = some k → W.heap.size ≤ k) (hb : Below W.heap.size W w1) : V d e w1 base (fun k => ok k ∧ some k ≠ u.ownBlock) v xs := V_map h (fun _ hf => F_elder' hf hbase hb)
theorem V_elderB (h : V d e W base ok v xs) (a : Nat) (ha : W.heap.size ≤ a) : V d e W base (fun k => ok k ∧ k ≠ a) v xs := V_map h (fun _ hf => F_elderB hf a ha)
theorem V_old (h : V d e W base ok v xs) (hb : Below W.heap.size W w1) : V d e w1 base (fun k => ok k ∧ k < W.heap.size) v xs := V_map h (fun _ hf => F_old hf hb)
theorem V_oldK (h : V d e W base (fun k => ok k ∧ k ≠ g) v xs) (hk : KeepBut W w1 g none) : V d e w1 base (fun k => ok k ∧ k < W.heap.size) v xs := V_map h (fun _ hf => F_oldK hf hk)
theorem V_told (h : V d e w1 base (fun k => ok k ∧ k < N') v xs) (hbase : ∀ k, u.ownBlock = some k → N' ≤ k) : V d e w1 base (fun k => (ok k ∧ some k ≠ u.ownBlock) ∧ k < N') v xs := V_map h (fun _ hf => F_told hf hbase)
theorem V_keptB (h : V d e W base ok v xs) (hk : Kept W w1 S) (hne : ∀ k, ok k → ¬ S k) : V d e w1 base (fun k => ok k ∧ (¬ S k ∧ k < W.heap.size)) v xs :=
  V_kept (V_mono (V_bound h) (fun k hk => ⟨hk.1, hne k hk.1, hk.2⟩)) hk (fun _ hk => hk.2.1)
theorem N_keptB (h : N d e W base ok v xs) (hk : Kept W w1 S) (hne : ∀ k, ok k → ¬ S k) : N d e w1 base (fun k => ok k ∧ (¬ S k ∧ k < W.heap.size)) v xs :=
  N_kept (N_mono (N_bound h) (fun k hk => ⟨hk.1, hne k hk.1, hk.2⟩)) hk (fun _ hk => hk.2.1)
theorem V_get (h : V d e W base ok (.slice (some ad) n c) xs) (z : α) (i : Int) (h0 : 0 ≤ i) (h1 : i < n) :
    ∃ cs, cs.length = d.sz ∧ FK d W ok (xs.getD i.toNat z) cs ∧ ∀ j u, cs[j]? = some u → W.cell? (ad.add (i.toNat * d.sz + j)) = some u := by
  obtain ⟨ad', cs, he, hcl, hK, hcc, _⟩ := F_get (V_F h) z i h0 h1
  injection he with he
  subst he
  exact ⟨cs, hcl, hK, hcc⟩
theorem F_take (h : F d W ok A xs.length xs) (hm : m ≤ xs.length) : F d W ok A (xs.take m).length (xs.take m) := F_imp h (fun _ hC => C_take hC hm)
theorem F_cut (h : F d W ok A xs.length xs) (hm : m ≤ xs.length) (hc : xs.length ≤ c) : F d W ok (if c = m then A else A.map (·.add (m * d.sz))) (xs.drop m).length (xs.drop m) := F_imp h (fun _ hC => C_drop hC hm hc)
theorem F_mid (h : F d W ok A xs.length xs) (h1 : lo ≤ hi) (h2 : hi ≤ xs.length) (hc : xs.length ≤ c) : F d W ok (if c = lo then A else A.map (·.add (lo * d.sz))) ((xs.take hi).drop lo).length ((xs.take hi).drop lo) := F_imp h (fun _ hC => C_mid hC h1 h2 hc)
/-- An element that is itself a row: its one cell. -/
theorem FK_slice_open {l : List α} {cs : List Value} (h : FK (Kd.slice e d) W ok l cs) : ∃ A c, cs = [.slice A l.length c] ∧ l.length ≤ c ∧ F d W ok A l.length l := by
  obtain ⟨A, c, rfl, hl, _⟩ := FK_now h
  refine ⟨A, c, rfl, hl, fun W' hW => ?_⟩
  obtain ⟨A', c', he, _, g'⟩ := h W' hW
  injection he with he _
  injection he with ha _ _
  rw [ha]
  exact g'
theorem FK_slice_mk {l : List α} (hl : l.length ≤ c) (hf : F d W ok A l.length l) : FK (Kd.slice e d) W ok l [.slice A l.length c] := fun W' hW => ⟨A, c, rfl, hl, hf W' hW⟩
theorem foot_int {k : IntKind} {l : List Int} (h : (Kd.int k).C w (some ad) n l) (i : Int) (h0 : 0 ≤ i) (h1 : i < n) : w.cell? (ad.add i.toNat) = some (.int k (rd l i)) := by
  obtain ⟨ad', he, hc⟩ := at_int h i h0 h1
  injection he with he
  subst he
  exact hc
theorem foot_bool {l : List Bool} (h : Kd.bool.C w (some ad) n l) (i : Int) (h0 : 0 ≤ i) (h1 : i < n) : w.cell? (ad.add i.toNat) = some (.bool (rdOf false l i)) := by
  obtain ⟨ad', he, hc⟩ := at_bool h i h0 h1
  injection he with he
  subst he
  exact hc
theorem foot_string {l : List ByteArray} (h : Kd.string.C w (some ad) n l) (i : Int) (h0 : 0 ≤ i) (h1 : i < n) : w.cell? (ad.add i.toNat) = some (.string (rdOf ByteArray.empty l i)) := by
  obtain ⟨ad', he, hc⟩ := at_string h i h0 h1
  injection he with he
  subst he
  exact hc
theorem C_kept_keep {l : List α} (h : ∀ W', Kept w W' S → d.C W' A n l) (hk : Kept w W S) (hg : S g ∨ w.heap.size ≤ g) : ∀ W', KeepBut W W' g none → d.C W' A n l := fun W' k => h W' (hk.of_keep k hg)
theorem C_kept_ownV (h : V d e W base ok (.slice A n c) xs) (hok : ∀ k, ok k → ¬ S k) : ∀ W', Kept W W' S → d.C W' A n xs := fun W' hk => by
  have h2 := V_reads' (V_kept h hk hok)
  rw [h2.1]
  exact h2.2.2
theorem C_foot_ownV (h : V d e W base ok (.slice A n c) xs) (hok : ∀ k, ok k → k ≠ g) : ∀ W', KeepBut W W' g none → d.C W' A n xs := fun W' hk => by
  have h2 := V_reads' (V_keep h hk hok)
  rw [h2.1]
  exact h2.2.2
theorem R_newM {M : Nat → Prop} (h : d.R e w1 W.heap.size ok v xs) (hle : w.heap.size ≤ W.heap.size) (hM : ∀ k, w.heap.size ≤ k → M k) : d.R e w1 W.heap.size (fun k => M k ∧ ok k) v xs := R_mono (R_bound h) (fun k hk => ⟨hM k (Nat.le_trans hle hk.2.1), hk.1⟩)
theorem Q_newM {M : Nat → Prop} (h : d.Q e w1 W.heap.size ok v xs) (hle : w.heap.size ≤ W.heap.size) (hM : ∀ k, w.heap.size ≤ k → M k) : d.Q e w1 W.heap.size (fun k => M k ∧ ok k) v xs := Q_mono (Q_bound h) (fun k hk => ⟨hM k (Nat.le_trans hle hk.2.1), hk.1⟩)
theorem S_newM {M : Nat → Prop} (h : Kd.S d e w1 W.heap.size ok v xs) (hle : w.heap.size ≤ W.heap.size) (hM : ∀ k, w.heap.size ≤ k → M k) : Kd.S d e w1 W.heap.size (fun k => M k ∧ ok k) v xs := S_mono (S_bound h) (fun k hk => ⟨hM k (Nat.le_trans hle hk.2.1), hk.1⟩)
end
end Kd
end Go.Proofs.YtnbkmaghdbhlnaaDoorW.PrintWords

end

section
/- What the library's tables hold, as the calls that decode characters and look for texts want it; and that it stays where memory only grows. -/
set_option linter.unusedVariables false
set_option linter.unusedSimpArgs false
namespace Go.Proofs.YtnbkmaghdbhlnaaDoor.B
open Go.RowKit Go.Proofs.YtnbkmaghdbhlnaaDoorW.PrintWords

/-- The two tables of unicode/utf8, and the library's MaxLen, which holds some number. -/
def GlobG (w : World) : Prop :=
  Lib.Utf8Tabs 0 1 w ∧ ∃ m, w.cell? ⟨2, 0, none⟩ = some (.int .i64 m)
theorem GlobG.below {w w1 : World} (hb : Below w.heap.size w w1) (h : GlobG w) : GlobG w1 := by
  obtain ⟨⟨h1, h2⟩, m, h3⟩ := h
  exact ⟨⟨fun c hc => pw_cell_below hb (h1 c hc), fun i hi => ⟨pw_cell_below hb (h2 i hi).1, pw_cell_below hb (h2 i hi).2⟩⟩, m, pw_cell_below hb h3⟩
/-- The same where only what lies below some block is told to stay, if the tables lie below it. -/
def GBelow (n₀ : Nat) : Prop := 0 < n₀ ∧ 1 < n₀ ∧ 2 < n₀
theorem GlobG.gbelow {w : World} (h : GlobG w) : GBelow w.heap.size :=
  ⟨World.block_lt_of_cell? w _ (h.1.1 0 (by omega)), World.block_lt_of_cell? w _ (h.1.2 0 (by omega)).1, by obtain ⟨m, hm⟩ := h.2; exact World.block_lt_of_cell? w _ hm⟩
theorem GBelow.mono {n m : Nat} (h : GBelow n) (hm : n ≤ m) : GBelow m := ⟨Nat.lt_of_lt_of_le h.1 hm, Nat.lt_of_lt_of_le h.2.1 hm, Nat.lt_of_lt_of_le h.2.2 hm⟩
theorem GlobG.belowN {n₀ : Nat} {w w1 : World} (h : GlobG w) (hn : GBelow n₀) (hb : Below n₀ w w1) : GlobG w1 := by
  obtain ⟨⟨h1, h2⟩, m, h3⟩ := h
  exact ⟨⟨fun c hc => (hb.cell (p := ⟨_, c, none⟩) hn.1).trans (h1 c hc), fun i hi => ⟨(hb.cell (p := ⟨_, _, none⟩) hn.2.1).trans (h2 i hi).1, (hb.cell (p := ⟨_, _, none⟩) hn.2.1).trans (h2 i hi).2⟩⟩, m, (hb.cell (p := ⟨_, _, none⟩) hn.2.2).trans h3⟩
/-- '[]byte(s)': a new row that is only read. -/
def conv_bytes31.f (s : ByteArray) : Option (List Int) := if s.size ≤ 9223372036854775807 then some (bytesOf s) else none
end Go.Proofs.YtnbkmaghdbhlnaaDoor.B

end

section
/- What a row's list gives (the two tables, MaxLen); a world for the witness; what the bound gives. -/
set_option linter.unusedVariables false
set_option linter.unusedSimpArgs false
namespace Go.Proofs.YtnbkmaghdbhlnaaDoor.R
open Go.ChangeShapes Go.WideShapes Go.ChangeAt Go.RowKit

theorem own : ownKnob Tryd.prog.godebug = none := by kernel_rfl
def laidL : List (String × DataW Unit) := [("unicode/utf8.acceptRanges", Rows.laid_unicode_utf8_acceptRanges), ("unicode/utf8.first", Rows.laid_unicode_utf8_first)]
theorem accept_eq : (Rows.laid_unicode_utf8_acceptRanges : DataW Unit) = Lib.acceptData := by kernel_rfl
theorem first_eq : Rows.laid_unicode_utf8_first = Lib.firstData := Pinned.utf8First_eq
/-- No handle stands in the list. -/
theorem met_of {W : World} (h : laidMetH Tryd.prog laidL W) : laidMet Tryd.prog laidL W := by
  have e : (laidL.filter fun x => x.2.handleName?.isSome) = [] := by kernel_rfl
  unfold laidMetH at h
  rw [e] at h
  exact h
theorem glob {W : World} (h : laidMetH Tryd.prog laidL W) (hsh : W.ShapedOpen Tryd.prog) : B.GlobG W := by
  have hm := met_of h
  refine ⟨?_, ?_⟩
  · have h3 : Lib.VarReads Tryd.prog W "unicode/utf8.first" Lib.firstData := by rw [← first_eq]; exact Lib.laidMet.reads hm (.tail _ (.head _))
    have h4 : Lib.VarReads Tryd.prog W "unicode/utf8.acceptRanges" Lib.acceptData := by rw [← accept_eq]; exact Lib.laidMet.reads hm (.head _)
    exact utf8Tabs_of_reads (ρ := Tryd.lays260_ren) Tryd.lays260 ⟨by kernel_rfl, by kernel_rfl, by kernel_rfl, by kernel_rfl, by kernel_rfl, by kernel_rfl, by kernel_rfl⟩ h3 h4
  · exact cell_of_shapedOpen_int (P := Tryd.prog) (g := 2) (t := 3) (zero := #[.int .i64 0]) hsh (of_decide_eq_true (by kernel_rfl)) (by kernel_rfl) rfl (by kernel_rfl) (by kernel_rfl) Tryd.underlying3
/-- A world for the witness: the settled one, the two tables holding their numbers. -/
noncomputable def laidWorld (os : Os) : World :=
  let w0 := World.holding Tryd.prog os ⟨#[], #[], []⟩
  let put (h : Array Obj) (g : Nat) (cs : Array Value) : Array Obj := h.modify g fun
    | .cells _ t frozen => .cells cs t frozen
    | o => o
  let h1 := put w0.heap 0 (Lib.firstTab.map fun z => Value.int .u8 z).toArray
  let h2 := put h1 1 ((List.range 16).flatMap fun i => [Value.int .u8 (Lib.accLo i), Value.int .u8 (Lib.accHi i)]).toArray
  { w0 with heap := h2 }
theorem laid_met (os : Os) (args : Array Value) : laidMet Tryd.prog laidL ((laidWorld os).forCall (fun _ _ => 0) ⟨#[], args, []⟩).memory :=
  laidMet_of_run' 10 (by kernel_rfl) (by kernel_rfl)
end Go.Proofs.YtnbkmaghdbhlnaaDoor.R

end

section
/- UTF-8, plain: a text as its characters' octets. No program here. -/
set_option linter.unusedVariables false
set_option linter.unusedSimpArgs false
namespace Go.Proofs.YtnbkmaghdbhlnaaDoor.P
open Go.Lib

/-- c are the octets of the character r. -/
def Ch (c : List UInt8) (r : Nat) : Prop := c ≠ [] ∧ decodeL c = (r, c.length) ∧ ¬ (r = 65533 ∧ c.length = 1)
theorem getD_app (c t : List UInt8) (k : Nat) (h : k < c.length) : (c ++ t).getD k 0 = c.getD k 0 := by
  simp [List.getD, List.getElem?_append_left h]
theorem Ch.pos {c : List UInt8} {r : Nat} (h : Ch c r) : 0 < c.length := List.length_pos_iff.2 h.1
theorem decN2 {n b0 b1 : Nat} (b2 b3 : Nat) (h0 : b0 / 32 = 6) (hn : 1 < n) (h1 : b1 / 64 = 2) (hv : 128 ≤ b0 % 32 * 64 + b1 % 64) :
    decodeN n b0 b1 b2 b3 = (b0 % 32 * 64 + b1 % 64, 2) := by
  unfold decodeN; rw [if_neg (by omega), if_pos ⟨by omega, by omega, by omega⟩, if_pos (by omega)]
theorem decN3 {n b0 b1 b2 : Nat} (b3 : Nat) (h0 : b0 / 16 = 14) (hn : 2 < n) (h1 : b1 / 64 = 2) (h2 : b2 / 64 = 2) (hv : 2048 ≤ b0 % 16 * 4096 + b1 % 64 * 64 + b2 % 64)
    (hw : b0 % 16 * 4096 + b1 % 64 * 64 + b2 % 64 < 55296 ∨ 57344 ≤ b0 % 16 * 4096 + b1 % 64 * 64 + b2 % 64) :
    decodeN n b0 b1 b2 b3 = (b0 % 16 * 4096 + b1 % 64 * 64 + b2 % 64, 3) := by
  unfold decodeN; rw [if_neg (by omega), if_neg (by omega), if_pos ⟨by omega, ⟨by omega, by omega⟩, by omega, by omega⟩, if_pos (by omega)]
theorem decN4 {n b0 b1 b2 b3 : Nat} (h0 : b0 / 8 = 30) (hn : 3 < n) (h1 : b1 / 64 = 2) (h2 : b2 / 64 = 2) (h3 : b3 / 64 = 2) (hv : 65536 ≤ b0 % 8 * 262144 + b1 % 64 * 4096 + b2 % 64 * 64 + b3 % 64)
    (hw : b0 % 8 * 262144 + b1 % 64 * 4096 + b2 % 64 * 64 + b3 % 64 ≤ 1114111) :
    decodeN n b0 b1 b2 b3 = (b0 % 8 * 262144 + b1 % 64 * 4096 + b2 % 64 * 64 + b3 % 64, 4) := by
  unfold decodeN; rw [if_neg (by omega), if_neg (by omega), if_neg (by omega), if_pos ⟨by omega, ⟨by omega, by omega⟩, ⟨by omega, by omega⟩, by omega, by omega⟩, if_pos (by omega)]
/-- What follows a character does not matter. -/
theorem Ch.app {c : List UInt8} {r : Nat} (h : Ch c r) (t : List UInt8) : decodeL (c ++ t) = (r, c.length) := by
  obtain ⟨hne, hd, hb⟩ := h
  have hl : 0 < c.length := List.length_pos_iff.2 hne
  rw [decodeL_N] at hd ⊢
  rw [getD_app c t 0 hl]
  by_cases h1 : c.length = 1
  · by_cases h0 : (c.getD 0 0).toNat < 128
    · rw [decodeN_ascii _ _ _ _ _ h0] at hd ⊢; exact hd
    · rw [decodeN_alone _ _ _ _ _ (by omega) (.inl (by omega))] at hd
      injection hd with e1 e2
      exact absurd ⟨e1.symm, e2.symm⟩ hb
  · rw [← hd]
    exact decodeN_more c.length (c ++ t).length _ _ _ _ _ _ _ (by omega) (by simp) (by rw [hd]) (fun h => by rw [getD_app c t 1 h]) (fun h => by rw [getD_app c t 2 h]) (fun h => by rw [getD_app c t 3 h])
/-- What a text begins with. -/
theorem Ch.take {l : List UInt8} {r n : Nat} (hne : l ≠ []) (hd : decodeL l = (r, n)) (hb : ¬ (r = 65533 ∧ n = 1)) : Ch (l.take n) r ∧ n ≤ l.length ∧ 0 < n := by
  have hl : 0 < l.length := List.length_pos_iff.2 hne
  rw [decodeL_N] at hd
  rcases decodeN_shape l.length (l.getD 0 0).toNat (l.getD 1 0).toNat (l.getD 2 0).toNat (l.getD 3 0).toNat with ⟨c, e⟩ | ⟨c1, c2, c3, cv, e⟩ | ⟨c1, c2, c3, c4, cv, cs, e⟩ | ⟨c1, c2, c3, c4, c5, cv, cw, e⟩ | e
  all_goals (rw [e] at hd; injection hd with e1 e2)
  · subst e2
    refine ⟨?_, by omega, by omega⟩
    rw [takeA l hl]
    refine ⟨by simp, ?_, by simp; omega⟩
    rw [decodeL_N]
    simp only [List.getD_cons_zero]
    rw [decodeN_ascii _ _ _ _ _ c, e1]; rfl
  · subst e2
    refine ⟨?_, by omega, by omega⟩
    rw [takeB l c2]
    refine ⟨by simp, ?_, by simp⟩
    rw [decodeL_N]
    simp only [List.getD_cons_zero, List.getD_cons_succ, List.length_cons, List.length_nil]
    rw [decN2 _ _ c1 (by omega) c3 cv, e1]
  · subst e2
    refine ⟨?_, by omega, by omega⟩
    rw [takeC l c2]
    refine ⟨by simp, ?_, by simp⟩
    rw [decodeL_N]
    simp only [List.getD_cons_zero, List.getD_cons_succ, List.length_cons, List.length_nil]
    rw [decN3 _ c1 (by omega) c3 c4 cv cs, e1]
  · subst e2
    refine ⟨?_, by omega, by omega⟩
    rw [takeD l c2]
    refine ⟨by simp, ?_, by simp⟩
    rw [decodeL_N]
    simp only [List.getD_cons_zero, List.getD_cons_succ, List.length_cons, List.length_nil]
    rw [decN4 c1 (by omega) c3 c4 c5 cv cw, e1]
  · exact absurd ⟨e1.symm, e2.symm⟩ hb
/-- Lead and following octets. -/
theorem Ch.kinds {c : List UInt8} {r : Nat} (h : Ch c r) : (c.getD 0 0).toNat / 64 ≠ 2 ∧ ∀ i, 1 ≤ i → i < c.length → (c.getD i 0).toNat / 64 = 2 := by
  obtain ⟨hne, hd, hb⟩ := h
  have hl : 0 < c.length := List.length_pos_iff.2 hne
  have k0 := (c.getD 0 0).toNat_lt
  rw [decodeL_N] at hd
  rcases decodeN_shape c.length (c.getD 0 0).toNat (c.getD 1 0).toNat (c.getD 2 0).toNat (c.getD 3 0).toNat with ⟨c0, e⟩ | ⟨c1, c2, c3, cv, e⟩ | ⟨c1, c2, c3, c4, cv, cs, e⟩ | ⟨c1, c2, c3, c4, c5, cv, cw, e⟩ | e
  all_goals (rw [e] at hd; injection hd with e1 e2)
  · exact ⟨by omega, fun i h1 h2 => by omega⟩
  · refine ⟨by omega, fun i h1 h2 => ?_⟩
    obtain rfl : i = 1 := by omega
    exact c3
  · refine ⟨by omega, fun i h1 h2 => ?_⟩
    obtain rfl | rfl : i = 1 ∨ i = 2 := by omega
    · exact c3
    · exact c4
  · refine ⟨by omega, fun i h1 h2 => ?_⟩
    obtain rfl | rfl | rfl : i = 1 ∨ i = 2 ∨ i = 3 := by omega
    · exact c3
    · exact c4
    · exact c5
  · exact absurd ⟨e1.symm, e2.symm⟩ hb
/-- A small character is its octet; the octets of a greater one are from 128 on. -/
theorem Ch.sizes {c : List UInt8} {r : Nat} (h : Ch c r) : (∃ b : UInt8, c = [b] ∧ b.toNat = r ∧ r < 128) ∨ (128 ≤ r ∧ 1 < c.length ∧ ∀ b ∈ c, 128 ≤ b.toNat) := by
  have hk := h.kinds
  obtain ⟨hne, hd, hb⟩ := h
  have hl : 0 < c.length := List.length_pos_iff.2 hne
  have k0 := (c.getD 0 0).toNat_lt
  have key : 128 ≤ r → 1 < c.length → 128 ≤ (c.getD 0 0).toNat → (∃ b : UInt8, c = [b] ∧ b.toNat = r ∧ r < 128) ∨ (128 ≤ r ∧ 1 < c.length ∧ ∀ b ∈ c, 128 ≤ b.toNat) := fun k1 k2 k3 => by
    refine .inr ⟨k1, k2, fun b hb => ?_⟩
    obtain ⟨i, hi, rfl⟩ := List.getElem_of_mem hb
    have hg : c[i] = c.getD i 0 := by simp [List.getD, hi]
    rw [hg]
    by_cases hi0 : i = 0
    · subst hi0; omega
    · have := hk.2 i (by omega) hi; omega
  rw [decodeL_N] at hd
  rcases decodeN_shape c.length (c.getD 0 0).toNat (c.getD 1 0).toNat (c.getD 2 0).toNat (c.getD 3 0).toNat with ⟨c0, e⟩ | ⟨c1, c2, c3, cv, e⟩ | ⟨c1, c2, c3, c4, cv, cs, e⟩ | ⟨c1, c2, c3, c4, c5, cv, cw, e⟩ | e
  all_goals (rw [e] at hd; injection hd with e1 e2)
  · left
    refine ⟨c.getD 0 0, ?_, e1, by omega⟩
    match c, hne, e2 with
    | [b], _, _ => rfl
  · exact key (by omega) (by omega) (by omega)
  · exact key (by omega) (by omega) (by omega)
  · exact key (by omega) (by omega) (by omega)
  · exact absurd ⟨e1.symm, e2.symm⟩ hb
theorem Ch.le {c : List UInt8} {r : Nat} (h : Ch c r) : r ≤ 1114111 ∧ (r < 55296 ∨ 57343 < r) ∧ c.length ≤ 4 := by
  obtain ⟨hne, hd, hb⟩ := h
  have k0 := (c.getD 0 0).toNat_lt
  rw [decodeL_N] at hd
  rcases decodeN_shape c.length (c.getD 0 0).toNat (c.getD 1 0).toNat (c.getD 2 0).toNat (c.getD 3 0).toNat with ⟨c0, e⟩ | ⟨c1, c2, c3, cv, e⟩ | ⟨c1, c2, c3, c4, cv, cs, e⟩ | ⟨c1, c2, c3, c4, c5, cv, cw, e⟩ | e
  all_goals (rw [e] at hd; injection hd with e1 e2)
  all_goals omega
theorem Ch.enc {c : List UInt8} {r : Nat} (h : Ch c r) : encodeRune (r : Int) = c := by
  have he := encode_decode c h.1 (by rw [h.2.1]; exact h.2.2)
  rw [h.2.1, List.take_length] at he
  exact he
theorem toB (z : Int) (h : 0 ≤ z) (h2 : z < 256) : (z.toNat.toUInt8).toNat = z.toNat := by
  show (UInt8.ofNat z.toNat).toNat = _
  rw [UInt8.toNat_ofNat_of_lt' (by show z.toNat < 256; omega)]
set_option maxHeartbeats 1000000 in
/-- A character's octets are those that it is encoded by. -/
theorem Ch.of_enc (r : Nat) (h1 : r ≤ 1114111) (h2 : r < 55296 ∨ 57343 < r) : Ch (encodeRune (r : Int)) r := by
  unfold encodeRune
  by_cases a1 : r ≤ 127
  · rw [encodeRuneZ_one (by omega) (by omega)]
    refine ⟨by simp, ?_, by simp; omega⟩
    rw [decodeL_N]
    simp only [List.map_cons, List.map_nil, List.getD_cons_zero, List.length_cons, List.length_nil]
    rw [toB _ (by omega) (by omega), Int.toNat_natCast, decodeN_ascii _ _ _ _ _ (by omega)]
  by_cases a2 : r ≤ 2047
  · rw [encodeRuneZ_two (by omega) (by omega)]
    refine ⟨by simp, ?_, by simp⟩
    rw [decodeL_N]
    simp only [List.map_cons, List.map_nil, List.getD_cons_zero, List.getD_cons_succ, List.length_cons, List.length_nil]
    rw [toB _ (by omega) (by omega), toB (128 + (r : Int) % 64) (by omega) (by omega), decN2 _ _ (by omega) (by omega) (by omega) (by omega)]
    exact Prod.ext (by simp only; omega) rfl
  by_cases a3 : r ≤ 65535
  · rw [encodeRuneZ_three (by omega)]
    refine ⟨by simp, ?_, by simp⟩
    rw [decodeL_N]
    simp only [List.map_cons, List.map_nil, List.getD_cons_zero, List.getD_cons_succ, List.length_cons, List.length_nil]
    rw [toB _ (by omega) (by omega), toB (128 + (r : Int) / 64 % 64) (by omega) (by omega), toB (128 + (r : Int) % 64) (by omega) (by omega), decN3 _ (by omega) (by omega) (by omega) (by omega) (by omega) (by omega)]
    exact Prod.ext (by simp only; omega) rfl
  · rw [encodeRuneZ_four (by omega) (by omega)]
    refine ⟨by simp, ?_, by simp⟩
    rw [decodeL_N]
    simp only [List.map_cons, List.map_nil, List.getD_cons_zero, List.getD_cons_succ, List.length_cons, List.length_nil]
    rw [toB _ (by omega) (by omega), toB (128 + (r : Int) / 4096 % 64) (by omega) (by omega), toB (128 + (r : Int) / 64 % 64) (by omega) (by omega), toB (128 + (r : Int) % 64) (by omega) (by omega), decN4 (by omega) (by omega) (by omega) (by omega) (by omega) (by omega) (by omega)]
    exact Prod.ext (by simp only; omega) rfl
/-- A text: its characters' octets, its characters. -/
inductive Txt : List UInt8 → List (List UInt8) → List Nat → Prop
  | nil : Txt [] [] []
  | cons {c : List UInt8} {r : Nat} {l : List UInt8} {cs : List (List UInt8)} {rs : List Nat} : Ch c r → Txt l cs rs → Txt (c ++ l) (c :: cs) (r :: rs)
theorem valid_ch {c : List UInt8} {r : Nat} (h : Ch c r) (t : List UInt8) : validD (c ++ t) = validD t := by
  rw [validD_step _ (by simp [h.1]), h.app t, if_neg h.2.2, List.drop_left]
theorem Txt.valid {l : List UInt8} {cs : List (List UInt8)} {rs : List Nat} (h : Txt l cs rs) (t : List UInt8) : validD (l ++ t) = validD t := by
  induction h with
  | nil => rfl
  | cons hc _ ih => rw [List.append_assoc, valid_ch hc, ih]
theorem Txt.valid' {l : List UInt8} {cs : List (List UInt8)} {rs : List Nat} (h : Txt l cs rs) : validD l = true := by
  have := h.valid []
  rw [List.append_nil] at this
  rw [this]; rfl
theorem txt_of_valid : ∀ (n : Nat) (l : List UInt8), l.length ≤ n → validD l = true → ∃ cs rs, Txt l cs rs
  | n, [], _, _ => ⟨[], [], .nil⟩
  | 0, _ :: _, h, _ => by simp at h
  | n + 1, b :: t, h, hv => by
    rw [validD_step _ (by simp)] at hv
    split at hv
    · cases hv
    · rename_i hb
      obtain ⟨hc, hle, hp⟩ := Ch.take (l := b :: t) (r := (decodeL (b :: t)).1) (n := (decodeL (b :: t)).2) (by simp) (Prod.ext (by simp only) (by simp only)) hb
      obtain ⟨cs, rs, ht⟩ := txt_of_valid n _ (by rw [List.length_drop]; simp only [List.length_cons] at h ⊢; omega) hv
      exact ⟨_, _, by have := Txt.cons hc ht; rwa [List.take_append_drop] at this⟩
theorem Txt.of {l : List UInt8} (h : validD l = true) : ∃ cs rs, Txt l cs rs := txt_of_valid l.length l (Nat.le_refl _) h
theorem Txt.app {l m : List UInt8} {cs ds : List (List UInt8)} {rs ss : List Nat} (h : Txt l cs rs) (k : Txt m ds ss) : Txt (l ++ m) (cs ++ ds) (rs ++ ss) := by
  induction h with
  | nil => exact k
  | cons hc _ ih => rw [List.append_assoc]; exact .cons hc ih
theorem Txt.flat {l : List UInt8} {cs : List (List UInt8)} {rs : List Nat} (h : Txt l cs rs) : cs.flatten = l := by
  induction h with
  | nil => rfl
  | cons _ _ ih => rw [List.flatten_cons, ih]
theorem Txt.lens {l : List UInt8} {cs : List (List UInt8)} {rs : List Nat} (h : Txt l cs rs) : cs.length = rs.length ∧ cs.length ≤ l.length := by
  induction h with
  | nil => exact ⟨rfl, Nat.le_refl _⟩
  | cons hc _ ih => have := hc.pos; simp only [List.length_cons, List.length_append]; omega
theorem Txt.uniq {l : List UInt8} {cs ds : List (List UInt8)} {rs ss : List Nat} (h : Txt l cs rs) (k : Txt l ds ss) : cs = ds ∧ rs = ss := by
  induction h generalizing ds ss with
  | nil =>
    generalize hm : ([] : List UInt8) = m at k
    cases k with
    | nil => exact ⟨rfl, rfl⟩
    | cons hc _ => exact absurd (List.append_eq_nil_iff.1 hm.symm).1 hc.1
  | @cons c r l cs rs hc ht ih =>
    generalize hm : c ++ l = m at k
    cases k with
    | nil => exact absurd (List.append_eq_nil_iff.1 hm).1 hc.1
    | @cons d q m ds ss hd hk =>
      have e1 := hc.app l
      rw [hm, hd.app m] at e1
      injection e1 with e2 e3
      obtain ⟨rfl, rfl⟩ := List.append_inj hm e3.symm
      obtain ⟨rfl, rfl⟩ := ih hk
      exact ⟨rfl, by rw [e2]⟩
/-- WHERE A CHARACTER BEGINS, A TEXT MAY BE CUT. -/
theorem Txt.cut {l : List UInt8} {cs : List (List UInt8)} {rs : List Nat} (h : Txt l cs rs) : ∀ (a b : List UInt8), l = a ++ b → (∀ x, b.head? = some x → x.toNat / 64 ≠ 2) → validD a = true ∧ validD b = true := by
  induction h with
  | nil =>
    intro a b e _
    obtain ⟨rfl, rfl⟩ := List.append_eq_nil_iff.1 e.symm
    exact ⟨rfl, rfl⟩
  | @cons c r l cs rs hc ht ih =>
    intro a b e hb
    by_cases hl : c.length ≤ a.length
    · have hca : c = a.take c.length := by
        have := congrArg (List.take c.length) e
        rwa [List.take_left, List.take_append_of_le_length hl] at this
      have hla : l = a.drop c.length ++ b := by
        have := congrArg (List.drop c.length) e
        rwa [List.drop_left, List.drop_append_of_le_length hl] at this
      obtain ⟨h1, h2⟩ := ih _ _ hla hb
      refine ⟨?_, h2⟩
      have e2 : a = c ++ a.drop c.length := by
        conv => lhs; rw [← List.take_append_drop c.length a, ← hca]
      rw [e2, valid_ch hc, h1]
    · by_cases ha : a = []
      · subst ha
        rw [List.nil_append] at e
        subst e
        exact ⟨rfl, (Txt.cons hc ht).valid'⟩
      · exfalso
        have hp : 0 < a.length := List.length_pos_iff.2 ha
        have hk := hc.kinds.2 a.length hp (by omega)
        have hg : (c ++ l)[a.length]? = c[a.length]? := List.getElem?_append_left (by omega)
        rw [e, List.getElem?_append_right (Nat.le_refl _), Nat.sub_self] at hg
        have hc2 : c[a.length]? = some (c.getD a.length 0) := by
          rw [List.getElem?_eq_getElem (by omega)]; simp [List.getD, show a.length < c.length by omega]
        rw [hc2] at hg
        exact hb _ (by rw [List.head?_eq_getElem?, hg]) hk
/-- Letters moved within the small characters. -/
theorem Txt.map {l : List UInt8} {cs : List (List UInt8)} {rs : List Nat} (h : Txt l cs rs) (f : Int → Int) (g : UInt8 → UInt8) (hf : ∀ r : Int, 128 ≤ r → f r = r)
    (hg : ∀ b : UInt8, b.toNat < 128 → f (b.toNat : Int) = ((g b).toNat : Int) ∧ (g b).toNat < 128) (hh : ∀ b : UInt8, 128 ≤ b.toNat → g b = b) :
    mapD f l = l.map g ∧ validD (l.map g) = true := by
  induction h with
  | nil => exact ⟨rfl, rfl⟩
  | @cons c r l cs rs hc ht ih =>
    obtain ⟨i1, i2⟩ := ih
    have hne : c ++ l ≠ [] := by simp [hc.1]
    rcases hc.sizes with ⟨b, rfl, rfl, hb⟩ | ⟨hr, _, hall⟩
    · obtain ⟨g1, g2⟩ := hg b hb
      rw [mapD_step f _ hne, hc.app l, g1, if_pos (by omega), List.drop_left, i1]
      have he : encodeRune ((g b).toNat : Int) = [g b] := by
        unfold encodeRune
        rw [encodeRuneZ_one (by omega) (by omega)]
        simp
      rw [he]
      refine ⟨by simp, ?_⟩
      simp only [List.map_append, List.map_cons, List.map_nil, List.cons_append, List.nil_append]
      rw [validD_cons _ _ g2, i2]
    · have hcm : c.map g = c := by
        conv => rhs; rw [← List.map_id c]
        exact List.map_congr_left (fun b hb => hh b (hall b hb))
      rw [mapD_same f _ hne (by rw [hc.app l]; exact hf _ (by omega)) (by rw [hc.app l]; exact hc.2.2), hc.app l, List.take_left, List.drop_left, i1, List.map_append, hcm]
      exact ⟨rfl, by rw [valid_ch hc, i2]⟩
end Go.Proofs.YtnbkmaghdbhlnaaDoor.P

end

section
namespace Go.Proofs.YtnbkmaghdbhlnaaDoorW.PrintLast
open Go.Proofs.YtnbkmaghdbhlnaaDoorW.PrintWords (Aside0)
def needsOf (md : Region.Mode) (o : Oper) : List Nat := (o.after.toList.filter (fun e => Region.binds md e)).map (fun e => e.on)
def clashOf (md : Region.Mode) (ops : Array Oper) (i : Nat) (oi : Oper) : List Nat := (List.range ops.size).filter fun j => !(j == i) && match ops[j]? with
  | some oj => !(oj.after.any (fun e => Region.binds md e && e.on == i) || oi.apart ops oj)
  | none => false
/-- No select in it; for each operation: what must have come up before it, and what may not come up behind it if it is taken first. -/
def rtab (md : Region.Mode) (ops : Array Oper) : Bool × List (List Nat × List Nat) := (Region.noSelect ops, (List.range ops.size).map fun i => match ops[i]? with
  | some o => (needsOf md o, clashOf md ops i o)
  | none => ([], []))
def readyAt (T : List (List Nat × List Nat)) (l : List Bool) (i : Nat) : Bool := !l.getD i true && match T[i]? with
  | some r => r.1.all (fun j => l.getD j false)
  | none => false
def readyT (T : List (List Nat × List Nat)) (l : List Bool) : List Nat := (List.range T.length).filter (readyAt T l)
section
variable {md : Region.Mode} {ops : Array Oper} {T : Bool × List (List Nat × List Nat)} {l l' li lj lk : Array Bool} {ds : List Nat} {i j k : Nat}
theorem gd (l : Array Bool) (j : Nat) (b : Bool) : l.getD j b = l.toList.getD j b := by simp [Array.getD_eq_getD_getElem?, List.getD_eq_getElem?_getD]
theorem needs_all (o : Oper) (p : Nat → Bool) : o.after.all (fun e => !Region.binds md e || p e.on) = (needsOf md o).all p := by
  unfold needsOf
  rw [← Array.all_toList]
  induction o.after.toList with
  | nil => rfl
  | cons e r ih =>
    rw [List.all_cons, ih, List.filter_cons]
    cases h : Region.binds md e <;> simp
theorem rtab_length : (rtab md ops).2.length = ops.size := by simp [rtab]
theorem rtab_some {o : Oper} (h : ops[i]? = some o) : (rtab md ops).2[i]? = some (needsOf md o, clashOf md ops i o) := by
  have hi := (Array.getElem?_eq_some_iff.1 h).1
  unfold rtab
  rw [List.getElem?_map, List.getElem?_range hi, Option.map_some, h]
theorem rtab_none (h : ops[i]? = none) : (rtab md ops).2[i]? = none := by
  have hi : ops.size ≤ i := Array.getElem?_eq_none_iff.1 h
  exact List.getElem?_eq_none (by rw [rtab_length]; exact hi)
theorem readyAt_eq : readyAt (rtab md ops).2 l.toList i = (!l.getD i true && ((ops[i]?).map (·.after.all fun e => !Region.binds md e || l.getD e.on false)).getD false) := by
  unfold readyAt
  rw [gd]
  cases h : ops[i]? with
  | none => rw [rtab_none h]; rfl
  | some o =>
    rw [rtab_some h]
    simp only [Option.map_some, Option.getD_some]
    rw [← needs_all]
    simp only [gd]
theorem ready_eq : Region.ready md ops l = readyT (rtab md ops).2 l.toList := by
  unfold Region.ready readyT
  rw [rtab_length]
  refine List.filter_congr (fun i _ => ?_)
  rw [readyAt_eq]
theorem set_of (h : (l.toList.set i true == l'.toList) = true) : (l.setIfInBounds i true == l') = true := by
  rw [beq_iff_eq] at h ⊢
  apply Array.ext'
  rw [Array.toList_setIfInBounds]
  exact h
theorem three_of (hT : rtab md ops = T) (h : (readyT T.2 l.toList == [i, j, k] && l.toList.set i true == li.toList && l.toList.set j true == lj.toList && l.toList.set k true == lk.toList) = true) :
    (Region.ready md ops l == [i, j, k] && l.setIfInBounds i true == li && l.setIfInBounds j true == lj && l.setIfInBounds k true == lk) = true := by
  simp only [Bool.and_eq_true] at h ⊢
  obtain ⟨⟨⟨h1, h2⟩, h3⟩, h4⟩ := h
  subst hT
  exact ⟨⟨⟨by rw [ready_eq]; exact h1, set_of h2⟩, set_of h3⟩, set_of h4⟩
end
end Go.Proofs.YtnbkmaghdbhlnaaDoorW.PrintLast

end

section
namespace Go.Proofs.YtnbkmaghdbhlnaaDoorW.PrintWords
open Go.RowKit
namespace Kd
/-- A block is emptied, all else stands. -/
theorem emptied_at (W : World) (g : Nat) : ∃ W' : World, W'.heap.size = W.heap.size ∧ (∀ k, k ≠ g → W'.heap[k]? = W.heap[k]?) ∧ ∀ a : Addr, a.block = g → W'.cell? a = none := by
  refine ⟨{ W with heap := W.heap.setIfInBounds g (.cells #[] 0) }, by simp, fun k hk => by simp [Ne.symm hk], fun a ha => ?_⟩
  subst ha
  by_cases hlt : a.block < W.heap.size
  · simp [World.cell?, hlt]
  · simp [World.cell?, hlt]
section
variable {α : Type} {d : Kd α} {W : World} {g n : Nat} {S ok : Nat → Prop} {A : Option Addr} {ad : Addr} {xs : List α}
theorem C_not_empty (h : d.C W (some ad) n xs) (hn : 0 < n) (hs : 0 < d.sz) : W.cell? ad ≠ none := by
  obtain ⟨ad', he, hc⟩ := h.2.2 hn
  injection he with he
  subst he
  obtain ⟨c, hcl, _, hcell⟩ := hc 0 _ (List.getElem?_eq_getElem (by rw [h.1]; exact hn))
  have h1 := hcell 0 _ (List.getElem?_eq_getElem (by omega))
  rw [Nat.zero_mul, Nat.zero_add, Addr.add_zero'] at h1
  rw [h1]
  exact Option.some_ne_none _
/-- Beside a state: the row is none of the state's block. -/
theorem foot_ne (h : ∀ W', KeepBut W W' g none → d.C W' (some ad) n xs) (hn : 0 < n) (hs : 0 < d.sz) : ad.block ≠ g := by
  intro he
  obtain ⟨W', h1, h2, h3⟩ := emptied_at W g
  exact C_not_empty (h W' ⟨Nat.le_of_eq h1.symm, fun i _ hi _ => h2 i hi⟩) hn hs (h3 ad he)
/-- Beside rows that are written: none of theirs. -/
theorem foot_neS (h : ∀ W', Kept W W' S → d.C W' (some ad) n xs) (hn : 0 < n) (hs : 0 < d.sz) : ¬ S ad.block := by
  intro he
  obtain ⟨W', h1, h2, h3⟩ := emptied_at W ad.block
  exact C_not_empty (h W' ⟨Nat.le_of_eq h1.symm, fun i _ hi => h2 i (fun e => hi (e ▸ he))⟩) hn hs (h3 ad rfl)
/-- It lies in a block that stands. -/
theorem C_lt (h : d.C W (some ad) n xs) (hn : 0 < n) (hs : 0 < d.sz) : ad.block < W.heap.size := by
  cases hc : W.cell? ad with
  | none => exact absurd hc (C_not_empty h hn hs)
  | some v => exact World.block_lt_of_cell? W ad hc
theorem foot_lt (h : ∀ W', KeepBut W W' g none → d.C W' (some ad) n xs) (hn : 0 < n) (hs : 0 < d.sz) : ad.block < W.heap.size := C_lt (h W (KeepBut.refl W g none)) hn hs
theorem foot_ltS (h : ∀ W', Kept W W' S → d.C W' (some ad) n xs) (hn : 0 < n) (hs : 0 < d.sz) : ad.block < W.heap.size := C_lt (h W (Kept.refl W S)) hn hs
/-- What is read with its footprint lies in it. -/
theorem F_in (h : F d W ok A n xs) {ad : Addr} (hA : A = some ad) (hn : 0 < n) (hs : 0 < d.sz) : ok ad.block := by
  subst hA
  have hl := F_len h
  cases xs with
  | nil => simp at hl; omega
  | cons x r =>
    obtain ⟨ad', c, he, _, _, _, hin⟩ := F_get h x 0 (by omega) (by omega)
    injection he with he
    subst he
    exact hin hs
end
end Kd
end Go.Proofs.YtnbkmaghdbhlnaaDoorW.PrintWords

end

section
namespace Go.Proofs.YtnbkmaghdbhlnaaDoorW.PrintWords
open Go.RowKit
section
variable {w w' u : World} {m B g : Nat} {o : Obj} {row : Option Nat} {S : Nat → Prop} {a : Addr} {v : Value}
end
namespace Kd
section
variable {α : Type} {d : Kd α} {e base n m : Nat} {ok : Nat → Prop} {w w' : World} {v : Value} {A : Option Addr} {xs : List α}
theorem R_at (hq : w.drewN m = w') (h : d.R e w base ok v xs) : d.R e w' base ok v xs := by subst hq; exact R_drewN h m
theorem Q_at (hq : w.drewN m = w') (h : d.Q e w base ok v xs) : d.Q e w' base ok v xs := by subst hq; exact Q_drewN h m
theorem S_at (hq : w.drewN m = w') (h : Kd.S d e w base ok v xs) : Kd.S d e w' base ok v xs := by subst hq; exact S_drewN h m
theorem N_at (hq : w.drewN m = w') (h : N d e w base ok v xs) : N d e w' base ok v xs := by subst hq; exact N_drewN h m
theorem C_at (hq : w.drewN m = w') (h : d.C w A n xs) : d.C w' A n xs := by subst hq; exact C_drewN h m
theorem F_at (hq : w.drewN m = w') (h : F d w ok A n xs) : F d w' ok A n xs := by subst hq; exact F_drewN h m
/-- A flat row (its elements are told by no world) that lies elsewhere than the state's block stays read whatever happens to that block. hd: 'fun h => h' for whole numbers, bools, strings and structs of such. -/
theorem C_foot_ne {g : Nat} (hd : ∀ {W W' : World} {x : α} {cs : List Value}, d.K W x cs → d.K W' x cs) (h : d.C w A n xs) (hf : ∀ ad, A = some ad → 0 < n → ad.block ≠ g) : ∀ W', KeepBut w W' g none → d.C W' A n xs := by
  intro W' hk
  refine ⟨h.1, h.2.1, fun hn => ?_⟩
  obtain ⟨ad, he, hc⟩ := h.2.2 hn
  refine ⟨ad, he, fun j p hj => ?_⟩
  obtain ⟨cs, h1, h2, h3⟩ := hc j p hj
  exact ⟨cs, h1, hd h2, fun i u hu => keep_cell hk (h3 i u hu) (by rw [add_block]; exact hf ad he hn)⟩
/-- The same beside rows that are written. -/
theorem C_foot_neS {S : Nat → Prop} (hd : ∀ {W W' : World} {x : α} {cs : List Value}, d.K W x cs → d.K W' x cs) (h : d.C w A n xs) (hf : ∀ ad, A = some ad → 0 < n → ¬ S ad.block) : ∀ W', Kept w W' S → d.C W' A n xs := by
  intro W' hk
  refine ⟨h.1, h.2.1, fun hn => ?_⟩
  obtain ⟨ad, he, hc⟩ := h.2.2 hn
  refine ⟨ad, he, fun j p hj => ?_⟩
  obtain ⟨cs, h1, h2, h3⟩ := hc j p hj
  exact ⟨cs, h1, hd h2, fun i u hu => cell_kept (h3 i u hu) hk (by rw [add_block]; exact hf ad he hn)⟩
end
end Kd
end Go.Proofs.YtnbkmaghdbhlnaaDoorW.PrintWords

end

section
namespace Go.Proofs.YtnbkmaghdbhlnaaDoorW.PrintWords
/-- One cell an element. -/
theorem Reps.one {α : Type} {R : α → List Value → Prop} {ps : List α} {cs : List Value} {p : α} {v : Value} (hp : R p [v]) (h : Reps R 1 ps cs) : Reps R 1 (p :: ps) (v :: cs) := by
  refine ⟨by simp [h.1], fun j q hq => ?_⟩
  cases j with
  | zero =>
    simp only [List.getElem?_cons_zero, Option.some.injEq] at hq
    subst hq
    simpa using hp
  | succ j =>
    simp only [List.getElem?_cons_succ] at hq
    have h1 := h.2 j q hq
    simpa [Nat.mul_one] using h1
/-- More cells an element: told apart by the cells' list. -/
theorem Reps.front {α : Type} {R : α → List Value → Prop} {size : Nat} {ps : List α} {cs c all : List Value} {p : α} (hp : R p c) (hc : c.length = size) (h : Reps R size ps cs) (ha : c ++ cs = all) : Reps R size (p :: ps) all := by
  subst ha
  refine ⟨by rw [List.length_append, hc, h.1, List.length_cons, Nat.succ_mul, Nat.add_comm], fun j q hq => ?_⟩
  cases j with
  | zero =>
    simp only [List.getElem?_cons_zero, Option.some.injEq] at hq
    subst hq
    rw [Nat.zero_mul, List.drop_zero, List.take_append_of_le_length (by omega), List.take_of_length_le (by omega)]
    exact hp
  | succ j =>
    simp only [List.getElem?_cons_succ] at hq
    have h1 := h.2 j q hq
    rw [Nat.succ_mul, List.drop_append, List.drop_of_length_le (by rw [hc]; exact Nat.le_add_left _ _), List.nil_append, hc, Nat.add_sub_cancel]
    exact h1
theorem Reps.c2 {α : Type} {R : α → List Value → Prop} {ps : List α} {cs : List Value} {p : α} {va vb : Value} (hp : R p [va, vb]) (h : Reps R 2 ps cs) : Reps R 2 (p :: ps) (va :: vb :: cs) := Reps.front hp rfl h rfl
theorem Reps.c3 {α : Type} {R : α → List Value → Prop} {ps : List α} {cs : List Value} {p : α} {va vb vc : Value} (hp : R p [va, vb, vc]) (h : Reps R 3 ps cs) : Reps R 3 (p :: ps) (va :: vb :: vc :: cs) := Reps.front hp rfl h rfl
theorem Reps.c4 {α : Type} {R : α → List Value → Prop} {ps : List α} {cs : List Value} {p : α} {va vb vc vd : Value} (hp : R p [va, vb, vc, vd]) (h : Reps R 4 ps cs) : Reps R 4 (p :: ps) (va :: vb :: vc :: vd :: cs) := Reps.front hp rfl h rfl
theorem Reps.c5 {α : Type} {R : α → List Value → Prop} {ps : List α} {cs : List Value} {p : α} {va vb vc vd ve : Value} (hp : R p [va, vb, vc, vd, ve]) (h : Reps R 5 ps cs) : Reps R 5 (p :: ps) (va :: vb :: vc :: vd :: ve :: cs) := Reps.front hp rfl h rfl
theorem Reps.c6 {α : Type} {R : α → List Value → Prop} {ps : List α} {cs : List Value} {p : α} {va vb vc vd ve vf : Value} (hp : R p [va, vb, vc, vd, ve, vf]) (h : Reps R 6 ps cs) : Reps R 6 (p :: ps) (va :: vb :: vc :: vd :: ve :: vf :: cs) := Reps.front hp rfl h rfl
theorem Reps.c7 {α : Type} {R : α → List Value → Prop} {ps : List α} {cs : List Value} {p : α} {va vb vc vd ve vf vg : Value} (hp : R p [va, vb, vc, vd, ve, vf, vg]) (h : Reps R 7 ps cs) : Reps R 7 (p :: ps) (va :: vb :: vc :: vd :: ve :: vf :: vg :: cs) := Reps.front hp rfl h rfl
theorem Reps.c8 {α : Type} {R : α → List Value → Prop} {ps : List α} {cs : List Value} {p : α} {va vb vc vd ve vf vg vh : Value} (hp : R p [va, vb, vc, vd, ve, vf, vg, vh]) (h : Reps R 8 ps cs) : Reps R 8 (p :: ps) (va :: vb :: vc :: vd :: ve :: vf :: vg :: vh :: cs) := Reps.front hp rfl h rfl
theorem Reps.c9 {α : Type} {R : α → List Value → Prop} {ps : List α} {cs : List Value} {p : α} {va vb vc vd ve vf vg vh vi : Value} (hp : R p [va, vb, vc, vd, ve, vf, vg, vh, vi]) (h : Reps R 9 ps cs) : Reps R 9 (p :: ps) (va :: vb :: vc :: vd :: ve :: vf :: vg :: vh :: vi :: cs) := Reps.front hp rfl h rfl
theorem Reps.c10 {α : Type} {R : α → List Value → Prop} {ps : List α} {cs : List Value} {p : α} {va vb vc vd ve vf vg vh vi vj : Value} (hp : R p [va, vb, vc, vd, ve, vf, vg, vh, vi, vj]) (h : Reps R 10 ps cs) : Reps R 10 (p :: ps) (va :: vb :: vc :: vd :: ve :: vf :: vg :: vh :: vi :: vj :: cs) := Reps.front hp rfl h rfl
end Go.Proofs.YtnbkmaghdbhlnaaDoorW.PrintWords

end

section
namespace Go.Proofs.YtnbkmaghdbhlnaaDoorW.PrintWords
open Go.RowKit
/-- A row that isn't empty: its address. -/
theorem Kd.R_slice1 {α : Type} {d : Kd α} {e base : Nat} {ok : Nat → Prop} {w : World} {v : Value} {xs : List α} (h : d.R e w base ok v xs) (hn : 0 < xs.length) : ∃ (ad : Addr) (c : Nat), v = .slice (some ad) xs.length c := by
  obtain ⟨A, c, rfl⟩ := Kd.R_slice h
  have h2 := (Kd.R_reads' h).2.2
  obtain ⟨ad, he, _⟩ := h2.2.2 hn
  subst he
  exact ⟨ad, c, rfl⟩
/-- A flat row (its elements are told by no ok): ok may be told anew of its own block alone. hd: 'fun h => h'. -/
theorem Kd.R_flat {α : Type} {d : Kd α} {e base : Nat} {ok ok' : Nat → Prop} {w : World} {v : Value} {xs : List α} (hd : ∀ {ok1 ok2 : Nat → Prop} {x : α} {cs : List Value}, d.M w base ok1 x cs → d.M w base ok2 x cs) (h : d.R e w base ok v xs) (hok : ∀ k, v.ownBlock = some k → ok k → ok' k) : d.R e w base ok' v xs := by
  obtain ⟨h0, inner, hown, hr⟩ := h
  exact ⟨fun k hk => hok k hk (h0 k hk), inner, hown, hr.imp_ (fun _ _ hm => hd hm)⟩
end Go.Proofs.YtnbkmaghdbhlnaaDoorW.PrintWords
namespace Go.Proofs.YtnbkmaghdbhlnaaDoorW.PrintLast
section
variable {ops : Array Oper} {a : Act} {o og : Oper} {g : Nat} {t : Tmp} {u : Bool}
end
end Go.Proofs.YtnbkmaghdbhlnaaDoorW.PrintLast

end

section
namespace Go.Proofs.YtnbkmaghdbhlnaaDoor.B
open Go.RowKit Go.Proofs.YtnbkmaghdbhlnaaDoorW.PrintWords Go.Proofs.YtnbkmaghdbhlnaaDoorW.PrintLast Go.Proofs.YtnbkmaghdbhlnaaDoorW.PrintMore
attribute [local go_sem] max2_int min2_int max_two min_two max_three min_three max_four min_four   -- for this text's walks alone
set_option linter.unusedVariables false
set_option linter.unusedSimpArgs false



def errW : Option Int → Value
  | none => .nilIface
  | some c => .iface 0 (.int .i64 c)
theorem errW_none : errW none = .nilIface := rfl
theorem errW_some (c : Int) : errW (some c) = .iface 0 (.int .i64 c) := rfl
theorem info5 : (Tryd.prog.info? 5).map (fun i => (i.zero, i.size, i.bytes)) = some (some (.int .u8 0), 1, 1) := by kernel_rfl
end Go.Proofs.YtnbkmaghdbhlnaaDoor.B

end

section
/- What utf.runes gives and what utf.Check answers, as functions of a text's octets: no program here. -/
set_option linter.unusedVariables false
set_option linter.unusedSimpArgs false
namespace Go.Proofs.YtnbkmaghdbhlnaaDoor.B

/-- The decoder at a place, as utf.runes turns it: -1 for what is no character. -/
def runeAt (s : ByteArray) (i : Nat) : Int × Nat :=
  (if (Utf8.decode s i).1 = 65533 ∧ (Utf8.decode s i).2 = 1 then -1 else ((Utf8.decode s i).1 : Int), (Utf8.decode s i).2)
/-- The places and characters from a place on. -/
def runesF (s : ByteArray) : Nat → Nat → List (Int × Int)
  | 0, _ => []
  | k + 1, i => if i < s.size then ((i : Int), (runeAt s i).1) :: runesF s k (i + (runeAt s i).2) else []
def runesL (s : ByteArray) : List (Int × Int) := runesF s s.size 0
def checkOf (l : List (Int × Int)) (n : Int) : Int × Int :=
  match l.find? (fun p => decide (p.2 < 0)) with
  | some p => (p.1, 61)
  | none => (n, 0)
def checkL (s : ByteArray) : Int × Int := checkOf (runesL s) (s.size : Int)
theorem decode_pos (s : ByteArray) (i : Nat) : 1 ≤ (Utf8.decode s i).2 := by
  rw [Lib.decode_at]; unfold Lib.decodeN; repeat' split
  all_goals simp
theorem decode_le (s : ByteArray) (i : Nat) (h : i < s.size) : i + (Utf8.decode s i).2 ≤ s.size := by
  rw [Lib.decode_at]; unfold Lib.decodeN; repeat' split
  all_goals (simp only; omega)
theorem decode_rune (s : ByteArray) (i : Nat) : (Utf8.decode s i).1 ≤ 1114111 := by
  rw [Lib.decode_at]; unfold Lib.decodeN; repeat' split
  all_goals (simp only; omega)
theorem runeAt_pos (s : ByteArray) (i : Nat) : 1 ≤ (runeAt s i).2 := decode_pos s i
/-- Rounds that are more than needed change nothing. -/
theorem runesF_more (s : ByteArray) : ∀ (k : Nat) (i : Nat), s.size ≤ i + k → ∀ m, k ≤ m → runesF s m i = runesF s k i
  | 0, i, h, m, _ => by
    cases m with
    | zero => rfl
    | succ m => simp only [runesF]; rw [if_neg (by omega)]
  | k + 1, i, h, m, hm => by
    obtain ⟨m, rfl⟩ : ∃ m', m = m' + 1 := ⟨m - 1, by omega⟩
    have := runeAt_pos s i
    have ih := runesF_more s k (i + (runeAt s i).2) (by omega) m (by omega)
    simp only [runesF]
    split
    · rw [ih]
    · rfl
theorem runesF_step (s : ByteArray) (k i : Nat) (h : s.size ≤ i + k) (hi : i < s.size) : runesF s k i = ((i : Int), (runeAt s i).1) :: runesF s k (i + (runeAt s i).2) := by
  obtain ⟨k, rfl⟩ : ∃ k', k = k' + 1 := ⟨k - 1, by omega⟩
  have := runeAt_pos s i
  rw [runesF_more s k (i + (runeAt s i).2) (by omega) (k + 1) (by omega)]
  simp only [runesF]; rw [if_pos hi]
theorem runesF_end (s : ByteArray) (k i : Nat) (hi : s.size ≤ i) : runesF s k i = [] := by
  cases k with
  | zero => rfl
  | succ k => simp only [runesF]; rw [if_neg (by omega)]
end Go.Proofs.YtnbkmaghdbhlnaaDoor.B

end

section
/- utf.Check, walked: the iterator that utf.runes hands back, and the loop over it. -/
set_option linter.unusedVariables false
set_option linter.unusedSimpArgs false
namespace Go.Proofs.YtnbkmaghdbhlnaaDoor.B
open Go.RowKit Go.Shelf Go.Proofs.YtnbkmaghdbhlnaaDoorW.PrintWords
attribute [local go_sem] Oper.semAt_some

abbrev runeEnc (p : Int × Int) : Array Value := #[.int .i64 p.1, .int .i32 p.2]
theorem utf_runes_in (w : World) (s : ByteArray) (n : Nat) :
    CallsIn Fence.wide n Tryd.prog 17 #[.string s] w fun e w' => e = .returned (.func (.func 26) #[] #[.pointer (some ⟨w.heap.size, 0, none⟩)]) ∧ w' = w.alloc (.cells #[.string s] 9) := by
  refine callsIn_of_wp Tryd.func17 rfl trivial ?_ rfl
  simp only [Tryd.ntmps17, List.size_toArray, List.length_cons, List.length_nil, Nat.reduceAdd, Nat.reduceSub, Array.replicate_succ, Array.replicate_zero, List.push_toArray, List.append_toArray, List.nil_append, List.cons_append]
  gi_wp2
  go_ret
  exact ⟨rfl, rfl⟩
set_option maxRecDepth 100000 in
set_option maxHeartbeats 2000000 in
theorem utf_runes1_in (n : Nat) (hn : 1 ≤ n) (l Bs n₀ : Nat) (s : ByteArray) (hs : s.size ≤ 140737488351232) (hBn : Bs < n₀) (J Jx : List (Int × Int) → World → Prop)
    (W : World) (hn0 : GBelow n₀) (hnW : n₀ ≤ W.heap.size) (hJ : AbidesFrom W.heap.size J) (hG : GlobG W)
    (hY : ∀ pre x W1, J pre W1 → pre.length < s.size → pre ++ [x] <+: runesL s → YieldAt Fence.wide (n - 1) Tryd.prog l (runeEnc x) W1 fun e W' =>
      (e = .returned (.bool true) ∧ J (pre ++ [x]) W' ∧ Below n₀ W1 W') ∨ (e = .returned (.bool false) ∧ Jx (pre ++ [x]) W'))
    (hBs : W.cell? ⟨Bs, 0, none⟩ = some (.string s)) (h0 : J [] W) :
    CallsIn Fence.wide n Tryd.prog 26 #[.func (.yield l) #[] #[], .pointer (some ⟨Bs, 0, none⟩)] W fun e W' => (∃ v, e = .returned v) ∧
      ((∃ ys, ys = runesL s ∧ J ys W') ∨ (∃ pre, pre <+: runesL s ∧ Jx pre W')) := by
  refine callsIn_of_wp Tryd.func26 rfl trivial ?_ rfl
  simp only [Tryd.ntmps26, List.size_toArray, List.length_cons, List.length_nil, Nat.reduceAdd, Nat.reduceSub, Array.replicate_succ, Array.replicate_zero, List.push_toArray, List.append_toArray, List.nil_append, List.cons_append]
  gi_wp2
  gi_loopw [3] (fun i wr => ∃ (pos : Nat) (pre : List (Int × Int)), i = .int .i64 pos ∧ pos ≤ s.size ∧ pre.length ≤ pos ∧ runesL s = pre ++ runesF s s.size pos ∧ J pre wr ∧ Below n₀ W wr)
    (fun i _ => s.size - (intOf i).toNat)
  case atStart => exact ⟨0, [], rfl, Nat.zero_le _, Nat.zero_le _, rfl, h0, Below.refl _ _⟩
  case round =>
    obtain ⟨pos, pre, rfl, hp, hl, hr, hj, hb⟩ := hrel
    have hBs' : wr.cell? ⟨Bs, 0, none⟩ = some (.string s) := (hb.cell (p := ⟨Bs, 0, none⟩) hBn).trans hBs
    have hdp := decode_pos s pos
    have hdr := decode_rune s pos
    by_cases hlt : pos < s.size
    · have hlt' : (pos : Int) < (s.size : Int) := by omega
      have hdl := decode_le s pos hlt
      have hst := runesF_step s s.size pos (by omega) hlt
      have hra : runeAt s pos = (if (Utf8.decode s pos).1 = 65533 ∧ (Utf8.decode s pos).2 = 1 then -1 else ((Utf8.decode s pos).1 : Int), (Utf8.decode s pos).2) := rfl
      have hGr : GlobG wr := hG.belowN hn0 hb
      have cD := Tryd.utf8_DecodeRuneInString (s.extract pos s.size) wr hGr.1
      rw [Lib.decodeGo_extract s pos hlt] at cD
      rw [hra] at hst
      obtain ⟨R, hR⟩ : ∃ R, (Utf8.decode s pos).1 = R := ⟨_, rfl⟩
      obtain ⟨K, hK⟩ : ∃ K, (Utf8.decode s pos).2 = K := ⟨_, rfl⟩
      simp only [hR, hK] at cD hst hdp hdr hdl
      have HR := Lib.hid hr
      clear hR hK hr hra
      have hgo : ∀ w1 : World, Below wr.heap.size wr w1 → J pre w1 ∧ Below n₀ W w1 := fun w1 h1 =>
        ⟨hJ _ _ _ none hj (grown_of_below h1 none) (fun _ e => by cases e), hb.trans (h1.mono (Nat.le_trans hnW hb.size))⟩
      have hJ' := Lib.hid hJ; clear hJ
      have hgo' := Lib.hid hgo; clear hgo
      have hY' := Lib.hid hY; clear hY
      by_cases hbad : R = 65533
      · subst hbad
        by_cases hk : K = 1
        · subst hk
          rw [if_pos ⟨rfl, rfl⟩] at hst
          have HST := Lib.hid hst; clear hst
          gi_wp2_with (refine ⟨trivial, ?_⟩; gi_at_call 27; refine (callsIn_wide.2 cD).mono ?_; rintro e w1 ⟨rfl, hb1⟩; obtain ⟨hj1, hb2⟩ := hgo'.out w1 hb1; have hBs1 : w1.cell? ⟨Bs, 0, none⟩ = some (.string s) := (hb2.cell (p := ⟨Bs, 0, none⟩) hBn).trans hBs; obtain ⟨fn, tmps, assign, body, hy, hR⟩ := hY'.out pre ((pos : Int), (-1)) w1 hj1 (by omega) ⟨runesF s s.size (pos + 1), by rw [HR.out, HST.out]; simp⟩; dsimp only [runeEnc] at hy)
          refine hR.mono ?_
          rintro e W3 (⟨rfl, hJ3, hk3⟩ | ⟨rfl, hJx3⟩)
          · gi_wp2
            go_roundw
            case rel => exact ⟨pos + 1, pre ++ [((pos : Int), (-1))], by go_num, by omega, by simp; omega, by rw [HR.out, HST.out]; simp, hJ3, hb2.trans hk3⟩
            case measure => simp [intOf]; omega
          · gi_wp2
            refine bodyPost_ret (results_none rfl _ _ _) rfl ?_
            exact ⟨⟨_, rfl⟩, .inr ⟨_, ⟨runesF s s.size (pos + 1), by rw [HR.out, HST.out]; simp⟩, hJx3⟩⟩
        · rw [if_neg (fun h => hk h.2)] at hst
          have HST := Lib.hid hst; clear hst
          have hk' : ((K : Int) == 1) = false := beq_eq_false_iff_ne.2 (by omega)
          clear hk
          gi_wp2_with (refine ⟨trivial, ?_⟩; gi_at_call 27; refine (callsIn_wide.2 cD).mono ?_; rintro e w1 ⟨rfl, hb1⟩; obtain ⟨hj1, hb2⟩ := hgo'.out w1 hb1; have hBs1 : w1.cell? ⟨Bs, 0, none⟩ = some (.string s) := (hb2.cell (p := ⟨Bs, 0, none⟩) hBn).trans hBs; obtain ⟨fn, tmps, assign, body, hy, hR⟩ := hY'.out pre ((pos : Int), 65533) w1 hj1 (by omega) ⟨runesF s s.size (pos + K), by rw [HR.out, HST.out]; simp⟩; dsimp only [runeEnc] at hy)
          refine hR.mono ?_
          rintro e W3 (⟨rfl, hJ3, hk3⟩ | ⟨rfl, hJx3⟩)
          · gi_wp2
            go_roundw
            case rel => exact ⟨pos + K, pre ++ [((pos : Int), 65533)], by go_num, by omega, by simp; omega, by rw [HR.out, HST.out]; simp, hJ3, hb2.trans hk3⟩
            case measure => simp [intOf]; omega
          · gi_wp2
            refine bodyPost_ret (results_none rfl _ _ _) rfl ?_
            exact ⟨⟨_, rfl⟩, .inr ⟨_, ⟨runesF s s.size (pos + K), by rw [HR.out, HST.out]; simp⟩, hJx3⟩⟩
      · rw [if_neg (fun h => hbad h.1)] at hst
        have HST := Lib.hid hst; clear hst
        have hb' : ((R : Int) == 65533) = false := beq_eq_false_iff_ne.2 (by omega)
        clear hbad
        gi_wp2_with (refine ⟨trivial, ?_⟩; gi_at_call 27; refine (callsIn_wide.2 cD).mono ?_; rintro e w1 ⟨rfl, hb1⟩; obtain ⟨hj1, hb2⟩ := hgo'.out w1 hb1; have hBs1 : w1.cell? ⟨Bs, 0, none⟩ = some (.string s) := (hb2.cell (p := ⟨Bs, 0, none⟩) hBn).trans hBs; obtain ⟨fn, tmps, assign, body, hy, hR⟩ := hY'.out pre ((pos : Int), (R : Int)) w1 hj1 (by omega) ⟨runesF s s.size (pos + K), by rw [HR.out, HST.out]; simp⟩; dsimp only [runeEnc] at hy)
        refine hR.mono ?_
        rintro e W3 (⟨rfl, hJ3, hk3⟩ | ⟨rfl, hJx3⟩)
        · gi_wp2
          go_roundw
          case rel => exact ⟨pos + K, pre ++ [((pos : Int), (R : Int))], by go_num, by omega, by simp; omega, by rw [HR.out, HST.out]; simp, hJ3, hb2.trans hk3⟩
          case measure => simp [intOf]; omega
        · gi_wp2
          refine bodyPost_ret (results_none rfl _ _ _) rfl ?_
          exact ⟨⟨_, rfl⟩, .inr ⟨_, ⟨runesF s s.size (pos + K), by rw [HR.out, HST.out]; simp⟩, hJx3⟩⟩
    · obtain rfl : pos = s.size := by omega
      have HR := Lib.hid hr; clear hr
      have hJ' := Lib.hid hJ; clear hJ
      have hY' := Lib.hid hY; clear hY
      gi_wp2
      go_end0
      exact ⟨⟨_, rfl⟩, .inl ⟨_, by rw [HR.out, runesF_end s _ _ (Nat.le_refl _)]; simp, hj⟩⟩
/-- What a round keeps: the iterator's text, and what lies below. -/
def KpR (Bs n₀ : Nat) (W W' : World) : Prop := W'.heap[Bs]? = W.heap[Bs]? ∧ Below n₀ W W'
set_option maxRecDepth 100000 in
set_option maxHeartbeats 2000000 in
theorem utf_runes1_inR (n : Nat) (hn : 1 ≤ n) (l Bs n₀ : Nat) (s : ByteArray) (hs : s.size ≤ 140737488351232) (J Jx : List (Int × Int) → World → Prop)
    (W : World) (hn0 : GBelow n₀) (hnW : n₀ ≤ W.heap.size) (hJ : AbidesFrom W.heap.size J) (hG : GlobG W)
    (hY : ∀ pre x W1, J pre W1 → pre.length < s.size → pre ++ [x] <+: runesL s → YieldAt Fence.wide (n - 1) Tryd.prog l (runeEnc x) W1 fun e W' =>
      (e = .returned (.bool true) ∧ J (pre ++ [x]) W' ∧ KpR Bs n₀ W1 W') ∨ (e = .returned (.bool false) ∧ Jx (pre ++ [x]) W'))
    (hBs : W.cell? ⟨Bs, 0, none⟩ = some (.string s)) (h0 : J [] W) :
    CallsIn Fence.wide n Tryd.prog 26 #[.func (.yield l) #[] #[], .pointer (some ⟨Bs, 0, none⟩)] W fun e W' => (∃ v, e = .returned v) ∧
      ((∃ ys, ys = runesL s ∧ J ys W') ∨ (∃ pre, pre <+: runesL s ∧ Jx pre W')) := by
  refine callsIn_of_wp Tryd.func26 rfl trivial ?_ rfl
  simp only [Tryd.ntmps26, List.size_toArray, List.length_cons, List.length_nil, Nat.reduceAdd, Nat.reduceSub, Array.replicate_succ, Array.replicate_zero, List.push_toArray, List.append_toArray, List.nil_append, List.cons_append]
  gi_wp2
  gi_loopw [3] (fun i wr => ∃ (pos : Nat) (pre : List (Int × Int)), i = .int .i64 pos ∧ pos ≤ s.size ∧ pre.length ≤ pos ∧ runesL s = pre ++ runesF s s.size pos ∧ J pre wr ∧ wr.cell? ⟨Bs, 0, none⟩ = some (.string s) ∧ Below n₀ W wr)
    (fun i _ => s.size - (intOf i).toNat)
  case atStart => exact ⟨0, [], rfl, Nat.zero_le _, Nat.zero_le _, rfl, h0, hBs, Below.refl _ _⟩
  case round =>
    obtain ⟨pos, pre, rfl, hp, hl, hr, hj, hBs', hb⟩ := hrel
    have hlB : Bs < wr.heap.size := World.block_lt_of_cell? wr _ hBs'
    have hdp := decode_pos s pos
    have hdr := decode_rune s pos
    by_cases hlt : pos < s.size
    · have hlt' : (pos : Int) < (s.size : Int) := by omega
      have hdl := decode_le s pos hlt
      have hst := runesF_step s s.size pos (by omega) hlt
      have hra : runeAt s pos = (if (Utf8.decode s pos).1 = 65533 ∧ (Utf8.decode s pos).2 = 1 then -1 else ((Utf8.decode s pos).1 : Int), (Utf8.decode s pos).2) := rfl
      have hGr : GlobG wr := hG.belowN hn0 hb
      have cD := Tryd.utf8_DecodeRuneInString (s.extract pos s.size) wr hGr.1
      rw [Lib.decodeGo_extract s pos hlt] at cD
      rw [hra] at hst
      obtain ⟨R, hR⟩ : ∃ R, (Utf8.decode s pos).1 = R := ⟨_, rfl⟩
      obtain ⟨K, hK⟩ : ∃ K, (Utf8.decode s pos).2 = K := ⟨_, rfl⟩
      simp only [hR, hK] at cD hst hdp hdr hdl
      have HR := Lib.hid hr
      clear hR hK hr hra
      have hgo : ∀ w1 : World, Below wr.heap.size wr w1 → J pre w1 ∧ Below n₀ W w1 := fun w1 h1 =>
        ⟨hJ _ _ _ none hj (grown_of_below h1 none) (fun _ e => by cases e), hb.trans (h1.mono (Nat.le_trans hnW hb.size))⟩
      have hJ' := Lib.hid hJ; clear hJ
      have hgo' := Lib.hid hgo; clear hgo
      have hY' := Lib.hid hY; clear hY
      by_cases hbad : R = 65533
      · subst hbad
        by_cases hk : K = 1
        · subst hk
          rw [if_pos ⟨rfl, rfl⟩] at hst
          have HST := Lib.hid hst; clear hst
          gi_wp2_with (refine ⟨trivial, ?_⟩; gi_at_call 27; refine (callsIn_wide.2 cD).mono ?_; rintro e w1 ⟨rfl, hb1⟩; obtain ⟨hj1, hb2⟩ := hgo'.out w1 hb1; have hBs1 : w1.cell? ⟨Bs, 0, none⟩ = some (.string s) := (hb1.cell (p := ⟨Bs, 0, none⟩) hlB).trans hBs'; obtain ⟨fn, tmps, assign, body, hy, hR⟩ := hY'.out pre ((pos : Int), (-1)) w1 hj1 (by omega) ⟨runesF s s.size (pos + 1), by rw [HR.out, HST.out]; simp⟩; dsimp only [runeEnc] at hy)
          refine hR.mono ?_
          rintro e W3 (⟨rfl, hJ3, hkb, hk3⟩ | ⟨rfl, hJx3⟩)
          · gi_wp2
            go_roundw
            case rel => exact ⟨pos + 1, pre ++ [((pos : Int), (-1))], by go_num, by omega, by simp; omega, by rw [HR.out, HST.out]; simp, hJ3, (World.cell?_of_block (w := w1) (a := ⟨Bs, 0, none⟩) hkb).trans hBs1, hb2.trans hk3⟩
            case measure => simp [intOf]; omega
          · gi_wp2
            refine bodyPost_ret (results_none rfl _ _ _) rfl ?_
            exact ⟨⟨_, rfl⟩, .inr ⟨_, ⟨runesF s s.size (pos + 1), by rw [HR.out, HST.out]; simp⟩, hJx3⟩⟩
        · rw [if_neg (fun h => hk h.2)] at hst
          have HST := Lib.hid hst; clear hst
          have hk' : ((K : Int) == 1) = false := beq_eq_false_iff_ne.2 (by omega)
          clear hk
          gi_wp2_with (refine ⟨trivial, ?_⟩; gi_at_call 27; refine (callsIn_wide.2 cD).mono ?_; rintro e w1 ⟨rfl, hb1⟩; obtain ⟨hj1, hb2⟩ := hgo'.out w1 hb1; have hBs1 : w1.cell? ⟨Bs, 0, none⟩ = some (.string s) := (hb1.cell (p := ⟨Bs, 0, none⟩) hlB).trans hBs'; obtain ⟨fn, tmps, assign, body, hy, hR⟩ := hY'.out pre ((pos : Int), 65533) w1 hj1 (by omega) ⟨runesF s s.size (pos + K), by rw [HR.out, HST.out]; simp⟩; dsimp only [runeEnc] at hy)
          refine hR.mono ?_
          rintro e W3 (⟨rfl, hJ3, hkb, hk3⟩ | ⟨rfl, hJx3⟩)
          · gi_wp2
            go_roundw
            case rel => exact ⟨pos + K, pre ++ [((pos : Int), 65533)], by go_num, by omega, by simp; omega, by rw [HR.out, HST.out]; simp, hJ3, (World.cell?_of_block (w := w1) (a := ⟨Bs, 0, none⟩) hkb).trans hBs1, hb2.trans hk3⟩
            case measure => simp [intOf]; omega
          · gi_wp2
            refine bodyPost_ret (results_none rfl _ _ _) rfl ?_
            exact ⟨⟨_, rfl⟩, .inr ⟨_, ⟨runesF s s.size (pos + K), by rw [HR.out, HST.out]; simp⟩, hJx3⟩⟩
      · rw [if_neg (fun h => hbad h.1)] at hst
        have HST := Lib.hid hst; clear hst
        have hb' : ((R : Int) == 65533) = false := beq_eq_false_iff_ne.2 (by omega)
        clear hbad
        gi_wp2_with (refine ⟨trivial, ?_⟩; gi_at_call 27; refine (callsIn_wide.2 cD).mono ?_; rintro e w1 ⟨rfl, hb1⟩; obtain ⟨hj1, hb2⟩ := hgo'.out w1 hb1; have hBs1 : w1.cell? ⟨Bs, 0, none⟩ = some (.string s) := (hb1.cell (p := ⟨Bs, 0, none⟩) hlB).trans hBs'; obtain ⟨fn, tmps, assign, body, hy, hR⟩ := hY'.out pre ((pos : Int), (R : Int)) w1 hj1 (by omega) ⟨runesF s s.size (pos + K), by rw [HR.out, HST.out]; simp⟩; dsimp only [runeEnc] at hy)
        refine hR.mono ?_
        rintro e W3 (⟨rfl, hJ3, hkb, hk3⟩ | ⟨rfl, hJx3⟩)
        · gi_wp2
          go_roundw
          case rel => exact ⟨pos + K, pre ++ [((pos : Int), (R : Int))], by go_num, by omega, by simp; omega, by rw [HR.out, HST.out]; simp, hJ3, (World.cell?_of_block (w := w1) (a := ⟨Bs, 0, none⟩) hkb).trans hBs1, hb2.trans hk3⟩
          case measure => simp [intOf]; omega
        · gi_wp2
          refine bodyPost_ret (results_none rfl _ _ _) rfl ?_
          exact ⟨⟨_, rfl⟩, .inr ⟨_, ⟨runesF s s.size (pos + K), by rw [HR.out, HST.out]; simp⟩, hJx3⟩⟩
    · obtain rfl : pos = s.size := by omega
      have HR := Lib.hid hr; clear hr
      have hJ' := Lib.hid hJ; clear hJ
      have hY' := Lib.hid hY; clear hY
      gi_wp2
      go_end0
      exact ⟨⟨_, rfl⟩, .inl ⟨_, by rw [HR.out, runesF_end s _ _ (Nat.le_refl _)]; simp, hj⟩⟩
theorem utf_runes_stops (n : Nat) (hn : 1 ≤ n) (Bs n₀ : Nat) (s : ByteArray) (hs : s.size ≤ 140737488351232) (w : World) (hBn : Bs < n₀) (hn0 : GBelow n₀) (hnW : n₀ ≤ w.heap.size) (hG : GlobG w)
    (hBs : w.cell? ⟨Bs, 0, none⟩ = some (.string s)) :
    SeqStopsK Fence.wide n Tryd.prog 26 #[.pointer (some ⟨Bs, 0, none⟩)] runeEnc (Below n₀) (fun ys => ys = runesL s) (fun pre => pre <+: runesL s) s.size w := fun l J Jx W hW hJ _ hY h0 =>
  utf_runes1_in n hn l Bs n₀ s hs hBn J Jx W hn0 (Nat.le_trans hnW hW.size) hJ (hG.belowN (hn0.mono hnW) hW) (fun pre x W1 h1 h2 _ => hY pre x W1 h1 h2) ((hW.cell (p := ⟨Bs, 0, none⟩) (Nat.lt_of_lt_of_le hBn hnW)).trans hBs) h0
def utf_Check.f (a0 : ByteArray) : Option (Int × Int) := if a0.size ≤ 140737488351232 then some (checkL a0) else none
theorem checkOf_none {l : List (Int × Int)} {n : Int} (h : ∀ y ∈ l, ¬ y.2 < 0) : checkOf l n = (n, 0) := by
  unfold checkOf
  rw [List.find?_eq_none.2 (fun x hx => by simpa using h x hx)]
theorem checkOf_some {l pre : List (Int × Int)} {n : Int} {p : Int × Int} (h : pre.find? (fun p => decide (p.2 < 0)) = some p) (hp : pre <+: l) : checkOf l n = (p.1, 61) := by
  obtain ⟨r, rfl⟩ := hp
  unfold checkOf
  rw [List.find?_append, h]; rfl
def ChkI (w : World) (pre : List (Int × Int)) (W : World) : Prop := ((∀ y ∈ pre, ¬ y.2 < 0) ∧ (W.cell? ⟨w.heap.size, 0, none⟩ = some (.int .i64 0) ∧ W.frozen? ⟨w.heap.size, 0, none⟩ = false) ∧ W.cell? ⟨w.heap.size + 1, 0, none⟩ = some (.int .i64 0) ∧ W.frozen? ⟨w.heap.size + 1, 0, none⟩ = false) ∧ Below w.heap.size w W
def ChkX (w : World) (c : Code) (pre : List (Int × Int)) (W : World) : Prop := (c = .ret ∧ ∃ p, pre.find? (fun p => decide (p.2 < 0)) = some p ∧ W.cell? ⟨w.heap.size, 0, none⟩ = some (.int .i64 p.1) ∧ W.cell? ⟨w.heap.size + 1, 0, none⟩ = some (.int .i64 61)) ∧ Below w.heap.size w W
set_option maxRecDepth 100000 in
set_option maxHeartbeats 4000000 in
theorem utf_Check.calls (a0 : ByteArray) (r1 r2 : Int) (w : World) (hG : Aside0 (GlobG w)) (h : utf_Check.f a0 = some (r1, r2)) :
    Calls Tryd.prog 8 #[.string a0] w fun e w' => e = .returned (.tuple #[.int .i64 r1, .int .i64 r2]) ∧ Below w.heap.size w w' := by
  have hs : a0.size ≤ 140737488351232 := by
    unfold utf_Check.f at h; split at h
    · assumption
    · cases h
  unfold utf_Check.f at h; rw [if_pos hs] at h
  have h : checkOf (runesL a0) (a0.size : Int) = (r1, r2) := Option.some.inj h
  have H := Lib.hid h; clear h
  refine (callsIn_wide (n := 4)).1 ?_
  refine callsIn_of_wp_marks Tryd.func8 rfl trivial ?_ rfl
  simp only [Tryd.ntmps8, List.size_toArray, List.length_cons, List.length_nil, Nat.reduceAdd, Nat.reduceSub, Array.replicate_succ, Array.replicate_zero, List.push_toArray, List.append_toArray, List.nil_append, List.cons_append]
  gi_wp2_with (refine ⟨trivial, ?_⟩; gi_at_call 17; refine (utf_runes_in _ _ _).mono ?_; rintro e w1 ⟨rfl, rfl⟩)
  have b0 := Boxed.new w 3 (.int .i64 0)
  have b1 := Boxed.new (w.alloc (.cells #[.int .i64 0] 3)) 23 (.int .i64 0)
  have b2 := Boxed.new ((w.alloc (.cells #[.int .i64 0] 3)).alloc (.cells #[.int .i64 0] 23)) 9 (.string a0)
  simp only [World.size_alloc] at b1 b2
  have hB0 : Below w.heap.size w (((w.alloc (.cells #[.int .i64 0] 3)).alloc (.cells #[.int .i64 0] 23)).alloc (.cells #[.string a0] 9)) := (((Below.refl _ w).alloc (Nat.le_refl _) _).alloc (by simp) _).alloc (by simp; omega) _
  have hG3 := hG.out.below hB0
  refine wpIn_rangeFunc_ownF rfl (by decide) (gf := 26) (lb := #[.pointer (some ⟨w.heap.size + 1 + 1, 0, none⟩)]) rfl trivial (enters_of Tryd.func26 (by kernel_rfl) rfl)
    (utf_runes_stops 3 (by omega) (w.heap.size + 1 + 1) (w.heap.size + 1 + 1 + 1) a0 hs _ (by omega) (hG.out.gbelow.mono (by omega)) (by simp) hG3 b2.cell) belowK_t (belowK_b (by simp)) (Below.refl _ _) (fun _ => rfl)
    (ChkI w)
    (ChkX w)
    (OwnFrom.and (Own.from (fun s A B row hs hg hr => ⟨hs.1, ⟨cell_kept hs.2.1.1 hg hr, (frozen_kept hs.2.1.1 hg hr).trans hs.2.1.2⟩, cell_kept hs.2.2.1 hg hr, (frozen_kept hs.2.2.1 hg hr).trans hs.2.2.2⟩) _) (ownFrom_below (Nat.le_refl _) (by simp; omega)))
    (fun c => OwnFrom.and (Own.from (fun s A B row hs hg hr => by obtain ⟨h1, p, h2, h3, h4⟩ := hs; exact ⟨h1, p, h2, cell_kept h3 hg hr, cell_kept h4 hg hr⟩) _) (ownFrom_below (Nat.le_refl _) (by simp; omega)))
    ⟨⟨by simp, ⟨((b0.alloc _).alloc _).cell, ((b0.alloc _).alloc _).frozen⟩, (b1.alloc _).cell, (b1.alloc _).frozen⟩, hB0⟩
    (fun x => { tmps := #[.string a0, undef, .pointer (some ⟨w.heap.size, 0, none⟩), .pointer (some ⟨w.heap.size + 1, 0, none⟩), .int .i64 x.1, .int .i32 x.2, .string a0, .func (.func 26) #[] #[.pointer (some ⟨w.heap.size + 1 + 1, 0, none⟩)], .int .i64 x.1, .int .i32 x.2, undef, undef, undef, undef, undef], defers := [] }) ?assign ?body ?done ?stop
  case assign =>
    intro l x W K hK
    gi_wp2
    exact hK
  case body =>
    rintro l pre x W ⟨⟨hp, ⟨hc0, hf0⟩, hc1, hf1⟩, hB⟩ _
    have hp' := Lib.hid hp; clear hp
    by_cases hx : x.2 < 0
    · gi_wp2
      have hfnd : (pre ++ [x]).find? (fun p => decide (p.2 < 0)) = some x := by rw [List.find?_append, List.find?_eq_none.2 (fun y hy => by simpa using hp'.out y hy)]; simp [hx]
      refine ⟨(KeepsOthers.setCell _ _ _).trans (KeepsOthers.setCell _ _ _), ⟨rfl, x, hfnd, ?_, ?_⟩, (hB.setCell (p := ⟨w.heap.size, 0, none⟩) (by simp) _).setCell (p := ⟨w.heap.size + 1, 0, none⟩) (by simp) _⟩
      · rw [World.cell?_setCell_far _ _ _ _ (by simp)]; exact World.cell?_setCell_same' _ _ _ (by rw [hc0]; rfl)
      · exact World.cell?_setCell_same' _ _ _ (by rw [World.cell?_setCell_far _ _ _ _ (by simp), hc1]; rfl)
    · gi_wp2
      refine ⟨KeepsOthers.refl _, Below.refl _ _, ⟨fun y hy => ?_, ⟨hc0, hf0⟩, hc1, hf1⟩, hB⟩
      rcases List.mem_append.1 hy with e | e
      · exact Int.not_lt.2 (hp'.out y e)
      · rw [List.mem_singleton.1 e]; exact Int.not_lt.2 hx
  case done =>
    rintro D ys W hD rfl ⟨⟨hne, ⟨hc0, hf0⟩, hc1, hf1⟩, hB⟩ hK
    have H0 := H.out; rw [checkOf_none hne] at H0
    obtain ⟨rfl, rfl⟩ := Prod.mk.inj H0
    clear hne H H0
    gi_wp2
    have hK' := ((KeepsOthers.setCell W ⟨w.heap.size, 0, none⟩ (.int .i64 (a0.size : Int))).trans (KeepsOthers.setCell _ ⟨w.heap.size + 1, 0, none⟩ (.int .i64 0))).same D _ hK rfl
    refine ⟨by simp, .inl ⟨_, _, rfl, run_takeDeferred hK', ?_⟩⟩
    have e0 : ((W.setCell ⟨w.heap.size, 0, none⟩ (.int .i64 (a0.size : Int))).setCell ⟨w.heap.size + 1, 0, none⟩ (.int .i64 0)).cell? ⟨w.heap.size, 0, none⟩ = some (.int .i64 (a0.size : Int)) := by
      rw [World.cell?_setCell_far _ _ _ _ (by simp)]; exact World.cell?_setCell_same' _ _ _ (by rw [hc0]; rfl)
    have e1 : ((W.setCell ⟨w.heap.size, 0, none⟩ (.int .i64 (a0.size : Int))).setCell ⟨w.heap.size + 1, 0, none⟩ (.int .i64 0)).cell? ⟨w.heap.size + 1, 0, none⟩ = some (.int .i64 0) :=
      World.cell?_setCell_same' _ _ _ (by rw [World.cell?_setCell_far _ _ _ _ (by simp), hc1]; rfl)
    have hc5 := cell_kept e0 (grownBy_putObj' _ D (.deferred none)) (fun r e => by cases e; exact ⟨_, hK', rfl⟩)
    have hc6 := cell_kept e1 (grownBy_putObj' _ D (.deferred none)) (fun r e => by cases e; exact ⟨_, hK', rfl⟩)
    refine ⟨.tuple #[.int .i64 (a0.size : Int), .int .i64 0], ?_, rfl, ((hB.setCell (p := ⟨w.heap.size, 0, none⟩) (by simp) _).setCell (p := ⟨w.heap.size + 1, 0, none⟩) (by simp) _).trans (belowK_b (w := w) (Nat.le_refl _) _ D _ _ (by simp at hD; omega) hK' rfl rfl)⟩
    simp [results, Tryd.f8, go_sem, hc5, hc6]
  case stop =>
    rintro D c pre W hD hpre ⟨⟨rfl, p, hin, hc0, hc1⟩, hB⟩ hK
    have H0 := H.out; rw [checkOf_some hin hpre] at H0
    obtain ⟨rfl, rfl⟩ := Prod.mk.inj H0
    clear hin H H0
    gi_wp2
    refine ⟨by simp, .inl ⟨_, _, rfl, run_takeDeferred hK, ?_⟩⟩
    have hc5 := cell_kept hc0 (grownBy_putObj' _ D (.deferred none)) (fun r e => by cases e; exact ⟨_, hK, rfl⟩)
    have hc6 := cell_kept hc1 (grownBy_putObj' _ D (.deferred none)) (fun r e => by cases e; exact ⟨_, hK, rfl⟩)
    refine ⟨.tuple #[.int .i64 p.1, .int .i64 61], ?_, rfl, hB.trans (belowK_b (w := w) (Nat.le_refl _) W D _ _ (by simp at hD; omega) hK rfl rfl)⟩
    simp [results, Tryd.f8, go_sem, hc5, hc6]
end Go.Proofs.YtnbkmaghdbhlnaaDoor.B

end

section
/- What printed functions tell with rounds enough; what utf.Check tells. -/
set_option linter.unusedVariables false
set_option linter.unusedSimpArgs false
namespace Go.Proofs.YtnbkmaghdbhlnaaDoor.P
open Go.Lib Go.RowKit Go.Proofs.YtnbkmaghdbhlnaaDoor.B Go.Proofs.YtnbkmaghdbhlnaaDoorW.PrintWords

def errV (l : List UInt8) : Int := if validD l = true then 0 else 61
theorem find_runes (s : ByteArray) : ∀ (k i : Nat), s.size ≤ i + k → (((runesF s k i).find? (fun p => decide (p.2 < 0))).isSome = !validD (s.data.toList.drop i))
  | k, i, h => by
    by_cases hi : i < s.size
    · obtain ⟨k, rfl⟩ : ∃ k', k = k' + 1 := ⟨k - 1, by omega⟩
      have hp := B.decode_pos s i
      have hle := B.decode_le s i hi
      have ih := find_runes s k (i + (Utf8.decode s i).2) (by omega)
      have hne : s.data.toList.drop i ≠ [] := by
        intro h0
        have := congrArg List.length h0
        rw [List.length_drop, ← size_eq] at this
        simp at this; omega
      rw [validD_step _ hne, decodeL_drop]
      simp only [runesF, if_pos hi, runeAt, List.find?_cons]
      by_cases hc : (Utf8.decode s i).1 = 65533 ∧ (Utf8.decode s i).2 = 1
      · rw [if_pos hc, if_pos hc]; rfl
      · rw [if_neg hc, if_neg hc]
        have : decide (((Utf8.decode s i).1 : Int) < 0) = false := by simp
        rw [this]
        simp only
        rw [ih, List.drop_drop]
    · have hne : s.data.toList.drop i = [] := List.drop_eq_nil_of_le (by rw [← size_eq]; omega)
      rw [hne, runesF_end s k i (by omega)]; rfl
theorem checkL_err (s : ByteArray) : (checkL s).2 = errV s.data.toList := by
  have h := find_runes s s.size 0 (by omega)
  rw [List.drop_zero] at h
  unfold checkL checkOf errV runesL
  cases hv : validD s.data.toList with
  | true =>
    rw [hv] at h
    have : (runesF s s.size 0).find? (fun p => decide (p.2 < 0)) = none := by
      cases hf : (runesF s s.size 0).find? (fun p => decide (p.2 < 0)) with
      | none => rfl
      | some p => rw [hf] at h; simp at h
    rw [this]; rfl
  | false =>
    rw [hv] at h
    obtain ⟨p, hp⟩ := Option.isSome_iff_exists.1 h
    rw [hp]; rfl
theorem check_tells (s : ByteArray) (hs : s.size ≤ 140737488351232) : utf_Check.f s = some (checkL s) := by
  unfold utf_Check.f; rw [if_pos hs]
theorem w64 {x : Int} (h : -9223372036854775808 ≤ x) (h2 : x < 9223372036854775808) : wrap64 x = x := by
  unfold wrap64; omega
end Go.Proofs.YtnbkmaghdbhlnaaDoor.P

end

section
/- A range over an iterator that writes one variable of its own between the rounds (a text that it cuts from): the caller's invariant must not mind that write; else as the kit's law says it. -/
set_option linter.unusedVariables false
set_option linter.unusedSimpArgs false
namespace Go.Proofs.YtnbkmaghdbhlnaaDoor.B
open Go.RowKit

/-- A world with another value in the cell of the block b. -/
def Minds {β : Type} (b : Nat) (J : β → World → Prop) : Prop := ∀ s W v, J s W → J s (W.setCell ⟨b, 0, none⟩ v)
/-- The iterator's contract: as 'SeqStopsK', for callers whose invariant does not mind the iterator's own variable. -/
def SeqCell {α : Type} (F : Fence) (n : Nat) (P : Program) (g : Nat) (lb : Array Value) (encs : α → Array Value) (Kp : World → World → Prop) (S Sp : List α → Prop) (N b : Nat) (w : World) : Prop :=
  ∀ (l : Nat) (J Jx : List α → World → Prop) (W : World), Below w.heap.size w W → AbidesFrom W.heap.size J → AbidesFrom W.heap.size Jx → Minds b J →
    (∀ pre x W1, J pre W1 → pre.length < N → Sp (pre ++ [x]) → YieldAt F (n - 1) P l (encs x) W1 fun e W' =>
      (e = .returned (.bool true) ∧ J (pre ++ [x]) W' ∧ Kp W1 W') ∨ (e = .returned (.bool false) ∧ Jx (pre ++ [x]) W')) →
    J [] W →
    CallsIn F n P g (#[.func (.yield l) #[] #[]] ++ lb) W fun e W' => (∃ v, e = .returned v) ∧ ((∃ xs, S xs ∧ J xs W') ∨ (∃ pre, Sp pre ∧ Jx pre W'))
theorem setCell_away (w : World) (b : Nat) (v : Value) (k : Nat) (h : k ≠ b) : (w.setCell ⟨b, 0, none⟩ v).heap[k]? = w.heap[k]? := Below.heap_setCell _ _ _ _ h
/-- The loop's record, and the block for the rounds' deferred calls, as the loop lies between two rounds (or stopped). -/
def Recs (at_ : Nat) (L : Loop) (W : World) : Prop := W.heap[at_ + 1]? = some (.loop L) ∧ W.heap[at_]? = some (.deferred (some []))
theorem Recs.grown {at_ : Nat} {L : Loop} {A B : World} {row : Option Nat} (h : Recs at_ L A) (hg : A.grownBy B row) (hr : ∀ r, row = some r → ∃ o : Obj, A.heap[r]? = some o ∧ o.isWalk = true) : Recs at_ L B :=
  ⟨(grownBy_keeps hg hr h.1 rfl).trans h.1, (grownBy_keeps hg hr h.2 rfl).trans h.2⟩
theorem Recs.set {at_ b : Nat} {L : Loop} {W : World} (h : Recs at_ L W) (hb : b < at_) (v : Value) : Recs at_ L (W.setCell ⟨b, 0, none⟩ v) :=
  ⟨(setCell_away W b v _ (by omega)).trans h.1, (setCell_away W b v _ (by omega)).trans h.2⟩
theorem Recs.lt {at_ : Nat} {L : Loop} {W : World} (h : Recs at_ L W) : at_ + 1 < W.heap.size := (Array.getElem?_eq_some_iff.1 h.1).1
theorem Recs.put {at_ : Nat} {L : Loop} {W : World} (h : Recs at_ L W) (L' : Loop) : Recs at_ L' (W.putObj (at_ + 1) (.loop L')) :=
  ⟨World.putObj_heap_same h.lt, (World.putObj_heap_other (by omega)).trans h.2⟩
theorem Recs.keeps {at_ : Nat} {L : Loop} {A B : World} (h : Recs at_ L A) (k : KeepsFrom at_ A B) : Recs at_ L B :=
  ⟨k.same _ _ (by omega) h.1 rfl, k.same _ _ (Nat.le_refl _) h.2 rfl⟩
variable {F : Fence} {n : Nat} {P : Program}
theorem wpIn_rangeFunc_cell {α : Type} {g : Operand} {ps : Array Tmp} {assign body : Code} {Q : Exit → Act → World → Prop} {a : Act} {w : World}
    (hro : F.round = none) (h1 : 1 ≤ n) {gf : Nat} {lb : Array Value} (hg : a.eval g = .func (.func gf) #[] lb) (hFg : F.fn gf) (eg : ∀ args w, (callFunc gf args).run P w = .ok (.enter gf args) w)
    {encs : α → Array Value} {Kp : World → World → Prop} {S Sp : List α → Prop} {N b : Nat} {w0 : World} (hseq : SeqCell F (n - 1) P gf lb encs Kp S Sp N b w0) (hb : b < w.heap.size)
    (hKt : ∀ {A B C : World}, Kp A B → Kp B C → Kp A C) (hKb : ∀ (W : World) (l : Nat) (o o' : Obj), w.heap.size ≤ l → W.heap[l]? = some o → o.isCells = false → o.isWalk = false → Kp W (W.putObj l o')) (hb0 : Below w0.heap.size w0 w) (hps : ∀ x, (encs x).size = ps.size)
    (I : List α → World → Prop) (Ix : Code → List α → World → Prop) (hI : OwnFrom w.heap.size I) (hIx : ∀ c, OwnFrom w.heap.size (Ix c)) (hIm : Minds b I) (h0 : I [] w) (a₁ : α → Act)
    (hassign : ∀ (l : Nat) (x : α) (W : World) (K : Act → World → Prop), K (a₁ x) W →
      assign.wpIn (F.inRound l) (n - 1 - 1) P (Exit.then K (fun _ _ _ => False)) { tmps := (ps.zip (encs x)).foldl (fun t (p, v) => t.setIfInBounds p v) a.tmps, defers := [] } W)
    (hbody : ∀ (l : Nat) (pre : List α) (x : α) (W : World), I pre W → pre.length < N → Sp (pre ++ [x]) → body.wpIn (F.inRound l) (n - 1 - 1) P (ownPostG w.heap.size Kp I Ix (pre ++ [x]) W) (a₁ x) W)
    (hdone : ∀ (D : Nat) (xs : List α) (W : World), w.heap.size ≤ D → S xs → I xs W → W.heap[D]? = some (.deferred (some [])) → Q .normal { a with defers := { target := .collected D, args := #[] } :: a.defers } W)
    (hstop : ∀ (D : Nat) (c : Code) (pre : List α) (W : World), w.heap.size ≤ D → Sp pre → Ix c pre W → W.heap[D]? = some (.deferred (some [])) → c.wpIn F n P Q { a with defers := { target := .collected D, args := #[] } :: a.defers } W) :
    (Code.rangeFunc g ps assign body).wpIn F n P Q a w := by
  refine wpIn_rangeFunc fun fn hfn => ?_
  rw [hro]
  let R : LoopState → Option Code → Loop := fun st pe => { state := st, pending := pe, fn, tmps := a.tmps, params := ps, assign, body, defers := w.heap.size }
  have key : ∃ W1, (w.alloc (.deferred (some []))).alloc (.loop (R .ready none)) = W1 ∧ Recs w.heap.size (R .ready none) W1 ∧ I [] W1 ∧ Below w0.heap.size w0 W1 ∧ w.heap.size ≤ W1.heap.size := by
    refine ⟨_, rfl, ⟨?_, ?_⟩, hI.alloc _ (hI.alloc _ h0), ?_, by simp; omega⟩
    · have := World.alloc_heap_new (w.alloc (.deferred (some []))) (.loop (R .ready none))
      rwa [World.size_alloc] at this
    · exact (Below.heap_alloc _ _ _ (by simp)).trans (World.alloc_heap_new w _)
    · exact hb0.trans ((((Below.refl _ w).alloc (Nat.le_refl _) _).alloc (by simp) _).mono hb0.size)
  obtain ⟨W1, e1, r1, i1, b1, z1⟩ := key
  have walks : ∀ {A : World} {row : Option Nat}, (∀ r, row = some r → W1.heap.size ≤ r ∧ ∃ o : Obj, A.heap[r]? = some o ∧ o.isWalk = true) → ∀ r, row = some r → w.heap.size ≤ r ∧ ∃ o : Obj, A.heap[r]? = some o ∧ o.isCells = false :=
    fun hr r e => by obtain ⟨h, o, ho, hw⟩ := hr r e; exact ⟨Nat.le_trans z1 h, o, ho, Obj.not_cells_of_walk hw⟩
  refine ⟨w.heap.size + 1, [{ target := .collected w.heap.size, args := #[] }], W1, { target := .fn (.func gf) lb, args := #[.func (.yield (w.heap.size + 1)) #[] #[]] }, W1, gf,
    #[.func (.yield (w.heap.size + 1)) #[] #[]] ++ lb, W1, by rw [← e1]; exact run_enterLoop_outer _ _ _ _ _, by simp only [resolve, hg]; simp [go_sem], fun f' hf' => by simp [Target.leads] at hf'; subst hf'; exact hFg, by simp [invoke, go_sem, eg], fun _ => h1, ?_⟩
  refine (hseq (w.heap.size + 1) (fun pre W => I pre W ∧ Recs w.heap.size (R .ready none) W) (fun pre W => ∃ c, Ix c pre W ∧ Recs w.heap.size (R .done (some c)) W) W1 b1
    (fun s A B row hs hg' hr => ⟨hI s A B row hs.1 hg' (walks hr), hs.2.grown hg' (fun r e => (hr r e).2)⟩)
    (fun s A B row hs hg' hr => by obtain ⟨c, hc, hl⟩ := hs; exact ⟨c, hIx c s A B row hc hg' (walks hr), hl.grown hg' (fun r e => (hr r e).2)⟩)
    (fun s W v hs => ⟨hIm s W v hs.1, hs.2.set hb v⟩) ?round ⟨i1, r1⟩).mono ?behind
  case round =>
    rintro pre x W ⟨hi, hr⟩ hlen hsp
    refine ⟨fn, _, assign, body, run_yield (P := P) (args := encs x) hr.1 (hps x), roundIn_of_wpIn hfn (hassign _ x W _ ⟨_, run_beginRound hr.1 rfl, ?_⟩)⟩
    have hr2 : Recs w.heap.size { R .ready none with state := .busy } (W.putObj (w.heap.size + 1) (.loop { R .ready none with state := .busy })) := hr.put _
    have hw2 : Kp W (W.putObj (w.heap.size + 1) (.loop { R .ready none with state := .busy })) := hKb _ _ _ _ (by omega) hr.1 rfl rfl
    refine wpIn_mono (hbody _ pre x _ (hI.putObj _ hi (by omega) hr.1 rfl) hlen hsp) ?_
    rintro e a3 W3 hp
    have left : ∀ (c : Code), KeepsFrom w.heap.size (W.putObj (w.heap.size + 1) (.loop { R .ready none with state := .busy })) W3 → Ix c (pre ++ [x]) W3 →
        ∃ v W', (Instr.endRound (w.heap.size + 1) (some c)).run P W3 = .ok v W' ∧ (v = .bool false ∧ ∃ c', Ix c' (pre ++ [x]) W' ∧ Recs w.heap.size (R .done (some c')) W') := fun c hk hx =>
      ⟨_, _, run_endRound (P := P) (some c) (hr2.keeps hk).1, rfl, c, (hIx c).putObj _ hx (by omega) (hr2.keeps hk).1 rfl, (hr2.keeps hk).put _⟩
    cases e with
    | normal =>
      obtain ⟨hk, hkp, hi3⟩ := hp
      exact ⟨_, _, run_endRound (P := P) none (hr2.keeps hk).1, .inl ⟨rfl, ⟨hI.putObj _ hi3 (by omega) (hr2.keeps hk).1 rfl, (hr2.keeps hk).put _⟩, hKt (hKt hw2 hkp) (hKb _ _ _ _ (by omega) (hr2.keeps hk).1 rfl rfl)⟩⟩
    | ret => obtain ⟨v, W', q, rfl, h⟩ := left .ret hp.1 hp.2; exact ⟨_, _, q, .inr ⟨rfl, h⟩⟩
    | exit id => obtain ⟨v, W', q, rfl, h⟩ := left (.exit id) hp.1 hp.2; exact ⟨_, _, q, .inr ⟨rfl, h⟩⟩
    | goto t => obtain ⟨v, W', q, rfl, h⟩ := left (.goto t) hp.1 hp.2; exact ⟨_, _, q, .inr ⟨rfl, h⟩⟩
    | panic ch => exact hp.elim
    | outgrown => exact hp.elim
  case behind =>
    rintro e W2 ⟨⟨v, rfl⟩, (⟨xs, hS, hi, hr⟩ | ⟨pre, hSp, c, hi, hr⟩)⟩
    · exact ⟨none, _, run_endLoop (P := P) hr.1 (by simp [R]), hdone _ xs _ (Nat.le_refl _) hS (hI.putObj _ hi (by omega) hr.1 rfl) (hr.put _).2⟩
    · exact ⟨some c, _, run_endLoop (P := P) hr.1 (by simp [R]), hstop _ c pre _ (Nat.le_refl _) hSp ((hIx c).putObj _ hi (by omega) hr.1 rfl) (hr.put _).2⟩
end Go.Proofs.YtnbkmaghdbhlnaaDoor.B

end

section
/- format.chunks: the iterator over a text's pieces of so many octets, walked: it cuts the text that it holds. -/
set_option linter.unusedVariables false
set_option linter.unusedSimpArgs false
namespace Go.Proofs.YtnbkmaghdbhlnaaDoor.B
open Go.RowKit Go.Shelf Go.Proofs.YtnbkmaghdbhlnaaDoorW.PrintWords
attribute [local go_sem] Oper.semAt_some

/-- The pieces. -/
def chunksF (m : Nat) : Nat → ByteArray → List ByteArray
  | 0, _ => []
  | f + 1, s => if s.size = 0 then [] else s.extract 0 (min m s.size) :: chunksF m f (s.extract (min m s.size) s.size)
def chunksB (m : Nat) (s : ByteArray) : List ByteArray := chunksF m s.size s
theorem extract_size (s : ByteArray) (a b : Nat) (h : b ≤ s.size) (ha : a ≤ b) : (s.extract a b).size = b - a := by
  rw [ByteArray.size_extract]; omega
theorem chunksF_more (m : Nat) (hm : 0 < m) : ∀ (f g : Nat) (s : ByteArray), s.size ≤ f → s.size ≤ g → chunksF m f s = chunksF m g s
  | 0, 0, s, _, _ => rfl
  | 0, g + 1, s, h, _ => by simp only [chunksF]; rw [if_pos (by omega)]
  | f + 1, 0, s, _, h => by simp only [chunksF]; rw [if_pos (by omega)]
  | f + 1, g + 1, s, h1, h2 => by
    simp only [chunksF]
    split
    · rfl
    · rename_i hn
      have e : (s.extract (min m s.size) s.size).size = s.size - min m s.size := extract_size _ _ _ (Nat.le_refl _) (Nat.min_le_right _ _)
      rw [chunksF_more m hm f g _ (by rw [e]; omega) (by rw [e]; omega)]
theorem chunksB_step (m : Nat) (hm : 0 < m) (s : ByteArray) (h : s.size ≠ 0) : chunksB m s = s.extract 0 (min m s.size) :: chunksB m (s.extract (min m s.size) s.size) := by
  have e : (s.extract (min m s.size) s.size).size = s.size - min m s.size := extract_size _ _ _ (Nat.le_refl _) (Nat.min_le_right _ _)
  unfold chunksB
  obtain ⟨f, hf⟩ : ∃ f, s.size = f + 1 := ⟨s.size - 1, by omega⟩
  rw [show chunksF m s.size s = chunksF m (f + 1) s by rw [hf]]
  simp only [chunksF]
  rw [if_neg h, chunksF_more m hm f _ _ (by rw [e]; omega) (Nat.le_refl _)]
theorem chunksB_end (m : Nat) (s : ByteArray) (h : s.size = 0) : chunksB m s = [] := by unfold chunksB; rw [h]; rfl
theorem format_chunks_in (w : World) (s : ByteArray) (m : Int) (n : Nat) :
    CallsIn Fence.wide n Tryd.prog 9 #[.string s, .int .i64 m] w fun e w' => e = .returned (.func (.func 18) #[] #[.pointer (some ⟨w.heap.size, 0, none⟩), .pointer (some ⟨w.heap.size + 1, 0, none⟩)]) ∧ w' = (w.alloc (.cells #[.string s] 9)).alloc (.cells #[.int .i64 m] 3) := by
  refine callsIn_of_wp Tryd.func9 rfl trivial ?_ rfl
  simp only [Tryd.ntmps9, List.size_toArray, List.length_cons, List.length_nil, Nat.reduceAdd, Nat.reduceSub, Array.replicate_succ, Array.replicate_zero, List.push_toArray, List.append_toArray, List.nil_append, List.cons_append]
  gi_wp2
  go_ret
  exact ⟨rfl, rfl⟩
def szAt (b : Nat) (w : World) : Nat := match w.cell? ⟨b, 0, none⟩ with | some (.string s) => s.size | _ => 0
def KpC (Bs Ns : Nat) (W W' : World) : Prop := W'.heap[Bs]? = W.heap[Bs]? ∧ W'.heap[Ns]? = W.heap[Ns]?
set_option maxRecDepth 100000 in
set_option maxHeartbeats 2000000 in
theorem format_chunks1_in (n : Nat) (hn : 1 ≤ n) (l Bs Ns : Nat) (s : ByteArray) (m : Nat) (hm : 0 < m) (hm2 : m ≤ 1000) (hs : s.size ≤ 140737488351232) (hne : Bs ≠ Ns) (J Jx : List ByteArray → World → Prop)
    (W : World) (hJ : AbidesFrom W.heap.size J) (hM : Minds Bs J)
    (hY : ∀ pre x W1, J pre W1 → pre.length < s.size → pre ++ [x] <+: chunksB m s → YieldAt Fence.wide (n - 1) Tryd.prog l #[.string x] W1 fun e W' =>
      (e = .returned (.bool true) ∧ J (pre ++ [x]) W' ∧ KpC Bs Ns W1 W') ∨ (e = .returned (.bool false) ∧ Jx (pre ++ [x]) W'))
    (hBs : Boxed W Bs 9 (.string s)) (hNs : Boxed W Ns 3 (.int .i64 m)) (h0 : J [] W) :
    CallsIn Fence.wide n Tryd.prog 18 #[.func (.yield l) #[] #[], .pointer (some ⟨Bs, 0, none⟩), .pointer (some ⟨Ns, 0, none⟩)] W fun e W' => (∃ v, e = .returned v) ∧
      ((∃ ys, ys = chunksB m s ∧ J ys W') ∨ (∃ pre, pre <+: chunksB m s ∧ Jx pre W')) := by
  refine callsIn_of_wp Tryd.func18 rfl trivial ?_ rfl
  simp only [Tryd.ntmps18, List.size_toArray, List.length_cons, List.length_nil, Nat.reduceAdd, Nat.reduceSub, Array.replicate_succ, Array.replicate_zero, List.push_toArray, List.append_toArray, List.nil_append, List.cons_append]
  gi_wp2
  gi_loopw [] (fun wr => ∃ (rest : ByteArray) (pre : List ByteArray), rest.size ≤ s.size ∧ pre.length + rest.size ≤ s.size ∧ chunksB m s = pre ++ chunksB m rest ∧ Boxed wr Bs 9 (.string rest) ∧ Boxed wr Ns 3 (.int .i64 m) ∧ J pre wr)
    (fun wr => szAt Bs wr)
  case atStart => exact ⟨s, [], Nat.le_refl _, by simp, rfl, hBs, hNs, h0⟩
  case round =>
    obtain ⟨rest, pre, hrs, hl, hr, hb, hn2, hj⟩ := hrel
    have hc1 := hb.cell
    have hc2 := hn2.cell
    have hfz := hb.frozen
    have HR := Lib.hid hr
    have HB := Lib.hid hb
    have HN := Lib.hid hn2
    have HY := Lib.hid hY
    have HM := Lib.hid hM
    clear hr hb hn2 hY hM hJ
    by_cases h0 : rest.size = 0
    · have hem : rest.toList.isEmpty = true := by rw [Lib.toList_data, List.isEmpty_iff]; exact List.eq_nil_of_length_eq_zero (by rw [← Lib.size_eq]; exact h0)
      gi_wp2
      go_end0
      exact ⟨⟨_, rfl⟩, .inl ⟨_, by rw [HR.out, chunksB_end _ _ h0]; simp, hj⟩⟩
    · have hem : rest.toList.isEmpty = false := by
        cases hx : rest.toList.isEmpty with
        | false => rfl
        | true =>
          rw [Lib.toList_data, List.isEmpty_iff] at hx
          exact absurd (by rw [Lib.size_eq, hx]; rfl) h0
      have HST := Lib.hid (chunksB_step m hm rest h0)
      have hdrop : rest.extract rest.size rest.size = ⟨#[]⟩ := ByteArray.ext (Array.eq_empty_of_size_eq_zero (by
        have := extract_size rest rest.size rest.size (Nat.le_refl _) (Nat.le_refl _)
        have h2 : (rest.extract rest.size rest.size).data.size = (rest.extract rest.size rest.size).size := rfl
        omega))
      have htake : rest.extract 0 rest.size = rest := by
        rw [Lib.extract_eq, List.drop_zero, Nat.sub_zero, List.take_of_length_le (by rw [← Lib.size_eq]; exact Nat.le_refl _)]
      have HD := Lib.hid hdrop
      have HT := Lib.hid htake
      clear hdrop htake
      rcases Nat.lt_trichotomy m rest.size with hmin | hmin | hmin
      · have hmin' : (m : Int) < (rest.size : Int) := by omega
        have hmn : min (m : Int) (rest.size : Int) = (m : Int) := by omega
        obtain ⟨fn, tmps, assign, body, hy, hR⟩ := HY.out pre (rest.extract 0 m) wr hj (by omega) (by have hq := HST.out; rw [Nat.min_eq_left (by omega)] at hq; rw [HR.out, hq]; exact ⟨chunksB m (rest.extract m rest.size), by simp⟩)
        have hsz : (rest.extract m rest.size).size = rest.size - m := extract_size _ _ _ (Nat.le_refl _) (by omega)
        gi_wp2
        refine hR.mono ?_
        rintro e W3 (⟨rfl, hJ3, hk1, hk2⟩ | ⟨rfl, hJx3⟩)
        · have hb3 : Boxed W3 Bs 9 (.string rest) := hk1.trans HB.out
          have hn3 : Boxed W3 Ns 3 (.int .i64 m) := hk2.trans HN.out
          have hc3 := hb3.cell
          have hf3 := hb3.frozen
          have hq := HST.out
          rw [Nat.min_eq_left (by omega)] at hq
          gi_wp2
          go_roundw
          case rel =>
            refine ⟨rest.extract m rest.size, pre ++ [rest.extract 0 m], by omega, by simp; omega, by rw [HR.out, hq]; simp, hb3.set _, ?_, HM.out _ _ _ hJ3⟩
            exact (setCell_away W3 Bs _ Ns (Ne.symm hne)).trans hn3
          case measure =>
            unfold szAt
            rw [(hb3.set (.string (rest.extract m rest.size))).cell, hc1]
            simp only
            omega
        · gi_wp2
          refine bodyPost_ret (results_none rfl _ _ _) rfl ?_
          have hq := HST.out
          rw [Nat.min_eq_left (by omega)] at hq
          exact ⟨⟨_, rfl⟩, .inr ⟨_, ⟨chunksB m (rest.extract m rest.size), by rw [HR.out, hq]; simp⟩, hJx3⟩⟩
      · have hmin' : (rest.size : Int) = (m : Int) := by omega
        obtain ⟨fn, tmps, assign, body, hy, hR⟩ := HY.out pre rest wr hj (by omega) (by have hq := HST.out; rw [Nat.min_eq_right (by omega), HT.out, HD.out, chunksB_end _ ⟨#[]⟩ rfl] at hq; rw [HR.out, hq]; exact ⟨[], by simp⟩)
        subst hmin
        gi_wp2
        refine hR.mono ?_
        rintro e W3 (⟨rfl, hJ3, hk1, hk2⟩ | ⟨rfl, hJx3⟩)
        · have hb3 : Boxed W3 Bs 9 (.string rest) := hk1.trans HB.out
          have hn3 : Boxed W3 Ns 3 (.int .i64 rest.size) := hk2.trans HN.out
          have hc3 := hb3.cell
          have hf3 := hb3.frozen
          have hq := HST.out
          rw [Nat.min_eq_right (by omega), HT.out, HD.out, chunksB_end _ ⟨#[]⟩ rfl] at hq
          gi_wp2
          go_roundw
          case rel =>
            refine ⟨⟨#[]⟩, pre ++ [rest], Nat.zero_le _, by rw [List.length_append, show (⟨#[]⟩ : ByteArray).size = 0 from rfl]; simp; omega, by rw [HR.out, hq, chunksB_end _ ⟨#[]⟩ rfl]; simp, ?_, ?_, HM.out _ _ _ hJ3⟩
            · first | exact hb3.set _ | (rw [HD.out]; exact hb3.set _)
            · exact (setCell_away W3 Bs _ Ns (Ne.symm hne)).trans hn3
          case measure =>
            unfold szAt
            rw [(hb3.set _).cell, hc1]
            have hz : (⟨#[]⟩ : ByteArray).size = 0 := rfl
            have hz2 := congrArg ByteArray.size HD.out
            have hz3 : ByteArray.empty.size = 0 := rfl
            simp only
            omega
        · gi_wp2
          refine bodyPost_ret (results_none rfl _ _ _) rfl ?_
          have hq := HST.out
          rw [Nat.min_eq_right (by omega), HT.out, HD.out, chunksB_end _ ⟨#[]⟩ rfl] at hq
          exact ⟨⟨_, rfl⟩, .inr ⟨_, ⟨[], by rw [HR.out, hq]; simp⟩, hJx3⟩⟩
      · have hmin' : (rest.size : Int) < (m : Int) := by omega
        have hmn : min (m : Int) (rest.size : Int) = (rest.size : Int) := by omega
        obtain ⟨fn, tmps, assign, body, hy, hR⟩ := HY.out pre rest wr hj (by omega) (by have hq := HST.out; rw [Nat.min_eq_right (by omega), HT.out, HD.out, chunksB_end _ ⟨#[]⟩ rfl] at hq; rw [HR.out, hq]; exact ⟨[], by simp⟩)
        gi_wp2
        refine hR.mono ?_
        rintro e W3 (⟨rfl, hJ3, hk1, hk2⟩ | ⟨rfl, hJx3⟩)
        · have hb3 : Boxed W3 Bs 9 (.string rest) := hk1.trans HB.out
          have hn3 : Boxed W3 Ns 3 (.int .i64 m) := hk2.trans HN.out
          have hc3 := hb3.cell
          have hf3 := hb3.frozen
          have hq := HST.out
          rw [Nat.min_eq_right (by omega), HT.out, HD.out, chunksB_end _ ⟨#[]⟩ rfl] at hq
          gi_wp2
          go_roundw
          case rel =>
            refine ⟨⟨#[]⟩, pre ++ [rest], Nat.zero_le _, by rw [List.length_append, show (⟨#[]⟩ : ByteArray).size = 0 from rfl]; simp; omega, by rw [HR.out, hq, chunksB_end _ ⟨#[]⟩ rfl]; simp, ?_, ?_, HM.out _ _ _ hJ3⟩
            · first | exact hb3.set _ | (rw [HD.out]; exact hb3.set _)
            · exact (setCell_away W3 Bs _ Ns (Ne.symm hne)).trans hn3
          case measure =>
            unfold szAt
            rw [(hb3.set _).cell, hc1]
            have hz : (⟨#[]⟩ : ByteArray).size = 0 := rfl
            have hz2 := congrArg ByteArray.size HD.out
            have hz3 : ByteArray.empty.size = 0 := rfl
            simp only
            omega
        · gi_wp2
          refine bodyPost_ret (results_none rfl _ _ _) rfl ?_
          have hq := HST.out
          rw [Nat.min_eq_right (by omega), HT.out, HD.out, chunksB_end _ ⟨#[]⟩ rfl] at hq
          exact ⟨⟨_, rfl⟩, .inr ⟨_, ⟨[], by rw [HR.out, hq]; simp⟩, hJx3⟩⟩
theorem format_chunks_stops (n : Nat) (hn : 1 ≤ n) (Bs Ns : Nat) (s : ByteArray) (m : Nat) (hm : 0 < m) (hm2 : m ≤ 1000) (hs : s.size ≤ 140737488351232) (hne : Bs ≠ Ns) (w : World)
    (hBs : Boxed w Bs 9 (.string s)) (hNs : Boxed w Ns 3 (.int .i64 m)) :
    SeqCell Fence.wide n Tryd.prog 18 #[.pointer (some ⟨Bs, 0, none⟩), .pointer (some ⟨Ns, 0, none⟩)] (fun x : ByteArray => #[.string x]) (KpC Bs Ns) (fun ys => ys = chunksB m s) (fun pre => pre <+: chunksB m s) s.size Bs w :=
  fun l J Jx W hW hJ _ hM hY h0 => format_chunks1_in n hn l Bs Ns s m hm hm2 hs hne J Jx W hJ hM hY ((hW.block Bs hBs.lt).trans hBs) ((hW.block Ns hNs.lt).trans hNs) h0
end Go.Proofs.YtnbkmaghdbhlnaaDoor.B

end

section
/- A strings.Builder at the beginning of a block (alone, or embedded as the first field of a struct): copyCheck, Len, WriteString, String, walked. -/
set_option linter.unusedVariables false
namespace Go.Proofs.YtnbkmaghdbhlnaaDoor.B
open Go.RowKit Go.Shelf Go.Proofs.YtnbkmaghdbhlnaaDoorW.PrintWords

theorem infoByte : (Tryd.prog.info? 5).map (fun i => (i.zero, i.size, i.bytes)) = some (some (.int .u8 0), 1, 1) := by kernel_rfl
theorem sizeBuilder : (Tryd.prog.info? 33).map (·.size) = some 2 := by kernel_rfl
theorem cellsByte : Tryd.prog.cellsOf 5 = 1 := by kernel_rfl
/-- A block of type T whose first two cells are a Builder that holds these octets: 'addr' nil or its own address; 'buf' a row of the call's own. -/
structure Bld (T : TypeId) (B b : Nat) (p v : Value) (rest : List Value) (l : List UInt8) (w : World) : Prop where
  low : B ≤ b
  blk : w.heap[b]? = some (.cells (p :: v :: rest).toArray T (0, 0))
  own : w.ownsRow B 5 1 v l.length (Lib.byteCells l)
  addr : p = .pointer none ∨ p = .pointer (some ⟨b, 0, none⟩)
  /-- what the copy check asks of the block's type -/
  lies : liesAt Tryd.prog Tryd.prog.depth T ((rest.length + 2) / Tryd.prog.cellsOf T) 0 33 1 = true
  ne : T ≠ 5
section
variable {T : TypeId} {B b : Nat} {p v : Value} {rest : List Value} {l : List UInt8} {w : World}
theorem Bld.cell (h : Bld T B b p v rest l w) (j : Nat) : w.cell? ⟨b, j, none⟩ = (p :: v :: rest)[j]? := by
  rw [Lib.cell_of_heap h.blk]; simp
theorem Bld.cell0 (h : Bld T B b p v rest l w) : w.cell? ⟨b, 0, none⟩ = some p := h.cell 0
theorem Bld.cell1 (h : Bld T B b p v rest l w) : w.cell? ⟨b, 1, none⟩ = some v := h.cell 1
theorem Bld.frozen (h : Bld T B b p v rest l w) (j : Nat) : w.frozen? ⟨b, j, none⟩ = false := Lib.frozen_of_heap h.blk j
theorem Bld.shape (h : Bld T B b p v rest l w) : w.shape? b = some (T, rest.length + 2) := by simp [World.shape?, h.blk]
theorem Bld.lt (h : Bld T B b p v rest l w) : b < w.heap.size := by
  rcases Nat.lt_or_ge b w.heap.size with h' | h'
  · exact h'
  · have := h.blk; simp [Array.getElem?_eq_none h'] at this
theorem Bld.away (h : Bld T B b p v rest l w) : v.ownBlock ≠ some b := Lib.ownBlock_ne h.own h.blk h.ne
theorem Bld.slice (h : Bld T B b p v rest l w) : ∃ ao cap, v = .slice ao l.length cap := by
  have := Lib.byteCells_length l
  rcases h.own.2 with ⟨hv, h0⟩ | ⟨g, cap, cur, hv, _⟩
  · exact ⟨none, 0, by rw [hv, h0]⟩
  · exact ⟨_, _, hv⟩
/-- A store of its own address into 'addr'. -/
theorem Bld.used (h : Bld T B b p v rest l w) : Bld T B b (.pointer (some ⟨b, 0, none⟩)) v rest l (w.setCell ⟨b, 0, none⟩ (.pointer (some ⟨b, 0, none⟩))) := by
  refine ⟨h.low, ?_, ?_, .inr rfl, h.lies, h.ne⟩
  · simp [World.setCell, Array.getElem?_modify, h.blk]
  · exact h.own.kept (row := some b) ⟨rfl, rfl, rfl, by simp [World.setCell], fun k _ hk => Below.heap_setCell _ _ _ _ (fun e => hk (by simp [e]))⟩ (Or.inr h.away)
/-- A new buffer laid into 'buf'. -/
theorem Bld.put {w1 : World} {v' : Value} {l' : List UInt8} (h : Bld T B b p v rest l w) (hb : w1.heap[b]? = w.heap[b]?) (hown : w1.ownsRow B 5 1 v' l'.length (Lib.byteCells l')) : Bld T B b p v' rest l' (w1.setCell ⟨b, 1, none⟩ v') := by
  have hb1 := hb.trans h.blk
  refine ⟨h.low, ?_, ?_, h.addr, h.lies, h.ne⟩
  · simp [World.setCell, Array.getElem?_modify, hb1]
  · exact hown.kept (row := some b) ⟨rfl, rfl, rfl, by simp [World.setCell], fun k _ hk => Below.heap_setCell _ _ _ _ (fun e => hk (by simp [e]))⟩ (Or.inr (Lib.ownBlock_ne hown hb1 h.ne))
/-- It stays where memory only grows. -/
theorem Bld.below {w1 : World} (h : Bld T B b p v rest l w) (hb : Below w.heap.size w w1) : Bld T B b p v rest l w1 :=
  ⟨h.low, (hb.block b h.lt).trans h.blk, pw_own_below h.own hb, h.addr, h.lies, h.ne⟩
end

theorem byteCells_str (l : List UInt8) (s : ByteArray) : Lib.byteCells l ++ Lib.strCells s = Lib.byteCells (l ++ s.data.toList) := by
  simp [Lib.byteCells, Lib.strCells]
set_option maxHeartbeats 1000000 in
set_option maxRecDepth 100000 in
theorem Bld_copyCheck {T : TypeId} {B b : Nat} {p v : Value} {rest : List Value} {l : List UInt8} {w : World} (h : Bld T B b p v rest l w) :
    Calls Tryd.prog 19 #[.pointer (some ⟨b, 0, none⟩)] w fun e w' => e = .returned (.tuple #[]) ∧ Bld T B b (.pointer (some ⟨b, 0, none⟩)) v rest l w' ∧ Below B w w' ∧ KeepBut w w' b none := by
  obtain ⟨j, hj, hjs⟩ := Option.map_eq_some_iff.1 sizeBuilder
  rcases h.addr with hp | hp
  · subst hp
    have h0 := h.cell0
    have hfz := h.frozen 0
    have hsh := h.shape
    have HU := Lib.hid h.used
    have HL := Lib.hid h.low
    have HLies := Lib.hid h.lies
    clear h
    go_enter Tryd.func19, Tryd.ntmps19
    go_wp2
    rw [Lib.run_to_unsafe w ⟨b, 0, none⟩ Tryd.underlying30 Tryd.underlying63 hj (by rw [hjs]; decide) hsh (Nat.zero_lt_succ _)]
    simp only [Result.andThen]
    rw [Oper.upon_value]
    go_wp2
    rw [run_callFunc_extern Tryd.func28 (by kernel_rfl) (by kernel_rfl) (by kernel_rfl) (e := Extern.AbiNoEscape.same) (by kernel_rfl)]
    rw [Lib.run_noEscape]
    simp only [Result.andThen]
    rw [Oper.upon_value]
    go_wp2
    rw [Lib.run_from_unsafe w ⟨b, 0, none⟩ Tryd.underlying63 Tryd.underlying30 hj hsh HLies.out]
    simp only [Result.andThen]
    rw [Oper.upon_value]
    go_wp2
    go_end0
    exact ⟨rfl, HU.out, (Below.refl B w).setCell (p := ⟨b, 0, none⟩) HL.out _, by simp [World.setCell], fun k _ hk _ => Below.heap_setCell _ _ _ _ hk⟩
  · subst hp
    have h0 := h.cell0
    have HH := Lib.hid h
    clear h
    go_enter Tryd.func19, Tryd.ntmps19
    go_wp2
    rw [Lib.run_neq_ptr_same w _ Tryd.underlying30 hj]
    go_wp2
    go_end0
    exact ⟨rfl, HH.out, Below.refl B w, Nat.le_refl _, fun _ _ _ _ => rfl⟩
set_option maxHeartbeats 2000000 in
set_option maxRecDepth 100000 in
theorem Bld_WriteString {T : TypeId} {B b : Nat} {p v : Value} {rest : List Value} {l : List UInt8} {w : World} (s : ByteArray) (h : Bld T B b p v rest l w) (hlen : l.length + s.size ≤ 140737488355328) (hBw : B ≤ w.heap.size) :
    Calls Tryd.prog 10 #[.pointer (some ⟨b, 0, none⟩), .string s] w fun e w' => e = .returned (.tuple #[.int .i64 s.size, .nilIface]) ∧ (∃ v', Bld T B b (.pointer (some ⟨b, 0, none⟩)) v' rest (l ++ s.data.toList) w') ∧ Below B w w' ∧ KeepBut w w' b v.ownBlock := by
  obtain ⟨i0, hi, hz0, hz1, hz2⟩ := info_parts infoByte
  have cC := Bld_copyCheck h
  clear h
  go_enter Tryd.func10, Tryd.ntmps10
  go_wp2_with (go_at_call 19; refine cC.mono ?_)
  rintro e w1 ⟨rfl, h1, hb1, hkb⟩
  have HKB := Lib.hid hkb; clear hkb
  have c0 := h1.cell0
  have c1 := h1.cell1
  have hown := h1.own
  have H1 := Lib.hid h1
  have HO := Lib.hid hown
  have hlow := h1.low
  clear h1 cC
  go_wp2_with (at_builtin; refine Lib.wpList_append_own_string _ rfl _ _ 31 9 rfl B 5 i0 Tryd.underlying31 Tryd.underlying9 hi hz0 hz1 hz2 _ _ _ rfl hown s rfl ?c3 ?c4 ?c5 ?_)
  case c3 => unfold maxLen; omega
  case c4 => omega
  case c5 => have := hb1.size; omega
  intro v' w2 hown' hgrow _
  have hkeep : w2.heap[b]? = w1.heap[b]? := hgrow.block b H1.out.lt (fun e => H1.out.away e.symm)
  have hb2 := hkeep.trans H1.out.blk
  have d0 : w2.cell? ⟨b, 0, none⟩ = some (.pointer (some ⟨b, 0, none⟩)) := by rw [Lib.cell_of_heap hb2]; rfl
  have d1 : w2.cell? ⟨b, 1, none⟩ = some v := by rw [Lib.cell_of_heap hb2]; rfl
  have f1 : w2.frozen? ⟨b, 1, none⟩ = false := Lib.frozen_of_heap hb2 1
  obtain ⟨ao, n', cap, rfl⟩ : ∃ ao n' cap, v' = .slice ao n' cap := by
    rcases hown'.2 with ⟨hv, _⟩ | ⟨g, cap, cur, hv, _⟩
    · exact ⟨_, _, _, hv⟩
    · exact ⟨_, _, _, hv⟩
  have HO2 := Lib.hid hown'
  have HG := Lib.hid hgrow
  have HK := Lib.hid hkeep
  clear hown' hgrow hown hkeep hb2
  go_wp2
  go_ret2
  refine ⟨rfl, ⟨_, H1.out.put HK.out (by rw [← byteCells_str]; simpa using HO2.out)⟩, ?_, ?_, ?_⟩
  · exact (hb1.grown HG.out (by have := hb1.size; omega) (fun k hk => (HO.out.lt k hk).1)).setCell (p := ⟨b, 1, none⟩) hlow _
  · have := HKB.out.1; have := HG.out.size; simp [World.setCell]; omega
  · intro k hk h1 h2
    have := HKB.out.1
    rw [Below.heap_setCell _ _ _ _ h1, HG.out.block k (by omega) (fun e => h2 e), HKB.out.2 k hk h1 (by simp)]
theorem unsafeString_none (W : World) (q : Option Addr) : (Builtin.unsafeString_ #[50, 3] 9 #[.pointer q, .int .i64 0]).run Tryd.prog W = .ok (.string .empty) W :=
  Lib.run_unsafeString_none W _ _ _ q
end Go.Proofs.YtnbkmaghdbhlnaaDoor.B

end

section
/- (*strings.Builder).String, with what it leaves as it was. -/
set_option linter.unusedVariables false
set_option linter.unusedSimpArgs false
namespace Go.Proofs.YtnbkmaghdbhlnaaDoor.B
open Go.RowKit Go.Shelf Go.Proofs.YtnbkmaghdbhlnaaDoorW.PrintWords

theorem freeze_keep (w : World) (g n b : Nat) : KeepBut w (w.drew.freeze ⟨g, 0, none⟩ n) b (some g) := by
  refine ⟨?_, fun i hi _ hr => ?_⟩
  · unfold World.freeze
    split
    · exact Nat.le_refl _
    · simp
  · unfold World.freeze
    split
    · rfl
    · have hne : g ≠ i := fun e => hr (by rw [e])
      simp only [Array.getElem?_modify, if_neg hne]
      rfl
theorem Bld_StringK {T : TypeId} {B b : Nat} {p v : Value} {rest : List Value} {l : List UInt8} {w : World} (h : Bld T B b p v rest l w) (hBw : B ≤ w.heap.size) :
    Calls Tryd.prog 13 #[.pointer (some ⟨b, 0, none⟩)] w fun e w' => e = .returned (.string ⟨l.toArray⟩) ∧ Below B w w' ∧ KeepBut w w' b v.ownBlock := by
  have c1 : w.drew.cell? ⟨b, 1, none⟩ = some v := h.cell1
  have hlt := h.lt
  have hblk := Lib.hid h.blk
  have hown := Lib.hid h.own
  clear h
  by_cases hl : l = []
  · subst hl
    have hUS := unsafeString_none
    rcases hown.out.2 with ⟨rfl, _⟩ | ⟨g, cap, cur, rfl, hbg, hg, hnc, hcm, hcs, htake⟩
    · have hSD : (Builtin.unsafeSliceData_ #[31] 50 #[.slice none 0 0]).run Tryd.prog w.drew = .ok (.pointer none) w.drew := rfl
      go_enter Tryd.func13, Tryd.ntmps13
      go_wp2
      go_region
      all_goals (go_wp2; go_ret; exact ⟨rfl, Below.drew (Below.refl B w), ⟨Nat.le_refl _, fun _ _ _ _ => rfl⟩⟩)
    · have HG := Lib.hid hg
      clear hg htake hcs hnc hcm hown
      by_cases hc0 : cap = 0
      · subst hc0
        have hSD : (Builtin.unsafeSliceData_ #[31] 50 #[.slice (some ⟨g, 0, none⟩) 0 0]).run Tryd.prog w.drew = .ok (.pointer (some ⟨w.drew.heap.size, 0, none⟩)) (w.drew.alloc (.view ⟨g, 0, none⟩ 5)) :=
          Lib.run_unsafeSliceData_zero w.drew _ _ 5 Tryd.underlying50 ⟨g, 0, none⟩ 0 (5, cur.size) (by have hg' : w.drew.heap[g]? = some (.cells cur 5 (0, 0)) := HG.out; simp [World.shape?, hg'])
        have c2 : (w.drew.alloc (.view ⟨g, 0, none⟩ 5)).cell? ⟨b, 1, none⟩ = some (.slice (some ⟨g, 0, none⟩) 0 0) := by
          have : (w.drew.alloc (.view ⟨g, 0, none⟩ 5)).heap[b]? = _ := (Lib.alloc_old w.drew _ b hlt).trans hblk.out
          rw [Lib.cell_of_heap this]; rfl
        have c3 : (w.alloc (.view ⟨g, 0, none⟩ 5)).drew.cell? ⟨b, 1, none⟩ = some (.slice (some ⟨g, 0, none⟩) 0 0) := c2
        have c0 : w.cell? ⟨b, 1, none⟩ = some (.slice (some ⟨g, 0, none⟩) 0 0) := c1
        go_enter Tryd.func13, Tryd.ntmps13
        go_wp2
        go_region
        all_goals (go_wp2; go_ret; exact ⟨rfl, (Below.drew (Below.refl B w)).alloc hBw _, ⟨by simp, fun i hi _ _ => Below.heap_alloc _ _ _ hi⟩⟩)
      · have hSD : (Builtin.unsafeSliceData_ #[31] 50 #[.slice (some ⟨g, 0, none⟩) 0 cap]).run Tryd.prog w.drew = .ok (.pointer (some ⟨g, 0, none⟩)) w.drew :=
          Lib.run_unsafeSliceData_row _ _ _ _ _ _ hc0
        clear hc0
        go_enter Tryd.func13, Tryd.ntmps13
        go_wp2
        go_region
        all_goals (go_wp2; go_ret; exact ⟨rfl, Below.drew (Below.refl B w), ⟨Nat.le_refl _, fun _ _ _ _ => rfl⟩⟩)
  · have hl0 : l.length ≠ 0 := by simpa using hl
    have hown2 := hown.out
    obtain ⟨g, cap, cur, rfl, hbg, hg, hnc, hcm, hcs, htake⟩ : ∃ g cap cur, v = .slice (some ⟨g, 0, none⟩) l.length cap ∧ B ≤ g ∧ w.heap[g]? = some (.cells cur 5 (0, 0)) ∧ l.length ≤ cap ∧ cap ≤ maxLen ∧ cur.size = cap * 1 ∧ cur.toList.take (l.length * 1) = Lib.byteCells l := by
      rcases hown2.2 with ⟨_, hz⟩ | ⟨g, cap, cur, hv, r⟩
      · exact absurd hz hl0
      · exact ⟨g, cap, cur, hv, r⟩
    have hSD : (Builtin.unsafeSliceData_ #[31] 50 #[.slice (some ⟨g, 0, none⟩) l.length cap]).run Tryd.prog w.drew = .ok (.pointer (some ⟨g, 0, none⟩)) w.drew :=
      Lib.run_unsafeSliceData_row _ _ _ _ _ _ (by omega)
    have hUS : (Builtin.unsafeString_ #[50, 3] 9 #[.pointer (some ⟨g, 0, none⟩), .int .i64 l.length]).run Tryd.prog w.drew = .ok (.string ⟨l.toArray⟩) (w.drew.freeze ⟨g, 0, none⟩ l.length) := by
      refine Lib.run_unsafeString_row w.drew 50 3 9 5 Tryd.underlying50 cellsByte g cur.size (by have hg' : w.drew.heap[g]? = some (.cells cur 5 (0, 0)) := hg; simp [World.shape?, hg']) l hl (by omega) (by unfold maxLen at hcm; omega) ?_
      intro j x hx
      have := hown2.cells (g := g) rfl j (.int .u8 x.toNat) (by simp [Lib.byteCells, hx])
      exact this
    clear htake hcs hnc hg hown2 hown hl hl0
    go_enter Tryd.func13, Tryd.ntmps13
    go_wp2
    go_region
    all_goals (go_wp2; go_ret; exact ⟨rfl, Lib.below_freeze (Below.drew (Below.refl B w)) (p := ⟨g, 0, none⟩) hbg _, freeze_keep _ _ _ _⟩)
end Go.Proofs.YtnbkmaghdbhlnaaDoor.B

end

section
/- The library's functions that the printed texts call, by the kit's shelf of contracts, in the form in which printed texts call each other. -/
set_option linter.unusedVariables false
set_option linter.unusedSimpArgs false
namespace Go.Proofs.YtnbkmaghdbhlnaaDoor.B
open Go.RowKit Go.Shelf Go.Proofs.YtnbkmaghdbhlnaaDoorW.PrintWords

def utf8_DecodeRuneInString.f (a0 : ByteArray) : Option (Int × Int) := some (((Lib.decodeGo a0).1 : Int), ((Lib.decodeGo a0).2 : Int))
def strings_IndexByte.f (a0 : ByteArray) (a1 : Int) : Option Int := some (Lib.indexByte a0.data.toList a1.toNat.toUInt8)
theorem strings_IndexByte.calls (a0 : ByteArray) (a1 : Int) (r : Int) (w : World) (h : strings_IndexByte.f a0 a1 = some r) :
    Calls Tryd.prog 24 #[.string a0, .int .u8 a1] w fun e w' => e = .returned (.int .i64 r) ∧ Drawn0 w w' := by
  obtain rfl := Option.some.inj h
  refine (Tryd.strings_IndexByte a0 a1 w).mono ?_
  rintro e w' ⟨rfl, rfl⟩
  exact ⟨rfl, Drawn0.refl _⟩
theorem add_at (b o j : Nat) : (⟨b, o, none⟩ : Addr).add j = ⟨b, o + j, none⟩ := by unfold Addr.add; split <;> simp_all
end Go.Proofs.YtnbkmaghdbhlnaaDoor.B

end

section
/- format.three: three octets as four digits, in a row made of a constant and written over: walked. -/
set_option linter.unusedVariables false
set_option linter.unusedSimpArgs false
namespace Go.Proofs.YtnbkmaghdbhlnaaDoor.B
open Go.RowKit Go.Shelf Go.Proofs.YtnbkmaghdbhlnaaDoorW.PrintWords

def digs64 : ByteArray := ⟨#[65, 66, 67, 68, 69, 70, 71, 72, 73, 74, 75, 76, 77, 78, 79, 80, 81, 82, 83, 84, 85, 86, 87, 88, 89, 90, 97, 98, 99, 100, 101, 102, 103, 104, 105, 106, 107, 108, 109, 110, 111, 112, 113, 114, 115, 116, 117, 118, 119, 120, 121, 122, 48, 49, 50, 51, 52, 53, 54, 55, 56, 57, 43, 47]⟩
def threeN (s : ByteArray) : Nat → Int
  | 0 => 0
  | i + 1 => if i < s.size then Go.bits .or .i64 (wrap64 (threeN s i * 256)) (wrap64 (bt s (i : Int))) else wrap64 (threeN s i * 256)
def threeI (n : Int) (i : Nat) : Int := Go.bits .and .i64 (n / 2 ^ (18 - 6 * i)) 63
def threeB (s : ByteArray) (i : Nat) : Int := if i < s.size + 1 then bt digs64 (threeI (threeN s 3) i) else 61
def format_three.f (a0 : ByteArray) : Option ByteArray :=
  if a0.size ≤ 3 ∧ (∀ i ∈ List.range 4, 0 ≤ threeI (threeN a0 3) i ∧ threeI (threeN a0 3) i < 64) then some (strOfNums ((List.range 4).map (threeB a0))) else none
structure ThRel (a0 : ByteArray) (j g : Nat) (w wr : World) : Prop where
  low : Below w.heap.size w wr
  lt : w.heap.size ≤ g
  cell : ∀ t, t < 4 → wr.cell? ⟨g, t, none⟩ = some (.int .u8 (if t < j then threeB a0 t else 61))
  fr : ∀ t, t < 4 → wr.frozen? ⟨g, t, none⟩ = false
set_option maxHeartbeats 8000000 in
set_option maxRecDepth 100000 in
theorem format_three.calls (a0 : ByteArray) (r : ByteArray) (w : World) (h : format_three.f a0 = some r) :
    Calls Tryd.prog 11 #[.string a0] w fun e w' => e = .returned (.string r) ∧ Below w.heap.size w w' := by
  unfold format_three.f at h
  split at h
  case isFalse => cases h
  case isTrue hc =>
    obtain ⟨hs, hi⟩ := hc
    have HI := Lib.hid hi
    have HR := Lib.hid h
    clear hi h
    have kc := fun (W : World) (C : Array Value) (n c : Nat) => Lib.run_convert_bytes_const (P := Tryd.prog) W 31 5 C n c Tryd.underlying31 Tryd.underlying5
    go_enter Tryd.func11, Tryd.ntmps11
    go_wp2
    go_loopw [3, 7] (fun v3 v7 wr => ∃ j : Nat, j ≤ 3 ∧ v3 = .int .i64 (threeN a0 j) ∧ v7 = .int .i64 j ∧ Below w.heap.size w wr) (fun _ i _ => 3 - (intOf i).toNat)
    case atStart => exact ⟨0, Nat.zero_le _, rfl, rfl, Below.refl _ _⟩
    case round =>
      obtain ⟨j, hj, rfl, rfl, hb⟩ := hrel
      have HB := Lib.hid hb
      clear hb
      by_cases hlt : j < 3
      · have hlt' : (j : Int) < 3 := by omega
        by_cases hsz : j < a0.size
        · have hsz' : (j : Int) < (a0.size : Int) := by omega
          have hn : threeN a0 (j + 1) = Go.bits .or .i64 (wrap64 (threeN a0 j * 256)) (wrap64 (bt a0 (j : Int))) := by conv => lhs; unfold threeN; rw [if_pos hsz]
          have HN := Lib.hid hn
          clear hn
          have hx5 := bt_at a0 (j : Int)
          have p5 : (0 ≤ (j : Int)) = True := eq_true (by omega)
          have q5 : ((j : Int) < (a0.size : Int)) = True := eq_true hsz'
          go_wp2
          go_roundw
          case rel => exact ⟨j + 1, by omega, by rw [HN.out, ← bt_at a0 (j : Int) (by rw [Int.toNat_natCast]; exact hsz)]; rfl, by go_num, HB.out⟩
          case measure => simp [intOf]; omega
        · have hsz' : ¬ (j : Int) < (a0.size : Int) := by omega
          have hn : threeN a0 (j + 1) = wrap64 (threeN a0 j * 256) := by conv => lhs; unfold threeN; rw [if_neg hsz]
          have HN := Lib.hid hn
          clear hn
          go_wp2
          go_roundw
          case rel => exact ⟨j + 1, by omega, by rw [HN.out], by go_num, HB.out⟩
          case measure => simp [intOf]; omega
      · obtain rfl : j = 3 := by omega
        go_wp2
        obtain ⟨g, hg⟩ : ∃ g, wr.heap.size = g := ⟨_, rfl⟩
        have hat : (wr.alloc (Obj.cells #[.int .u8 61, .int .u8 61, .int .u8 61, .int .u8 61] 5 (4, 5))).heap[wr.heap.size]? = some (Obj.cells #[.int .u8 61, .int .u8 61, .int .u8 61, .int .u8 61] 5 (4, 5)) := World.alloc_heap_new _ _
        have hrel0 : ThRel a0 0 g w (wr.alloc (Obj.cells #[.int .u8 61, .int .u8 61, .int .u8 61, .int .u8 61] 5 (4, 5))) := by
          refine ⟨HB.out.alloc HB.out.size _, by rw [← hg]; exact HB.out.size, fun t ht => ?_, fun t ht => ?_⟩
          · rw [if_neg (by omega), ← hg, Lib.cell_of_heap hat]
            obtain rfl | rfl | rfl | rfl : t = 0 ∨ t = 1 ∨ t = 2 ∨ t = 3 := by omega
            all_goals rfl
          · rw [← hg]
            simp only [World.frozen?, hat]
            simp; omega
        rw [hg]
        have HR0 := Lib.hid hrel0
        clear hrel0 hat hg kc hlt hj
        obtain ⟨wb, hwb⟩ : ∃ wb, wr.alloc (Obj.cells #[.int .u8 61, .int .u8 61, .int .u8 61, .int .u8 61] 5 (4, 5)) = wb := ⟨_, rfl⟩
        rw [hwb] at HR0 ⊢
        clear hwb HB
        obtain ⟨N, hN⟩ : ∃ N, threeN a0 3 = N := ⟨_, rfl⟩
        have HN := Lib.hid hN
        rw [hN] at HI ⊢
        clear hN
        obtain ⟨n, hn⟩ : ∃ n, a0.size = n := ⟨_, rfl⟩
        have HSz := Lib.hid hn
        rw [hn] at hs ⊢
        clear hn
        go_loopw [28] (fun i wr => ∃ j : Nat, j ≤ n + 1 ∧ i = .int .i64 j ∧ ThRel a0 j g w wr) (fun i _ => n + 1 - (intOf i).toNat)
        case atStart => exact ⟨0, Nat.zero_le _, rfl, HR0.out⟩
        case round =>
          obtain ⟨j, hj, rfl, hrel⟩ := hrel
          have HRl := Lib.hid hrel
          clear hrel
          by_cases hlt : j < n + 1
          · have hlt' : (j : Int) < (n : Int) + 1 := by omega
            have hr := HI.out j (List.mem_range.2 (by omega))
            obtain ⟨q, hq⟩ : ∃ q, N / 2 ^ (18 - 6 * j) = q := ⟨_, rfl⟩
            unfold threeI at hr
            rw [hq] at hr
            obtain ⟨x, hx⟩ : ∃ x, Go.bits .and .i64 q 63 = x := ⟨_, rfl⟩
            rw [hx] at hr
            have hck : wr.cell? ⟨g, j, none⟩ = some (.int .u8 61) := by
              have := HRl.out.cell j (by omega)
              rw [if_neg (by omega)] at this; exact this
            have hfr : wr.frozen? ⟨g, j, none⟩ = false := HRl.out.fr j (by omega)
            have hsh : 18 - 6 * (j : Int) ≥ 0 := by omega
            have hpw : N / 2 ^ (18 - 6 * (j : Int)).toNat = q := by rw [← hq]; congr 2; omega
            have hval : ∀ h : x.toNat < digs64.size, ((digs64[x.toNat]'h).toNat : Int) = threeB a0 j := fun h => by
              unfold threeB threeI
              rw [if_pos (by have := HSz.out; omega), HN.out, hq, hx]
              exact bt_at digs64 x h
            have HV := Lib.hid hval
            have HQ := Lib.hid hq
            have HX := Lib.hid hx
            clear hval
            go_wp2
            go_roundw
            case rel =>
              refine ⟨j + 1, by omega, by go_num, ?_⟩
              refine ⟨HRl.out.low.setCell (p := ⟨g, j, none⟩) HRl.out.lt _, HRl.out.lt, fun t ht => ?_, fun t ht => by rw [World.frozen?_setCell]; exact HRl.out.fr t ht⟩
              rcases Nat.lt_trichotomy t j with h | h | h
              · rw [World.cell?_setCell_other _ _ _ _ (by first | (simp; done) | (simp; omega)), HRl.out.cell t ht, if_pos h, if_pos (by omega)]
              · subst h
                rw [if_pos (by omega), World.cell?_setCell_same' _ _ _ (by rw [hck]; rfl)]
                have := HV.out (by have : digs64.size = 64 := rfl; omega)
                exact congrArg (fun z => some (Value.int .u8 z)) this
              · rw [World.cell?_setCell_other _ _ _ _ (by first | (simp; done) | (simp; omega)), HRl.out.cell t ht, if_neg (by omega), if_neg (by omega)]
            case measure => simp [intOf]; omega
          · obtain rfl : j = n + 1 := by omega
            have hC : Kd.C (Kd.int .u8) wr (some ⟨g, 0, none⟩) ((List.range 4).map (threeB a0)).length ((List.range 4).map (threeB a0)) := by
              refine Kd.C_of_reads (enc := Value.int .u8) (d := 0) ⟨rfl, by simp, fun _ => ⟨_, rfl, fun t ht => ?_⟩⟩
              have ht' : t < 4 := by simpa using ht
              rw [add_at, Nat.zero_add, HRl.out.cell t ht']
              have e : ((List.range 4).map (threeB a0)).getD t 0 = threeB a0 t := by simp [List.getD, ht']
              rw [e]
              split
              · rfl
              · unfold threeB; rw [if_neg (by have := HSz.out; omega)]
            have hcv := Kd.C_string (P := Tryd.prog) (A := some ⟨g, 0, none⟩) (c := 4) Tryd.underlying31 Tryd.underlying5 Tryd.underlying9 hC
            rw [show ((List.range 4).map (threeB a0)).length = 4 by simp] at hcv
            clear hC
            go_wp2
            go_ret
            exact ⟨by rw [← Option.some.inj HR.out]; rfl, HRl.out.low⟩
end Go.Proofs.YtnbkmaghdbhlnaaDoor.B

end

section
namespace Go.Proofs.YtnbkmaghdbhlnaaDoor.B
open Go.RowKit Go.Proofs.YtnbkmaghdbhlnaaDoorW.PrintWords Go.Proofs.YtnbkmaghdbhlnaaDoorW.PrintLast Go.Proofs.YtnbkmaghdbhlnaaDoorW.PrintMore
attribute [local go_sem] max2_int min2_int max_two min_two max_three min_three max_four min_four   -- for this text's walks alone
set_option linter.unusedVariables false
set_option linter.unusedSimpArgs false

def format_whole.f (a0 : ByteArray) (a1 : Int) : Option (ByteArray × Int) := if a1 = 0 then (if (a0.size : Int) > 16384 then (some ((⟨#[]⟩ : ByteArray), 5)) else (some (a0, 0))) else (some ((⟨#[]⟩ : ByteArray), a1))
set_option maxHeartbeats 8000000 in
set_option maxRecDepth 100000 in
theorem format_whole.calls (a0 : ByteArray) (a1 : Int) (r1 : ByteArray) (r2 : Int) (w : World) (h : format_whole.f a0 a1 = some (r1, r2)) :
    Calls Tryd.prog 12 #[.string a0, .int .i64 a1] w fun e w' => e = .returned (.tuple #[.string r1, .int .i64 r2]) ∧ Drawn0 w w' := by
  have H : (if a1 = 0 then (if (a0.size : Int) > 16384 then (some ((⟨#[]⟩ : ByteArray), 5)) else (some (a0, 0))) else (some ((⟨#[]⟩ : ByteArray), a1))) = some (r1, r2) := h
  clear h
  by_cases c3 : a1 = 0
  · rw [if_pos c3] at H
    have c3b0 : (a1 == 0) = true := beq_iff_eq.mpr c3
    have c3b1 : (a1 != 0) = false := bne_eq_false_iff_eq.mpr c3
    clear c3
    by_cases c4 : (a0.size : Int) > 16384
    · rw [if_pos c4] at H
      have c4b0 : decide (16384 < (a0.size : Int)) = true := decide_eq_true c4
      have c4b1 : decide (16384 < a0.size) = true := decide_eq_true (by omega)
      clear c4
      simp only [Option.some.injEq, Prod.mk.injEq] at H
      obtain ⟨rfl, rfl⟩ := H
      go_enter Tryd.func12, Tryd.ntmps12
      go_wp2
      go_ret2
      exact ⟨by first | rfl | (simp; done) | (simp [*]; done), by repeat (first | exact Drawn0.refl _ | apply Drawn0.step)⟩
    · rw [if_neg c4] at H
      have c4b0 : decide (16384 < (a0.size : Int)) = false := decide_eq_false c4
      have c4b1 : decide (16384 < a0.size) = false := decide_eq_false (by omega)
      clear c4
      simp only [Option.some.injEq, Prod.mk.injEq] at H
      obtain ⟨rfl, rfl⟩ := H
      go_enter Tryd.func12, Tryd.ntmps12
      go_wp2
      go_ret2
      exact ⟨by first | rfl | (simp; done) | (simp [*]; done), by repeat (first | exact Drawn0.refl _ | apply Drawn0.step)⟩
  · rw [if_neg c3] at H
    have c3b0 : (a1 == 0) = false := beq_eq_false_iff_ne.mpr c3
    have c3b1 : (a1 != 0) = true := bne_iff_ne.mpr c3
    simp only [Option.some.injEq, Prod.mk.injEq] at H
    obtain ⟨rfl, rfl⟩ := H
    go_enter Tryd.func12, Tryd.ntmps12
    go_wp2
    go_ret2
    exact ⟨by first | rfl | (simp; done) | (simp [*]; done), by repeat (first | exact Drawn0.refl _ | apply Drawn0.step)⟩
end Go.Proofs.YtnbkmaghdbhlnaaDoor.B

end

section
/- format.Base64: a loop over a text's pieces of three octets into a strings.Builder, walked. -/
set_option linter.unusedVariables false
set_option linter.unusedSimpArgs false
namespace Go.Proofs.YtnbkmaghdbhlnaaDoor.B
open Go.RowKit Go.Shelf Go.Proofs.YtnbkmaghdbhlnaaDoorW.PrintWords
attribute [local go_sem] Oper.semAt_some

def cat4 (rs : List ByteArray) : List UInt8 := (rs.map (·.data.toList)).flatten
def format_Base64.f (a0 : ByteArray) : Option (ByteArray × Int) :=
  (utf_Check.f a0).bind fun c => if c.2 = 0 then (if a0.size ≤ 16384 then ((chunksB 3 a0).mapM format_three.f).bind fun rs => if (∀ r ∈ rs, r.size = 4) then format_whole.f ⟨(cat4 rs).toArray⟩ 0 else none else some (⟨#[]⟩, 5)) else some (⟨#[]⟩, c.2)
/-- A Builder does not mind a store into a box of another type. -/
theorem Bld.away_set {T : TypeId} {B b : Nat} {p v : Value} {rest : List Value} {l : List UInt8} {w : World} {c t : Nat} {x : Value} (h : Bld T B b p v rest l w) (hc : Boxed w c t x) (hne : c ≠ b) (ht : t ≠ 5) (u : Value) : Bld T B b p v rest l (w.setCell ⟨c, 0, none⟩ u) := by
  refine ⟨h.low, (setCell_away w c u b (Ne.symm hne)).trans h.blk, ?_, h.addr, h.lies, h.ne⟩
  exact h.own.kept (row := some c) ⟨rfl, rfl, rfl, by simp [World.setCell], fun k _ hk => Below.heap_setCell _ _ _ _ (fun e => hk (by simp [e]))⟩ (Or.inr (Lib.ownBlock_ne h.own hc ht))
theorem mapM_prefix {α β : Type} {f : α → Option β} : ∀ {l pre : List α} {x : α} {rs : List β}, l.mapM f = some rs → pre ++ [x] <+: l → ∃ ys y, pre.mapM f = some ys ∧ f x = some y ∧ ys ++ [y] <+: rs
  | [], pre, x, rs, _, hp => by
    obtain ⟨t, ht⟩ := hp
    simp at ht
  | a :: l, [], x, rs, h, hp => by
    obtain ⟨t, ht⟩ := hp
    simp only [List.nil_append, List.singleton_append, List.cons.injEq] at ht
    obtain ⟨rfl, rfl⟩ := ht
    rw [List.mapM_cons] at h
    obtain ⟨y, hy, h⟩ := Option.bind_eq_some_iff.1 h
    obtain ⟨r, hr, h⟩ := Option.bind_eq_some_iff.1 h
    obtain rfl := Option.some.inj h
    exact ⟨[], y, rfl, hy, ⟨r, rfl⟩⟩
  | a :: l, b :: pre, x, rs, h, hp => by
    obtain ⟨t, ht⟩ := hp
    simp only [List.cons_append, List.cons.injEq] at ht
    obtain ⟨rfl, ht⟩ := ht
    rw [List.mapM_cons] at h
    obtain ⟨y, hy, h⟩ := Option.bind_eq_some_iff.1 h
    obtain ⟨r, hr, h⟩ := Option.bind_eq_some_iff.1 h
    obtain rfl := Option.some.inj h
    obtain ⟨ys, z, h1, h2, h3⟩ := mapM_prefix hr ⟨t, by rw [← ht]⟩
    refine ⟨y :: ys, z, ?_, h2, ?_⟩
    · rw [List.mapM_cons, hy, h1]; rfl
    · obtain ⟨q, hq⟩ := h3
      exact ⟨q, by rw [← hq]; rfl⟩
theorem Bld.grown {T : TypeId} {B b : Nat} {p v : Value} {rest : List Value} {l : List UInt8} {A W : World} {row : Option Nat} (h : Bld T B b p v rest l A) (hg : A.grownBy W row) (hr : ∀ r, row = some r → ∃ o : Obj, A.heap[r]? = some o ∧ o.isCells = false) : Bld T B b p v rest l W := by
  have hb : row ≠ some b := fun e => by
    obtain ⟨o, ho, hc⟩ := hr b e
    rw [h.blk] at ho
    obtain rfl := Option.some.inj ho
    cases hc
  refine ⟨h.low, (hg.block b h.lt (fun e => hb e.symm)).trans h.blk, ?_, h.addr, h.lies, h.ne⟩
  refine h.own.kept hg ?_
  rcases h.own.2 with ⟨hv, _⟩ | ⟨g, cap, cur, hv, _, hgc, _⟩
  · exact Or.inl (by rw [hv]; rfl)
  · refine Or.inr (fun e => ?_)
    rw [hv] at e
    obtain ⟨o, ho, hc⟩ := hr g (by rw [← e]; rfl)
    rw [hgc] at ho
    obtain rfl := Option.some.inj ho
    cases hc
def BaseI (w : World) (b Bs Ns : Nat) (pre : List ByteArray) (W : World) : Prop :=
  (∃ ys, pre.mapM format_three.f = some ys ∧ ∃ p v, Bld 33 w.heap.size b p v [] (cat4 ys) W) ∧ (∃ x, Boxed W Bs 9 x) ∧ Boxed W Ns 3 (.int .i64 3) ∧ Below w.heap.size w W
theorem Bld.others {T : TypeId} {B b : Nat} {p v : Value} {rest : List Value} {l : List UInt8} {A W : World} (h : Bld T B b p v rest l A) (hk : KeepBut A W b v.ownBlock) {k : Nat} {o : Obj} (ho : A.heap[k]? = some o) (hc : o.isCells = false) : W.heap[k]? = some o := by
  have hlt : k < A.heap.size := (Array.getElem?_eq_some_iff.1 ho).1
  refine (hk.2 k hlt ?_ ?_).trans ho
  · rintro rfl
    rw [h.blk] at ho
    obtain rfl := Option.some.inj ho
    cases hc
  · intro e
    rcases h.own.2 with ⟨hv, _⟩ | ⟨g, cap, cur, hv, _, hgc, _⟩
    · rw [hv] at e; cases e
    · rw [hv] at e
      obtain rfl : k = g := Option.some.inj e
      rw [hgc] at ho
      obtain rfl := Option.some.inj ho
      cases hc
theorem Bld.boxes {T : TypeId} {B b : Nat} {p v : Value} {rest : List Value} {l : List UInt8} {A W : World} {k t : Nat} {u : Value} (h : Bld T B b p v rest l A) (hk : KeepBut A W b v.ownBlock) (hx : Boxed A k t u) (hne : k ≠ b) (ht : t ≠ 5) : W.heap[k]? = A.heap[k]? :=
  hk.2 k hx.lt hne (fun e => Lib.ownBlock_ne h.own hx ht e.symm)
theorem cat4_len : ∀ (ys : List ByteArray), (∀ r ∈ ys, r.size = 4) → (cat4 ys).length = 4 * ys.length
  | [], _ => rfl
  | y :: r, h => by
    have ih := cat4_len r (fun t ht => h t (List.mem_cons_of_mem _ ht))
    have e : cat4 (y :: r) = y.data.toList ++ cat4 r := rfl
    rw [e, List.length_append, ih, ← Lib.size_eq, h y List.mem_cons_self, List.length_cons]; omega
theorem bld65_new (W : World) (B : Nat) (hB : B ≤ W.heap.size) : Bld 33 B W.heap.size (.pointer none) (.slice none 0 0) [] [] (W.alloc (.cells #[.pointer none, .slice none 0 0] 33)) :=
  ⟨hB, World.alloc_heap_new _ _, World.ownsRow_nil _ _ _ _, .inl rfl, by kernel_rfl, by decide⟩
set_option maxRecDepth 100000 in
set_option maxHeartbeats 4000000 in
theorem format_Base64.calls (a0 : ByteArray) (r1 : ByteArray) (r2 : Int) (w : World) (hG : Aside0 (GlobG w)) (h : format_Base64.f a0 = some (r1, r2)) :
    Calls Tryd.prog 5 #[.string a0] w fun e w' => e = .returned (.tuple #[.string r1, .int .i64 r2]) ∧ Below w.heap.size w w' := by
  unfold format_Base64.f at h
  obtain ⟨⟨c1, c2⟩, hc, h⟩ := Option.bind_eq_some_iff.1 h
  have cU := utf_Check.calls a0 c1 c2 w hG hc
  clear hc
  refine (callsIn_wide (n := 4)).1 ?_
  refine callsIn_of_wp_marks Tryd.func5 rfl trivial ?_ rfl
  simp only [Tryd.ntmps5, List.size_toArray, List.length_cons, List.length_nil, Nat.reduceAdd, Nat.reduceSub, Array.replicate_succ, Array.replicate_zero, List.push_toArray, List.append_toArray, List.nil_append, List.cons_append]
  by_cases h0 : c2 = 0
  · subst h0
    rw [if_pos rfl] at h
    by_cases hs : a0.size ≤ 16384
    · rw [if_pos hs] at h
      have hs' : ¬ (16384 : Int) < (a0.size : Int) := by omega
      have H := Lib.hid h
      clear h
      gi_wp2_with (first | (refine ⟨trivial, ?_⟩; gi_at_call 8; refine (callsIn_wide.2 cU).mono ?_; rintro e w1 ⟨rfl, hb1⟩) | (refine ⟨trivial, ?_⟩; gi_at_call 9; refine (format_chunks_in _ _ _ _).mono ?_; rintro e w1 ⟨rfl, rfl⟩))
      obtain ⟨rs, hrs, hf⟩ := Option.bind_eq_some_iff.1 H.out
      split at hf
      case isFalse => cases hf
      case isTrue h4 =>
      have HF := Lib.hid hf
      have HRS := Lib.hid hrs
      have H4 := Lib.hid h4
      clear hf hrs h4 H
      obtain ⟨B, hB⟩ : ∃ B, w1.heap.size = B := ⟨_, rfl⟩
      have bS := (Boxed.new (w1.alloc (.cells #[.pointer none, .slice none 0 0] 33)) 9 (.string a0)).alloc (.cells #[.int .i64 3] 3)
      have bN := Boxed.new ((w1.alloc (.cells #[.pointer none, .slice none 0 0] 33)).alloc (.cells #[.string a0] 9)) 3 (.int .i64 3)
      have hbl : Bld 33 w.heap.size w1.heap.size (.pointer none) (.slice none 0 0) [] [] (((w1.alloc (.cells #[.pointer none, .slice none 0 0] 33)).alloc (.cells #[.string a0] 9)).alloc (.cells #[.int .i64 3] 3)) :=
        ((bld65_new w1 w.heap.size hb1.size).below ((Below.refl _ _).alloc (Nat.le_refl _) _)).below ((Below.refl _ _).alloc (Nat.le_refl _) _)
      have hB0 : Below w.heap.size w (((w1.alloc (.cells #[.pointer none, .slice none 0 0] 33)).alloc (.cells #[.string a0] 9)).alloc (.cells #[.int .i64 3] 3)) :=
        ((hb1.alloc hb1.size _).alloc (by simp; exact Nat.le_succ_of_le hb1.size) _).alloc (by simp; have := hb1.size; omega) _
      have hle := hb1.size
      simp only [World.size_alloc] at bS bN
      rw [hB] at bS bN hbl hle ⊢
      refine wpIn_rangeFunc_cell (b := B + 1) rfl (by decide) (gf := 18) (lb := #[.pointer (some ⟨B + 1, 0, none⟩), .pointer (some ⟨B + 1 + 1, 0, none⟩)]) rfl trivial (enters_of Tryd.func18 (by kernel_rfl) rfl)
        (format_chunks_stops 3 (by omega) (B + 1) (B + 1 + 1) a0 3 (by omega) (by omega) (by omega) (by omega) _ bS bN) (by simp; omega) (fun h k => ⟨k.1.trans h.1, k.2.trans h.2⟩)
        (fun W l o o' hl ho hc hw => ⟨World.putObj_heap_other (by simp at hl; omega), World.putObj_heap_other (by simp at hl; omega)⟩) (Below.refl _ _) (fun _ => rfl)
        (BaseI w B (B + 1) (B + 1 + 1)) (fun _ _ _ => False) ?own ?ownx ?minds ?start
        (fun x => { tmps := #[.string a0, undef, .string ⟨#[]⟩, .int .i64 0, .int .i64 c1, .int .i64 0, .pointer (some ⟨B, 0, none⟩), .string x, .tuple #[.int .i64 c1, .int .i64 0], .string a0, .tuple #[.int .i64 c1, .int .i64 0], .int .i64 c1, .int .i64 0, .int .i64 0, .bool false, undef, .string a0, .int .i64 a0.size, .bool (decide ((16384 : Int) < a0.size)), .string a0, .func (.func 18) #[] #[.pointer (some ⟨B + 1, 0, none⟩), .pointer (some ⟨B + 1 + 1, 0, none⟩)], .string x, undef, undef, undef, undef, undef, undef, undef], defers := [] }) ?assign ?body ?done ?stop
      case start => exact ⟨⟨[], rfl, _, _, hbl⟩, ⟨_, bS⟩, bN, hB0⟩
      case ownx => exact fun c s A W row hs _ _ => hs.elim
      case minds =>
        rintro pre W u ⟨⟨ys, hy, p, v, hbd⟩, ⟨x, hx⟩, hn, hb⟩
        exact ⟨⟨ys, hy, p, v, hbd.away_set hx (by omega) (by decide) u⟩, ⟨u, hx.set u⟩, (setCell_away W (B + 1) u _ (by omega)).trans hn, hb.setCell (p := ⟨B + 1, 0, none⟩) (by simp; omega) u⟩
      case own =>
        rintro pre A W row ⟨⟨ys, hy, p, v, hbd⟩, ⟨x, hx⟩, hn, hb⟩ hg hr
        have hr' : ∀ r, row = some r → ∃ o : Obj, A.heap[r]? = some o ∧ o.isCells = false := fun r e => (hr r e).2
        have hne : ∀ (k t : Nat) (u : Value), Boxed A k t u → some k ≠ row := fun k t u hk e => by
          obtain ⟨o, ho, hc⟩ := hr' k e.symm
          rw [show A.heap[k]? = _ from hk] at ho
          obtain rfl := Option.some.inj ho
          cases hc
        exact ⟨⟨ys, hy, p, v, hbd.grown hg hr'⟩, ⟨x, hx.kept hg (hne _ _ _ hx)⟩, hn.kept hg (hne _ _ _ hn), ((ownFrom_below (Nat.le_refl _) (by simp; omega) : OwnFrom _ (fun _ : List ByteArray => Below w.heap.size w)) pre A W row hb hg hr)⟩
      case assign =>
        intro l x W K hK
        gi_wp2
        exact hK
      case body =>
        rintro l pre x W ⟨⟨ys, hy, p, v, hbd⟩, ⟨u, hx⟩, hn, hb⟩ hlen hsp
        obtain ⟨ys', y, hy1, hy2, hy3⟩ := mapM_prefix HRS.out hsp
        obtain rfl : ys = ys' := Option.some.inj (hy.symm.trans hy1)
        have cT := format_three.calls x y W hy2
        have hmem : ∀ r ∈ ys ++ [y], r.size = 4 := fun r hr => H4.out r (List.IsPrefix.subset hy3 hr)
        have hyl : ys.length = pre.length := Lib.mapM_length hy
        have hln : (cat4 ys).length + y.size ≤ 140737488355328 := by
          rw [cat4_len ys (fun r hr => hmem r (by simp [hr])), hmem y (by simp)]
          omega
        have hcat : cat4 (ys ++ [y]) = cat4 ys ++ y.data.toList := by simp [cat4]
        have hmap : (pre ++ [x]).mapM format_three.f = some (ys ++ [y]) := by
          rw [List.mapM_append, hy, List.mapM_cons, hy2]; rfl
        have HX := Lib.hid hx
        have HN := Lib.hid hn
        have HBd := Lib.hid hbd
        have HB := Lib.hid hb
        have HC := Lib.hid hcat
        have HM := Lib.hid hmap
        clear hx hn hbd hb hy hy1 hy2 hy3 hmem hcat hmap
        gi_wp2_with (first | (refine ⟨trivial, ?_⟩; gi_at_call 11; refine (CallsIn.inRound l (callsIn_wide.2 cT)).mono ?_; rintro e w2 ⟨rfl, hb2⟩; have cWS := Bld_WriteString y (HBd.out.below hb2) hln (Nat.le_trans HB.out.size hb2.size)) | (refine ⟨trivial, ?_⟩; gi_at_call 10; refine (CallsIn.inRound l (callsIn_wide.2 cWS)).mono ?_; rintro e w3 ⟨rfl, ⟨v', hbd3⟩, hb3, hk3⟩))
        have hbd2 := HBd.out.below hb2
        have hx2 : Boxed w2 (B + 1) 9 u := (hb2.block _ HX.out.lt).trans HX.out
        have hn2 : Boxed w2 (B + 1 + 1) 3 (.int .i64 3) := (hb2.block _ HN.out.lt).trans HN.out
        have e1 := hbd2.boxes hk3 hx2 (by omega) (by decide)
        have e2 := hbd2.boxes hk3 hn2 (by omega) (by decide)
        refine ⟨⟨Nat.le_trans hb2.size hk3.1, fun k o _ ho hc => hbd2.others hk3 ((hb2.block k (Array.getElem?_eq_some_iff.1 ho).1).trans ho) hc⟩, ⟨e1.trans (hb2.block _ HX.out.lt), e2.trans (hb2.block _ HN.out.lt)⟩, ⟨_, HM.out, _, _, by rw [HC.out]; exact hbd3⟩, ⟨u, e1.trans hx2⟩, e2.trans hn2, HB.out.trans ((hb2.mono HB.out.size).trans hb3)⟩
      case done =>
        rintro D xs W hD rfl ⟨⟨ys, hy, p, v, hbd⟩, _, _, hb⟩ hK
        obtain rfl : ys = rs := Option.some.inj (hy.symm.trans HRS.out)
        have cS := Bld_StringK hbd hb.size
        have cW := fun W : World => format_whole.calls ⟨(cat4 ys).toArray⟩ 0 r1 r2 W HF.out
        have HBd := Lib.hid hbd
        have HB := Lib.hid hb
        have HK := Lib.hid hK
        clear hbd hb hK hy
        gi_wp2_with (first | (refine ⟨trivial, ?_⟩; gi_at_call 13; refine (callsIn_wide.2 cS).mono ?_; rintro e w2 ⟨rfl, hb2, hk2⟩) | (refine ⟨trivial, ?_⟩; gi_at_call 12; refine (callsIn_wide.2 (cW _)).mono ?_; rintro e w3 ⟨rfl, ⟨nd, rfl⟩⟩))
        have hK' : (w2.drewN nd).heap[D]? = some (.deferred (some [])) := HBd.out.others hk2 HK.out rfl
        refine ⟨by simp, .inl ⟨_, _, rfl, run_takeDeferred hK', ?_⟩⟩
        refine ⟨.tuple #[.string r1, .int .i64 r2], by simp [results, Tryd.f5, go_sem], rfl, (pw_below_drewN (HB.out.trans hb2) nd).trans (belowK_b (w := w) (Nat.le_refl _) _ D _ _ (by simp at hD; omega) hK' rfl rfl)⟩
      case stop => exact fun D c pre W _ _ hx _ => hx.elim
    · rw [if_neg hs] at h
      obtain ⟨rfl, rfl⟩ := Prod.mk.inj (Option.some.inj h)
      have hs' : (16384 : Int) < (a0.size : Int) := by omega
      gi_wp2_with (first | (refine ⟨trivial, ?_⟩; gi_at_call 8; refine (callsIn_wide.2 cU).mono ?_; rintro e w1 ⟨rfl, hb1⟩))
      exact ⟨.tuple #[.string ⟨#[]⟩, .int .i64 5], by simp [results, Tryd.f5, go_sem], rfl, hb1⟩
  · rw [if_neg h0] at h
    obtain ⟨rfl, rfl⟩ := Prod.mk.inj (Option.some.inj h)
    have hne : (c2 != 0) = true := by rw [bne_iff_ne]; exact h0
    gi_wp2_with (first | (refine ⟨trivial, ?_⟩; gi_at_call 8; refine (callsIn_wide.2 cU).mono ?_; rintro e w1 ⟨rfl, hb1⟩))
    exact ⟨.tuple #[.string ⟨#[]⟩, .int .i64 c2], by simp [results, Tryd.f5, go_sem], rfl, hb1⟩
end Go.Proofs.YtnbkmaghdbhlnaaDoor.B

end

section
/- utf.Mend: octets as a text: the characters, and U+FFFD for each octet that belongs to none; walked. -/
set_option linter.unusedVariables false
set_option linter.unusedSimpArgs false
namespace Go.Proofs.YtnbkmaghdbhlnaaDoor.B
open Go.RowKit Go.Shelf Go.Proofs.YtnbkmaghdbhlnaaDoorW.PrintWords
attribute [local go_sem] Oper.semAt_some

def mendR (r : Int) : Int := if r < 0 then 65533 else r
def mendOf (l : List (Int × Int)) : List UInt8 := (l.map fun p => Lib.encodeRune (mendR p.2)).flatten
def utf_Mend.f (l0 : List Int) : Option ByteArray := if l0.length ≤ 1000000 then some ⟨(mendOf (runesL (strOfNums l0))).toArray⟩ else none
theorem mendOf_app (l : List (Int × Int)) (p : Int × Int) : mendOf (l ++ [p]) = mendOf l ++ Lib.encodeRune (mendR p.2) := by simp [mendOf]
theorem mendOf_len : ∀ l : List (Int × Int), (mendOf l).length ≤ 4 * l.length
  | [] => Nat.le_refl _
  | p :: r => by
    have ih := mendOf_len r
    have e : mendOf (p :: r) = Lib.encodeRune (mendR p.2) ++ mendOf r := rfl
    have h := Lib.encodeRuneZ_length (mendR p.2)
    have h2 : (Lib.encodeRune (mendR p.2)).length = (Lib.encodeRuneZ (mendR p.2)).length := by simp [Lib.encodeRune]
    rw [e, List.length_append, List.length_cons]; omega
theorem utf_runes_cell (n : Nat) (hn : 1 ≤ n) (Bs n₀ b : Nat) (s : ByteArray) (hs : s.size ≤ 140737488351232) (w : World) (hn0 : GBelow n₀) (hnW : n₀ ≤ w.heap.size) (hG : GlobG w)
    (hBs : w.cell? ⟨Bs, 0, none⟩ = some (.string s)) :
    SeqCell Fence.wide n Tryd.prog 26 #[.pointer (some ⟨Bs, 0, none⟩)] runeEnc (KpR Bs n₀) (fun ys => ys = runesL s) (fun pre => pre <+: runesL s) s.size b w := fun l J Jx W hW hJ _ _ hY h0 =>
  utf_runes1_inR n hn l Bs n₀ s hs J Jx W hn0 (Nat.le_trans hnW hW.size) hJ (hG.belowN (hn0.mono hnW) hW) hY ((hW.cell (p := ⟨Bs, 0, none⟩) (World.block_lt_of_cell? w _ hBs)).trans hBs) h0
theorem ownsRow_grown {A W : World} {row : Option Nat} {base e size n : Nat} {v : Value} {xs : List Value} (h : A.ownsRow base e size v n xs) (hg : A.grownBy W row) (hr : ∀ r, row = some r → ∃ o : Obj, A.heap[r]? = some o ∧ o.isCells = false) : W.ownsRow base e size v n xs := by
  refine h.kept hg ?_
  rcases h.2 with ⟨hv, _⟩ | ⟨g, cap, cur, hv, _, hgc, _⟩
  · exact Or.inl (by rw [hv]; rfl)
  · refine Or.inr (fun e => ?_)
    rw [hv] at e
    obtain ⟨o, ho, hc⟩ := hr g (by rw [← e]; rfl)
    rw [hgc] at ho
    obtain rfl := Option.some.inj ho
    cases hc
theorem runesF_range (s : ByteArray) : ∀ (k i : Nat) (x : Int × Int), x ∈ runesF s k i → -1 ≤ x.2 ∧ x.2 ≤ 1114111
  | 0, _, x, h => by cases h
  | k + 1, i, x, h => by
    simp only [runesF] at h
    split at h
    · rcases List.mem_cons.1 h with rfl | h
      · have := decode_rune s i
        simp only [runeAt]; split <;> omega
      · exact runesF_range s k _ x h
    · cases h
theorem runes_range (s : ByteArray) (x : Int × Int) (h : x ∈ runesL s) : -1 ≤ x.2 ∧ x.2 ≤ 1114111 := runesF_range s _ _ x h
theorem mend_cells (l : List UInt8) (r : Int) : Lib.byteCells (l ++ Lib.encodeRune r) = Lib.byteCells l ++ Lib.runeCells r := by
  rw [← Lib.byteCells_encodeRune]; simp [Lib.byteCells]
theorem mend_length (l : List UInt8) (r : Int) : (l ++ Lib.encodeRune r).length = l.length + (Lib.runeCells r).length := by simp [Lib.encodeRune, Lib.runeCells]
theorem str_of_bytes (l : List UInt8) : strOfNums (l.map fun b => (b.toNat : Int)) = ⟨l.toArray⟩ := by
  unfold strOfNums
  rw [List.map_map]
  have : (fun n : Int => UInt8.ofNat n.toNat) ∘ (fun b : UInt8 => (b.toNat : Int)) = id := by funext b; simp
  rw [this, List.map_id]
theorem mend_kept {W : World} {n₀ b : Nat} {v u : Value} {k : Nat} {xs : List Value} (hv : Boxed W b 31 v) (hown : W.ownsRow n₀ 5 1 v k xs) (hy : Boxed W (b + 1) 9 u) (hn : n₀ ≤ W.heap.size) (hB : n₀ ≤ b) {r : Int} :
    ∀ w1 v' o, w1.ownsRow n₀ 5 1 v' (k + (Lib.runeCells r).length) (xs ++ Lib.runeCells r) → (W.alloc o).grownBy w1 v.ownBlock → ∃ g' cap', v' = .slice (some ⟨g', 0, none⟩) (k + (Lib.runeCells r).length) cap' ∧ w1.cell? ⟨b, 0, none⟩ = some v ∧ w1.frozen? ⟨b, 0, none⟩ = false ∧
      (KeepsOthers W (w1.setCell ⟨b, 0, none⟩ v') ∧ (w1.setCell ⟨b, 0, none⟩ v').heap[b + 1]? = W.heap[b + 1]? ∧ Below n₀ W (w1.setCell ⟨b, 0, none⟩ v') ∧ Boxed (w1.setCell ⟨b, 0, none⟩ v') b 31 v' ∧ (w1.setCell ⟨b, 0, none⟩ v').ownsRow n₀ 5 1 v' (k + (Lib.runeCells r).length) (xs ++ Lib.runeCells r) ∧ ∃ u, Boxed (w1.setCell ⟨b, 0, none⟩ v') (b + 1) 9 u) := by
  intro w1 v' o hown' hg
  have hl : 1 ≤ (Lib.runeCells r).length := by have := Lib.encodeRuneZ_length r; simp only [Lib.runeCells, List.length_map]; omega
  obtain ⟨m, hm⟩ : ∃ m, k + (Lib.runeCells r).length = m + 1 := ⟨k + (Lib.runeCells r).length - 1, by omega⟩
  have hown2 := hown'
  rw [hm] at hown2
  obtain ⟨g', cap', e⟩ := ownsRow_succ hown2
  obtain ⟨hv1, hv2, hr2, hk2, hb2⟩ := hv.appended (by decide) hown hn hB hown' hg
  have e1 : w1.heap[b + 1]? = W.heap[b + 1]? := (hg.block _ (by have := hy.lt; simp; omega) (by have := (hy.not_row (by decide) hown); exact this)).trans (Below.heap_alloc W o _ hy.lt)
  have e2 : (w1.setCell ⟨b, 0, none⟩ v').heap[b + 1]? = W.heap[b + 1]? := (setCell_away w1 b v' _ (by omega)).trans e1
  exact ⟨g', cap', by rw [hm]; exact e, hv1.cell, hv1.frozen, hk2, e2, hb2, hv2, hr2, u, e2.trans hy⟩
def MendI (w : World) (b : Nat) (pre : List (Int × Int)) (W : World) : Prop :=
  (∃ v, Boxed W b 31 v ∧ W.ownsRow w.heap.size 5 1 v (mendOf pre).length (Lib.byteCells (mendOf pre))) ∧ (∃ u, Boxed W (b + 1) 9 u) ∧ Below w.heap.size w W
set_option maxRecDepth 100000 in
set_option maxHeartbeats 4000000 in
theorem utf_Mend.calls (A0 : Option Addr) (c0 : Nat) (l0 : List Int) (r : ByteArray) (w : World) (hr0 : Kd.C (Kd.int .u8) w A0 l0.length l0) (hc0 : l0.length ≤ c0) (hG : Aside0 (GlobG w)) (h : utf_Mend.f l0 = some r) :
    Calls Tryd.prog 16 #[.slice A0 l0.length c0] w fun e w' => e = .returned (.string r) ∧ Below w.heap.size w w' := by
  unfold utf_Mend.f at h
  split at h
  case isFalse => cases h
  case isTrue hl =>
    have H := Lib.hid (Option.some.inj h)
    clear h
    have hcv := Kd.C_string (P := Tryd.prog) (A := A0) (c := c0) Tryd.underlying31 Tryd.underlying5 Tryd.underlying9 (Kd.C_alloc hr0 (.cells #[.slice none 0 0] 31))
    refine (callsIn_wide (n := 4)).1 ?_
    refine callsIn_of_wp_marks Tryd.func16 rfl trivial ?_ rfl
    simp only [Tryd.ntmps16, List.size_toArray, List.length_cons, List.length_nil, Nat.reduceAdd, Nat.reduceSub, Array.replicate_succ, Array.replicate_zero, List.push_toArray, List.append_toArray, List.nil_append, List.cons_append]
    gi_wp2_with (refine ⟨trivial, ?_⟩; gi_at_call 17; refine (utf_runes_in _ _ _).mono ?_; rintro e w1 ⟨rfl, rfl⟩)
    obtain ⟨B, hB⟩ : ∃ B, w.heap.size = B := ⟨_, rfl⟩
    have bO := (Boxed.new w 31 (.slice none 0 0)).alloc (.cells #[.string (strOfNums l0)] 9)
    have bS := Boxed.new (w.alloc (.cells #[.slice none 0 0] 31)) 9 (.string (strOfNums l0))
    have hB0 : Below w.heap.size w ((w.alloc (.cells #[.slice none 0 0] 31)).alloc (.cells #[.string (strOfNums l0)] 9)) := ((Below.refl _ w).alloc (Nat.le_refl _) _).alloc (by simp) _
    have hG3 := hG.out.below hB0
    simp only [World.size_alloc] at bS
    have hsz : (strOfNums l0).size = l0.length := by rw [Lib.size_eq]; simp [strOfNums]
    rw [hB] at bO bS
    rw [hB]
    have HH := Lib.hid H
    clear hcv hr0 hc0
    refine wpIn_rangeFunc_cell (b := B + 1) rfl (by decide) (gf := 26) (lb := #[.pointer (some ⟨B + 1, 0, none⟩)]) rfl trivial (enters_of Tryd.func26 (by kernel_rfl) rfl)
      (utf_runes_cell 3 (by omega) (B + 1) B (B + 1) (strOfNums l0) (by omega) _ (hG.out.gbelow.mono (by omega)) (by simp; omega) hG3 bS.cell) (by simp; omega) (fun h k => ⟨k.1.trans h.1, h.2.trans k.2⟩) (fun W l o o' hl ho hc hw => ⟨World.putObj_heap_other (by simp at hl; omega), belowK_b (w := w) (by omega) W l o o' (by simp at hl; omega) ho hc hw⟩) (Below.refl _ _) (fun _ => rfl)
      (MendI w B) (fun _ _ _ => False) ?own ?ownx ?minds ?start
      (fun x => { tmps := #[.slice A0 l0.length c0, undef, .string ⟨#[]⟩, .pointer (some ⟨B, 0, none⟩), undef, .int .i32 x.2, .slice A0 l0.length c0, .string (strOfNums l0), .func (.func 26) #[] #[.pointer (some ⟨B + 1, 0, none⟩)], .int .i64 x.1, .int .i32 x.2, undef, undef, undef, undef, undef, undef, undef], defers := [] }) ?assign ?body ?done ?stop
    case start => exact ⟨⟨_, bO, World.ownsRow_nil _ _ _ _⟩, ⟨_, bS⟩, hB0⟩
    case ownx => exact fun c s A W row hs _ _ => hs.elim
    case stop => exact fun D c pre W _ _ hx _ => hx.elim
    case assign =>
      intro l x W K hK
      gi_wp2
      exact hK
    case minds =>
      rintro pre W u ⟨⟨v, hv, hown⟩, ⟨y, hy⟩, hb⟩
      refine ⟨⟨v, (setCell_away W (B + 1) u _ (by omega)).trans hv, ?_⟩, ⟨u, hy.set u⟩, hb.setCell (p := ⟨B + 1, 0, none⟩) (by simp; omega) u⟩
      exact hown.kept (row := some (B + 1)) ⟨rfl, rfl, rfl, by simp [World.setCell], fun k _ hk => Below.heap_setCell _ _ _ _ (fun e => hk (by simp [e]))⟩ (Or.inr (Lib.ownBlock_ne hown hy (by decide)))
    case own =>
      rintro pre A W row ⟨⟨v, hv, hown⟩, ⟨y, hy⟩, hb⟩ hg hr
      have hr' : ∀ r, row = some r → ∃ o : Obj, A.heap[r]? = some o ∧ o.isCells = false := fun r e => (hr r e).2
      have hne : ∀ (k t : Nat) (u : Value), Boxed A k t u → some k ≠ row := fun k t u hk e => by
        obtain ⟨o, ho, hc⟩ := hr' k e.symm
        rw [show A.heap[k]? = _ from hk] at ho
        obtain rfl := Option.some.inj ho
        cases hc
      exact ⟨⟨v, hv.kept hg (hne _ _ _ hv), ownsRow_grown hown hg hr'⟩, ⟨y, hy.kept hg (hne _ _ _ hy)⟩, ((ownFrom_below (Nat.le_refl _) (by simp; omega) : OwnFrom _ (fun _ : List (Int × Int) => Below w.heap.size w)) pre A W row hb hg hr)⟩
    case body =>
      rintro l pre x W ⟨⟨v, hv, hown⟩, ⟨y, hy⟩, hb⟩ hlen hsp
      have hxr := runes_range (strOfNums l0) x (by obtain ⟨t, ht⟩ := hsp; rw [← ht]; simp)
      have hpl := mendOf_len pre
      have hmr : -2147483648 ≤ mendR x.2 ∧ mendR x.2 ≤ 2147483647 := by unfold mendR; split <;> omega
      have hel := Lib.encodeRuneZ_length (mendR x.2)
      have hap := mendOf_app pre x
      have cA := Tryd.utf8_AppendRune_plain w.heap.size v (mendOf pre).length (Lib.byteCells (mendOf pre)) (mendR x.2) hmr.1 hmr.2 W hown (by omega) hb.size
      have hkf := mend_kept (r := mendR x.2) hv hown hy hb.size (by omega)
      have hcv := hv.cell
      have HKf := Lib.hid hkf
      have HAp := Lib.hid hap
      have HB := Lib.hid hb
      have HX := Lib.hid hxr
      clear hkf hap hv hown hy hb hsp hlen hpl hel hmr hxr
      by_cases hneg : x.2 < 0
      · have hm : mendR x.2 = 65533 := by unfold mendR; rw [if_pos hneg]
        rw [hm] at cA HKf
        have HM := Lib.hid hm
        clear hm
        gi_wp2_with (refine ⟨trivial, ?_⟩; gi_at_call 25; refine (CallsIn.inRound l (callsIn_wide.2 cA)).mono ?_; rintro e w1 ⟨v', rfl, hown', o, hg⟩; obtain ⟨g', cap', rfl, hc1, hf1, hfin⟩ := HKf.out w1 v' o hown' hg)
        exact ⟨(hfin.1).from _, ⟨hfin.2.1, hB ▸ hfin.2.2.1⟩, ⟨_, hfin.2.2.2.1, by rw [HAp.out, HM.out, mend_cells, mend_length]; exact hfin.2.2.2.2.1⟩, hfin.2.2.2.2.2, HB.out.trans (hfin.2.2.1.mono (by omega))⟩
      · have hm : mendR x.2 = x.2 := by unfold mendR; rw [if_neg hneg]
        rw [hm] at cA HKf
        have HM := Lib.hid hm
        clear hm
        gi_wp2_with (refine ⟨trivial, ?_⟩; gi_at_call 25; refine (CallsIn.inRound l (callsIn_wide.2 cA)).mono ?_; rintro e w1 ⟨v', rfl, hown', o, hg⟩; obtain ⟨g', cap', rfl, hc1, hf1, hfin⟩ := HKf.out w1 v' o hown' hg)
        exact ⟨(hfin.1).from _, ⟨hfin.2.1, hB ▸ hfin.2.2.1⟩, ⟨_, hfin.2.2.2.1, by rw [HAp.out, HM.out, mend_cells, mend_length]; exact hfin.2.2.2.2.1⟩, hfin.2.2.2.2.2, HB.out.trans (hfin.2.2.1.mono (by omega))⟩
    case done =>
      rintro D xs W hD rfl ⟨⟨v, hv, hown⟩, _, hb⟩ hK
      have hR : Kd.R (Kd.int .u8) 5 W w.heap.size (fun _ => True) v ((mendOf (runesL (strOfNums l0))).map fun b => (b.toNat : Int)) :=
        Kd.R_of_own (enc := Value.int .u8) (by simpa [Lib.byteCells, encs, Function.comp_def] using hown) (fun _ _ => trivial)
      obtain ⟨A, c, rfl, hle, hC⟩ := Kd.R_reads hR
      have hcv := Kd.C_string (P := Tryd.prog) (A := A) (c := c) Tryd.underlying31 Tryd.underlying5 Tryd.underlying9 hC
      rw [str_of_bytes, H.out] at hcv
      simp only [List.length_map] at hcv
      have hc := hv.cell
      have HR := Lib.hid hR
      have HO := Lib.hid hown
      have HB := Lib.hid hb
      have HK := Lib.hid hK
      clear hR hC hown hb hle hK hv
      gi_wp2
      refine ⟨by simp, .inl ⟨_, _, rfl, run_takeDeferred HK.out, ?_⟩⟩
      exact ⟨.string r, by simp [results, Tryd.f16, go_sem], rfl, HB.out.trans (belowK_b (w := w) (Nat.le_refl _) _ D _ _ (by simp at hD; omega) HK.out rfl rfl)⟩
end Go.Proofs.YtnbkmaghdbhlnaaDoor.B

end

section
namespace Go.Proofs.YtnbkmaghdbhlnaaDoor.B
open Go.RowKit Go.Proofs.YtnbkmaghdbhlnaaDoorW.PrintWords Go.Proofs.YtnbkmaghdbhlnaaDoorW.PrintLast Go.Proofs.YtnbkmaghdbhlnaaDoorW.PrintMore
attribute [local go_sem] max2_int min2_int max_two min_two max_three min_three max_four min_four   -- for this text's walks alone
set_option linter.unusedVariables false
set_option linter.unusedSimpArgs false

def format_four.l0 : Nat → ByteArray → Int → Int → Option (List Int × Bool)
  | 0, _, _, _ => none
  | k + 1, x0, x4, x8 => if x8 < 4 then (if x8 ≥ (x0.size : Int) then (format_four.l0 k x0 (wrap64 (x4 * 64)) (wrap64 (x8 + 1))) else (if 0 ≤ x8 then (if x8 < (x0.size : Int) then ((strings_IndexByte.f (⟨#[65, 66, 67, 68, 69, 70, 71, 72, 73, 74, 75, 76, 77, 78, 79, 80, 81, 82, 83, 84, 85, 86, 87, 88, 89, 90, 97, 98, 99, 100, 101, 102, 103, 104, 105, 106, 107, 108, 109, 110, 111, 112, 113, 114, 115, 116, 117, 118, 119, 120, 121, 122, 48, 49, 50, 51, 52, 53, 54, 55, 56, 57, 43, 47]⟩ : ByteArray) (bt x0 x8)).bind fun t107 => (if t107 < 0 then (some (([] : List Int), false)) else (format_four.l0 k x0 (Go.bits .or .i64 (wrap64 (x4 * 64)) t107) (wrap64 (x8 + 1))))) else (none)) else (none))) else ((some (([(x4 / 65536) % 256, (x4 / 256) % 256, (x4) % 256] : List Int) : List Int)).bind fun y101 => (if 0 ≤ (wrap64 (Int.tdiv (wrap64 ((x0.size : Int) * 6)) 8)) then (if (wrap64 (Int.tdiv (wrap64 ((x0.size : Int) * 6)) 8)) ≤ (y101.length : Int) then (some ((y101.take ((wrap64 (Int.tdiv (wrap64 ((x0.size : Int) * 6)) 8)) : Int).toNat), true)) else (none)) else (none)))
def format_four.f (k : Nat) (a0 : ByteArray) : Option (List Int × Bool) := format_four.l0 k a0 0 0
set_option maxHeartbeats 8000000 in
set_option maxRecDepth 100000 in
theorem format_four.calls (k : Nat) (a0 : ByteArray) (r1 : List Int) (r2 : Bool) (w : World) (h : format_four.f k a0 = some (r1, r2)) :
    Calls Tryd.prog 15 #[.string a0] w fun e w' => ∃ v0_ : Value, e = .returned (.tuple #[v0_, .bool r2]) ∧ Kd.R (Kd.int .u8) 5 w' w.heap.size (fun _ => True) v0_ r1 ∧ Below w.heap.size w w' := by
  have HB := Aside0.mk (Below.refl w.heap.size w)
  have H : (format_four.l0 k a0 0 0) = some (r1, r2) := h
  clear h
  have H' := Aside0.mk H
  clear H
  go_enter Tryd.func15, Tryd.ntmps15
  go_wp2
  go_loopg [4, 8] k (fun kq v4 v8 w' => ∃ (x4_1 : Int) (x8_1 : Int), v4 = .int .i64 x4_1 ∧ v8 = .int .i64 x8_1 ∧ Aside0 (format_four.l0 kq a0 x4_1 x8_1 = some (r1, r2)) ∧ Aside0 (kq ≤ k) ∧ Aside0 (Below w.heap.size w w'))
  case atStart => exact ⟨(0), (0), (by first | rfl | (simp; done) | (simp [*]; done)), (by first | rfl | (simp; done) | (simp [*]; done)), H', ⟨Nat.le_refl _⟩, ⟨by repeat (first | (with_reducible first | exact HB.out | apply below_alloc | apply pw_below_drewN | apply below_drew1) | exact HB.out)⟩⟩
  case round =>
    clear H'
    try clear c1
    obtain ⟨x4_1, x8_1, rfl, rfl, HA, HK1, HB⟩ := hrel
    cases gk with
    | zero => exact absurd HA.out (by simp [format_four.l0])
    | succ k1 =>
      have H := HA.out
      clear HA
      simp only [format_four.l0] at H
      by_cases c2 : x8_1 < 4
      · rw [if_pos c2] at H
        have c2b0 : decide (x8_1 < 4) = true := decide_eq_true c2
        clear c2
        by_cases c3 : x8_1 ≥ (a0.size : Int)
        · rw [if_pos c3] at H
          have c3b0 : decide ((a0.size : Int) ≤ x8_1) = true := decide_eq_true c3
          clear c3
          have H' := Aside0.mk H
          clear H
          go_wp2
          go_roundg k1
          case measure => have := HK1.out; omega
          case rel => exact ⟨(wrap64 (x4_1 * 64)), (wrap64 (x8_1 + 1)), (by first | rfl | (simp; done) | (simp [*]; done)), (by first | rfl | (simp; done) | (simp [*]; done)), H', ⟨by have := HK1.out; omega⟩, ⟨by repeat (first | (with_reducible first | exact HB.out | apply below_alloc | apply pw_below_drewN | apply below_drew1) | exact HB.out)⟩⟩
        · rw [if_neg c3] at H
          have c3b0 : decide ((a0.size : Int) ≤ x8_1) = false := decide_eq_false c3
          clear c3
          by_cases c4 : 0 ≤ x8_1
          · rw [if_pos c4] at H
            have c4b0 : decide (0 ≤ x8_1) = true := decide_eq_true c4
            clear c4
            by_cases c5 : x8_1 < (a0.size : Int)
            · rw [if_pos c5] at H
              have c5b0 : decide (x8_1 < (a0.size : Int)) = true := decide_eq_true c5
              clear c5
              replace H := Option.bind_eq_some_iff.mp H
              obtain ⟨t107, A70, H⟩ := H
              replace H : (if t107 < 0 then (some (([] : List Int), false)) else (format_four.l0 k1 a0 (Go.bits .or .i64 (wrap64 (x4_1 * 64)) t107) (wrap64 (x8_1 + 1)))) = some (r1, r2) := H
              have A7 := Aside0.mk A70
              clear A70
              by_cases c8 : t107 < 0
              · rw [if_pos c8] at H
                have c8b0 : decide (t107 < 0) = true := decide_eq_true c8
                clear c8
                simp only [Option.some.injEq, Prod.mk.injEq] at H
                obtain ⟨rfl, rfl⟩ := H
                have p6 : 0 ≤ (x8_1 : Int) := of_decide_eq_true (by first | (with_reducible assumption) | assumption)
                have q6 : x8_1 < (a0.size : Int) := of_decide_eq_true (by first | (with_reducible assumption) | assumption)
                have hx6 := bt_at a0 x8_1
                replace p6 := eq_true p6
                replace q6 := eq_true q6
                go_wp2_with (first | ((with_reducible refine gate_callee (f := 24) rfl ?_); refine goesL_ (some 20) rfl rfl Tryd.func24 (by kernel_rfl) rfl #[.string (⟨#[65, 66, 67, 68, 69, 70, 71, 72, 73, 74, 75, 76, 77, 78, 79, 80, 81, 82, 83, 84, 85, 86, 87, 88, 89, 90, 97, 98, 99, 100, 101, 102, 103, 104, 105, 106, 107, 108, 109, 110, 111, 112, 113, 114, 115, 116, 117, 118, 119, 120, 121, 122, 48, 49, 50, 51, 52, 53, 54, 55, 56, 57, 43, 47]⟩ : ByteArray), .int .u8 (bt a0 x8_1)] rfl (by (try simp only [List.map_toArray, List.map_cons, List.map_nil]); first | done | rfl | (simp only [List.length_drop, List.length_take]; rfl)) ?_; (with_reducible refine (strings_IndexByte.calls (⟨#[65, 66, 67, 68, 69, 70, 71, 72, 73, 74, 75, 76, 77, 78, 79, 80, 81, 82, 83, 84, 85, 86, 87, 88, 89, 90, 97, 98, 99, 100, 101, 102, 103, 104, 105, 106, 107, 108, 109, 110, 111, 112, 113, 114, 115, 116, 117, 118, 119, 120, 121, 122, 48, 49, 50, 51, 52, 53, 54, 55, 56, 57, 43, 47]⟩ : ByteArray) (bt a0 x8_1) t107 _ A7.out).mono ?_); rintro e w' ⟨rfl, ⟨nd, rfl⟩⟩; refine ⟨_, rfl, ?_⟩))
                go_ret2
                exact ⟨_, by first | rfl | (simp [errW_none, errW_some] <;> rfl) | (simp [*, errW_none, errW_some] <;> rfl), by first | exact Kd.R_nil _ _ _ _ _ | exact Kd.N_nil _ _ _ _ _ | exact Kd.V_nil _ _ _ _ _ | exact Kd.Q_nil _ _ _ _ _ | exact Kd.S_nil _ _ _ _ _, by repeat (first | (with_reducible first | exact HB.out | apply below_alloc | apply pw_below_drewN | apply below_drew1) | exact HB.out)⟩
              · rw [if_neg c8] at H
                have c8b0 : decide (t107 < 0) = false := decide_eq_false c8
                clear c8
                have H' := Aside0.mk H
                clear H
                have p6 : 0 ≤ (x8_1 : Int) := of_decide_eq_true (by first | (with_reducible assumption) | assumption)
                have q6 : x8_1 < (a0.size : Int) := of_decide_eq_true (by first | (with_reducible assumption) | assumption)
                have hx6 := bt_at a0 x8_1
                replace p6 := eq_true p6
                replace q6 := eq_true q6
                go_wp2_with (first | ((with_reducible refine gate_callee (f := 24) rfl ?_); refine goesL_ (some 20) rfl rfl Tryd.func24 (by kernel_rfl) rfl #[.string (⟨#[65, 66, 67, 68, 69, 70, 71, 72, 73, 74, 75, 76, 77, 78, 79, 80, 81, 82, 83, 84, 85, 86, 87, 88, 89, 90, 97, 98, 99, 100, 101, 102, 103, 104, 105, 106, 107, 108, 109, 110, 111, 112, 113, 114, 115, 116, 117, 118, 119, 120, 121, 122, 48, 49, 50, 51, 52, 53, 54, 55, 56, 57, 43, 47]⟩ : ByteArray), .int .u8 (bt a0 x8_1)] rfl (by (try simp only [List.map_toArray, List.map_cons, List.map_nil]); first | done | rfl | (simp only [List.length_drop, List.length_take]; rfl)) ?_; (with_reducible refine (strings_IndexByte.calls (⟨#[65, 66, 67, 68, 69, 70, 71, 72, 73, 74, 75, 76, 77, 78, 79, 80, 81, 82, 83, 84, 85, 86, 87, 88, 89, 90, 97, 98, 99, 100, 101, 102, 103, 104, 105, 106, 107, 108, 109, 110, 111, 112, 113, 114, 115, 116, 117, 118, 119, 120, 121, 122, 48, 49, 50, 51, 52, 53, 54, 55, 56, 57, 43, 47]⟩ : ByteArray) (bt a0 x8_1) t107 _ A7.out).mono ?_); rintro e w' ⟨rfl, ⟨nd, rfl⟩⟩; refine ⟨_, rfl, ?_⟩))
                go_roundg k1
                case measure => have := HK1.out; omega
                case rel => exact ⟨(Go.bits .or .i64 (wrap64 (x4_1 * 64)) t107), (wrap64 (x8_1 + 1)), (by first | rfl | (simp; done) | (simp [*]; done)), (by first | rfl | (simp; done) | (simp [*]; done)), H', ⟨by have := HK1.out; omega⟩, ⟨by repeat (first | (with_reducible first | exact HB.out | apply below_alloc | apply pw_below_drewN | apply below_drew1) | exact HB.out)⟩⟩
            · rw [if_neg c5] at H
              exact absurd H (by simp)
          · rw [if_neg c4] at H
            exact absurd H (by simp)
      · rw [if_neg c2] at H
        have c2b0 : decide (x8_1 < 4) = false := decide_eq_false c2
        clear c2
        obtain ⟨y101, hy101⟩ : ∃ y_ : List Int, y_ = (([(x4_1 / 65536) % 256, (x4_1 / 256) % 256, (x4_1) % 256] : List Int)) := ⟨_, rfl⟩
        replace H : (if 0 ≤ (wrap64 (Int.tdiv (wrap64 ((a0.size : Int) * 6)) 8)) then (if (wrap64 (Int.tdiv (wrap64 ((a0.size : Int) * 6)) 8)) ≤ (y101.length : Int) then (some ((y101.take ((wrap64 (Int.tdiv (wrap64 ((a0.size : Int) * 6)) 8)) : Int).toNat), true)) else (none)) else (none)) = some (r1, r2) := by first | (rw [hy101]; with_reducible exact H) | (have H2_ := (Option.bind_some _ _).symm.trans H; rw [hy101]; with_reducible exact H2_) | (have H2_ := (Option.bind_some _ _).symm.trans H; with_reducible exact H2_) | with_reducible exact H | (rw [hy101]; exact H) | exact H
        have Ny101 := Aside0.mk hy101
        clear hy101
        obtain ⟨ji9, hji9⟩ : ∃ j_ : Int, (wrap64 (Int.tdiv (wrap64 ((a0.size : Int) * 6)) 8)) = j_ := ⟨_, rfl⟩
        replace H : (if 0 ≤ (ji9) then (if (ji9) ≤ (y101.length : Int) then (some ((y101.take ((ji9) : Int).toNat), true)) else (none)) else (none)) = some (r1, r2) := by first | (rw [hji9] at H; exact H) | (simp only [hji9] at H ⊢; exact H)
        have hji9w : (IntKind.i64.wrap (Int.tdiv (wrap64 ((a0.size : Int) * 6)) 8)) = ji9 := (i64_w _).trans hji9
        by_cases c10 : 0 ≤ (ji9)
        · rw [if_pos c10] at H
          have c10b0 := eq_true c10
          have c10b1 : decide (0 ≤ (ji9)) = true := decide_eq_true c10
          clear c10
          by_cases c11 : (ji9) ≤ (y101.length : Int)
          · rw [if_pos c11] at H
            have c11b0 := eq_true c11
            have c11b1 : decide ((ji9) ≤ (y101.length : Int)) = true := decide_eq_true c11
            clear c11
            obtain ⟨y104, hy104⟩ : ∃ y_ : List Int, y_ = (y101.take ((ji9) : Int).toNat) := ⟨_, rfl⟩
            replace H : (some (y104, true)) = some (r1, r2) := by first | (rw [hy104]; with_reducible exact H) | (have H2_ := (Option.bind_some _ _).symm.trans H; rw [hy104]; with_reducible exact H2_) | (have H2_ := (Option.bind_some _ _).symm.trans H; with_reducible exact H2_) | with_reducible exact H | (rw [hy104]; exact H) | exact H
            have Ny104 := Aside0.mk hy104
            clear hy104
            simp only [Option.some.injEq, Prod.mk.injEq] at H
            obtain ⟨rfl, rfl⟩ := H
            go_wp2_with (first | ((with_reducible refine gate_dst (N := 35) rfl ?_); refine Kd.R_lit (Kd.int .u8) _ 5 ?hg (N := 35) ?hd (xs := ([(x4_1 / 65536) % 256, (x4_1 / 256) % 256, (x4_1) % 256] : List Int)) (inner := [.int .u8 ((x4_1 / 65536) % 256), .int .u8 ((x4_1 / 256) % 256), .int .u8 ((x4_1) % 256)]) (ok := fun _ => True) (okp := fun _ => True) ?hr ?hp (fun _ hk => hk) trivial (Below.refl _ _) (Nat.le_refl _) (by simp) ?_; (case hd => rfl); (case hg => rfl); (case hr => first | (go_simp; done) | (go_simp; rfl)); (case hp => exact (Reps.one (show Kd.M (Kd.int .u8) _ _ _ ((x4_1 / 65536) % 256) [.int .u8 ((x4_1 / 65536) % 256)] from rfl) (Reps.one (show Kd.M (Kd.int .u8) _ _ _ ((x4_1 / 256) % 256) [.int .u8 ((x4_1 / 256) % 256)] from rfl) (Reps.one (show Kd.M (Kd.int .u8) _ _ _ ((x4_1) % 256) [.int .u8 ((x4_1) % 256)] from rfl) (Reps.none _ _))))); intro v102 w12 ho13 hb hg_ hnew_; clear hg_ hnew_; (first | rw [← Ny101.out] at ho13 | (simp only [Int.reduceToNat] at ho13; rw [← Ny101.out] at ho13)); have n0_ := Aside0.mk (Kd.R_lower ho13 (below_size (by repeat (first | (with_reducible first | exact HB.out | apply below_alloc | apply pw_below_drewN | apply below_drew1) | exact HB.out)))); have n1_ := Aside0.mk (below_step (by repeat (first | (with_reducible first | exact HB.out | apply below_alloc | apply pw_below_drewN | apply below_drew1) | exact HB.out)) hb); clear HB; have HO103 := n0_; have HB := n1_; clear n0_ n1_; clear hb ho13; obtain ⟨Ao14, co14, eo14⟩ := Kd.R_slice HO103.out; subst eo14; have q15 : ((ji9) : Int) ≤ ((y101.length : Int) : Int) := of_decide_eq_true (by first | (with_reducible assumption) | assumption); obtain ⟨i015, hi015, _, hsz15, _⟩ := info_parts info5; have hcut15 := cut_to (P := Tryd.prog) 31 5 .i64 Tryd.underlying31 hi015 Ao14 y101.length co14 (ji9) (of_decide_eq_true (by first | (with_reducible assumption) | assumption)) q15 (Kd.R_reads' HO103.out).2.1; have hr15 := Kd.R_take (m := ((ji9) : Int).toNat) HO103.out (by omega); have hy15 : y104.length = ((ji9) : Int).toNat := (by rw [Ny104.out, List.length_take]; omega); rw [← Ny104.out] at hr15; rw [← hy15] at hr15 hcut15; clear hy15 hi015 hsz15 HO103; have HO106 := Aside0.mk hr15; clear hr15; replace q15 := eq_true q15))
            go_ret2
            exact ⟨_, by first | rfl | (simp [errW_none, errW_some] <;> rfl) | (simp only [← hji9]; first | rfl | (simp [errW_none, errW_some] <;> rfl)) | (simp [*, errW_none, errW_some] <;> rfl), by (with_reducible repeat (first | apply Kd.R_alloc | apply Kd.R_drewN | apply Kd.R_drew)); exact HO106.out, by repeat (first | (with_reducible first | exact HB.out | apply below_alloc | apply pw_below_drewN | apply below_drew1) | exact HB.out)⟩
          · rw [if_neg c11] at H
            exact absurd H (by simp)
        · rw [if_neg c10] at H
          exact absurd H (by simp)
end Go.Proofs.YtnbkmaghdbhlnaaDoor.B

end
