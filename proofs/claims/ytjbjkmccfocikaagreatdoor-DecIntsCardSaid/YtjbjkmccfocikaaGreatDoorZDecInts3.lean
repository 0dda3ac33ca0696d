/- DecInts: part 4 of 6: the texts PR2 PAny B10 B14 B15 B16 HAsk B109 B19 B20 B110 B113 B21 B27 B18 HNParse B28 HLibT B29 B30 B114 B123 of this claim, one behind the other. -/
import Derived.Test.YtjbjkmccfocikaaGreatDoorZDecInts2
import Derived.WalkKit
import Derived.Lib.Hide
import Derived.Outline
import Derived.Deep.DeepFit
import Derived.Laws.Rows
import Derived.Lib.TrimByte
set_option linter.unusedVariables false
set_option linter.unusedSimpArgs false
set_option maxRecDepth 100000
set_option maxHeartbeats 8000000
namespace Go.Proofs
section
namespace YtjbjkmccfocikaaGreatDoor.P
open Go.RowKit YtjbjkmccfocikaaGreatDoor.B YtjbjkmccfocikaaGreatDoorW.PrintWords YtjbjkmccfocikaaGreatDoorW.PrintLast YtjbjkmccfocikaaGreatDoorW.PrintMore YtjbjkmccfocikaaGreatDoor.P.Nm
def okB (a : Dm) : Bool := if a.n = 0 then (!a.neg && decide (a.e = 0)) else (decide (a.n % 10 ≠ 0) && (decide (nd a.n <= 300) && (decide (-1000 <= a.e) && decide (a.e <= 1000))))
theorem okB_iff {a : Dm} : okB a = true ↔ OkD a := by
 obtain ⟨s, n, e⟩ := a
 unfold okB
 by_cases h : n = 0
 ·subst h
  simp only [if_true]
  constructor
  ·intro h
   simp only [Bool.and_eq_true, Bool.not_eq_true', decide_eq_true_eq] at h
   obtain ⟨rfl, rfl⟩ := h
   exact OkD.zeroD
  ·intro h
   have := h.zero rfl
   unfold zeroD at this
   injection this with h1 h2 h3
   simp [h1, h3]
 ·simp only [if_neg h, Bool.and_eq_true, decide_eq_true_eq]
  constructor
  ·intro ⟨h1, h2, h3, h4⟩
   exact ⟨fun e => absurd e h, fun _ => h1, h2, h3, h4⟩
  ·intro h1
   exact ⟨h1.last h, h1.len, h1.low, h1.high⟩
def chk (a : Bool) (l : List Int) (e : Int) : Int := if chkL l = 0 /\ l.length <= 40 /\ okB ⟨a, num l, e⟩ = true then 0 else 9
theorem limbs_len9 {n k : Nat} (h : nd n <= 9 * k) : (limbs n).length <= k := by
 refine limbs_len_of (Nat.lt_of_lt_of_le (nd_lt n) ?_)
 refine Nat.le_trans (Nat.pow_le_pow_right (by omega) h) ?_
 rw [Nat.pow_mul]
 exact Nat.pow_le_pow_left (by decide) _
theorem okd_limbs {a : Dm} (h : OkD a) : (limbs a.n).length <= 34 := limbs_len9 (by have := h.len; omega)
theorem chk_of {a : Dm} (h : OkD a) : chk a.neg (limbs a.n) a.e = 0 := by
 have h1 := okd_limbs h
 unfold chk
 rw [if_pos ⟨chk_limbs (by omega), by omega, by rw [num_limbs]; exact okB_iff.2 h⟩]
abbrev outD (p : Dm × Int) : Bool × List Int × Int × Int := (p.1.neg, limbs p.1.n, p.1.e, p.2)
theorem digs_low {n : Nat} (h : n ≠ 0) : (digs n).getD 0 0 = ((n % 10 : Nat) : Int) := by rw [digs_step h]; rfl
theorem Made_l0 (s : Bool) : ∀ (f n : Nat) (e : Int), n <= f -> n ≠ 0 -> nd n <= 100000 -> -1000000000 <= e -> e + nd n <= 1000000000 -> Tells (fun k => bolterref02_Made.l0 k (digs n) s [] e) (outD (settleD ⟨s, n, e⟩))
 | 0, n, e, hf, h0, hn, he1, he2 => by omega
 | f + 1, n, e, hf, h0, hn, he1, he2 => by
  have hpos := nd_pos h0
  have hlen : (digs n).length = nd n := rfl
  refine Tells.succ ?_
  simp only [bolterref02_Made.l0]
  rw [show (0 : Int) = ((0 : Nat) : Int) from rfl, rd_n, digs_low h0]
  refine Tells.ifp (by omega) ?_
  by_cases hz : n % 10 = 0
  ·have hne : n / 10 ≠ 0 := by omega
   have hnd : nd n = nd (n / 10) + 1 := by
    show (digs n).length = _
    rw [digs_step h0]; rfl
   have ih := Made_l0 s f (n / 10) (e + 1) (by omega) hne (by omega) (by omega) (by omega)
   have hs := settle_shift s (n / 10) (e + 1) 1
   rw [show n / 10 * 10 ^ 1 = n by omega, show e + 1 - ((1 : Nat) : Int) = e by omega] at hs
   rw [hs]
   refine Tells.ifp (by omega) (Tells.ifp (by omega) ?_)
   rw [w64n (by omega) (by omega), digs_step h0]
   exact ih
  ·obtain ⟨hc, ht⟩ := core_self hz
   unfold settleD
   simp only [hc, ht]
   rw [if_neg h0, show e + ((0 : Nat) : Int) = e by omega]
   refine Tells.ifn (by omega) ?_
   by_cases h3 : 300 < nd n
   ·rw [if_pos h3]
    exact Tells.ifp (by omega) (Tells.pure _)
   ·rw [if_neg h3]
    refine Tells.ifn (by omega) ?_
    by_cases h4 : e < -1000
    ·rw [if_pos (.inl h4)]
     exact Tells.ifp h4 (Tells.pure _)
    ·refine Tells.ifn h4 ?_
     by_cases h5 : 1000 < e
     ·rw [if_pos (.inr h5)]
      exact Tells.ifp h5 (Tells.pure _)
     ·rw [if_neg (by omega)]
      exact Tells.ifn h5 ((Limbs_tells n (by omega)).bind (Tells.pure _))
theorem Made_tells (s : Bool) (L : List Int) (n : Nat) (e : Int) (hd : Dg 10 L) (hv : val 10 L = n) (hl : L.length <= 100000) (he1 : -1000000000 <= e) (he2 : e <= 900000000) : Tells (fun k => bolterref02_Made.f k s L e) (outD (settleD ⟨s, n, e⟩)) := by
 have ht := Trim_tells L (by omega)
 rw [digs_trim hd hv] at ht
 have hnd : nd n <= 100000 := by
  have := trim_len L
  rw [digs_trim hd hv] at this
  exact Nat.le_trans this hl
 unfold bolterref02_Made.f
 refine ht.bind ?_
 by_cases h0 : n = 0
 ·subst h0
  exact Tells.ifp rfl (Tells.pure _)
 ·have hpos : 0 < (digs n).length := nd_pos h0
  exact Tells.ifn (by omega) (Made_l0 s n n e (Nat.le_refl _) h0 hnd he1 (by omega))
theorem Made (s : Bool) (n : Nat) (e : Int) (hn : nd n <= 100000) (he1 : -1000000000 <= e) (he2 : e <= 900000000) : Tells (fun k => bolterref02_Made.f k s (digs n) e) (outD (settleD ⟨s, n, e⟩)) :=
 Made_tells s _ n e (digs_dg n) (digs_val n) hn he1 he2
theorem Same_l0 (a : Bool) (l : List Int) (e : Int) (b : Bool) (m : List Int) (g : Int) (hl : l.length = m.length) (hz : l.length < 9223372036854775807) : ∀ (d i : Nat), l.length - i = d -> i <= l.length -> l.take i = m.take i -> Tells (fun k => bolterref02_Same.l0 k (i : Int) a l e b m g) (decide (l = m))
 | 0, i, hd, hi, h => by
  obtain rfl : i = l.length := by omega
  refine Tells.succ ?_
  simp only [bolterref02_Same.l0]
  refine Tells.ifn (by omega) ((Tells.pure _).val ?_)
  rw [List.take_length, hl, List.take_length] at h
  rw [decide_eq_true h]
 | d + 1, i, hd, hi, h => by
  have hil : i < l.length := by omega
  refine Tells.succ ?_
  simp only [bolterref02_Same.l0]
  rw [rd_n, rd_n, w64s (by omega)]
  refine Tells.ifp (by omega) (Tells.ifp (by omega) (Tells.ifp (by omega) ?_))
  by_cases hx : l.getD i 0 = m.getD i 0
  ·exact Tells.ifp hx (Same_l0 a l e b m g hl hz d (i + 1) (by omega) (by omega) (by rw [take_s hil, take_s (by omega), h, hx]))
  ·exact Tells.ifn hx ((Tells.pure _).val (by rw [decide_eq_false (fun q => hx (by rw [q]))]))
def sameB (a : Bool) (l : List Int) (e : Int) (b : Bool) (m : List Int) (g : Int) : Bool := decide (a = b) && (decide (e = g) && decide (l = m))
theorem sameB_iff {a : Bool} {l : List Int} {e : Int} {b : Bool} {m : List Int} {g : Int} : sameB a l e b m g = true ↔ a = b /\ l = m /\ e = g := by
 unfold sameB
 simp only [Bool.and_eq_true, decide_eq_true_eq]
 exact ⟨fun ⟨h1, h2, h3⟩ => ⟨h1, h3, h2⟩, fun ⟨h1, h2, h3⟩ => ⟨h1, h3, h2⟩⟩
theorem Same_tells (a : Bool) (l : List Int) (e : Int) (b : Bool) (m : List Int) (g : Int) (hz : l.length < 9223372036854775807) : Tells (fun k => bolterref02_Same.f k a l e b m g) (sameB a l e b m g) := by
 have no : Tells (fun k => bolterref02_Same.j0 k true a l e b m g) false := by
  refine Tells.succ ?_
  simp only [bolterref02_Same.j0]
  exact Tells.ifp trivial (Tells.pure _)
 unfold bolterref02_Same.f sameB
 by_cases h1 : a = b
 ·subst h1
  rw [decide_eq_true rfl]
  refine Tells.ifn (by simp) ?_
  by_cases h2 : e = g
  ·subst h2
   rw [decide_eq_true rfl]
   refine Tells.ifp rfl ?_
   by_cases h3 : l.length = m.length
   ·refine Tells.succ ?_
    simp only [bolterref02_Same.j0]
    have h := Same_l0 a l e a m e h3 hz l.length 0 (by omega) (by omega) rfl
    exact Tells.ifn (by rw [h3]; simp) (h.val (by simp))
   ·have e1 : ((l.length : Int) != (m.length : Int)) = true := bne_iff_ne.2 (by omega)
    rw [e1]
    refine no.val ?_
    rw [decide_eq_false (fun q : l = m => h3 (by rw [q]))]; rfl
  ·exact Tells.ifn h2 (no.val (by rw [decide_eq_false h2]; rfl))
 ·exact Tells.ifp (by simpa using h1) (no.val (by rw [decide_eq_false h1]; rfl))
theorem limbs_inj {m n : Nat} (h : limbs m = limbs n) : m = n := by rw [<- num_limbs m, h, num_limbs]
theorem Same_D (D E : Dm) (h : nd D.n <= 1000000) : Tells (fun k => bolterref02_Same.f k D.neg (limbs D.n) D.e E.neg (limbs E.n) E.e) (decide (D = E)) := by
 have hl := limbs_len D.n
 refine (Same_tells D.neg (limbs D.n) D.e E.neg (limbs E.n) E.e (by omega)).val ?_
 rw [Bool.eq_iff_iff, sameB_iff, decide_eq_true_eq]
 constructor
 ·intro ⟨h1, h2, h3⟩
  obtain ⟨s, n, e⟩ := D
  obtain ⟨s', n', e'⟩ := E
  have := limbs_inj h2
  simp only at *
  subst h1 h3 this; rfl
 ·intro h; rw [h]; exact ⟨rfl, rfl, rfl⟩
theorem mn_eq (a b : Int) : mn a b = min a b := by unfold mn; omega
theorem nd_shift_le (n k : Nat) : nd (n * 10 ^ k) <= nd n + k := by
 by_cases h : n = 0
 ·subst h; rw [Nat.zero_mul, nd_zero]; omega
 ·rw [nd_shift h]; exact Nat.le_refl _
theorem nd_sumS (s t : Bool) (x y k : Nat) (hx : nd x <= k) (hy : nd y <= k) : nd (sumS s t x y).2 <= k + 1 := by
 have h1 := nd_add x y
 have h2 := nd_mono (Nat.sub_le x y)
 have h3 := nd_mono (Nat.sub_le y x)
 unfold sumS
 split
 ·show nd (x + y) <= _; omega
 ·split
  ·show nd (y - x) <= _; omega
  ·show nd (x - y) <= _; omega
theorem plusD_nd {A B : Dm} (hA : OkD A) (hB : OkD B) : nd (plusD A B).n <= 2301 := by
 have d1 := hA.len; have d2 := hA.low; have d3 := hA.high
 have e1 := hB.len; have e2 := hB.low; have e3 := hB.high
 have hx := nd_shift_le A.n (A.e - min A.e B.e).toNat
 have hy := nd_shift_le B.n (B.e - min A.e B.e).toNat
 exact nd_sumS _ _ _ _ 2300 (by omega) (by omega)
theorem plusD_lo {A B : Dm} (hA : OkD A) (hB : OkD B) : -1000 <= (plusD A B).e /\ (plusD A B).e <= 1000 := by
 have d2 := hA.low; have d3 := hA.high
 have e2 := hB.low; have e3 := hB.high
 rw [plusD_e]; omega
def intD (n : Int) : Dm := (settleD ⟨decide (n < 0), n.natAbs, 0⟩).1
theorem nd_20 {n : Nat} (h : n <= 18446744073709551616) : nd n <= 20 := nd_le (Nat.lt_of_le_of_lt h (by decide))
end YtjbjkmccfocikaaGreatDoor.P
end
section
namespace YtjbjkmccfocikaaGreatDoor.P
open Go.RowKit YtjbjkmccfocikaaGreatDoorW.PrintWords
def anyO {α : Type} (f : α -> Option Bool) : List α -> Option Bool
 | [] => some false
 | x :: r => (f x).bind fun t => if t = true then some true else anyO f r
theorem anyO_cons {α : Type} {f : α -> Option Bool} {x : α} {r : List α} {b : Bool} (h : anyO f (x :: r) = some b) : ∃ t, f x = some t /\ ((t = true -> b = true) /\ (t = false -> anyO f r = some b)) := by
 simp only [anyO] at h
 obtain ⟨t, ht, h2⟩ := Option.bind_eq_some_iff.1 h
 refine ⟨t, ht, fun e => ?_, fun e => ?_⟩
 ·rw [if_pos e] at h2; exact (Option.some.inj h2).symm
 ·rw [if_neg (by simp [e])] at h2; exact h2
theorem anyO_nil {α : Type} {f : α -> Option Bool} {b : Bool} (h : anyO f [] = some b) : b = false := (Option.some.inj h).symm
theorem anyO_some {α : Type} {f : α -> Option Bool} (p : α -> Bool) : ∀ l : List α, (∀ x ∈ l, f x = some (p x)) -> anyO f l = some (l.any p)
 | [], _ => rfl
 | x :: r, h => by
  simp only [anyO]
  rw [h x List.mem_cons_self, Option.bind_some, List.any_cons]
  cases p x
  ·rw [if_neg (by simp), Bool.false_or]; exact anyO_some p r (fun y hy => h y (List.mem_cons_of_mem _ hy))
  ·rw [if_pos rfl, Bool.true_or]
def IdxR (b : Bool) (e : Ending) : Prop := ∃ i : Int, e = .returned (.int .i64 i) /\ decide (0 <= i) = b
theorem idxR_at {b : Bool} (h : b = true) (q : Nat) : IdxR b (.returned (.int .i64 (q : Int))) := ⟨q, rfl, by rw [h]; simp⟩
theorem idxR_none {b : Bool} (h : b = false) : IdxR b (.returned (.int .i64 (-1))) := ⟨-1, rfl, by rw [h]; rfl⟩
theorem drop_any {α : Type} {l : List α} {q : Nat} {z : α} (h : q < l.length) : l.drop q = l.getD q z :: l.drop (q + 1) := by
 rw [List.getD, List.getElem?_eq_getElem h]; exact List.drop_eq_getElem_cons h
theorem addr_any {w : World} {a : Addr} {v : Value} (h : w.cell? a = some v) : ∃ b o, a = ⟨b, o, none⟩ := by
 obtain ⟨b, o, s⟩ := a
 cases s with
 | none => exact ⟨b, o, rfl⟩
 | some s =>
  unfold World.cell? at h
  split at h
  ·simp at h
  ·cases h
theorem add_any (b o j : Nat) : (⟨b, o, none⟩ : Addr).add j = ⟨b, o + j, none⟩ := by unfold Addr.add; split <;> simp_all
end YtjbjkmccfocikaaGreatDoor.P
end
section
namespace YtjbjkmccfocikaaGreatDoor.B
open Go.RowKit YtjbjkmccfocikaaGreatDoorW.PrintWords YtjbjkmccfocikaaGreatDoorW.PrintLast YtjbjkmccfocikaaGreatDoorW.PrintMore
attribute [local go_sem] max2_int min2_int max_two min_two max_three min_three max_four min_four
def dec_ten.f (k : Nat) (l0 : List Int) : Option (List Int × Bool) := (nat_From.f k 10).bind fun t147 => ((nat_Div.f k l0 t147).bind fun bt150 => (some (bt150.1, ((bt150.2.1.length : Int) == 0))))
theorem dec_ten.calls (k : Nat) (A0 : Option Addr) (c0 : Nat) (l0 : List Int) (r1 : List Int) (r2 : Bool) (w : World) (hr0 : Kd.C (Kd.int .u32) w A0 l0.length l0) (hc0 : l0.length <= c0) (h : dec_ten.f k l0 = some (r1, r2)) :
  Calls Tryz.prog 109 #[.slice A0 l0.length c0] w fun e w' => ∃ v0_ : Value, e = .returned (.tuple #[v0_, .bool r2]) /\ Kd.R (Kd.int .u32) 85 w' w.heap.size (fun _ => True) v0_ r1 /\ Below w.heap.size w w' := by
 have HR0 := am hr0
 have HC0 := am hc0
 clear hr0 hc0
 have HB := am (Below.refl w.heap.size w)
 have H : ((nat_From.f k 10).bind fun t147 => ((nat_Div.f k l0 t147).bind fun bt150 => (some (bt150.1, ((bt150.2.1.length : Int) == 0))))) = some (r1, r2) := h
 clear h
 obtain ⟨t147, A2, H⟩ := ob H
 obtain ⟨⟨t150, t151, t152⟩, A3, H⟩ := ob H; (try dsimp only at H)
 simp only [Option.some.injEq, Prod.mk.injEq] at H
 obtain ⟨rfl, rfl⟩ := H
 go_enter Tryz.func109, Tryz.ntmps109
 go_wp2_with (first | (refine gL (some 9) Tryz.func76 #[.int .u64 10] (h := ?_); (with_reducible refine (nat_From.calls k 10 t147 _ A2.out).mono ?_); rintro e w4 ⟨v148, rfl, ho0, hb⟩; refine ⟨_, rfl, ?_⟩; have HO149 := am (Kd.R_lower ho0 (below_size pB)); replace HB := am (below_step pB hb); (try clear hb); (try clear hb2); (try clear hk); (try clear hi); (try clear ho0); obtain ⟨Ao5, co5, eo5⟩ := Kd.R_slice HO149.out; subst eo5) | (refine gL (some 10) Tryz.func69 #[.slice A0 l0.length c0, .slice Ao5 t147.length co5] (h := ?_); (with_reducible refine (nat_Div.calls k _ _ l0 _ _ t147 t150 t151 t152 _ ?side1 ?side2 ?side3 ?side4 A3.out).mono ?_); (case side1 => refine cp ?_; exact (Kd.C_below HR0.out HB.out)); (case side2 => exact HC0.out); (case side3 => exact Kd.C_below (Kd.R_reads' HO149.out).2.2 pl); (case side4 => exact (Kd.R_reads' HO149.out).2.1); rintro e w6 ⟨v153, v155, rfl, ho0, ho1, hb⟩; refine ⟨_, rfl, ?_⟩; have n0_ := am (Kd.R_mono (Kd.R_told (Kd.R_told (Kd.R_old (Kd.R_below HO149.out pl) hb) (Kd.R_base ho0)) (Kd.R_base ho1)) (fun _ h_ => h_.1)); have n1_ := am (Kd.R_lower (Kd.R_new' ho0 (Kd.R_lt (Kd.R_below HO149.out pl))) (below_size pB)); have n2_ := am (Kd.R_lower (Kd.R_new' ho1 (Kd.R_lt (Kd.R_below HO149.out pl))) (below_size pB)); have n3_ := am (below_step pB hb); clear HO149 HB; have HO149 := n0_; have HO154 := n1_; have HO156 := n2_; have HB := n3_; clear n0_ n1_ n2_ n3_; (try clear hb); (try clear hb2); (try clear hk); (try clear hi); (try clear ho0); (try clear ho1); obtain ⟨Ao7, co7, eo7⟩ := Kd.R_slice HO156.out; subst eo7))
 go_ret2
 exact ⟨_, pE, by refine rp ?_; exact Kd.R_mono HO154.out (fun _ hk => trivial), pB⟩
def dec_digits.f (k : Nat) (l0 : List Int) : Option (Int) := (nat_Print.f k l0).bind fun bt173 => (if (l0.length : Int) = 0 then (some 0) else (some (bt173.1.size : Int)))
theorem dec_digits.calls (k : Nat) (A0 : Option Addr) (c0 : Nat) (l0 : List Int) (r : Int) (w : World) (hr0 : Kd.C (Kd.int .u32) w A0 l0.length l0) (hc0 : l0.length <= c0) (h : dec_digits.f k l0 = some r) :
  Calls Tryz.prog 110 #[.slice A0 l0.length c0] w fun e w' => e = .returned (.int .i64 r) /\ Below w.heap.size w w' := by
 have HR0 := am hr0
 have HC0 := am hc0
 clear hr0 hc0
 have HB := am (Below.refl w.heap.size w)
 have H : ((nat_Print.f k l0).bind fun bt173 => (if (l0.length : Int) = 0 then (some 0) else (some (bt173.1.size : Int)))) = some r := h
 clear h
 obtain ⟨⟨t173, t174⟩, A2, H⟩ := ob H; (try dsimp only at H)
 by_cases c3 : (l0.length : Int) = 0
 ·rw [if_pos c3] at H
  have c3b0 : ((l0.length : Int) == 0) = true := beq_iff_eq.mpr c3
  have c3b1 : ((l0.length : Int) != 0) = false := bne_eq_false_iff_eq.mpr c3
  clear c3
  obtain rfl := Option.some.inj H
  go_enter Tryz.func110, Tryz.ntmps110
  go_wp2_with (first | (refine gL (some 7) Tryz.func112 #[.slice A0 l0.length c0] (h := ?_); (with_reducible refine (nat_Print.calls k (fun k_ => k_ < w.heap.size) _ _ l0 t173 t174 _ ?side1 A2.out).mono ?_); (case side1 => exact Kd.V_mk HC0.out (Kd.F_below (Kd.C_F (Kd.heap_int .u32) HR0.out) pB)); rintro e w4 ⟨rfl, hb⟩; refine ⟨_, rfl, ?_⟩; replace HB := am (below_step pB hb); (try clear hb); (try clear hb2); (try clear hk); (try clear hi)))
  go_ret
  exact ⟨pE, pB⟩
 ·rw [if_neg c3] at H
  have c3b0 : ((l0.length : Int) == 0) = false := beq_eq_false_iff_ne.mpr c3
  have c3b1 : ((l0.length : Int) != 0) = true := bne_iff_ne.mpr c3
  have c3b2 : ¬ (l0 = []) := fun h_ => c3 (by rw [h_]; rfl)
  obtain rfl := Option.some.inj H
  go_enter Tryz.func110, Tryz.ntmps110
  go_wp2_with (first | (refine gL (some 7) Tryz.func112 #[.slice A0 l0.length c0] (h := ?_); (with_reducible refine (nat_Print.calls k (fun k_ => k_ < w.heap.size) _ _ l0 t173 t174 _ ?side1 A2.out).mono ?_); (case side1 => exact Kd.V_mk HC0.out (Kd.F_below (Kd.C_F (Kd.heap_int .u32) HR0.out) pB)); rintro e w5 ⟨rfl, hb⟩; refine ⟨_, rfl, ?_⟩; replace HB := am (below_step pB hb); (try clear hb); (try clear hb2); (try clear hk); (try clear hi)))
  go_ret
  exact ⟨pE, pB⟩
def dec_Check.j0 : Nat -> Bool -> Bool -> List Int -> Int -> Option (Int)
 | 0, _, _, _, _ => none
 | k + 1, x14, x176000, x176001, x176002 => if x14 = true then (some 9) else (if (x176001.length : Int) = 0 then (if x176000 = true then (some 9) else (if x176002 = 0 then (some 0) else (some 9))) else ((dec_ten.f k x176001).bind fun bt177 => (if bt177.2 = true then (some 9) else ((dec_digits.f k x176001).bind fun t181 => (if t181 > 300 then (some 9) else (if x176002 < (-1000) then (some 9) else (if x176002 > 1000 then (some 9) else (some 0))))))))
def dec_Check.f (k : Nat) (a0_0 : Bool) (l0_1 : List Int) (a0_2 : Int) : Option (Int) := (nat_Check.f l0_1).bind fun t176 => (if t176 = 0 then (dec_Check.j0 k (decide ((l0_1.length : Int) > 40)) a0_0 l0_1 a0_2) else (dec_Check.j0 k true a0_0 l0_1 a0_2))
theorem dec_Check.calls (k : Nat) (a0_0 : Bool) (A0_1 : Option Addr) (c0_1 : Nat) (l0_1 : List Int) (a0_2 : Int) (r : Int) (w : World) (hr0_1 : Kd.C (Kd.int .u32) w A0_1 l0_1.length l0_1) (hc0_1 : l0_1.length <= c0_1) (h : dec_Check.f k a0_0 l0_1 a0_2 = some r) :
  Calls Tryz.prog 55 #[.agg #[.bool a0_0, .slice A0_1 l0_1.length c0_1, .int .i64 a0_2]] w fun e w' => e = .returned (.int .i64 r) /\ Below w.heap.size w w' := by
 have hu24 := Tryz.underlying24
 have HR0_1 := am hr0_1
 have HC0_1 := am hc0_1
 clear hr0_1 hc0_1
 have HB := am (Below.refl w.heap.size w)
 have H : ((nat_Check.f l0_1).bind fun t176 => (if t176 = 0 then (dec_Check.j0 k (decide ((l0_1.length : Int) > 40)) a0_0 l0_1 a0_2) else (dec_Check.j0 k true a0_0 l0_1 a0_2))) = some r := h
 clear h
 have HC2 := am H
 clear H
 go_enter Tryz.func55, Tryz.ntmps55
 go_upto_region 1 with (first | ((with_reducible refine gate_dst (N := 1) rfl ?_); (try (refine gate_guard (by rfl) ?_; dsimp only)); refine box_event ?hg (N := 1) ?hd (cs := #[.bool a0_0, .slice A0_1 l0_1.length c0_1, .int .i64 a0_2]) (t := 24) ?hr ?_; (case hd => rfl); (case hg => rfl); (case hr => first | (go_simp; done) | (go_simp; rfl)); intro gb175 hg w3 hbox hb; have n0_ := am (below_step pB hb); have n1_ := am (hbox); have n2_ := am ((gw hg pB : w.heap.size <= gb175)); have n3_ := am ((gw hg pB : w.heap.size <= gb175)); clear HB; have HB := n0_; have BK175 := n1_; have GW175 := n2_; have GE175 := n3_; clear n0_ n1_ n2_ n3_ hb hbox hg))
 (try simp only [Act.put, List.setIfInBounds_toArray, List.set_cons_zero, List.set_cons_succ])
 go_cut [14] (fun v14 wc => ∃ (kq : Nat) (x14_1 : Bool), v14 = .bool x14_1 /\ Aside0 (dec_Check.j0 kq x14_1 a0_0 l0_1 a0_2 = some r) /\ Aside0 (kq <= k) /\ Aside0 (wc.heap[gb175]? = some (.cells #[.bool a0_0, (.slice A0_1 l0_1.length c0_1), .int .i64 a0_2] 24 (0, 0))) /\ Aside0 (Below w.heap.size w wc))
 case first =>
  have H := HC2.out
  clear HC2
  obtain ⟨t176, A4, H⟩ := ob H
  by_cases c5 : t176 = 0
  ·rw [if_pos c5] at H
   have c5b0 : (t176 == 0) = true := beq_iff_eq.mpr c5
   have c5b1 : (t176 != 0) = false := bne_eq_false_iff_eq.mpr c5
   clear c5
   (first | rw [c5b0] | (simp only [i64_w, i32_w]; rw [c5b0]) | skip)
   have H' := am H
   clear H
   obtain ⟨hcz6_0, hcz6_1, hcz6_2, hfz6_0, hfz6_1, hfz6_2⟩ := cEc BK175.out
   go_wp2_with (first | (refine gL (some 7) Tryz.func108 #[.slice A0_1 l0_1.length c0_1] (h := ?_); (with_reducible refine (nat_Check.calls _ _ l0_1 t176 _ ?side1 ?side2 A4.out).mono ?_); (case side1 => refine cp ?_; exact (Kd.C_below HR0_1.out HB.out)); (case side2 => exact HC0_1.out); rintro e w' ⟨rfl, ⟨nd, rfl⟩⟩; refine ⟨_, rfl, ?_⟩))
   go_meet
   case rel => exact ⟨_, (decide ((l0_1.length : Int) > 40)), (by first | rfl | (simp; done) | (simp [*]; done)), H', ⟨by first | omega | exact Nat.le_refl _⟩, ⟨blk_below BK175.out pl⟩, ⟨pB⟩⟩
  ·rw [if_neg c5] at H
   have c5b0 : (t176 == 0) = false := beq_eq_false_iff_ne.mpr c5
   have c5b1 : (t176 != 0) = true := bne_iff_ne.mpr c5
   (first | rw [c5b0] | (simp only [i64_w, i32_w]; rw [c5b0]) | skip)
   have H' := am H
   clear H
   obtain ⟨hcz7_0, hcz7_1, hcz7_2, hfz7_0, hfz7_1, hfz7_2⟩ := cEc BK175.out
   go_wp2_with (first | (refine gL (some 7) Tryz.func108 #[.slice A0_1 l0_1.length c0_1] (h := ?_); (with_reducible refine (nat_Check.calls _ _ l0_1 t176 _ ?side1 ?side2 A4.out).mono ?_); (case side1 => refine cp ?_; exact (Kd.C_below HR0_1.out HB.out)); (case side2 => exact HC0_1.out); rintro e w' ⟨rfl, ⟨nd, rfl⟩⟩; refine ⟨_, rfl, ?_⟩))
   go_meet
   case rel => exact ⟨_, (true), (by first | rfl | (simp; done) | (simp [*]; done)), H', ⟨by first | omega | exact Nat.le_refl _⟩, ⟨blk_below BK175.out pl⟩, ⟨pB⟩⟩
 case rest =>
  clear HC2
  obtain ⟨kq, x14_1, rfl, HA, HJ1, BK175, HB⟩ := hcut
  cases kq with
  | zero => exact absurd HA.out (by simp [dec_Check.j0])
  | succ kj1 =>
   have H := HA.out
   clear HA
   simp only [dec_Check.j0] at H
   by_cases c8 : x14_1 = true
   ·subst c8
    rw [if_pos rfl] at H
    obtain rfl := Option.some.inj H
    go_wp2
    go_ret
    exact ⟨pE, pB⟩
   ·replace c8 := Bool.eq_false_iff.mpr c8
    subst c8
    rw [if_neg (show ¬ (false = true) by decide)] at H
    by_cases c9 : (l0_1.length : Int) = 0
    ·rw [if_pos c9] at H
     have c9b0 : ((l0_1.length : Int) == 0) = true := beq_iff_eq.mpr c9
     have c9b1 : ((l0_1.length : Int) != 0) = false := bne_eq_false_iff_eq.mpr c9
     clear c9
     by_cases c10 : a0_0 = true
     ·subst c10
      rw [if_pos rfl] at H
      obtain rfl := Option.some.inj H
      obtain ⟨hcz11_0, hcz11_1, hcz11_2, hfz11_0, hfz11_1, hfz11_2⟩ := cEc BK175.out
      go_wp2
      go_ret
      exact ⟨pE, pB⟩
     ·replace c10 := Bool.eq_false_iff.mpr c10
      subst c10
      rw [if_neg (show ¬ (false = true) by decide)] at H
      by_cases c12 : a0_2 = 0
      ·rw [if_pos c12] at H
       have c12b0 : (a0_2 == 0) = true := beq_iff_eq.mpr c12
       have c12b1 : (a0_2 != 0) = false := bne_eq_false_iff_eq.mpr c12
       clear c12
       obtain rfl := Option.some.inj H
       obtain ⟨hcz13_0, hcz13_1, hcz13_2, hfz13_0, hfz13_1, hfz13_2⟩ := cEc BK175.out
       go_wp2
       go_ret
       exact ⟨pE, pB⟩
      ·rw [if_neg c12] at H
       have c12b0 : (a0_2 == 0) = false := beq_eq_false_iff_ne.mpr c12
       have c12b1 : (a0_2 != 0) = true := bne_iff_ne.mpr c12
       obtain rfl := Option.some.inj H
       obtain ⟨hcz14_0, hcz14_1, hcz14_2, hfz14_0, hfz14_1, hfz14_2⟩ := cEc BK175.out
       go_wp2
       go_ret
       exact ⟨pE, pB⟩
    ·rw [if_neg c9] at H
     have c9b0 : ((l0_1.length : Int) == 0) = false := beq_eq_false_iff_ne.mpr c9
     have c9b1 : ((l0_1.length : Int) != 0) = true := bne_iff_ne.mpr c9
     have c9b2 : ¬ (l0_1 = []) := fun h_ => c9 (by rw [h_]; rfl)
     obtain ⟨⟨t177, t178⟩, A15, H⟩ := ob H; (try dsimp only at H)
     by_cases c16 : t178 = true
     ·subst c16
      rw [if_pos rfl] at H
      obtain rfl := Option.some.inj H
      obtain ⟨hcz17_0, hcz17_1, hcz17_2, hfz17_0, hfz17_1, hfz17_2⟩ := cEc BK175.out
      go_wp2_with (first | (refine gL (some 29) Tryz.func109 #[.slice A0_1 l0_1.length c0_1] (h := ?_); (with_reducible refine (dec_ten.calls kj1 _ _ l0_1 t177 true _ ?side1 ?side2 A15.out).mono ?_); (case side1 => refine cp ?_; exact (Kd.C_below HR0_1.out HB.out)); (case side2 => exact HC0_1.out); rintro e w18 ⟨v179, rfl, ho0, hb⟩; refine ⟨_, rfl, ?_⟩; have HO180 := am (Kd.R_lower ho0 (below_size pB)); replace BK175 := am (blk_below (blk_below BK175.out pl) hb); replace HB := am (below_step pB hb); (try clear hb); (try clear hb2); (try clear hk); (try clear hi); (try clear ho0)))
      go_ret
      exact ⟨pE, pB⟩
     ·replace c16 := Bool.eq_false_iff.mpr c16
      subst c16
      rw [if_neg (show ¬ (false = true) by decide)] at H
      obtain ⟨t181, A19, H⟩ := ob H
      by_cases c20 : t181 > 300
      ·rw [if_pos c20] at H
       have c20b0 : decide (300 < t181) = true := decide_eq_true c20
       clear c20
       obtain rfl := Option.some.inj H
       obtain ⟨hcz21_0, hcz21_1, hcz21_2, hfz21_0, hfz21_1, hfz21_2⟩ := cEc BK175.out
       go_wp2_with (first | (refine gL (some 29) Tryz.func109 #[.slice A0_1 l0_1.length c0_1] (h := ?_); (with_reducible refine (dec_ten.calls kj1 _ _ l0_1 t177 false _ ?side1 ?side2 A15.out).mono ?_); (case side1 => refine cp ?_; exact (Kd.C_below HR0_1.out HB.out)); (case side2 => exact HC0_1.out); rintro e w22 ⟨v179, rfl, ho0, hb⟩; refine ⟨_, rfl, ?_⟩; have HO180 := am (Kd.R_lower ho0 (below_size pB)); replace BK175 := am (blk_below (blk_below BK175.out pl) hb); replace HB := am (below_step pB hb); (try clear hb); (try clear hb2); (try clear hk); (try clear hi); (try clear ho0); obtain ⟨hcz23_0, hcz23_1, hcz23_2, hfz23_0, hfz23_1, hfz23_2⟩ := cEc BK175.out) | (go_at_call 110; (with_reducible refine (dec_digits.calls kj1 _ _ l0_1 t181 _ ?side1 ?side2 A19.out).mono ?_); (case side1 => refine cp ?_; exact (Kd.C_below HR0_1.out HB.out)); (case side2 => exact HC0_1.out); rintro e w24 ⟨rfl, hb⟩; replace HO180 := am (Kd.R_below (Kd.R_below HO180.out pl) hb); replace BK175 := am (blk_below (blk_below BK175.out pl) hb); replace HB := am (below_step pB hb); (try clear hb); (try clear hb2); (try clear hk); (try clear hi)))
       go_ret
       exact ⟨pE, pB⟩
      ·rw [if_neg c20] at H
       have c20b0 : decide (300 < t181) = false := decide_eq_false c20
       clear c20
       by_cases c25 : a0_2 < (-1000)
       ·rw [if_pos c25] at H
        have c25b0 : decide (a0_2 < (-1000)) = true := decide_eq_true c25
        clear c25
        obtain rfl := Option.some.inj H
        obtain ⟨hcz26_0, hcz26_1, hcz26_2, hfz26_0, hfz26_1, hfz26_2⟩ := cEc BK175.out
        go_wp2_with (first | (refine gL (some 29) Tryz.func109 #[.slice A0_1 l0_1.length c0_1] (h := ?_); (with_reducible refine (dec_ten.calls kj1 _ _ l0_1 t177 false _ ?side1 ?side2 A15.out).mono ?_); (case side1 => refine cp ?_; exact (Kd.C_below HR0_1.out HB.out)); (case side2 => exact HC0_1.out); rintro e w27 ⟨v179, rfl, ho0, hb⟩; refine ⟨_, rfl, ?_⟩; have HO180 := am (Kd.R_lower ho0 (below_size pB)); replace BK175 := am (blk_below (blk_below BK175.out pl) hb); replace HB := am (below_step pB hb); (try clear hb); (try clear hb2); (try clear hk); (try clear hi); (try clear ho0); obtain ⟨hcz28_0, hcz28_1, hcz28_2, hfz28_0, hfz28_1, hfz28_2⟩ := cEc BK175.out) | (go_at_call 110; (with_reducible refine (dec_digits.calls kj1 _ _ l0_1 t181 _ ?side1 ?side2 A19.out).mono ?_); (case side1 => refine cp ?_; exact (Kd.C_below HR0_1.out HB.out)); (case side2 => exact HC0_1.out); rintro e w29 ⟨rfl, hb⟩; replace HO180 := am (Kd.R_below (Kd.R_below HO180.out pl) hb); replace BK175 := am (blk_below (blk_below BK175.out pl) hb); replace HB := am (below_step pB hb); (try clear hb); (try clear hb2); (try clear hk); (try clear hi); obtain ⟨hcz30_0, hcz30_1, hcz30_2, hfz30_0, hfz30_1, hfz30_2⟩ := cEc BK175.out))
        go_ret
        exact ⟨pE, pB⟩
       ·rw [if_neg c25] at H
        have c25b0 : decide (a0_2 < (-1000)) = false := decide_eq_false c25
        clear c25
        by_cases c31 : a0_2 > 1000
        ·rw [if_pos c31] at H
         have c31b0 : decide (1000 < a0_2) = true := decide_eq_true c31
         clear c31
         obtain rfl := Option.some.inj H
         obtain ⟨hcz32_0, hcz32_1, hcz32_2, hfz32_0, hfz32_1, hfz32_2⟩ := cEc BK175.out
         go_wp2_with (first | (refine gL (some 29) Tryz.func109 #[.slice A0_1 l0_1.length c0_1] (h := ?_); (with_reducible refine (dec_ten.calls kj1 _ _ l0_1 t177 false _ ?side1 ?side2 A15.out).mono ?_); (case side1 => refine cp ?_; exact (Kd.C_below HR0_1.out HB.out)); (case side2 => exact HC0_1.out); rintro e w33 ⟨v179, rfl, ho0, hb⟩; refine ⟨_, rfl, ?_⟩; have HO180 := am (Kd.R_lower ho0 (below_size pB)); replace BK175 := am (blk_below (blk_below BK175.out pl) hb); replace HB := am (below_step pB hb); (try clear hb); (try clear hb2); (try clear hk); (try clear hi); (try clear ho0); obtain ⟨hcz34_0, hcz34_1, hcz34_2, hfz34_0, hfz34_1, hfz34_2⟩ := cEc BK175.out) | (go_at_call 110; (with_reducible refine (dec_digits.calls kj1 _ _ l0_1 t181 _ ?side1 ?side2 A19.out).mono ?_); (case side1 => refine cp ?_; exact (Kd.C_below HR0_1.out HB.out)); (case side2 => exact HC0_1.out); rintro e w35 ⟨rfl, hb⟩; replace HO180 := am (Kd.R_below (Kd.R_below HO180.out pl) hb); replace BK175 := am (blk_below (blk_below BK175.out pl) hb); replace HB := am (below_step pB hb); (try clear hb); (try clear hb2); (try clear hk); (try clear hi); obtain ⟨hcz36_0, hcz36_1, hcz36_2, hfz36_0, hfz36_1, hfz36_2⟩ := cEc BK175.out))
         go_ret
         exact ⟨pE, pB⟩
        ·rw [if_neg c31] at H
         have c31b0 : decide (1000 < a0_2) = false := decide_eq_false c31
         clear c31
         obtain rfl := Option.some.inj H
         obtain ⟨hcz37_0, hcz37_1, hcz37_2, hfz37_0, hfz37_1, hfz37_2⟩ := cEc BK175.out
         go_wp2_with (first | (refine gL (some 29) Tryz.func109 #[.slice A0_1 l0_1.length c0_1] (h := ?_); (with_reducible refine (dec_ten.calls kj1 _ _ l0_1 t177 false _ ?side1 ?side2 A15.out).mono ?_); (case side1 => refine cp ?_; exact (Kd.C_below HR0_1.out HB.out)); (case side2 => exact HC0_1.out); rintro e w38 ⟨v179, rfl, ho0, hb⟩; refine ⟨_, rfl, ?_⟩; have HO180 := am (Kd.R_lower ho0 (below_size pB)); replace BK175 := am (blk_below (blk_below BK175.out pl) hb); replace HB := am (below_step pB hb); (try clear hb); (try clear hb2); (try clear hk); (try clear hi); (try clear ho0); obtain ⟨hcz39_0, hcz39_1, hcz39_2, hfz39_0, hfz39_1, hfz39_2⟩ := cEc BK175.out) | (go_at_call 110; (with_reducible refine (dec_digits.calls kj1 _ _ l0_1 t181 _ ?side1 ?side2 A19.out).mono ?_); (case side1 => refine cp ?_; exact (Kd.C_below HR0_1.out HB.out)); (case side2 => exact HC0_1.out); rintro e w40 ⟨rfl, hb⟩; replace HO180 := am (Kd.R_below (Kd.R_below HO180.out pl) hb); replace BK175 := am (blk_below (blk_below BK175.out pl) hb); replace HB := am (below_step pB hb); (try clear hb); (try clear hb2); (try clear hk); (try clear hi); obtain ⟨hcz41_0, hcz41_1, hcz41_2, hfz41_0, hfz41_1, hfz41_2⟩ := cEc BK175.out))
         go_ret
         exact ⟨pE, pB⟩
def dec_ask_1.f (k : Nat) (a0_0 : Bool) (l0_1 : List Int) (a0_2 : Int) : Option (Bool) := (dec_Check.f k a0_0 l0_1 a0_2).bind fun t183 => (some (t183 != 0))
theorem dec_ask_1.calls (k : Nat) (a0_0 : Bool) (A0_1 : Option Addr) (c0_1 : Nat) (l0_1 : List Int) (a0_2 : Int) (r : Bool) (w : World) (hr0_1 : Kd.C (Kd.int .u32) w A0_1 l0_1.length l0_1) (hc0_1 : l0_1.length <= c0_1) (h : dec_ask_1.f k a0_0 l0_1 a0_2 = some r) :
  Calls Tryz.prog 139 #[.agg #[.bool a0_0, .slice A0_1 l0_1.length c0_1, .int .i64 a0_2]] w fun e w' => e = .returned (.bool r) /\ Below w.heap.size w w' := by
 have hu24 := Tryz.underlying24
 have HR0_1 := am hr0_1
 have HC0_1 := am hc0_1
 clear hr0_1 hc0_1
 have HB := am (Below.refl w.heap.size w)
 have H : ((dec_Check.f k a0_0 l0_1 a0_2).bind fun t183 => (some (t183 != 0))) = some r := h
 clear h
 obtain ⟨t183, A2, H⟩ := ob H
 obtain rfl := Option.some.inj H
 go_enter Tryz.func139, Tryz.ntmps139
 go_wp2_with (first | ((with_reducible refine gate_dst (N := 1) rfl ?_); refine box_event ?hg (N := 1) ?hd (cs := #[.bool a0_0, .slice A0_1 l0_1.length c0_1, .int .i64 a0_2]) (t := 24) ?hr ?_; (case hd => rfl); (case hg => rfl); (case hr => first | (go_simp; done) | (go_simp; rfl)); intro gb182 hg w3 hbox hb; have n0_ := am (below_step pB hb); have n1_ := am (hbox); have n2_ := am ((gw hg pB : w.heap.size <= gb182)); have n3_ := am ((gw hg pB : w.heap.size <= gb182)); clear HB; have HB := n0_; have BK182 := n1_; have GW182 := n2_; have GE182 := n3_; clear n0_ n1_ n2_ n3_ hb hbox hg; obtain ⟨hcz4_0, hcz4_1, hcz4_2, hfz4_0, hfz4_1, hfz4_2⟩ := cEc BK182.out) | (refine gL (some 4) Tryz.func55 #[.agg #[.bool a0_0, .slice A0_1 l0_1.length c0_1, .int .i64 a0_2]] (h := ?_); (with_reducible refine (dec_Check.calls k a0_0 _ _ l0_1 a0_2 t183 _ ?side1 ?side2 A2.out).mono ?_); (case side1 => refine cp ?_; exact (Kd.C_below HR0_1.out HB.out)); (case side2 => exact HC0_1.out); rintro e w5 ⟨rfl, hb⟩; refine ⟨_, rfl, ?_⟩; replace BK182 := am (blk_below (blk_below BK182.out pl) hb); replace HB := am (below_step pB hb); (try clear hb); (try clear hb2); (try clear hk); (try clear hi)))
 go_ret
 exact ⟨pE, pB⟩
end YtjbjkmccfocikaaGreatDoor.B
end
section
namespace YtjbjkmccfocikaaGreatDoor.B
open Go.RowKit YtjbjkmccfocikaaGreatDoorW.PrintWords YtjbjkmccfocikaaGreatDoor.P
def dec_ask_any.f (k : Nat) (l : List S24) : Option Bool := anyO (fun x => dec_ask_1.f k x.f0 x.f1 x.f2) l
theorem dec_ask_any.index (k : Nat) (A0 : Option Addr) (c0 : Nat) (l0 : List S24) (b : Bool) (w : World) (hr0 : Kd.C k24 w A0 l0.length l0) (hc0 : l0.length <= c0) (h : dec_ask_any.f k l0 = some b) :
  Calls Tryz.prog 154 #[.slice A0 l0.length c0, .func (.func 139) #[] #[]] w fun e w' => IdxR b e /\ Below w.heap.size w w' := by
 have hm : l0.length <= 9223372036854775807 := Kd.C_max hr0
 have HR := Aside0.mk hr0
 have HC := Aside0.mk hc0
 unfold dec_ask_any.f at h
 have H0 := Aside0.mk h
 obtain ⟨n, hn⟩ : ∃ n, l0.length = n := ⟨_, rfl⟩
 rw [hn] at hm
 have HN := Aside0.mk hn
 clear h hr0 hc0
 rw [hn]
 clear hn
 go_enter Tryz.func154, Tryz.ntmps154
 go_wp2
 go_loopw [8] (fun i wr => ∃ k_ : Nat, k_ <= n /\ i = .int .i64 k_ /\ Aside0 (anyO (fun x => dec_ask_1.f k x.f0 x.f1 x.f2) (l0.drop k_) = some b) /\ Below w.heap.size w wr) (fun i _ => n - (intOf i).toNat)
 case atStart => exact ⟨0, Nat.zero_le _, rfl, ⟨H0.out⟩, Below.refl _ _⟩
 case round =>
  obtain ⟨q, hq, rfl, HP, hb⟩ := hrel
  by_cases hlt : q < n
  ·have hlt' : (q : Int) < (n : Int) := by omega
   have hdrop : l0.drop q = (l0.getD q z24) :: l0.drop (q + 1) := drop_any (by have := HN.out; omega)
   obtain ⟨x, hx⟩ : ∃ x, l0.getD q z24 = x := ⟨_, rfl⟩
   have h1 := HP.out
   rw [hdrop, hx] at h1
   obtain ⟨t, ht, h2⟩ := anyO_cons h1
   obtain ⟨ad, c, hA, _, hK, hcc⟩ := Kd.C_get HR.out z24 (q : Int) (by omega) (by have := HN.out; omega)
   have hx' : l0.getD (q : Int).toNat z24 = x := by rw [Int.toNat_natCast]; exact hx
   rw [hx'] at hK
   obtain ⟨A1, c1, rfl, hl1, hg1⟩ := k24_open hK
   have hcell0 := hcc 0 _ rfl
   have hcell1 := hcc 1 _ rfl
   have hcell2 := hcc 2 _ rfl
   obtain ⟨ad', c', hA', _, hK', hcc'⟩ := Kd.C_get HR.out z24 (0 : Int) (by omega) (by have := HN.out; omega)
   obtain ⟨_, _, rfl, _⟩ := k24_open hK'
   have hfirst := hcc' 0 _ rfl
   obtain rfl : ad = ad' := Option.some.inj (hA.symm.trans hA')
   subst hA
   obtain ⟨b_, o_, rfl⟩ := addr_any (show w.cell? ad = _ from hfirst)
   have hck0 : wr.cell? ⟨b_, o_ + q * 3, none⟩ = some (.bool x.f0) := by
    have h3 := pw_cell_below hb hcell0
    rw [add_any] at h3
    simpa [show k24.sz = 3 from rfl, Nat.add_assoc] using h3
   have hck1 : wr.cell? ⟨b_, o_ + q * 3 + 1, none⟩ = some (.slice A1 x.f1.length c1) := by
    have h3 := pw_cell_below hb hcell1
    rw [add_any] at h3
    simpa [show k24.sz = 3 from rfl, Nat.add_assoc] using h3
   have hck2 : wr.cell? ⟨b_, o_ + q * 3 + 2, none⟩ = some (.int .i64 x.f2) := by
    have h3 := pw_cell_below hb hcell2
    rw [add_any] at h3
    simpa [show k24.sz = 3 from rfl, Nat.add_assoc] using h3
   have hgw : Kd.C (Kd.int .u32) wr A1 x.f1.length x.f1 := Kd.C_below hg1 hb
   have cF := dec_ask_1.calls k x.f0 A1 c1 x.f1 x.f2 t wr hgw hl1 ht
   obtain ⟨y0, hy0⟩ : ∃ y, x.f0 = y := ⟨_, rfl⟩
   obtain ⟨y1, hy1⟩ : ∃ y, x.f1.length = y := ⟨_, rfl⟩
   obtain ⟨y2, hy2⟩ : ∃ y, x.f2 = y := ⟨_, rfl⟩
   rw [hy0] at hck0 cF
   rw [hy1] at hck1 cF
   rw [hy2] at hck2 cF
   have HF := Aside0.mk h2
   clear h1 hdrop hx hx' ht hcc hcell0 hcell1 hcell2 HP h2 hK hl1 hg1 hgw hy0 hy1 hy2 hfirst hcc' hA' hK'
   cases t with
   | true =>
    have HF1 := Aside0.mk (HF.out.1 rfl)
    clear HF
    go_wp2_with (go_at_call 139; refine (cF).mono ?_; rintro e w1 ⟨rfl, hb1⟩)
    go_ret
    exact ⟨idxR_at HF1.out q, hb.trans (hb1.mono hb.size)⟩
   | false =>
    have HF1 := Aside0.mk (HF.out.2 rfl)
    clear HF
    go_wp2_with (go_at_call 139; refine (cF).mono ?_; rintro e w1 ⟨rfl, hb1⟩)
    go_roundw
    case rel => exact ⟨q + 1, by omega, by go_num, HF1, hb.trans (hb1.mono hb.size)⟩
    case measure => simp [intOf]; omega
  ·obtain rfl : q = n := by omega
   have h1 := HP.out
   rw [List.drop_of_length_le (by have := HN.out; omega)] at h1
   have h2 := Aside0.mk (anyO_nil h1)
   clear h1
   go_wp2
   go_ret
   exact ⟨idxR_none h2.out, hb⟩
theorem dec_ask_any.calls (k : Nat) (A0 : Option Addr) (c0 : Nat) (l0 : List S24) (r : Bool) (w : World) (hr0 : Kd.C k24 w A0 l0.length l0) (hc0 : l0.length <= c0) (h : dec_ask_any.f k l0 = some r) :
  Calls Tryz.prog 123 #[.slice A0 l0.length c0, .func (.func 139) #[] #[]] w fun e w' => e = .returned (.bool r) /\ Below w.heap.size w w' := by
 have cI := dec_ask_any.index k A0 c0 l0 r w hr0 hc0 h
 clear h hr0 hc0
 go_enter Tryz.func123, Tryz.ntmps123
 go_wp2_with (go_at_call 154; refine cI.mono ?_; rintro e w1 ⟨⟨i, rfl, hi⟩, hb1⟩)
 go_ret
 exact ⟨by rw [<- hi]; first | rfl | simp, hb1⟩
end YtjbjkmccfocikaaGreatDoor.B
end
section
namespace YtjbjkmccfocikaaGreatDoor.B
open Go.RowKit YtjbjkmccfocikaaGreatDoorW.PrintWords YtjbjkmccfocikaaGreatDoorW.PrintLast YtjbjkmccfocikaaGreatDoorW.PrintMore
attribute [local go_sem] max2_int min2_int max_two min_two max_three min_three max_four min_four
def dec_ask.f (k : Nat) (l0 : List (S24)) : Option (Int) := (dec_ask_any.f k l0).bind fun t1464 => (if t1464 = true then (some 9) else (some 0))
theorem dec_ask.calls (k : Nat) (A0 : Option Addr) (c0 : Nat) (l0 : List (S24)) (r : Int) (w : World) (hr0 : Kd.C k24 w A0 l0.length l0) (hc0 : l0.length <= c0) (h : dec_ask.f k l0 = some r) :
  Calls Tryz.prog 99 #[.slice A0 l0.length c0] w fun e w' => e = .returned (.int .i64 r) /\ Below w.heap.size w w' := by
 have HR0 := am hr0
 have HC0 := am hc0
 clear hr0 hc0
 have HB := am (Below.refl w.heap.size w)
 have H : ((dec_ask_any.f k l0).bind fun t1464 => (if t1464 = true then (some 9) else (some 0))) = some r := h
 clear h
 obtain ⟨t1464, A2, H⟩ := ob H
 by_cases c3 : t1464 = true
 ·subst c3
  rw [if_pos rfl] at H
  obtain rfl := Option.some.inj H
  go_enter Tryz.func99, Tryz.ntmps99
  go_wp2_with (first | (refine gL (some 4) Tryz.func123 #[.slice A0 l0.length c0, .func (.func 139) #[] #[]] (h := ?_); (with_reducible refine (dec_ask_any.calls k _ _ l0 true _ ?side1 ?side2 A2.out).mono ?_); (case side1 => refine cp ?_; exact HR0.out); (case side2 => exact HC0.out); rintro e w4 ⟨rfl, hb⟩; refine ⟨_, rfl, ?_⟩; replace HB := am (below_step pB hb); (try clear hb); (try clear hb2); (try clear hk); (try clear hi)))
  go_ret
  exact ⟨pE, pB⟩
 ·replace c3 := Bool.eq_false_iff.mpr c3
  subst c3
  rw [if_neg (show ¬ (false = true) by decide)] at H
  obtain rfl := Option.some.inj H
  go_enter Tryz.func99, Tryz.ntmps99
  go_wp2_with (first | (refine gL (some 4) Tryz.func123 #[.slice A0 l0.length c0, .func (.func 139) #[] #[]] (h := ?_); (with_reducible refine (dec_ask_any.calls k _ _ l0 false _ ?side1 ?side2 A2.out).mono ?_); (case side1 => refine cp ?_; exact HR0.out); (case side2 => exact HC0.out); rintro e w5 ⟨rfl, hb⟩; refine ⟨_, rfl, ?_⟩; replace HB := am (below_step pB hb); (try clear hb); (try clear hb2); (try clear hk); (try clear hi)))
  go_ret
  exact ⟨pE, pB⟩
def dec_number_zero.f (a0_0 : Bool) (l0_1 : List Int) (a0_2 : Int) : Option (Bool) := some ((l0_1.length : Int) == 0)
theorem dec_number_zero.calls (a0_0 : Bool) (A0_1 : Option Addr) (c0_1 : Nat) (l0_1 : List Int) (a0_2 : Int) (r : Bool) (w : World) (hr0_1 : Kd.C (Kd.int .u32) w A0_1 l0_1.length l0_1) (hc0_1 : l0_1.length <= c0_1) (h : dec_number_zero.f a0_0 l0_1 a0_2 = some r) :
  Calls Tryz.prog 104 #[.agg #[.bool a0_0, .slice A0_1 l0_1.length c0_1, .int .i64 a0_2]] w fun e w' => e = .returned (.bool r) /\ Below w.heap.size w w' := by
 have hu106 := Tryz.underlying106
 have HR0_1 := am hr0_1
 have HC0_1 := am hc0_1
 clear hr0_1 hc0_1
 have HB := am (Below.refl w.heap.size w)
 have H : (some ((l0_1.length : Int) == 0)) = some r := h
 clear h
 obtain rfl := Option.some.inj H
 go_enter Tryz.func104, Tryz.ntmps104
 go_wp2_with (first | ((with_reducible refine gate_dst (N := 1) rfl ?_); refine box_event ?hg (N := 1) ?hd (cs := #[.bool a0_0, .slice A0_1 l0_1.length c0_1, .int .i64 a0_2]) (t := 106) ?hr ?_; (case hd => rfl); (case hg => rfl); (case hr => first | (go_simp; done) | (go_simp; rfl)); intro gb186 hg w2 hbox hb; have n0_ := am (below_step pB hb); have n1_ := am (hbox); have n2_ := am ((gw hg pB : w.heap.size <= gb186)); have n3_ := am ((gw hg pB : w.heap.size <= gb186)); clear HB; have HB := n0_; have BK186 := n1_; have GW186 := n2_; have GE186 := n3_; clear n0_ n1_ n2_ n3_ hb hbox hg; obtain ⟨hcz3_0, hcz3_1, hcz3_2, hfz3_0, hfz3_1, hfz3_2⟩ := cEc BK186.out))
 go_ret
 exact ⟨pE, pB⟩
def dec_must.f (l0 : List Int) (a1 : Int) : Option (List Int) := some l0
theorem dec_must.calls (P0_ : Nat -> Prop) (u9000_ : Value) (l0 : List Int) (a1 : Int) (r : List Int) (w0 w : World) (hB : Below w0.heap.size w0 w) (ho0 : Kd.R (Kd.int .u32) 85 w w0.heap.size P0_ u9000_ l0) (h : dec_must.f l0 a1 = some r) :
  Calls Tryz.prog 105 #[u9000_, .int .i64 a1] w fun e w' => ∃ v0_ : Value, e = .returned (v0_) /\ Kd.R (Kd.int .u32) 85 w' w0.heap.size (fun k_ => (P0_ k_ \/ w.heap.size <= k_)) v0_ r /\ Below w0.heap.size w0 w' /\ Kept w w' (fun k_ => P0_ k_) := by
 have HO0 := am (show Kd.R (Kd.int .u32) 85 w w0.heap.size (fun k_ => (P0_ k_ \/ w.heap.size <= k_)) u9000_ l0 from Kd.R_mono ho0 (fun k_ hk => (.inl hk)))
 have HK := am (Kept.refl w (fun k_ => P0_ k_))
 have HW0 := am hB.size
 have HB := am hB
 clear hB
 have H : (some l0) = some r := h
 clear h
 obtain rfl := Option.some.inj H
 go_enter Tryz.func105, Tryz.ntmps105
 go_wp2
 go_ret
 exact ⟨_, pE, by refine rp ?_; exact HO0.out, pB, by repeat (first | (with_reducible first | exact HK.out | apply Kept.alloc | apply Kept.drewN | apply Kept.drew) | exact HK.out)⟩
def dec_number_down.j0 : Nat -> Int -> Bool -> Bool -> List Int -> Int -> Option (Bool × List Int × Int)
 | 0, _, _, _, _, _ => none
 | k + 1, x1, x13, x1466000, x1466001, x1466002 => if x13 = true then (some (x1466000, x1466001, x1)) else ((nat_Pow.f k (wrap64 (x1466002 - x1))).bind fun bt1468 => ((dec_must.f bt1468.1 bt1468.2).bind fun t1472 => ((nat_Mul.f k x1466001 t1472).bind fun bt1475 => ((dec_must.f bt1475.1 bt1475.2).bind fun t1479 => (some (x1466000, t1479, x1))))))
def dec_number_down.f (k : Nat) (a0_0 : Bool) (l0_1 : List Int) (a0_2 : Int) (a1 : Int) : Option (Bool × List Int × Int) := (dec_number_zero.f a0_0 l0_1 a0_2).bind fun t1467 => (if t1467 = true then (dec_number_down.j0 k a1 true a0_0 l0_1 a0_2) else (dec_number_down.j0 k a1 (a0_2 == a1) a0_0 l0_1 a0_2))
def dec_number_down.T4 : Bool × List (List Nat × List Nat) := (true, [([], []), ([0], [0]), ([1], [1]), ([], []), ([3], [3]), ([4], [4]), ([], []), ([5, 6], [5, 6]), ([7], [7]), ([8], [8]), ([8], [8]), ([9, 10, 8], [9, 10]), ([2, 11, 11], [2, 11]), ([12], [12]), ([12], [12]), ([13, 14, 12], [13, 14]), ([], []), ([0, 1, 2, 3, 4, 5, 6, 7, 8, 9, 10, 11, 12, 13, 14, 15], []), ([17, 0, 1, 2, 3, 4, 5, 6, 7, 8, 9, 10, 11, 12, 13, 14, 15], [17]), ([18, 15, 15, 0, 1, 2, 3, 4, 5, 6, 7, 8, 9, 10, 11, 12, 13, 14, 15], [15, 18]), ([0, 1, 2, 3, 4, 5, 6, 7, 8, 9, 10, 11, 12, 13, 14, 15, 16, 17, 18, 19], []), ([20, 0, 1, 2, 3, 4, 5, 6, 7, 8, 9, 10, 11, 12, 13, 14, 15, 16, 17, 18, 19], [20]), ([21, 16, 19, 0, 1, 2, 3, 4, 5, 6, 7, 8, 9, 10, 11, 12, 13, 14, 15, 16, 17, 18, 19], [16, 21])])
def dec_number_down.B4 : List Nat := [0, 1, 3, 0, 8, 24, 0, 120, 248, 504, 504, 2040, 4095, 8191, 8191, 32767, 0, 65535, 196607, 458751, 1048575, 2097151, 4194303]
theorem dec_number_down.tab4 : rtab .any (opsOf Tryz.f106 4) = dec_number_down.T4 := by kernel_rfl
theorem dec_number_down.bits4 : waitsOk dec_number_down.T4.2 dec_number_down.B4 = true := by kernel_rfl
theorem dec_number_down.calls (k : Nat) (a0_0 : Bool) (P0_1_ : Nat -> Prop) (A0_1 : Option Addr) (c0_1 : Nat) (l0_1 : List Int) (a0_2 : Int) (a1 : Int) (r1 : Bool) (r2 : List Int) (r3 : Int) (w : World) (hs0_1 : Kd.V (Kd.int .u32) 85 w w.heap.size (fun k_ => P0_1_ k_) (.slice A0_1 l0_1.length c0_1) l0_1) (h : dec_number_down.f k a0_0 l0_1 a0_2 a1 = some (r1, r2, r3)) :
  Calls Tryz.prog 106 #[.agg #[.bool a0_0, .slice A0_1 l0_1.length c0_1, .int .i64 a0_2], .int .i64 a1] w fun e w' => ∃ v1_ : Value, e = .returned (.agg #[.bool r1, v1_, .int .i64 r3]) /\ Kd.V (Kd.int .u32) 85 w' w.heap.size (fun k_ => (P0_1_ k_ \/ w.heap.size <= k_)) v1_ r2 /\ Below w.heap.size w w' := by
 have hu106 := Tryz.underlying106
 have HO0_1 := am (show Kd.V (Kd.int .u32) 85 w w.heap.size (fun k_ => (P0_1_ k_ \/ w.heap.size <= k_)) (.slice A0_1 l0_1.length c0_1) l0_1 from Kd.V_mono hs0_1 (fun k_ hk => .inl hk))
 have HB := am (Below.refl w.heap.size w)
 have H : ((dec_number_zero.f a0_0 l0_1 a0_2).bind fun t1467 => (if t1467 = true then (dec_number_down.j0 k a1 true a0_0 l0_1 a0_2) else (dec_number_down.j0 k a1 (a0_2 == a1) a0_0 l0_1 a0_2))) = some (r1, r2, r3) := h
 clear h
 have HC3 := am H
 clear H
 go_enter Tryz.func106, Tryz.ntmps106
 go_upto_region 1 with (first | ((with_reducible refine gate_dst (N := 2) rfl ?_); refine box_event ?hg (N := 2) ?hd (cs := #[.bool a0_0, .slice A0_1 l0_1.length c0_1, .int .i64 a0_2]) (t := 106) ?hr ?_; (case hd => rfl); (case hg => rfl); (case hr => first | (go_simp; done) | (go_simp; rfl)); intro gb1465 hg w4 hbox hb; have n0_ := am (Kd.V_below (Kd.V_elderB (Kd.V_below HO0_1.out pl) gb1465 (Nat.le_of_eq hg.symm)) hb); have n1_ := am (below_step pB hb); have n2_ := am (hbox); have n3_ := am ((gw hg pB : w.heap.size <= gb1465)); have n4_ := am ((gw hg pB : w.heap.size <= gb1465)); clear HO0_1 HB; have HO0_1 := n0_; have HB := n1_; have BK1465 := n2_; have GW1465 := n3_; have GE1465 := n4_; clear n0_ n1_ n2_ n3_ n4_ hb hbox hg) | ((with_reducible refine gate_dst (N := 4) rfl ?_); refine box_event ?hg (N := 4) ?hd (cs := #[.bool false, .slice none 0 0, .int .i64 0]) (t := 106) ?hr ?_; (case hd => rfl); (case hg => rfl); (case hr => first | (go_simp; done) | (go_simp; rfl)); intro gb1466 hg w5 hbox hb; have n0_ := am (Kd.V_below (Kd.V_elderB (Kd.V_below HO0_1.out pl) gb1466 (Nat.le_of_eq hg.symm)) hb); have n1_ := am (blk_below (blk_below BK1465.out pl) hb); have n2_ := am (below_step pB hb); have n3_ := am (hbox); have n4_ := am ((gw hg pB : w.heap.size <= gb1466)); have n5_ := am ((gw hg pB : w.heap.size <= gb1466)); have n6_ := am ((nl hg (blk_below BK1465.out pl) : gb1465 ≠ gb1466)); have n7_ := am ((ng hg (blk_below BK1465.out pl) : gb1466 ≠ gb1465)); clear HO0_1 BK1465 HB; have HO0_1 := n0_; have BK1465 := n1_; have HB := n2_; have BK1466 := n3_; have GW1466 := n4_; have GE1466 := n5_; have NB1465_1466 := n6_; have NB1466_1465 := n7_; clear n0_ n1_ n2_ n3_ n4_ n5_ n6_ n7_ hb hbox hg))
 (try simp only [Act.put, List.setIfInBounds_toArray, List.set_cons_zero, List.set_cons_succ])
 go_cut [13] (fun v13 wc => ∃ (kq : Nat) (x13_2 : Bool), v13 = .bool x13_2 /\ Aside0 (dec_number_down.j0 kq a1 x13_2 a0_0 l0_1 a0_2 = some (r1, r2, r3)) /\ Aside0 (kq <= k) /\ Aside0 (Kd.V (Kd.int .u32) 85 wc w.heap.size (fun k_ => (P0_1_ k_ \/ w.heap.size <= k_) /\ k_ ≠ gb1465 /\ k_ ≠ gb1466) (.slice A0_1 l0_1.length c0_1) l0_1) /\ Aside0 (wc.heap[gb1465]? = some (.cells #[.bool a0_0, (.slice A0_1 l0_1.length c0_1), .int .i64 a0_2] 106 (0, 0))) /\ Aside0 (wc.heap[gb1466]? = some (.cells #[.bool false, (.slice none 0 0), .int .i64 0] 106 (0, 0))) /\ Aside0 (Below w.heap.size w wc))
 case first =>
  have H := HC3.out
  clear HC3
  obtain ⟨t1467, A6, H⟩ := ob H
  by_cases c7 : t1467 = true
  ·subst c7
   rw [if_pos rfl] at H
   have H' := am H
   clear H
   have hnb8 := NB1465_1466.out
   have hnc8 := NB1466_1465.out
   obtain ⟨hcz9_0, hcz9_1, hcz9_2, hfz9_0, hfz9_1, hfz9_2⟩ := cEc BK1465.out
   go_wp2_with (first | (refine gL (some 6) Tryz.func104 #[.agg #[.bool a0_0, .slice A0_1 l0_1.length c0_1, .int .i64 a0_2]] (h := ?_); (with_reducible refine (dec_number_zero.calls a0_0 _ _ l0_1 a0_2 true _ ?side1 ?side2 A6.out).mono ?_); (case side1 => exact Kd.C_below (Kd.V_reads' HO0_1.out).2.2 pl); (case side2 => exact (Kd.V_reads' HO0_1.out).2.1); rintro e w10 ⟨rfl, hb⟩; refine ⟨_, rfl, ?_⟩; replace HO0_1 := am (Kd.V_below (Kd.V_below HO0_1.out pl) hb); replace BK1465 := am (blk_below (blk_below BK1465.out pl) hb); replace BK1466 := am (blk_below (blk_below BK1466.out pl) hb); replace HB := am (below_step pB hb); (try clear hb); (try clear hb2); (try clear hk); (try clear hi)))
   go_meet
   case rel => exact ⟨_, (true), (by first | rfl | (simp; done) | (simp [*]; done)), H', ⟨by first | omega | exact Nat.le_refl _⟩, ⟨by refine vp ?_; exact Kd.V_mono HO0_1.out (fun _ hk => ⟨hk.1.1, ⟨hk.1.2, hk.2⟩⟩)⟩, ⟨blk_below BK1465.out pl⟩, ⟨blk_below BK1466.out pl⟩, ⟨pB⟩⟩
  ·replace c7 := Bool.eq_false_iff.mpr c7
   subst c7
   rw [if_neg (show ¬ (false = true) by decide)] at H
   have H' := am H
   clear H
   have hnb11 := NB1465_1466.out
   have hnc11 := NB1466_1465.out
   obtain ⟨hcz12_0, hcz12_1, hcz12_2, hfz12_0, hfz12_1, hfz12_2⟩ := cEc BK1465.out
   go_wp2_with (first | (refine gL (some 6) Tryz.func104 #[.agg #[.bool a0_0, .slice A0_1 l0_1.length c0_1, .int .i64 a0_2]] (h := ?_); (with_reducible refine (dec_number_zero.calls a0_0 _ _ l0_1 a0_2 false _ ?side1 ?side2 A6.out).mono ?_); (case side1 => exact Kd.C_below (Kd.V_reads' HO0_1.out).2.2 pl); (case side2 => exact (Kd.V_reads' HO0_1.out).2.1); rintro e w13 ⟨rfl, hb⟩; refine ⟨_, rfl, ?_⟩; replace HO0_1 := am (Kd.V_below (Kd.V_below HO0_1.out pl) hb); replace BK1465 := am (blk_below (blk_below BK1465.out pl) hb); replace BK1466 := am (blk_below (blk_below BK1466.out pl) hb); replace HB := am (below_step pB hb); (try clear hb); (try clear hb2); (try clear hk); (try clear hi); obtain ⟨hcz14_0, hcz14_1, hcz14_2, hfz14_0, hfz14_1, hfz14_2⟩ := cEc BK1465.out))
   go_meet
   case rel => exact ⟨_, ((a0_2 == a1)), (by first | rfl | (simp; done) | (simp [*]; done)), H', ⟨by first | omega | exact Nat.le_refl _⟩, ⟨by refine vp ?_; exact Kd.V_mono HO0_1.out (fun _ hk => ⟨hk.1.1, ⟨hk.1.2, hk.2⟩⟩)⟩, ⟨blk_below BK1465.out pl⟩, ⟨blk_below BK1466.out pl⟩, ⟨pB⟩⟩
 case rest =>
  clear HC3
  obtain ⟨kq, x13_2, rfl, HA, HJ2, HO_1466001, BK1465, BK1466, HB⟩ := hcut
  cases kq with
  | zero => exact absurd HA.out (by simp [dec_number_down.j0])
  | succ kj2 =>
   have H := HA.out
   clear HA
   simp only [dec_number_down.j0] at H
   by_cases c15 : x13_2 = true
   ·subst c15
    rw [if_pos rfl] at H
    simp only [Option.some.injEq, Prod.mk.injEq] at H
    obtain ⟨rfl, rfl, rfl⟩ := H
    have hnb16 := NB1465_1466.out
    have hnc16 := NB1466_1465.out
    obtain ⟨hcz17_0, hcz17_1, hcz17_2, hfz17_0, hfz17_1, hfz17_2⟩ := cEc BK1465.out
    obtain ⟨hcz18_0, hcz18_1, hcz18_2, hfz18_0, hfz18_1, hfz18_2⟩ := cEc BK1466.out
    go_wp2
    refine bodyPost_ret (results_cell_row rfl _ _ gb1466 106 #[.bool a0_0, .slice A0_1 l0_1.length c0_1, .int .i64 a1] (0, 0) _ rfl (by refine bp ?_; refine blk_put (cs := #[.bool a0_0, .slice A0_1 l0_1.length c0_1, .int .i64 0]) ?_ 2 _ rfl; refine bp ?_; refine blk_put (cs := #[.bool a0_0, .slice none 0 0, .int .i64 0]) ?_ 1 _ rfl; refine bp ?_; refine blk_put (cs := #[.bool false, .slice none 0 0, .int .i64 0]) ?_ 0 _ rfl; refine bp ?_; refine blk_far ?_ NB1466_1465.out _; exact bp BK1466.out) Tryz.underlying106 rfl (by kernel_rfl)) rfl ?_
    exact ⟨_, pE, by refine vp ?_; exact Kd.V_mono (Kd.V_far (p := ⟨gb1466, 2, none⟩) (Kd.V_far (p := ⟨gb1466, 1, none⟩) (Kd.V_far (p := ⟨gb1466, 0, none⟩) (Kd.V_far (p := ⟨gb1465, 2, none⟩) (Kd.V_mono (Kd.V_mono HO_1466001.out (fun k_ hk => (⟨hk, hk.2.1⟩ : _ /\ k_ ≠ gb1465))) (fun k_ hk => (⟨hk, hk.1.2.2⟩ : _ /\ k_ ≠ gb1466))) (fun _ hk => hk.1.2) (.int .i64 a1)) (fun _ hk => hk.2) (.bool a0_0)) (fun _ hk => hk.2) (.slice A0_1 l0_1.length c0_1)) (fun _ hk => hk.2) (.int .i64 a1)) (fun _ hk => hk.1.1.1), pB⟩
   ·replace c15 := Bool.eq_false_iff.mpr c15
    subst c15
    rw [if_neg (show ¬ (false = true) by decide)] at H
    obtain ⟨⟨t1468, t1469⟩, A19, H⟩ := ob H; (try dsimp only at H)
    obtain ⟨t1472, A20, H⟩ := ob H
    obtain ⟨⟨t1475, t1476⟩, A21, H⟩ := ob H; (try dsimp only at H)
    obtain ⟨t1479, A22, H⟩ := ob H
    simp only [Option.some.injEq, Prod.mk.injEq] at H
    obtain ⟨rfl, rfl, rfl⟩ := H
    try go_wp2
    replace HO_1466001 := am (Kd.V_drew HO_1466001.out)
    replace BK1465 := am (blk_drew BK1465.out)
    replace BK1466 := am (blk_drew BK1466.out)
    replace HB := am (below_drew1 HB.out)
    refine start_ (n := 23) (S := fun w' => w'.cell? ⟨gb1465, 0, none⟩ = some (.bool a0_0) /\ w'.cell? ⟨gb1465, 1, none⟩ = some (.slice A0_1 l0_1.length c0_1) /\ w'.cell? ⟨gb1465, 2, none⟩ = some (.int .i64 a0_2)) (ds := [19, 22]) #[false, false, false, false, false, false, false, false, false, false, false, false, false, false, false, false, false, false, false, false, false, false, false] (by kernel_rfl) rfl rfl ⟨(blk_cell BK1465.out 0).trans rfl, (blk_cell BK1465.out 1).trans rfl, (blk_cell BK1465.out 2).trans rfl⟩ (fun hHeld => ?_); refine with_tabW dec_number_down.tab4 dec_number_down.bits4 (fun HT_ HW_ => ?_)
    generalize wc.drew = w23 at HO_1466001 BK1465 BK1466 HB hHeld ⊢
    refine pu 0 (some 18) #[true, false, false, false, false, false, false, false, false, false, false, false, false, false, false, false, false, false, false, false, false, false, false] (h := ?_)
    refine pu 1 (some 19) #[true, true, false, false, false, false, false, false, false, false, false, false, false, false, false, false, false, false, false, false, false, false, false] (h := ?_)
    refine pu 3 (some 21) #[true, true, false, true, false, false, false, false, false, false, false, false, false, false, false, false, false, false, false, false, false, false, false] (h := ?_)
    refine pu 4 (some 22) #[true, true, false, true, true, false, false, false, false, false, false, false, false, false, false, false, false, false, false, false, false, false, false] (h := ?_)
    refine pu 6 (some 24) #[true, true, false, true, true, false, true, false, false, false, false, false, false, false, false, false, false, false, false, false, false, false, false] (h := ?_)
    refine pu 16 (some 34) #[true, true, false, true, true, false, true, false, false, false, false, false, false, false, false, false, true, false, false, false, false, false, false] (h := ?_)
    refine take_ (i := 2) (N := some 20) (v := ?_) (a' := ?_) #[true, true, true, true, true, false, true, false, false, false, false, false, false, false, false, false, true, false, false, false, false, false, false] rfl rfl (take_ofW HT_.out HW_.out (by kernel_rfl)) (fun _ _ _ h => h) (Or.inl ⟨by rfl, ?_⟩) hHeld ?_ ?_
    rotate_left
    ·rintro w' ⟨s0, s1, s2⟩
     go_simp
     with_reducible rfl
    rotate_left
    ·simp only [Act.put, List.setIfInBounds_toArray, List.set_cons_zero, List.set_cons_succ, i64_w, i32_w]
     rfl
    refine take_ (i := 5) (N := some 23) (v := ?_) (a' := ?_) #[true, true, true, true, true, true, true, false, false, false, false, false, false, false, false, false, true, false, false, false, false, false, false] rfl rfl (take_ofW HT_.out HW_.out (by kernel_rfl)) (fun _ _ _ h => h) (Or.inl ⟨by rfl, ?_⟩) hHeld ?_ ?_
    rotate_left
    ·rintro w' ⟨s0, s1, s2⟩
     go_simp
     with_reducible rfl
    rotate_left
    ·simp only [Act.put, List.setIfInBounds_toArray, List.set_cons_zero, List.set_cons_succ, i64_w, i32_w]
     rfl
    refine pu 7 (some 25) #[true, true, true, true, true, true, true, true, false, false, false, false, false, false, false, false, true, false, false, false, false, false, false] (h := ?_)
    refine one_ (i := 8) (N := some 26) #[true, true, true, true, true, true, true, true, true, false, false, false, false, false, false, false, true, false, false, false, false, false, false] rfl rfl (one_of HT_.out (by kernel_rfl)) (by decide) (fun K hK => ?_)
    refine goes_ Tryz.func130 (by kernel_rfl) rfl #[.int .i64 (wrap64 (a0_2 - a1))] (by rfl) rfl rfl pA ?_
    with_reducible refine (nat_Pow.calls kj2 (wrap64 (a0_2 - a1)) t1468 t1469 _ A19.out).mono ?_
    rintro e w24 ⟨v1470, rfl, ho0, hb⟩
    refine ⟨_, rfl, ?_⟩
    replace HO_1466001 := am (Kd.V_elder' (Kd.V_below HO_1466001.out pl) (Kd.R_base ho0) hb)
    have HO1471 := am (Kd.R_lower (Kd.R_newM (M := fun k_ => (w.heap.size <= k_)) ho0 (below_size pB) (fun k_ h_ => h_)) (below_size pB))
    replace BK1465 := am (blk_below (blk_below BK1465.out pl) hb)
    replace BK1466 := am (blk_below (blk_below BK1466.out pl) hb)
    replace HB := am (below_step pB hb)
    (try clear hb); (try clear hk); (try clear ho0)
    obtain ⟨Ao25, co25, eo25⟩ := Kd.R_slice HO1471.out
    (first | subst eo25 | (injection eo25 with f1_ f2_ f3_; have f4_ := f1_.symm; have f5_ := f3_.symm; clear f1_ f2_ f3_; subst f4_; subst f5_))
    refine hK.out _ _ ⟨(blk_cell BK1465.out 0).trans rfl, (blk_cell BK1465.out 1).trans rfl, (blk_cell BK1465.out 2).trans rfl⟩ (fun hHeld => ?_)
    clear hK K
    refine norm_ (a' := ?_) ?_ ?_
    rotate_left
    ·show Act.put _ (some 26) _ = _
     simp only [Act.put, List.setIfInBounds_toArray, List.set_cons_zero, List.set_cons_succ, i64_w, i32_w]
     rfl
    refine pu 9 (some 27) #[true, true, true, true, true, true, true, true, true, true, false, false, false, false, false, false, true, false, false, false, false, false, false] (h := ?_)
    refine pu 10 (some 28) #[true, true, true, true, true, true, true, true, true, true, true, false, false, false, false, false, true, false, false, false, false, false, false] (h := ?_)
    refine one_ (i := 11) (N := some 29) #[true, true, true, true, true, true, true, true, true, true, true, true, false, false, false, false, true, false, false, false, false, false, false] rfl rfl (one_of HT_.out (by kernel_rfl)) (by decide) (fun K hK => ?_)
    refine goes_ Tryz.func105 (by kernel_rfl) rfl #[.slice Ao25 t1468.length co25, .int .i64 t1469] (by rfl) rfl rfl pA ?_
    with_reducible refine (dec_must.calls (fun k_ => some k_ = (.slice Ao25 t1468.length co25 : Value).ownBlock) (.slice Ao25 t1468.length co25) t1468 t1469 t1472 w _ ?side1 ?side2 A20.out).mono ?_
    (case side1 => exact pB)
    (case side2 => exact Kd.R_tight rfl HO1471.out)
    rintro e w26 ⟨v1473, rfl, ho0, hb, hkp⟩
    refine ⟨_, rfl, ?_⟩
    have n0_ := am (Kd.V_mono (ok' := fun k_ => (P0_1_ k_ \/ w.heap.size <= k_) /\ k_ ≠ gb1465 /\ k_ ≠ gb1466 /\ some k_ ≠ (v1473 : Value).ownBlock) (Kd.V_keptB (HO_1466001.out) hkp (fun k_ hk_ hs_ => (hk_.2) hs_)) (fun k_ hk_ => ⟨hk_.1.1.1, hk_.1.1.2.1, hk_.1.1.2.2, fun e_ => Or.elim (ho0.1 k_ e_.symm) (fun hs_ => hk_.2.1 hs_) (fun hn_ => Nat.not_le.2 hk_.2.2 hn_)⟩))
    have n1_ := am (blk_kept (blk_below BK1465.out pl) hkp (fun hs_ => (fun e_ => (Kd.R_ne HO1471.out BK1465.out (by decide)) e_) hs_))
    have n2_ := am (blk_kept (blk_below BK1466.out pl) hkp (fun hs_ => (fun e_ => (Kd.R_ne HO1471.out BK1466.out (by decide)) e_) hs_))
    have n3_ := am (Kd.R_mono (ok' := fun k_ => (w.heap.size <= k_)) ho0 (fun k_ hk_ => Or.elim hk_ (fun hs_ => (HO1471.out.1 k_ (hs_).symm).1) (fun hn_ => (Nat.le_trans (below_size pB) hn_))))
    have n4_ := am (hb)
    clear HO_1466001 BK1465 BK1466 HB HO1471
    have HO_1466001 := n0_
    have BK1465 := n1_
    have BK1466 := n2_
    have HO1474 := n3_
    have HB := n4_
    clear n0_ n1_ n2_ n3_ n4_
    (try clear hb); (try clear hkp); (try clear ho0)
    obtain ⟨Ao27, co27, eo27⟩ := Kd.R_slice HO1474.out
    (first | subst eo27 | (injection eo27 with f1_ f2_ f3_; have f4_ := f1_.symm; have f5_ := f3_.symm; clear f1_ f2_ f3_; subst f4_; subst f5_))
    refine hK.out _ _ ⟨(blk_cell BK1465.out 0).trans rfl, (blk_cell BK1465.out 1).trans rfl, (blk_cell BK1465.out 2).trans rfl⟩ (fun hHeld => ?_)
    clear hK K
    refine norm_ (a' := ?_) ?_ ?_
    rotate_left
    ·show Act.put _ (some 29) _ = _
     simp only [Act.put, List.setIfInBounds_toArray, List.set_cons_zero, List.set_cons_succ, i64_w, i32_w]
     rfl
    refine one_ (i := 12) (N := some 30) #[true, true, true, true, true, true, true, true, true, true, true, true, true, false, false, false, true, false, false, false, false, false, false] rfl rfl (one_of HT_.out (by kernel_rfl)) (by decide) (fun K hK => ?_)
    refine goes_ Tryz.func71 (by kernel_rfl) rfl #[.slice A0_1 l0_1.length c0_1, .slice Ao27 t1472.length co27] (by rfl) rfl rfl pA ?_
    with_reducible refine (nat_Mul.calls kj2 _ _ l0_1 _ _ t1472 t1475 t1476 _ ?side1 ?side2 ?side3 ?side4 A21.out).mono ?_
    (case side1 => exact Kd.C_below (Kd.V_reads' HO_1466001.out).2.2 pl)
    (case side2 => exact (Kd.V_reads' HO_1466001.out).2.1)
    (case side3 => exact Kd.C_below (Kd.R_reads' HO1474.out).2.2 pl)
    (case side4 => exact (Kd.R_reads' HO1474.out).2.1)
    rintro e w28 ⟨v1477, rfl, ho0, hb⟩
    refine ⟨_, rfl, ?_⟩
    have n0_ := am (Kd.V_elder' (Kd.V_below HO_1466001.out pl) (Kd.R_base ho0) hb)
    have n1_ := am (Kd.R_elder' (Kd.R_below HO1474.out pl) (Kd.R_base ho0) hb)
    have n2_ := am (Kd.R_lower (Kd.R_new' (Kd.R_newM (M := fun k_ => (w.heap.size <= k_)) ho0 (below_size pB) (fun k_ h_ => h_)) (Kd.R_lt (Kd.R_below HO1474.out pl))) (below_size pB))
    have n3_ := am (blk_below (blk_below BK1465.out pl) hb)
    have n4_ := am (blk_below (blk_below BK1466.out pl) hb)
    have n5_ := am (below_step pB hb)
    clear HO_1466001 HO1474 BK1465 BK1466 HB
    have HO_1466001 := n0_
    have HO1474 := n1_
    have HO1478 := n2_
    have BK1465 := n3_
    have BK1466 := n4_
    have HB := n5_
    clear n0_ n1_ n2_ n3_ n4_ n5_
    (try clear hb); (try clear hk); (try clear ho0)
    obtain ⟨Ao29, co29, eo29⟩ := Kd.R_slice HO1478.out
    (first | subst eo29 | (injection eo29 with f1_ f2_ f3_; have f4_ := f1_.symm; have f5_ := f3_.symm; clear f1_ f2_ f3_; subst f4_; subst f5_))
    refine hK.out _ _ ⟨(blk_cell BK1465.out 0).trans rfl, (blk_cell BK1465.out 1).trans rfl, (blk_cell BK1465.out 2).trans rfl⟩ (fun hHeld => ?_)
    clear hK K
    refine norm_ (a' := ?_) ?_ ?_
    rotate_left
    ·show Act.put _ (some 30) _ = _
     simp only [Act.put, List.setIfInBounds_toArray, List.set_cons_zero, List.set_cons_succ, i64_w, i32_w]
     rfl
    refine pu 13 (some 31) #[true, true, true, true, true, true, true, true, true, true, true, true, true, true, false, false, true, false, false, false, false, false, false] (h := ?_)
    refine pu 14 (some 32) #[true, true, true, true, true, true, true, true, true, true, true, true, true, true, true, false, true, false, false, false, false, false, false] (h := ?_)
    refine one_ (i := 15) (N := some 33) #[true, true, true, true, true, true, true, true, true, true, true, true, true, true, true, true, true, false, false, false, false, false, false] rfl rfl (one_of HT_.out (by kernel_rfl)) (by decide) (fun K hK => ?_)
    refine goes_ Tryz.func105 (by kernel_rfl) rfl #[.slice Ao29 t1475.length co29, .int .i64 t1476] (by rfl) rfl rfl pA ?_
    with_reducible refine (dec_must.calls (fun k_ => some k_ = (.slice Ao29 t1475.length co29 : Value).ownBlock) (.slice Ao29 t1475.length co29) t1475 t1476 t1479 w _ ?side1 ?side2 A22.out).mono ?_
    (case side1 => exact pB)
    (case side2 => exact Kd.R_tight rfl HO1478.out)
    rintro e w30 ⟨v1480, rfl, ho0, hb, hkp⟩
    refine ⟨_, rfl, ?_⟩
    have n0_ := am (Kd.V_mono (ok' := fun k_ => (P0_1_ k_ \/ w.heap.size <= k_) /\ some k_ ≠ (.slice Ao27 t1472.length co27 : Value).ownBlock /\ k_ ≠ gb1465 /\ k_ ≠ gb1466 /\ some k_ ≠ (v1480 : Value).ownBlock) (Kd.V_keptB (HO_1466001.out) hkp (fun k_ hk_ hs_ => (hk_.2) hs_)) (fun k_ hk_ => ⟨hk_.1.1.1, hk_.1.1.2.2.2, hk_.1.1.2.1, hk_.1.1.2.2.1, fun e_ => Or.elim (ho0.1 k_ e_.symm) (fun hs_ => hk_.2.1 hs_) (fun hn_ => Nat.not_le.2 hk_.2.2 hn_)⟩))
    have n1_ := am (blk_kept (blk_below BK1465.out pl) hkp (fun hs_ => (fun e_ => (Kd.R_ne HO1478.out BK1465.out (by decide)) e_) hs_))
    have n2_ := am (blk_kept (blk_below BK1466.out pl) hkp (fun hs_ => (fun e_ => (Kd.R_ne HO1478.out BK1466.out (by decide)) e_) hs_))
    have n3_ := am (Kd.R_mono (ok' := fun k_ => (w.heap.size <= k_) /\ some k_ ≠ (v1480 : Value).ownBlock) (Kd.R_keptB (HO1474.out) hkp (fun k_ hk_ hs_ => (hk_.2) hs_)) (fun k_ hk_ => ⟨hk_.1.1, fun e_ => Or.elim (ho0.1 k_ e_.symm) (fun hs_ => hk_.2.1 hs_) (fun hn_ => Nat.not_le.2 hk_.2.2 hn_)⟩))
    have n4_ := am (Kd.R_mono (ok' := fun k_ => (w.heap.size <= k_) /\ some k_ ≠ (.slice Ao27 t1472.length co27 : Value).ownBlock) ho0 (fun k_ hk_ => ⟨Or.elim hk_ (fun hs_ => (HO1478.out.1 k_ (hs_).symm).1.1) (fun hn_ => (Nat.le_trans (below_size pB) hn_)), Or.elim hk_ (fun hs_ => fun e_ => (((HO1474.out).1 k_ e_.symm).2) hs_) (fun hn_ => (Kd.fresh' (Kd.R_lt (Kd.R_below HO1474.out pl)) k_ hn_))⟩))
    have n5_ := am (hb)
    clear HO_1466001 BK1465 BK1466 HO1474 HB HO1478
    have HO_1466001 := n0_
    have BK1465 := n1_
    have BK1466 := n2_
    have HO1474 := n3_
    have HO1481 := n4_
    have HB := n5_
    clear n0_ n1_ n2_ n3_ n4_ n5_
    (try clear hb); (try clear hkp); (try clear ho0)
    obtain ⟨Ao31, co31, eo31⟩ := Kd.R_slice HO1481.out
    (first | subst eo31 | (injection eo31 with f1_ f2_ f3_; have f4_ := f1_.symm; have f5_ := f3_.symm; clear f1_ f2_ f3_; subst f4_; subst f5_))
    refine hK.out _ _ ⟨(blk_cell BK1465.out 0).trans rfl, (blk_cell BK1465.out 1).trans rfl, (blk_cell BK1465.out 2).trans rfl⟩ (fun hHeld => ?_)
    clear hK K
    refine norm_ (a' := ?_) ?_ ?_
    rotate_left
    ·show Act.put _ (some 33) _ = _
     simp only [Act.put, List.setIfInBounds_toArray, List.set_cons_zero, List.set_cons_succ, i64_w, i32_w]
     rfl
    refine pu 17 (some 35) #[true, true, true, true, true, true, true, true, true, true, true, true, true, true, true, true, true, true, false, false, false, false, false] (h := ?_)
    refine pu 18 (some 36) #[true, true, true, true, true, true, true, true, true, true, true, true, true, true, true, true, true, true, true, false, false, false, false] (h := ?_)
    refine last_ (i := 19) (N := none) #[true, true, true, true, true, true, true, true, true, true, true, true, true, true, true, true, true, true, true, true, false, false, false] rfl rfl (one_of HT_.out (by kernel_rfl)) (by decide) (fun K hK => ?_)
    have hs32 : w30.cell? ⟨gb1465, 1, none⟩ = some (.slice A0_1 l0_1.length c0_1) := (blk_cell BK1465.out 1).trans rfl
    have hfs32 := blk_frozen BK1465.out 1
    have hns32_1 := NB1466_1465.out
    have hms32_1 := NB1465_1466.out
    refine skip_ (w1 := ?_) (by rfl) rfl ?_ ?_
    rotate_left
    ·go_simp
     rfl
    refine hK.out _ _ ?_
    clear hK K
    refine pu 20 (some 37) #[true, true, true, true, true, true, true, true, true, true, true, true, true, true, true, true, true, true, true, true, true, false, false] (h := ?_)
    refine pu 21 (some 38) #[true, true, true, true, true, true, true, true, true, true, true, true, true, true, true, true, true, true, true, true, true, true, false] (h := ?_)
    refine last_ (i := 22) (N := none) #[true, true, true, true, true, true, true, true, true, true, true, true, true, true, true, true, true, true, true, true, true, true, true] rfl rfl (one_of HT_.out (by kernel_rfl)) (by decide) (fun K hK => ?_)
    have hs33 : w30.cell? ⟨gb1465, 2, none⟩ = some (.int .i64 a0_2) := (blk_cell BK1465.out 2).trans rfl
    have hfs33 := blk_frozen BK1465.out 2
    have hns33_1 := NB1466_1465.out
    have hms33_1 := NB1465_1466.out
    refine skip_ (w1 := ?_) (by rfl) rfl ?_ ?_
    rotate_left
    ·go_simp
     rfl
    refine hK.out _ _ ?_
    clear hK K
    refine done_ (done_of HT_.out (by kernel_rfl)) ?_
    have hnb34 := NB1465_1466.out
    have hnc34 := NB1466_1465.out
    obtain ⟨hcz35_0, hcz35_1, hcz35_2, hfz35_0, hfz35_1, hfz35_2⟩ := cEc BK1465.out
    obtain ⟨hcz36_0, hcz36_1, hcz36_2, hfz36_0, hfz36_1, hfz36_2⟩ := cEc BK1466.out
    try go_wp2
    refine bodyPost_ret (results_cell_row rfl _ _ gb1466 106 #[.bool a0_0, .slice Ao31 t1479.length co31, .int .i64 a1] (0, 0) _ rfl (by refine bp ?_; refine blk_put (cs := #[.bool a0_0, .slice Ao31 t1479.length co31, .int .i64 0]) ?_ 2 _ rfl; refine bp ?_; refine blk_put (cs := #[.bool a0_0, .slice none 0 0, .int .i64 0]) ?_ 1 _ rfl; refine bp ?_; refine blk_put (cs := #[.bool false, .slice none 0 0, .int .i64 0]) ?_ 0 _ rfl; refine bp ?_; refine blk_far ?_ NB1466_1465.out _; refine bp ?_; refine blk_far ?_ NB1466_1465.out _; exact bp BK1466.out) Tryz.underlying106 rfl (by kernel_rfl)) rfl ?_
    exact ⟨_, pE, Kd.V_mono (Kd.R_V (Kd.R_below (Kd.R_mono (Kd.R_far (p := ⟨gb1466, 2, none⟩) (Kd.R_far (p := ⟨gb1466, 1, none⟩) (Kd.R_far (p := ⟨gb1466, 0, none⟩) (Kd.R_far (p := ⟨gb1465, 2, none⟩) (Kd.R_far (p := ⟨gb1465, 1, none⟩) (Kd.R_types (Kd.R_types HO1481.out BK1465.out (by decide)) BK1466.out (by decide)) (fun _ hk => hk.1.2) (.slice Ao31 t1479.length co31)) (fun _ hk => hk.1.2) (.int .i64 a1)) (fun _ hk => hk.2) (.bool a0_0)) (fun _ hk => hk.2) (.slice Ao31 t1479.length co31)) (fun _ hk => hk.2) (.int .i64 a1)) (fun _ hk => hk.1.1.1)) pl)) (fun k_ hk => by first | exact ⟨(.inr (hk.1)), hk.2⟩ | exact (.inr (hk))), pB⟩
def dec_number_plus.f (k : Nat) (a0_0 : Bool) (l0_1 : List Int) (a0_2 : Int) (a1_0 : Bool) (l1_1 : List Int) (a1_2 : Int) : Option (Bool × List Int × Int) := (dec_number_down.f k a0_0 l0_1 a0_2 (mn a0_2 a1_2)).bind fun bt1508 => ((dec_number_down.f k a1_0 l1_1 a1_2 (mn a0_2 a1_2)).bind fun bt1513 => (if (bt1508.1 == bt1513.1) = true then ((nat_Add.f k bt1508.2.1 bt1513.2.1).bind fun bt1518 => ((dec_must.f bt1518.1 bt1518.2).bind fun t1522 => (some (bt1508.1, t1522, bt1508.2.2)))) else ((nat_Compare.f k bt1508.2.1 bt1513.2.1).bind fun bt1525 => (if bt1525.1 < 0 then ((nat_Sub.f k bt1513.2.1 bt1508.2.1).bind fun bt1527 => ((dec_must.f bt1527.1 bt1527.2).bind fun t1531 => (some (bt1513.1, t1531, bt1513.2.2)))) else ((nat_Sub.f k bt1508.2.1 bt1513.2.1).bind fun bt1534 => ((dec_must.f bt1534.1 bt1534.2).bind fun t1538 => (some (bt1508.1, t1538, bt1508.2.2))))))))
def dec_number_plus.T2 : Bool × List (List Nat × List Nat) := (true, [([], []), ([], []), ([0, 1], [0, 1]), ([], []), ([], []), ([3, 4, 2], [3, 4]), ([2, 5, 0, 1, 2], [2]), ([5, 6, 0, 1, 2, 3, 4, 5, 6], [5])])
def dec_number_plus.B2 : List Nat := [0, 0, 3, 0, 0, 31, 63, 127]
theorem dec_number_plus.tab2 : rtab .any (opsOf Tryz.f101 2) = dec_number_plus.T2 := by kernel_rfl
theorem dec_number_plus.bits2 : waitsOk dec_number_plus.T2.2 dec_number_plus.B2 = true := by kernel_rfl
theorem dec_number_plus.leaf {P : Prop} (h : P := by
 go_enter Tryz.func101, Tryz.ntmps101
 try go_wp2_with (first | ((with_reducible refine gate_dst (N := 2) rfl ?_); refine box_event ?hg (N := 2) ?hd (cs := #[.bool a0_0, .slice A0_1 l0_1.length c0_1, .int .i64 a0_2]) (t := 106) ?hr ?_; (case hd => rfl); (case hg => rfl); (case hr => first | (go_simp; done) | (go_simp; rfl)); intro gb0z hg w1z hbox hb; have n0_ := am (below_step pB hb); have n1_ := am (hbox); have n2_ := am ((gw hg pB : w.heap.size <= gb0z)); have n3_ := am ((gw hg pB : w.heap.size <= gb0z)); clear HB; have HB := n0_; have BK2z := n1_; have GW3z := n2_; have GE4z := n3_; clear n0_ n1_ n2_ n3_ hb hbox hg) | ((with_reducible refine gate_dst (N := 3) rfl ?_); refine box_event ?hg (N := 3) ?hd (cs := #[.bool a1_0, .slice A1_1 l1_1.length c1_1, .int .i64 a1_2]) (t := 106) ?hr ?_; (case hd => rfl); (case hg => rfl); (case hr => first | (go_simp; done) | (go_simp; rfl)); intro gb5z hg w6z hbox hb; have n0_ := am (blk_below (blk_below BK2z.out pl) hb); have n1_ := am (below_step pB hb); have n2_ := am (hbox); have n3_ := am ((gw hg pB : w.heap.size <= gb5z)); have n4_ := am ((gw hg pB : w.heap.size <= gb5z)); have n5_ := am ((nl hg (blk_below BK2z.out pl) : gb0z ≠ gb5z)); have n6_ := am ((ng hg (blk_below BK2z.out pl) : gb5z ≠ gb0z)); clear BK2z HB; have BK2z := n0_; have HB := n1_; have BK7z := n2_; have GW8z := n3_; have GE9z := n4_; have NB10z := n5_; have NB11z := n6_; clear n0_ n1_ n2_ n3_ n4_ n5_ n6_ hb hbox hg) | ((with_reducible refine gate_dst (N := 4) rfl ?_); refine box_event ?hg (N := 4) ?hd (cs := #[.bool false, .slice none 0 0, .int .i64 0]) (t := 106) ?hr ?_; (case hd => rfl); (case hg => rfl); (case hr => first | (go_simp; done) | (go_simp; rfl)); intro gb12z hg w13z hbox hb; have n0_ := am (blk_below (blk_below BK2z.out pl) hb); have n1_ := am (blk_below (blk_below BK7z.out pl) hb); have n2_ := am (below_step pB hb); have n3_ := am (hbox); have n4_ := am ((gw hg pB : w.heap.size <= gb12z)); have n5_ := am ((gw hg pB : w.heap.size <= gb12z)); have n6_ := am ((nl hg (blk_below BK2z.out pl) : gb0z ≠ gb12z)); have n7_ := am ((ng hg (blk_below BK2z.out pl) : gb12z ≠ gb0z)); have n8_ := am ((nl hg (blk_below BK7z.out pl) : gb5z ≠ gb12z)); have n9_ := am ((ng hg (blk_below BK7z.out pl) : gb12z ≠ gb5z)); clear BK2z BK7z HB; have BK2z := n0_; have BK7z := n1_; have HB := n2_; have BK14z := n3_; have GW15z := n4_; have GE16z := n5_; have NB17z := n6_; have NB18z := n7_; have NB19z := n8_; have NB20z := n9_; clear n0_ n1_ n2_ n3_ n4_ n5_ n6_ n7_ n8_ n9_ hb hbox hg; have hnb21z := NB10z.out; have hnc22z := NB11z.out; have hnb23z := NB17z.out; have hnc24z := NB18z.out; obtain ⟨hcz25z, hcz26z, hcz27z, hfz28z, hfz29z, hfz30z⟩ := cEc BK2z.out; have hnb31z := NB19z.out; have hnc32z := NB20z.out; obtain ⟨hcz33z, hcz34z, hcz35z, hfz36z, hfz37z, hfz38z⟩ := cEc BK7z.out))
 replace BK2z := am (blk_drew BK2z.out)
 replace BK7z := am (blk_drew BK7z.out)
 replace BK14z := am (blk_drew BK14z.out)
 replace HB := am (below_drew1 HB.out)
 refine start_ (n := 8) (S := fun w' => w'.cell? ⟨gb0z, 0, none⟩ = some (.bool a0_0) /\ w'.cell? ⟨gb0z, 1, none⟩ = some (.slice A0_1 l0_1.length c0_1) /\ w'.cell? ⟨gb0z, 2, none⟩ = some (.int .i64 a0_2) /\ w'.cell? ⟨gb5z, 0, none⟩ = some (.bool a1_0) /\ w'.cell? ⟨gb5z, 1, none⟩ = some (.slice A1_1 l1_1.length c1_1) /\ w'.cell? ⟨gb5z, 2, none⟩ = some (.int .i64 a1_2)) (ds := [6, 7]) #[false, false, false, false, false, false, false, false] (by kernel_rfl) rfl rfl ⟨(blk_cell BK2z.out 0).trans rfl, (blk_cell BK2z.out 1).trans rfl, (blk_cell BK2z.out 2).trans rfl, (blk_cell BK7z.out 0).trans rfl, (blk_cell BK7z.out 1).trans rfl, (blk_cell BK7z.out 2).trans rfl⟩ (fun hHeld => ?_); refine with_tabW dec_number_plus.tab2 dec_number_plus.bits2 (fun HT_ HW_ => ?_)
 generalize w13z.drew = w39z at BK2z BK7z BK14z HB hHeld ⊢
 refine pu 1 (some 16) #[false, true, false, false, false, false, false, false] (h := ?_)
 refine pu 4 (some 19) #[false, true, false, false, true, false, false, false] (h := ?_)
 refine take_ (i := 0) (N := some 15) (v := ?_) (a' := ?_) #[true, true, false, false, true, false, false, false] rfl rfl (take_ofW HT_.out HW_.out (by kernel_rfl)) (fun _ _ _ h => h) (Or.inl ⟨by rfl, ?_⟩) hHeld ?_ ?_
 rotate_left
 ·rintro w' ⟨s40z, s41z, s42z, s43z, s44z, s45z⟩
  go_simp
  with_reducible rfl
 rotate_left
 ·simp only [Act.put, List.setIfInBounds_toArray, List.set_cons_zero, List.set_cons_succ, i64_w, i32_w]
  rfl
 refine take_ (i := 3) (N := some 18) (v := ?_) (a' := ?_) #[true, true, false, true, true, false, false, false] rfl rfl (take_ofW HT_.out HW_.out (by kernel_rfl)) (fun _ _ _ h => h) (Or.inl ⟨by rfl, ?_⟩) hHeld ?_ ?_
 rotate_left
 ·rintro w' ⟨s40z, s41z, s42z, s43z, s44z, s45z⟩
  go_simp
  with_reducible rfl
 rotate_left
 ·simp only [Act.put, List.setIfInBounds_toArray, List.set_cons_zero, List.set_cons_succ, i64_w, i32_w]
  rfl
 refine one_ (i := 2) (N := some 17) #[true, true, true, true, true, false, false, false] rfl rfl (one_of HT_.out (by kernel_rfl)) (by decide) (fun K hK => ?_)
 refine goes_ Tryz.func106 (by kernel_rfl) rfl #[.agg #[.bool a0_0, .slice A0_1 l0_1.length c0_1, .int .i64 a0_2], .int .i64 ji3] (by rfl) rfl rfl (by (try simp only [List.map_toArray, List.map_cons, List.map_nil]); first | done | (simp only [hji3]; rfl) | rfl | (simp only [List.length_drop, List.length_take]; rfl)) ?_
 with_reducible refine (dec_number_down.calls k a0_0 (fun k_ => k_ < w.heap.size) _ _ l0_1 a0_2 ji3 t1508 t1509 t1512 _ ?side1 A4.out).mono ?_
 (case side1 => exact Kd.V_mk HC0_1.out (Kd.F_below (Kd.C_F (Kd.heap_int .u32) HR0_1.out) pB))
 rintro e w46z ⟨v47z, rfl, ho48z, hb⟩
 refine ⟨_, rfl, ?_⟩
 have HO49z := am (Kd.V_lower (Kd.V_mono (ok' := fun k_ => k_ ≠ gb0z /\ k_ ≠ gb5z /\ k_ ≠ gb12z) ho48z (fun k_ hk_ => ⟨Or.elim hk_ (fun hs_ => fun e_ => Nat.not_le.2 hs_ (by rw [e_]; exact GW3z.out)) (fun hn_ => (Kd.freshB (g := gb0z) (o := .cells #[.bool a0_0, .slice A0_1 l0_1.length c0_1, .int .i64 a0_2] 106 (0, 0)) (blk_below BK2z.out pl) k_ hn_)), Or.elim hk_ (fun hs_ => fun e_ => Nat.not_le.2 hs_ (by rw [e_]; exact GW8z.out)) (fun hn_ => (Kd.freshB (g := gb5z) (o := .cells #[.bool a1_0, .slice A1_1 l1_1.length c1_1, .int .i64 a1_2] 106 (0, 0)) (blk_below BK7z.out pl) k_ hn_)), Or.elim hk_ (fun hs_ => fun e_ => Nat.not_le.2 hs_ (by rw [e_]; exact GW15z.out)) (fun hn_ => (Kd.freshB (g := gb12z) (o := .cells #[.bool false, .slice none 0 0, .int .i64 0] 106 (0, 0)) (blk_below BK14z.out pl) k_ hn_))⟩)) (below_size pB))
 replace BK2z := am (blk_below (blk_below BK2z.out pl) hb)
 replace BK7z := am (blk_below (blk_below BK7z.out pl) hb)
 replace BK14z := am (blk_below (blk_below BK14z.out pl) hb)
 replace HB := am (below_step pB hb)
 (try clear hb); (try clear ho48z)
 refine hK.out _ _ ⟨(blk_cell BK2z.out 0).trans rfl, (blk_cell BK2z.out 1).trans rfl, (blk_cell BK2z.out 2).trans rfl, (blk_cell BK7z.out 0).trans rfl, (blk_cell BK7z.out 1).trans rfl, (blk_cell BK7z.out 2).trans rfl⟩ (fun hHeld => ?_)
 clear hK K
 refine norm_ (a' := ?_) ?_ ?_
 rotate_left
 ·show Act.put _ (some 17) _ = _
  simp only [Act.put, List.setIfInBounds_toArray, List.set_cons_zero, List.set_cons_succ, i64_w, i32_w]
  rfl
 refine one_ (i := 5) (N := some 20) #[true, true, true, true, true, true, false, false] rfl rfl (one_of HT_.out (by kernel_rfl)) (by decide) (fun K hK => ?_)
 refine goes_ Tryz.func106 (by kernel_rfl) rfl #[.agg #[.bool a1_0, .slice A1_1 l1_1.length c1_1, .int .i64 a1_2], .int .i64 ji3] (by rfl) rfl rfl (by (try simp only [List.map_toArray, List.map_cons, List.map_nil]); first | done | (simp only [hji3]; rfl) | rfl | (simp only [List.length_drop, List.length_take]; rfl)) ?_
 with_reducible refine (dec_number_down.calls k a1_0 (fun k_ => k_ < w.heap.size) _ _ l1_1 a1_2 ji3 t1513 t1514 t1517 _ ?side1 A5.out).mono ?_
 (case side1 => exact Kd.V_mk HC1_1.out (Kd.F_below (Kd.C_F (Kd.heap_int .u32) HR1_1.out) pB))
 rintro e w50z ⟨v51z, rfl, ho48z, hb⟩
 refine ⟨_, rfl, ?_⟩
 replace HO49z := am (Kd.V_below (Kd.V_below HO49z.out pl) hb)
 have HO52z := am (Kd.V_lower (Kd.V_mono (ok' := fun k_ => k_ ≠ gb0z /\ k_ ≠ gb5z /\ k_ ≠ gb12z) ho48z (fun k_ hk_ => ⟨Or.elim hk_ (fun hs_ => fun e_ => Nat.not_le.2 hs_ (by rw [e_]; exact GW3z.out)) (fun hn_ => (Kd.freshB (g := gb0z) (o := .cells #[.bool a0_0, .slice A0_1 l0_1.length c0_1, .int .i64 a0_2] 106 (0, 0)) (blk_below BK2z.out pl) k_ hn_)), Or.elim hk_ (fun hs_ => fun e_ => Nat.not_le.2 hs_ (by rw [e_]; exact GW8z.out)) (fun hn_ => (Kd.freshB (g := gb5z) (o := .cells #[.bool a1_0, .slice A1_1 l1_1.length c1_1, .int .i64 a1_2] 106 (0, 0)) (blk_below BK7z.out pl) k_ hn_)), Or.elim hk_ (fun hs_ => fun e_ => Nat.not_le.2 hs_ (by rw [e_]; exact GW15z.out)) (fun hn_ => (Kd.freshB (g := gb12z) (o := .cells #[.bool false, .slice none 0 0, .int .i64 0] 106 (0, 0)) (blk_below BK14z.out pl) k_ hn_))⟩)) (below_size pB))
 replace BK2z := am (blk_below (blk_below BK2z.out pl) hb)
 replace BK7z := am (blk_below (blk_below BK7z.out pl) hb)
 replace BK14z := am (blk_below (blk_below BK14z.out pl) hb)
 replace HB := am (below_step pB hb)
 (try clear hb); (try clear ho48z)
 obtain ⟨Ao53z, co54z, eo55z⟩ := Kd.V_slice HO49z.out
 (first | subst eo55z | (injection eo55z with f1_ f2_ f3_; have f4_ := f1_.symm; have f5_ := f3_.symm; clear f1_ f2_ f3_; subst f4_; subst f5_))
 obtain ⟨Ao56z, co57z, eo58z⟩ := Kd.V_slice HO52z.out
 (first | subst eo58z | (injection eo58z with f1_ f2_ f3_; have f4_ := f1_.symm; have f5_ := f3_.symm; clear f1_ f2_ f3_; subst f4_; subst f5_))
 refine hK.out _ _ ⟨(blk_cell BK2z.out 0).trans rfl, (blk_cell BK2z.out 1).trans rfl, (blk_cell BK2z.out 2).trans rfl, (blk_cell BK7z.out 0).trans rfl, (blk_cell BK7z.out 1).trans rfl, (blk_cell BK7z.out 2).trans rfl⟩ (fun hHeld => ?_)
 clear hK K
 refine norm_ (a' := ?_) ?_ ?_
 rotate_left
 ·show Act.put _ (some 20) _ = _
  simp only [Act.put, List.setIfInBounds_toArray, List.set_cons_zero, List.set_cons_succ, i64_w, i32_w]
  rfl
 refine last_ (i := 6) (N := none) #[true, true, true, true, true, true, true, false] rfl rfl (one_of HT_.out (by kernel_rfl)) (by decide) (fun K hK => ?_)
 have hs59z : w50z.cell? ⟨gb0z, 0, none⟩ = some (.bool a0_0) := (blk_cell BK2z.out 0).trans rfl
 have hfs60z := blk_frozen BK2z.out 0
 have hns61z := NB11z.out
 have hns62z := NB18z.out
 have hms63z := NB10z.out
 have hms64z := NB17z.out
 have hs65z : w50z.cell? ⟨gb0z, 1, none⟩ = some (.slice A0_1 l0_1.length c0_1) := (blk_cell BK2z.out 1).trans rfl
 have hfs66z := blk_frozen BK2z.out 1
 have hns67z := NB11z.out
 have hns68z := NB18z.out
 have hms69z := NB10z.out
 have hms70z := NB17z.out
 have hs71z : w50z.cell? ⟨gb0z, 2, none⟩ = some (.int .i64 a0_2) := (blk_cell BK2z.out 2).trans rfl
 have hfs72z := blk_frozen BK2z.out 2
 have hns73z := NB11z.out
 have hns74z := NB18z.out
 have hms75z := NB10z.out
 have hms76z := NB17z.out
 refine skip_ (w1 := ?_) (by rfl) rfl ?_ ?_
 rotate_left
 ·go_simp
  rfl
 refine hK.out _ _ ?_
 clear hK K
 refine last_ (i := 7) (N := none) #[true, true, true, true, true, true, true, true] rfl rfl (one_of HT_.out (by kernel_rfl)) (by decide) (fun K hK => ?_)
 have hs77z : w50z.cell? ⟨gb5z, 0, none⟩ = some (.bool a1_0) := (blk_cell BK7z.out 0).trans rfl
 have hfs78z := blk_frozen BK7z.out 0
 have hns79z := NB10z.out
 have hns80z := NB20z.out
 have hms81z := NB11z.out
 have hms82z := NB19z.out
 have hs83z : w50z.cell? ⟨gb5z, 1, none⟩ = some (.slice A1_1 l1_1.length c1_1) := (blk_cell BK7z.out 1).trans rfl
 have hfs84z := blk_frozen BK7z.out 1
 have hns85z := NB10z.out
 have hns86z := NB20z.out
 have hms87z := NB11z.out
 have hms88z := NB19z.out
 have hs89z : w50z.cell? ⟨gb5z, 2, none⟩ = some (.int .i64 a1_2) := (blk_cell BK7z.out 2).trans rfl
 have hfs90z := blk_frozen BK7z.out 2
 have hns91z := NB10z.out
 have hns92z := NB20z.out
 have hms93z := NB11z.out
 have hms94z := NB19z.out
 refine skip_ (w1 := ?_) (by rfl) rfl ?_ ?_
 rotate_left
 ·go_simp
  rfl
 refine hK.out _ _ ?_
 clear hK K
 refine done_ (done_of HT_.out (by kernel_rfl)) ?_
 obtain ⟨hcz95z, hcz96z, hcz97z, hfz98z, hfz99z, hfz100z⟩ := cEc BK2z.out
 obtain ⟨hcz101z, hcz102z, hcz103z, hfz104z, hfz105z, hfz106z⟩ := cEc BK7z.out
 try go_wp2_with (first | ((have q_ := A39; clear q_); refine gL (some 48) Tryz.func90 #[.slice Ao53z t1509.length co54z, .slice Ao56z t1514.length co57z] (h := ?_); (with_reducible refine (nat_Compare.calls k _ _ t1509 _ _ t1514 t1525 t1526 _ ?side1 ?side2 ?side3 ?side4 A36.out).mono ?_); (case side1 => refine (Kd.V_reads' (e := 85) (base := w.heap.size) (ok := fun k_ => (k_ ≠ gb0z /\ (k_ ≠ gb5z /\ k_ ≠ gb12z))) (n := t1509.length) (c := co54z) ?_).2.2; exact (Kd.V_below (Kd.V_mono (Kd.V_mono (Kd.V_far (p := ⟨gb5z, 2, none⟩) (Kd.V_far (p := ⟨gb5z, 1, none⟩) (Kd.V_far (p := ⟨gb5z, 0, none⟩) (Kd.V_far (p := ⟨gb0z, 2, none⟩) (Kd.V_far (p := ⟨gb0z, 1, none⟩) (Kd.V_far (p := ⟨gb0z, 0, none⟩) (Kd.V_mono (Kd.V_mono HO49z.out (fun k_ hk => (⟨hk, hk.1⟩ : _ /\ k_ ≠ gb0z))) (fun k_ hk => (⟨hk, hk.1.2.1⟩ : _ /\ k_ ≠ gb5z))) (fun _ hk => hk.1.2) (.bool t1508)) (fun _ hk => hk.1.2) (.slice Ao53z t1509.length co54z)) (fun _ hk => hk.1.2) (.int .i64 t1512)) (fun _ hk => hk.2) (.bool t1513)) (fun _ hk => hk.2) (.slice Ao56z t1514.length co57z)) (fun _ hk => hk.2) (.int .i64 t1517)) (fun _ h_ => h_.1)) (fun _ h_ => h_.1)) pl)); (case side2 => exact (Kd.V_reads' HO49z.out).2.1); (case side3 => refine (Kd.V_reads' (e := 85) (base := w.heap.size) (ok := fun k_ => (k_ ≠ gb0z /\ (k_ ≠ gb5z /\ k_ ≠ gb12z))) (n := t1514.length) (c := co57z) ?_).2.2; exact (Kd.V_below (Kd.V_mono (Kd.V_mono (Kd.V_far (p := ⟨gb5z, 2, none⟩) (Kd.V_far (p := ⟨gb5z, 1, none⟩) (Kd.V_far (p := ⟨gb5z, 0, none⟩) (Kd.V_far (p := ⟨gb0z, 2, none⟩) (Kd.V_far (p := ⟨gb0z, 1, none⟩) (Kd.V_far (p := ⟨gb0z, 0, none⟩) (Kd.V_mono (Kd.V_mono HO52z.out (fun k_ hk => (⟨hk, hk.1⟩ : _ /\ k_ ≠ gb0z))) (fun k_ hk => (⟨hk, hk.1.2.1⟩ : _ /\ k_ ≠ gb5z))) (fun _ hk => hk.1.2) (.bool t1508)) (fun _ hk => hk.1.2) (.slice Ao53z t1509.length co54z)) (fun _ hk => hk.1.2) (.int .i64 t1512)) (fun _ hk => hk.2) (.bool t1513)) (fun _ hk => hk.2) (.slice Ao56z t1514.length co57z)) (fun _ hk => hk.2) (.int .i64 t1517)) (fun _ h_ => h_.1)) (fun _ h_ => h_.1)) pl)); (case side4 => exact (Kd.V_reads' HO52z.out).2.1); rintro e w107z ⟨rfl, hb⟩; refine ⟨_, rfl, ?_⟩; replace HO49z := am (Kd.V_below (Kd.V_below (Kd.V_mono (Kd.V_mono (Kd.V_far (p := ⟨gb5z, 2, none⟩) (Kd.V_far (p := ⟨gb5z, 1, none⟩) (Kd.V_far (p := ⟨gb5z, 0, none⟩) (Kd.V_far (p := ⟨gb0z, 2, none⟩) (Kd.V_far (p := ⟨gb0z, 1, none⟩) (Kd.V_far (p := ⟨gb0z, 0, none⟩) (Kd.V_mono (Kd.V_mono HO49z.out (fun k_ hk => (⟨hk, hk.1⟩ : _ /\ k_ ≠ gb0z))) (fun k_ hk => (⟨hk, hk.1.2.1⟩ : _ /\ k_ ≠ gb5z))) (fun _ hk => hk.1.2) (.bool t1508)) (fun _ hk => hk.1.2) (.slice Ao53z t1509.length co54z)) (fun _ hk => hk.1.2) (.int .i64 t1512)) (fun _ hk => hk.2) (.bool t1513)) (fun _ hk => hk.2) (.slice Ao56z t1514.length co57z)) (fun _ hk => hk.2) (.int .i64 t1517)) (fun _ h_ => h_.1)) (fun _ h_ => h_.1)) pl) hb); replace HO52z := am (Kd.V_below (Kd.V_below (Kd.V_mono (Kd.V_mono (Kd.V_far (p := ⟨gb5z, 2, none⟩) (Kd.V_far (p := ⟨gb5z, 1, none⟩) (Kd.V_far (p := ⟨gb5z, 0, none⟩) (Kd.V_far (p := ⟨gb0z, 2, none⟩) (Kd.V_far (p := ⟨gb0z, 1, none⟩) (Kd.V_far (p := ⟨gb0z, 0, none⟩) (Kd.V_mono (Kd.V_mono HO52z.out (fun k_ hk => (⟨hk, hk.1⟩ : _ /\ k_ ≠ gb0z))) (fun k_ hk => (⟨hk, hk.1.2.1⟩ : _ /\ k_ ≠ gb5z))) (fun _ hk => hk.1.2) (.bool t1508)) (fun _ hk => hk.1.2) (.slice Ao53z t1509.length co54z)) (fun _ hk => hk.1.2) (.int .i64 t1512)) (fun _ hk => hk.2) (.bool t1513)) (fun _ hk => hk.2) (.slice Ao56z t1514.length co57z)) (fun _ hk => hk.2) (.int .i64 t1517)) (fun _ h_ => h_.1)) (fun _ h_ => h_.1)) pl) hb); replace BK2z := am (blk_below (g := gb0z) (o := .cells #[.bool t1508, .slice Ao53z t1509.length co54z, .int .i64 t1512] 106 (0, 0)) (by refine bp ?_; refine blk_far ?_ NB10z.out _; refine bp ?_; refine blk_far ?_ NB10z.out _; refine bp ?_; refine blk_far ?_ NB10z.out _; refine bp ?_; refine blk_put (cs := #[.bool t1508, .slice Ao53z t1509.length co54z, .int .i64 a0_2]) ?_ 2 _ rfl; refine bp ?_; refine blk_put (cs := #[.bool t1508, .slice A0_1 l0_1.length c0_1, .int .i64 a0_2]) ?_ 1 _ rfl; refine bp ?_; refine blk_put (cs := #[.bool a0_0, .slice A0_1 l0_1.length c0_1, .int .i64 a0_2]) ?_ 0 _ rfl; exact bp BK2z.out) hb); replace BK7z := am (blk_below (g := gb5z) (o := .cells #[.bool t1513, .slice Ao56z t1514.length co57z, .int .i64 t1517] 106 (0, 0)) (by refine bp ?_; refine blk_put (cs := #[.bool t1513, .slice Ao56z t1514.length co57z, .int .i64 a1_2]) ?_ 2 _ rfl; refine bp ?_; refine blk_put (cs := #[.bool t1513, .slice A1_1 l1_1.length c1_1, .int .i64 a1_2]) ?_ 1 _ rfl; refine bp ?_; refine blk_put (cs := #[.bool a1_0, .slice A1_1 l1_1.length c1_1, .int .i64 a1_2]) ?_ 0 _ rfl; refine bp ?_; refine blk_far ?_ NB11z.out _; refine bp ?_; refine blk_far ?_ NB11z.out _; refine bp ?_; refine blk_far ?_ NB11z.out _; exact bp BK7z.out) hb); replace BK14z := am (blk_below (g := gb12z) (o := .cells #[.bool false, .slice none 0 0, .int .i64 0] 106 (0, 0)) (by refine bp ?_; refine blk_far ?_ NB20z.out _; refine bp ?_; refine blk_far ?_ NB20z.out _; refine bp ?_; refine blk_far ?_ NB20z.out _; refine bp ?_; refine blk_far ?_ NB18z.out _; refine bp ?_; refine blk_far ?_ NB18z.out _; refine bp ?_; refine blk_far ?_ NB18z.out _; exact bp BK14z.out) hb); replace HB := am (below_step pB hb); (try clear hb); (try clear hb108z); (try clear hk); (try clear hi); obtain ⟨hcz109z, hcz110z, hcz111z, hfz112z, hfz113z, hfz114z⟩ := cEc BK7z.out; obtain ⟨hcz115z, hcz116z, hcz117z, hfz118z, hfz119z, hfz120z⟩ := cEc BK2z.out) | (refine gL (some 61) Tryz.func141 #[.slice Ao56z t1514.length co57z, .slice Ao53z t1509.length co54z] (h := ?_); (with_reducible refine (nat_Sub.calls k _ _ t1514 _ _ t1509 t1527 t1528 _ ?side1 ?side2 ?side3 ?side4 A38.out).mono ?_); (case side1 => refine (Kd.V_reads' (e := 85) (base := w.heap.size) (ok := fun k_ => (k_ ≠ gb0z /\ (k_ ≠ gb5z /\ k_ ≠ gb12z))) (n := t1514.length) (c := co57z) ?_).2.2; exact (Kd.V_below (Kd.V_mono (Kd.V_mono (Kd.V_far (p := ⟨gb5z, 2, none⟩) (Kd.V_far (p := ⟨gb5z, 1, none⟩) (Kd.V_far (p := ⟨gb5z, 0, none⟩) (Kd.V_far (p := ⟨gb0z, 2, none⟩) (Kd.V_far (p := ⟨gb0z, 1, none⟩) (Kd.V_far (p := ⟨gb0z, 0, none⟩) (Kd.V_mono (Kd.V_mono HO52z.out (fun k_ hk => (⟨hk, hk.1⟩ : _ /\ k_ ≠ gb0z))) (fun k_ hk => (⟨hk, hk.1.2.1⟩ : _ /\ k_ ≠ gb5z))) (fun _ hk => hk.1.2) (.bool t1513)) (fun _ hk => hk.1.2) (.slice Ao56z t1514.length co57z)) (fun _ hk => hk.1.2) (.int .i64 t1517)) (fun _ hk => hk.2) (.bool t1508)) (fun _ hk => hk.2) (.slice Ao53z t1509.length co54z)) (fun _ hk => hk.2) (.int .i64 t1512)) (fun _ h_ => h_.1)) (fun _ h_ => h_.1)) pl)); (case side2 => exact (Kd.V_reads' HO52z.out).2.1); (case side3 => refine (Kd.V_reads' (e := 85) (base := w.heap.size) (ok := fun k_ => (k_ ≠ gb0z /\ (k_ ≠ gb5z /\ k_ ≠ gb12z))) (n := t1509.length) (c := co54z) ?_).2.2; exact (Kd.V_below (Kd.V_mono (Kd.V_mono (Kd.V_far (p := ⟨gb5z, 2, none⟩) (Kd.V_far (p := ⟨gb5z, 1, none⟩) (Kd.V_far (p := ⟨gb5z, 0, none⟩) (Kd.V_far (p := ⟨gb0z, 2, none⟩) (Kd.V_far (p := ⟨gb0z, 1, none⟩) (Kd.V_far (p := ⟨gb0z, 0, none⟩) (Kd.V_mono (Kd.V_mono HO49z.out (fun k_ hk => (⟨hk, hk.1⟩ : _ /\ k_ ≠ gb0z))) (fun k_ hk => (⟨hk, hk.1.2.1⟩ : _ /\ k_ ≠ gb5z))) (fun _ hk => hk.1.2) (.bool t1513)) (fun _ hk => hk.1.2) (.slice Ao56z t1514.length co57z)) (fun _ hk => hk.1.2) (.int .i64 t1517)) (fun _ hk => hk.2) (.bool t1508)) (fun _ hk => hk.2) (.slice Ao53z t1509.length co54z)) (fun _ hk => hk.2) (.int .i64 t1512)) (fun _ h_ => h_.1)) (fun _ h_ => h_.1)) pl)); (case side4 => exact (Kd.V_reads' HO49z.out).2.1); rintro e w121z ⟨v122z, rfl, ho48z, hb⟩; refine ⟨_, rfl, ?_⟩; replace HO49z := am (Kd.V_elder' (Kd.V_below (Kd.V_mono (Kd.V_mono (Kd.V_far (p := ⟨gb5z, 2, none⟩) (Kd.V_far (p := ⟨gb5z, 1, none⟩) (Kd.V_far (p := ⟨gb5z, 0, none⟩) (Kd.V_far (p := ⟨gb0z, 2, none⟩) (Kd.V_far (p := ⟨gb0z, 1, none⟩) (Kd.V_far (p := ⟨gb0z, 0, none⟩) (Kd.V_mono (Kd.V_mono HO49z.out (fun k_ hk => (⟨hk, hk.1⟩ : _ /\ k_ ≠ gb0z))) (fun k_ hk => (⟨hk, hk.1.2.1⟩ : _ /\ k_ ≠ gb5z))) (fun _ hk => hk.1.2) (.bool t1513)) (fun _ hk => hk.1.2) (.slice Ao56z t1514.length co57z)) (fun _ hk => hk.1.2) (.int .i64 t1517)) (fun _ hk => hk.2) (.bool t1508)) (fun _ hk => hk.2) (.slice Ao53z t1509.length co54z)) (fun _ hk => hk.2) (.int .i64 t1512)) (fun _ h_ => h_.1)) (fun _ h_ => h_.1)) pl) (Kd.R_base ho48z) hb); replace HO52z := am (Kd.V_elder' (Kd.V_below (Kd.V_mono (Kd.V_mono (Kd.V_far (p := ⟨gb5z, 2, none⟩) (Kd.V_far (p := ⟨gb5z, 1, none⟩) (Kd.V_far (p := ⟨gb5z, 0, none⟩) (Kd.V_far (p := ⟨gb0z, 2, none⟩) (Kd.V_far (p := ⟨gb0z, 1, none⟩) (Kd.V_far (p := ⟨gb0z, 0, none⟩) (Kd.V_mono (Kd.V_mono HO52z.out (fun k_ hk => (⟨hk, hk.1⟩ : _ /\ k_ ≠ gb0z))) (fun k_ hk => (⟨hk, hk.1.2.1⟩ : _ /\ k_ ≠ gb5z))) (fun _ hk => hk.1.2) (.bool t1513)) (fun _ hk => hk.1.2) (.slice Ao56z t1514.length co57z)) (fun _ hk => hk.1.2) (.int .i64 t1517)) (fun _ hk => hk.2) (.bool t1508)) (fun _ hk => hk.2) (.slice Ao53z t1509.length co54z)) (fun _ hk => hk.2) (.int .i64 t1512)) (fun _ h_ => h_.1)) (fun _ h_ => h_.1)) pl) (Kd.R_base ho48z) hb); have HO123z := am (Kd.R_lower ho48z (below_size pB)); replace BK2z := am (blk_below (g := gb0z) (o := .cells #[.bool t1513, .slice Ao56z t1514.length co57z, .int .i64 t1517] 106 (0, 0)) (by refine bp ?_; refine blk_far ?_ NB10z.out _; refine bp ?_; refine blk_far ?_ NB10z.out _; refine bp ?_; refine blk_far ?_ NB10z.out _; refine bp ?_; refine blk_put (cs := #[.bool t1513, .slice Ao56z t1514.length co57z, .int .i64 t1512]) ?_ 2 _ rfl; refine bp ?_; refine blk_put (cs := #[.bool t1513, .slice Ao53z t1509.length co54z, .int .i64 t1512]) ?_ 1 _ rfl; refine bp ?_; refine blk_put (cs := #[.bool t1508, .slice Ao53z t1509.length co54z, .int .i64 t1512]) ?_ 0 _ rfl; exact bp BK2z.out) hb); replace BK7z := am (blk_below (g := gb5z) (o := .cells #[.bool t1508, .slice Ao53z t1509.length co54z, .int .i64 t1512] 106 (0, 0)) (by refine bp ?_; refine blk_put (cs := #[.bool t1508, .slice Ao53z t1509.length co54z, .int .i64 t1517]) ?_ 2 _ rfl; refine bp ?_; refine blk_put (cs := #[.bool t1508, .slice Ao56z t1514.length co57z, .int .i64 t1517]) ?_ 1 _ rfl; refine bp ?_; refine blk_put (cs := #[.bool t1513, .slice Ao56z t1514.length co57z, .int .i64 t1517]) ?_ 0 _ rfl; refine bp ?_; refine blk_far ?_ NB11z.out _; refine bp ?_; refine blk_far ?_ NB11z.out _; refine bp ?_; refine blk_far ?_ NB11z.out _; exact bp BK7z.out) hb); replace BK14z := am (blk_below (g := gb12z) (o := .cells #[.bool false, .slice none 0 0, .int .i64 0] 106 (0, 0)) (by refine bp ?_; refine blk_far ?_ NB20z.out _; refine bp ?_; refine blk_far ?_ NB20z.out _; refine bp ?_; refine blk_far ?_ NB20z.out _; refine bp ?_; refine blk_far ?_ NB18z.out _; refine bp ?_; refine blk_far ?_ NB18z.out _; refine bp ?_; refine blk_far ?_ NB18z.out _; exact bp BK14z.out) hb); replace HB := am (below_step pB hb); (try clear hb); (try clear hb108z); (try clear hk); (try clear hi); (try clear ho48z); obtain ⟨Ao124z, co125z, eo126z⟩ := Kd.R_slice HO123z.out; subst eo126z) | (refine gL (some 64) Tryz.func105 #[.slice Ao124z t1527.length co125z, .int .i64 t1528] (h := ?_); (with_reducible refine (dec_must.calls (fun k_ => some k_ = (.slice Ao124z t1527.length co125z : Value).ownBlock) (.slice Ao124z t1527.length co125z) t1527 t1528 t1531 w _ ?side1 ?side2 A39.out).mono ?_); (case side1 => exact pB); (case side2 => exact Kd.R_tight rfl HO123z.out); rintro e w127z ⟨v128z, rfl, ho48z, hb, hkp⟩; refine ⟨_, rfl, ?_⟩; have n0_ := am (blk_kept (blk_below BK2z.out pl) hkp (fun hs_ => (fun e_ => (Kd.R_ne HO123z.out BK2z.out (by decide)) e_) hs_)); have n1_ := am (blk_kept (blk_below BK7z.out pl) hkp (fun hs_ => (fun e_ => (Kd.R_ne HO123z.out BK7z.out (by decide)) e_) hs_)); have n2_ := am (blk_kept (blk_below BK14z.out pl) hkp (fun hs_ => (fun e_ => (Kd.R_ne HO123z.out BK14z.out (by decide)) e_) hs_)); have n3_ := am (Kd.V_mono (ok' := fun k_ => k_ ≠ gb0z /\ k_ ≠ gb5z /\ k_ ≠ gb12z /\ some k_ ≠ (v128z : Value).ownBlock) (Kd.V_keptB (HO49z.out) hkp (fun k_ hk_ hs_ => (hk_.2) hs_)) (fun k_ hk_ => ⟨hk_.1.1.1, hk_.1.1.2.1, hk_.1.1.2.2, fun e_ => Or.elim (ho48z.1 k_ e_.symm) (fun hs_ => hk_.2.1 hs_) (fun hn_ => Nat.not_le.2 hk_.2.2 hn_)⟩)); have n4_ := am (Kd.V_mono (ok' := fun k_ => k_ ≠ gb0z /\ k_ ≠ gb5z /\ k_ ≠ gb12z /\ some k_ ≠ (v128z : Value).ownBlock) (Kd.V_keptB (HO52z.out) hkp (fun k_ hk_ hs_ => (hk_.2) hs_)) (fun k_ hk_ => ⟨hk_.1.1.1, hk_.1.1.2.1, hk_.1.1.2.2, fun e_ => Or.elim (ho48z.1 k_ e_.symm) (fun hs_ => hk_.2.1 hs_) (fun hn_ => Nat.not_le.2 hk_.2.2 hn_)⟩)); have n5_ := am (Kd.R_mono (ok' := fun k_ => True) ho48z (fun k_ hk_ => trivial)); have n6_ := am (hb); clear BK2z BK7z BK14z HO49z HO52z HB HO123z; have BK2z := n0_; have BK7z := n1_; have BK14z := n2_; have HO49z := n3_; have HO52z := n4_; have HO129z := n5_; have HB := n6_; clear n0_ n1_ n2_ n3_ n4_ n5_ n6_; (try clear hb); (try clear hkp); (try clear ho48z); obtain ⟨Ao130z, co131z, eo132z⟩ := Kd.R_slice HO129z.out; subst eo132z; obtain ⟨hcz133z, hcz134z, hcz135z, hfz136z, hfz137z, hfz138z⟩ := cEc BK2z.out; obtain ⟨hcz139z, hcz140z, hcz141z, hfz142z, hfz143z, hfz144z⟩ := cEc BK14z.out) | ((have q_ := A71; clear q_); refine gL (some 48) Tryz.func90 #[.slice Ao53z t1509.length co54z, .slice Ao56z t1514.length co57z] (h := ?_); (with_reducible refine (nat_Compare.calls k _ _ t1509 _ _ t1514 t1525 t1526 _ ?side1 ?side2 ?side3 ?side4 A36.out).mono ?_); (case side1 => refine (Kd.V_reads' (e := 85) (base := w.heap.size) (ok := fun k_ => (k_ ≠ gb0z /\ (k_ ≠ gb5z /\ k_ ≠ gb12z))) (n := t1509.length) (c := co54z) ?_).2.2; exact (Kd.V_below (Kd.V_mono (Kd.V_mono (Kd.V_far (p := ⟨gb5z, 2, none⟩) (Kd.V_far (p := ⟨gb5z, 1, none⟩) (Kd.V_far (p := ⟨gb5z, 0, none⟩) (Kd.V_far (p := ⟨gb0z, 2, none⟩) (Kd.V_far (p := ⟨gb0z, 1, none⟩) (Kd.V_far (p := ⟨gb0z, 0, none⟩) (Kd.V_mono (Kd.V_mono HO49z.out (fun k_ hk => (⟨hk, hk.1⟩ : _ /\ k_ ≠ gb0z))) (fun k_ hk => (⟨hk, hk.1.2.1⟩ : _ /\ k_ ≠ gb5z))) (fun _ hk => hk.1.2) (.bool t1508)) (fun _ hk => hk.1.2) (.slice Ao53z t1509.length co54z)) (fun _ hk => hk.1.2) (.int .i64 t1512)) (fun _ hk => hk.2) (.bool t1513)) (fun _ hk => hk.2) (.slice Ao56z t1514.length co57z)) (fun _ hk => hk.2) (.int .i64 t1517)) (fun _ h_ => h_.1)) (fun _ h_ => h_.1)) pl)); (case side2 => exact (Kd.V_reads' HO49z.out).2.1); (case side3 => refine (Kd.V_reads' (e := 85) (base := w.heap.size) (ok := fun k_ => (k_ ≠ gb0z /\ (k_ ≠ gb5z /\ k_ ≠ gb12z))) (n := t1514.length) (c := co57z) ?_).2.2; exact (Kd.V_below (Kd.V_mono (Kd.V_mono (Kd.V_far (p := ⟨gb5z, 2, none⟩) (Kd.V_far (p := ⟨gb5z, 1, none⟩) (Kd.V_far (p := ⟨gb5z, 0, none⟩) (Kd.V_far (p := ⟨gb0z, 2, none⟩) (Kd.V_far (p := ⟨gb0z, 1, none⟩) (Kd.V_far (p := ⟨gb0z, 0, none⟩) (Kd.V_mono (Kd.V_mono HO52z.out (fun k_ hk => (⟨hk, hk.1⟩ : _ /\ k_ ≠ gb0z))) (fun k_ hk => (⟨hk, hk.1.2.1⟩ : _ /\ k_ ≠ gb5z))) (fun _ hk => hk.1.2) (.bool t1508)) (fun _ hk => hk.1.2) (.slice Ao53z t1509.length co54z)) (fun _ hk => hk.1.2) (.int .i64 t1512)) (fun _ hk => hk.2) (.bool t1513)) (fun _ hk => hk.2) (.slice Ao56z t1514.length co57z)) (fun _ hk => hk.2) (.int .i64 t1517)) (fun _ h_ => h_.1)) (fun _ h_ => h_.1)) pl)); (case side4 => exact (Kd.V_reads' HO52z.out).2.1); rintro e w107z ⟨rfl, hb⟩; refine ⟨_, rfl, ?_⟩; replace HO49z := am (Kd.V_below (Kd.V_below (Kd.V_mono (Kd.V_mono (Kd.V_far (p := ⟨gb5z, 2, none⟩) (Kd.V_far (p := ⟨gb5z, 1, none⟩) (Kd.V_far (p := ⟨gb5z, 0, none⟩) (Kd.V_far (p := ⟨gb0z, 2, none⟩) (Kd.V_far (p := ⟨gb0z, 1, none⟩) (Kd.V_far (p := ⟨gb0z, 0, none⟩) (Kd.V_mono (Kd.V_mono HO49z.out (fun k_ hk => (⟨hk, hk.1⟩ : _ /\ k_ ≠ gb0z))) (fun k_ hk => (⟨hk, hk.1.2.1⟩ : _ /\ k_ ≠ gb5z))) (fun _ hk => hk.1.2) (.bool t1508)) (fun _ hk => hk.1.2) (.slice Ao53z t1509.length co54z)) (fun _ hk => hk.1.2) (.int .i64 t1512)) (fun _ hk => hk.2) (.bool t1513)) (fun _ hk => hk.2) (.slice Ao56z t1514.length co57z)) (fun _ hk => hk.2) (.int .i64 t1517)) (fun _ h_ => h_.1)) (fun _ h_ => h_.1)) pl) hb); replace HO52z := am (Kd.V_below (Kd.V_below (Kd.V_mono (Kd.V_mono (Kd.V_far (p := ⟨gb5z, 2, none⟩) (Kd.V_far (p := ⟨gb5z, 1, none⟩) (Kd.V_far (p := ⟨gb5z, 0, none⟩) (Kd.V_far (p := ⟨gb0z, 2, none⟩) (Kd.V_far (p := ⟨gb0z, 1, none⟩) (Kd.V_far (p := ⟨gb0z, 0, none⟩) (Kd.V_mono (Kd.V_mono HO52z.out (fun k_ hk => (⟨hk, hk.1⟩ : _ /\ k_ ≠ gb0z))) (fun k_ hk => (⟨hk, hk.1.2.1⟩ : _ /\ k_ ≠ gb5z))) (fun _ hk => hk.1.2) (.bool t1508)) (fun _ hk => hk.1.2) (.slice Ao53z t1509.length co54z)) (fun _ hk => hk.1.2) (.int .i64 t1512)) (fun _ hk => hk.2) (.bool t1513)) (fun _ hk => hk.2) (.slice Ao56z t1514.length co57z)) (fun _ hk => hk.2) (.int .i64 t1517)) (fun _ h_ => h_.1)) (fun _ h_ => h_.1)) pl) hb); replace BK2z := am (blk_below (g := gb0z) (o := .cells #[.bool t1508, .slice Ao53z t1509.length co54z, .int .i64 t1512] 106 (0, 0)) (by refine bp ?_; refine blk_far ?_ NB10z.out _; refine bp ?_; refine blk_far ?_ NB10z.out _; refine bp ?_; refine blk_far ?_ NB10z.out _; refine bp ?_; refine blk_put (cs := #[.bool t1508, .slice Ao53z t1509.length co54z, .int .i64 a0_2]) ?_ 2 _ rfl; refine bp ?_; refine blk_put (cs := #[.bool t1508, .slice A0_1 l0_1.length c0_1, .int .i64 a0_2]) ?_ 1 _ rfl; refine bp ?_; refine blk_put (cs := #[.bool a0_0, .slice A0_1 l0_1.length c0_1, .int .i64 a0_2]) ?_ 0 _ rfl; exact bp BK2z.out) hb); replace BK7z := am (blk_below (g := gb5z) (o := .cells #[.bool t1513, .slice Ao56z t1514.length co57z, .int .i64 t1517] 106 (0, 0)) (by refine bp ?_; refine blk_put (cs := #[.bool t1513, .slice Ao56z t1514.length co57z, .int .i64 a1_2]) ?_ 2 _ rfl; refine bp ?_; refine blk_put (cs := #[.bool t1513, .slice A1_1 l1_1.length c1_1, .int .i64 a1_2]) ?_ 1 _ rfl; refine bp ?_; refine blk_put (cs := #[.bool a1_0, .slice A1_1 l1_1.length c1_1, .int .i64 a1_2]) ?_ 0 _ rfl; refine bp ?_; refine blk_far ?_ NB11z.out _; refine bp ?_; refine blk_far ?_ NB11z.out _; refine bp ?_; refine blk_far ?_ NB11z.out _; exact bp BK7z.out) hb); replace BK14z := am (blk_below (g := gb12z) (o := .cells #[.bool false, .slice none 0 0, .int .i64 0] 106 (0, 0)) (by refine bp ?_; refine blk_far ?_ NB20z.out _; refine bp ?_; refine blk_far ?_ NB20z.out _; refine bp ?_; refine blk_far ?_ NB20z.out _; refine bp ?_; refine blk_far ?_ NB18z.out _; refine bp ?_; refine blk_far ?_ NB18z.out _; refine bp ?_; refine blk_far ?_ NB18z.out _; exact bp BK14z.out) hb); replace HB := am (below_step pB hb); (try clear hb); (try clear hb108z); (try clear hk); (try clear hi); obtain ⟨hcz109z, hcz110z, hcz111z, hfz112z, hfz113z, hfz114z⟩ := cEc BK2z.out; obtain ⟨hcz115z, hcz116z, hcz117z, hfz118z, hfz119z, hfz120z⟩ := cEc BK7z.out) | (refine gL (some 61) Tryz.func141 #[.slice Ao53z t1509.length co54z, .slice Ao56z t1514.length co57z] (h := ?_); (with_reducible refine (nat_Sub.calls k _ _ t1509 _ _ t1514 t1534 t1535 _ ?side1 ?side2 ?side3 ?side4 A70.out).mono ?_); (case side1 => exact Kd.C_below (Kd.V_reads' HO49z.out).2.2 pl); (case side2 => exact (Kd.V_reads' HO49z.out).2.1); (case side3 => exact Kd.C_below (Kd.V_reads' HO52z.out).2.2 pl); (case side4 => exact (Kd.V_reads' HO52z.out).2.1); rintro e w121z ⟨v122z, rfl, ho48z, hb⟩; refine ⟨_, rfl, ?_⟩; replace HO49z := am (Kd.V_elder' (Kd.V_below HO49z.out pl) (Kd.R_base ho48z) hb); replace HO52z := am (Kd.V_elder' (Kd.V_below HO52z.out pl) (Kd.R_base ho48z) hb); have HO123z := am (Kd.R_lower ho48z (below_size pB)); replace BK2z := am (blk_below (blk_below BK2z.out pl) hb); replace BK7z := am (blk_below (blk_below BK7z.out pl) hb); replace BK14z := am (blk_below (blk_below BK14z.out pl) hb); replace HB := am (below_step pB hb); (try clear hb); (try clear hb108z); (try clear hk); (try clear hi); (try clear ho48z); obtain ⟨Ao124z, co125z, eo126z⟩ := Kd.R_slice HO123z.out; subst eo126z) | (refine gL (some 64) Tryz.func105 #[.slice Ao124z t1534.length co125z, .int .i64 t1535] (h := ?_); (with_reducible refine (dec_must.calls (fun k_ => some k_ = (.slice Ao124z t1534.length co125z : Value).ownBlock) (.slice Ao124z t1534.length co125z) t1534 t1535 t1538 w _ ?side1 ?side2 A71.out).mono ?_); (case side1 => exact pB); (case side2 => exact Kd.R_tight rfl HO123z.out); rintro e w127z ⟨v128z, rfl, ho48z, hb, hkp⟩; refine ⟨_, rfl, ?_⟩; have n0_ := am (blk_kept (blk_below BK2z.out pl) hkp (fun hs_ => (fun e_ => (Kd.R_ne HO123z.out BK2z.out (by decide)) e_) hs_)); have n1_ := am (blk_kept (blk_below BK7z.out pl) hkp (fun hs_ => (fun e_ => (Kd.R_ne HO123z.out BK7z.out (by decide)) e_) hs_)); have n2_ := am (blk_kept (blk_below BK14z.out pl) hkp (fun hs_ => (fun e_ => (Kd.R_ne HO123z.out BK14z.out (by decide)) e_) hs_)); have n3_ := am (Kd.V_mono (ok' := fun k_ => k_ ≠ gb0z /\ k_ ≠ gb5z /\ k_ ≠ gb12z /\ some k_ ≠ (v128z : Value).ownBlock) (Kd.V_keptB (HO49z.out) hkp (fun k_ hk_ hs_ => (hk_.2) hs_)) (fun k_ hk_ => ⟨hk_.1.1.1, hk_.1.1.2.1, hk_.1.1.2.2, fun e_ => Or.elim (ho48z.1 k_ e_.symm) (fun hs_ => hk_.2.1 hs_) (fun hn_ => Nat.not_le.2 hk_.2.2 hn_)⟩)); have n4_ := am (Kd.V_mono (ok' := fun k_ => k_ ≠ gb0z /\ k_ ≠ gb5z /\ k_ ≠ gb12z /\ some k_ ≠ (v128z : Value).ownBlock) (Kd.V_keptB (HO52z.out) hkp (fun k_ hk_ hs_ => (hk_.2) hs_)) (fun k_ hk_ => ⟨hk_.1.1.1, hk_.1.1.2.1, hk_.1.1.2.2, fun e_ => Or.elim (ho48z.1 k_ e_.symm) (fun hs_ => hk_.2.1 hs_) (fun hn_ => Nat.not_le.2 hk_.2.2 hn_)⟩)); have n5_ := am (Kd.R_mono (ok' := fun k_ => True) ho48z (fun k_ hk_ => trivial)); have n6_ := am (hb); clear BK2z BK7z BK14z HO49z HO52z HB HO123z; have BK2z := n0_; have BK7z := n1_; have BK14z := n2_; have HO49z := n3_; have HO52z := n4_; have HO129z := n5_; have HB := n6_; clear n0_ n1_ n2_ n3_ n4_ n5_ n6_; (try clear hb); (try clear hkp); (try clear ho48z); obtain ⟨Ao130z, co131z, eo132z⟩ := Kd.R_slice HO129z.out; subst eo132z; obtain ⟨hcz133z, hcz134z, hcz135z, hfz136z, hfz137z, hfz138z⟩ := cEc BK2z.out; obtain ⟨hcz139z, hcz140z, hcz141z, hfz142z, hfz143z, hfz144z⟩ := cEc BK14z.out) | (refine gL (some 34) Tryz.func75 #[.slice Ao53z t1509.length co54z, .slice Ao56z t1514.length co57z] (h := ?_); (with_reducible refine (nat_Add.calls k _ _ t1509 _ _ t1514 t1518 t1519 _ ?side1 ?side2 ?side3 ?side4 A7.out).mono ?_); (case side1 => refine (Kd.V_reads' (e := 85) (base := w.heap.size) (ok := fun k_ => (k_ ≠ gb0z /\ (k_ ≠ gb5z /\ k_ ≠ gb12z))) (n := t1509.length) (c := co54z) ?_).2.2; exact (Kd.V_below (Kd.V_mono (Kd.V_mono (Kd.V_far (p := ⟨gb5z, 2, none⟩) (Kd.V_far (p := ⟨gb5z, 1, none⟩) (Kd.V_far (p := ⟨gb5z, 0, none⟩) (Kd.V_far (p := ⟨gb0z, 2, none⟩) (Kd.V_far (p := ⟨gb0z, 1, none⟩) (Kd.V_far (p := ⟨gb0z, 0, none⟩) (Kd.V_mono (Kd.V_mono HO49z.out (fun k_ hk => (⟨hk, hk.1⟩ : _ /\ k_ ≠ gb0z))) (fun k_ hk => (⟨hk, hk.1.2.1⟩ : _ /\ k_ ≠ gb5z))) (fun _ hk => hk.1.2) (.bool t1508)) (fun _ hk => hk.1.2) (.slice Ao53z t1509.length co54z)) (fun _ hk => hk.1.2) (.int .i64 t1512)) (fun _ hk => hk.2) (.bool t1513)) (fun _ hk => hk.2) (.slice Ao56z t1514.length co57z)) (fun _ hk => hk.2) (.int .i64 t1517)) (fun _ h_ => h_.1)) (fun _ h_ => h_.1)) pl)); (case side2 => exact (Kd.V_reads' HO49z.out).2.1); (case side3 => refine (Kd.V_reads' (e := 85) (base := w.heap.size) (ok := fun k_ => (k_ ≠ gb0z /\ (k_ ≠ gb5z /\ k_ ≠ gb12z))) (n := t1514.length) (c := co57z) ?_).2.2; exact (Kd.V_below (Kd.V_mono (Kd.V_mono (Kd.V_far (p := ⟨gb5z, 2, none⟩) (Kd.V_far (p := ⟨gb5z, 1, none⟩) (Kd.V_far (p := ⟨gb5z, 0, none⟩) (Kd.V_far (p := ⟨gb0z, 2, none⟩) (Kd.V_far (p := ⟨gb0z, 1, none⟩) (Kd.V_far (p := ⟨gb0z, 0, none⟩) (Kd.V_mono (Kd.V_mono HO52z.out (fun k_ hk => (⟨hk, hk.1⟩ : _ /\ k_ ≠ gb0z))) (fun k_ hk => (⟨hk, hk.1.2.1⟩ : _ /\ k_ ≠ gb5z))) (fun _ hk => hk.1.2) (.bool t1508)) (fun _ hk => hk.1.2) (.slice Ao53z t1509.length co54z)) (fun _ hk => hk.1.2) (.int .i64 t1512)) (fun _ hk => hk.2) (.bool t1513)) (fun _ hk => hk.2) (.slice Ao56z t1514.length co57z)) (fun _ hk => hk.2) (.int .i64 t1517)) (fun _ h_ => h_.1)) (fun _ h_ => h_.1)) pl)); (case side4 => exact (Kd.V_reads' HO52z.out).2.1); rintro e w107z ⟨v108z, rfl, ho48z, hb⟩; refine ⟨_, rfl, ?_⟩; replace HO49z := am (Kd.V_elder' (Kd.V_below (Kd.V_mono (Kd.V_mono (Kd.V_far (p := ⟨gb5z, 2, none⟩) (Kd.V_far (p := ⟨gb5z, 1, none⟩) (Kd.V_far (p := ⟨gb5z, 0, none⟩) (Kd.V_far (p := ⟨gb0z, 2, none⟩) (Kd.V_far (p := ⟨gb0z, 1, none⟩) (Kd.V_far (p := ⟨gb0z, 0, none⟩) (Kd.V_mono (Kd.V_mono HO49z.out (fun k_ hk => (⟨hk, hk.1⟩ : _ /\ k_ ≠ gb0z))) (fun k_ hk => (⟨hk, hk.1.2.1⟩ : _ /\ k_ ≠ gb5z))) (fun _ hk => hk.1.2) (.bool t1508)) (fun _ hk => hk.1.2) (.slice Ao53z t1509.length co54z)) (fun _ hk => hk.1.2) (.int .i64 t1512)) (fun _ hk => hk.2) (.bool t1513)) (fun _ hk => hk.2) (.slice Ao56z t1514.length co57z)) (fun _ hk => hk.2) (.int .i64 t1517)) (fun _ h_ => h_.1)) (fun _ h_ => h_.1)) pl) (Kd.R_base ho48z) hb); replace HO52z := am (Kd.V_elder' (Kd.V_below (Kd.V_mono (Kd.V_mono (Kd.V_far (p := ⟨gb5z, 2, none⟩) (Kd.V_far (p := ⟨gb5z, 1, none⟩) (Kd.V_far (p := ⟨gb5z, 0, none⟩) (Kd.V_far (p := ⟨gb0z, 2, none⟩) (Kd.V_far (p := ⟨gb0z, 1, none⟩) (Kd.V_far (p := ⟨gb0z, 0, none⟩) (Kd.V_mono (Kd.V_mono HO52z.out (fun k_ hk => (⟨hk, hk.1⟩ : _ /\ k_ ≠ gb0z))) (fun k_ hk => (⟨hk, hk.1.2.1⟩ : _ /\ k_ ≠ gb5z))) (fun _ hk => hk.1.2) (.bool t1508)) (fun _ hk => hk.1.2) (.slice Ao53z t1509.length co54z)) (fun _ hk => hk.1.2) (.int .i64 t1512)) (fun _ hk => hk.2) (.bool t1513)) (fun _ hk => hk.2) (.slice Ao56z t1514.length co57z)) (fun _ hk => hk.2) (.int .i64 t1517)) (fun _ h_ => h_.1)) (fun _ h_ => h_.1)) pl) (Kd.R_base ho48z) hb); have HO109z := am (Kd.R_lower ho48z (below_size pB)); replace BK2z := am (blk_below (g := gb0z) (o := .cells #[.bool t1508, .slice Ao53z t1509.length co54z, .int .i64 t1512] 106 (0, 0)) (by refine bp ?_; refine blk_far ?_ NB10z.out _; refine bp ?_; refine blk_far ?_ NB10z.out _; refine bp ?_; refine blk_far ?_ NB10z.out _; refine bp ?_; refine blk_put (cs := #[.bool t1508, .slice Ao53z t1509.length co54z, .int .i64 a0_2]) ?_ 2 _ rfl; refine bp ?_; refine blk_put (cs := #[.bool t1508, .slice A0_1 l0_1.length c0_1, .int .i64 a0_2]) ?_ 1 _ rfl; refine bp ?_; refine blk_put (cs := #[.bool a0_0, .slice A0_1 l0_1.length c0_1, .int .i64 a0_2]) ?_ 0 _ rfl; exact bp BK2z.out) hb); replace BK7z := am (blk_below (g := gb5z) (o := .cells #[.bool t1513, .slice Ao56z t1514.length co57z, .int .i64 t1517] 106 (0, 0)) (by refine bp ?_; refine blk_put (cs := #[.bool t1513, .slice Ao56z t1514.length co57z, .int .i64 a1_2]) ?_ 2 _ rfl; refine bp ?_; refine blk_put (cs := #[.bool t1513, .slice A1_1 l1_1.length c1_1, .int .i64 a1_2]) ?_ 1 _ rfl; refine bp ?_; refine blk_put (cs := #[.bool a1_0, .slice A1_1 l1_1.length c1_1, .int .i64 a1_2]) ?_ 0 _ rfl; refine bp ?_; refine blk_far ?_ NB11z.out _; refine bp ?_; refine blk_far ?_ NB11z.out _; refine bp ?_; refine blk_far ?_ NB11z.out _; exact bp BK7z.out) hb); replace BK14z := am (blk_below (g := gb12z) (o := .cells #[.bool false, .slice none 0 0, .int .i64 0] 106 (0, 0)) (by refine bp ?_; refine blk_far ?_ NB20z.out _; refine bp ?_; refine blk_far ?_ NB20z.out _; refine bp ?_; refine blk_far ?_ NB20z.out _; refine bp ?_; refine blk_far ?_ NB18z.out _; refine bp ?_; refine blk_far ?_ NB18z.out _; refine bp ?_; refine blk_far ?_ NB18z.out _; exact bp BK14z.out) hb); replace HB := am (below_step pB hb); (try clear hb); (try clear hb110z); (try clear hk); (try clear hi); (try clear ho48z); obtain ⟨Ao111z, co112z, eo113z⟩ := Kd.R_slice HO109z.out; subst eo113z) | (refine gL (some 37) Tryz.func105 #[.slice Ao111z t1518.length co112z, .int .i64 t1519] (h := ?_); (with_reducible refine (dec_must.calls (fun k_ => some k_ = (.slice Ao111z t1518.length co112z : Value).ownBlock) (.slice Ao111z t1518.length co112z) t1518 t1519 t1522 w _ ?side1 ?side2 A8.out).mono ?_); (case side1 => exact pB); (case side2 => exact Kd.R_tight rfl HO109z.out); rintro e w114z ⟨v115z, rfl, ho48z, hb, hkp⟩; refine ⟨_, rfl, ?_⟩; have n0_ := am (blk_kept (blk_below BK2z.out pl) hkp (fun hs_ => (fun e_ => (Kd.R_ne HO109z.out BK2z.out (by decide)) e_) hs_)); have n1_ := am (blk_kept (blk_below BK7z.out pl) hkp (fun hs_ => (fun e_ => (Kd.R_ne HO109z.out BK7z.out (by decide)) e_) hs_)); have n2_ := am (blk_kept (blk_below BK14z.out pl) hkp (fun hs_ => (fun e_ => (Kd.R_ne HO109z.out BK14z.out (by decide)) e_) hs_)); have n3_ := am (Kd.V_mono (ok' := fun k_ => k_ ≠ gb0z /\ k_ ≠ gb5z /\ k_ ≠ gb12z /\ some k_ ≠ (v115z : Value).ownBlock) (Kd.V_keptB (HO49z.out) hkp (fun k_ hk_ hs_ => (hk_.2) hs_)) (fun k_ hk_ => ⟨hk_.1.1.1, hk_.1.1.2.1, hk_.1.1.2.2, fun e_ => Or.elim (ho48z.1 k_ e_.symm) (fun hs_ => hk_.2.1 hs_) (fun hn_ => Nat.not_le.2 hk_.2.2 hn_)⟩)); have n4_ := am (Kd.V_mono (ok' := fun k_ => k_ ≠ gb0z /\ k_ ≠ gb5z /\ k_ ≠ gb12z /\ some k_ ≠ (v115z : Value).ownBlock) (Kd.V_keptB (HO52z.out) hkp (fun k_ hk_ hs_ => (hk_.2) hs_)) (fun k_ hk_ => ⟨hk_.1.1.1, hk_.1.1.2.1, hk_.1.1.2.2, fun e_ => Or.elim (ho48z.1 k_ e_.symm) (fun hs_ => hk_.2.1 hs_) (fun hn_ => Nat.not_le.2 hk_.2.2 hn_)⟩)); have n5_ := am (Kd.R_mono (ok' := fun k_ => True) ho48z (fun k_ hk_ => trivial)); have n6_ := am (hb); clear BK2z BK7z BK14z HO49z HO52z HB HO109z; have BK2z := n0_; have BK7z := n1_; have BK14z := n2_; have HO49z := n3_; have HO52z := n4_; have HO116z := n5_; have HB := n6_; clear n0_ n1_ n2_ n3_ n4_ n5_ n6_; (try clear hb); (try clear hkp); (try clear ho48z); obtain ⟨Ao117z, co118z, eo119z⟩ := Kd.R_slice HO116z.out; subst eo119z; obtain ⟨hcz120z, hcz121z, hcz122z, hfz123z, hfz124z, hfz125z⟩ := cEc BK2z.out; obtain ⟨hcz126z, hcz127z, hcz128z, hfz129z, hfz130z, hfz131z⟩ := cEc BK14z.out))
 first
  | have q_ := A39
    refine bodyPost_ret (results_cell_row rfl _ _ gb12z 106 #[.bool t1513, .slice Ao130z t1531.length co131z, .int .i64 t1517] (0, 0) _ rfl (by refine bp ?_; refine blk_put (cs := #[.bool t1513, .slice Ao130z t1531.length co131z, .int .i64 0]) ?_ 2 _ rfl; refine bp ?_; refine blk_put (cs := #[.bool t1513, .slice none 0 0, .int .i64 0]) ?_ 1 _ rfl; refine bp ?_; refine blk_put (cs := #[.bool false, .slice none 0 0, .int .i64 0]) ?_ 0 _ rfl; refine bp ?_; refine blk_far ?_ NB18z.out _; exact bp BK14z.out) Tryz.underlying106 rfl (by kernel_rfl)) rfl ?_
    exact ⟨_, by first | rfl | (simp [errW_none, errW_some] <;> rfl) | (simp only [<- hji3]; first | rfl | (simp [errW_none, errW_some] <;> rfl)) | (simp [*, errW_none, errW_some] <;> rfl), by refine rp ?_; exact Kd.R_mono (Kd.R_far (p := ⟨gb12z, 2, none⟩) (Kd.R_far (p := ⟨gb12z, 1, none⟩) (Kd.R_far (p := ⟨gb12z, 0, none⟩) (Kd.R_far (p := ⟨gb0z, 1, none⟩) (Kd.R_types (Kd.R_types HO129z.out BK2z.out (by decide)) BK14z.out (by decide)) (fun _ hk => hk.1.2) (.slice Ao130z t1531.length co131z)) (fun _ hk => hk.2) (.bool t1513)) (fun _ hk => hk.2) (.slice Ao130z t1531.length co131z)) (fun _ hk => hk.2) (.int .i64 t1517)) (fun _ hk => trivial), pB⟩
  | have q_ := A71
    refine bodyPost_ret (results_cell_row rfl _ _ gb12z 106 #[.bool t1508, .slice Ao130z t1538.length co131z, .int .i64 t1512] (0, 0) _ rfl (by refine bp ?_; refine blk_put (cs := #[.bool t1508, .slice Ao130z t1538.length co131z, .int .i64 0]) ?_ 2 _ rfl; refine bp ?_; refine blk_put (cs := #[.bool t1508, .slice none 0 0, .int .i64 0]) ?_ 1 _ rfl; refine bp ?_; refine blk_put (cs := #[.bool false, .slice none 0 0, .int .i64 0]) ?_ 0 _ rfl; refine bp ?_; refine blk_far ?_ NB18z.out _; exact bp BK14z.out) Tryz.underlying106 rfl (by kernel_rfl)) rfl ?_
    exact ⟨_, by first | rfl | (simp [errW_none, errW_some] <;> rfl) | (simp only [<- hji3]; first | rfl | (simp [errW_none, errW_some] <;> rfl)) | (simp [*, errW_none, errW_some] <;> rfl), by refine rp ?_; exact Kd.R_mono (Kd.R_far (p := ⟨gb12z, 2, none⟩) (Kd.R_far (p := ⟨gb12z, 1, none⟩) (Kd.R_far (p := ⟨gb12z, 0, none⟩) (Kd.R_far (p := ⟨gb0z, 1, none⟩) (Kd.R_types (Kd.R_types HO129z.out BK2z.out (by decide)) BK14z.out (by decide)) (fun _ hk => hk.1.2) (.slice Ao130z t1538.length co131z)) (fun _ hk => hk.2) (.bool t1508)) (fun _ hk => hk.2) (.slice Ao130z t1538.length co131z)) (fun _ hk => hk.2) (.int .i64 t1512)) (fun _ hk => trivial), pB⟩
  | refine bodyPost_ret (results_cell_row rfl _ _ gb12z 106 #[.bool t1508, .slice Ao117z t1522.length co118z, .int .i64 t1512] (0, 0) _ rfl (by refine bp ?_; refine blk_put (cs := #[.bool t1508, .slice Ao117z t1522.length co118z, .int .i64 0]) ?_ 2 _ rfl; refine bp ?_; refine blk_put (cs := #[.bool t1508, .slice none 0 0, .int .i64 0]) ?_ 1 _ rfl; refine bp ?_; refine blk_put (cs := #[.bool false, .slice none 0 0, .int .i64 0]) ?_ 0 _ rfl; refine bp ?_; refine blk_far ?_ NB18z.out _; exact bp BK14z.out) Tryz.underlying106 rfl (by kernel_rfl)) rfl ?_
    exact ⟨_, by first | rfl | (simp [errW_none, errW_some] <;> rfl) | (simp only [<- hji3]; first | rfl | (simp [errW_none, errW_some] <;> rfl)) | (simp [*, errW_none, errW_some] <;> rfl), by refine rp ?_; exact Kd.R_mono (Kd.R_far (p := ⟨gb12z, 2, none⟩) (Kd.R_far (p := ⟨gb12z, 1, none⟩) (Kd.R_far (p := ⟨gb12z, 0, none⟩) (Kd.R_far (p := ⟨gb0z, 1, none⟩) (Kd.R_types (Kd.R_types HO116z.out BK2z.out (by decide)) BK14z.out (by decide)) (fun _ hk => hk.1.2) (.slice Ao117z t1522.length co118z)) (fun _ hk => hk.2) (.bool t1508)) (fun _ hk => hk.2) (.slice Ao117z t1522.length co118z)) (fun _ hk => hk.2) (.int .i64 t1512)) (fun _ hk => trivial), pB⟩) : P := h
theorem dec_number_plus.calls (k : Nat) (a0_0 : Bool) (A0_1 : Option Addr) (c0_1 : Nat) (l0_1 : List Int) (a0_2 : Int) (a1_0 : Bool) (A1_1 : Option Addr) (c1_1 : Nat) (l1_1 : List Int) (a1_2 : Int) (r1 : Bool) (r2 : List Int) (r3 : Int) (w : World) (hr0_1 : Kd.C (Kd.int .u32) w A0_1 l0_1.length l0_1) (hc0_1 : l0_1.length <= c0_1) (hr1_1 : Kd.C (Kd.int .u32) w A1_1 l1_1.length l1_1) (hc1_1 : l1_1.length <= c1_1) (h : dec_number_plus.f k a0_0 l0_1 a0_2 a1_0 l1_1 a1_2 = some (r1, r2, r3)) :
  Calls Tryz.prog 101 #[.agg #[.bool a0_0, .slice A0_1 l0_1.length c0_1, .int .i64 a0_2], .agg #[.bool a1_0, .slice A1_1 l1_1.length c1_1, .int .i64 a1_2]] w fun e w' => ∃ v1_ : Value, e = .returned (.agg #[.bool r1, v1_, .int .i64 r3]) /\ Kd.R (Kd.int .u32) 85 w' w.heap.size (fun _ => True) v1_ r2 /\ Below w.heap.size w w' := by
 have hu106 := Tryz.underlying106
 have HR0_1 := am hr0_1
 have HC0_1 := am hc0_1
 clear hr0_1 hc0_1
 have HR1_1 := am hr1_1
 have HC1_1 := am hc1_1
 clear hr1_1 hc1_1
 have HB := am (Below.refl w.heap.size w)
 have H : ((dec_number_down.f k a0_0 l0_1 a0_2 (mn a0_2 a1_2)).bind fun bt1508 => ((dec_number_down.f k a1_0 l1_1 a1_2 (mn a0_2 a1_2)).bind fun bt1513 => (if (bt1508.1 == bt1513.1) = true then ((nat_Add.f k bt1508.2.1 bt1513.2.1).bind fun bt1518 => ((dec_must.f bt1518.1 bt1518.2).bind fun t1522 => (some (bt1508.1, t1522, bt1508.2.2)))) else ((nat_Compare.f k bt1508.2.1 bt1513.2.1).bind fun bt1525 => (if bt1525.1 < 0 then ((nat_Sub.f k bt1513.2.1 bt1508.2.1).bind fun bt1527 => ((dec_must.f bt1527.1 bt1527.2).bind fun t1531 => (some (bt1513.1, t1531, bt1513.2.2)))) else ((nat_Sub.f k bt1508.2.1 bt1513.2.1).bind fun bt1534 => ((dec_must.f bt1534.1 bt1534.2).bind fun t1538 => (some (bt1508.1, t1538, bt1508.2.2))))))))) = some (r1, r2, r3) := h
 clear h
 obtain ⟨ji3, hji3⟩ : ∃ j_ : Int, (mn a0_2 a1_2) = j_ := ⟨_, rfl⟩
 replace H : ((dec_number_down.f k a0_0 l0_1 a0_2 (ji3)).bind fun bt1508 => ((dec_number_down.f k a1_0 l1_1 a1_2 (ji3)).bind fun bt1513 => (if (bt1508.1 == bt1513.1) = true then ((nat_Add.f k bt1508.2.1 bt1513.2.1).bind fun bt1518 => ((dec_must.f bt1518.1 bt1518.2).bind fun t1522 => (some (bt1508.1, t1522, bt1508.2.2)))) else ((nat_Compare.f k bt1508.2.1 bt1513.2.1).bind fun bt1525 => (if bt1525.1 < 0 then ((nat_Sub.f k bt1513.2.1 bt1508.2.1).bind fun bt1527 => ((dec_must.f bt1527.1 bt1527.2).bind fun t1531 => (some (bt1513.1, t1531, bt1513.2.2)))) else ((nat_Sub.f k bt1508.2.1 bt1513.2.1).bind fun bt1534 => ((dec_must.f bt1534.1 bt1534.2).bind fun t1538 => (some (bt1508.1, t1538, bt1508.2.2))))))))) = some (r1, r2, r3) := by first | (rw [hji3] at H; exact H) | (simp only [hji3] at H ⊢; exact H)
 have hji3_ : (if a1_2 < a0_2 then a1_2 else a0_2) = ji3 := hji3
 obtain ⟨⟨t1508, t1509, t1512⟩, A4, H⟩ := ob H; (try dsimp only at H)
 obtain ⟨⟨t1513, t1514, t1517⟩, A5, H⟩ := ob H; (try dsimp only at H)
 by_cases c6 : (t1508 == t1513) = true
 ·rw [if_pos c6] at H
  have c6b0 : (t1508 == t1513) = true := c6
  (try (have c6b1 : decide (t1508 = t1513) = true := by simpa using c6))
  (try (have c6b2 : (t1508 == t1513) = true := by simpa using c6))
  clear c6
  obtain ⟨⟨t1518, t1519⟩, A7, H⟩ := ob H; (try dsimp only at H)
  obtain ⟨t1522, A8, H⟩ := ob H
  simp only [Option.some.injEq, Prod.mk.injEq] at H
  obtain ⟨rfl, rfl, rfl⟩ := H
  exact dec_number_plus.leaf
 ·rw [if_neg c6] at H
  have c6b0 : (t1508 == t1513) = false := by simpa using c6
  (try (have c6b1 : decide (t1508 = t1513) = false := by simpa using c6))
  (try (have c6b2 : (t1508 == t1513) = false := by simpa using c6))
  (try (have c6b3 : ¬ (t1508 = t1513) := by simpa using c6))
  clear c6
  obtain ⟨⟨t1525, t1526⟩, A36, H⟩ := ob H; (try dsimp only at H)
  by_cases c37 : t1525 < 0
  ·rw [if_pos c37] at H
   have c37b0 : decide (t1525 < 0) = true := decide_eq_true c37
   clear c37
   obtain ⟨⟨t1527, t1528⟩, A38, H⟩ := ob H; (try dsimp only at H)
   obtain ⟨t1531, A39, H⟩ := ob H
   simp only [Option.some.injEq, Prod.mk.injEq] at H
   obtain ⟨rfl, rfl, rfl⟩ := H
   exact dec_number_plus.leaf
  ·rw [if_neg c37] at H
   have c37b0 : decide (t1525 < 0) = false := decide_eq_false c37
   clear c37
   obtain ⟨⟨t1534, t1535⟩, A70, H⟩ := ob H; (try dsimp only at H)
   obtain ⟨t1538, A71, H⟩ := ob H
   simp only [Option.some.injEq, Prod.mk.injEq] at H
   obtain ⟨rfl, rfl, rfl⟩ := H
   exact dec_number_plus.leaf
def dec_must2.f (a0 : ByteArray) (a1 : Int) : Option (ByteArray) := some a0
theorem dec_must2.calls (a0 : ByteArray) (a1 : Int) (r : ByteArray) (w : World) (h : dec_must2.f a0 a1 = some r) :
  Calls Tryz.prog 111 #[.string a0, .int .i64 a1] w fun e w' => e = .returned (.string r) /\ Drawn0 w w' := by
 have H : (some a0) = some r := h
 clear h
 obtain rfl := Option.some.inj H
 go_enter Tryz.func111, Tryz.ntmps111
 go_wp2
 go_ret
 exact ⟨by first | rfl | (simp; done) | (simp [*]; done), by repeat (first | exact Drawn0.refl _ | apply Drawn0.step)⟩
def nat_piece.l0 : Nat -> Int -> List Int -> Int -> Int -> Option (Int)
 | 0, _, _, _, _ => none
 | k + 1, x3, x7, x8, x9 => if x9 < x8 then (if 0 <= x9 then (if x9 < (x7.length : Int) then (nat_piece.l0 k ((((x3 * 10) % 4294967296) + (((rd x7 x9) - 48) % 256)) % 4294967296) x7 x8 (wrap64 (x9 + 1))) else (none)) else (none)) else (some x3)
def nat_piece.f (k : Nat) (a0 : ByteArray) : Option (Int) := (conv_bytes146.f a0).bind fun t240 => (nat_piece.l0 k 0 t240 (t240.length : Int) 0)
theorem nat_piece.calls (k : Nat) (a0 : ByteArray) (r : Int) (w : World) (h : nat_piece.f k a0 = some r) :
  Calls Tryz.prog 152 #[.string a0] w fun e w' => e = .returned (.int .u32 r) /\ Below w.heap.size w w' := by
 have HB := am (Below.refl w.heap.size w)
 have H : ((conv_bytes146.f a0).bind fun t240 => (nat_piece.l0 k 0 t240 (t240.length : Int) 0)) = some r := h
 clear h
 obtain ⟨t240, A2, H⟩ := ob H
 have H' := am H
 clear H
 go_enter Tryz.func152, Tryz.ntmps152
 go_wp2_with (first | ((with_reducible refine gate_dst (N := 7) rfl ?_); refine conv_bytes146.op _ _ _ rfl rfl rfl A2.out ?_; intro v241 w3 ho0 hb; have HO242 := am (Kd.V_lower (Kd.V_mono (ok' := fun k_ => True) ho0 (fun k_ hk_ => trivial)) (below_size pB)); replace HB := am (below_step pB hb); (try clear hb); (try clear hb2); (try clear hk); (try clear hi); (try clear ho0); obtain ⟨Ao4, co4, eo4⟩ := Kd.V_slice HO242.out; subst eo4))
 go_loopg [3, 9] k (fun kq v3 v9 w' => ∃ (x3_1 : Int) (x9_1 : Int), v3 = .int .u32 x3_1 /\ v9 = .int .i64 x9_1 /\ Aside0 (nat_piece.l0 kq x3_1 t240 (t240.length : Int) x9_1 = some r) /\ Aside0 (kq <= k) /\ Aside0 (Kd.V (Kd.int .u8) 5 w' w.heap.size (fun _ => True) (.slice Ao4 t240.length co4) t240) /\ Aside0 (Below w.heap.size w w'))
 case atStart => exact ⟨(0), (0), (by first | rfl | (simp; done) | (simp [*]; done)), (by first | rfl | (simp; done) | (simp [*]; done)), H', ⟨Nat.le_refl _⟩, ⟨by refine vp ?_; exact HO242.out⟩, ⟨pB⟩⟩
 case round =>
  clear H'
  obtain ⟨x3_1, x9_1, rfl, rfl, HA, HK1, HO_7, HB⟩ := hrel
  cases gk with
  | zero => exact absurd HA.out (by simp [nat_piece.l0])
  | succ k1 =>
   have H := HA.out
   clear HA
   simp only [nat_piece.l0] at H
   by_cases c5 : x9_1 < (t240.length : Int)
   ·rw [if_pos c5] at H
    have c5b0 : decide (x9_1 < (t240.length : Int)) = true := decide_eq_true c5
    clear c5
    by_cases c6 : 0 <= x9_1
    ·rw [if_pos c6] at H
     have c6b0 : decide (0 <= x9_1) = true := decide_eq_true c6
     clear c6
     by_cases c7 : x9_1 < (t240.length : Int)
     ·rw [if_pos c7] at H
      have c7b0 : decide (x9_1 < (t240.length : Int)) = true := decide_eq_true c7
      clear c7
      have H' := am H
      clear H
      have p243 : 0 <= (x9_1 : Int) := of_decide_eq_true pQ
      have q243 : x9_1 < (t240.length : Int) := of_decide_eq_true pQ
      obtain ⟨ad243, e243, hx243_0⟩ := Kd.at_int (Kd.V_reads' HO_7.out).2.2 x9_1 p243 q243
      cases e243
      replace p243 := eq_true p243
      replace q243 := eq_true q243
      go_wp2
      go_roundg k1
      case measure => have := HK1.out; omega
      case rel => exact ⟨((((x3_1 * 10) % 4294967296) + (((rd t240 x9_1) - 48) % 256)) % 4294967296), (wrap64 (x9_1 + 1)), (by first | rfl | (simp; done) | (simp [*]; done)), (by first | rfl | (simp; done) | (simp [*]; done)), H', ⟨by have := HK1.out; omega⟩, ⟨by refine vp ?_; exact HO_7.out⟩, ⟨pB⟩⟩
     ·rw [if_neg c7] at H
      exact absurd H (by simp)
    ·rw [if_neg c6] at H
     exact absurd H (by simp)
   ·rw [if_neg c5] at H
    have c5b0 : decide (x9_1 < (t240.length : Int)) = false := decide_eq_false c5
    clear c5
    obtain rfl := Option.some.inj H
    go_wp2
    go_ret
    exact ⟨pE, pB⟩
def nat_Parse_1.f (a0 : Int) : Option (Bool) := if a0 < 48 then (some true) else (some (decide (a0 > 57)))
theorem nat_Parse_1.calls (a0 : Int) (r : Bool) (w : World) (h : nat_Parse_1.f a0 = some r) :
  Calls Tryz.prog 151 #[.int .u8 a0] w fun e w' => e = .returned (.bool r) /\ Drawn0 w w' := by
 have H : (if a0 < 48 then (some true) else (some (decide (a0 > 57)))) = some r := h
 clear h
 by_cases c2 : a0 < 48
 ·rw [if_pos c2] at H
  have c2b0 : decide (a0 < 48) = true := decide_eq_true c2
  clear c2
  obtain rfl := Option.some.inj H
  go_enter Tryz.func151, Tryz.ntmps151
  go_wp2
  go_ret
  exact ⟨by first | rfl | (simp; done) | (simp [*]; done), by repeat (first | exact Drawn0.refl _ | apply Drawn0.step)⟩
 ·rw [if_neg c2] at H
  have c2b0 : decide (a0 < 48) = false := decide_eq_false c2
  clear c2
  obtain rfl := Option.some.inj H
  go_enter Tryz.func151, Tryz.ntmps151
  go_wp2
  go_ret
  exact ⟨by first | rfl | (simp; done) | (simp [*]; done), by repeat (first | exact Drawn0.refl _ | apply Drawn0.step)⟩
end YtjbjkmccfocikaaGreatDoor.B
end
section
namespace YtjbjkmccfocikaaGreatDoor.B
open Go.RowKit YtjbjkmccfocikaaGreatDoorW.PrintWords YtjbjkmccfocikaaGreatDoor.P
def nat_Parse_any.f (l : List Int) : Option Bool := anyO (fun x => nat_Parse_1.f x) l
theorem nat_Parse_any.index (A0 : Option Addr) (c0 : Nat) (l0 : List Int) (b : Bool) (w : World) (hr0 : Kd.C (Kd.int .u8) w A0 l0.length l0) (hc0 : l0.length <= c0) (h : nat_Parse_any.f l0 = some b) :
  Calls Tryz.prog 182 #[.slice A0 l0.length c0, .func (.func 151) #[] #[]] w fun e w' => IdxR b e /\ Below w.heap.size w w' := by
 have hm : l0.length <= 9223372036854775807 := Kd.C_max hr0
 have HR := Aside0.mk hr0
 have HC := Aside0.mk hc0
 unfold nat_Parse_any.f at h
 have H0 := Aside0.mk h
 obtain ⟨n, hn⟩ : ∃ n, l0.length = n := ⟨_, rfl⟩
 rw [hn] at hm
 have HN := Aside0.mk hn
 clear h hr0 hc0
 rw [hn]
 clear hn
 go_enter Tryz.func182, Tryz.ntmps182
 go_wp2
 go_loopw [8] (fun i wr => ∃ k_ : Nat, k_ <= n /\ i = .int .i64 k_ /\ Aside0 (anyO (fun x => nat_Parse_1.f x) (l0.drop k_) = some b) /\ Below w.heap.size w wr) (fun i _ => n - (intOf i).toNat)
 case atStart => exact ⟨0, Nat.zero_le _, rfl, ⟨H0.out⟩, Below.refl _ _⟩
 case round =>
  obtain ⟨q, hq, rfl, HP, hb⟩ := hrel
  by_cases hlt : q < n
  ·have hlt' : (q : Int) < (n : Int) := by omega
   have hdrop : l0.drop q = (l0.getD q (0 : Int)) :: l0.drop (q + 1) := drop_any (by have := HN.out; omega)
   obtain ⟨x, hx⟩ : ∃ x, l0.getD q (0 : Int) = x := ⟨_, rfl⟩
   have h1 := HP.out
   rw [hdrop, hx] at h1
   obtain ⟨t, ht, h2⟩ := anyO_cons h1
   obtain ⟨ad, c, hA, _, hK, hcc⟩ := Kd.C_get HR.out (0 : Int) (q : Int) (by omega) (by have := HN.out; omega)
   have hx' : l0.getD (q : Int).toNat 0 = x := by rw [Int.toNat_natCast]; exact hx
   obtain rfl : c = [.int .u8 (l0.getD (q : Int).toNat 0)] := hK
   rw [hx'] at hcc
   have hcell0 := hcc 0 _ rfl
   obtain ⟨ad', c', hA', _, hK', hcc'⟩ := Kd.C_get HR.out (0 : Int) (0 : Int) (by omega) (by have := HN.out; omega)
   obtain rfl : c' = [.int .u8 (l0.getD (0 : Int).toNat 0)] := hK'
   have hfirst := hcc' 0 _ rfl
   obtain rfl : ad = ad' := Option.some.inj (hA.symm.trans hA')
   subst hA
   obtain ⟨b_, o_, rfl⟩ := addr_any (show w.cell? ad = _ from hfirst)
   have hck : wr.cell? ⟨b_, o_ + q, none⟩ = some (.int .u8 x) := by
    have h3 := pw_cell_below hb hcell0
    rw [add_any] at h3
    simpa [show (Kd.int .u8).sz = 1 from rfl] using h3
   have cF := fun W : World => nat_Parse_1.calls x t W ht
   have HF := Aside0.mk h2
   clear h1 hdrop hx hx' ht hcc hcell0 HP h2 hfirst hcc' hA'
   cases t with
   | true =>
    have HF1 := Aside0.mk (HF.out.1 rfl)
    clear HF
    go_wp2_with (go_at_call 151; refine (cF _).mono ?_; rintro e w1 ⟨rfl, hb1⟩)
    go_ret
    exact ⟨idxR_at HF1.out q, hb.trans (hb1.below.mono hb.size)⟩
   | false =>
    have HF1 := Aside0.mk (HF.out.2 rfl)
    clear HF
    go_wp2_with (go_at_call 151; refine (cF _).mono ?_; rintro e w1 ⟨rfl, hb1⟩)
    go_roundw
    case rel => exact ⟨q + 1, by omega, by go_num, HF1, hb.trans (hb1.below.mono hb.size)⟩
    case measure => simp [intOf]; omega
  ·obtain rfl : q = n := by omega
   have h1 := HP.out
   rw [List.drop_of_length_le (by have := HN.out; omega)] at h1
   have h2 := Aside0.mk (anyO_nil h1)
   clear h1
   go_wp2
   go_ret
   exact ⟨idxR_none h2.out, hb⟩
theorem nat_Parse_any.calls (A0 : Option Addr) (c0 : Nat) (l0 : List Int) (r : Bool) (w : World) (hr0 : Kd.C (Kd.int .u8) w A0 l0.length l0) (hc0 : l0.length <= c0) (h : nat_Parse_any.f l0 = some r) :
  Calls Tryz.prog 150 #[.slice A0 l0.length c0, .func (.func 151) #[] #[]] w fun e w' => e = .returned (.bool r) /\ Below w.heap.size w w' := by
 have cI := nat_Parse_any.index A0 c0 l0 r w hr0 hc0 h
 clear h hr0 hc0
 go_enter Tryz.func150, Tryz.ntmps150
 go_wp2_with (go_at_call 182; refine cI.mono ?_; rintro e w1 ⟨⟨i, rfl, hi⟩, hb1⟩)
 go_ret
 exact ⟨by rw [<- hi]; first | rfl | simp, hb1⟩
end YtjbjkmccfocikaaGreatDoor.B
end
section
namespace YtjbjkmccfocikaaGreatDoor.B
open Go.RowKit YtjbjkmccfocikaaGreatDoorW.PrintWords YtjbjkmccfocikaaGreatDoorW.PrintLast YtjbjkmccfocikaaGreatDoorW.PrintMore
attribute [local go_sem] max2_int min2_int max_two min_two max_three min_three max_four min_four
def nat_Parse.l0 : Nat -> ByteArray -> List Int -> Option (List Int × Int)
 | 0, _, _ => none
 | k + 1, x0, x4 => if x0.toList = ([] : List UInt8) then (some (x4, 0)) else ((nat_num_mul.f k x4 (([1000000000] : List Int))).bind fun t251 => (if 0 <= (wrap64 ((Int.tmod (wrap64 ((x0.size : Int) - 1)) 9) + 1)) then (if (wrap64 ((Int.tmod (wrap64 ((x0.size : Int) - 1)) 9) + 1)) <= (x0.size : Int) then ((nat_piece.f k (x0.extract 0 ((wrap64 ((Int.tmod (wrap64 ((x0.size : Int) - 1)) 9) + 1)) : Int).toNat)).bind fun t254 => ((nat_num_trim.f k (([t254] : List Int))).bind fun t258 => ((nat_num_add.f k t251 t258).bind fun t261 => (nat_Parse.l0 k (x0.extract ((wrap64 ((Int.tmod (wrap64 ((x0.size : Int) - 1)) 9) + 1)) : Int).toNat x0.size) t261)))) else (none)) else (none)))
def nat_Parse.f (k : Nat) (a0 : ByteArray) : Option (List Int × Int) := if (a0.size : Int) = 0 then (some (([] : List Int), 8)) else (if (a0.size : Int) > 2400 then (some (([] : List Int), 5)) else ((conv_bytes146.f a0).bind fun t244 => ((nat_Parse_any.f t244).bind fun t247 => (if t247 = true then (some (([] : List Int), 32)) else (nat_Parse.l0 k a0 ([] : List Int))))))
def nat_Parse.T10 : Bool × List (List Nat × List Nat) := (true, [([], []), ([], []), ([0, 1], [0, 1]), ([], []), ([], []), ([3, 4], [3, 4]), ([5, 2], [5]), ([6], [6]), ([7, 6], [7]), ([2, 8, 8], [2, 8]), ([9, 9, 0, 1, 2, 3, 4, 5, 6, 7, 8, 9], [0, 9])])
def nat_Parse.B10 : List Nat := [0, 0, 3, 0, 0, 24, 63, 127, 255, 511, 1023]
theorem nat_Parse.tab10 : rtab .any (opsOf Tryz.f116 10) = nat_Parse.T10 := by kernel_rfl
theorem nat_Parse.bits10 : waitsOk nat_Parse.T10.2 nat_Parse.B10 = true := by kernel_rfl
theorem nat_Parse.leaf {P : Prop} (h : P := by
 go_enter Tryz.func116, Tryz.ntmps116
 go_wp2_with (first | ((with_reducible refine gate_dst (N := 16) rfl ?_); refine conv_bytes146.op _ _ _ rfl rfl rfl A4.out ?_; intro v0z w1z ho2z hb; have HO3z := am (Kd.V_lower (Kd.V_mono (ok' := fun k_ => True) ho2z (fun k_ hk_ => trivial)) (below_size pB)); replace HB := am (below_step pB hb); (try clear hb); (try clear hb4z); (try clear hk); (try clear hi); (try clear ho2z); obtain ⟨Ao5z, co6z, eo7z⟩ := Kd.V_slice HO3z.out; subst eo7z) | (refine gL (some 17) Tryz.func150 #[.slice Ao5z t244.length co6z, .func (.func 151) #[] #[]] (h := ?_); (with_reducible refine (nat_Parse_any.calls _ _ t244 true _ ?side1 ?side2 A5.out).mono ?_); (case side1 => exact Kd.C_below (Kd.V_reads' HO3z.out).2.2 pl); (case side2 => exact (Kd.V_reads' HO3z.out).2.1); rintro e w8z ⟨rfl, hb⟩; refine ⟨_, rfl, ?_⟩; replace HO3z := am (Kd.V_below (Kd.V_below HO3z.out pl) hb); replace HB := am (below_step pB hb); (try clear hb); (try clear hb4z); (try clear hk); (try clear hi)) | (refine gL (some 17) Tryz.func150 #[.slice Ao5z t244.length co6z, .func (.func 151) #[] #[]] (h := ?_); (with_reducible refine (nat_Parse_any.calls _ _ t244 false _ ?side1 ?side2 A5.out).mono ?_); (case side1 => exact Kd.C_below (Kd.V_reads' HO3z.out).2.2 pl); (case side2 => exact (Kd.V_reads' HO3z.out).2.1); rintro e w8z ⟨rfl, hb⟩; refine ⟨_, rfl, ?_⟩; replace HO3z := am (Kd.V_below (Kd.V_below HO3z.out pl) hb); replace HB := am (below_step pB hb); (try clear hb); (try clear hb4z); (try clear hk); (try clear hi)))
 first
  | have q_ := A5; have q_ : Aside0 (_ = some false) := A5
    go_loopg [0, 4] k (fun kq v9z v10z w' => ∃ (x11z : ByteArray) (x12z : List Int), v9z = .string x11z /\ Aside0 (nat_Parse.l0 kq x11z x12z = some (r1, r2)) /\ Aside0 (kq <= k) /\ Aside0 (Kd.R (Kd.int .u32) 85 w' w.heap.size (fun _ => True) v10z x12z) /\ Aside0 (Below w.heap.size w w'))
    case atStart => exact ⟨(a0), (([] : List Int)), (by first | rfl | (simp; done) | (simp [*]; done)), H', ⟨Nat.le_refl _⟩, ⟨by first | exact Kd.R_nil _ _ _ _ _ | exact Kd.N_nil _ _ _ _ _ | exact Kd.V_nil _ _ _ _ _ | exact Kd.Q_nil _ _ _ _ _ | exact Kd.S_nil _ _ _ _ _⟩, ⟨pB⟩⟩
    case round =>
     clear H'
     (try clear c2); (try clear c2b0); (try clear c2b1); (try clear c3); (try clear c3b0); (try clear c3b1); (try clear c6)
     obtain ⟨x11z, x12z, rfl, HA, HK13z, HO_4, HB⟩ := hrel
     cases gk with
     | zero => exact absurd HA.out (by simp [nat_Parse.l0])
     | succ k1 =>
      have H := HA.out
      clear HA
      simp only [nat_Parse.l0] at H
      by_cases c14z : x11z.toList = ([] : List UInt8)
      ·rw [if_pos c14z] at H
       have c15z : (x11z.toList == ([] : List UInt8)) = true := beq_iff_eq.mpr c14z
       have c16z : (x11z.toList != ([] : List UInt8)) = false := bne_eq_false_iff_eq.mpr c14z
       clear c14z
       simp only [Option.some.injEq, Prod.mk.injEq] at H
       obtain ⟨rfl, rfl⟩ := H
       go_wp2
       go_ret2
       exact ⟨_, pE, by refine rp ?_; exact HO_4.out, pB⟩
      ·rw [if_neg c14z] at H
       have c15z : (x11z.toList == ([] : List UInt8)) = false := beq_eq_false_iff_ne.mpr c14z
       have c16z : (x11z.toList != ([] : List UInt8)) = true := bne_iff_ne.mpr c14z
       obtain ⟨y17z, hy18z⟩ : ∃ y_ : List Int, y_ = (([1000000000] : List Int)) := ⟨_, rfl⟩
       replace H : ((nat_num_mul.f k1 x12z y17z).bind fun t19z => (if 0 <= (wrap64 ((Int.tmod (wrap64 ((x11z.size : Int) - 1)) 9) + 1)) then (if (wrap64 ((Int.tmod (wrap64 ((x11z.size : Int) - 1)) 9) + 1)) <= (x11z.size : Int) then ((nat_piece.f k1 (x11z.extract 0 ((wrap64 ((Int.tmod (wrap64 ((x11z.size : Int) - 1)) 9) + 1)) : Int).toNat)).bind fun t20z => ((nat_num_trim.f k1 (([t20z] : List Int))).bind fun t21z => ((nat_num_add.f k1 t19z t21z).bind fun t22z => (nat_Parse.l0 k1 (x11z.extract ((wrap64 ((Int.tmod (wrap64 ((x11z.size : Int) - 1)) 9) + 1)) : Int).toNat x11z.size) t22z)))) else (none)) else (none))) = some (r1, r2) := by first | (rw [hy18z]; with_reducible exact H) | (have H2_ := (Option.bind_some _ _).symm.trans H; rw [hy18z]; with_reducible exact H2_) | (have H2_ := (Option.bind_some _ _).symm.trans H; with_reducible exact H2_) | with_reducible exact H | (rw [hy18z]; exact H) | exact H
       have Ny23z := am hy18z
       clear hy18z
       obtain ⟨t19z, A24z, H⟩ := ob H
       obtain ⟨ji25z, hji26z⟩ : ∃ j_ : Int, (wrap64 ((Int.tmod (wrap64 ((x11z.size : Int) - 1)) 9) + 1)) = j_ := ⟨_, rfl⟩
       replace H : (if 0 <= (ji25z) then (if (ji25z) <= (x11z.size : Int) then ((nat_piece.f k1 (x11z.extract 0 ((ji25z) : Int).toNat)).bind fun t20z => ((nat_num_trim.f k1 (([t20z] : List Int))).bind fun t21z => ((nat_num_add.f k1 t19z t21z).bind fun t22z => (nat_Parse.l0 k1 (x11z.extract ((ji25z) : Int).toNat x11z.size) t22z)))) else (none)) else (none)) = some (r1, r2) := by first | (rw [hji26z] at H; exact H) | (simp only [hji26z] at H ⊢; exact H)
       (try rw [hji26z] at A24z)
       have hji27z : (IntKind.i64.wrap ((Int.tmod (wrap64 ((x11z.size : Int) - 1)) 9) + 1)) = ji25z := (i64_w _).trans hji26z
       by_cases c28z : 0 <= (ji25z)
       ·rw [if_pos c28z] at H
        have c29z := eq_true c28z
        have c30z : decide (0 <= (ji25z)) = true := decide_eq_true c28z
        clear c28z
        by_cases c31z : (ji25z) <= (x11z.size : Int)
        ·rw [if_pos c31z] at H
         have c32z := eq_true c31z
         have c33z : decide ((ji25z) <= (x11z.size : Int)) = true := decide_eq_true c31z
         clear c31z
         obtain ⟨t20z, A34z, H⟩ := ob H
         obtain ⟨y35z, hy36z⟩ : ∃ y_ : List Int, y_ = (([t20z] : List Int)) := ⟨_, rfl⟩
         replace H : ((nat_num_trim.f k1 y35z).bind fun t21z => ((nat_num_add.f k1 t19z t21z).bind fun t22z => (nat_Parse.l0 k1 (x11z.extract ((ji25z) : Int).toNat x11z.size) t22z))) = some (r1, r2) := by first | (rw [hy36z]; with_reducible exact H) | (have H2_ := (Option.bind_some _ _).symm.trans H; rw [hy36z]; with_reducible exact H2_) | (have H2_ := (Option.bind_some _ _).symm.trans H; with_reducible exact H2_) | with_reducible exact H | (rw [hy36z]; exact H) | exact H
         have Ny37z := am hy36z
         clear hy36z
         obtain ⟨t21z, A38z, H⟩ := ob H
         obtain ⟨t22z, A39z, H⟩ := ob H
         have c40z := eq_true (of_decide_eq_true pQ : 0 <= (ji25z))
         have c41z := eq_true (of_decide_eq_true pQ : (ji25z) <= (x11z.size : Int))
         have H' := am H
         clear H
         try go_wp2
         replace HO_4 := am (Kd.R_drew HO_4.out)
         replace HB := am (below_drew1 HB.out)
         refine start_ (n := 11) (S := fun w' => True) (ds := []) #[false, false, false, false, false, false, false, false, false, false, false] (by kernel_rfl) rfl rfl trivial (fun hHeld => ?_); refine with_tabW nat_Parse.tab10 nat_Parse.bits10 (fun HT_ HW_ => ?_)
         generalize wr.drew = w42z at HO_4 HB hHeld ⊢
         refine pu 0 (some 25) #[true, false, false, false, false, false, false, false, false, false, false] (h := ?_)
         refine pu 3 (some 28) #[true, false, false, true, false, false, false, false, false, false, false] (h := ?_)
         refine pu 4 (some 29) #[true, false, false, true, true, false, false, false, false, false, false] (h := ?_)
         refine pu 5 (some 30) #[true, false, false, true, true, true, false, false, false, false, false] (h := ?_)
         refine one_ (i := 1) (N := some 26) #[true, true, false, true, true, true, false, false, false, false, false] rfl rfl (one_of HT_.out (by kernel_rfl)) (by decide) (fun K hK => ?_)
         refine Kd.R_lit_step (Kd.int .u32) _ 85 ?hg (N := 26) ?hd (xs := ([1000000000] : List Int)) (inner := [.int .u32 1000000000]) (ok := fun _ => True) (okp := fun _ => True) ?hr ?hp (fun _ hk => hk) trivial (Below.refl _ _) (Nat.le_refl _) (by simp) ?_; (case hd => rfl); (case hg => rfl); (case hr => first | (go_simp; done) | (go_simp; rfl)); (case hp => exact (Reps.one (show Kd.M (Kd.int .u32) _ _ _ 1000000000 [.int .u32 1000000000] from rfl) (Reps.none _ _)))
         intro v43z w44z ho45z hb hg_ hnew_
         clear hg_ hnew_
         (first | rw [<- Ny23z.out] at ho45z | (simp only [Int.reduceToNat] at ho45z; rw [<- Ny23z.out] at ho45z))
         have n0_ := am (Kd.R_elder' (Kd.R_below HO_4.out pl) (Kd.R_base ho45z) hb)
         have n1_ := am (Kd.R_lower (Kd.R_new' ho45z (Kd.R_lt (Kd.R_below HO_4.out pl))) (below_size pB))
         have n2_ := am (below_step pB hb)
         clear HO_4 HB
         have HO_4 := n0_
         have HO46z := n1_
         have HB := n2_
         clear n0_ n1_ n2_ hb ho45z
         obtain ⟨Ao47z, co48z, eo49z⟩ := Kd.R_slice HO_4.out
         (first | subst eo49z | (injection eo49z with f1_ f2_ f3_; have f4_ := f1_.symm; have f5_ := f3_.symm; clear f1_ f2_ f3_; subst f4_; subst f5_))
         obtain ⟨Ao50z, co51z, eo52z⟩ := Kd.R_slice HO46z.out
         (first | subst eo52z | (injection eo52z with f1_ f2_ f3_; have f4_ := f1_.symm; have f5_ := f3_.symm; clear f1_ f2_ f3_; subst f4_; subst f5_))
         refine hK.out _ _ trivial (fun hHeld => ?_)
         clear hK K
         refine norm_ (a' := ?_) ?_ ?_
         rotate_left
         ·show Act.put _ (some 26) _ = _
          simp only [Act.put, List.setIfInBounds_toArray, List.set_cons_zero, List.set_cons_succ, i64_w, i32_w]
          rfl
         refine one_ (i := 2) (N := some 27) #[true, true, true, true, true, true, false, false, false, false, false] rfl rfl (one_of HT_.out (by kernel_rfl)) (by decide) (fun K hK => ?_)
         refine goes_ Tryz.func129 (by kernel_rfl) rfl #[.slice Ao47z x12z.length co48z, .slice Ao50z y17z.length co51z] (by rfl) rfl rfl pA ?_
         with_reducible refine (nat_num_mul.calls k1 _ _ x12z _ _ y17z t19z _ ?side1 ?side2 ?side3 ?side4 A24z.out).mono ?_
         (case side1 => exact Kd.C_below (Kd.R_reads' HO_4.out).2.2 pl)
         (case side2 => exact (Kd.R_reads' HO_4.out).2.1)
         (case side3 => exact Kd.C_below (Kd.R_reads' HO46z.out).2.2 pl)
         (case side4 => exact (Kd.R_reads' HO46z.out).2.1)
         rintro e w53z ⟨v54z, rfl, ho2z, hb⟩
         refine ⟨_, rfl, ?_⟩
         have n0_ := am (Kd.R_elder' (Kd.R_below HO_4.out pl) (Kd.R_base ho2z) hb)
         have n1_ := am (Kd.R_elder' (Kd.R_below HO46z.out pl) (Kd.R_base ho2z) hb)
         have n2_ := am (Kd.R_lower (Kd.R_new' (Kd.R_new' ho2z (Kd.R_lt (Kd.R_below HO_4.out pl))) (Kd.R_lt (Kd.R_below HO46z.out pl))) (below_size pB))
         have n3_ := am (below_step pB hb)
         clear HO_4 HO46z HB
         have HO_4 := n0_
         have HO46z := n1_
         have HO55z := n2_
         have HB := n3_
         clear n0_ n1_ n2_ n3_
         (try clear hb); (try clear hb4z); (try clear hk); (try clear hi); (try clear ho2z)
         refine hK.out _ _ trivial (fun hHeld => ?_)
         clear hK K
         refine norm_ (a' := ?_) ?_ ?_
         rotate_left
         ·show Act.put _ (some 27) _ = _
          simp only [Act.put, List.setIfInBounds_toArray, List.set_cons_zero, List.set_cons_succ, i64_w, i32_w]
          rfl
         refine one_ (i := 6) (N := some 31) #[true, true, true, true, true, true, true, false, false, false, false] rfl rfl (one_of HT_.out (by kernel_rfl)) (by decide) (fun K hK => ?_)
         refine goes_ Tryz.func152 (by kernel_rfl) rfl #[.string (x11z.extract 0 ((ji25z) : Int).toNat)] (by rfl) rfl rfl (by (try simp only [List.map_toArray, List.map_cons, List.map_nil]); first | done | (simp only [hji26z]; rfl) | rfl | (simp only [List.length_drop, List.length_take]; rfl)) ?_
         with_reducible refine (nat_piece.calls k1 (x11z.extract 0 ((ji25z) : Int).toNat) t20z _ A34z.out).mono ?_
         rintro e w56z ⟨rfl, hb⟩
         refine ⟨_, rfl, ?_⟩
         replace HO_4 := am (Kd.R_below (Kd.R_below HO_4.out pl) hb)
         replace HO46z := am (Kd.R_below (Kd.R_below HO46z.out pl) hb)
         replace HO55z := am (Kd.R_below (Kd.R_below HO55z.out pl) hb)
         replace HB := am (below_step pB hb)
         (try clear hb); (try clear hb4z); (try clear hk); (try clear hi)
         refine hK.out _ _ trivial (fun hHeld => ?_)
         clear hK K
         refine norm_ (a' := ?_) ?_ ?_
         rotate_left
         ·show Act.put _ (some 31) _ = _
          simp only [Act.put, List.setIfInBounds_toArray, List.set_cons_zero, List.set_cons_succ, i64_w, i32_w]
          rfl
         refine one_ (i := 7) (N := some 32) #[true, true, true, true, true, true, true, true, false, false, false] rfl rfl (one_of HT_.out (by kernel_rfl)) (by decide) (fun K hK => ?_)
         refine Kd.R_lit_step (Kd.int .u32) _ 85 ?hg (N := 32) ?hd (xs := ([t20z] : List Int)) (inner := [.int .u32 t20z]) (ok := fun _ => True) (okp := fun _ => True) ?hr ?hp (fun _ hk => hk) trivial (Below.refl _ _) (Nat.le_refl _) (by simp) ?_; (case hd => rfl); (case hg => rfl); (case hr => first | (go_simp; done) | (go_simp; rfl)); (case hp => exact (Reps.one (show Kd.M (Kd.int .u32) _ _ _ t20z [.int .u32 t20z] from rfl) (Reps.none _ _)))
         intro v57z w58z ho59z hb hg_ hnew_
         clear hg_ hnew_
         (first | rw [<- Ny37z.out] at ho59z | (simp only [Int.reduceToNat] at ho59z; rw [<- Ny37z.out] at ho59z))
         have n0_ := am (Kd.R_elder' (Kd.R_below HO_4.out pl) (Kd.R_base ho59z) hb)
         have n1_ := am (Kd.R_elder' (Kd.R_below HO46z.out pl) (Kd.R_base ho59z) hb)
         have n2_ := am (Kd.R_elder' (Kd.R_below HO55z.out pl) (Kd.R_base ho59z) hb)
         have n3_ := am (Kd.R_lower (Kd.R_new' (Kd.R_new' (Kd.R_new' ho59z (Kd.R_lt (Kd.R_below HO_4.out pl))) (Kd.R_lt (Kd.R_below HO46z.out pl))) (Kd.R_lt (Kd.R_below HO55z.out pl))) (below_size pB))
         have n4_ := am (below_step pB hb)
         clear HO_4 HO46z HO55z HB
         have HO_4 := n0_
         have HO46z := n1_
         have HO55z := n2_
         have HO60z := n3_
         have HB := n4_
         clear n0_ n1_ n2_ n3_ n4_ hb ho59z
         obtain ⟨Ao61z, co62z, eo63z⟩ := Kd.R_slice HO60z.out
         (first | subst eo63z | (injection eo63z with f1_ f2_ f3_; have f4_ := f1_.symm; have f5_ := f3_.symm; clear f1_ f2_ f3_; subst f4_; subst f5_))
         refine hK.out _ _ trivial (fun hHeld => ?_)
         clear hK K
         refine norm_ (a' := ?_) ?_ ?_
         rotate_left
         ·show Act.put _ (some 32) _ = _
          simp only [Act.put, List.setIfInBounds_toArray, List.set_cons_zero, List.set_cons_succ, i64_w, i32_w]
          rfl
         refine one_ (i := 8) (N := some 33) #[true, true, true, true, true, true, true, true, true, false, false] rfl rfl (one_of HT_.out (by kernel_rfl)) (by decide) (fun K hK => ?_)
         refine goes_ Tryz.func132 (by kernel_rfl) rfl #[.slice Ao61z y35z.length co62z] (by rfl) rfl rfl pA ?_
         with_reducible refine (nat_num_trim.calls k1 (fun k_ => some k_ = (.slice Ao61z y35z.length co62z : Value).ownBlock) (.slice Ao61z y35z.length co62z) y35z t21z w _ ?side1 ?side2 A38z.out).mono ?_
         (case side1 => exact pB)
         (case side2 => exact Kd.R_tight rfl HO60z.out)
         rintro e w64z ⟨v65z, rfl, ho2z, hb, hkp⟩
         refine ⟨_, rfl, ?_⟩
         have n0_ := am (Kd.R_mono (ok' := fun k_ => some k_ ≠ (.slice Ao50z y17z.length co51z : Value).ownBlock /\ some k_ ≠ (v54z : Value).ownBlock /\ some k_ ≠ (v65z : Value).ownBlock) (Kd.R_keptB (HO_4.out) hkp (fun k_ hk_ hs_ => (hk_.2) hs_)) (fun k_ hk_ => ⟨hk_.1.1.1.2, hk_.1.1.2, fun e_ => Or.elim (ho2z.1 k_ e_.symm) (fun hs_ => hk_.2.1 hs_) (fun hn_ => Nat.not_le.2 hk_.2.2 hn_)⟩))
         have n1_ := am (Kd.R_mono (ok' := fun k_ => some k_ ≠ (.slice Ao47z x12z.length co48z : Value).ownBlock /\ some k_ ≠ (v54z : Value).ownBlock /\ some k_ ≠ (v65z : Value).ownBlock) (Kd.R_keptB (HO46z.out) hkp (fun k_ hk_ hs_ => (hk_.2) hs_)) (fun k_ hk_ => ⟨hk_.1.1.1.2, hk_.1.1.2, fun e_ => Or.elim (ho2z.1 k_ e_.symm) (fun hs_ => hk_.2.1 hs_) (fun hn_ => Nat.not_le.2 hk_.2.2 hn_)⟩))
         have n2_ := am (Kd.R_mono (ok' := fun k_ => some k_ ≠ (.slice Ao47z x12z.length co48z : Value).ownBlock /\ some k_ ≠ (.slice Ao50z y17z.length co51z : Value).ownBlock /\ some k_ ≠ (v65z : Value).ownBlock) (Kd.R_keptB (HO55z.out) hkp (fun k_ hk_ hs_ => (hk_.2) hs_)) (fun k_ hk_ => ⟨hk_.1.1.1.2, hk_.1.1.2, fun e_ => Or.elim (ho2z.1 k_ e_.symm) (fun hs_ => hk_.2.1 hs_) (fun hn_ => Nat.not_le.2 hk_.2.2 hn_)⟩))
         have n3_ := am (Kd.R_mono (ok' := fun k_ => some k_ ≠ (.slice Ao47z x12z.length co48z : Value).ownBlock /\ some k_ ≠ (.slice Ao50z y17z.length co51z : Value).ownBlock /\ some k_ ≠ (v54z : Value).ownBlock) ho2z (fun k_ hk_ => ⟨Or.elim hk_ (fun hs_ => fun e_ => (((HO_4.out).1 k_ e_.symm).2) hs_) (fun hn_ => (Kd.fresh' (Kd.R_lt (Kd.R_below HO_4.out pl)) k_ hn_)), Or.elim hk_ (fun hs_ => fun e_ => (((HO46z.out).1 k_ e_.symm).2) hs_) (fun hn_ => (Kd.fresh' (Kd.R_lt (Kd.R_below HO46z.out pl)) k_ hn_)), Or.elim hk_ (fun hs_ => fun e_ => (((HO55z.out).1 k_ e_.symm).2) hs_) (fun hn_ => (Kd.fresh' (Kd.R_lt (Kd.R_below HO55z.out pl)) k_ hn_))⟩))
         have n4_ := am (hb)
         clear HO_4 HO46z HO55z HB HO60z
         have HO_4 := n0_
         have HO46z := n1_
         have HO55z := n2_
         have HO66z := n3_
         have HB := n4_
         clear n0_ n1_ n2_ n3_ n4_
         (try clear hb); (try clear hkp); (try clear ho2z)
         obtain ⟨Ao67z, co68z, eo69z⟩ := Kd.R_slice HO55z.out
         (first | subst eo69z | (injection eo69z with f1_ f2_ f3_; have f4_ := f1_.symm; have f5_ := f3_.symm; clear f1_ f2_ f3_; subst f4_; subst f5_))
         obtain ⟨Ao70z, co71z, eo72z⟩ := Kd.R_slice HO66z.out
         (first | subst eo72z | (injection eo72z with f1_ f2_ f3_; have f4_ := f1_.symm; have f5_ := f3_.symm; clear f1_ f2_ f3_; subst f4_; subst f5_))
         refine hK.out _ _ trivial (fun hHeld => ?_)
         clear hK K
         refine norm_ (a' := ?_) ?_ ?_
         rotate_left
         ·show Act.put _ (some 33) _ = _
          simp only [Act.put, List.setIfInBounds_toArray, List.set_cons_zero, List.set_cons_succ, i64_w, i32_w]
          rfl
         refine one_ (i := 9) (N := some 34) #[true, true, true, true, true, true, true, true, true, true, false] rfl rfl (one_of HT_.out (by kernel_rfl)) (by decide) (fun K hK => ?_)
         refine goes_ Tryz.func131 (by kernel_rfl) rfl #[.slice Ao67z t19z.length co68z, .slice Ao70z t21z.length co71z] (by rfl) rfl rfl pA ?_
         with_reducible refine (nat_num_add.calls k1 _ _ t19z _ _ t21z t22z _ ?side1 ?side2 ?side3 ?side4 A39z.out).mono ?_
         (case side1 => exact Kd.C_below (Kd.R_reads' HO55z.out).2.2 pl)
         (case side2 => exact (Kd.R_reads' HO55z.out).2.1)
         (case side3 => exact Kd.C_below (Kd.R_reads' HO66z.out).2.2 pl)
         (case side4 => exact (Kd.R_reads' HO66z.out).2.1)
         rintro e w73z ⟨v74z, rfl, ho2z, hb⟩
         refine ⟨_, rfl, ?_⟩
         have n0_ := am (Kd.R_elder' (Kd.R_below HO_4.out pl) (Kd.R_base ho2z) hb)
         have n1_ := am (Kd.R_elder' (Kd.R_below HO46z.out pl) (Kd.R_base ho2z) hb)
         have n2_ := am (Kd.R_elder' (Kd.R_below HO55z.out pl) (Kd.R_base ho2z) hb)
         have n3_ := am (Kd.R_elder' (Kd.R_below HO66z.out pl) (Kd.R_base ho2z) hb)
         have n4_ := am (Kd.R_lower (Kd.R_new' (Kd.R_new' (Kd.R_new' (Kd.R_new' ho2z (Kd.R_lt (Kd.R_below HO_4.out pl))) (Kd.R_lt (Kd.R_below HO46z.out pl))) (Kd.R_lt (Kd.R_below HO55z.out pl))) (Kd.R_lt (Kd.R_below HO66z.out pl))) (below_size pB))
         have n5_ := am (below_step pB hb)
         clear HO_4 HO46z HO55z HO66z HB
         have HO_4 := n0_
         have HO46z := n1_
         have HO55z := n2_
         have HO66z := n3_
         have HO75z := n4_
         have HB := n5_
         clear n0_ n1_ n2_ n3_ n4_ n5_
         (try clear hb); (try clear hb4z); (try clear hk); (try clear hi); (try clear ho2z)
         refine hK.out _ _ trivial (fun hHeld => ?_)
         clear hK K
         refine norm_ (a' := ?_) ?_ ?_
         rotate_left
         ·show Act.put _ (some 34) _ = _
          simp only [Act.put, List.setIfInBounds_toArray, List.set_cons_zero, List.set_cons_succ, i64_w, i32_w]
          rfl
         refine pu 10 (some 4) #[true, true, true, true, true, true, true, true, true, true, true] (h := ?_)
         refine done_ (done_of HT_.out (by kernel_rfl)) ?_
         try go_wp2
         go_roundg k1
         case measure => have := HK13z.out; omega
         case rel => exact ⟨(x11z.extract ((ji25z) : Int).toNat x11z.size), (t22z), (by first | rfl | (simp; done) | (simp only [<- hji26z] <;> (first | rfl | simp)) | (simp [*]; done)), (by first | exact H' | (have H_ := H'.out; simp only [<- hji26z] at H_; exact ⟨H_⟩) | (refine ⟨?_⟩; have H_ := H'.out; simp only [<- hji26z] at H_ ⊢; exact H_)), ⟨by have := HK13z.out; omega⟩, ⟨by refine rp ?_; exact Kd.R_mono HO75z.out (fun _ hk => trivial)⟩, ⟨pB⟩⟩
        ·rw [if_neg c31z] at H
         exact absurd H (by simp)
       ·rw [if_neg c28z] at H
        exact absurd H (by simp)
  | go_ret2
    exact ⟨_, pE, by first | exact Kd.R_nil _ _ _ _ _ | exact Kd.N_nil _ _ _ _ _ | exact Kd.V_nil _ _ _ _ _ | exact Kd.Q_nil _ _ _ _ _ | exact Kd.S_nil _ _ _ _ _, pB⟩) : P := h
theorem nat_Parse.calls (k : Nat) (a0 : ByteArray) (r1 : List Int) (r2 : Int) (w : World) (h : nat_Parse.f k a0 = some (r1, r2)) :
  Calls Tryz.prog 116 #[.string a0] w fun e w' => ∃ v0_ : Value, e = .returned (.tuple #[v0_, .int .i64 r2]) /\ Kd.R (Kd.int .u32) 85 w' w.heap.size (fun _ => True) v0_ r1 /\ Below w.heap.size w w' := by
 have HB := am (Below.refl w.heap.size w)
 have H : (if (a0.size : Int) = 0 then (some (([] : List Int), 8)) else (if (a0.size : Int) > 2400 then (some (([] : List Int), 5)) else ((conv_bytes146.f a0).bind fun t244 => ((nat_Parse_any.f t244).bind fun t247 => (if t247 = true then (some (([] : List Int), 32)) else (nat_Parse.l0 k a0 ([] : List Int))))))) = some (r1, r2) := h
 clear h
 by_cases c2 : (a0.size : Int) = 0
 ·rw [if_pos c2] at H
  have c2b0 : ((a0.size : Int) == 0) = true := beq_iff_eq.mpr c2
  have c2b1 : ((a0.size : Int) != 0) = false := bne_eq_false_iff_eq.mpr c2
  clear c2
  simp only [Option.some.injEq, Prod.mk.injEq] at H
  obtain ⟨rfl, rfl⟩ := H
  exact nat_Parse.leaf
 ·rw [if_neg c2] at H
  have c2b0 : ((a0.size : Int) == 0) = false := beq_eq_false_iff_ne.mpr c2
  have c2b1 : ((a0.size : Int) != 0) = true := bne_iff_ne.mpr c2
  by_cases c3 : (a0.size : Int) > 2400
  ·rw [if_pos c3] at H
   have c3b0 : decide (2400 < (a0.size : Int)) = true := decide_eq_true c3
   have c3b1 : decide (2400 < a0.size) = true := decide_eq_true (by omega)
   clear c3
   simp only [Option.some.injEq, Prod.mk.injEq] at H
   obtain ⟨rfl, rfl⟩ := H
   exact nat_Parse.leaf
  ·rw [if_neg c3] at H
   have c3b0 : decide (2400 < (a0.size : Int)) = false := decide_eq_false c3
   have c3b1 : decide (2400 < a0.size) = false := decide_eq_false (by omega)
   clear c3
   obtain ⟨t244, A4, H⟩ := ob H
   obtain ⟨t247, A5, H⟩ := ob H
   by_cases c6 : t247 = true
   ·subst c6
    rw [if_pos rfl] at H
    simp only [Option.some.injEq, Prod.mk.injEq] at H
    obtain ⟨rfl, rfl⟩ := H
    exact nat_Parse.leaf
   ·replace c6 := Bool.eq_false_iff.mpr c6
    subst c6
    rw [if_neg (show ¬ (false = true) by decide)] at H
    have H' := am H
    clear H
    exact nat_Parse.leaf
end YtjbjkmccfocikaaGreatDoor.B
end
section
namespace YtjbjkmccfocikaaGreatDoor.B
open Go.RowKit Go.Shelf YtjbjkmccfocikaaGreatDoorW.PrintWords
def strings_TrimRight.f (s t : ByteArray) : Option ByteArray := if t = ⟨#[48]⟩ /\ s.size <= 9223372036854775807 then some ⟨(Lib.trimRightB s.data.toList 48).toArray⟩ else none
theorem strings_TrimRight.calls (a0 a1 : ByteArray) (r : ByteArray) (w : World) (h : strings_TrimRight.f a0 a1 = some r) :
  Calls Tryz.prog 167 #[.string a0, .string a1] w fun e w' => e = .returned (.string r) /\ Below w.heap.size w w' := by
 unfold strings_TrimRight.f at h
 split at h
 ·rename_i hh
  obtain ⟨rfl, hs⟩ := hh
  obtain rfl := Option.some.inj h
  exact (Tryz.strings_TrimRight_one a0 48 (by decide) w hs).mono fun e w' ⟨he, hw⟩ => ⟨he, by subst hw; exact Below.refl _ _⟩
 ·cases h
end YtjbjkmccfocikaaGreatDoor.B
end
section
namespace YtjbjkmccfocikaaGreatDoor.B
open Go.RowKit YtjbjkmccfocikaaGreatDoorW.PrintWords YtjbjkmccfocikaaGreatDoorW.PrintLast YtjbjkmccfocikaaGreatDoorW.PrintMore
attribute [local go_sem] max2_int min2_int max_two min_two max_three min_three max_four min_four
def dec_number_strip.f (k : Nat) (a0_0 : Bool) (l0_1 : List Int) (a0_2 : Int) : Option (Bool × List Int × Int) := (nat_Print.f k l0_1).bind fun bt266 => ((dec_must2.f bt266.1 bt266.2).bind fun t268 => ((strings_TrimRight.f t268 (⟨#[48]⟩ : ByteArray)).bind fun t269 => (if (t269.size : Int) = (t268.size : Int) then (some (a0_0, l0_1, a0_2)) else ((nat_Parse.f k t269).bind fun bt270 => ((dec_must.f bt270.1 bt270.2).bind fun t274 => (some (a0_0, t274, wrap64 (a0_2 + (wrap64 ((t268.size : Int) - (t269.size : Int)))))))))))
theorem dec_number_strip.leaf {P : Prop} (h : P := by
 obtain ⟨Ao0z, co1z, eo2z⟩ := Kd.R_slice HO0_1.out
 subst eo2z
 go_enter Tryz.func140, Tryz.ntmps140
 go_wp2_with (first | ((with_reducible refine gate_dst (N := 1) rfl ?_); refine box_event ?hg (N := 1) ?hd (cs := #[.bool a0_0, .slice Ao0z l0_1.length co1z, .int .i64 a0_2]) (t := 106) ?hr ?_; (case hd => rfl); (case hg => rfl); (case hr => first | (go_simp; done) | (go_simp; rfl)); intro gb3z hg w4z hbox hb; have n0_ := am (Kd.R_below (Kd.R_below HO0_1.out pl) hb); have n1_ := am (Kept.below (S := (fun k_ => P0_1_ k_)) (by repeat (first | (with_reducible first | exact HK.out | apply Kept.alloc | apply Kept.drewN | apply Kept.drew) | exact HK.out)) hb); have n2_ := am (below_step pB hb); have n3_ := am (hbox); have n4_ := am ((by rw [hg]; exact (by first | exact HK.out.1 | exact (show Kept w _ (fun k_ => P0_1_ k_) from by repeat (first | (with_reducible first | exact HK.out | apply Kept.alloc | apply Kept.drewN | apply Kept.drew) | exact HK.out)).1) : w.heap.size <= gb3z)); have n5_ := am ((gw hg pB : w0.heap.size <= gb3z)); clear HO0_1 HK HB; have HO0_1 := n0_; have HK := n1_; have HB := n2_; have BK5z := n3_; have GW6z := n4_; have GE7z := n5_; clear n0_ n1_ n2_ n3_ n4_ n5_ hb hbox hg) | ((with_reducible refine gate_dst (N := 2) rfl ?_); refine box_event ?hg (N := 2) ?hd (cs := #[.bool false, .slice none 0 0, .int .i64 0]) (t := 106) ?hr ?_; (case hd => rfl); (case hg => rfl); (case hr => first | (go_simp; done) | (go_simp; rfl)); intro gb8z hg w9z hbox hb; have n0_ := am (Kd.R_below (Kd.R_below HO0_1.out pl) hb); have n1_ := am (blk_below (blk_below BK5z.out pl) hb); have n2_ := am (Kept.below (S := (fun k_ => P0_1_ k_)) (by repeat (first | (with_reducible first | exact HK.out | apply Kept.alloc | apply Kept.drewN | apply Kept.drew | refine Kept.setCell ?_ (.inr GW6z.out) _) | exact HK.out)) hb); have n3_ := am (below_step pB hb); have n4_ := am (hbox); have n5_ := am ((by rw [hg]; exact (by first | exact HK.out.1 | exact (show Kept w _ (fun k_ => P0_1_ k_) from by repeat (first | (with_reducible first | exact HK.out | apply Kept.alloc | apply Kept.drewN | apply Kept.drew | refine Kept.setCell ?_ (.inr GW6z.out) _) | exact HK.out)).1) : w.heap.size <= gb8z)); have n6_ := am ((gw hg pB : w0.heap.size <= gb8z)); have n7_ := am ((nl hg (blk_below BK5z.out pl) : gb3z ≠ gb8z)); have n8_ := am ((ng hg (blk_below BK5z.out pl) : gb8z ≠ gb3z)); clear HO0_1 BK5z HK HB; have HO0_1 := n0_; have BK5z := n1_; have HK := n2_; have HB := n3_; have BK10z := n4_; have GW11z := n5_; have GE12z := n6_; have NB13z := n7_; have NB14z := n8_; clear n0_ n1_ n2_ n3_ n4_ n5_ n6_ n7_ n8_ hb hbox hg; have hnb15z := NB13z.out; have hnc16z := NB14z.out; obtain ⟨hcz17z, hcz18z, hcz19z, hfz20z, hfz21z, hfz22z⟩ := cEc BK5z.out) | (refine gL (some 8) Tryz.func112 #[.slice Ao0z l0_1.length co1z] (h := ?_); (with_reducible refine (nat_Print.calls k (fun k_ => some k_ = (.slice Ao0z l0_1.length co1z : Value).ownBlock) _ _ l0_1 t266 t267 _ ?side1 A2.out).mono ?_); (case side1 => exact Kd.R_V (Kd.R_tight rfl (Kd.R_types (Kd.R_types (HO0_1.out) BK5z.out (by decide)) BK10z.out (by decide)))); rintro e w23z ⟨rfl, hb⟩; refine ⟨_, rfl, ?_⟩; replace HO0_1 := am (Kd.R_below (Kd.R_below HO0_1.out pl) hb); replace BK5z := am (blk_below (blk_below BK5z.out pl) hb); replace BK10z := am (blk_below (blk_below BK10z.out pl) hb); replace HK := am (Kept.below (S := (fun k_ => P0_1_ k_)) (by repeat (first | (with_reducible first | exact HK.out | apply Kept.alloc | apply Kept.drewN | apply Kept.drew | refine Kept.setCell ?_ (.inr GW6z.out) _ | refine Kept.setCell ?_ (.inr GW11z.out) _) | exact HK.out)) hb); replace HB := am (below_step pB hb); (try clear hb); (try clear hb24z); (try clear hk); (try clear hi)) | (refine gL (some 11) Tryz.func111 #[.string t266, .int .i64 t267] (h := ?_); (with_reducible refine (dec_must2.calls t266 t267 t268 _ A3.out).mono ?_); rintro e w' ⟨rfl, ⟨nd, rfl⟩⟩; refine ⟨_, rfl, ?_⟩; (try (rw [drewN_self w23z]; generalize hq_ : World.drewN w23z _ = w23z; have n0_ : Aside0 (Kd.R (Kd.int .u32) 85 w23z w0.heap.size (fun k_ => (P0_1_ k_ \/ w.heap.size <= k_)) (.slice Ao0z l0_1.length co1z) l0_1) := ⟨by rw [<- hq_]; exact (Kd.R_below HO0_1.out pl)⟩; have n1_ : Aside0 (w23z.heap[gb3z]? = some (.cells #[.bool a0_0, .slice Ao0z l0_1.length co1z, .int .i64 a0_2] 106 (0, 0))) := ⟨by rw [<- hq_]; exact (blk_below BK5z.out pl)⟩; have n2_ : Aside0 (w23z.heap[gb8z]? = some (.cells #[.bool false, .slice none 0 0, .int .i64 0] 106 (0, 0))) := ⟨by rw [<- hq_]; exact (blk_below BK10z.out pl)⟩; have n3_ : Aside0 (Kept w w23z (fun k_ => P0_1_ k_)) := ⟨by rw [<- hq_]; exact (by repeat (first | (with_reducible first | exact HK.out | apply Kept.alloc | apply Kept.drewN | apply Kept.drew | refine Kept.setCell ?_ (.inr GW6z.out) _ | refine Kept.setCell ?_ (.inr GW11z.out) _) | exact HK.out))⟩; have n4_ : Aside0 (Below w0.heap.size w0 w23z) := ⟨by rw [<- hq_]; exact pB⟩; clear HO0_1 BK5z BK10z HK HB hq_; have HO0_1 := n0_; have BK5z := n1_; have BK10z := n2_; have HK := n3_; have HB := n4_; clear n0_ n1_ n2_ n3_ n4_))) | ((have q_ := A16; clear q_); refine gL (some 13) Tryz.func167 #[.string t268, .string (⟨#[48]⟩ : ByteArray)] (h := ?_); (with_reducible refine (strings_TrimRight.calls t268 (⟨#[48]⟩ : ByteArray) t269 _ A4.out).mono ?_); rintro e w25z ⟨rfl, hb⟩; refine ⟨_, rfl, ?_⟩; replace HO0_1 := am (Kd.R_below (Kd.R_below HO0_1.out pl) hb); replace BK5z := am (blk_below (blk_below BK5z.out pl) hb); replace BK10z := am (blk_below (blk_below BK10z.out pl) hb); replace HK := am (Kept.below (S := (fun k_ => P0_1_ k_)) (by repeat (first | (with_reducible first | exact HK.out | apply Kept.alloc | apply Kept.drewN | apply Kept.drew | refine Kept.setCell ?_ (.inr GW6z.out) _ | refine Kept.setCell ?_ (.inr GW11z.out) _) | exact HK.out)) hb); replace HB := am (below_step pB hb); (try clear hb); (try clear hb24z); (try clear hk); (try clear hi)) | (refine gL (some 21) Tryz.func116 #[.string t269] (h := ?_); (with_reducible refine (nat_Parse.calls k t269 t270 t271 _ A15.out).mono ?_); rintro e w26z ⟨v27z, rfl, ho28z, hb⟩; refine ⟨_, rfl, ?_⟩; have n0_ := am (Kd.R_elder' (Kd.R_below HO0_1.out pl) (Kd.R_base ho28z) hb); have n1_ := am (Kd.R_lower (Kd.R_new' (Kd.R_newM (M := fun k_ => (P0_1_ k_ \/ w.heap.size <= k_)) ho28z (by first | exact HK.out.1 | exact (show Kept w _ (fun k_ => P0_1_ k_) from by repeat (first | (with_reducible first | exact HK.out | apply Kept.alloc | apply Kept.drewN | apply Kept.drew | refine Kept.setCell ?_ (.inr GW6z.out) _ | refine Kept.setCell ?_ (.inr GW11z.out) _) | exact HK.out)).1) (fun k_ h_ => .inr h_)) (Kd.R_lt (Kd.R_below HO0_1.out pl))) (below_size pB)); have n2_ := am (blk_below (blk_below BK5z.out pl) hb); have n3_ := am (blk_below (blk_below BK10z.out pl) hb); have n4_ := am (Kept.below (S := (fun k_ => P0_1_ k_)) (by repeat (first | (with_reducible first | exact HK.out | apply Kept.alloc | apply Kept.drewN | apply Kept.drew | refine Kept.setCell ?_ (.inr GW6z.out) _ | refine Kept.setCell ?_ (.inr GW11z.out) _) | exact HK.out)) hb); have n5_ := am (below_step pB hb); clear HO0_1 BK5z BK10z HK HB; have HO0_1 := n0_; have HO29z := n1_; have BK5z := n2_; have BK10z := n3_; have HK := n4_; have HB := n5_; clear n0_ n1_ n2_ n3_ n4_ n5_; (try clear hb); (try clear hb24z); (try clear hk); (try clear hi); (try clear ho28z); obtain ⟨Ao30z, co31z, eo32z⟩ := Kd.R_slice HO29z.out; subst eo32z) | (refine gL (some 24) Tryz.func105 #[.slice Ao30z t270.length co31z, .int .i64 t271] (h := ?_); (with_reducible refine (dec_must.calls (fun k_ => some k_ = (.slice Ao30z t270.length co31z : Value).ownBlock) (.slice Ao30z t270.length co31z) t270 t271 t274 w0 _ ?side1 ?side2 A16.out).mono ?_); (case side1 => exact pB); (case side2 => exact Kd.R_tight rfl HO29z.out); rintro e w33z ⟨v34z, rfl, ho28z, hb, hkp⟩; refine ⟨_, rfl, ?_⟩; have n0_ := am (Kd.R_mono (ok' := fun k_ => (P0_1_ k_ \/ w.heap.size <= k_) /\ some k_ ≠ (v34z : Value).ownBlock) (Kd.R_keptB (HO0_1.out) hkp (fun k_ hk_ hs_ => (hk_.2) hs_)) (fun k_ hk_ => ⟨hk_.1.1, fun e_ => Or.elim (ho28z.1 k_ e_.symm) (fun hs_ => hk_.2.1 hs_) (fun hn_ => Nat.not_le.2 hk_.2.2 hn_)⟩)); have n1_ := am (blk_kept (blk_below BK5z.out pl) hkp (fun hs_ => (fun e_ => (Kd.R_ne HO29z.out BK5z.out (by decide)) e_) hs_)); have n2_ := am (blk_kept (blk_below BK10z.out pl) hkp (fun hs_ => (fun e_ => (Kd.R_ne HO29z.out BK10z.out (by decide)) e_) hs_)); have n3_ := am (Kd.R_mono (ok' := fun k_ => (P0_1_ k_ \/ w.heap.size <= k_) /\ some k_ ≠ (.slice Ao0z l0_1.length co1z : Value).ownBlock) ho28z (fun k_ hk_ => ⟨Or.elim hk_ (fun hs_ => (HO29z.out.1 k_ (hs_).symm).1.1) (fun hn_ => (.inr (Nat.le_trans (by first | exact HK.out.1 | exact (show Kept w _ (fun k_ => P0_1_ k_) from by repeat (first | (with_reducible first | exact HK.out | apply Kept.alloc | apply Kept.drewN | apply Kept.drew | refine Kept.setCell ?_ (.inr GW6z.out) _ | refine Kept.setCell ?_ (.inr GW11z.out) _) | exact HK.out)).1) hn_))), Or.elim hk_ (fun hs_ => fun e_ => (((HO0_1.out).1 k_ e_.symm).2) hs_) (fun hn_ => (Kd.fresh' (Kd.R_lt (Kd.R_below HO0_1.out pl)) k_ hn_))⟩)); have n4_ := am (Kept.then_ (S := (fun k_ => P0_1_ k_)) (by repeat (first | (with_reducible first | exact HK.out | apply Kept.alloc | apply Kept.drewN | apply Kept.drew | refine Kept.setCell ?_ (.inr GW6z.out) _ | refine Kept.setCell ?_ (.inr GW11z.out) _) | exact HK.out)) hkp (fun k_ hs_ => (fun e_ => (HO29z.out.1 k_ e_.symm).1.1) hs_)); have n5_ := am (hb); clear HO0_1 BK5z BK10z HK HB HO29z; have HO0_1 := n0_; have BK5z := n1_; have BK10z := n2_; have HO35z := n3_; have HK := n4_; have HB := n5_; clear n0_ n1_ n2_ n3_ n4_ n5_; (try clear hb); (try clear hkp); (try clear ho28z); obtain ⟨Ao36z, co37z, eo38z⟩ := Kd.R_slice HO35z.out; subst eo38z; obtain ⟨hcz39z, hcz40z, hcz41z, hfz42z, hfz43z, hfz44z⟩ := cEc BK5z.out; obtain ⟨hcz45z, hcz46z, hcz47z, hfz48z, hfz49z, hfz50z⟩ := cEc BK10z.out) | ((have q_ : (t269.size == t268.size) = true := c5b2; clear q_); refine gL (some 13) Tryz.func167 #[.string t268, .string (⟨#[48]⟩ : ByteArray)] (h := ?_); (with_reducible refine (strings_TrimRight.calls t268 (⟨#[48]⟩ : ByteArray) t269 _ A4.out).mono ?_); rintro e w25z ⟨rfl, hb⟩; refine ⟨_, rfl, ?_⟩; replace HO0_1 := am (Kd.R_below (Kd.R_below HO0_1.out pl) hb); replace BK5z := am (blk_below (blk_below BK5z.out pl) hb); replace BK10z := am (blk_below (blk_below BK10z.out pl) hb); replace HK := am (Kept.below (S := (fun k_ => P0_1_ k_)) (by repeat (first | (with_reducible first | exact HK.out | apply Kept.alloc | apply Kept.drewN | apply Kept.drew | refine Kept.setCell ?_ (.inr GW6z.out) _ | refine Kept.setCell ?_ (.inr GW11z.out) _) | exact HK.out)) hb); replace HB := am (below_step pB hb); (try clear hb); (try clear hb24z); (try clear hk); (try clear hi); obtain ⟨hcz26z, hcz27z, hcz28z, hfz29z, hfz30z, hfz31z⟩ := cEc BK5z.out; obtain ⟨hcz32z, hcz33z, hcz34z, hfz35z, hfz36z, hfz37z⟩ := cEc BK10z.out))
 first
  | have q_ := A16
    refine bodyPost_ret (results_cell_row rfl _ _ gb8z 106 #[.bool a0_0, .slice Ao36z t274.length co37z, .int .i64 (wrap64 (a0_2 + (wrap64 ((t268.size : Int) - (t269.size : Int)))))] (0, 0) _ rfl (by refine bp ?_; refine blk_put (cs := #[.bool a0_0, .slice Ao36z t274.length co37z, .int .i64 0]) ?_ 2 _ rfl; refine bp ?_; refine blk_put (cs := #[.bool a0_0, .slice none 0 0, .int .i64 0]) ?_ 1 _ rfl; refine bp ?_; refine blk_put (cs := #[.bool false, .slice none 0 0, .int .i64 0]) ?_ 0 _ rfl; refine bp ?_; refine blk_far ?_ NB14z.out _; refine bp ?_; refine blk_far ?_ NB14z.out _; exact bp BK10z.out) Tryz.underlying106 rfl (by kernel_rfl)) rfl ?_
    exact ⟨_, pE, by refine rp ?_; exact Kd.R_mono (Kd.R_far (p := ⟨gb8z, 2, none⟩) (Kd.R_far (p := ⟨gb8z, 1, none⟩) (Kd.R_far (p := ⟨gb8z, 0, none⟩) (Kd.R_far (p := ⟨gb3z, 2, none⟩) (Kd.R_far (p := ⟨gb3z, 1, none⟩) (Kd.R_types (Kd.R_types HO35z.out BK5z.out (by decide)) BK10z.out (by decide)) (fun _ hk => hk.1.2) (.slice Ao36z t274.length co37z)) (fun _ hk => hk.1.2) (.int .i64 (wrap64 (a0_2 + (wrap64 ((t268.size : Int) - (t269.size : Int))))))) (fun _ hk => hk.2) (.bool a0_0)) (fun _ hk => hk.2) (.slice Ao36z t274.length co37z)) (fun _ hk => hk.2) (.int .i64 (wrap64 (a0_2 + (wrap64 ((t268.size : Int) - (t269.size : Int))))))) (fun _ hk => hk.1.1.1), pB, by repeat (first | (with_reducible first | exact HK.out | apply Kept.alloc | apply Kept.drewN | apply Kept.drew | refine Kept.setCell ?_ (.inr GW6z.out) _ | refine Kept.setCell ?_ (.inr GW11z.out) _) | exact HK.out)⟩
  | refine bodyPost_ret (results_cell_row rfl _ _ gb8z 106 #[.bool a0_0, .slice Ao0z l0_1.length co1z, .int .i64 a0_2] (0, 0) _ rfl (by refine bp ?_; refine blk_put (cs := #[.bool a0_0, .slice Ao0z l0_1.length co1z, .int .i64 0]) ?_ 2 _ rfl; refine bp ?_; refine blk_put (cs := #[.bool a0_0, .slice none 0 0, .int .i64 0]) ?_ 1 _ rfl; refine bp ?_; refine blk_put (cs := #[.bool false, .slice none 0 0, .int .i64 0]) ?_ 0 _ rfl; exact bp BK10z.out) Tryz.underlying106 rfl (by kernel_rfl)) rfl ?_
    exact ⟨_, pE, by refine rp ?_; exact Kd.R_mono (Kd.R_far (p := ⟨gb8z, 2, none⟩) (Kd.R_far (p := ⟨gb8z, 1, none⟩) (Kd.R_far (p := ⟨gb8z, 0, none⟩) (Kd.R_types HO0_1.out BK10z.out (by decide)) (fun _ hk => hk.2) (.bool a0_0)) (fun _ hk => hk.2) (.slice Ao0z l0_1.length co1z)) (fun _ hk => hk.2) (.int .i64 a0_2)) (fun _ hk => hk.1), pB, by repeat (first | (with_reducible first | exact HK.out | apply Kept.alloc | apply Kept.drewN | apply Kept.drew | refine Kept.setCell ?_ (.inr GW6z.out) _ | refine Kept.setCell ?_ (.inr GW11z.out) _) | exact HK.out)⟩) : P := h
theorem dec_number_strip.calls (k : Nat) (a0_0 : Bool) (P0_1_ : Nat -> Prop) (u9000_ : Value) (l0_1 : List Int) (a0_2 : Int) (r1 : Bool) (r2 : List Int) (r3 : Int) (w0 w : World) (hB : Below w0.heap.size w0 w) (ho0_1 : Kd.R (Kd.int .u32) 85 w w0.heap.size P0_1_ u9000_ l0_1) (h : dec_number_strip.f k a0_0 l0_1 a0_2 = some (r1, r2, r3)) :
  Calls Tryz.prog 140 #[.agg #[.bool a0_0, u9000_, .int .i64 a0_2]] w fun e w' => ∃ v1_ : Value, e = .returned (.agg #[.bool r1, v1_, .int .i64 r3]) /\ Kd.R (Kd.int .u32) 85 w' w0.heap.size (fun k_ => (P0_1_ k_ \/ w.heap.size <= k_)) v1_ r2 /\ Below w0.heap.size w0 w' /\ Kept w w' (fun k_ => P0_1_ k_) := by
 have hu106 := Tryz.underlying106
 have HO0_1 := am (show Kd.R (Kd.int .u32) 85 w w0.heap.size (fun k_ => (P0_1_ k_ \/ w.heap.size <= k_)) u9000_ l0_1 from Kd.R_mono ho0_1 (fun k_ hk => (.inl hk)))
 have HK := am (Kept.refl w (fun k_ => P0_1_ k_))
 have HW0 := am hB.size
 have HB := am hB
 clear hB
 have H : ((nat_Print.f k l0_1).bind fun bt266 => ((dec_must2.f bt266.1 bt266.2).bind fun t268 => ((strings_TrimRight.f t268 (⟨#[48]⟩ : ByteArray)).bind fun t269 => (if (t269.size : Int) = (t268.size : Int) then (some (a0_0, l0_1, a0_2)) else ((nat_Parse.f k t269).bind fun bt270 => ((dec_must.f bt270.1 bt270.2).bind fun t274 => (some (a0_0, t274, wrap64 (a0_2 + (wrap64 ((t268.size : Int) - (t269.size : Int)))))))))))) = some (r1, r2, r3) := h
 clear h
 obtain ⟨⟨t266, t267⟩, A2, H⟩ := ob H; (try dsimp only at H)
 obtain ⟨t268, A3, H⟩ := ob H
 obtain ⟨t269, A4, H⟩ := ob H
 by_cases c5 : (t269.size : Int) = (t268.size : Int)
 ·rw [if_pos c5] at H
  have c5b0 : ((t269.size : Int) == (t268.size : Int)) = true := beq_iff_eq.mpr c5
  have c5b1 : ((t269.size : Int) != (t268.size : Int)) = false := bne_eq_false_iff_eq.mpr c5
  have c5b2 : (t269.size == t268.size) = true := by first | simpa using c5 | (simp at c5 ⊢; omega)
  clear c5
  simp only [Option.some.injEq, Prod.mk.injEq] at H
  obtain ⟨rfl, rfl, rfl⟩ := H
  exact dec_number_strip.leaf
 ·rw [if_neg c5] at H
  have c5b0 : ((t269.size : Int) == (t268.size : Int)) = false := beq_eq_false_iff_ne.mpr c5
  have c5b1 : ((t269.size : Int) != (t268.size : Int)) = true := bne_iff_ne.mpr c5
  have c5b2 : (t269.size == t268.size) = false := by first | simpa using c5 | (simp at c5 ⊢; omega)
  obtain ⟨⟨t270, t271⟩, A15, H⟩ := ob H; (try dsimp only at H)
  obtain ⟨t274, A16, H⟩ := ob H
  simp only [Option.some.injEq, Prod.mk.injEq] at H
  obtain ⟨rfl, rfl, rfl⟩ := H
  exact dec_number_strip.leaf
def dec_settle.f (k : Nat) (a0_0 : Bool) (l0_1 : List Int) (a0_2 : Int) : Option (Bool × List Int × Int × Int) := (dec_number_zero.f a0_0 l0_1 a0_2).bind fun t279 => (if t279 = true then (some (false, ([] : List Int), 0, 0)) else ((dec_number_strip.f k a0_0 l0_1 a0_2).bind fun bt280 => ((dec_digits.f k bt280.2.1).bind fun t285 => (if t285 > 300 then (some (false, ([] : List Int), 0, 51)) else (if bt280.2.2 < (-1000) then (some (false, ([] : List Int), 0, 52)) else (if bt280.2.2 > 1000 then (some (false, ([] : List Int), 0, 52)) else (some (bt280.1, bt280.2.1, bt280.2.2, 0))))))))
theorem dec_settle.leaf {P : Prop} (h : P := by
 obtain ⟨Ao0z, co1z, eo2z⟩ := Kd.R_slice HO0_1.out
 subst eo2z
 go_enter Tryz.func100, Tryz.ntmps100
 go_wp2_with (first | ((with_reducible refine gate_dst (N := 1) rfl ?_); refine box_event ?hg (N := 1) ?hd (cs := #[.bool a0_0, .slice Ao0z l0_1.length co1z, .int .i64 a0_2]) (t := 106) ?hr ?_; (case hd => rfl); (case hg => rfl); (case hr => first | (go_simp; done) | (go_simp; rfl)); intro gb3z hg w4z hbox hb; have n0_ := am (Kd.R_below (Kd.R_below HO0_1.out pl) hb); have n1_ := am (Kept.below (S := (fun k_ => P0_1_ k_)) (by repeat (first | (with_reducible first | exact HK.out | apply Kept.alloc | apply Kept.drewN | apply Kept.drew) | exact HK.out)) hb); have n2_ := am (below_step pB hb); have n3_ := am (hbox); have n4_ := am ((by rw [hg]; exact (by first | exact HK.out.1 | exact (show Kept w _ (fun k_ => P0_1_ k_) from by repeat (first | (with_reducible first | exact HK.out | apply Kept.alloc | apply Kept.drewN | apply Kept.drew) | exact HK.out)).1) : w.heap.size <= gb3z)); have n5_ := am ((gw hg pB : w0.heap.size <= gb3z)); clear HO0_1 HK HB; have HO0_1 := n0_; have HK := n1_; have HB := n2_; have BK5z := n3_; have GW6z := n4_; have GE7z := n5_; clear n0_ n1_ n2_ n3_ n4_ n5_ hb hbox hg) | ((with_reducible refine gate_dst (N := 2) rfl ?_); refine box_event ?hg (N := 2) ?hd (cs := #[.bool false, .slice none 0 0, .int .i64 0]) (t := 24) ?hr ?_; (case hd => rfl); (case hg => rfl); (case hr => first | (go_simp; done) | (go_simp; rfl)); intro gb8z hg w9z hbox hb; have n0_ := am (Kd.R_below (Kd.R_below HO0_1.out pl) hb); have n1_ := am (blk_below (blk_below BK5z.out pl) hb); have n2_ := am (Kept.below (S := (fun k_ => P0_1_ k_)) (by repeat (first | (with_reducible first | exact HK.out | apply Kept.alloc | apply Kept.drewN | apply Kept.drew | refine Kept.setCell ?_ (.inr GW6z.out) _) | exact HK.out)) hb); have n3_ := am (below_step pB hb); have n4_ := am (hbox); have n5_ := am ((by rw [hg]; exact (by first | exact HK.out.1 | exact (show Kept w _ (fun k_ => P0_1_ k_) from by repeat (first | (with_reducible first | exact HK.out | apply Kept.alloc | apply Kept.drewN | apply Kept.drew | refine Kept.setCell ?_ (.inr GW6z.out) _) | exact HK.out)).1) : w.heap.size <= gb8z)); have n6_ := am ((gw hg pB : w0.heap.size <= gb8z)); have n7_ := am ((nl hg (blk_below BK5z.out pl) : gb3z ≠ gb8z)); have n8_ := am ((ng hg (blk_below BK5z.out pl) : gb8z ≠ gb3z)); clear HO0_1 BK5z HK HB; have HO0_1 := n0_; have BK5z := n1_; have HK := n2_; have HB := n3_; have BK10z := n4_; have GW11z := n5_; have GE12z := n6_; have NB13z := n7_; have NB14z := n8_; clear n0_ n1_ n2_ n3_ n4_ n5_ n6_ n7_ n8_ hb hbox hg; have hnb15z := NB13z.out; have hnc16z := NB14z.out; obtain ⟨hcz17z, hcz18z, hcz19z, hfz20z, hfz21z, hfz22z⟩ := cEc BK5z.out) | (refine gL (some 5) Tryz.func104 #[.agg #[.bool a0_0, .slice Ao0z l0_1.length co1z, .int .i64 a0_2]] (h := ?_); (with_reducible refine (dec_number_zero.calls a0_0 _ _ l0_1 a0_2 false _ ?side1 ?side2 A2.out).mono ?_); (case side1 => exact Kd.C_below (Kd.R_reads' HO0_1.out).2.2 pl); (case side2 => exact (Kd.R_reads' HO0_1.out).2.1); rintro e w23z ⟨rfl, hb⟩; refine ⟨_, rfl, ?_⟩; replace HO0_1 := am (Kd.R_below (Kd.R_below HO0_1.out pl) hb); replace BK5z := am (blk_below (blk_below BK5z.out pl) hb); replace BK10z := am (blk_below (blk_below BK10z.out pl) hb); replace HK := am (Kept.below (S := (fun k_ => P0_1_ k_)) (by repeat (first | (with_reducible first | exact HK.out | apply Kept.alloc | apply Kept.drewN | apply Kept.drew | refine Kept.setCell ?_ (.inr GW6z.out) _ | refine Kept.setCell ?_ (.inr GW11z.out) _) | exact HK.out)) hb); replace HB := am (below_step pB hb); (try clear hb); (try clear hb24z); (try clear hk); (try clear hi); obtain ⟨hcz25z, hcz26z, hcz27z, hfz28z, hfz29z, hfz30z⟩ := cEc BK5z.out) | (refine gL (some 8) Tryz.func140 #[.agg #[.bool a0_0, .slice Ao0z l0_1.length co1z, .int .i64 a0_2]] (h := ?_); (with_reducible refine (dec_number_strip.calls k a0_0 (fun k_ => some k_ = (.slice Ao0z l0_1.length co1z : Value).ownBlock) (.slice Ao0z l0_1.length co1z) l0_1 a0_2 t280 t281 t284 w0 _ ?side1 ?side2 A11.out).mono ?_); (case side1 => exact pB); (case side2 => exact Kd.R_tight rfl HO0_1.out); rintro e w31z ⟨v32z, rfl, ho33z, hb, hkp⟩; refine ⟨_, rfl, ?_⟩; have n0_ := am (blk_kept (blk_below BK5z.out pl) hkp (fun hs_ => (fun e_ => (Kd.R_ne HO0_1.out BK5z.out (by decide)) e_) hs_)); have n1_ := am (blk_kept (blk_below BK10z.out pl) hkp (fun hs_ => (fun e_ => (Kd.R_ne HO0_1.out BK10z.out (by decide)) e_) hs_)); have n2_ := am (Kd.R_mono (ok' := fun k_ => (P0_1_ k_ \/ w.heap.size <= k_)) ho33z (fun k_ hk_ => Or.elim hk_ (fun hs_ => (HO0_1.out.1 k_ (hs_).symm)) (fun hn_ => (.inr (Nat.le_trans (by first | exact HK.out.1 | exact (show Kept w _ (fun k_ => P0_1_ k_) from by repeat (first | (with_reducible first | exact HK.out | apply Kept.alloc | apply Kept.drewN | apply Kept.drew | refine Kept.setCell ?_ (.inr GW6z.out) _ | refine Kept.setCell ?_ (.inr GW11z.out) _) | exact HK.out)).1) hn_))))); have n3_ := am (Kept.then_ (S := (fun k_ => P0_1_ k_)) (by repeat (first | (with_reducible first | exact HK.out | apply Kept.alloc | apply Kept.drewN | apply Kept.drew | refine Kept.setCell ?_ (.inr GW6z.out) _ | refine Kept.setCell ?_ (.inr GW11z.out) _) | exact HK.out)) hkp (fun k_ hs_ => (fun e_ => (HO0_1.out.1 k_ e_.symm)) hs_)); have n4_ := am (hb); clear BK5z BK10z HK HB HO0_1; have BK5z := n0_; have BK10z := n1_; have HO34z := n2_; have HK := n3_; have HB := n4_; clear n0_ n1_ n2_ n3_ n4_; (try clear hb); (try clear hkp); (try clear ho33z); obtain ⟨hcz35z, hcz36z, hcz37z, hfz38z, hfz39z, hfz40z⟩ := cEc BK5z.out; obtain ⟨Ao41z, co42z, eo43z⟩ := Kd.R_slice HO34z.out; subst eo43z) | ((have q_ : decide (300 < t285) = true := c13b0; clear q_); refine gL (some 13) Tryz.func110 #[.slice Ao41z t281.length co42z] (h := ?_); (with_reducible refine (dec_digits.calls k _ _ t281 t285 _ ?side1 ?side2 A12.out).mono ?_); (case side1 => refine (Kd.R_reads' (e := 85) (base := w0.heap.size) (ok := fun k_ => (P0_1_ k_ \/ w.heap.size <= k_)) (n := t281.length) (c := co42z) ?_).2.2; exact (Kd.R_below (z3 HO34z.out BK5z.out (by decide) (.bool t280) (.slice Ao41z t281.length co42z) (.int .i64 t284)) pl)); (case side2 => exact (Kd.R_reads' HO34z.out).2.1); rintro e w44z ⟨rfl, hb⟩; refine ⟨_, rfl, ?_⟩; replace HO34z := am (Kd.R_below (Kd.R_below (z3 HO34z.out BK5z.out (by decide) (.bool t280) (.slice Ao41z t281.length co42z) (.int .i64 t284)) pl) hb); replace BK5z := am (blk_below (g := gb3z) (o := .cells #[.bool t280, .slice Ao41z t281.length co42z, .int .i64 t284] 106 (0, 0)) (by refine bp ?_; refine blk_put (cs := #[.bool t280, .slice Ao41z t281.length co42z, .int .i64 a0_2]) ?_ 2 _ rfl; refine bp ?_; refine blk_put (cs := #[.bool t280, .slice Ao0z l0_1.length co1z, .int .i64 a0_2]) ?_ 1 _ rfl; refine bp ?_; refine blk_put (cs := #[.bool a0_0, .slice Ao0z l0_1.length co1z, .int .i64 a0_2]) ?_ 0 _ rfl; exact bp BK5z.out) hb); replace BK10z := am (blk_below (bf NB14z.out BK10z.out) hb); replace HK := am (Kept.below (S := (fun k_ => P0_1_ k_)) (by repeat (first | (with_reducible first | exact HK.out | apply Kept.alloc | apply Kept.drewN | apply Kept.drew | refine Kept.setCell ?_ (.inr GW6z.out) _ | refine Kept.setCell ?_ (.inr GW11z.out) _) | exact HK.out)) hb); replace HB := am (below_step pB hb); (try clear hb); (try clear hb24z); (try clear hk); (try clear hi); obtain ⟨hcz45z, hcz46z, hcz47z, hfz48z, hfz49z, hfz50z⟩ := cEc BK10z.out) | ((have q_ : decide (300 < t285) = false := c13b0; clear q_); refine gL (some 13) Tryz.func110 #[.slice Ao41z t281.length co42z] (h := ?_); (with_reducible refine (dec_digits.calls k _ _ t281 t285 _ ?side1 ?side2 A12.out).mono ?_); (case side1 => refine (Kd.R_reads' (e := 85) (base := w0.heap.size) (ok := fun k_ => (P0_1_ k_ \/ w.heap.size <= k_)) (n := t281.length) (c := co42z) ?_).2.2; exact (Kd.R_below (z3 HO34z.out BK5z.out (by decide) (.bool t280) (.slice Ao41z t281.length co42z) (.int .i64 t284)) pl)); (case side2 => exact (Kd.R_reads' HO34z.out).2.1); rintro e w44z ⟨rfl, hb⟩; refine ⟨_, rfl, ?_⟩; replace HO34z := am (Kd.R_below (Kd.R_below (z3 HO34z.out BK5z.out (by decide) (.bool t280) (.slice Ao41z t281.length co42z) (.int .i64 t284)) pl) hb); replace BK5z := am (blk_below (g := gb3z) (o := .cells #[.bool t280, .slice Ao41z t281.length co42z, .int .i64 t284] 106 (0, 0)) (by refine bp ?_; refine blk_put (cs := #[.bool t280, .slice Ao41z t281.length co42z, .int .i64 a0_2]) ?_ 2 _ rfl; refine bp ?_; refine blk_put (cs := #[.bool t280, .slice Ao0z l0_1.length co1z, .int .i64 a0_2]) ?_ 1 _ rfl; refine bp ?_; refine blk_put (cs := #[.bool a0_0, .slice Ao0z l0_1.length co1z, .int .i64 a0_2]) ?_ 0 _ rfl; exact bp BK5z.out) hb); replace BK10z := am (blk_below (bf NB14z.out BK10z.out) hb); replace HK := am (Kept.below (S := (fun k_ => P0_1_ k_)) (by repeat (first | (with_reducible first | exact HK.out | apply Kept.alloc | apply Kept.drewN | apply Kept.drew | refine Kept.setCell ?_ (.inr GW6z.out) _ | refine Kept.setCell ?_ (.inr GW11z.out) _) | exact HK.out)) hb); replace HB := am (below_step pB hb); (try clear hb); (try clear hb24z); (try clear hk); (try clear hi); obtain ⟨hcz45z, hcz46z, hcz47z, hfz48z, hfz49z, hfz50z⟩ := cEc BK5z.out; obtain ⟨hcz51z, hcz52z, hcz53z, hfz54z, hfz55z, hfz56z⟩ := cEc BK10z.out) | (refine gL (some 5) Tryz.func104 #[.agg #[.bool a0_0, .slice Ao0z l0_1.length co1z, .int .i64 a0_2]] (h := ?_); (with_reducible refine (dec_number_zero.calls a0_0 _ _ l0_1 a0_2 true _ ?side1 ?side2 A2.out).mono ?_); (case side1 => exact Kd.C_below (Kd.R_reads' HO0_1.out).2.2 pl); (case side2 => exact (Kd.R_reads' HO0_1.out).2.1); rintro e w23z ⟨rfl, hb⟩; refine ⟨_, rfl, ?_⟩; replace HO0_1 := am (Kd.R_below (Kd.R_below HO0_1.out pl) hb); replace BK5z := am (blk_below (blk_below BK5z.out pl) hb); replace BK10z := am (blk_below (blk_below BK10z.out pl) hb); replace HK := am (Kept.below (S := (fun k_ => P0_1_ k_)) (by repeat (first | (with_reducible first | exact HK.out | apply Kept.alloc | apply Kept.drewN | apply Kept.drew | refine Kept.setCell ?_ (.inr GW6z.out) _ | refine Kept.setCell ?_ (.inr GW11z.out) _) | exact HK.out)) hb); replace HB := am (below_step pB hb); (try clear hb); (try clear hb24z); (try clear hk); (try clear hi); obtain ⟨hcz25z, hcz26z, hcz27z, hfz28z, hfz29z, hfz30z⟩ := cEc BK10z.out))
 first
  | have q_ := A12; have q_ : decide (1000 < t284) = false := c40b0
    refine bodyPost_ret (results_ct rfl _ _ gb8z 24 #[.bool t280, .slice Ao41z t281.length co42z, .int .i64 t284] (0, 0) _ rfl (by refine bp ?_; refine blk_put (cs := #[.bool t280, .slice Ao41z t281.length co42z, .int .i64 0]) ?_ 2 _ rfl; refine bp ?_; refine blk_put (cs := #[.bool t280, .slice none 0 0, .int .i64 0]) ?_ 1 _ rfl; refine bp ?_; refine blk_put (cs := #[.bool false, .slice none 0 0, .int .i64 0]) ?_ 0 _ rfl; exact bp BK10z.out) Tryz.underlying24 rfl (by kernel_rfl)) rfl ?_
    exact ⟨_, pE, by refine rp ?_; exact Kd.R_mono (Kd.R_far (p := ⟨gb8z, 2, none⟩) (Kd.R_far (p := ⟨gb8z, 1, none⟩) (Kd.R_far (p := ⟨gb8z, 0, none⟩) (Kd.R_types HO34z.out BK10z.out (by decide)) (fun _ hk => hk.2) (.bool t280)) (fun _ hk => hk.2) (.slice Ao41z t281.length co42z)) (fun _ hk => hk.2) (.int .i64 t284)) (fun _ hk => hk.1), pB, by repeat (first | (with_reducible first | exact HK.out | apply Kept.alloc | apply Kept.drewN | apply Kept.drew | refine Kept.setCell ?_ (.inr GW6z.out) _ | refine Kept.setCell ?_ (.inr GW11z.out) _) | exact HK.out)⟩
  | refine bodyPost_ret (results_ct rfl _ _ gb8z 24 #[.bool false, .slice none 0 0, .int .i64 0] (0, 0) _ rfl (by refine bp ?_; refine blk_put (cs := #[.bool false, .slice none 0 0, .int .i64 0]) ?_ 2 _ rfl; refine bp ?_; refine blk_put (cs := #[.bool false, .slice none 0 0, .int .i64 0]) ?_ 1 _ rfl; refine bp ?_; refine blk_put (cs := #[.bool false, .slice none 0 0, .int .i64 0]) ?_ 0 _ rfl; exact bp BK10z.out) Tryz.underlying24 rfl (by kernel_rfl)) rfl ?_
    exact ⟨_, pE, by first | exact Kd.R_nil _ _ _ _ _ | exact Kd.N_nil _ _ _ _ _ | exact Kd.V_nil _ _ _ _ _ | exact Kd.Q_nil _ _ _ _ _ | exact Kd.S_nil _ _ _ _ _, pB, by repeat (first | (with_reducible first | exact HK.out | apply Kept.alloc | apply Kept.drewN | apply Kept.drew | refine Kept.setCell ?_ (.inr GW6z.out) _ | refine Kept.setCell ?_ (.inr GW11z.out) _) | exact HK.out)⟩) : P := h
theorem dec_settle.calls (k : Nat) (a0_0 : Bool) (P0_1_ : Nat -> Prop) (u9000_ : Value) (l0_1 : List Int) (a0_2 : Int) (r1 : Bool) (r2 : List Int) (r3 : Int) (r4 : Int) (w0 w : World) (hB : Below w0.heap.size w0 w) (ho0_1 : Kd.R (Kd.int .u32) 85 w w0.heap.size P0_1_ u9000_ l0_1) (h : dec_settle.f k a0_0 l0_1 a0_2 = some (r1, r2, r3, r4)) :
  Calls Tryz.prog 100 #[.agg #[.bool a0_0, u9000_, .int .i64 a0_2]] w fun e w' => ∃ v1_ : Value, e = .returned (.tuple #[.agg #[.bool r1, v1_, .int .i64 r3], .int .i64 r4]) /\ Kd.R (Kd.int .u32) 85 w' w0.heap.size (fun k_ => (P0_1_ k_ \/ w.heap.size <= k_)) v1_ r2 /\ Below w0.heap.size w0 w' /\ Kept w w' (fun k_ => P0_1_ k_) := by
 have hu106 := Tryz.underlying106
 have hu24 := Tryz.underlying24
 have HO0_1 := am (show Kd.R (Kd.int .u32) 85 w w0.heap.size (fun k_ => (P0_1_ k_ \/ w.heap.size <= k_)) u9000_ l0_1 from Kd.R_mono ho0_1 (fun k_ hk => (.inl hk)))
 have HK := am (Kept.refl w (fun k_ => P0_1_ k_))
 have HW0 := am hB.size
 have HB := am hB
 clear hB
 have H : ((dec_number_zero.f a0_0 l0_1 a0_2).bind fun t279 => (if t279 = true then (some (false, ([] : List Int), 0, 0)) else ((dec_number_strip.f k a0_0 l0_1 a0_2).bind fun bt280 => ((dec_digits.f k bt280.2.1).bind fun t285 => (if t285 > 300 then (some (false, ([] : List Int), 0, 51)) else (if bt280.2.2 < (-1000) then (some (false, ([] : List Int), 0, 52)) else (if bt280.2.2 > 1000 then (some (false, ([] : List Int), 0, 52)) else (some (bt280.1, bt280.2.1, bt280.2.2, 0))))))))) = some (r1, r2, r3, r4) := h
 clear h
 obtain ⟨t279, A2, H⟩ := ob H
 by_cases c3 : t279 = true
 ·subst c3
  rw [if_pos rfl] at H
  simp only [Option.some.injEq, Prod.mk.injEq] at H
  obtain ⟨rfl, rfl, rfl, rfl⟩ := H
  exact dec_settle.leaf
 ·replace c3 := Bool.eq_false_iff.mpr c3
  subst c3
  rw [if_neg (show ¬ (false = true) by decide)] at H
  obtain ⟨⟨t280, t281, t284⟩, A11, H⟩ := ob H; (try dsimp only at H)
  obtain ⟨t285, A12, H⟩ := ob H
  by_cases c13 : t285 > 300
  ·rw [if_pos c13] at H
   have c13b0 : decide (300 < t285) = true := decide_eq_true c13
   clear c13
   simp only [Option.some.injEq, Prod.mk.injEq] at H
   obtain ⟨rfl, rfl, rfl, rfl⟩ := H
   exact dec_settle.leaf
  ·rw [if_neg c13] at H
   have c13b0 : decide (300 < t285) = false := decide_eq_false c13
   clear c13
   by_cases c26 : t284 < (-1000)
   ·rw [if_pos c26] at H
    have c26b0 : decide (t284 < (-1000)) = true := decide_eq_true c26
    clear c26
    simp only [Option.some.injEq, Prod.mk.injEq] at H
    obtain ⟨rfl, rfl, rfl, rfl⟩ := H
    exact dec_settle.leaf
   ·rw [if_neg c26] at H
    have c26b0 : decide (t284 < (-1000)) = false := decide_eq_false c26
    clear c26
    by_cases c40 : t284 > 1000
    ·rw [if_pos c40] at H
     have c40b0 : decide (1000 < t284) = true := decide_eq_true c40
     clear c40
     simp only [Option.some.injEq, Prod.mk.injEq] at H
     obtain ⟨rfl, rfl, rfl, rfl⟩ := H
     exact dec_settle.leaf
    ·rw [if_neg c40] at H
     have c40b0 : decide (1000 < t284) = false := decide_eq_false c40
     clear c40
     simp only [Option.some.injEq, Prod.mk.injEq] at H
     obtain ⟨rfl, rfl, rfl, rfl⟩ := H
     exact dec_settle.leaf
def dec_Add.f (k : Nat) (a0_0 : Bool) (l0_1 : List Int) (a0_2 : Int) (a1_0 : Bool) (l1_1 : List Int) (a1_2 : Int) : Option (Bool × List Int × Int × Int) := (dec_ask.f k (([(⟨a0_0, l0_1, a0_2⟩ : S24), (⟨a1_0, l1_1, a1_2⟩ : S24)] : List (S24)))).bind fun t1547 => (if t1547 = 0 then ((dec_number_plus.f k a0_0 l0_1 a0_2 a1_0 l1_1 a1_2).bind fun bt1548 => ((dec_settle.f k bt1548.1 bt1548.2.1 bt1548.2.2).bind fun bt1553 => (some (bt1553.1, bt1553.2.1, bt1553.2.2.1, bt1553.2.2.2)))) else (some (false, ([] : List Int), 0, t1547)))
theorem dec_Add.leaf {P : Prop} (h : P := by
 go_enter Tryz.func43, Tryz.ntmps43
 go_wp2_with (first | ((with_reducible refine gate_dst (N := 2) rfl ?_); refine box_event ?hg (N := 2) ?hd (cs := #[.bool a0_0, .slice A0_1 l0_1.length c0_1, .int .i64 a0_2]) (t := 24) ?hr ?_; (case hd => rfl); (case hg => rfl); (case hr => first | (go_simp; done) | (go_simp; rfl)); intro gb0z hg w1z hbox hb; have n0_ := am (Kd.V_below (Kd.V_elderB (Kd.V_below HO0_1.out pl) gb0z (Nat.le_of_eq hg.symm)) hb); have n1_ := am (Kd.V_below (Kd.V_elderB (Kd.V_below HO1_1.out pl) gb0z (Nat.le_of_eq hg.symm)) hb); have n2_ := am (below_step pB hb); have n3_ := am (hbox); have n4_ := am ((gw hg pB : w.heap.size <= gb0z)); have n5_ := am ((gw hg pB : w.heap.size <= gb0z)); clear HO0_1 HO1_1 HB; have HO0_1 := n0_; have HO1_1 := n1_; have HB := n2_; have BK2z := n3_; have GW3z := n4_; have GE4z := n5_; clear n0_ n1_ n2_ n3_ n4_ n5_ hb hbox hg) | ((with_reducible refine gate_dst (N := 3) rfl ?_); refine box_event ?hg (N := 3) ?hd (cs := #[.bool a1_0, .slice A1_1 l1_1.length c1_1, .int .i64 a1_2]) (t := 24) ?hr ?_; (case hd => rfl); (case hg => rfl); (case hr => first | (go_simp; done) | (go_simp; rfl)); intro gb5z hg w6z hbox hb; have n0_ := am (Kd.V_below (Kd.V_elderB (Kd.V_below HO0_1.out pl) gb5z (Nat.le_of_eq hg.symm)) hb); have n1_ := am (Kd.V_below (Kd.V_elderB (Kd.V_below HO1_1.out pl) gb5z (Nat.le_of_eq hg.symm)) hb); have n2_ := am (blk_below (blk_below BK2z.out pl) hb); have n3_ := am (below_step pB hb); have n4_ := am (hbox); have n5_ := am ((gw hg pB : w.heap.size <= gb5z)); have n6_ := am ((gw hg pB : w.heap.size <= gb5z)); have n7_ := am ((nl hg (blk_below BK2z.out pl) : gb0z ≠ gb5z)); have n8_ := am ((ng hg (blk_below BK2z.out pl) : gb5z ≠ gb0z)); clear HO0_1 HO1_1 BK2z HB; have HO0_1 := n0_; have HO1_1 := n1_; have BK2z := n2_; have HB := n3_; have BK7z := n4_; have GW8z := n5_; have GE9z := n6_; have NB10z := n7_; have NB11z := n8_; clear n0_ n1_ n2_ n3_ n4_ n5_ n6_ n7_ n8_ hb hbox hg) | ((with_reducible refine gate_dst (N := 4) rfl ?_); refine box_event ?hg (N := 4) ?hd (cs := #[.bool false, .slice none 0 0, .int .i64 0]) (t := 24) ?hr ?_; (case hd => rfl); (case hg => rfl); (case hr => first | (go_simp; done) | (go_simp; rfl)); intro gb12z hg w13z hbox hb; have n0_ := am (Kd.V_below (Kd.V_elderB (Kd.V_below HO0_1.out pl) gb12z (Nat.le_of_eq hg.symm)) hb); have n1_ := am (Kd.V_below (Kd.V_elderB (Kd.V_below HO1_1.out pl) gb12z (Nat.le_of_eq hg.symm)) hb); have n2_ := am (blk_below (blk_below BK2z.out pl) hb); have n3_ := am (blk_below (blk_below BK7z.out pl) hb); have n4_ := am (below_step pB hb); have n5_ := am (hbox); have n6_ := am ((gw hg pB : w.heap.size <= gb12z)); have n7_ := am ((gw hg pB : w.heap.size <= gb12z)); have n8_ := am ((nl hg (blk_below BK2z.out pl) : gb0z ≠ gb12z)); have n9_ := am ((ng hg (blk_below BK2z.out pl) : gb12z ≠ gb0z)); have n10_ := am ((nl hg (blk_below BK7z.out pl) : gb5z ≠ gb12z)); have n11_ := am ((ng hg (blk_below BK7z.out pl) : gb12z ≠ gb5z)); clear HO0_1 HO1_1 BK2z BK7z HB; have HO0_1 := n0_; have HO1_1 := n1_; have BK2z := n2_; have BK7z := n3_; have HB := n4_; have BK14z := n5_; have GW15z := n6_; have GE16z := n7_; have NB17z := n8_; have NB18z := n9_; have NB19z := n10_; have NB20z := n11_; clear n0_ n1_ n2_ n3_ n4_ n5_ n6_ n7_ n8_ n9_ n10_ n11_ hb hbox hg; have hnb21z := NB10z.out; have hnc22z := NB11z.out; have hnb23z := NB17z.out; have hnc24z := NB18z.out; obtain ⟨hcz25z, hcz26z, hcz27z, hfz28z, hfz29z, hfz30z⟩ := cEc BK2z.out; have hnb31z := NB19z.out; have hnc32z := NB20z.out; obtain ⟨hcz33z, hcz34z, hcz35z, hfz36z, hfz37z, hfz38z⟩ := cEc BK7z.out) | ((with_reducible refine gate_dst (N := 9) rfl ?_); refine Kd.N_lit k24 _ 24 ?hg (N' := 9) ?hd (xs := ([(⟨a0_0, l0_1, a0_2⟩ : S24), (⟨a1_0, l1_1, a1_2⟩ : S24)] : List (S24))) (inner := [.bool a0_0, .slice A0_1 l0_1.length c0_1, .int .i64 a0_2, .bool a1_0, .slice A1_1 l1_1.length c1_1, .int .i64 a1_2]) (ok := (fun k_ => ((P0_1_ k_ \/ P1_1_ k_) \/ w.heap.size <= k_) /\ k_ ≠ gb0z /\ k_ ≠ gb5z /\ k_ ≠ gb12z)) (okp := (fun k_ => ((P0_1_ k_ \/ P1_1_ k_) \/ w.heap.size <= k_) /\ k_ ≠ gb0z /\ k_ ≠ gb5z /\ k_ ≠ gb12z)) ?hr ?hp (fun _ hk => hk) ((show ∀ k_, w13z.heap.size <= k_ -> (fun k_ => ((P0_1_ k_ \/ P1_1_ k_) \/ w.heap.size <= k_) /\ k_ ≠ gb0z /\ k_ ≠ gb5z /\ k_ ≠ gb12z) k_ from fun k_ hk => ⟨(.inr (Nat.le_trans (below_size pB) hk)), Kd.freshB (g := gb0z) (o := .cells #[.bool a0_0, .slice A0_1 l0_1.length c0_1, .int .i64 a0_2] 24 (0, 0)) (blk_below BK2z.out pl) k_ hk, Kd.freshB (g := gb5z) (o := .cells #[.bool a1_0, .slice A1_1 l1_1.length c1_1, .int .i64 a1_2] 24 (0, 0)) (blk_below BK7z.out pl) k_ hk, Kd.freshB (g := gb12z) (o := .cells #[.bool false, .slice none 0 0, .int .i64 0] 24 (0, 0)) (blk_below BK14z.out pl) k_ hk⟩) _ (Nat.le_refl _)) (Below.refl _ _) (Nat.le_refl _) (by simp) ?_; (case hd => rfl); (case hg => rfl); (case hr => first | (go_simp; done) | (go_simp; rfl)); (case hp => exact (Reps.c3 (show Kd.FK k24 _ _ (⟨a0_0, l0_1, a0_2⟩ : S24) [.bool a0_0, .slice A0_1 l0_1.length c0_1, .int .i64 a0_2] from (k24_mkF _ _ (⟨a0_0, l0_1, a0_2⟩ : S24) (Kd.V_reads' (Kd.V_mono (ok' := (fun k_ => ((P0_1_ k_ \/ P1_1_ k_) \/ w.heap.size <= k_) /\ k_ ≠ gb0z /\ k_ ≠ gb5z /\ k_ ≠ gb12z)) (HO0_1.out) (fun k_ hk => ⟨hk.1.1.1, ⟨hk.1.1.2, ⟨hk.1.2, hk.2⟩⟩⟩))).2.1 (Kd.V_F (Kd.V_mono (ok' := (fun k_ => ((P0_1_ k_ \/ P1_1_ k_) \/ w.heap.size <= k_) /\ k_ ≠ gb0z /\ k_ ≠ gb5z /\ k_ ≠ gb12z)) (HO0_1.out) (fun k_ hk => ⟨hk.1.1.1, ⟨hk.1.1.2, ⟨hk.1.2, hk.2⟩⟩⟩))))) (Reps.c3 (show Kd.FK k24 _ _ (⟨a1_0, l1_1, a1_2⟩ : S24) [.bool a1_0, .slice A1_1 l1_1.length c1_1, .int .i64 a1_2] from (k24_mkF _ _ (⟨a1_0, l1_1, a1_2⟩ : S24) (Kd.V_reads' (Kd.V_mono (ok' := (fun k_ => ((P0_1_ k_ \/ P1_1_ k_) \/ w.heap.size <= k_) /\ k_ ≠ gb0z /\ k_ ≠ gb5z /\ k_ ≠ gb12z)) (HO1_1.out) (fun k_ hk => ⟨hk.1.1.1, ⟨hk.1.1.2, ⟨hk.1.2, hk.2⟩⟩⟩))).2.1 (Kd.V_F (Kd.V_mono (ok' := (fun k_ => ((P0_1_ k_ \/ P1_1_ k_) \/ w.heap.size <= k_) /\ k_ ≠ gb0z /\ k_ ≠ gb5z /\ k_ ≠ gb12z)) (HO1_1.out) (fun k_ hk => ⟨hk.1.1.1, ⟨hk.1.1.2, ⟨hk.1.2, hk.2⟩⟩⟩))))) (Reps.none _ _)))); intro v39z w40z ho41z hb hg_ hnew_; clear hg_ hnew_; (first | rw [<- Ny1544.out] at ho41z | (simp only [Int.reduceToNat] at ho41z; rw [<- Ny1544.out] at ho41z)); replace HO0_1 := am (Kd.V_elder' (Kd.V_below HO0_1.out pl) (Kd.N_base ho41z) hb); replace HO1_1 := am (Kd.V_elder' (Kd.V_below HO1_1.out pl) (Kd.N_base ho41z) hb); have HO42z := am (Kd.N_lower ho41z (below_size pB)); replace BK2z := am (blk_below (blk_below BK2z.out pl) hb); replace BK7z := am (blk_below (blk_below BK7z.out pl) hb); replace BK14z := am (blk_below (blk_below BK14z.out pl) hb); replace HB := am (below_step pB hb); clear hb ho41z; obtain ⟨Ao43z, co44z, eo45z⟩ := Kd.N_slice HO42z.out; subst eo45z) | ((have q_ := A6; clear q_); refine gL (some 10) Tryz.func99 #[.slice Ao43z y1544.length co44z] (h := ?_); (with_reducible refine (dec_ask.calls k _ _ y1544 t1547 _ ?side1 ?side2 A3.out).mono ?_); (case side1 => exact Kd.C_below (Kd.N_reads' HO42z.out).2.2 pl); (case side2 => exact (Kd.N_reads' HO42z.out).2.1); rintro e w46z ⟨rfl, hb⟩; refine ⟨_, rfl, ?_⟩; replace HO0_1 := am (Kd.V_below (Kd.V_below HO0_1.out pl) hb); replace HO1_1 := am (Kd.V_below (Kd.V_below HO1_1.out pl) hb); replace HO42z := am (Kd.N_below (Kd.N_below HO42z.out pl) hb); replace BK2z := am (blk_below (blk_below BK2z.out pl) hb); replace BK7z := am (blk_below (blk_below BK7z.out pl) hb); replace BK14z := am (blk_below (blk_below BK14z.out pl) hb); replace HB := am (below_step pB hb); (try clear hb); (try clear hb47z); (try clear hk); (try clear hi); obtain ⟨hcz48z, hcz49z, hcz50z, hfz51z, hfz52z, hfz53z⟩ := cEc BK2z.out; obtain ⟨hcz54z, hcz55z, hcz56z, hfz57z, hfz58z, hfz59z⟩ := cEc BK7z.out) | (refine gL (some 19) Tryz.func101 #[.agg #[.bool a0_0, .slice A0_1 l0_1.length c0_1, .int .i64 a0_2], .agg #[.bool a1_0, .slice A1_1 l1_1.length c1_1, .int .i64 a1_2]] (h := ?_); (with_reducible refine (dec_number_plus.calls k a0_0 _ _ l0_1 a0_2 a1_0 _ _ l1_1 a1_2 t1548 t1549 t1552 _ ?side1 ?side2 ?side3 ?side4 A5.out).mono ?_); (case side1 => exact Kd.C_below (Kd.V_reads' HO0_1.out).2.2 pl); (case side2 => exact (Kd.V_reads' HO0_1.out).2.1); (case side3 => exact Kd.C_below (Kd.V_reads' HO1_1.out).2.2 pl); (case side4 => exact (Kd.V_reads' HO1_1.out).2.1); rintro e w60z ⟨v61z, rfl, ho62z, hb⟩; refine ⟨_, rfl, ?_⟩; replace HO0_1 := am (Kd.V_elder' (Kd.V_below HO0_1.out pl) (Kd.R_base ho62z) hb); replace HO1_1 := am (Kd.V_elder' (Kd.V_below HO1_1.out pl) (Kd.R_base ho62z) hb); replace HO42z := am (Kd.N_elder' (Kd.N_below HO42z.out pl) (Kd.R_base ho62z) hb); have HO63z := am (Kd.R_lower (Kd.R_newM (M := fun k_ => (w.heap.size <= k_)) ho62z (below_size pB) (fun k_ h_ => h_)) (below_size pB)); replace BK2z := am (blk_below (blk_below BK2z.out pl) hb); replace BK7z := am (blk_below (blk_below BK7z.out pl) hb); replace BK14z := am (blk_below (blk_below BK14z.out pl) hb); replace HB := am (below_step pB hb); (try clear hb); (try clear hb47z); (try clear hk); (try clear hi); (try clear ho62z); obtain ⟨Ao64z, co65z, eo66z⟩ := Kd.R_slice HO63z.out; subst eo66z) | (refine gL (some 20) Tryz.func100 #[.agg #[.bool t1548, .slice Ao64z t1549.length co65z, .int .i64 t1552]] (h := ?_); (with_reducible refine (dec_settle.calls k t1548 (fun k_ => some k_ = (.slice Ao64z t1549.length co65z : Value).ownBlock) (.slice Ao64z t1549.length co65z) t1549 t1552 t1553 t1554 t1557 t1558 w _ ?side1 ?side2 A6.out).mono ?_); (case side1 => exact pB); (case side2 => exact Kd.R_tight rfl HO63z.out); rintro e w67z ⟨v68z, rfl, ho62z, hb, hkp⟩; refine ⟨_, rfl, ?_⟩; have n0_ := am (Kd.V_mono (ok' := fun k_ => ((P0_1_ k_ \/ P1_1_ k_) \/ w.heap.size <= k_) /\ some k_ ≠ (.slice Ao43z y1544.length co44z : Value).ownBlock /\ k_ ≠ gb0z /\ k_ ≠ gb5z /\ k_ ≠ gb12z /\ some k_ ≠ (v68z : Value).ownBlock) (Kd.V_keptB (HO0_1.out) hkp (fun k_ hk_ hs_ => (hk_.2) hs_)) (fun k_ hk_ => ⟨hk_.1.1.1.1.1.1, hk_.1.1.2, hk_.1.1.1.1.1.2, hk_.1.1.1.1.2, hk_.1.1.1.2, fun e_ => Or.elim (ho62z.1 k_ e_.symm) (fun hs_ => hk_.2.1 hs_) (fun hn_ => Nat.not_le.2 hk_.2.2 hn_)⟩)); have n1_ := am (Kd.V_mono (ok' := fun k_ => ((P0_1_ k_ \/ P1_1_ k_) \/ w.heap.size <= k_) /\ some k_ ≠ (.slice Ao43z y1544.length co44z : Value).ownBlock /\ k_ ≠ gb0z /\ k_ ≠ gb5z /\ k_ ≠ gb12z /\ some k_ ≠ (v68z : Value).ownBlock) (Kd.V_keptB (HO1_1.out) hkp (fun k_ hk_ hs_ => (hk_.2) hs_)) (fun k_ hk_ => ⟨hk_.1.1.1.1.1.1, hk_.1.1.2, hk_.1.1.1.1.1.2, hk_.1.1.1.1.2, hk_.1.1.1.2, fun e_ => Or.elim (ho62z.1 k_ e_.symm) (fun hs_ => hk_.2.1 hs_) (fun hn_ => Nat.not_le.2 hk_.2.2 hn_)⟩)); have n2_ := am (blk_kept (blk_below BK2z.out pl) hkp (fun hs_ => (fun e_ => (Kd.R_ne HO63z.out BK2z.out (by decide)) e_) hs_)); have n3_ := am (blk_kept (blk_below BK7z.out pl) hkp (fun hs_ => (fun e_ => (Kd.R_ne HO63z.out BK7z.out (by decide)) e_) hs_)); have n4_ := am (blk_kept (blk_below BK14z.out pl) hkp (fun hs_ => (fun e_ => (Kd.R_ne HO63z.out BK14z.out (by decide)) e_) hs_)); have n5_ := am (Kd.N_mono (ok' := fun k_ => ((P0_1_ k_ \/ P1_1_ k_) \/ w.heap.size <= k_) /\ k_ ≠ gb0z /\ k_ ≠ gb5z /\ k_ ≠ gb12z /\ some k_ ≠ (v68z : Value).ownBlock) (Kd.N_keptB (HO42z.out) hkp (fun k_ hk_ hs_ => (hk_.2) hs_)) (fun k_ hk_ => ⟨hk_.1.1.1, hk_.1.1.2.1, hk_.1.1.2.2.1, hk_.1.1.2.2.2, fun e_ => Or.elim (ho62z.1 k_ e_.symm) (fun hs_ => hk_.2.1 hs_) (fun hn_ => Nat.not_le.2 hk_.2.2 hn_)⟩)); have n6_ := am (Kd.R_mono (ok' := fun k_ => (w.heap.size <= k_)) ho62z (fun k_ hk_ => Or.elim hk_ (fun hs_ => (HO63z.out.1 k_ (hs_).symm).1) (fun hn_ => (Nat.le_trans (below_size pB) hn_)))); have n7_ := am (hb); clear HO0_1 HO1_1 BK2z BK7z BK14z HO42z HB HO63z; have HO0_1 := n0_; have HO1_1 := n1_; have BK2z := n2_; have BK7z := n3_; have BK14z := n4_; have HO42z := n5_; have HO69z := n6_; have HB := n7_; clear n0_ n1_ n2_ n3_ n4_ n5_ n6_ n7_; (try clear hb); (try clear hkp); (try clear ho62z); obtain ⟨hcz70z, hcz71z, hcz72z, hfz73z, hfz74z, hfz75z⟩ := cEc BK14z.out; obtain ⟨Ao76z, co77z, eo78z⟩ := Kd.R_slice HO69z.out; subst eo78z) | ((have q_ : (t1547 != 0) = true := c4b1; clear q_); refine gL (some 10) Tryz.func99 #[.slice Ao43z y1544.length co44z] (h := ?_); (with_reducible refine (dec_ask.calls k _ _ y1544 t1547 _ ?side1 ?side2 A3.out).mono ?_); (case side1 => exact Kd.C_below (Kd.N_reads' HO42z.out).2.2 pl); (case side2 => exact (Kd.N_reads' HO42z.out).2.1); rintro e w46z ⟨rfl, hb⟩; refine ⟨_, rfl, ?_⟩; replace HO0_1 := am (Kd.V_below (Kd.V_below HO0_1.out pl) hb); replace HO1_1 := am (Kd.V_below (Kd.V_below HO1_1.out pl) hb); replace HO42z := am (Kd.N_below (Kd.N_below HO42z.out pl) hb); replace BK2z := am (blk_below (blk_below BK2z.out pl) hb); replace BK7z := am (blk_below (blk_below BK7z.out pl) hb); replace BK14z := am (blk_below (blk_below BK14z.out pl) hb); replace HB := am (below_step pB hb); (try clear hb); (try clear hb47z); (try clear hk); (try clear hi); obtain ⟨hcz48z, hcz49z, hcz50z, hfz51z, hfz52z, hfz53z⟩ := cEc BK14z.out))
 first
  | have q_ := A6
    refine bodyPost_ret (results_ct rfl _ _ gb12z 24 #[.bool t1553, .slice Ao76z t1554.length co77z, .int .i64 t1557] (0, 0) _ rfl (by refine bp ?_; refine blk_put (cs := #[.bool t1553, .slice Ao76z t1554.length co77z, .int .i64 0]) ?_ 2 _ rfl; refine bp ?_; refine blk_put (cs := #[.bool t1553, .slice none 0 0, .int .i64 0]) ?_ 1 _ rfl; refine bp ?_; refine blk_put (cs := #[.bool false, .slice none 0 0, .int .i64 0]) ?_ 0 _ rfl; exact bp BK14z.out) Tryz.underlying24 rfl (by kernel_rfl)) rfl ?_
    exact ⟨_, pE, by refine rp ?_; exact Kd.R_mono (Kd.R_far (p := ⟨gb12z, 2, none⟩) (Kd.R_far (p := ⟨gb12z, 1, none⟩) (Kd.R_far (p := ⟨gb12z, 0, none⟩) (Kd.R_types HO69z.out BK14z.out (by decide)) (fun _ hk => hk.2) (.bool t1553)) (fun _ hk => hk.2) (.slice Ao76z t1554.length co77z)) (fun _ hk => hk.2) (.int .i64 t1557)) (fun _ hk => hk.1), pB⟩
  | refine bodyPost_ret (results_ct rfl _ _ gb12z 24 #[.bool false, .slice none 0 0, .int .i64 0] (0, 0) _ rfl (by refine bp ?_; refine blk_put (cs := #[.bool false, .slice none 0 0, .int .i64 0]) ?_ 2 _ rfl; refine bp ?_; refine blk_put (cs := #[.bool false, .slice none 0 0, .int .i64 0]) ?_ 1 _ rfl; refine bp ?_; refine blk_put (cs := #[.bool false, .slice none 0 0, .int .i64 0]) ?_ 0 _ rfl; exact bp BK14z.out) Tryz.underlying24 rfl (by kernel_rfl)) rfl ?_
    exact ⟨_, pE, by first | exact Kd.R_nil _ _ _ _ _ | exact Kd.N_nil _ _ _ _ _ | exact Kd.V_nil _ _ _ _ _ | exact Kd.Q_nil _ _ _ _ _ | exact Kd.S_nil _ _ _ _ _, pB⟩) : P := h
theorem dec_Add.calls (k : Nat) (a0_0 : Bool) (P0_1_ : Nat -> Prop) (A0_1 : Option Addr) (c0_1 : Nat) (l0_1 : List Int) (a0_2 : Int) (a1_0 : Bool) (P1_1_ : Nat -> Prop) (A1_1 : Option Addr) (c1_1 : Nat) (l1_1 : List Int) (a1_2 : Int) (r1 : Bool) (r2 : List Int) (r3 : Int) (r4 : Int) (w : World) (hs0_1 : Kd.V (Kd.int .u32) 85 w w.heap.size (fun k_ => P0_1_ k_) (.slice A0_1 l0_1.length c0_1) l0_1) (hs1_1 : Kd.V (Kd.int .u32) 85 w w.heap.size (fun k_ => P1_1_ k_) (.slice A1_1 l1_1.length c1_1) l1_1) (h : dec_Add.f k a0_0 l0_1 a0_2 a1_0 l1_1 a1_2 = some (r1, r2, r3, r4)) :
  Calls Tryz.prog 43 #[.agg #[.bool a0_0, .slice A0_1 l0_1.length c0_1, .int .i64 a0_2], .agg #[.bool a1_0, .slice A1_1 l1_1.length c1_1, .int .i64 a1_2]] w fun e w' => ∃ v1_ : Value, e = .returned (.tuple #[.agg #[.bool r1, v1_, .int .i64 r3], .int .i64 r4]) /\ Kd.R (Kd.int .u32) 85 w' w.heap.size (fun k_ => (w.heap.size <= k_)) v1_ r2 /\ Below w.heap.size w w' := by
 have hu24 := Tryz.underlying24
 have hu106 := Tryz.underlying106
 have HO0_1 := am (show Kd.V (Kd.int .u32) 85 w w.heap.size (fun k_ => ((P0_1_ k_ \/ P1_1_ k_) \/ w.heap.size <= k_)) (.slice A0_1 l0_1.length c0_1) l0_1 from Kd.V_mono hs0_1 (fun k_ hk => .inl (.inl hk)))
 have HO1_1 := am (show Kd.V (Kd.int .u32) 85 w w.heap.size (fun k_ => ((P0_1_ k_ \/ P1_1_ k_) \/ w.heap.size <= k_)) (.slice A1_1 l1_1.length c1_1) l1_1 from Kd.V_mono hs1_1 (fun k_ hk => .inl (.inr hk)))
 have HB := am (Below.refl w.heap.size w)
 have H : ((dec_ask.f k (([(⟨a0_0, l0_1, a0_2⟩ : S24), (⟨a1_0, l1_1, a1_2⟩ : S24)] : List (S24)))).bind fun t1547 => (if t1547 = 0 then ((dec_number_plus.f k a0_0 l0_1 a0_2 a1_0 l1_1 a1_2).bind fun bt1548 => ((dec_settle.f k bt1548.1 bt1548.2.1 bt1548.2.2).bind fun bt1553 => (some (bt1553.1, bt1553.2.1, bt1553.2.2.1, bt1553.2.2.2)))) else (some (false, ([] : List Int), 0, t1547)))) = some (r1, r2, r3, r4) := h
 clear h
 obtain ⟨y1544, hy1544⟩ : ∃ y_ : List (S24), y_ = (([(⟨a0_0, l0_1, a0_2⟩ : S24), (⟨a1_0, l1_1, a1_2⟩ : S24)] : List (S24))) := ⟨_, rfl⟩
 replace H : ((dec_ask.f k y1544).bind fun t1547 => (if t1547 = 0 then ((dec_number_plus.f k a0_0 l0_1 a0_2 a1_0 l1_1 a1_2).bind fun bt1548 => ((dec_settle.f k bt1548.1 bt1548.2.1 bt1548.2.2).bind fun bt1553 => (some (bt1553.1, bt1553.2.1, bt1553.2.2.1, bt1553.2.2.2)))) else (some (false, ([] : List Int), 0, t1547)))) = some (r1, r2, r3, r4) := by first | (rw [hy1544]; with_reducible exact H) | (have H2_ := (Option.bind_some _ _).symm.trans H; rw [hy1544]; with_reducible exact H2_) | (have H2_ := (Option.bind_some _ _).symm.trans H; with_reducible exact H2_) | with_reducible exact H | (rw [hy1544]; exact H) | exact H
 have Ny1544 := am hy1544
 clear hy1544
 obtain ⟨t1547, A3, H⟩ := ob H
 by_cases c4 : t1547 = 0
 ·rw [if_pos c4] at H
  have c4b0 : (t1547 == 0) = true := beq_iff_eq.mpr c4
  have c4b1 : (t1547 != 0) = false := bne_eq_false_iff_eq.mpr c4
  clear c4
  obtain ⟨⟨t1548, t1549, t1552⟩, A5, H⟩ := ob H; (try dsimp only at H)
  obtain ⟨⟨t1553, t1554, t1557, t1558⟩, A6, H⟩ := ob H; (try dsimp only at H)
  simp only [Option.some.injEq, Prod.mk.injEq] at H
  obtain ⟨rfl, rfl, rfl, rfl⟩ := H
  exact dec_Add.leaf
 ·rw [if_neg c4] at H
  have c4b0 : (t1547 == 0) = false := beq_eq_false_iff_ne.mpr c4
  have c4b1 : (t1547 != 0) = true := bne_iff_ne.mpr c4
  simp only [Option.some.injEq, Prod.mk.injEq] at H
  obtain ⟨rfl, rfl, rfl, rfl⟩ := H
  exact dec_Add.leaf
def dec_number_minus.f (a0_0 : Bool) (l0_1 : List Int) (a0_2 : Int) : Option (Bool × List Int × Int) := if a0_0 = true then (some (false, l0_1, a0_2)) else ((dec_number_zero.f a0_0 l0_1 a0_2).bind fun t1616 => (some (!t1616, l0_1, a0_2)))
theorem dec_number_minus.calls (a0_0 : Bool) (P0_1_ : Nat -> Prop) (A0_1 : Option Addr) (c0_1 : Nat) (l0_1 : List Int) (a0_2 : Int) (r1 : Bool) (r2 : List Int) (r3 : Int) (w : World) (hs0_1 : Kd.V (Kd.int .u32) 85 w w.heap.size (fun k_ => P0_1_ k_) (.slice A0_1 l0_1.length c0_1) l0_1) (h : dec_number_minus.f a0_0 l0_1 a0_2 = some (r1, r2, r3)) :
  Calls Tryz.prog 103 #[.agg #[.bool a0_0, .slice A0_1 l0_1.length c0_1, .int .i64 a0_2]] w fun e w' => ∃ v1_ : Value, e = .returned (.agg #[.bool r1, v1_, .int .i64 r3]) /\ Kd.V (Kd.int .u32) 85 w' w.heap.size (fun k_ => (P0_1_ k_ \/ w.heap.size <= k_)) v1_ r2 /\ Below w.heap.size w w' := by
 have hu106 := Tryz.underlying106
 have HO0_1 := am (show Kd.V (Kd.int .u32) 85 w w.heap.size (fun k_ => (P0_1_ k_ \/ w.heap.size <= k_)) (.slice A0_1 l0_1.length c0_1) l0_1 from Kd.V_mono hs0_1 (fun k_ hk => .inl hk))
 have HB := am (Below.refl w.heap.size w)
 have H : (if a0_0 = true then (some (false, l0_1, a0_2)) else ((dec_number_zero.f a0_0 l0_1 a0_2).bind fun t1616 => (some (!t1616, l0_1, a0_2)))) = some (r1, r2, r3) := h
 clear h
 by_cases c2 : a0_0 = true
 ·subst c2
  rw [if_pos rfl] at H
  simp only [Option.some.injEq, Prod.mk.injEq] at H
  obtain ⟨rfl, rfl, rfl⟩ := H
  go_enter Tryz.func103, Tryz.ntmps103
  go_wp2_with (first | ((with_reducible refine gate_dst (N := 1) rfl ?_); refine box_event ?hg (N := 1) ?hd (cs := #[.bool true, .slice A0_1 l0_1.length c0_1, .int .i64 a0_2]) (t := 106) ?hr ?_; (case hd => rfl); (case hg => rfl); (case hr => first | (go_simp; done) | (go_simp; rfl)); intro gb1614 hg w3 hbox hb; have n0_ := am (Kd.V_below (Kd.V_elderB (Kd.V_below HO0_1.out pl) gb1614 (Nat.le_of_eq hg.symm)) hb); have n1_ := am (below_step pB hb); have n2_ := am (hbox); have n3_ := am ((gw hg pB : w.heap.size <= gb1614)); have n4_ := am ((gw hg pB : w.heap.size <= gb1614)); clear HO0_1 HB; have HO0_1 := n0_; have HB := n1_; have BK1614 := n2_; have GW1614 := n3_; have GE1614 := n4_; clear n0_ n1_ n2_ n3_ n4_ hb hbox hg) | ((with_reducible refine gate_dst (N := 2) rfl ?_); refine box_event ?hg (N := 2) ?hd (cs := #[.bool false, .slice none 0 0, .int .i64 0]) (t := 106) ?hr ?_; (case hd => rfl); (case hg => rfl); (case hr => first | (go_simp; done) | (go_simp; rfl)); intro gb1615 hg w4 hbox hb; have n0_ := am (Kd.V_below (Kd.V_elderB (Kd.V_below HO0_1.out pl) gb1615 (Nat.le_of_eq hg.symm)) hb); have n1_ := am (blk_below (blk_below BK1614.out pl) hb); have n2_ := am (below_step pB hb); have n3_ := am (hbox); have n4_ := am ((gw hg pB : w.heap.size <= gb1615)); have n5_ := am ((gw hg pB : w.heap.size <= gb1615)); have n6_ := am ((nl hg (blk_below BK1614.out pl) : gb1614 ≠ gb1615)); have n7_ := am ((ng hg (blk_below BK1614.out pl) : gb1615 ≠ gb1614)); clear HO0_1 BK1614 HB; have HO0_1 := n0_; have BK1614 := n1_; have HB := n2_; have BK1615 := n3_; have GW1615 := n4_; have GE1615 := n5_; have NB1614_1615 := n6_; have NB1615_1614 := n7_; clear n0_ n1_ n2_ n3_ n4_ n5_ n6_ n7_ hb hbox hg; have hnb5 := NB1614_1615.out; have hnc5 := NB1615_1614.out; obtain ⟨hcz6_0, hcz6_1, hcz6_2, hfz6_0, hfz6_1, hfz6_2⟩ := cEc BK1614.out; obtain ⟨hcz7_0, hcz7_1, hcz7_2, hfz7_0, hfz7_1, hfz7_2⟩ := cEc BK1615.out))
  refine bodyPost_ret (results_cell_row rfl _ _ gb1615 106 #[.bool false, .slice A0_1 l0_1.length c0_1, .int .i64 a0_2] (0, 0) _ rfl (by refine bp ?_; refine blk_put (cs := #[.bool false, .slice A0_1 l0_1.length c0_1, .int .i64 0]) ?_ 2 _ rfl; refine bp ?_; refine blk_put (cs := #[.bool false, .slice none 0 0, .int .i64 0]) ?_ 1 _ rfl; refine bp ?_; refine blk_put (cs := #[.bool false, .slice none 0 0, .int .i64 0]) ?_ 0 _ rfl; refine bp ?_; refine blk_far ?_ NB1615_1614.out _; exact bp BK1615.out) Tryz.underlying106 rfl (by kernel_rfl)) rfl ?_
  exact ⟨_, pE, by refine vp ?_; exact Kd.V_mono (Kd.V_far (p := ⟨gb1615, 2, none⟩) (Kd.V_far (p := ⟨gb1615, 1, none⟩) (Kd.V_far (p := ⟨gb1615, 0, none⟩) (Kd.V_far (p := ⟨gb1614, 0, none⟩) (Kd.V_mono (Kd.V_mono HO0_1.out (fun k_ hk => (⟨hk, hk.1.2⟩ : _ /\ k_ ≠ gb1614))) (fun k_ hk => (⟨hk, hk.1.2⟩ : _ /\ k_ ≠ gb1615))) (fun _ hk => hk.1.2) (.bool false)) (fun _ hk => hk.2) (.bool false)) (fun _ hk => hk.2) (.slice A0_1 l0_1.length c0_1)) (fun _ hk => hk.2) (.int .i64 a0_2)) (fun _ hk => hk.1.1.1.1), pB⟩
 ·replace c2 := Bool.eq_false_iff.mpr c2
  subst c2
  rw [if_neg (show ¬ (false = true) by decide)] at H
  obtain ⟨t1616, A8, H⟩ := ob H
  simp only [Option.some.injEq, Prod.mk.injEq] at H
  obtain ⟨rfl, rfl, rfl⟩ := H
  go_enter Tryz.func103, Tryz.ntmps103
  go_wp2_with (first | ((with_reducible refine gate_dst (N := 1) rfl ?_); refine box_event ?hg (N := 1) ?hd (cs := #[.bool false, .slice A0_1 l0_1.length c0_1, .int .i64 a0_2]) (t := 106) ?hr ?_; (case hd => rfl); (case hg => rfl); (case hr => first | (go_simp; done) | (go_simp; rfl)); intro gb1614 hg w9 hbox hb; have n0_ := am (Kd.V_below (Kd.V_elderB (Kd.V_below HO0_1.out pl) gb1614 (Nat.le_of_eq hg.symm)) hb); have n1_ := am (below_step pB hb); have n2_ := am (hbox); have n3_ := am ((gw hg pB : w.heap.size <= gb1614)); have n4_ := am ((gw hg pB : w.heap.size <= gb1614)); clear HO0_1 HB; have HO0_1 := n0_; have HB := n1_; have BK1614 := n2_; have GW1614 := n3_; have GE1614 := n4_; clear n0_ n1_ n2_ n3_ n4_ hb hbox hg) | ((with_reducible refine gate_dst (N := 2) rfl ?_); refine box_event ?hg (N := 2) ?hd (cs := #[.bool false, .slice none 0 0, .int .i64 0]) (t := 106) ?hr ?_; (case hd => rfl); (case hg => rfl); (case hr => first | (go_simp; done) | (go_simp; rfl)); intro gb1615 hg w10 hbox hb; have n0_ := am (Kd.V_below (Kd.V_elderB (Kd.V_below HO0_1.out pl) gb1615 (Nat.le_of_eq hg.symm)) hb); have n1_ := am (blk_below (blk_below BK1614.out pl) hb); have n2_ := am (below_step pB hb); have n3_ := am (hbox); have n4_ := am ((gw hg pB : w.heap.size <= gb1615)); have n5_ := am ((gw hg pB : w.heap.size <= gb1615)); have n6_ := am ((nl hg (blk_below BK1614.out pl) : gb1614 ≠ gb1615)); have n7_ := am ((ng hg (blk_below BK1614.out pl) : gb1615 ≠ gb1614)); clear HO0_1 BK1614 HB; have HO0_1 := n0_; have BK1614 := n1_; have HB := n2_; have BK1615 := n3_; have GW1615 := n4_; have GE1615 := n5_; have NB1614_1615 := n6_; have NB1615_1614 := n7_; clear n0_ n1_ n2_ n3_ n4_ n5_ n6_ n7_ hb hbox hg; have hnb11 := NB1614_1615.out; have hnc11 := NB1615_1614.out; obtain ⟨hcz12_0, hcz12_1, hcz12_2, hfz12_0, hfz12_1, hfz12_2⟩ := cEc BK1614.out) | (go_at_call 104; (with_reducible refine (dec_number_zero.calls false _ _ l0_1 a0_2 t1616 _ ?side1 ?side2 A8.out).mono ?_); (case side1 => exact Kd.C_below (Kd.V_reads' HO0_1.out).2.2 pl); (case side2 => exact (Kd.V_reads' HO0_1.out).2.1); rintro e w13 ⟨rfl, hb⟩; replace HO0_1 := am (Kd.V_below (Kd.V_below HO0_1.out pl) hb); replace BK1614 := am (blk_below (blk_below BK1614.out pl) hb); replace BK1615 := am (blk_below (blk_below BK1615.out pl) hb); replace HB := am (below_step pB hb); (try clear hb); (try clear hb2); (try clear hk); (try clear hi); obtain ⟨hcz14_0, hcz14_1, hcz14_2, hfz14_0, hfz14_1, hfz14_2⟩ := cEc BK1614.out; obtain ⟨hcz15_0, hcz15_1, hcz15_2, hfz15_0, hfz15_1, hfz15_2⟩ := cEc BK1615.out))
  refine bodyPost_ret (results_cell_row rfl _ _ gb1615 106 #[.bool (!t1616), .slice A0_1 l0_1.length c0_1, .int .i64 a0_2] (0, 0) _ rfl (by refine bp ?_; refine blk_put (cs := #[.bool (!t1616), .slice A0_1 l0_1.length c0_1, .int .i64 0]) ?_ 2 _ rfl; refine bp ?_; refine blk_put (cs := #[.bool (!t1616), .slice none 0 0, .int .i64 0]) ?_ 1 _ rfl; refine bp ?_; refine blk_put (cs := #[.bool false, .slice none 0 0, .int .i64 0]) ?_ 0 _ rfl; refine bp ?_; refine blk_far ?_ NB1615_1614.out _; exact bp BK1615.out) Tryz.underlying106 rfl (by kernel_rfl)) rfl ?_
  exact ⟨_, pE, by refine vp ?_; exact Kd.V_mono (Kd.V_far (p := ⟨gb1615, 2, none⟩) (Kd.V_far (p := ⟨gb1615, 1, none⟩) (Kd.V_far (p := ⟨gb1615, 0, none⟩) (Kd.V_far (p := ⟨gb1614, 0, none⟩) (Kd.V_mono (Kd.V_mono HO0_1.out (fun k_ hk => (⟨hk, hk.1.2⟩ : _ /\ k_ ≠ gb1614))) (fun k_ hk => (⟨hk, hk.1.2⟩ : _ /\ k_ ≠ gb1615))) (fun _ hk => hk.1.2) (.bool (!t1616))) (fun _ hk => hk.2) (.bool (!t1616))) (fun _ hk => hk.2) (.slice A0_1 l0_1.length c0_1)) (fun _ hk => hk.2) (.int .i64 a0_2)) (fun _ hk => hk.1.1.1.1), pB⟩
end YtjbjkmccfocikaaGreatDoor.B
end
end Go.Proofs
