/- QuotExact: part 5 of 6: the texts PDecF HLib B60 B61 B62 B63 PLaw2 PQuot B34 B35 B36 B37 B42 B43 B49 B51 B55 PQuotF PAlive B52 B68 B69 of this claim, one behind the other. -/
import Derived.Test.YtjbjkmccfocikaaGreatDoorZQuotExact3
import Derived.Lib.TrimByte
import Derived.Shelf.Strings.MapAny
import Derived.Lib.Hide
import Derived.Shelf.Strings.SlTrimAscii
import Derived.KernelRfl
set_option linter.unusedVariables false
set_option linter.unusedSimpArgs false
set_option maxRecDepth 100000
set_option maxHeartbeats 8000000
namespace Go.Proofs
section
namespace YtjbjkmccfocikaaGreatDoor.P
open Go.RowKit YtjbjkmccfocikaaGreatDoor.B YtjbjkmccfocikaaGreatDoorW.PrintWords YtjbjkmccfocikaaGreatDoorW.PrintLast YtjbjkmccfocikaaGreatDoorW.PrintMore YtjbjkmccfocikaaGreatDoor.P.Nm
def chr (d : Int) : UInt8 := UInt8.ofNat (48 + d.toNat)
theorem decT_list {n : Nat} (h : n ≠ 0) : (decT n).data.toList = (digs n).reverse.map chr := by
 unfold decT; rw [if_neg h]; rfl
theorem chr_nat {d : Int} (h0 : 0 <= d) (h1 : d < 10) : (chr d).toNat = 48 + d.toNat := by
 unfold chr; simp; omega
theorem decT_size (n : Nat) : (decT n).size = if n = 0 then 1 else nd n := by
 by_cases h : n = 0
 ·subst h; rfl
 ·rw [if_neg h]
  show (decT n).data.size = _
  rw [<- Array.length_toList, decT_list h]; simp [nd]
theorem mk_list {b : ByteArray} {l : List UInt8} (h : b.data.toList = l) : b = ⟨l.toArray⟩ := by
 cases b with | mk d => subst h; rfl
theorem trim_decT {n : Nat} (h : n ≠ 0) : (⟨(Lib.trimRightB (decT n).data.toList 48).toArray⟩ : ByteArray) = decT (core n) := by
 obtain ⟨h1, h2⟩ := tz_is h
 have hc := core_ne h
 symm
 refine mk_list ?_
 rw [decT_list hc, decT_list h]
 unfold Lib.trimRightB
 rw [<- List.map_reverse, List.reverse_reverse]
 have hd : digs n = List.replicate (tz n) 0 ++ digs (core n) := by
  conv => lhs; rw [h1]
  exact digs_shift hc _
 rw [hd, List.map_append, List.map_replicate, digs_step hc, List.map_cons]
 have e0 : chr 0 = 48 := rfl
 have e1 : (chr ((core n % 10 : Nat) : Int) == 48) = false := by
  refine beq_eq_false_iff_ne.2 (fun q => ?_)
  have := congrArg UInt8.toNat q
  rw [chr_nat (by omega) (by omega)] at this
  have e48 : (48 : UInt8).toNat = 48 := rfl
  rw [e48] at this
  omega
 have drop : ∀ k (l : List UInt8), (List.replicate k (48 : UInt8) ++ l).dropWhile (· == 48) = l.dropWhile (· == 48) := fun k l => by
  induction k with
  | zero => rfl
  | succ k ih => rw [List.replicate_succ, List.cons_append, List.dropWhile_cons_of_pos (by rfl), ih]
 rw [e0, drop, List.dropWhile_cons_of_neg (by rw [e1]; simp), List.map_reverse, List.map_cons]
theorem numT_decT (n : Nat) : numT (decT n) = n := by
 by_cases h : n = 0
 ·subst h; rfl
 ·unfold numT
  rw [decT_list h]
  have key : ∀ l : List Int, Dg 10 l -> (((l.reverse.map chr).foldl (fun n c => n * 10 + (c.toNat - 48)) 0 : Nat) : Int) = val 10 l := fun l => by
   induction l with
   | nil => intro _; rfl
   | cons x l ih =>
    intro hd
    have hx := hd.head
    rw [List.reverse_cons, List.map_append, List.foldl_append, List.map_cons, List.map_nil, List.foldl_cons, List.foldl_nil, chr_nat hx.1 hx.2, val_cons, <- ih hd.tail]
    omega
  have := key (digs n) (digs_dg n)
  rw [digs_val] at this
  exact_mod_cast this
theorem decT_dig (n : Nat) : (decT n).data.toList.all isDig = true := by
 by_cases h : n = 0
 ·subst h; rfl
 ·rw [decT_list h, List.all_eq_true]
  intro c hc
  obtain ⟨d, hd, rfl⟩ := List.mem_map.1 hc
  have hx := digs_dg n d (List.mem_reverse.1 hd)
  unfold isDig
  rw [chr_nat hx.1 hx.2]
  simp; omega
theorem ext_list (s : ByteArray) (a b : Nat) : (s.extract a b).data.toList = (s.data.toList.drop a).take (b - a) := by
 rw [ByteArray.data_extract, Array.toList_extract]
def numF (v : Nat) (l : List UInt8) : Nat := l.foldl (fun n c => n * 10 + (c.toNat - 48)) v
theorem numF_nil (v : Nat) : numF v [] = v := rfl
theorem numF_cons (v : Nat) (c : UInt8) (l : List UInt8) : numF v (c :: l) = numF (v * 10 + (c.toNat - 48)) l := by unfold numF; rw [List.foldl_cons]
theorem numF_app (v : Nat) (l m : List UInt8) : numF v (l ++ m) = numF (numF v l) m := by unfold numF; rw [List.foldl_append]
theorem numF_lin : ∀ (l : List UInt8) (v : Nat), numF v l = v * 10 ^ l.length + numF 0 l
 | [], v => by simp [numF]
 | c :: l, v => by
  rw [numF_cons, numF_cons, numF_lin l (v * 10 + _), numF_lin l (0 * 10 + _), List.length_cons, Nat.pow_succ, Nat.add_mul, Nat.zero_mul, Nat.zero_add, Nat.mul_assoc v 10, Nat.mul_comm 10]
  omega
theorem isDig_iff {c : UInt8} : isDig c = true ↔ 48 <= c.toNat /\ c.toNat <= 57 := by unfold isDig; simp
theorem numF_lt : ∀ (l : List UInt8), l.all isDig = true -> numF 0 l < 10 ^ l.length
 | [], _ => by simp [numF]
 | c :: l, h => by
  rw [List.all_cons, Bool.and_eq_true] at h
  have h1 := numF_lt l h.2
  have h2 := isDig_iff.1 h.1
  rw [numF_cons, numF_lin, List.length_cons, Nat.pow_succ]
  have := Nat.mul_le_mul_right (10 ^ l.length) (show 0 * 10 + (c.toNat - 48) <= 9 by omega)
  omega
theorem conv_f (s : ByteArray) (h : s.size <= 9223372036854775807) : conv_bytes146.f s = some (bytesOf s) := by unfold conv_bytes146.f; rw [if_pos h]
theorem bytesOf_getD (s : ByteArray) (i : Nat) (c : UInt8) (r : List UInt8) (h : s.data.toList.drop i = c :: r) : (bytesOf s).getD i 0 = (c.toNat : Int) := by
 unfold bytesOf
 have h2 : s.data.toList[i]? = some c := by
  have := List.getElem?_drop (xs := s.data.toList) (i := i) (j := 0)
  rw [h] at this
  simpa using this.symm
 rw [List.getD, List.getElem?_map, h2]; rfl
theorem piece_l0 (s : ByteArray) (hs : s.data.toList.all isDig = true) (hl : s.data.toList.length <= 9) : ∀ (r : List UInt8) (i v : Nat), s.data.toList.drop i = r -> i <= s.data.toList.length -> v < 10 ^ i -> Tells (fun k => nat_piece.l0 k (v : Int) (bytesOf s) ((bytesOf s).length : Int) (i : Int)) (numF v r : Int)
 | [], i, v, hr, hi, hv => by
  have hlen : (bytesOf s).length = s.data.toList.length := by unfold bytesOf; rw [List.length_map]
  have hge : s.data.toList.length <= i := List.drop_eq_nil_iff.1 hr
  refine Tells.succ ?_
  simp only [nat_piece.l0]
  exact Tells.ifn (by omega) (Tells.pure _)
 | c :: r, i, v, hr, hi, hv => by
  have hlen : (bytesOf s).length = s.data.toList.length := by unfold bytesOf; rw [List.length_map]
  have hlt : i < s.data.toList.length := by
   have := congrArg List.length hr
   rw [List.length_drop, List.length_cons] at this
   omega
  have hc : isDig c = true := List.all_eq_true.1 hs c (List.mem_of_mem_drop (by rw [hr]; exact List.mem_cons_self))
  have hc2 := isDig_iff.1 hc
  have hv9 : v < 100000000 := Nat.lt_of_lt_of_le hv (Nat.le_trans (Nat.pow_le_pow_right (by omega) (show i <= 8 by omega)) (by decide))
  have ih := piece_l0 s hs hl r (i + 1) (v * 10 + (c.toNat - 48)) (by rw [<- List.drop_drop, hr]; rfl) (by omega) (by rw [Nat.pow_succ]; omega)
  have c1 : (i : Int) < ((bytesOf s).length : Int) := by omega
  have c2 : (0 : Int) <= (i : Int) := by omega
  have e1 : (((v : Int) * 10) % 4294967296 + (((c.toNat : Int) - 48) % 256)) % 4294967296 = ((v * 10 + (c.toNat - 48) : Nat) : Int) := by omega
  refine Tells.succ ?_
  simp only [nat_piece.l0]
  rw [rd_n, bytesOf_getD s i c r hr, e1, w64s (by omega)]
  exact Tells.ifp c1 (Tells.ifp c2 (Tells.ifp c1 ih))
theorem piece_tells (s : ByteArray) (hs : s.data.toList.all isDig = true) (hl : s.data.toList.length <= 9) : Tells (fun k => nat_piece.f k s) (numF 0 s.data.toList : Int) := by
 unfold nat_piece.f
 have hsz : s.size = s.data.toList.length := by rw [Array.length_toList]; rfl
 rw [conv_f s (by omega)]
 exact (Tells.pure _).bind (piece_l0 s hs hl s.data.toList 0 0 rfl (by omega) (by simp))
theorem limbs_billion : ([1000000000] : List Int) = limbs 1000000000 := by decide +kernel
theorem trim_one (n : Nat) (h : n < 4294967296) : Tells (fun k => nat_num_trim.f k [(n : Int)]) (limbs n) :=
 trim_limbs (Dg.one (by omega) (by omega)) (by rw [val_one]) (by simp)
theorem all_drop {l : List UInt8} (h : l.all isDig = true) (n : Nat) : (l.drop n).all isDig = true := List.all_eq_true.2 fun x hx => List.all_eq_true.1 h x (List.mem_of_mem_drop hx)
theorem all_take {l : List UInt8} (h : l.all isDig = true) (n : Nat) : (l.take n).all isDig = true := List.all_eq_true.2 fun x hx => List.all_eq_true.1 h x (List.mem_of_mem_take hx)
theorem Parse_l0 : ∀ (f : Nat) (s : ByteArray) (v : Nat), s.data.toList.length <= f -> s.data.toList.all isDig = true -> (v = 0 \/ s.data.toList.length % 9 = 0) -> nd v + s.data.toList.length <= 100000 ->
  Tells (fun k => nat_Parse.l0 k s (limbs v)) (limbs (numF v s.data.toList), 0)
 | f, s, v, hf, hs, hv, hl => by
  have hsz : s.size = s.data.toList.length := by rw [Array.length_toList]; rfl
  by_cases h0 : s.data.toList = []
  ·refine Tells.succ ?_
   simp only [nat_Parse.l0]
   refine Tells.ifp (by rw [<- h0]; exact (Lib.toList_data s)) ((Tells.pure _).val ?_)
   rw [h0, numF_nil]
  ·have hpos : 0 < s.data.toList.length := List.length_pos_iff.2 h0
   obtain ⟨f, rfl⟩ : ∃ g, f = g + 1 := ⟨f - 1, by omega⟩
   obtain ⟨n, hn⟩ : ∃ n, (s.data.toList.length - 1) % 9 + 1 = n := ⟨_, rfl⟩
   have hn9 : n <= 9 := by omega
   have hnl : n <= s.data.toList.length := by omega
   have hT : (s.extract 0 n).data.toList = s.data.toList.take n := by rw [ext_list]; simp
   have hD : (s.extract n s.size).data.toList = s.data.toList.drop n := by
    rw [ext_list, hsz, List.take_of_length_le (by rw [List.length_drop]; omega)]
   have hp := piece_tells (s.extract 0 n) (by rw [hT]; exact all_take hs n) (by rw [hT, List.length_take]; omega)
   rw [hT] at hp
   have hpl := numF_lt (s.data.toList.take n) (all_take hs n)
   obtain ⟨p, hpp⟩ : ∃ p, numF 0 (s.data.toList.take n) = p := ⟨_, rfl⟩
   rw [hpp] at hp hpl
   rw [List.length_take, Nat.min_eq_left hnl] at hpl
   have hp9 : p < 1000000000 := Nat.lt_of_lt_of_le hpl (Nat.le_trans (Nat.pow_le_pow_right (by omega) hn9) (by decide))
   have hv2 : v * 1000000000 + p = numF v (s.data.toList.take n) := by
    rw [numF_lin, hpp, List.length_take, Nat.min_eq_left hnl]
    rcases hv with h | h
    ·rw [h]; simp
    ·rw [show n = 9 by omega]
   have hndv : nd (v * 1000000000 + p) <= nd v + 9 := by
    refine nd_le ?_
    have := nd_lt v
    rw [Nat.pow_add]
    have h9 : (10 : Nat) ^ 9 = 1000000000 := by decide
    rw [h9]
    have := Nat.mul_le_mul_right 1000000000 (show v + 1 <= 10 ^ nd v by omega)
    omega
   have hv0 : v = 0 -> nd (v * 1000000000 + p) <= n := fun e => by
    subst e
    rw [Nat.zero_mul, Nat.zero_add]
    exact nd_le hpl
   have hndb : nd 1000000000 <= 10 := nd_le (by decide)
   have hndp : nd p <= 9 := nd_le hp9
   have hm := mul_limbs (m := v) (n := 1000000000) (by omega) (by omega)
   have ha := add_limbs (m := v * 1000000000) (n := p) (Nat.le_trans (nd_mono (Nat.le_add_right _ p)) (by omega)) (by omega)
   have ih := Parse_l0 f (s.extract n s.size) (v * 1000000000 + p) (by rw [hD, List.length_drop]; omega) (by rw [hD]; exact all_drop hs n) (.inr (by rw [hD, List.length_drop]; omega)) (by
    rw [hD, List.length_drop]
    rcases hv with h | h
    ·have := hv0 h; omega
    ·have : n = 9 := by omega
     omega)
   rw [hD] at ih
   have ih := ih.val (u := (limbs (numF v s.data.toList), 0)) (by rw [hv2, <- numF_app, List.take_append_drop])
   have e1 : (s.size : Int) - 1 = ((s.data.toList.length - 1 : Nat) : Int) := by omega
   have e2 : Int.tmod ((s.data.toList.length - 1 : Nat) : Int) 9 = (((s.data.toList.length - 1) % 9 : Nat) : Int) := by rw [Int.tmod_eq_emod_of_nonneg (by omega)]; omega
   have c1 : (0 : Int) <= (n : Int) := by omega
   have c2 : (n : Int) <= (s.size : Int) := by omega
   refine Tells.succ ?_
   simp only [nat_Parse.l0]
   rw [e1, w64c (by omega), e2, w64s (by omega), hn, Int.toNat_natCast, limbs_billion]
   refine Tells.ifn (fun q => h0 (by rw [<- Lib.toList_data s]; exact q)) (hm.bind (Tells.ifp c1 (Tells.ifp c2 (hp.bind ((trim_one p (by omega)).bind (ha.bind ih))))))
theorem any_digits (s : ByteArray) (h : s.data.toList.all isDig = true) : nat_Parse_any.f (bytesOf s) = some false := by
 unfold nat_Parse_any.f
 rw [anyO_some (fun x => decide (x < 48) || decide (57 < x)) (bytesOf s) (fun x _ => by
  unfold nat_Parse_1.f
  by_cases h1 : x < 48
  ·rw [if_pos h1, decide_eq_true h1]; rfl
  ·rw [if_neg h1, decide_eq_false h1]; rfl)]
 congr 1
 rw [List.any_eq_false]
 intro x hx
 unfold bytesOf at hx
 obtain ⟨c, hc, rfl⟩ := List.mem_map.1 hx
 have := isDig_iff.1 (List.all_eq_true.1 h c hc)
 simp; omega
theorem Parse_tells (s : ByteArray) (h : s.data.toList.all isDig = true) (h0 : 0 < s.size) (h1 : s.size <= 2400) : Tells (fun k => nat_Parse.f k s) (limbs (numF 0 s.data.toList), 0) := by
 have hsz : s.size = s.data.toList.length := by rw [Array.length_toList]; rfl
 unfold nat_Parse.f
 rw [conv_f s (by omega)]
 refine Tells.ifn (by omega) (Tells.ifn (by omega) ((Tells.pure _).bind ?_))
 rw [any_digits s h]
 exact (Tells.pure _).bind (Tells.ifn (by simp) (Parse_l0 _ s 0 (Nat.le_refl _) h (.inl rfl) (by rw [nd_zero]; omega)))
theorem Parse_decT {n : Nat} (h : nd n <= 2400) : Tells (fun k => nat_Parse.f k (decT n)) (limbs n, 0) := by
 have hs := decT_size n
 have hpos : 0 < (decT n).size := by
  rw [hs]; split
  ·omega
  ·rename_i h0; exact nd_pos h0
 have hle : (decT n).size <= 2400 := by rw [hs]; split <;> omega
 refine (Parse_tells (decT n) (decT_dig n) hpos hle).val ?_
 rw [show numF 0 (decT n).data.toList = n from numT_decT n]
theorem zero_f (a : Bool) (n : Nat) (e : Int) : dec_number_zero.f a (limbs n) e = some (decide (n = 0)) := by
 unfold dec_number_zero.f
 congr 1
 by_cases h : n = 0
 ·subst h; rfl
 ·have : 0 < (limbs n).length := List.length_pos_iff.2 (limbs_ne h)
  rw [decide_eq_false h]
  exact beq_eq_false_iff_ne.2 (by omega)
theorem digits_tells {n : Nat} (h : (limbs n).length <= 256) : Tells (fun k => dec_digits.f k (limbs n)) (nd n : Int) := by
 unfold dec_digits.f
 refine (Print_tells h).bind ?_
 by_cases h0 : n = 0
 ·subst h0
  exact Tells.ifp rfl (Tells.pure _)
 ·have hl : 0 < (limbs n).length := List.length_pos_iff.2 (limbs_ne h0)
  refine Tells.ifn (by omega) ((Tells.pure _).val ?_)
  rw [decT_size, if_neg h0]
theorem core_len {n : Nat} (h : (limbs n).length <= 256) : (limbs (core n)).length <= 256 := by
 refine limbs_len_of (Nat.lt_of_le_of_lt (core_le n) (Nat.lt_of_lt_of_le (limbs_lt n) (Nat.pow_le_pow_right (by omega) h)))
theorem strip_tells (a : Bool) {n : Nat} (e : Int) (h0 : n ≠ 0) (h : (limbs n).length <= 256) (hd : nd n <= 2400) (he1 : -1000000000 <= e) (he2 : e <= 1000000000) : Tells (fun k => dec_number_strip.f k a (limbs n) e) (a, limbs (core n), e + tz n) := by
 have hs := decT_size n
 have hs2 := decT_size (core n)
 have hnc := nd_core h0
 rw [if_neg h0] at hs
 rw [if_neg (core_ne h0)] at hs2
 unfold dec_number_strip.f dec_must2.f dec_must.f strings_TrimRight.f
 refine (Print_tells h).bind ((Tells.pure _).bind ?_)
 rw [if_pos ⟨rfl, by show (decT n).size <= _; omega⟩]
 refine (Tells.pure _).bind ?_
 simp only [trim_decT h0]
 by_cases ht : tz n = 0
 ·have hc : core n = n := by
   have := (tz_is h0).1
   rw [ht, Nat.pow_zero, Nat.mul_one] at this
   exact this.symm
  refine Tells.ifp (by rw [hc]) ((Tells.pure _).val ?_)
  rw [hc, ht]; simp
 ·refine Tells.ifn (by omega) ?_
  have e1 : ((decT n).size : Int) - ((decT (core n)).size : Int) = (tz n : Int) := by omega
  refine (Parse_decT (by omega)).bind ((Tells.pure _).bind ((Tells.pure _).val ?_))
  rw [e1, w64c (m := tz n) (by omega), w64n (by omega) (by omega)]
theorem settle_tells (a : Bool) {n : Nat} (e : Int) (h : (limbs n).length <= 256) (hd : nd n <= 2400) (he1 : -1000000000 <= e) (he2 : e <= 1000000000) : Tells (fun k => dec_settle.f k a (limbs n) e) (outD (settleD ⟨a, n, e⟩)) := by
 unfold dec_settle.f settleD
 rw [zero_f]
 refine (Tells.pure _).bind ?_
 simp only
 by_cases h0 : n = 0
 ·subst h0
  exact Tells.ifp rfl (Tells.pure _)
 ·rw [if_neg h0]
  have hcd := nd_core h0
  refine Tells.ifn (by simp [h0]) ((strip_tells a e h0 h hd he1 he2).bind ((digits_tells (core_len h)).bind ?_))
  dsimp only
  by_cases h3 : 300 < nd (core n)
  ·rw [if_pos h3]
   exact Tells.ifp (by omega) (Tells.pure _)
  ·rw [if_neg h3]
   refine Tells.ifn (by omega) ?_
   by_cases h4 : e + tz n < -1000
   ·exact (Tells.ifp h4 (Tells.pure _)).val (by rw [if_pos (Or.inl h4)]; rfl)
   ·refine Tells.ifn h4 ?_
    by_cases h5 : 1000 < e + tz n
    ·exact (Tells.ifp h5 (Tells.pure _)).val (by rw [if_pos (Or.inr h5)]; rfl)
    ·exact (Tells.ifn h5 (Tells.pure _)).val (by rw [if_neg (by omega)])
theorem ten_tells {n : Nat} (h : (limbs n).length <= 256) : Tells (fun k => dec_ten.f k (limbs n)) (limbs (n / 10), decide (n % 10 = 0)) := by
 unfold dec_ten.f
 have h10 : (limbs 10).length <= 256 := by decide +kernel
 refine (From_tells 10 (by omega)).bind ((Div_tells h h10).bind ((Tells.pure _).val ?_))
 rw [if_neg (by omega)]
 dsimp only
 congr 1
 by_cases h0 : n % 10 = 0
 ·rw [h0]; rfl
 ·have : 0 < (limbs (n % 10)).length := List.length_pos_iff.2 (limbs_ne h0)
  rw [decide_eq_false h0]
  exact beq_eq_false_iff_ne.2 (by omega)
theorem DCheck_tells (a : Bool) (l : List Int) (e : Int) (hd : Dg 4294967296 l) (hl : l.length <= 9223372036854775807) : Tells (fun k => dec_Check.f k a l e) (chk a l e) := by
 unfold dec_Check.f
 rw [Check_tells l hl]
 refine (Tells.pure _).bind ?_
 have bad : chk a l e = 9 -> Tells (fun k => dec_Check.j0 k true a l e) (chk a l e) := fun h => by
  rw [h]
  refine Tells.succ ?_
  simp only [dec_Check.j0]
  exact Tells.ifp trivial (Tells.pure _)
 by_cases hc : chkL l = 0
 ·refine Tells.ifp hc ?_
  by_cases h40 : l.length <= 40
  ·rw [decide_eq_false (show ¬ ((l.length : Int) > 40) by omega)]
   have hok := (chkL_ok hd).1 hc
   obtain ⟨n, hn⟩ : ∃ n, num l = n := ⟨_, rfl⟩
   have hln : l = limbs n := by rw [<- hn]; exact (limbs_num hok).symm
   have hchk : chk a l e = if okB ⟨a, n, e⟩ = true then 0 else 9 := by
    unfold chk
    rw [hn]
    by_cases h : okB ⟨a, n, e⟩ = true
    ·rw [if_pos ⟨hc, h40, h⟩, if_pos h]
    ·rw [if_neg (fun q => h q.2.2), if_neg h]
   rw [hchk]
   subst hln
   have h256 : (limbs n).length <= 256 := by omega
   unfold okB
   simp only
   refine Tells.succ ?_
   simp only [dec_Check.j0]
   refine Tells.ifn (by simp) ?_
   by_cases h0 : n = 0
   ·subst h0
    rw [if_pos rfl]
    refine Tells.ifp rfl ?_
    cases a
    ·refine Tells.ifn (by simp) ?_
     by_cases he : e = 0
     ·subst he; exact Tells.ifp rfl (Tells.pure _)
     ·refine Tells.ifn he ((Tells.pure _).val ?_)
      simp [he]
    ·exact Tells.ifp rfl (Tells.pure _)
   ·have hpos : 0 < (limbs n).length := List.length_pos_iff.2 (limbs_ne h0)
    rw [if_neg h0]
    refine Tells.ifn (by omega) ((ten_tells h256).bind ?_)
    dsimp only
    by_cases hz : n % 10 = 0
    ·rw [decide_eq_false (not_not_intro hz)]
     exact Tells.ifp (decide_eq_true hz) (Tells.pure _)
    ·rw [decide_eq_true hz]
     refine Tells.ifn (by simp [hz]) ((digits_tells h256).bind ?_)
     by_cases h3 : nd n <= 300
     ·rw [decide_eq_true h3]
      refine Tells.ifn (by omega) ?_
      by_cases h4 : e < -1000
      ·rw [decide_eq_false (show ¬ (-1000 <= e) by omega)]
       exact Tells.ifp h4 (Tells.pure _)
      ·rw [decide_eq_true (show -1000 <= e by omega)]
       refine Tells.ifn h4 ?_
       by_cases h5 : 1000 < e
       ·rw [decide_eq_false (show ¬ (e <= 1000) by omega)]
        exact Tells.ifp h5 (Tells.pure _)
       ·rw [decide_eq_true (show e <= 1000 by omega)]
        exact Tells.ifn h5 (Tells.pure _)
     ·rw [decide_eq_false h3]
      exact Tells.ifp (by omega) (Tells.pure _)
  ·rw [decide_eq_true (show ((l.length : Int) > 40) by omega)]
   exact bad (by unfold chk; rw [if_neg (fun q => h40 q.2.1)])
 ·exact Tells.ifn hc (bad (by unfold chk; rw [if_neg (fun q => hc q.1)]))
theorem len_nd {n : Nat} (h : nd n <= 2304) : (limbs n).length <= 256 := limbs_len9 (by omega)
theorem clone_f (l : List Int) (h : l.length <= 10000) : slices_Clone_uint32_uint32.f l = some l := by unfold slices_Clone_uint32_uint32.f; rw [if_pos (by omega)]
theorem DSettle_tells (s : Bool) (n : Nat) (e : Int) (h : (limbs n).length <= 256) (hd : nd n <= 2400) : Tells (fun k => dec_Settle.f k s (limbs n) e) (if e < -4000 \/ 4000 < e then (false, [], 0, 52) else outD (settleD ⟨s, n, e⟩)) := by
 have bad : Tells (fun k => dec_Settle.j0 k s (limbs n) e true) (false, [], 0, 52) := by
  refine Tells.succ ?_
  simp only [dec_Settle.j0]
  exact Tells.ifp trivial (Tells.pure _)
 unfold dec_Settle.f
 rw [chkN h]
 refine (Tells.pure _).bind (Tells.ifp rfl ?_)
 by_cases h1 : e < -4000
 ·rw [if_pos (.inl h1)]
  exact Tells.ifp h1 bad
 ·refine Tells.ifn h1 ?_
  by_cases h2 : 4000 < e
  ·rw [if_pos (.inr h2), decide_eq_true (show e > 4000 from h2)]
   exact bad
  ·rw [if_neg (by omega), decide_eq_false (show ¬ (e > 4000) from h2)]
   refine Tells.succ ?_
   simp only [dec_Settle.j0]
   rw [clone_f _ (by omega)]
   exact Tells.ifn (by simp) ((Tells.pure _).bind ((settle_tells s e h hd (by omega) (by omega)).bind (Tells.pure _)))
end YtjbjkmccfocikaaGreatDoor.P
end
section
namespace YtjbjkmccfocikaaGreatDoor.B
open Go.RowKit Go.Shelf YtjbjkmccfocikaaGreatDoorW.PrintWords
theorem add_at (b o j : Nat) : (⟨b, o, none⟩ : Addr).add j = ⟨b, o + j, none⟩ := by unfold Addr.add; split <;> simp_all
end YtjbjkmccfocikaaGreatDoor.B
end
section
namespace YtjbjkmccfocikaaGreatDoor.B
open Go.RowKit YtjbjkmccfocikaaGreatDoorW.PrintWords YtjbjkmccfocikaaGreatDoorW.PrintLast YtjbjkmccfocikaaGreatDoorW.PrintMore
attribute [local go_sem] max2_int min2_int max_two min_two max_three min_three max_four min_four
def bolterref02_digit.f (a0 : ByteArray) (a1 : Int) : Option (Bool) := if a1 < (a0.size : Int) then (if 0 <= a1 then (if (bt a0 a1) >= 48 then (some (decide ((bt a0 a1) <= 57))) else (some false)) else (none)) else (some false)
theorem bolterref02_digit.calls (a0 : ByteArray) (a1 : Int) (r : Bool) (w : World) (h : bolterref02_digit.f a0 a1 = some r) :
  Calls Tryz.prog 153 #[.string a0, .int .i64 a1] w fun e w' => e = .returned (.bool r) /\ Drawn0 w w' := by
 have H : (if a1 < (a0.size : Int) then (if 0 <= a1 then (if (bt a0 a1) >= 48 then (some (decide ((bt a0 a1) <= 57))) else (some false)) else (none)) else (some false)) = some r := h
 clear h
 by_cases c3 : a1 < (a0.size : Int)
 ·rw [if_pos c3] at H
  have c3b0 : decide (a1 < (a0.size : Int)) = true := decide_eq_true c3
  clear c3
  by_cases c4 : 0 <= a1
  ·rw [if_pos c4] at H
   have c4b0 : decide (0 <= a1) = true := decide_eq_true c4
   clear c4
   by_cases c6 : (bt a0 a1) >= 48
   ·rw [if_pos c6] at H
    have c6b0 : decide (48 <= (bt a0 a1)) = true := decide_eq_true c6
    clear c6
    obtain rfl := Option.some.inj H
    have p5 : 0 <= (a1 : Int) := of_decide_eq_true pQ
    have q5 : a1 < (a0.size : Int) := of_decide_eq_true pQ
    have hx5 := bt_at a0 a1
    replace p5 := eq_true p5
    replace q5 := eq_true q5
    have p7 : 0 <= (a1 : Int) := of_decide_eq_true pQ
    have q7 : a1 < (a0.size : Int) := of_decide_eq_true pQ
    have hx7 := bt_at a0 a1
    replace p7 := eq_true p7
    replace q7 := eq_true q7
    go_enter Tryz.func153, Tryz.ntmps153
    go_wp2
    go_ret
    exact ⟨pR, pD⟩
   ·rw [if_neg c6] at H
    have c6b0 : decide (48 <= (bt a0 a1)) = false := decide_eq_false c6
    clear c6
    obtain rfl := Option.some.inj H
    have p5 : 0 <= (a1 : Int) := of_decide_eq_true pQ
    have q5 : a1 < (a0.size : Int) := of_decide_eq_true pQ
    have hx5 := bt_at a0 a1
    replace p5 := eq_true p5
    replace q5 := eq_true q5
    go_enter Tryz.func153, Tryz.ntmps153
    go_wp2
    go_ret
    exact ⟨pR, pD⟩
  ·rw [if_neg c4] at H
   exact absurd H (by simp)
 ·rw [if_neg c3] at H
  have c3b0 : decide (a1 < (a0.size : Int)) = false := decide_eq_false c3
  clear c3
  obtain rfl := Option.some.inj H
  go_enter Tryz.func153, Tryz.ntmps153
  go_wp2
  go_ret
  exact ⟨pR, pD⟩
mutual
def bolterref02_Ends.j0 : Nat -> ByteArray -> Int -> Bool -> Option (Int × Bool)
 | 0, _, _, _ => none
 | k + 1, x0, x1, x15 => if x15 = true then (bolterref02_Ends.j1 k x0 (wrap64 (x1 + 1))) else (bolterref02_Ends.j1 k x0 x1)
def bolterref02_Ends.j1 : Nat -> ByteArray -> Int -> Option (Int × Bool)
 | 0, _, _ => none
 | k + 1, x0, x1 => (bolterref02_digit.f x0 x1).bind fun t534 => (if t534 = true then (if 0 <= x1 then (if x1 < (x0.size : Int) then (if (bt x0 x1) = 48 then (bolterref02_Ends.j3 k x0 (wrap64 (x1 + 1))) else (bolterref02_Ends.l0 k x0 x1)) else (none)) else (none)) else (some (x1, false)))
def bolterref02_Ends.j3 : Nat -> ByteArray -> Int -> Option (Int × Bool)
 | 0, _, _ => none
 | k + 1, x0, x1 => if x1 < (x0.size : Int) then (if 0 <= x1 then (bolterref02_Ends.j4 k x0 x1 ((bt x0 x1) == 46)) else (none)) else (bolterref02_Ends.j4 k x0 x1 false)
def bolterref02_Ends.j4 : Nat -> ByteArray -> Int -> Bool -> Option (Int × Bool)
 | 0, _, _, _ => none
 | k + 1, x0, x1, x43 => if x43 = true then ((bolterref02_digit.f x0 (wrap64 (x1 + 1))).bind fun t536 => (if t536 = true then (bolterref02_Ends.l1 k x0 (wrap64 (x1 + 1))) else (some (wrap64 (x1 + 1), false)))) else (bolterref02_Ends.j6 k x0 x1)
def bolterref02_Ends.j6 : Nat -> ByteArray -> Int -> Option (Int × Bool)
 | 0, _, _ => none
 | k + 1, x0, x1 => if x1 < (x0.size : Int) then (if 0 <= x1 then (if (bt x0 x1) = 101 then (bolterref02_Ends.j7 k x0 x1 true) else (bolterref02_Ends.j7 k x0 x1 ((bt x0 x1) == 69))) else (none)) else (bolterref02_Ends.j7 k x0 x1 false)
def bolterref02_Ends.j7 : Nat -> ByteArray -> Int -> Bool -> Option (Int × Bool)
 | 0, _, _, _ => none
 | k + 1, x0, x1, x71 => if x71 = true then (if (wrap64 (x1 + 1)) < (x0.size : Int) then (if 0 <= (wrap64 (x1 + 1)) then (if (bt x0 (wrap64 (x1 + 1))) = 43 then (bolterref02_Ends.j8 k x0 (wrap64 (x1 + 1)) true) else (bolterref02_Ends.j8 k x0 (wrap64 (x1 + 1)) ((bt x0 (wrap64 (x1 + 1))) == 45))) else (none)) else (bolterref02_Ends.j8 k x0 (wrap64 (x1 + 1)) false)) else (some (x1, true))
def bolterref02_Ends.j8 : Nat -> ByteArray -> Int -> Bool -> Option (Int × Bool)
 | 0, _, _, _ => none
 | k + 1, x0, x1, x89 => if x89 = true then (bolterref02_Ends.j9 k x0 (wrap64 (x1 + 1))) else (bolterref02_Ends.j9 k x0 x1)
def bolterref02_Ends.j9 : Nat -> ByteArray -> Int -> Option (Int × Bool)
 | 0, _, _ => none
 | k + 1, x0, x1 => (bolterref02_digit.f x0 x1).bind fun t538 => (if t538 = true then (bolterref02_Ends.l2 k x0 x1) else (some (x1, false)))
def bolterref02_Ends.l2 : Nat -> ByteArray -> Int -> Option (Int × Bool)
 | 0, _, _ => none
 | k + 1, x0, x1 => (bolterref02_digit.f x0 x1).bind fun t539 => (if t539 = true then (bolterref02_Ends.l2 k x0 (wrap64 (x1 + 1))) else (some (x1, true)))
def bolterref02_Ends.l1 : Nat -> ByteArray -> Int -> Option (Int × Bool)
 | 0, _, _ => none
 | k + 1, x0, x1 => (bolterref02_digit.f x0 x1).bind fun t537 => (if t537 = true then (bolterref02_Ends.l1 k x0 (wrap64 (x1 + 1))) else (bolterref02_Ends.j6 k x0 x1))
def bolterref02_Ends.l0 : Nat -> ByteArray -> Int -> Option (Int × Bool)
 | 0, _, _ => none
 | k + 1, x0, x1 => (bolterref02_digit.f x0 x1).bind fun t535 => (if t535 = true then (bolterref02_Ends.l0 k x0 (wrap64 (x1 + 1))) else (bolterref02_Ends.j3 k x0 x1))
end
def bolterref02_Ends.f (k : Nat) (a0 : ByteArray) (a1 : Int) : Option (Int × Bool) := if a1 < (a0.size : Int) then (if 0 <= a1 then (bolterref02_Ends.j0 k a0 a1 ((bt a0 a1) == 45)) else (none)) else (bolterref02_Ends.j0 k a0 a1 false)
theorem bolterref02_Ends.calls (k : Nat) (a0 : ByteArray) (a1 : Int) (r1 : Int) (r2 : Bool) (w : World) (h : bolterref02_Ends.f k a0 a1 = some (r1, r2)) :
  Calls Tryz.prog 117 #[.string a0, .int .i64 a1] w fun e w' => e = .returned (.tuple #[.int .i64 r1, .bool r2]) /\ Drawn0 w w' := by
 have H : (if a1 < (a0.size : Int) then (if 0 <= a1 then (bolterref02_Ends.j0 k a0 a1 ((bt a0 a1) == 45)) else (none)) else (bolterref02_Ends.j0 k a0 a1 false)) = some (r1, r2) := h
 clear h
 have HC3 := am H
 clear H
 go_enter Tryz.func117, Tryz.ntmps117
 go_upto_region 1 with (fail)
 go_cut [15] (fun v15 wc => ∃ (kq : Nat) (x15_2 : Bool), v15 = .bool x15_2 /\ Aside0 (bolterref02_Ends.j0 kq a0 a1 x15_2 = some (r1, r2)) /\ Aside0 (kq <= k) /\ Drawn0 w wc)
 case first =>
  have H := HC3.out
  clear HC3
  by_cases c4 : a1 < (a0.size : Int)
  ·rw [if_pos c4] at H
   have c4b0 : decide (a1 < (a0.size : Int)) = true := decide_eq_true c4
   clear c4
   (first | rw [c4b0] | (simp only [i64_w, i32_w]; rw [c4b0]) | skip)
   by_cases c5 : 0 <= a1
   ·rw [if_pos c5] at H
    have c5b0 : decide (0 <= a1) = true := decide_eq_true c5
    clear c5
    have H' := am H
    clear H
    have p6 : 0 <= (a1 : Int) := of_decide_eq_true pQ
    have q6 : a1 < (a0.size : Int) := of_decide_eq_true pQ
    have hx6 := bt_at a0 a1
    replace p6 := eq_true p6
    replace q6 := eq_true q6
    go_wp2
    go_meet
    case rel => exact ⟨_, (((bt a0 a1) == 45)), pR, H', ⟨by first | omega | exact Nat.le_refl _⟩, pD⟩
   ·rw [if_neg c5] at H
    exact absurd H (by simp)
  ·rw [if_neg c4] at H
   have c4b0 : decide (a1 < (a0.size : Int)) = false := decide_eq_false c4
   clear c4
   (first | rw [c4b0] | (simp only [i64_w, i32_w]; rw [c4b0]) | skip)
   have H' := am H
   clear H
   go_wp2
   go_meet
   case rel => exact ⟨_, (false), pR, H', ⟨by first | omega | exact Nat.le_refl _⟩, pD⟩
 case rest =>
  clear HC3
  obtain ⟨kq, x15_2, rfl, HA, HJ2, ⟨mc2, rfl⟩⟩ := hcut
  cases kq with
  | zero => exact absurd HA.out (by simp [bolterref02_Ends.j0])
  | succ kj2 =>
   have H := HA.out
   clear HA
   simp only [bolterref02_Ends.j0] at H
   have HC7 := am H
   clear H
   go_upto_if 15 with (fail)
   go_cut [1] (fun v1 wc => ∃ (kq : Nat) (x1_6 : Int), v1 = .int .i64 x1_6 /\ Aside0 (bolterref02_Ends.j1 kq a0 x1_6 = some (r1, r2)) /\ Aside0 (kq <= kj2) /\ Drawn0 w wc)
   case first =>
    have H := HC7.out
    clear HC7
    by_cases c8 : x15_2 = true
    ·subst c8
     rw [if_pos rfl] at H
     have H' := am H
     clear H
     go_wp2
     go_meet
     case rel => exact ⟨_, (wrap64 (a1 + 1)), pR, H', ⟨by have := HJ2.out; first | omega | exact Nat.le_refl _⟩, pD⟩
    ·replace c8 := Bool.eq_false_iff.mpr c8
     subst c8
     rw [if_neg (show ¬ (false = true) by decide)] at H
     have H' := am H
     clear H
     go_wp2
     go_meet
     case rel => exact ⟨_, (a1), pR, H', ⟨by have := HJ2.out; first | omega | exact Nat.le_refl _⟩, pD⟩
   case rest =>
    clear HC7
    obtain ⟨kq, x1_6, rfl, HA, HJ6, ⟨mc6, rfl⟩⟩ := hcut
    cases kq with
    | zero => exact absurd HA.out (by simp [bolterref02_Ends.j1])
    | succ kj6 =>
     have H := HA.out
     clear HA
     simp only [bolterref02_Ends.j1] at H
     obtain ⟨t534, A9, H⟩ := ob H
     by_cases c10 : t534 = true
     ·subst c10
      rw [if_pos rfl] at H
      by_cases c11 : 0 <= x1_6
      ·rw [if_pos c11] at H
       have c11b0 : decide (0 <= x1_6) = true := decide_eq_true c11
       clear c11
       by_cases c12 : x1_6 < (a0.size : Int)
       ·rw [if_pos c12] at H
        have c12b0 : decide (x1_6 < (a0.size : Int)) = true := decide_eq_true c12
        clear c12
        have HC14 := am H
        clear H
        go_upto_if 26 with (first | (refine gL (some 20) Tryz.func153 #[.string a0, .int .i64 x1_6] (h := ?_); (with_reducible refine (bolterref02_digit.calls a0 x1_6 true _ A9.out).mono ?_); rintro e w' ⟨rfl, ⟨nd, rfl⟩⟩; refine ⟨_, rfl, ?_⟩; have p13 : 0 <= (x1_6 : Int) := of_decide_eq_true pQ; have q13 : x1_6 < (a0.size : Int) := of_decide_eq_true pQ; have hx13 := bt_at a0 x1_6; replace p13 := eq_true p13; replace q13 := eq_true q13))
        (try simp only [Act.put, List.setIfInBounds_toArray, List.set_cons_zero, List.set_cons_succ])
        go_cut [1] (fun v1 wc => ∃ (kq : Nat) (x1_13 : Int), v1 = .int .i64 x1_13 /\ Aside0 (bolterref02_Ends.j3 kq a0 x1_13 = some (r1, r2)) /\ Aside0 (kq <= kj6) /\ Drawn0 w wc)
        case first =>
         have H := HC14.out
         clear HC14
         by_cases c15 : (bt a0 x1_6) = 48
         ·rw [if_pos c15] at H
          have c15b0 : ((bt a0 x1_6) == 48) = true := beq_iff_eq.mpr c15
          have c15b1 : ((bt a0 x1_6) != 48) = false := bne_eq_false_iff_eq.mpr c15
          clear c15
          (first | rw [c15b0] | (simp only [i64_w, i32_w]; rw [c15b0]) | skip)
          have H' := am H
          clear H
          go_wp2
          go_meet
          case rel => exact ⟨_, (wrap64 (x1_6 + 1)), pR, H', ⟨by have := HJ2.out; have := HJ6.out; first | omega | exact Nat.le_refl _⟩, pD⟩
         ·rw [if_neg c15] at H
          have c15b0 : ((bt a0 x1_6) == 48) = false := beq_eq_false_iff_ne.mpr c15
          have c15b1 : ((bt a0 x1_6) != 48) = true := bne_iff_ne.mpr c15
          (first | rw [c15b0] | (simp only [i64_w, i32_w]; rw [c15b0]) | skip)
          have H' := am H
          clear H
          go_wp2
          go_loopg [1] kj6 (fun kq v1 w' => ∃ (x1_3 : Int), v1 = .int .i64 x1_3 /\ Aside0 (bolterref02_Ends.l0 kq a0 x1_3 = some (r1, r2)) /\ Aside0 (kq <= kj6) /\ Drawn0 w w')
          case atStart => exact ⟨(x1_6), pR, H', ⟨Nat.le_refl _⟩, pD⟩
          case round =>
           clear H'
           obtain ⟨x1_3, rfl, HA, HK3, ⟨m3, rfl⟩⟩ := hrel
           cases gk with
           | zero => exact absurd HA.out (by simp [bolterref02_Ends.l0])
           | succ k3 =>
            have H := HA.out
            clear HA
            simp only [bolterref02_Ends.l0] at H
            obtain ⟨t535, A16, H⟩ := ob H
            by_cases c17 : t535 = true
            ·subst c17
             rw [if_pos rfl] at H
             have H' := am H
             clear H
             go_wp2_with (first | (refine gL (some 31) Tryz.func153 #[.string a0, .int .i64 x1_3] (h := ?_); (with_reducible refine (bolterref02_digit.calls a0 x1_3 true _ A16.out).mono ?_); rintro e w' ⟨rfl, ⟨nd, rfl⟩⟩; refine ⟨_, rfl, ?_⟩))
             go_roundg k3
             case measure => have := HJ2.out; have := HJ6.out; have := HK3.out; omega
             case rel => exact ⟨(wrap64 (x1_3 + 1)), pR, H', ⟨by have := HJ2.out; have := HJ6.out; have := HK3.out; omega⟩, pD⟩
            ·replace c17 := Bool.eq_false_iff.mpr c17
             subst c17
             rw [if_neg (show ¬ (false = true) by decide)] at H
             have H' := am H
             clear H
             go_wp2_with (first | (refine gL (some 31) Tryz.func153 #[.string a0, .int .i64 x1_3] (h := ?_); (with_reducible refine (bolterref02_digit.calls a0 x1_3 false _ A16.out).mono ?_); rintro e w' ⟨rfl, ⟨nd, rfl⟩⟩; refine ⟨_, rfl, ?_⟩))
             go_meet
             case rel => exact ⟨_, (x1_3), pR, H', ⟨by have := HJ2.out; have := HJ6.out; have := HK3.out; first | omega | exact Nat.le_refl _⟩, pD⟩
        case rest =>
         clear HC14
         obtain ⟨kq, x1_13, rfl, HA, HJ13, ⟨mc13, rfl⟩⟩ := hcut
         cases kq with
         | zero => exact absurd HA.out (by simp [bolterref02_Ends.j3])
         | succ kj13 =>
          have H := HA.out
          clear HA
          simp only [bolterref02_Ends.j3] at H
          have HC18 := am H
          clear H
          go_upto_region 9 with (fail)
          go_cut [43] (fun v43 wc => ∃ (kq : Nat) (x43_17 : Bool), v43 = .bool x43_17 /\ Aside0 (bolterref02_Ends.j4 kq a0 x1_13 x43_17 = some (r1, r2)) /\ Aside0 (kq <= kj13) /\ Drawn0 w wc)
          case first =>
           have H := HC18.out
           clear HC18
           by_cases c19 : x1_13 < (a0.size : Int)
           ·rw [if_pos c19] at H
            have c19b0 : decide (x1_13 < (a0.size : Int)) = true := decide_eq_true c19
            clear c19
            (first | rw [c19b0] | (simp only [i64_w, i32_w]; rw [c19b0]) | skip)
            by_cases c20 : 0 <= x1_13
            ·rw [if_pos c20] at H
             have c20b0 : decide (0 <= x1_13) = true := decide_eq_true c20
             clear c20
             have H' := am H
             clear H
             have p21 : 0 <= (x1_13 : Int) := of_decide_eq_true pQ
             have q21 : x1_13 < (a0.size : Int) := of_decide_eq_true pQ
             have hx21 := bt_at a0 x1_13
             replace p21 := eq_true p21
             replace q21 := eq_true q21
             go_wp2
             go_meet
             case rel => exact ⟨_, (((bt a0 x1_13) == 46)), pR, H', ⟨by have := HJ2.out; have := HJ6.out; have := HJ13.out; first | omega | exact Nat.le_refl _⟩, pD⟩
            ·rw [if_neg c20] at H
             exact absurd H (by simp)
           ·rw [if_neg c19] at H
            have c19b0 : decide (x1_13 < (a0.size : Int)) = false := decide_eq_false c19
            clear c19
            (first | rw [c19b0] | (simp only [i64_w, i32_w]; rw [c19b0]) | skip)
            have H' := am H
            clear H
            go_wp2
            go_meet
            case rel => exact ⟨_, (false), pR, H', ⟨by have := HJ2.out; have := HJ6.out; have := HJ13.out; first | omega | exact Nat.le_refl _⟩, pD⟩
          case rest =>
           clear HC18
           obtain ⟨kq, x43_17, rfl, HA, HJ17, ⟨mc17, rfl⟩⟩ := hcut
           cases kq with
           | zero => exact absurd HA.out (by simp [bolterref02_Ends.j4])
           | succ kj17 =>
            have H := HA.out
            clear HA
            simp only [bolterref02_Ends.j4] at H
            have HC22 := am H
            clear H
            go_upto_if 43 with (fail)
            go_cut [1] (fun v1 wc => ∃ (kq : Nat) (x1_21 : Int), v1 = .int .i64 x1_21 /\ Aside0 (bolterref02_Ends.j6 kq a0 x1_21 = some (r1, r2)) /\ Aside0 (kq <= kj17) /\ Drawn0 w wc)
            case first =>
             have H := HC22.out
             clear HC22
             by_cases c23 : x43_17 = true
             ·subst c23
              rw [if_pos rfl] at H
              obtain ⟨t536, A24, H⟩ := ob H
              by_cases c25 : t536 = true
              ·subst c25
               rw [if_pos rfl] at H
               have H' := am H
               clear H
               go_wp2_with (first | (refine gL (some 48) Tryz.func153 #[.string a0, .int .i64 (wrap64 (x1_13 + 1))] (h := ?_); (with_reducible refine (bolterref02_digit.calls a0 (wrap64 (x1_13 + 1)) true _ A24.out).mono ?_); rintro e w' ⟨rfl, ⟨nd, rfl⟩⟩; refine ⟨_, rfl, ?_⟩))
               go_loopg [1] kj17 (fun kq v1 w' => ∃ (x1_5 : Int), v1 = .int .i64 x1_5 /\ Aside0 (bolterref02_Ends.l1 kq a0 x1_5 = some (r1, r2)) /\ Aside0 (kq <= kj17) /\ Drawn0 w w')
               case atStart => exact ⟨(wrap64 (x1_13 + 1)), pR, H', ⟨Nat.le_refl _⟩, pD⟩
               case round =>
                clear H'
                obtain ⟨x1_5, rfl, HA, HK5, ⟨m5, rfl⟩⟩ := hrel
                cases gk with
                | zero => exact absurd HA.out (by simp [bolterref02_Ends.l1])
                | succ k5 =>
                 have H := HA.out
                 clear HA
                 simp only [bolterref02_Ends.l1] at H
                 obtain ⟨t537, A26, H⟩ := ob H
                 by_cases c27 : t537 = true
                 ·subst c27
                  rw [if_pos rfl] at H
                  have H' := am H
                  clear H
                  go_wp2_with (first | (refine gL (some 53) Tryz.func153 #[.string a0, .int .i64 x1_5] (h := ?_); (with_reducible refine (bolterref02_digit.calls a0 x1_5 true _ A26.out).mono ?_); rintro e w' ⟨rfl, ⟨nd, rfl⟩⟩; refine ⟨_, rfl, ?_⟩))
                  go_roundg k5
                  case measure => have := HJ2.out; have := HJ6.out; have := HJ13.out; have := HJ17.out; have := HK5.out; omega
                  case rel => exact ⟨(wrap64 (x1_5 + 1)), pR, H', ⟨by have := HJ2.out; have := HJ6.out; have := HJ13.out; have := HJ17.out; have := HK5.out; omega⟩, pD⟩
                 ·replace c27 := Bool.eq_false_iff.mpr c27
                  subst c27
                  rw [if_neg (show ¬ (false = true) by decide)] at H
                  have H' := am H
                  clear H
                  go_wp2_with (first | (refine gL (some 53) Tryz.func153 #[.string a0, .int .i64 x1_5] (h := ?_); (with_reducible refine (bolterref02_digit.calls a0 x1_5 false _ A26.out).mono ?_); rintro e w' ⟨rfl, ⟨nd, rfl⟩⟩; refine ⟨_, rfl, ?_⟩))
                  go_meet
                  case rel => exact ⟨_, (x1_5), pR, H', ⟨by have := HJ2.out; have := HJ6.out; have := HJ13.out; have := HJ17.out; have := HK5.out; first | omega | exact Nat.le_refl _⟩, pD⟩
              ·replace c25 := Bool.eq_false_iff.mpr c25
               subst c25
               rw [if_neg (show ¬ (false = true) by decide)] at H
               simp only [Option.some.injEq, Prod.mk.injEq] at H
               obtain ⟨rfl, rfl⟩ := H
               go_wp2_with (first | (refine gL (some 48) Tryz.func153 #[.string a0, .int .i64 (wrap64 (x1_13 + 1))] (h := ?_); (with_reducible refine (bolterref02_digit.calls a0 (wrap64 (x1_13 + 1)) false _ A24.out).mono ?_); rintro e w' ⟨rfl, ⟨nd, rfl⟩⟩; refine ⟨_, rfl, ?_⟩))
               go_ret2
               exact ⟨pR, pD⟩
             ·replace c23 := Bool.eq_false_iff.mpr c23
              subst c23
              rw [if_neg (show ¬ (false = true) by decide)] at H
              have H' := am H
              clear H
              go_wp2
              go_meet
              case rel => exact ⟨_, (x1_13), pR, H', ⟨by have := HJ2.out; have := HJ6.out; have := HJ13.out; have := HJ17.out; first | omega | exact Nat.le_refl _⟩, pD⟩
            case rest =>
             clear HC22
             obtain ⟨kq, x1_21, rfl, HA, HJ21, ⟨mc21, rfl⟩⟩ := hcut
             cases kq with
             | zero => exact absurd HA.out (by simp [bolterref02_Ends.j6])
             | succ kj21 =>
              have H := HA.out
              clear HA
              simp only [bolterref02_Ends.j6] at H
              have HC28 := am H
              clear H
              go_upto_region 15 with (fail)
              go_cut [71] (fun v71 wc => ∃ (kq : Nat) (x71_27 : Bool), v71 = .bool x71_27 /\ Aside0 (bolterref02_Ends.j7 kq a0 x1_21 x71_27 = some (r1, r2)) /\ Aside0 (kq <= kj21) /\ Drawn0 w wc)
              case first =>
               have H := HC28.out
               clear HC28
               by_cases c29 : x1_21 < (a0.size : Int)
               ·rw [if_pos c29] at H
                have c29b0 : decide (x1_21 < (a0.size : Int)) = true := decide_eq_true c29
                clear c29
                (first | rw [c29b0] | (simp only [i64_w, i32_w]; rw [c29b0]) | skip)
                by_cases c30 : 0 <= x1_21
                ·rw [if_pos c30] at H
                 have c30b0 : decide (0 <= x1_21) = true := decide_eq_true c30
                 clear c30
                 by_cases c32 : (bt a0 x1_21) = 101
                 ·rw [if_pos c32] at H
                  have c32b0 : ((bt a0 x1_21) == 101) = true := beq_iff_eq.mpr c32
                  have c32b1 : ((bt a0 x1_21) != 101) = false := bne_eq_false_iff_eq.mpr c32
                  clear c32
                  have H' := am H
                  clear H
                  have p31 : 0 <= (x1_21 : Int) := of_decide_eq_true pQ
                  have q31 : x1_21 < (a0.size : Int) := of_decide_eq_true pQ
                  have hx31 := bt_at a0 x1_21
                  replace p31 := eq_true p31
                  replace q31 := eq_true q31
                  go_wp2
                  go_meet
                  case rel => exact ⟨_, (true), pR, H', ⟨by have := HJ2.out; have := HJ6.out; have := HJ13.out; have := HJ17.out; have := HJ21.out; first | omega | exact Nat.le_refl _⟩, pD⟩
                 ·rw [if_neg c32] at H
                  have c32b0 : ((bt a0 x1_21) == 101) = false := beq_eq_false_iff_ne.mpr c32
                  have c32b1 : ((bt a0 x1_21) != 101) = true := bne_iff_ne.mpr c32
                  have H' := am H
                  clear H
                  have p31 : 0 <= (x1_21 : Int) := of_decide_eq_true pQ
                  have q31 : x1_21 < (a0.size : Int) := of_decide_eq_true pQ
                  have hx31 := bt_at a0 x1_21
                  replace p31 := eq_true p31
                  replace q31 := eq_true q31
                  have p33 : 0 <= (x1_21 : Int) := of_decide_eq_true pQ
                  have q33 : x1_21 < (a0.size : Int) := of_decide_eq_true pQ
                  have hx33 := bt_at a0 x1_21
                  replace p33 := eq_true p33
                  replace q33 := eq_true q33
                  go_wp2
                  go_meet
                  case rel => exact ⟨_, (((bt a0 x1_21) == 69)), pR, H', ⟨by have := HJ2.out; have := HJ6.out; have := HJ13.out; have := HJ17.out; have := HJ21.out; first | omega | exact Nat.le_refl _⟩, pD⟩
                ·rw [if_neg c30] at H
                 exact absurd H (by simp)
               ·rw [if_neg c29] at H
                have c29b0 : decide (x1_21 < (a0.size : Int)) = false := decide_eq_false c29
                clear c29
                (first | rw [c29b0] | (simp only [i64_w, i32_w]; rw [c29b0]) | skip)
                have H' := am H
                clear H
                go_wp2
                go_meet
                case rel => exact ⟨_, (false), pR, H', ⟨by have := HJ2.out; have := HJ6.out; have := HJ13.out; have := HJ17.out; have := HJ21.out; first | omega | exact Nat.le_refl _⟩, pD⟩
              case rest =>
               clear HC28
               obtain ⟨kq, x71_27, rfl, HA, HJ27, ⟨mc27, rfl⟩⟩ := hcut
               cases kq with
               | zero => exact absurd HA.out (by simp [bolterref02_Ends.j7])
               | succ kj27 =>
                have H := HA.out
                clear HA
                simp only [bolterref02_Ends.j7] at H
                by_cases c34 : x71_27 = true
                ·subst c34
                 rw [if_pos rfl] at H
                 have HC35 := am H
                 clear H
                 go_upto_region 17 with (fail)
                 go_cut [89] (fun v89 wc => ∃ (kq : Nat) (x89_34 : Bool), v89 = .bool x89_34 /\ Aside0 (bolterref02_Ends.j8 kq a0 (wrap64 (x1_21 + 1)) x89_34 = some (r1, r2)) /\ Aside0 (kq <= kj27) /\ Drawn0 w wc)
                 case first =>
                  have H := HC35.out
                  clear HC35
                  by_cases c36 : (wrap64 (x1_21 + 1)) < (a0.size : Int)
                  ·rw [if_pos c36] at H
                   have c36b0 : decide ((wrap64 (x1_21 + 1)) < (a0.size : Int)) = true := decide_eq_true c36
                   clear c36
                   (first | rw [c36b0] | (simp only [i64_w, i32_w]; rw [c36b0]) | skip)
                   obtain ⟨ji37, hji37⟩ : ∃ j_ : Int, (wrap64 (x1_21 + 1)) = j_ := ⟨_, rfl⟩
                   replace H : (if 0 <= (ji37) then (if (bt a0 (ji37)) = 43 then (bolterref02_Ends.j8 kj27 a0 ji37 true) else (bolterref02_Ends.j8 kj27 a0 ji37 ((bt a0 (ji37)) == 45))) else (none)) = some (r1, r2) := by first | (rw [hji37] at H; exact H) | (simp only [hji37] at H ⊢; exact H)
                   (try rw [hji37] at c36b0)
                   have hji37w : (IntKind.i64.wrap (x1_21 + 1)) = ji37 := (i64_w _).trans hji37
                   by_cases c38 : 0 <= (ji37)
                   ·rw [if_pos c38] at H
                    have c38b0 : decide (0 <= (ji37)) = true := decide_eq_true c38
                    clear c38
                    by_cases c40 : (bt a0 (ji37)) = 43
                    ·rw [if_pos c40] at H
                     have c40b0 : ((bt a0 (ji37)) == 43) = true := beq_iff_eq.mpr c40
                     have c40b1 : ((bt a0 (ji37)) != 43) = false := bne_eq_false_iff_eq.mpr c40
                     clear c40
                     have H' := am H
                     clear H
                     have p39 : 0 <= ((ji37) : Int) := of_decide_eq_true pQ
                     have q39 : (ji37) < (a0.size : Int) := of_decide_eq_true pQ
                     have hx39 := bt_at a0 (ji37)
                     replace p39 := eq_true p39
                     replace q39 := eq_true q39
                     go_wp2
                     go_meet
                     case rel => exact ⟨_, (true), pR, (by first | exact H' | (have H_ := H'.out; simp only [<- hji37] at H_; exact ⟨H_⟩) | (refine ⟨?_⟩; have H_ := H'.out; simp only [<- hji37] at H_ ⊢; exact H_)), ⟨by have := HJ2.out; have := HJ6.out; have := HJ13.out; have := HJ17.out; have := HJ21.out; have := HJ27.out; first | omega | exact Nat.le_refl _⟩, pD⟩
                    ·rw [if_neg c40] at H
                     have c40b0 : ((bt a0 (ji37)) == 43) = false := beq_eq_false_iff_ne.mpr c40
                     have c40b1 : ((bt a0 (ji37)) != 43) = true := bne_iff_ne.mpr c40
                     have H' := am H
                     clear H
                     have p39 : 0 <= ((ji37) : Int) := of_decide_eq_true pQ
                     have q39 : (ji37) < (a0.size : Int) := of_decide_eq_true pQ
                     have hx39 := bt_at a0 (ji37)
                     replace p39 := eq_true p39
                     replace q39 := eq_true q39
                     have p41 : 0 <= ((ji37) : Int) := of_decide_eq_true pQ
                     have q41 : (ji37) < (a0.size : Int) := of_decide_eq_true pQ
                     have hx41 := bt_at a0 (ji37)
                     replace p41 := eq_true p41
                     replace q41 := eq_true q41
                     go_wp2
                     go_meet
                     case rel => exact ⟨_, (((bt a0 (ji37)) == 45)), (by first | rfl | (simp; done) | (simp only [<- hji37] <;> (first | rfl | simp)) | (simp [*]; done)), (by first | exact H' | (have H_ := H'.out; simp only [<- hji37] at H_; exact ⟨H_⟩) | (refine ⟨?_⟩; have H_ := H'.out; simp only [<- hji37] at H_ ⊢; exact H_)), ⟨by have := HJ2.out; have := HJ6.out; have := HJ13.out; have := HJ17.out; have := HJ21.out; have := HJ27.out; first | omega | exact Nat.le_refl _⟩, pD⟩
                   ·rw [if_neg c38] at H
                    exact absurd H (by simp)
                  ·rw [if_neg c36] at H
                   have c36b0 : decide ((wrap64 (x1_21 + 1)) < (a0.size : Int)) = false := decide_eq_false c36
                   clear c36
                   (first | rw [c36b0] | (simp only [i64_w, i32_w]; rw [c36b0]) | skip)
                   have H' := am H
                   clear H
                   go_wp2
                   go_meet
                   case rel => exact ⟨_, (false), pR, H', ⟨by have := HJ2.out; have := HJ6.out; have := HJ13.out; have := HJ17.out; have := HJ21.out; have := HJ27.out; first | omega | exact Nat.le_refl _⟩, pD⟩
                 case rest =>
                  clear HC35
                  obtain ⟨kq, x89_34, rfl, HA, HJ34, ⟨mc34, rfl⟩⟩ := hcut
                  cases kq with
                  | zero => exact absurd HA.out (by simp [bolterref02_Ends.j8])
                  | succ kj34 =>
                   have H := HA.out
                   clear HA
                   simp only [bolterref02_Ends.j8] at H
                   have HC42 := am H
                   clear H
                   go_upto_if 89 with (fail)
                   go_cut [1] (fun v1 wc => ∃ (kq : Nat) (x1_41 : Int), v1 = .int .i64 x1_41 /\ Aside0 (bolterref02_Ends.j9 kq a0 x1_41 = some (r1, r2)) /\ Aside0 (kq <= kj34) /\ Drawn0 w wc)
                   case first =>
                    have H := HC42.out
                    clear HC42
                    by_cases c43 : x89_34 = true
                    ·subst c43
                     rw [if_pos rfl] at H
                     have H' := am H
                     clear H
                     go_wp2
                     go_meet
                     case rel => exact ⟨_, (wrap64 ((wrap64 (x1_21 + 1)) + 1)), pR, H', ⟨by have := HJ2.out; have := HJ6.out; have := HJ13.out; have := HJ17.out; have := HJ21.out; have := HJ27.out; have := HJ34.out; first | omega | exact Nat.le_refl _⟩, pD⟩
                    ·replace c43 := Bool.eq_false_iff.mpr c43
                     subst c43
                     rw [if_neg (show ¬ (false = true) by decide)] at H
                     have H' := am H
                     clear H
                     go_wp2
                     go_meet
                     case rel => exact ⟨_, ((wrap64 (x1_21 + 1))), pR, H', ⟨by have := HJ2.out; have := HJ6.out; have := HJ13.out; have := HJ17.out; have := HJ21.out; have := HJ27.out; have := HJ34.out; first | omega | exact Nat.le_refl _⟩, pD⟩
                   case rest =>
                    clear HC42
                    obtain ⟨kq, x1_41, rfl, HA, HJ41, ⟨mc41, rfl⟩⟩ := hcut
                    cases kq with
                    | zero => exact absurd HA.out (by simp [bolterref02_Ends.j9])
                    | succ kj41 =>
                     have H := HA.out
                     clear HA
                     simp only [bolterref02_Ends.j9] at H
                     obtain ⟨t538, A44, H⟩ := ob H
                     by_cases c45 : t538 = true
                     ·subst c45
                      rw [if_pos rfl] at H
                      have H' := am H
                      clear H
                      go_wp2_with (first | (refine gL (some 94) Tryz.func153 #[.string a0, .int .i64 x1_41] (h := ?_); (with_reducible refine (bolterref02_digit.calls a0 x1_41 true _ A44.out).mono ?_); rintro e w' ⟨rfl, ⟨nd, rfl⟩⟩; refine ⟨_, rfl, ?_⟩))
                      go_loopg [1] kj41 (fun kq v1 w' => ∃ (x1_9 : Int), v1 = .int .i64 x1_9 /\ Aside0 (bolterref02_Ends.l2 kq a0 x1_9 = some (r1, r2)) /\ Aside0 (kq <= kj41) /\ Drawn0 w w')
                      case atStart => exact ⟨(x1_41), pR, H', ⟨Nat.le_refl _⟩, pD⟩
                      case round =>
                       clear H'
                       obtain ⟨x1_9, rfl, HA, HK9, ⟨m9, rfl⟩⟩ := hrel
                       cases gk with
                       | zero => exact absurd HA.out (by simp [bolterref02_Ends.l2])
                       | succ k9 =>
                        have H := HA.out
                        clear HA
                        simp only [bolterref02_Ends.l2] at H
                        obtain ⟨t539, A46, H⟩ := ob H
                        by_cases c47 : t539 = true
                        ·subst c47
                         rw [if_pos rfl] at H
                         have H' := am H
                         clear H
                         go_wp2_with (first | (refine gL (some 99) Tryz.func153 #[.string a0, .int .i64 x1_9] (h := ?_); (with_reducible refine (bolterref02_digit.calls a0 x1_9 true _ A46.out).mono ?_); rintro e w' ⟨rfl, ⟨nd, rfl⟩⟩; refine ⟨_, rfl, ?_⟩))
                         go_roundg k9
                         case measure => have := HJ2.out; have := HJ6.out; have := HJ13.out; have := HJ17.out; have := HJ21.out; have := HJ27.out; have := HJ34.out; have := HJ41.out; have := HK9.out; omega
                         case rel => exact ⟨(wrap64 (x1_9 + 1)), pR, H', ⟨by have := HJ2.out; have := HJ6.out; have := HJ13.out; have := HJ17.out; have := HJ21.out; have := HJ27.out; have := HJ34.out; have := HJ41.out; have := HK9.out; omega⟩, pD⟩
                        ·replace c47 := Bool.eq_false_iff.mpr c47
                         subst c47
                         rw [if_neg (show ¬ (false = true) by decide)] at H
                         simp only [Option.some.injEq, Prod.mk.injEq] at H
                         obtain ⟨rfl, rfl⟩ := H
                         go_wp2_with (first | (refine gL (some 99) Tryz.func153 #[.string a0, .int .i64 x1_9] (h := ?_); (with_reducible refine (bolterref02_digit.calls a0 x1_9 false _ A46.out).mono ?_); rintro e w' ⟨rfl, ⟨nd, rfl⟩⟩; refine ⟨_, rfl, ?_⟩))
                         go_ret2
                         exact ⟨pR, pD⟩
                     ·replace c45 := Bool.eq_false_iff.mpr c45
                      subst c45
                      rw [if_neg (show ¬ (false = true) by decide)] at H
                      simp only [Option.some.injEq, Prod.mk.injEq] at H
                      obtain ⟨rfl, rfl⟩ := H
                      go_wp2_with (first | (refine gL (some 94) Tryz.func153 #[.string a0, .int .i64 x1_41] (h := ?_); (with_reducible refine (bolterref02_digit.calls a0 x1_41 false _ A44.out).mono ?_); rintro e w' ⟨rfl, ⟨nd, rfl⟩⟩; refine ⟨_, rfl, ?_⟩))
                      go_ret2
                      exact ⟨pR, pD⟩
                ·replace c34 := Bool.eq_false_iff.mpr c34
                 subst c34
                 rw [if_neg (show ¬ (false = true) by decide)] at H
                 simp only [Option.some.injEq, Prod.mk.injEq] at H
                 obtain ⟨rfl, rfl⟩ := H
                 go_wp2
                 go_ret2
                 exact ⟨pR, pD⟩
       ·rw [if_neg c12] at H
        exact absurd H (by simp)
      ·rw [if_neg c11] at H
       exact absurd H (by simp)
     ·replace c10 := Bool.eq_false_iff.mpr c10
      subst c10
      rw [if_neg (show ¬ (false = true) by decide)] at H
      simp only [Option.some.injEq, Prod.mk.injEq] at H
      obtain ⟨rfl, rfl⟩ := H
      go_wp2_with (first | (refine gL (some 20) Tryz.func153 #[.string a0, .int .i64 x1_6] (h := ?_); (with_reducible refine (bolterref02_digit.calls a0 x1_6 false _ A9.out).mono ?_); rintro e w' ⟨rfl, ⟨nd, rfl⟩⟩; refine ⟨_, rfl, ?_⟩))
      go_ret2
      exact ⟨pR, pD⟩
mutual
def bolterref02_Parse.j0 : Nat -> ByteArray -> Bool -> Option (Bool × List Int × Int × Int)
 | 0, _, _ => none
 | k + 1, x0, x18 => if x18 = true then (some (false, ([] : List Int), 0, 32)) else (if (x0.size : Int) > 2000 then (some (false, ([] : List Int), 0, 5)) else (if 0 < (x0.size : Int) then (bolterref02_Parse.l0 k x0 ([] : List Int) false 0 ((bt x0 0) == 45) 0) else (none)))
def bolterref02_Parse.l0 : Nat -> ByteArray -> List Int -> Bool -> Int -> Bool -> Int -> Option (Bool × List Int × Int × Int)
 | 0, _, _, _, _, _, _ => none
 | k + 1, x0, x7, x8, x9, x544000, x544002 => if x9 < (x0.size : Int) then (if 0 <= x9 then (if (bt x0 x9) = 101 then (bolterref02_Parse.j2 k x0 x7 x8 x9 false x544000 x544002) else (bolterref02_Parse.j2 k x0 x7 x8 x9 ((bt x0 x9) != 69) x544000 x544002)) else (none)) else (bolterref02_Parse.j2 k x0 x7 x8 x9 false x544000 x544002)
def bolterref02_Parse.j2 : Nat -> ByteArray -> List Int -> Bool -> Int -> Bool -> Bool -> Int -> Option (Bool × List Int × Int × Int)
 | 0, _, _, _, _, _, _, _ => none
 | k + 1, x0, x7, x8, x9, x52, x544000, x544002 => if x52 = true then (if 0 <= x9 then (if x9 < (x0.size : Int) then (if (bt x0 x9) = 46 then (bolterref02_Parse.l0 k x0 x7 true (wrap64 (x9 + 1)) x544000 x544002) else (if (bt x0 x9) = 45 then (bolterref02_Parse.l0 k x0 x7 x8 (wrap64 (x9 + 1)) x544000 x544002) else ((some (([((bt x0 x9) - 48) % 256] : List Int) : List Int)).bind fun y544 => (if y544.length + x7.length < 17592186044416 then ((some (y544 ++ x7 : List Int)).bind fun y547 => (if x8 = true then (bolterref02_Parse.l0 k x0 y547 x8 (wrap64 (x9 + 1)) x544000 (wrap64 (x544002 - 1))) else (bolterref02_Parse.l0 k x0 y547 x8 (wrap64 (x9 + 1)) x544000 x544002))) else (none))))) else (none)) else (none)) else (if x9 < (x0.size : Int) then (bolterref02_Parse.l1 k x0 x7 (wrap64 (x9 + 1)) false 0 0 x544000 x544002) else ((bolterref02_Made.f k x544000 x7 x544002).bind fun bt562 => (some (bt562.1, bt562.2.1, bt562.2.2.1, bt562.2.2.2))))
def bolterref02_Parse.l1 : Nat -> ByteArray -> List Int -> Int -> Bool -> Int -> Int -> Bool -> Int -> Option (Bool × List Int × Int × Int)
 | 0, _, _, _, _, _, _, _, _ => none
 | k + 1, x0, x7, x9, x10, x11, x12, x544000, x544002 => if x9 < (x0.size : Int) then (if 0 <= x9 then (if (bt x0 x9) = 45 then (bolterref02_Parse.l1 k x0 x7 (wrap64 (x9 + 1)) true x11 x12 x544000 x544002) else (if (bt x0 x9) = 43 then (bolterref02_Parse.l1 k x0 x7 (wrap64 (x9 + 1)) x10 x11 x12 x544000 x544002) else (if x11 > 0 then (bolterref02_Parse.j4 k x0 x7 x9 x10 x11 x12 true x544000 x544002) else (bolterref02_Parse.j4 k x0 x7 x9 x10 x11 x12 ((bt x0 x9) != 48) x544000 x544002)))) else (none)) else (if x10 = true then ((bolterref02_Made.f k x544000 x7 (wrap64 (x544002 + (wrap64 (-x11))))).bind fun bt550 => (some (bt550.1, bt550.2.1, bt550.2.2.1, bt550.2.2.2))) else ((bolterref02_Made.f k x544000 x7 (wrap64 (x544002 + x11))).bind fun bt556 => (some (bt556.1, bt556.2.1, bt556.2.2.1, bt556.2.2.2))))
def bolterref02_Parse.j4 : Nat -> ByteArray -> List Int -> Int -> Bool -> Int -> Int -> Bool -> Bool -> Int -> Option (Bool × List Int × Int × Int)
 | 0, _, _, _, _, _, _, _, _, _ => none
 | k + 1, x0, x7, x9, x10, x11, x12, x107, x544000, x544002 => if x107 = true then (if (wrap64 (x12 + 1)) > 6 then (some (false, ([] : List Int), 0, 52)) else (if 0 <= x9 then (if x9 < (x0.size : Int) then (bolterref02_Parse.l1 k x0 x7 (wrap64 (x9 + 1)) x10 (wrap64 ((wrap64 (10 * x11)) + (((bt x0 x9) - 48) % 256))) (wrap64 (x12 + 1)) x544000 x544002) else (none)) else (none))) else (if x12 > 6 then (some (false, ([] : List Int), 0, 52)) else (if 0 <= x9 then (if x9 < (x0.size : Int) then (bolterref02_Parse.l1 k x0 x7 (wrap64 (x9 + 1)) x10 (wrap64 ((wrap64 (10 * x11)) + (((bt x0 x9) - 48) % 256))) x12 x544000 x544002) else (none)) else (none)))
end
def bolterref02_Parse.f (k : Nat) (a0 : ByteArray) : Option (Bool × List Int × Int × Int) := (bolterref02_Ends.f k a0 0).bind fun bt541 => (if bt541.2 = true then (bolterref02_Parse.j0 k a0 (bt541.1 != (a0.size : Int))) else (bolterref02_Parse.j0 k a0 true))
theorem bolterref02_Parse.calls (k : Nat) (a0 : ByteArray) (r1 : Bool) (r2 : List Int) (r3 : Int) (r4 : Int) (w : World) (h : bolterref02_Parse.f k a0 = some (r1, r2, r3, r4)) :
  Calls Tryz.prog 58 #[.string a0] w fun e w' => ∃ v1_ : Value, e = .returned (.tuple #[.agg #[.bool r1, v1_, .int .i64 r3], .int .i64 r4]) /\ Kd.R (Kd.int .u32) 85 w' w.heap.size (fun _ => True) v1_ r2 /\ Below w.heap.size w w' := by
 have hu24 := Tryz.underlying24
 have hu30 := Tryz.underlying30
 have HB := am (Below.refl w.heap.size w)
 have H : ((bolterref02_Ends.f k a0 0).bind fun bt541 => (if bt541.2 = true then (bolterref02_Parse.j0 k a0 (bt541.1 != (a0.size : Int))) else (bolterref02_Parse.j0 k a0 true))) = some (r1, r2, r3, r4) := h
 clear h
 obtain ⟨⟨t541, t542⟩, A2, H⟩ := ob H; (try dsimp only at H)
 have HC3 := am H
 clear H
 go_enter Tryz.func58, Tryz.ntmps58
 go_upto_region 2 with (first | ((with_reducible refine gd 2 ?_); (try (refine gate_guard (by rfl) ?_; dsimp only)); refine bx 2 #[.bool false, .slice none 0 0, .int .i64 0] 24 (h := ?_); intro gb540 hg w4 hbox hb; have BK540 := am hbox; have GW540 := gW hg; have GE540 := gW hg; replace HB := bS hb; clear hb hbox hg) | (refine gL (some 15) Tryz.func117 #[.string a0, .int .i64 0] (h := ?_); (with_reducible refine (bolterref02_Ends.calls k a0 0 t541 t542 _ A2.out).mono ?_); rintro e w' ⟨rfl, ⟨nd, rfl⟩⟩; refine ⟨_, rfl, ?_⟩))
 (try simp only [Act.put, List.setIfInBounds_toArray, List.set_cons_zero, List.set_cons_succ])
 go_cut [18] (fun v18 wc => ∃ (kq : Nat) (x18_2 : Bool), v18 = .bool x18_2 /\ Aside0 (bolterref02_Parse.j0 kq a0 x18_2 = some (r1, r2, r3, r4)) /\ Aside0 (kq <= k) /\ Aside0 (wc.heap[gb540]? = some (.cells #[.bool false, (.slice none 0 0), .int .i64 0] 24 (0, 0))) /\ Aside0 (Below w.heap.size w wc))
 case first =>
  have H := HC3.out
  clear HC3
  by_cases c5 : t542 = true
  ·subst c5
   rw [if_pos rfl] at H
   have H' := am H
   clear H
   go_wp2
   go_meet
   case rel => exact ⟨_, ((t541 != (a0.size : Int))), pR, H', ⟨by first | omega | exact Nat.le_refl _⟩, ⟨blk_below BK540.out pl⟩, ⟨pB⟩⟩
  ·replace c5 := Bool.eq_false_iff.mpr c5
   subst c5
   rw [if_neg (show ¬ (false = true) by decide)] at H
   have H' := am H
   clear H
   go_wp2
   go_meet
   case rel => exact ⟨_, (true), pR, H', ⟨by first | omega | exact Nat.le_refl _⟩, ⟨blk_below BK540.out pl⟩, ⟨pB⟩⟩
 case rest =>
  clear HC3
  obtain ⟨kq, x18_2, rfl, HA, HJ2, BK540, HB⟩ := hcut
  cases kq with
  | zero => exact absurd HA.out (by simp [bolterref02_Parse.j0])
  | succ kj2 =>
   have H := HA.out
   clear HA
   simp only [bolterref02_Parse.j0] at H
   by_cases c6 : x18_2 = true
   ·subst c6
    rw [if_pos rfl] at H
    simp only [Option.some.injEq, Prod.mk.injEq] at H
    obtain ⟨rfl, rfl, rfl, rfl⟩ := H
    obtain ⟨hcz7_0, hcz7_1, hcz7_2, hfz7_0, hfz7_1, hfz7_2⟩ := cEc BK540.out
    go_wp2
    refine bodyPost_ret (results_ct rfl _ _ gb540 24 #[.bool false, .slice none 0 0, .int .i64 0] (0, 0) _ rfl (by exact p3 BK540) Tryz.underlying24 rfl (by kernel_rfl)) rfl ?_
    exact ⟨_, pE, pN, pB⟩
   ·replace c6 := Bool.eq_false_iff.mpr c6
    subst c6
    rw [if_neg (show ¬ (false = true) by decide)] at H
    by_cases c8 : (a0.size : Int) > 2000
    ·rw [if_pos c8] at H
     have c8b0 : decide (2000 < (a0.size : Int)) = true := decide_eq_true c8
     have c8b1 : decide (2000 < a0.size) = true := decide_eq_true (by omega)
     clear c8
     simp only [Option.some.injEq, Prod.mk.injEq] at H
     obtain ⟨rfl, rfl, rfl, rfl⟩ := H
     obtain ⟨hcz9_0, hcz9_1, hcz9_2, hfz9_0, hfz9_1, hfz9_2⟩ := cEc BK540.out
     go_wp2
     refine bodyPost_ret (results_ct rfl _ _ gb540 24 #[.bool false, .slice none 0 0, .int .i64 0] (0, 0) _ rfl (by exact p3 BK540) Tryz.underlying24 rfl (by kernel_rfl)) rfl ?_
     exact ⟨_, pE, pN, pB⟩
    ·rw [if_neg c8] at H
     have c8b0 : decide (2000 < (a0.size : Int)) = false := decide_eq_false c8
     have c8b1 : decide (2000 < a0.size) = false := decide_eq_false (by omega)
     clear c8
     by_cases c10 : 0 < (a0.size : Int)
     ·rw [if_pos c10] at H
      have c10b0 : decide (0 < (a0.size : Int)) = true := decide_eq_true c10
      have c10b1 : decide (0 < a0.size) = true := decide_eq_true (by omega)
      clear c10
      have H' := am H
      clear H
      have p11 : 0 <= (0 : Int) := (by omega)
      have q11 : 0 < a0.size := (by have : (0 : Int) < (a0.size : Int) := of_decide_eq_true pQ; omega)
      have hx11 : ∀ h : 0 < a0.size, ((a0[0]'h).toNat : Int) = bt a0 0 := bt_at a0 0
      clear p11
      have qi11 : (0 < (a0.size : Int)) = True := eq_true (of_decide_eq_true pQ)
      replace q11 := eq_true q11
      go_wp2_with (first | ((with_reducible refine gd 6 ?_); (try (refine gate_guard (by rfl) ?_; dsimp only)); refine bx 6 #[.bool false, .slice none 0 0, .int .i64 0] 30 (h := ?_); intro gb543 hg w12 hbox hb; have BK543 := am hbox; have GW543 := gW hg; have GE543 := gW hg; have NB540_543 := nL hg BK540; have NB543_540 := nG hg BK540; replace BK540 := bb BK540 hb; replace HB := bS hb; clear hb hbox hg; have hnb13 := NB543_540.out; have hnc13 := NB540_543.out; obtain ⟨hcz14_0, hcz14_1, hcz14_2, hfz14_0, hfz14_1, hfz14_2⟩ := cEc BK543.out))
      go_loopg [7, 8, 9] kj2 (fun kq v7 v8 v9 w' => ∃ (x7_2 : List Int) (x8_2 : Bool) (x9_2 : Int) (x544002_2 : Int), v8 = .bool x8_2 /\ v9 = .int .i64 x9_2 /\ Aside0 (bolterref02_Parse.l0 kq a0 x7_2 x8_2 x9_2 ((bt a0 0) == 45) x544002_2 = some (r1, r2, r3, r4)) /\ Aside0 (kq <= kj2) /\ Aside0 (Kd.R (Kd.int .i64) 3 w' w.heap.size (fun _ => True) v7 x7_2) /\ Aside0 (w'.heap[gb540]? = some (.cells #[.bool false, (.slice none 0 0), .int .i64 0] 24 (0, 0))) /\ Aside0 (w'.heap[gb543]? = some (.cells #[.bool ((bt a0 0) == 45), (.slice none 0 0), .int .i64 x544002_2] 30 (0, 0))) /\ Aside0 (Below w.heap.size w w'))
      case atStart => exact ⟨(([] : List Int)), (false), (0), (0), pR, pR, H', ⟨Nat.le_refl _⟩, ⟨pN⟩, ⟨bf NB540_543.out BK540.out⟩, ⟨by exact p3 BK543⟩, ⟨pB⟩⟩
      case round =>
       clear H'
       obtain ⟨x7_2, x8_2, x9_2, x544002_2, rfl, rfl, HA, HK2, HO_7, BK540, BK543, HB⟩ := hrel
       cases gk with
       | zero => exact absurd HA.out (by simp [bolterref02_Parse.l0])
       | succ k2 =>
        have H := HA.out
        clear HA
        simp only [bolterref02_Parse.l0] at H
        have HC15 := am H
        clear H
        go_upto_region 10 with (fail)
        go_cut [52] (fun v52 wc => ∃ (kq : Nat) (x52_14 : Bool), v52 = .bool x52_14 /\ Aside0 (bolterref02_Parse.j2 kq a0 x7_2 x8_2 x9_2 x52_14 ((bt a0 0) == 45) x544002_2 = some (r1, r2, r3, r4)) /\ Aside0 (kq <= k2) /\ Aside0 (Kd.R (Kd.int .i64) 3 wc w.heap.size (fun _ => True) u7 x7_2) /\ Aside0 (wc.heap[gb540]? = some (.cells #[.bool false, (.slice none 0 0), .int .i64 0] 24 (0, 0))) /\ Aside0 (wc.heap[gb543]? = some (.cells #[.bool ((bt a0 0) == 45), (.slice none 0 0), .int .i64 x544002_2] 30 (0, 0))) /\ Aside0 (Below w.heap.size w wc))
        case first =>
         have H := HC15.out
         clear HC15
         by_cases c16 : x9_2 < (a0.size : Int)
         ·rw [if_pos c16] at H
          have c16b0 : decide (x9_2 < (a0.size : Int)) = true := decide_eq_true c16
          clear c16
          (first | rw [c16b0] | (simp only [i64_w, i32_w]; rw [c16b0]) | skip)
          by_cases c17 : 0 <= x9_2
          ·rw [if_pos c17] at H
           have c17b0 : decide (0 <= x9_2) = true := decide_eq_true c17
           clear c17
           by_cases c19 : (bt a0 x9_2) = 101
           ·rw [if_pos c19] at H
            have c19b0 : ((bt a0 x9_2) == 101) = true := beq_iff_eq.mpr c19
            have c19b1 : ((bt a0 x9_2) != 101) = false := bne_eq_false_iff_eq.mpr c19
            clear c19
            have H' := am H
            clear H
            have p18 : 0 <= (x9_2 : Int) := of_decide_eq_true pQ
            have q18 : x9_2 < (a0.size : Int) := of_decide_eq_true pQ
            have hx18 := bt_at a0 x9_2
            replace p18 := eq_true p18
            replace q18 := eq_true q18
            go_wp2
            go_meet
            case rel => exact ⟨_, (false), pR, H', ⟨by have := HJ2.out; have := HK2.out; first | omega | exact Nat.le_refl _⟩, ⟨by refine rp ?_; exact HO_7.out⟩, ⟨blk_below BK540.out pl⟩, ⟨blk_below BK543.out pl⟩, ⟨pB⟩⟩
           ·rw [if_neg c19] at H
            have c19b0 : ((bt a0 x9_2) == 101) = false := beq_eq_false_iff_ne.mpr c19
            have c19b1 : ((bt a0 x9_2) != 101) = true := bne_iff_ne.mpr c19
            have H' := am H
            clear H
            have p18 : 0 <= (x9_2 : Int) := of_decide_eq_true pQ
            have q18 : x9_2 < (a0.size : Int) := of_decide_eq_true pQ
            have hx18 := bt_at a0 x9_2
            replace p18 := eq_true p18
            replace q18 := eq_true q18
            have p20 : 0 <= (x9_2 : Int) := of_decide_eq_true pQ
            have q20 : x9_2 < (a0.size : Int) := of_decide_eq_true pQ
            have hx20 := bt_at a0 x9_2
            replace p20 := eq_true p20
            replace q20 := eq_true q20
            go_wp2
            go_meet
            case rel => exact ⟨_, (((bt a0 x9_2) != 69)), pR, H', ⟨by have := HJ2.out; have := HK2.out; first | omega | exact Nat.le_refl _⟩, ⟨by refine rp ?_; exact HO_7.out⟩, ⟨blk_below BK540.out pl⟩, ⟨blk_below BK543.out pl⟩, ⟨pB⟩⟩
          ·rw [if_neg c17] at H
           exact absurd H (by simp)
         ·rw [if_neg c16] at H
          have c16b0 : decide (x9_2 < (a0.size : Int)) = false := decide_eq_false c16
          clear c16
          (first | rw [c16b0] | (simp only [i64_w, i32_w]; rw [c16b0]) | skip)
          have H' := am H
          clear H
          go_wp2
          go_meet
          case rel => exact ⟨_, (false), pR, H', ⟨by have := HJ2.out; have := HK2.out; first | omega | exact Nat.le_refl _⟩, ⟨by refine rp ?_; exact HO_7.out⟩, ⟨blk_below BK540.out pl⟩, ⟨blk_below BK543.out pl⟩, ⟨pB⟩⟩
        case rest =>
         clear HC15
         obtain ⟨kq, x52_14, rfl, HA, HJ14, HO_7, BK540, BK543, HB⟩ := hcut
         cases kq with
         | zero => exact absurd HA.out (by simp [bolterref02_Parse.j2])
         | succ kj14 =>
          have H := HA.out
          clear HA
          simp only [bolterref02_Parse.j2] at H
          by_cases c21 : x52_14 = true
          ·subst c21
           rw [if_pos rfl] at H
           by_cases c22 : 0 <= x9_2
           ·rw [if_pos c22] at H
            have c22b0 : decide (0 <= x9_2) = true := decide_eq_true c22
            clear c22
            by_cases c23 : x9_2 < (a0.size : Int)
            ·rw [if_pos c23] at H
             have c23b0 : decide (x9_2 < (a0.size : Int)) = true := decide_eq_true c23
             clear c23
             by_cases c25 : (bt a0 x9_2) = 46
             ·rw [if_pos c25] at H
              have c25b0 : ((bt a0 x9_2) == 46) = true := beq_iff_eq.mpr c25
              have c25b1 : ((bt a0 x9_2) != 46) = false := bne_eq_false_iff_eq.mpr c25
              clear c25
              have H' := am H
              clear H
              have p24 : 0 <= (x9_2 : Int) := of_decide_eq_true pQ
              have q24 : x9_2 < (a0.size : Int) := of_decide_eq_true pQ
              have hx24 := bt_at a0 x9_2
              replace p24 := eq_true p24
              replace q24 := eq_true q24
              go_wp2
              go_roundg kj14
              case measure => have := HJ2.out; have := HK2.out; have := HJ14.out; omega
              case rel => exact ⟨(x7_2), (true), (wrap64 (x9_2 + 1)), (x544002_2), pR, pR, H', ⟨by have := HJ2.out; have := HK2.out; have := HJ14.out; omega⟩, ⟨by refine rp ?_; exact HO_7.out⟩, ⟨blk_below BK540.out pl⟩, ⟨blk_below BK543.out pl⟩, ⟨pB⟩⟩
             ·rw [if_neg c25] at H
              have c25b0 : ((bt a0 x9_2) == 46) = false := beq_eq_false_iff_ne.mpr c25
              have c25b1 : ((bt a0 x9_2) != 46) = true := bne_iff_ne.mpr c25
              by_cases c27 : (bt a0 x9_2) = 45
              ·rw [if_pos c27] at H
               have c27b0 : ((bt a0 x9_2) == 45) = true := beq_iff_eq.mpr c27
               have c27b1 : ((bt a0 x9_2) != 45) = false := bne_eq_false_iff_eq.mpr c27
               clear c27
               have H' := am H
               clear H
               have p24 : 0 <= (x9_2 : Int) := of_decide_eq_true pQ
               have q24 : x9_2 < (a0.size : Int) := of_decide_eq_true pQ
               have hx24 := bt_at a0 x9_2
               replace p24 := eq_true p24
               replace q24 := eq_true q24
               have p26 : 0 <= (x9_2 : Int) := of_decide_eq_true pQ
               have q26 : x9_2 < (a0.size : Int) := of_decide_eq_true pQ
               have hx26 := bt_at a0 x9_2
               replace p26 := eq_true p26
               replace q26 := eq_true q26
               go_wp2
               go_roundg kj14
               case measure => have := HJ2.out; have := HK2.out; have := HJ14.out; omega
               case rel => exact ⟨(x7_2), (x8_2), (wrap64 (x9_2 + 1)), (x544002_2), pR, pR, H', ⟨by have := HJ2.out; have := HK2.out; have := HJ14.out; omega⟩, ⟨by refine rp ?_; exact HO_7.out⟩, ⟨blk_below BK540.out pl⟩, ⟨blk_below BK543.out pl⟩, ⟨pB⟩⟩
              ·rw [if_neg c27] at H
               have c27b0 : ((bt a0 x9_2) == 45) = false := beq_eq_false_iff_ne.mpr c27
               have c27b1 : ((bt a0 x9_2) != 45) = true := bne_iff_ne.mpr c27
               obtain ⟨y544, hy544⟩ : ∃ y_ : List Int, y_ = (([((bt a0 x9_2) - 48) % 256] : List Int)) := ⟨_, rfl⟩
               replace H : (if y544.length + x7_2.length < 17592186044416 then ((some (y544 ++ x7_2 : List Int)).bind fun y547 => (if x8_2 = true then (bolterref02_Parse.l0 kj14 a0 y547 x8_2 (wrap64 (x9_2 + 1)) ((bt a0 0) == 45) (wrap64 (x544002_2 - 1))) else (bolterref02_Parse.l0 kj14 a0 y547 x8_2 (wrap64 (x9_2 + 1)) ((bt a0 0) == 45) x544002_2))) else (none)) = some (r1, r2, r3, r4) := by have hy_ := hy544; exact pH
               have Ny544 := am hy544
               clear hy544
               by_cases c29 : y544.length + x7_2.length < 17592186044416
               ·rw [if_pos c29] at H
                have LMc29 := am c29
                clear c29
                obtain ⟨y547, hy547⟩ : ∃ y_ : List Int, y_ = (y544 ++ x7_2) := ⟨_, rfl⟩
                replace H : (if x8_2 = true then (bolterref02_Parse.l0 kj14 a0 y547 x8_2 (wrap64 (x9_2 + 1)) ((bt a0 0) == 45) (wrap64 (x544002_2 - 1))) else (bolterref02_Parse.l0 kj14 a0 y547 x8_2 (wrap64 (x9_2 + 1)) ((bt a0 0) == 45) x544002_2)) = some (r1, r2, r3, r4) := by have hy_ := hy547; exact pH
                have Ny547 := am hy547
                clear hy547
                by_cases c30 : x8_2 = true
                ·subst c30
                 rw [if_pos rfl] at H
                 have H' := am H
                 clear H
                 have p24 : 0 <= (x9_2 : Int) := of_decide_eq_true pQ
                 have q24 : x9_2 < (a0.size : Int) := of_decide_eq_true pQ
                 have hx24 := bt_at a0 x9_2
                 replace p24 := eq_true p24
                 replace q24 := eq_true q24
                 have p26 : 0 <= (x9_2 : Int) := of_decide_eq_true pQ
                 have q26 : x9_2 < (a0.size : Int) := of_decide_eq_true pQ
                 have hx26 := bt_at a0 x9_2
                 replace p26 := eq_true p26
                 replace q26 := eq_true q26
                 have p28 : 0 <= (x9_2 : Int) := of_decide_eq_true pQ
                 have q28 : x9_2 < (a0.size : Int) := of_decide_eq_true pQ
                 have hx28 := bt_at a0 x9_2
                 replace p28 := eq_true p28
                 replace q28 := eq_true q28
                 go_wp2_with (first | ((with_reducible refine gd 70 ?_); (try (refine gate_guard (by rfl) ?_; dsimp only)); refine Kd.R_lit (Kd.int .i64) _ 3 ?hg (N := 70) ?hd (xs := ([((bt a0 x9_2) - 48) % 256] : List Int)) (inner := [.int .i64 (((bt a0 x9_2) - 48) % 256)]) (ok := fun _ => True) (okp := fun _ => True) ?hr ?hp (fun _ hk => hk) trivial (Below.refl _ _) (Nat.le_refl _) (by simp) ?_; (case hd => rfl); (case hg => rfl); (case hr => first | (go_simp; done) | (go_simp; rfl)); (case hp => exact (Reps.one (show Kd.M (Kd.int .i64) _ _ _ (((bt a0 x9_2) - 48) % 256) [.int .i64 (((bt a0 x9_2) - 48) % 256)] from rfl) (Reps.none _ _))); intro v545 w31 ho32 hb hg_ hnew_; clear hg_ hnew_; (first | rw [<- Ny544.out] at ho32 | (simp only [Int.reduceToNat] at ho32; rw [<- Ny544.out] at ho32)); have HO546 := am (Kd.R_lower (Kd.R_new' ho32 (Kd.R_lt (Kd.R_below HO_7.out pl))) (below_size pB)); replace HO_7 := reR HO_7 ho32 hb; replace BK540 := bb BK540 hb; replace BK543 := bb BK543 hb; replace HB := bS hb; clear hb ho32; obtain ⟨Ao34, co34, eo34⟩ := Kd.R_slice HO_7.out; subst eo34) | ((with_reducible refine gate_builtin (b := .append) (xs := #[.tmp 70, .tmp 71]) rfl ?_); (try (refine gate_guard (by rfl) ?_; dsimp only)); at_builtin; refine Kd.R_append_rows (Kd.int .i64) (w0 := w) w.heap.size rfl (.tmp 70) (.tmp 71) 28 3 (.int .i64 0) 8 rfl Tryz.underlying28 info3 rfl (by decide) (by omega) v545 y544 x7_2 _ _ _ (fun k_ => some k_ ≠ (.slice Ao34 x7_2.length co34 : Value).ownBlock) (fun _ => False) rfl rfl ?aO ?aR (fun _ _ h => h) (fun _ h => h.elim) ?aF ?aB ?aS ?aL ?_; (case aR => exact Kd.C_below (Kd.R_reads' HO_7.out).2.2 pl); (case aB => exact pB); (case aF => exact (fun k_ hk => Kd.fresh' (Kd.R_lt (Kd.R_below HO_7.out pl)) k_ hk)); (case aO => exact (Kd.R_below (Kd.R_mono HO546.out (fun _ hk => hk.2)) pl)); (case aS => exact (below_size pB)); (case aL => have := LMc29.out; omega); intro v548 w33 ho hb hg hat; rw [<- Ny547.out] at ho; have HO549 := am ho; replace HO_7 := am (Kd.R_after (ok := (fun _ => True)) (Kd.R_below HO_7.out pl) hg hat); replace BK540 := am (blk_grown (g := gb540) (o := .cells #[.bool false, .slice none 0 0, .int .i64 0] 24 (0, 0)) (blk_below BK540.out pl) hg (Kd.R_ne HO546.out BK540.out (by decide))); replace BK543 := am (blk_grown (g := gb543) (o := .cells #[.bool ((bt a0 0) == 45), .slice none 0 0, .int .i64 x544002_2] 30 (0, 0)) (blk_below BK543.out pl) hg (Kd.R_ne HO546.out BK543.out (by decide))); replace HB := am hb; clear HO546 ho hb hg hat; have hnb35 := NB543_540.out; have hnc35 := NB540_543.out; obtain ⟨hcz36_0, hcz36_1, hcz36_2, hfz36_0, hfz36_1, hfz36_2⟩ := cEc BK543.out))
                 go_roundg kj14
                 case measure => have := HJ2.out; have := HK2.out; have := HJ14.out; omega
                 case rel => exact ⟨(y547), (true), (wrap64 (x9_2 + 1)), (wrap64 (x544002_2 - 1)), pR, pR, H', ⟨by have := HJ2.out; have := HK2.out; have := HJ14.out; omega⟩, ⟨by refine rp ?_; exact Kd.R_mono (Kd.R_far (p := ⟨gb543, 2, none⟩) (Kd.R_types HO549.out BK543.out (by decide)) (fun _ hk => hk.2) (.int .i64 (wrap64 (x544002_2 - 1)))) (fun _ hk => trivial)⟩, ⟨bf NB540_543.out BK540.out⟩, ⟨by refine bp ?_; refine blk_put (cs := #[.bool ((bt a0 0) == 45), .slice none 0 0, .int .i64 x544002_2]) ?_ 2 _ rfl; exact bp BK543.out⟩, ⟨pB⟩⟩
                ·replace c30 := Bool.eq_false_iff.mpr c30
                 subst c30
                 rw [if_neg (show ¬ (false = true) by decide)] at H
                 have H' := am H
                 clear H
                 have p24 : 0 <= (x9_2 : Int) := of_decide_eq_true pQ
                 have q24 : x9_2 < (a0.size : Int) := of_decide_eq_true pQ
                 have hx24 := bt_at a0 x9_2
                 replace p24 := eq_true p24
                 replace q24 := eq_true q24
                 have p26 : 0 <= (x9_2 : Int) := of_decide_eq_true pQ
                 have q26 : x9_2 < (a0.size : Int) := of_decide_eq_true pQ
                 have hx26 := bt_at a0 x9_2
                 replace p26 := eq_true p26
                 replace q26 := eq_true q26
                 have p28 : 0 <= (x9_2 : Int) := of_decide_eq_true pQ
                 have q28 : x9_2 < (a0.size : Int) := of_decide_eq_true pQ
                 have hx28 := bt_at a0 x9_2
                 replace p28 := eq_true p28
                 replace q28 := eq_true q28
                 go_wp2_with (first | ((with_reducible refine gd 70 ?_); (try (refine gate_guard (by rfl) ?_; dsimp only)); refine Kd.R_lit (Kd.int .i64) _ 3 ?hg (N := 70) ?hd (xs := ([((bt a0 x9_2) - 48) % 256] : List Int)) (inner := [.int .i64 (((bt a0 x9_2) - 48) % 256)]) (ok := fun _ => True) (okp := fun _ => True) ?hr ?hp (fun _ hk => hk) trivial (Below.refl _ _) (Nat.le_refl _) (by simp) ?_; (case hd => rfl); (case hg => rfl); (case hr => first | (go_simp; done) | (go_simp; rfl)); (case hp => exact (Reps.one (show Kd.M (Kd.int .i64) _ _ _ (((bt a0 x9_2) - 48) % 256) [.int .i64 (((bt a0 x9_2) - 48) % 256)] from rfl) (Reps.none _ _))); intro v545 w37 ho38 hb hg_ hnew_; clear hg_ hnew_; (first | rw [<- Ny544.out] at ho38 | (simp only [Int.reduceToNat] at ho38; rw [<- Ny544.out] at ho38)); have HO546 := am (Kd.R_lower (Kd.R_new' ho38 (Kd.R_lt (Kd.R_below HO_7.out pl))) (below_size pB)); replace HO_7 := reR HO_7 ho38 hb; replace BK540 := bb BK540 hb; replace BK543 := bb BK543 hb; replace HB := bS hb; clear hb ho38; obtain ⟨Ao40, co40, eo40⟩ := Kd.R_slice HO_7.out; subst eo40) | ((with_reducible refine gate_builtin (b := .append) (xs := #[.tmp 70, .tmp 71]) rfl ?_); (try (refine gate_guard (by rfl) ?_; dsimp only)); at_builtin; refine Kd.R_append_rows (Kd.int .i64) (w0 := w) w.heap.size rfl (.tmp 70) (.tmp 71) 28 3 (.int .i64 0) 8 rfl Tryz.underlying28 info3 rfl (by decide) (by omega) v545 y544 x7_2 _ _ _ (fun k_ => some k_ ≠ (.slice Ao40 x7_2.length co40 : Value).ownBlock) (fun _ => False) rfl rfl ?aO ?aR (fun _ _ h => h) (fun _ h => h.elim) ?aF ?aB ?aS ?aL ?_; (case aR => exact Kd.C_below (Kd.R_reads' HO_7.out).2.2 pl); (case aB => exact pB); (case aF => exact (fun k_ hk => Kd.fresh' (Kd.R_lt (Kd.R_below HO_7.out pl)) k_ hk)); (case aO => exact (Kd.R_below (Kd.R_mono HO546.out (fun _ hk => hk.2)) pl)); (case aS => exact (below_size pB)); (case aL => have := LMc29.out; omega); intro v548 w39 ho hb hg hat; rw [<- Ny547.out] at ho; have HO549 := am ho; replace HO_7 := am (Kd.R_after (ok := (fun _ => True)) (Kd.R_below HO_7.out pl) hg hat); replace BK540 := am (blk_grown (g := gb540) (o := .cells #[.bool false, .slice none 0 0, .int .i64 0] 24 (0, 0)) (blk_below BK540.out pl) hg (Kd.R_ne HO546.out BK540.out (by decide))); replace BK543 := am (blk_grown (g := gb543) (o := .cells #[.bool ((bt a0 0) == 45), .slice none 0 0, .int .i64 x544002_2] 30 (0, 0)) (blk_below BK543.out pl) hg (Kd.R_ne HO546.out BK543.out (by decide))); replace HB := am hb; clear HO546 ho hb hg hat))
                 go_roundg kj14
                 case measure => have := HJ2.out; have := HK2.out; have := HJ14.out; omega
                 case rel => exact ⟨(y547), (false), (wrap64 (x9_2 + 1)), (x544002_2), pR, pR, H', ⟨by have := HJ2.out; have := HK2.out; have := HJ14.out; omega⟩, ⟨by refine rp ?_; exact Kd.R_mono HO549.out (fun _ hk => trivial)⟩, ⟨blk_below BK540.out pl⟩, ⟨blk_below BK543.out pl⟩, ⟨pB⟩⟩
               ·rw [if_neg c29] at H
                exact absurd H (by simp)
            ·rw [if_neg c23] at H
             exact absurd H (by simp)
           ·rw [if_neg c22] at H
            exact absurd H (by simp)
          ·replace c21 := Bool.eq_false_iff.mpr c21
           subst c21
           rw [if_neg (show ¬ (false = true) by decide)] at H
           by_cases c41 : x9_2 < (a0.size : Int)
           ·rw [if_pos c41] at H
            have c41b0 : decide (x9_2 < (a0.size : Int)) = true := decide_eq_true c41
            clear c41
            have H' := am H
            clear H
            go_wp2
            go_loopg [9, 10, 11, 12] kj14 (fun kq v9 v10 v11 v12 w' => ∃ (x9_4 : Int) (x10_4 : Bool) (x11_4 : Int) (x12_4 : Int) (x541000_4 : Bool) (x541002_4 : Int), v9 = .int .i64 x9_4 /\ v10 = .bool x10_4 /\ v11 = .int .i64 x11_4 /\ v12 = .int .i64 x12_4 /\ Aside0 (bolterref02_Parse.l1 kq a0 x7_2 x9_4 x10_4 x11_4 x12_4 ((bt a0 0) == 45) x544002_2 = some (r1, r2, r3, r4)) /\ Aside0 (kq <= kj14) /\ Aside0 (Kd.R (Kd.int .i64) 3 w' w.heap.size (fun _ => True) u7 x7_2) /\ Aside0 (w'.heap[gb540]? = some (.cells #[.bool x541000_4, (.slice none 0 0), .int .i64 x541002_4] 24 (0, 0))) /\ Aside0 (w'.heap[gb543]? = some (.cells #[.bool ((bt a0 0) == 45), (.slice none 0 0), .int .i64 x544002_2] 30 (0, 0))) /\ Aside0 (Below w.heap.size w w'))
            case atStart => exact ⟨(wrap64 (x9_2 + 1)), (false), (0), (0), (false), (0), pR, pR, pR, pR, H', ⟨Nat.le_refl _⟩, ⟨by refine rp ?_; exact HO_7.out⟩, ⟨blk_below BK540.out pl⟩, ⟨blk_below BK543.out pl⟩, ⟨pB⟩⟩
            case round =>
             clear H'
             obtain ⟨x9_4, x10_4, x11_4, x12_4, x541000_4, x541002_4, rfl, rfl, rfl, rfl, HA, HK4, HO_7, BK540, BK543, HB⟩ := hrel
             cases gk with
             | zero => exact absurd HA.out (by simp [bolterref02_Parse.l1])
             | succ k4 =>
              have H := HA.out
              clear HA
              simp only [bolterref02_Parse.l1] at H
              by_cases c42 : x9_4 < (a0.size : Int)
              ·rw [if_pos c42] at H
               have c42b0 : decide (x9_4 < (a0.size : Int)) = true := decide_eq_true c42
               clear c42
               by_cases c43 : 0 <= x9_4
               ·rw [if_pos c43] at H
                have c43b0 : decide (0 <= x9_4) = true := decide_eq_true c43
                clear c43
                by_cases c45 : (bt a0 x9_4) = 45
                ·rw [if_pos c45] at H
                 have c45b0 : ((bt a0 x9_4) == 45) = true := beq_iff_eq.mpr c45
                 have c45b1 : ((bt a0 x9_4) != 45) = false := bne_eq_false_iff_eq.mpr c45
                 clear c45
                 have H' := am H
                 clear H
                 have p44 : 0 <= (x9_4 : Int) := of_decide_eq_true pQ
                 have q44 : x9_4 < (a0.size : Int) := of_decide_eq_true pQ
                 have hx44 := bt_at a0 x9_4
                 replace p44 := eq_true p44
                 replace q44 := eq_true q44
                 go_wp2
                 go_roundg k4
                 case measure => have := HJ2.out; have := HK2.out; have := HJ14.out; have := HK4.out; omega
                 case rel => exact ⟨(wrap64 (x9_4 + 1)), (true), (x11_4), (x12_4), (x541000_4), (x541002_4), pR, pR, pR, pR, H', ⟨by have := HJ2.out; have := HK2.out; have := HJ14.out; have := HK4.out; omega⟩, ⟨by refine rp ?_; exact HO_7.out⟩, ⟨blk_below BK540.out pl⟩, ⟨blk_below BK543.out pl⟩, ⟨pB⟩⟩
                ·rw [if_neg c45] at H
                 have c45b0 : ((bt a0 x9_4) == 45) = false := beq_eq_false_iff_ne.mpr c45
                 have c45b1 : ((bt a0 x9_4) != 45) = true := bne_iff_ne.mpr c45
                 by_cases c47 : (bt a0 x9_4) = 43
                 ·rw [if_pos c47] at H
                  have c47b0 : ((bt a0 x9_4) == 43) = true := beq_iff_eq.mpr c47
                  have c47b1 : ((bt a0 x9_4) != 43) = false := bne_eq_false_iff_eq.mpr c47
                  clear c47
                  have H' := am H
                  clear H
                  have p44 : 0 <= (x9_4 : Int) := of_decide_eq_true pQ
                  have q44 : x9_4 < (a0.size : Int) := of_decide_eq_true pQ
                  have hx44 := bt_at a0 x9_4
                  replace p44 := eq_true p44
                  replace q44 := eq_true q44
                  have p46 : 0 <= (x9_4 : Int) := of_decide_eq_true pQ
                  have q46 : x9_4 < (a0.size : Int) := of_decide_eq_true pQ
                  have hx46 := bt_at a0 x9_4
                  replace p46 := eq_true p46
                  replace q46 := eq_true q46
                  go_wp2
                  go_roundg k4
                  case measure => have := HJ2.out; have := HK2.out; have := HJ14.out; have := HK4.out; omega
                  case rel => exact ⟨(wrap64 (x9_4 + 1)), (x10_4), (x11_4), (x12_4), (x541000_4), (x541002_4), pR, pR, pR, pR, H', ⟨by have := HJ2.out; have := HK2.out; have := HJ14.out; have := HK4.out; omega⟩, ⟨by refine rp ?_; exact HO_7.out⟩, ⟨blk_below BK540.out pl⟩, ⟨blk_below BK543.out pl⟩, ⟨pB⟩⟩
                 ·rw [if_neg c47] at H
                  have c47b0 : ((bt a0 x9_4) == 43) = false := beq_eq_false_iff_ne.mpr c47
                  have c47b1 : ((bt a0 x9_4) != 43) = true := bne_iff_ne.mpr c47
                  have HC48 := am H
                  clear H
                  have p44 : 0 <= (x9_4 : Int) := of_decide_eq_true pQ
                  have q44 : x9_4 < (a0.size : Int) := of_decide_eq_true pQ
                  have hx44 := bt_at a0 x9_4
                  replace p44 := eq_true p44
                  replace q44 := eq_true q44
                  have p46 : 0 <= (x9_4 : Int) := of_decide_eq_true pQ
                  have q46 : x9_4 < (a0.size : Int) := of_decide_eq_true pQ
                  have hx46 := bt_at a0 x9_4
                  replace p46 := eq_true p46
                  replace q46 := eq_true q46
                  go_upto_region 26 with (fail)
                  go_cut [107] (fun v107 wc => ∃ (kq : Nat) (x107_47 : Bool), v107 = .bool x107_47 /\ Aside0 (bolterref02_Parse.j4 kq a0 x7_2 x9_4 x10_4 x11_4 x12_4 x107_47 ((bt a0 0) == 45) x544002_2 = some (r1, r2, r3, r4)) /\ Aside0 (kq <= k4) /\ Aside0 (Kd.R (Kd.int .i64) 3 wc w.heap.size (fun _ => True) u7 x7_2) /\ Aside0 (wc.heap[gb540]? = some (.cells #[.bool x541000_4, (.slice none 0 0), .int .i64 x541002_4] 24 (0, 0))) /\ Aside0 (wc.heap[gb543]? = some (.cells #[.bool ((bt a0 0) == 45), (.slice none 0 0), .int .i64 x544002_2] 30 (0, 0))) /\ Aside0 (Below w.heap.size w wc))
                  case first =>
                   have H := HC48.out
                   clear HC48
                   by_cases c49 : x11_4 > 0
                   ·rw [if_pos c49] at H
                    have c49b0 : decide (0 < x11_4) = true := decide_eq_true c49
                    clear c49
                    (first | rw [c49b0] | (simp only [i64_w, i32_w]; rw [c49b0]) | skip)
                    have H' := am H
                    clear H
                    go_wp2
                    go_meet
                    case rel => exact ⟨_, (true), pR, H', ⟨by have := HJ2.out; have := HK2.out; have := HJ14.out; have := HK4.out; first | omega | exact Nat.le_refl _⟩, ⟨by refine rp ?_; exact HO_7.out⟩, ⟨blk_below BK540.out pl⟩, ⟨blk_below BK543.out pl⟩, ⟨pB⟩⟩
                   ·rw [if_neg c49] at H
                    have c49b0 : decide (0 < x11_4) = false := decide_eq_false c49
                    clear c49
                    (first | rw [c49b0] | (simp only [i64_w, i32_w]; rw [c49b0]) | skip)
                    have H' := am H
                    clear H
                    have p50 : 0 <= (x9_4 : Int) := of_decide_eq_true pQ
                    have q50 : x9_4 < (a0.size : Int) := of_decide_eq_true pQ
                    have hx50 := bt_at a0 x9_4
                    replace p50 := eq_true p50
                    replace q50 := eq_true q50
                    go_wp2
                    go_meet
                    case rel => exact ⟨_, (((bt a0 x9_4) != 48)), pR, H', ⟨by have := HJ2.out; have := HK2.out; have := HJ14.out; have := HK4.out; first | omega | exact Nat.le_refl _⟩, ⟨by refine rp ?_; exact HO_7.out⟩, ⟨blk_below BK540.out pl⟩, ⟨blk_below BK543.out pl⟩, ⟨pB⟩⟩
                  case rest =>
                   clear HC48
                   obtain ⟨kq, x107_47, rfl, HA, HJ47, HO_7, BK540, BK543, HB⟩ := hcut
                   cases kq with
                   | zero => exact absurd HA.out (by simp [bolterref02_Parse.j4])
                   | succ kj47 =>
                    have H := HA.out
                    clear HA
                    simp only [bolterref02_Parse.j4] at H
                    by_cases c51 : x107_47 = true
                    ·subst c51
                     rw [if_pos rfl] at H
                     by_cases c52 : (wrap64 (x12_4 + 1)) > 6
                     ·rw [if_pos c52] at H
                      have c52b0 : decide (6 < (wrap64 (x12_4 + 1))) = true := decide_eq_true c52
                      clear c52
                      simp only [Option.some.injEq, Prod.mk.injEq] at H
                      obtain ⟨rfl, rfl, rfl, rfl⟩ := H
                      have hnb53 := NB540_543.out
                      have hnc53 := NB543_540.out
                      obtain ⟨hcz54_0, hcz54_1, hcz54_2, hfz54_0, hfz54_1, hfz54_2⟩ := cEc BK540.out
                      go_wp2
                      refine bodyPost_ret (results_ct rfl _ _ gb540 24 #[.bool false, .slice none 0 0, .int .i64 0] (0, 0) _ rfl (by exact p3 BK540) Tryz.underlying24 rfl (by kernel_rfl)) rfl ?_
                      exact ⟨_, pE, pN, pB⟩
                     ·rw [if_neg c52] at H
                      have c52b0 : decide (6 < (wrap64 (x12_4 + 1))) = false := decide_eq_false c52
                      clear c52
                      by_cases c55 : 0 <= x9_4
                      ·rw [if_pos c55] at H
                       have c55b0 : decide (0 <= x9_4) = true := decide_eq_true c55
                       clear c55
                       by_cases c56 : x9_4 < (a0.size : Int)
                       ·rw [if_pos c56] at H
                        have c56b0 : decide (x9_4 < (a0.size : Int)) = true := decide_eq_true c56
                        clear c56
                        have H' := am H
                        clear H
                        have p57 : 0 <= (x9_4 : Int) := of_decide_eq_true pQ
                        have q57 : x9_4 < (a0.size : Int) := of_decide_eq_true pQ
                        have hx57 := bt_at a0 x9_4
                        replace p57 := eq_true p57
                        replace q57 := eq_true q57
                        go_wp2
                        go_roundg kj47
                        case measure => have := HJ2.out; have := HK2.out; have := HJ14.out; have := HK4.out; have := HJ47.out; omega
                        case rel => exact ⟨(wrap64 (x9_4 + 1)), (x10_4), (wrap64 ((wrap64 (10 * x11_4)) + (((bt a0 x9_4) - 48) % 256))), (wrap64 (x12_4 + 1)), (x541000_4), (x541002_4), pR, pR, pR, pR, H', ⟨by have := HJ2.out; have := HK2.out; have := HJ14.out; have := HK4.out; have := HJ47.out; omega⟩, ⟨by refine rp ?_; exact HO_7.out⟩, ⟨blk_below BK540.out pl⟩, ⟨blk_below BK543.out pl⟩, ⟨pB⟩⟩
                       ·rw [if_neg c56] at H
                        exact absurd H (by simp)
                      ·rw [if_neg c55] at H
                       exact absurd H (by simp)
                    ·replace c51 := Bool.eq_false_iff.mpr c51
                     subst c51
                     rw [if_neg (show ¬ (false = true) by decide)] at H
                     by_cases c58 : x12_4 > 6
                     ·rw [if_pos c58] at H
                      have c58b0 : decide (6 < x12_4) = true := decide_eq_true c58
                      clear c58
                      simp only [Option.some.injEq, Prod.mk.injEq] at H
                      obtain ⟨rfl, rfl, rfl, rfl⟩ := H
                      have hnb59 := NB540_543.out
                      have hnc59 := NB543_540.out
                      obtain ⟨hcz60_0, hcz60_1, hcz60_2, hfz60_0, hfz60_1, hfz60_2⟩ := cEc BK540.out
                      go_wp2
                      refine bodyPost_ret (results_ct rfl _ _ gb540 24 #[.bool false, .slice none 0 0, .int .i64 0] (0, 0) _ rfl (by exact p3 BK540) Tryz.underlying24 rfl (by kernel_rfl)) rfl ?_
                      exact ⟨_, pE, pN, pB⟩
                     ·rw [if_neg c58] at H
                      have c58b0 : decide (6 < x12_4) = false := decide_eq_false c58
                      clear c58
                      by_cases c61 : 0 <= x9_4
                      ·rw [if_pos c61] at H
                       have c61b0 : decide (0 <= x9_4) = true := decide_eq_true c61
                       clear c61
                       by_cases c62 : x9_4 < (a0.size : Int)
                       ·rw [if_pos c62] at H
                        have c62b0 : decide (x9_4 < (a0.size : Int)) = true := decide_eq_true c62
                        clear c62
                        have H' := am H
                        clear H
                        have p63 : 0 <= (x9_4 : Int) := of_decide_eq_true pQ
                        have q63 : x9_4 < (a0.size : Int) := of_decide_eq_true pQ
                        have hx63 := bt_at a0 x9_4
                        replace p63 := eq_true p63
                        replace q63 := eq_true q63
                        go_wp2
                        go_roundg kj47
                        case measure => have := HJ2.out; have := HK2.out; have := HJ14.out; have := HK4.out; have := HJ47.out; omega
                        case rel => exact ⟨(wrap64 (x9_4 + 1)), (x10_4), (wrap64 ((wrap64 (10 * x11_4)) + (((bt a0 x9_4) - 48) % 256))), (x12_4), (x541000_4), (x541002_4), pR, pR, pR, pR, H', ⟨by have := HJ2.out; have := HK2.out; have := HJ14.out; have := HK4.out; have := HJ47.out; omega⟩, ⟨by refine rp ?_; exact HO_7.out⟩, ⟨blk_below BK540.out pl⟩, ⟨blk_below BK543.out pl⟩, ⟨pB⟩⟩
                       ·rw [if_neg c62] at H
                        exact absurd H (by simp)
                      ·rw [if_neg c61] at H
                       exact absurd H (by simp)
               ·rw [if_neg c43] at H
                exact absurd H (by simp)
              ·rw [if_neg c42] at H
               have c42b0 : decide (x9_4 < (a0.size : Int)) = false := decide_eq_false c42
               clear c42
               by_cases c64 : x10_4 = true
               ·subst c64
                rw [if_pos rfl] at H
                obtain ⟨⟨t550, t551, t554, t555⟩, A65, H⟩ := ob H; (try dsimp only at H)
                simp only [Option.some.injEq, Prod.mk.injEq] at H
                obtain ⟨rfl, rfl, rfl, rfl⟩ := H
                have hnb66 := NB543_540.out
                have hnc66 := NB540_543.out
                obtain ⟨hcz67_0, hcz67_1, hcz67_2, hfz67_0, hfz67_1, hfz67_2⟩ := cEc BK543.out
                go_wp2_with (first | ((with_reducible refine gate_store (t := 3) (p := 128) rfl ?_); refine store_event (t := 3) (p := 128) (v := ?vo_w68) (w1 := (wr.setCell ⟨gb543, 2, none⟩ (.int .i64 (wrap64 (x544002_2 + (wrap64 (-x11_4))))))) ?hg ?ho ?hn ?hr ?_; (case ho => rfl); (case hg => rfl); (case hn => rfl); (case hr => first | (go_simp; done) | (go_simp; rfl)); intro w68 hw; replace HO_7 : Aside0 (Kd.R (Kd.int .i64) 3 w68 w.heap.size (fun _ => True) u7 x7_2) := ⟨(by rw [hw]; exact (Kd.R_below (Kd.R_mono (Kd.R_far (p := ⟨gb543, 2, none⟩) (Kd.R_types HO_7.out BK543.out (by decide)) (fun _ hk => hk.2) (.int .i64 (wrap64 (x544002_2 + (wrap64 (-x11_4)))))) (fun _ hk => trivial)) pl))⟩; replace BK540 : Aside0 (w68.heap[gb540]? = some (.cells #[.bool x541000_4, .slice none 0 0, .int .i64 x541002_4] 24 (0, 0))) := ⟨(by rw [hw]; exact (bf NB540_543.out BK540.out))⟩; replace BK543 : Aside0 (w68.heap[gb543]? = some (.cells #[.bool ((bt a0 0) == 45), .slice none 0 0, .int .i64 (wrap64 (x544002_2 + (wrap64 (-x11_4))))] 30 (0, 0))) := ⟨(by rw [hw]; exact (by refine bp ?_; refine blk_put (cs := #[.bool ((bt a0 0) == 45), .slice none 0 0, .int .i64 x544002_2]) ?_ 2 _ rfl; exact bp BK543.out))⟩; replace HB : Aside0 (Below w.heap.size w w68) := ⟨(by rw [hw]; exact pB)⟩; clear hw; obtain ⟨Ao69, co69, eo69⟩ := Kd.R_slice HO_7.out; subst eo69; obtain ⟨hcz70_0, hcz70_1, hcz70_2, hfz70_0, hfz70_1, hfz70_2⟩ := cEc BK543.out) | ((with_reducible refine gate_store (t := 28) (p := 130) rfl ?_); refine store_event (t := 28) (p := 130) (v := ?vo_w71) (w1 := (w68.setCell ⟨gb543, 1, none⟩ (.slice Ao69 x7_2.length co69))) ?hg ?ho ?hn ?hr ?_; (case ho => rfl); (case hg => rfl); (case hn => rfl); (case hr => first | (go_simp; done) | (go_simp; rfl)); intro w71 hw; replace HO_7 : Aside0 (Kd.R (Kd.int .i64) 3 w71 w.heap.size (fun _ => True) (.slice Ao69 x7_2.length co69) x7_2) := ⟨(by rw [hw]; exact (Kd.R_below (Kd.R_mono (Kd.R_far (p := ⟨gb543, 1, none⟩) (Kd.R_types HO_7.out BK543.out (by decide)) (fun _ hk => hk.2) (.slice Ao69 x7_2.length co69)) (fun _ hk => trivial)) pl))⟩; replace BK540 : Aside0 (w71.heap[gb540]? = some (.cells #[.bool x541000_4, .slice none 0 0, .int .i64 x541002_4] 24 (0, 0))) := ⟨(by rw [hw]; exact (bf NB540_543.out BK540.out))⟩; replace BK543 : Aside0 (w71.heap[gb543]? = some (.cells #[.bool ((bt a0 0) == 45), .slice Ao69 x7_2.length co69, .int .i64 (wrap64 (x544002_2 + (wrap64 (-x11_4))))] 30 (0, 0))) := ⟨(by rw [hw]; exact (by refine bp ?_; refine blk_put (cs := #[.bool ((bt a0 0) == 45), .slice none 0 0, .int .i64 (wrap64 (x544002_2 + (wrap64 (-x11_4))))]) ?_ 1 _ rfl; exact bp BK543.out))⟩; replace HB : Aside0 (Below w.heap.size w w71) := ⟨(by rw [hw]; exact pB)⟩; clear hw; obtain ⟨hcz72_0, hcz72_1, hcz72_2, hfz72_0, hfz72_1, hfz72_2⟩ := cEc BK543.out) | (refine gL (some 132) Tryz.func23 #[.agg #[.bool ((bt a0 0) == 45), .slice Ao69 x7_2.length co69, .int .i64 (wrap64 (x544002_2 + (wrap64 (-x11_4))))]] (h := ?_); (with_reducible refine (bolterref02_Made.calls k4 ((bt a0 0) == 45) (fun k_ => some k_ = (.slice Ao69 x7_2.length co69 : Value).ownBlock) (.slice Ao69 x7_2.length co69) x7_2 (wrap64 (x544002_2 + (wrap64 (-x11_4)))) t550 t551 t554 t555 w _ ?side1 ?side2 A65.out).mono ?_); (case side1 => exact pB); (case side2 => exact Kd.R_tight rfl HO_7.out); rintro e w73 ⟨v552, rfl, ho0, hb, hkp⟩; refine ⟨_, rfl, ?_⟩; have HO553 := am (Kd.R_mono (ok' := fun k_ => True) ho0 (fun k_ hk_ => trivial)); replace BK540 := am (blk_kept (blk_below BK540.out pl) hkp (fun e_ => Kd.R_ne HO_7.out BK540.out (by decide) e_)); replace BK543 := am (blk_kept (blk_below BK543.out pl) hkp (fun e_ => Kd.R_ne HO_7.out BK543.out (by decide) e_)); replace HB := am hb; clear HO_7; obtain ⟨hcz74_0, hcz74_1, hcz74_2, hfz74_0, hfz74_1, hfz74_2⟩ := cEc BK540.out; obtain ⟨Ao75, co75, eo75⟩ := Kd.R_slice HO553.out; subst eo75))
                refine bodyPost_ret (results_ct rfl _ _ gb540 24 #[.bool t550, .slice Ao75 t551.length co75, .int .i64 t554] (0, 0) _ rfl (by exact p3 BK540) Tryz.underlying24 rfl (by kernel_rfl)) rfl ?_
                exact ⟨_, pE, by refine rp ?_; exact Kd.R_mono (Kd.R_far (p := ⟨gb540, 2, none⟩) (Kd.R_far (p := ⟨gb540, 1, none⟩) (Kd.R_far (p := ⟨gb540, 0, none⟩) (Kd.R_types HO553.out BK540.out (by decide)) (fun _ hk => hk.2) (.bool t550)) (fun _ hk => hk.2) (.slice Ao75 t551.length co75)) (fun _ hk => hk.2) (.int .i64 t554)) (fun _ hk => trivial), pB⟩
               ·replace c64 := Bool.eq_false_iff.mpr c64
                subst c64
                rw [if_neg (show ¬ (false = true) by decide)] at H
                obtain ⟨⟨t556, t557, t560, t561⟩, A76, H⟩ := ob H; (try dsimp only at H)
                simp only [Option.some.injEq, Prod.mk.injEq] at H
                obtain ⟨rfl, rfl, rfl, rfl⟩ := H
                have hnb77 := NB543_540.out
                have hnc77 := NB540_543.out
                obtain ⟨hcz78_0, hcz78_1, hcz78_2, hfz78_0, hfz78_1, hfz78_2⟩ := cEc BK543.out
                go_wp2_with (first | ((with_reducible refine gate_store (t := 3) (p := 128) rfl ?_); refine store_event (t := 3) (p := 128) (v := ?vo_w79) (w1 := (wr.setCell ⟨gb543, 2, none⟩ (.int .i64 (wrap64 (x544002_2 + x11_4))))) ?hg ?ho ?hn ?hr ?_; (case ho => rfl); (case hg => rfl); (case hn => rfl); (case hr => first | (go_simp; done) | (go_simp; rfl)); intro w79 hw; replace HO_7 : Aside0 (Kd.R (Kd.int .i64) 3 w79 w.heap.size (fun _ => True) u7 x7_2) := ⟨(by rw [hw]; exact (Kd.R_below (Kd.R_mono (Kd.R_far (p := ⟨gb543, 2, none⟩) (Kd.R_types HO_7.out BK543.out (by decide)) (fun _ hk => hk.2) (.int .i64 (wrap64 (x544002_2 + x11_4)))) (fun _ hk => trivial)) pl))⟩; replace BK540 : Aside0 (w79.heap[gb540]? = some (.cells #[.bool x541000_4, .slice none 0 0, .int .i64 x541002_4] 24 (0, 0))) := ⟨(by rw [hw]; exact (bf NB540_543.out BK540.out))⟩; replace BK543 : Aside0 (w79.heap[gb543]? = some (.cells #[.bool ((bt a0 0) == 45), .slice none 0 0, .int .i64 (wrap64 (x544002_2 + x11_4))] 30 (0, 0))) := ⟨(by rw [hw]; exact (by refine bp ?_; refine blk_put (cs := #[.bool ((bt a0 0) == 45), .slice none 0 0, .int .i64 x544002_2]) ?_ 2 _ rfl; exact bp BK543.out))⟩; replace HB : Aside0 (Below w.heap.size w w79) := ⟨(by rw [hw]; exact pB)⟩; clear hw; obtain ⟨Ao80, co80, eo80⟩ := Kd.R_slice HO_7.out; subst eo80; obtain ⟨hcz81_0, hcz81_1, hcz81_2, hfz81_0, hfz81_1, hfz81_2⟩ := cEc BK543.out) | ((with_reducible refine gate_store (t := 28) (p := 130) rfl ?_); refine store_event (t := 28) (p := 130) (v := ?vo_w82) (w1 := (w79.setCell ⟨gb543, 1, none⟩ (.slice Ao80 x7_2.length co80))) ?hg ?ho ?hn ?hr ?_; (case ho => rfl); (case hg => rfl); (case hn => rfl); (case hr => first | (go_simp; done) | (go_simp; rfl)); intro w82 hw; replace HO_7 : Aside0 (Kd.R (Kd.int .i64) 3 w82 w.heap.size (fun _ => True) (.slice Ao80 x7_2.length co80) x7_2) := ⟨(by rw [hw]; exact (Kd.R_below (Kd.R_mono (Kd.R_far (p := ⟨gb543, 1, none⟩) (Kd.R_types HO_7.out BK543.out (by decide)) (fun _ hk => hk.2) (.slice Ao80 x7_2.length co80)) (fun _ hk => trivial)) pl))⟩; replace BK540 : Aside0 (w82.heap[gb540]? = some (.cells #[.bool x541000_4, .slice none 0 0, .int .i64 x541002_4] 24 (0, 0))) := ⟨(by rw [hw]; exact (bf NB540_543.out BK540.out))⟩; replace BK543 : Aside0 (w82.heap[gb543]? = some (.cells #[.bool ((bt a0 0) == 45), .slice Ao80 x7_2.length co80, .int .i64 (wrap64 (x544002_2 + x11_4))] 30 (0, 0))) := ⟨(by rw [hw]; exact (by refine bp ?_; refine blk_put (cs := #[.bool ((bt a0 0) == 45), .slice none 0 0, .int .i64 (wrap64 (x544002_2 + x11_4))]) ?_ 1 _ rfl; exact bp BK543.out))⟩; replace HB : Aside0 (Below w.heap.size w w82) := ⟨(by rw [hw]; exact pB)⟩; clear hw; obtain ⟨hcz83_0, hcz83_1, hcz83_2, hfz83_0, hfz83_1, hfz83_2⟩ := cEc BK543.out) | (refine gL (some 132) Tryz.func23 #[.agg #[.bool ((bt a0 0) == 45), .slice Ao80 x7_2.length co80, .int .i64 (wrap64 (x544002_2 + x11_4))]] (h := ?_); (with_reducible refine (bolterref02_Made.calls k4 ((bt a0 0) == 45) (fun k_ => some k_ = (.slice Ao80 x7_2.length co80 : Value).ownBlock) (.slice Ao80 x7_2.length co80) x7_2 (wrap64 (x544002_2 + x11_4)) t556 t557 t560 t561 w _ ?side1 ?side2 A76.out).mono ?_); (case side1 => exact pB); (case side2 => exact Kd.R_tight rfl HO_7.out); rintro e w84 ⟨v558, rfl, ho0, hb, hkp⟩; refine ⟨_, rfl, ?_⟩; have HO559 := am (Kd.R_mono (ok' := fun k_ => True) ho0 (fun k_ hk_ => trivial)); replace BK540 := am (blk_kept (blk_below BK540.out pl) hkp (fun e_ => Kd.R_ne HO_7.out BK540.out (by decide) e_)); replace BK543 := am (blk_kept (blk_below BK543.out pl) hkp (fun e_ => Kd.R_ne HO_7.out BK543.out (by decide) e_)); replace HB := am hb; clear HO_7; obtain ⟨hcz85_0, hcz85_1, hcz85_2, hfz85_0, hfz85_1, hfz85_2⟩ := cEc BK540.out; obtain ⟨Ao86, co86, eo86⟩ := Kd.R_slice HO559.out; subst eo86))
                refine bodyPost_ret (results_ct rfl _ _ gb540 24 #[.bool t556, .slice Ao86 t557.length co86, .int .i64 t560] (0, 0) _ rfl (by exact p3 BK540) Tryz.underlying24 rfl (by kernel_rfl)) rfl ?_
                exact ⟨_, pE, by refine rp ?_; exact Kd.R_mono (Kd.R_far (p := ⟨gb540, 2, none⟩) (Kd.R_far (p := ⟨gb540, 1, none⟩) (Kd.R_far (p := ⟨gb540, 0, none⟩) (Kd.R_types HO559.out BK540.out (by decide)) (fun _ hk => hk.2) (.bool t556)) (fun _ hk => hk.2) (.slice Ao86 t557.length co86)) (fun _ hk => hk.2) (.int .i64 t560)) (fun _ hk => trivial), pB⟩
           ·rw [if_neg c41] at H
            have c41b0 : decide (x9_2 < (a0.size : Int)) = false := decide_eq_false c41
            clear c41
            obtain ⟨⟨t562, t563, t566, t567⟩, A87, H⟩ := ob H; (try dsimp only at H)
            simp only [Option.some.injEq, Prod.mk.injEq] at H
            obtain ⟨rfl, rfl, rfl, rfl⟩ := H
            obtain ⟨Ao88, co88, eo88⟩ := Kd.R_slice HO_7.out
            subst eo88
            have hnb89 := NB543_540.out
            have hnc89 := NB540_543.out
            obtain ⟨hcz90_0, hcz90_1, hcz90_2, hfz90_0, hfz90_1, hfz90_2⟩ := cEc BK543.out
            go_wp2_with (first | ((with_reducible refine gate_store (t := 28) (p := 130) rfl ?_); refine store_event (t := 28) (p := 130) (v := ?vo_w91) (w1 := (wc.setCell ⟨gb543, 1, none⟩ (.slice Ao88 x7_2.length co88))) ?hg ?ho ?hn ?hr ?_; (case ho => rfl); (case hg => rfl); (case hn => rfl); (case hr => first | (go_simp; done) | (go_simp; rfl)); intro w91 hw; replace HO_7 : Aside0 (Kd.R (Kd.int .i64) 3 w91 w.heap.size (fun _ => True) (.slice Ao88 x7_2.length co88) x7_2) := ⟨(by rw [hw]; exact (Kd.R_below (Kd.R_mono (Kd.R_far (p := ⟨gb543, 1, none⟩) (Kd.R_types HO_7.out BK543.out (by decide)) (fun _ hk => hk.2) (.slice Ao88 x7_2.length co88)) (fun _ hk => trivial)) pl))⟩; replace BK540 : Aside0 (w91.heap[gb540]? = some (.cells #[.bool false, .slice none 0 0, .int .i64 0] 24 (0, 0))) := ⟨(by rw [hw]; exact (bf NB540_543.out BK540.out))⟩; replace BK543 : Aside0 (w91.heap[gb543]? = some (.cells #[.bool ((bt a0 0) == 45), .slice Ao88 x7_2.length co88, .int .i64 x544002_2] 30 (0, 0))) := ⟨(by rw [hw]; exact (by refine bp ?_; refine blk_put (cs := #[.bool ((bt a0 0) == 45), .slice none 0 0, .int .i64 x544002_2]) ?_ 1 _ rfl; exact bp BK543.out))⟩; replace HB : Aside0 (Below w.heap.size w w91) := ⟨(by rw [hw]; exact pB)⟩; clear hw; obtain ⟨hcz92_0, hcz92_1, hcz92_2, hfz92_0, hfz92_1, hfz92_2⟩ := cEc BK543.out) | (refine gL (some 132) Tryz.func23 #[.agg #[.bool ((bt a0 0) == 45), .slice Ao88 x7_2.length co88, .int .i64 x544002_2]] (h := ?_); (with_reducible refine (bolterref02_Made.calls kj14 ((bt a0 0) == 45) (fun k_ => some k_ = (.slice Ao88 x7_2.length co88 : Value).ownBlock) (.slice Ao88 x7_2.length co88) x7_2 x544002_2 t562 t563 t566 t567 w _ ?side1 ?side2 A87.out).mono ?_); (case side1 => exact pB); (case side2 => exact Kd.R_tight rfl HO_7.out); rintro e w93 ⟨v564, rfl, ho0, hb, hkp⟩; refine ⟨_, rfl, ?_⟩; have HO565 := am (Kd.R_mono (ok' := fun k_ => True) ho0 (fun k_ hk_ => trivial)); replace BK540 := am (blk_kept (blk_below BK540.out pl) hkp (fun e_ => Kd.R_ne HO_7.out BK540.out (by decide) e_)); replace BK543 := am (blk_kept (blk_below BK543.out pl) hkp (fun e_ => Kd.R_ne HO_7.out BK543.out (by decide) e_)); replace HB := am hb; clear HO_7; obtain ⟨hcz94_0, hcz94_1, hcz94_2, hfz94_0, hfz94_1, hfz94_2⟩ := cEc BK540.out; obtain ⟨Ao95, co95, eo95⟩ := Kd.R_slice HO565.out; subst eo95))
            refine bodyPost_ret (results_ct rfl _ _ gb540 24 #[.bool t562, .slice Ao95 t563.length co95, .int .i64 t566] (0, 0) _ rfl (by exact p3 BK540) Tryz.underlying24 rfl (by kernel_rfl)) rfl ?_
            exact ⟨_, pE, by refine rp ?_; exact Kd.R_mono (Kd.R_far (p := ⟨gb540, 2, none⟩) (Kd.R_far (p := ⟨gb540, 1, none⟩) (Kd.R_far (p := ⟨gb540, 0, none⟩) (Kd.R_types HO565.out BK540.out (by decide)) (fun _ hk => hk.2) (.bool t562)) (fun _ hk => hk.2) (.slice Ao95 t563.length co95)) (fun _ hk => hk.2) (.int .i64 t566)) (fun _ hk => trivial), pB⟩
     ·rw [if_neg c10] at H
      exact absurd H (by simp)
def bolterlaw02_Of.f (k : Nat) (a0 : ByteArray) : Option (Bool × List Int × Int) := (bolterref02_Parse.f k a0).bind fun bt569 => (some (bt569.1, bt569.2.1, bt569.2.2.1))
theorem bolterlaw02_Of.calls (k : Nat) (a0 : ByteArray) (r1 : Bool) (r2 : List Int) (r3 : Int) (w : World) (h : bolterlaw02_Of.f k a0 = some (r1, r2, r3)) :
  Calls Tryz.prog 62 #[.string a0] w fun e w' => ∃ v1_ : Value, e = .returned (.agg #[.bool r1, v1_, .int .i64 r3]) /\ Kd.R (Kd.int .u32) 85 w' w.heap.size (fun _ => True) v1_ r2 /\ Below w.heap.size w w' := by
 have hu24 := Tryz.underlying24
 have HB := am (Below.refl w.heap.size w)
 have H : ((bolterref02_Parse.f k a0).bind fun bt569 => (some (bt569.1, bt569.2.1, bt569.2.2.1))) = some (r1, r2, r3) := h
 clear h
 obtain ⟨⟨t569, t570, t573, t574⟩, A2, H⟩ := ob H; (try dsimp only at H)
 simp only [Option.some.injEq, Prod.mk.injEq] at H
 obtain ⟨rfl, rfl, rfl⟩ := H
 go_enter Tryz.func62, Tryz.ntmps62
 go_wp2_with (first | ((with_reducible refine gd 2 ?_); refine bx 2 #[.bool false, .slice none 0 0, .int .i64 0] 24 (h := ?_); intro gb568 hg w3 hbox hb; have BK568 := am hbox; have GW568 := gW hg; have GE568 := gW hg; replace HB := bS hb; clear hb hbox hg) | (refine gL (some 7) Tryz.func58 #[.string a0] (h := ?_); (with_reducible refine (bolterref02_Parse.calls k a0 t569 t570 t573 t574 _ A2.out).mono ?_); rintro e w4 ⟨v571, rfl, ho0, hb⟩; refine ⟨_, rfl, ?_⟩; have HO572 := am (Kd.R_lower ho0 (below_size pB)); replace BK568 := bb BK568 hb; replace HB := bS hb) | ((with_reducible refine gd 3 ?_); refine bx 3 #[.bool false, .slice none 0 0, .int .i64 0] 24 (h := ?_); intro gb575 hg w5 hbox hb; have BK575 := am hbox; have GW575 := gW hg; have GE575 := gW hg; have NB568_575 := nL hg BK568; have NB575_568 := nG hg BK568; replace HO572 := rbl HO572 hb; replace BK568 := bb BK568 hb; replace HB := bS hb; clear hb hbox hg; have hnb6 := NB575_568.out; have hnc6 := NB568_575.out; obtain ⟨hcz7_0, hcz7_1, hcz7_2, hfz7_0, hfz7_1, hfz7_2⟩ := cEc BK575.out; obtain ⟨Ao8, co8, eo8⟩ := Kd.R_slice HO572.out; subst eo8; obtain ⟨hcz9_0, hcz9_1, hcz9_2, hfz9_0, hfz9_1, hfz9_2⟩ := cEc BK568.out))
 refine bodyPost_ret (results_cell_row rfl _ _ gb568 24 #[.bool t569, .slice Ao8 t570.length co8, .int .i64 t573] (0, 0) _ rfl (by refine bp ?_; refine blk_put (cs := #[.bool t569, .slice Ao8 t570.length co8, .int .i64 0]) ?_ 2 _ rfl; refine bp ?_; refine blk_put (cs := #[.bool t569, .slice none 0 0, .int .i64 0]) ?_ 1 _ rfl; refine bp ?_; refine blk_put (cs := #[.bool false, .slice none 0 0, .int .i64 0]) ?_ 0 _ rfl; refine bp ?_; refine blk_far ?_ NB568_575.out _; refine bp ?_; refine blk_far ?_ NB568_575.out _; refine bp ?_; refine blk_far ?_ NB568_575.out _; exact bp BK568.out) Tryz.underlying24 rfl (by kernel_rfl)) rfl ?_
 exact ⟨_, pE, by refine rp ?_; exact Kd.R_mono (Kd.R_far (p := ⟨gb568, 2, none⟩) (Kd.R_far (p := ⟨gb568, 1, none⟩) (Kd.R_far (p := ⟨gb568, 0, none⟩) (Kd.R_far (p := ⟨gb575, 2, none⟩) (Kd.R_far (p := ⟨gb575, 1, none⟩) (Kd.R_far (p := ⟨gb575, 0, none⟩) (Kd.R_types (Kd.R_types HO572.out BK575.out (by decide)) BK568.out (by decide)) (fun _ hk => hk.1.2) (.bool t569)) (fun _ hk => hk.1.2) (.slice Ao8 t570.length co8)) (fun _ hk => hk.1.2) (.int .i64 t573)) (fun _ hk => hk.2) (.bool t569)) (fun _ hk => hk.2) (.slice Ao8 t570.length co8)) (fun _ hk => hk.2) (.int .i64 t573)) (fun _ hk => trivial), pB⟩
end YtjbjkmccfocikaaGreatDoor.B
end
section
namespace YtjbjkmccfocikaaGreatDoor.P.Nm
open Go.RowKit YtjbjkmccfocikaaGreatDoorW.PrintWords YtjbjkmccfocikaaGreatDoor.B YtjbjkmccfocikaaGreatDoor.P
structure RawD (l : List Int) : Prop where
 dg : Dg 4294967296 l
 len : l.length <= 9223372036854775807
theorem RawD.nil : RawD [] := ⟨(fun x h => absurd h (by simp)), (by simp)⟩
theorem Same_self (D : Dm) (h : nd D.n <= 1000000) : Tells (fun k => bolterref02_Same.f k D.neg (limbs D.n) D.e D.neg (limbs D.n) D.e) true := (Same_D D D h).val (decide_eq_true rfl)
end YtjbjkmccfocikaaGreatDoor.P.Nm
end
section
namespace YtjbjkmccfocikaaGreatDoor.P.Nm
theorem nd_mul_le (m n : Nat) : nd (m * n) <= nd m + nd n := by
 refine nd_le ?_
 rw [Nat.pow_add]
 exact Nat.mul_lt_mul_of_lt_of_le (nd_lt m) (Nat.le_of_lt (nd_lt n)) (pow10_pos _)
def dl (n : Nat) : Nat := if n = 0 then 1 else nd n
theorem dl_of {n : Nat} (h : n ≠ 0) : dl n = nd n := by unfold dl; rw [if_neg h]
theorem dl_zero : dl 0 = 1 := rfl
theorem dl_le (n : Nat) : dl n <= nd n + 1 := by unfold dl; split <;> omega
def cutN (q : Nat) : Nat := dl q - 40
def padN (m n : Nat) : Nat := dl n + 42 - dl m
def upB (high low cut : Nat) (rest : Bool) : Bool :=
 if cut = 0 then false else if 5 * 10 ^ (cut - 1) < low then true else if low = 5 * 10 ^ (cut - 1) then (rest || decide (high % 2 = 1)) else false
def upN (b : Bool) (h : Nat) : Nat := if b then h + 1 else h
def divD (D E : Dm) : Dm :=
 let n := padN D.n E.n
 let q := D.n * 10 ^ n / E.n
 let cut := cutN q
 ⟨D.neg != E.neg, upN (upB (q / 10 ^ cut) (q % 10 ^ cut) cut (decide (D.n * 10 ^ n % E.n ≠ 0))) (q / 10 ^ cut), D.e - E.e - n + cut⟩
def quotD (D E : Dm) : Dm × Int := settleD (divD D E)
theorem settle_zero (s : Bool) (e : Int) : settleD ⟨s, 0, e⟩ = (zeroD, 0) := by unfold settleD; rw [if_pos rfl]
theorem settle_ne {a c : Dm} (h0 : a.n ≠ 0) (h : settleD a = (c, 0)) : c = ⟨a.neg, core a.n, a.e + tz a.n⟩ := by
 rcases settle_cases a with ⟨e, h1⟩ | ⟨e, _⟩ | ⟨e, _⟩ | ⟨e, _⟩ <;> rw [e] at h
 ·exact absurd h1 h0
 ·exact absurd (Prod.mk.inj h).2 (by decide)
 ·exact absurd (Prod.mk.inj h).2 (by decide)
 ·exact ((Prod.mk.inj h).1).symm
theorem upB_low0 (h cut : Nat) (r : Bool) : upB h 0 cut r = false := by
 have := pow10_pos (cut - 1)
 unfold upB
 split
 ·rfl
 ·rw [if_neg (by omega), if_neg (by omega)]
theorem bne_back (a b : Bool) : ((a != b) != b) = a := by cases a <;> cases b <;> rfl
theorem quot_exact {D E : Dm} (hD : OkD D) (hE : OkD E) (h0 : E.n ≠ 0) {P : Dm} (hp : timesD D E = (P, 0)) (h40 : nd D.n <= 40) : quotD P E = (D, 0) := by
 by_cases hd : D.n = 0
 ·have hDz := hD.zero hd
  have : P = zeroD := by
   unfold timesD mulD at hp
   simp only [hd, Nat.zero_mul, settle_zero] at hp
   exact ((Prod.mk.inj hp).1).symm
  rw [this, hDz]
  unfold quotD divD
  simp only [zeroD, Nat.zero_mul, Nat.zero_div, Nat.zero_mod, cutN, dl_zero]
  rw [upB_low0]
  exact settle_zero _ _
 ·have hM : D.n * E.n ≠ 0 := Nat.mul_ne_zero hd h0
  have hPe := settle_ne (a := mulD D E) hM hp
  obtain ⟨hc1, hc2⟩ := tz_is hM
  have hcn := core_ne hM
  have hnd := nd_core hM
  have hle := nd_mul_le D.n E.n
  obtain ⟨c, hc⟩ : ∃ c, core (D.n * E.n) = c := ⟨_, rfl⟩
  obtain ⟨t, ht⟩ : ∃ t, tz (D.n * E.n) = t := ⟨_, rfl⟩
  have hPn : P.n = c := by rw [hPe]; exact hc
  have hPs : P.neg = (D.neg != E.neg) := by rw [hPe]; rfl
  have hPx : P.e = D.e + E.e + t := by rw [hPe, <- ht]; rfl
  rw [hc, ht] at hc1 hnd
  rw [hc] at hcn
  obtain ⟨N, hN⟩ : ∃ N, padN c E.n = N := ⟨_, rfl⟩
  have hNt : t + 2 <= N := by rw [<- hN]; unfold padN; rw [dl_of hcn, dl_of h0]; omega
  obtain ⟨s, rfl⟩ : ∃ s, N = t + s := ⟨N - t, by omega⟩
  have hX : c * 10 ^ (t + s) = (D.n * 10 ^ s) * E.n := by
   rw [Nat.pow_add, <- Nat.mul_assoc, <- hc1, Nat.mul_right_comm]
  have hq : c * 10 ^ (t + s) / E.n = D.n * 10 ^ s := by rw [hX]; exact Nat.mul_div_cancel _ (by omega)
  have hr : c * 10 ^ (t + s) % E.n = 0 := by rw [hX]; exact Nat.mul_mod_left _ _
  have hqn : D.n * 10 ^ s ≠ 0 := Nat.mul_ne_zero hd (by have := pow10_pos s; omega)
  have hcut : cutN (D.n * 10 ^ s) = nd D.n + s - 40 := by unfold cutN; rw [dl_of hqn, nd_shift hd]
  obtain ⟨j, hj⟩ : ∃ j, nd D.n + s - 40 = j := ⟨_, rfl⟩
  rw [hj] at hcut
  obtain ⟨i, rfl⟩ : ∃ i, s = i + j := ⟨s - j, by omega⟩
  have hq2 : D.n * 10 ^ (i + j) = D.n * 10 ^ i * 10 ^ j := by rw [Nat.pow_add, Nat.mul_assoc]
  have hh : D.n * 10 ^ (i + j) / 10 ^ j = D.n * 10 ^ i := by rw [hq2]; exact Nat.mul_div_cancel _ (pow10_pos j)
  have hl : D.n * 10 ^ (i + j) % 10 ^ j = 0 := by rw [hq2]; exact Nat.mul_mod_left _ _
  unfold quotD divD
  simp only [hPn, hPs, hPx, hN, hq, hr, hcut, hh, hl, upB_low0, bne_back]
  have e1 : D.e + E.e + (t : Int) - E.e - ((t + (i + j) : Nat) : Int) + (j : Int) = D.e - (i : Int) := by omega
  rw [e1, show upN false (D.n * 10 ^ i) = D.n * 10 ^ i from rfl, settle_shift]
  exact settle_of hD
end YtjbjkmccfocikaaGreatDoor.P.Nm
end
section
namespace YtjbjkmccfocikaaGreatDoor.B
open Go.RowKit YtjbjkmccfocikaaGreatDoorW.PrintWords YtjbjkmccfocikaaGreatDoorW.PrintLast YtjbjkmccfocikaaGreatDoorW.PrintMore
attribute [local go_sem] max2_int min2_int max_two min_two max_three min_three max_four min_four
def quot_ask.f (k : Nat) (l0 : List (S24)) : Option (Int) := (quot_ask_any.f k l0).bind fun t297 => (if t297 = true then (some 9) else (some 0))
theorem quot_ask.calls (k : Nat) (A0 : Option Addr) (c0 : Nat) (l0 : List (S24)) (r : Int) (w : World) (hr0 : Kd.C k24 w A0 l0.length l0) (hc0 : l0.length <= c0) (h : quot_ask.f k l0 = some r) :
  Calls Tryz.prog 67 #[.slice A0 l0.length c0] w fun e w' => e = .returned (.int .i64 r) /\ Below w.heap.size w w' := by
 have HR0 := am hr0
 have HC0 := am hc0
 clear hr0 hc0
 have HB := am (Below.refl w.heap.size w)
 have H : ((quot_ask_any.f k l0).bind fun t297 => (if t297 = true then (some 9) else (some 0))) = some r := h
 clear h
 obtain ⟨t297, A2, H⟩ := ob H
 by_cases c3 : t297 = true
 ·subst c3
  rw [if_pos rfl] at H
  obtain rfl := Option.some.inj H
  go_enter Tryz.func67, Tryz.ntmps67
  go_wp2_with (first | (refine gL (some 4) Tryz.func123 #[.slice A0 l0.length c0, .func (.func 124) #[] #[]] (h := ?_); (with_reducible refine (quot_ask_any.calls k _ _ l0 true _ ?side1 ?side2 A2.out).mono ?_); (case side1 => refine cp ?_; exact HR0.out); (case side2 => exact HC0.out); rintro e w4 ⟨rfl, hb⟩; refine ⟨_, rfl, ?_⟩; replace HB := bS hb))
  go_ret
  exact ⟨pE, pB⟩
 ·replace c3 := Bool.eq_false_iff.mpr c3
  subst c3
  rw [if_neg (show ¬ (false = true) by decide)] at H
  obtain rfl := Option.some.inj H
  go_enter Tryz.func67, Tryz.ntmps67
  go_wp2_with (first | (refine gL (some 4) Tryz.func123 #[.slice A0 l0.length c0, .func (.func 124) #[] #[]] (h := ?_); (with_reducible refine (quot_ask_any.calls k _ _ l0 false _ ?side1 ?side2 A2.out).mono ?_); (case side1 => refine cp ?_; exact HR0.out); (case side2 => exact HC0.out); rintro e w5 ⟨rfl, hb⟩; refine ⟨_, rfl, ?_⟩; replace HB := bS hb))
  go_ret
  exact ⟨pE, pB⟩
def quot_first_string.f (a0 : ByteArray) (a1 : Int) : Option (ByteArray) := some a0
theorem quot_first_string.calls (a0 : ByteArray) (a1 : Int) (r : ByteArray) (w : World) (h : quot_first_string.f a0 a1 = some r) :
  Calls Tryz.prog 125 #[.string a0, .int .i64 a1] w fun e w' => e = .returned (.string r) /\ Drawn0 w w' := by
 have H : (some a0) = some r := h
 clear h
 obtain rfl := Option.some.inj H
 go_enter Tryz.func125, Tryz.ntmps125
 go_wp2
 go_ret
 exact ⟨pR, pD⟩
def quot_digits.f (k : Nat) (l0 : List Int) : Option (Int) := (nat_Print.f k l0).bind fun bt298 => ((quot_first_string.f bt298.1 bt298.2).bind fun t300 => (some (t300.size : Int)))
theorem quot_digits.calls (k : Nat) (A0 : Option Addr) (c0 : Nat) (l0 : List Int) (r : Int) (w : World) (hr0 : Kd.C (Kd.int .u32) w A0 l0.length l0) (hc0 : l0.length <= c0) (h : quot_digits.f k l0 = some r) :
  Calls Tryz.prog 68 #[.slice A0 l0.length c0] w fun e w' => e = .returned (.int .i64 r) /\ Below w.heap.size w w' := by
 have HR0 := am hr0
 have HC0 := am hc0
 clear hr0 hc0
 have HB := am (Below.refl w.heap.size w)
 have H : ((nat_Print.f k l0).bind fun bt298 => ((quot_first_string.f bt298.1 bt298.2).bind fun t300 => (some (t300.size : Int)))) = some r := h
 clear h
 obtain ⟨⟨t298, t299⟩, A2, H⟩ := ob H; (try dsimp only at H)
 obtain ⟨t300, A3, H⟩ := ob H
 obtain rfl := Option.some.inj H
 go_enter Tryz.func68, Tryz.ntmps68
 go_wp2_with (first | (refine gL (some 4) Tryz.func112 #[.slice A0 l0.length c0] (h := ?_); (with_reducible refine (nat_Print.calls k (fun k_ => k_ < w.heap.size) _ _ l0 t298 t299 _ ?side1 A2.out).mono ?_); (case side1 => exact Kd.V_mk HC0.out (Kd.F_below (Kd.C_F (Kd.heap_int .u32) HR0.out) pB)); rintro e w4 ⟨rfl, hb⟩; refine ⟨_, rfl, ?_⟩; replace HB := bS hb) | (refine gL (some 7) Tryz.func125 #[.string t298, .int .i64 t299] (h := ?_); (with_reducible refine (quot_first_string.calls t298 t299 t300 _ A3.out).mono ?_); rintro e w' ⟨rfl, ⟨nd, rfl⟩⟩; refine ⟨_, rfl, ?_⟩))
 go_ret
 exact ⟨pE, pB⟩
def quot_first_uint32.f (l0 : List Int) (a1 : Int) : Option (List Int) := some l0
theorem quot_first_uint32.calls (P0_ : Nat -> Prop) (u9000_ : Value) (l0 : List Int) (a1 : Int) (r : List Int) (w0 w : World) (hB : Below w0.heap.size w0 w) (ho0 : Kd.R (Kd.int .u32) 85 w w0.heap.size P0_ u9000_ l0) (h : quot_first_uint32.f l0 a1 = some r) :
  Calls Tryz.prog 70 #[u9000_, .int .i64 a1] w fun e w' => ∃ v0_ : Value, e = .returned (v0_) /\ Kd.R (Kd.int .u32) 85 w' w0.heap.size (fun k_ => (P0_ k_ \/ w.heap.size <= k_)) v0_ r /\ Below w0.heap.size w0 w' /\ Kept w w' (fun k_ => P0_ k_) := by
 have HO0 := am (show Kd.R (Kd.int .u32) 85 w w0.heap.size (fun k_ => (P0_ k_ \/ w.heap.size <= k_)) u9000_ l0 from Kd.R_mono ho0 (fun k_ hk => (.inl hk)))
 have HK := am (Kept.refl w (fun k_ => P0_ k_))
 have HW0 := am hB.size
 have HB := am hB
 clear hB
 have H : (some l0) = some r := h
 clear h
 obtain rfl := Option.some.inj H
 go_enter Tryz.func70, Tryz.ntmps70
 go_wp2
 go_ret
 exact ⟨_, pE, by refine rp ?_; exact HO0.out, pB, by repeat (first | (with_reducible first | exact HK.out | apply Kept.alloc | apply Kept.drewN | apply Kept.drew) | exact HK.out)⟩
def quot_pow.f (k : Nat) (a0 : Int) : Option (List Int) := (nat_Pow.f k a0).bind fun bt327 => ((quot_first_uint32.f bt327.1 bt327.2).bind fun t331 => (some t331))
theorem quot_pow.calls (k : Nat) (a0 : Int) (r : List Int) (w : World) (h : quot_pow.f k a0 = some r) :
  Calls Tryz.prog 72 #[.int .i64 a0] w fun e w' => ∃ v0_ : Value, e = .returned (v0_) /\ Kd.R (Kd.int .u32) 85 w' w.heap.size (fun _ => True) v0_ r /\ Below w.heap.size w w' := by
 have HB := am (Below.refl w.heap.size w)
 have H : ((nat_Pow.f k a0).bind fun bt327 => ((quot_first_uint32.f bt327.1 bt327.2).bind fun t331 => (some t331))) = some r := h
 clear h
 obtain ⟨⟨t327, t328⟩, A2, H⟩ := ob H; (try dsimp only at H)
 obtain ⟨t331, A3, H⟩ := ob H
 obtain rfl := Option.some.inj H
 go_enter Tryz.func72, Tryz.ntmps72
 go_wp2_with (first | (refine gL (some 4) Tryz.func130 #[.int .i64 a0] (h := ?_); (with_reducible refine (nat_Pow.calls k a0 t327 t328 _ A2.out).mono ?_); rintro e w4 ⟨v329, rfl, ho0, hb⟩; refine ⟨_, rfl, ?_⟩; have HO330 := am (Kd.R_lower ho0 (below_size pB)); replace HB := bS hb; obtain ⟨Ao5, co5, eo5⟩ := Kd.R_slice HO330.out; subst eo5) | (refine gL (some 7) Tryz.func70 #[.slice Ao5 t327.length co5, .int .i64 t328] (h := ?_); (with_reducible refine (quot_first_uint32.calls (fun k_ => some k_ = (.slice Ao5 t327.length co5 : Value).ownBlock) (.slice Ao5 t327.length co5) t327 t328 t331 w _ ?side1 ?side2 A3.out).mono ?_); (case side1 => exact pB); (case side2 => exact Kd.R_tight rfl HO330.out); rintro e w6 ⟨v332, rfl, ho0, hb, hkp⟩; refine ⟨_, rfl, ?_⟩; have HO333 := am (Kd.R_mono (ok' := fun k_ => True) ho0 (fun k_ hk_ => trivial)); replace HB := am hb; clear HO330))
 go_ret
 exact ⟨_, pE, by refine rp ?_; exact HO333.out, pB⟩
def quot_parted.f (k : Nat) (l0 : List Int) (a1 : Int) : Option (List Int × List Int × Int) := (quot_digits.f k l0).bind fun t334 => ((quot_pow.f k (mx (wrap64 (t334 - a1)) 0)).bind fun t335 => ((nat_Div.f k l0 t335).bind fun bt338 => (some (bt338.1, bt338.2.1, mx (wrap64 (t334 - a1)) 0))))
theorem quot_parted.calls (k : Nat) (A0 : Option Addr) (c0 : Nat) (l0 : List Int) (a1 : Int) (r1 : List Int) (r2 : List Int) (r3 : Int) (w : World) (hr0 : Kd.C (Kd.int .u32) w A0 l0.length l0) (hc0 : l0.length <= c0) (h : quot_parted.f k l0 a1 = some (r1, r2, r3)) :
  Calls Tryz.prog 73 #[.slice A0 l0.length c0, .int .i64 a1] w fun e w' => ∃ v0_ v1_ : Value, e = .returned (.tuple #[v0_, v1_, .int .i64 r3]) /\ Kd.R (Kd.int .u32) 85 w' w.heap.size (fun k_ => some k_ ≠ (v1_ : Value).ownBlock) v0_ r1 /\ Kd.R (Kd.int .u32) 85 w' w.heap.size (fun k_ => some k_ ≠ (v0_ : Value).ownBlock) v1_ r2 /\ Below w.heap.size w w' := by
 have HR0 := am hr0
 have HC0 := am hc0
 clear hr0 hc0
 have HB := am (Below.refl w.heap.size w)
 have H : ((quot_digits.f k l0).bind fun t334 => ((quot_pow.f k (mx (wrap64 (t334 - a1)) 0)).bind fun t335 => ((nat_Div.f k l0 t335).bind fun bt338 => (some (bt338.1, bt338.2.1, mx (wrap64 (t334 - a1)) 0))))) = some (r1, r2, r3) := h
 clear h
 obtain ⟨t334, A3, H⟩ := ob H
 obtain ⟨ji4, hji4⟩ : ∃ j_ : Int, (mx (wrap64 (t334 - a1)) 0) = j_ := ⟨_, rfl⟩
 replace H : ((quot_pow.f k (ji4)).bind fun t335 => ((nat_Div.f k l0 t335).bind fun bt338 => (some (bt338.1, bt338.2.1, ji4)))) = some (r1, r2, r3) := by first | (rw [hji4] at H; exact H) | (simp only [hji4] at H ⊢; exact H)
 (try rw [hji4] at A3)
 (try (have hji4l : 0 <= ji4 := by (rw [<- hji4]; unfold mx; (repeat' split) <;> omega)))
 (try (have hji4m : 0 <= ji4 := by omega))
 have hji4_ : (if (wrap64 (t334 - a1)) < 0 then 0 else (wrap64 (t334 - a1))) = ji4 := hji4
 obtain ⟨t335, A5, H⟩ := ob H
 obtain ⟨⟨t338, t339, t340⟩, A6, H⟩ := ob H; (try dsimp only at H)
 simp only [Option.some.injEq, Prod.mk.injEq] at H
 obtain ⟨rfl, rfl, rfl⟩ := H
 go_enter Tryz.func73, Tryz.ntmps73
 go_wp2_with (first | (refine gL (some 8) Tryz.func68 #[.slice A0 l0.length c0] (h := ?_); (with_reducible refine (quot_digits.calls k _ _ l0 t334 _ ?side1 ?side2 A3.out).mono ?_); (case side1 => refine cp ?_; exact HR0.out); (case side2 => exact HC0.out); rintro e w7 ⟨rfl, hb⟩; refine ⟨_, rfl, ?_⟩; replace HB := bS hb) | ((with_reducible refine gate_callee (f := 72) rfl ?_); refine goesL_ (some 15) rfl rfl Tryz.func72 (by kernel_rfl) rfl #[.int .i64 ji4] rfl (by (try simp only [List.map_toArray, List.map_cons, List.map_nil]); first | done | (simp only [hji4]; rfl) | rfl | (simp only [List.length_drop, List.length_take]; rfl)) ?_; (with_reducible refine (quot_pow.calls k ji4 t335 _ A5.out).mono ?_); rintro e w8 ⟨v336, rfl, ho0, hb⟩; refine ⟨_, rfl, ?_⟩; have HO337 := am (Kd.R_lower ho0 (below_size pB)); replace HB := bS hb; obtain ⟨Ao9, co9, eo9⟩ := Kd.R_slice HO337.out; subst eo9) | (refine gL (some 16) Tryz.func69 #[.slice A0 l0.length c0, .slice Ao9 t335.length co9] (h := ?_); (with_reducible refine (nat_Div.calls k _ _ l0 _ _ t335 t338 t339 t340 _ ?side1 ?side2 ?side3 ?side4 A6.out).mono ?_); (case side1 => refine cp ?_; exact (Kd.C_below HR0.out HB.out)); (case side2 => exact HC0.out); (case side3 => exact Kd.C_below (Kd.R_reads' HO337.out).2.2 pl); (case side4 => exact (Kd.R_reads' HO337.out).2.1); rintro e w10 ⟨v341, v343, rfl, ho0, ho1, hb⟩; refine ⟨_, rfl, ?_⟩; have HO342 := am (Kd.R_lower (Kd.R_new' ho0 (Kd.R_lt (Kd.R_below HO337.out pl))) (below_size pB)); have HO344 := am (Kd.R_lower (Kd.R_new' ho1 (Kd.R_lt (Kd.R_below HO337.out pl))) (below_size pB)); replace HO337 := am (Kd.R_mono (Kd.R_told (Kd.R_told (Kd.R_old (Kd.R_below HO337.out pl) hb) (Kd.R_base ho0)) (Kd.R_base ho1)) (fun _ h_ => h_.1)); replace HB := bS hb))
 go_ret3
 exact ⟨_, _, by first | rfl | (simp [errW_none, errW_some] <;> rfl) | (simp only [<- hji4]; first | rfl | (simp [errW_none, errW_some] <;> rfl)) | (simp [*, errW_none, errW_some] <;> rfl), by refine rp ?_; exact Kd.R_mono HO342.out (fun _ hk => hk.1), by refine rp ?_; exact Kd.R_mono HO344.out (fun _ hk => hk.1), pB⟩
def quot_upward.f (k : Nat) (l0 : List Int) (l1 : List Int) (a2 : Int) (a3 : Bool) : Option (Bool) := if a2 = 0 then (some false) else ((quot_pow.f k (wrap64 (a2 - 1))).bind fun t356 => ((nat_From.f k 5).bind fun t359 => ((nat_Mul.f k t356 t359).bind fun bt362 => ((quot_first_uint32.f bt362.1 bt362.2).bind fun t366 => ((nat_Compare.f k l1 t366).bind fun bt369 => (if (l0.length : Int) > 0 then (if 0 < (l0.length : Int) then (if bt369.1 > 0 then (some true) else (if bt369.1 = 0 then (if a3 = true then (some true) else (some ((Int.tmod (rd l0 0) 2) == 1))) else (some false))) else (none)) else (if bt369.1 > 0 then (some true) else (if bt369.1 = 0 then (if a3 = true then (some true) else (some false)) else (some false)))))))))
theorem quot_upward.leaf {P : Prop} (h : P := by
 go_enter Tryz.func74, Tryz.ntmps74
 go_wp2_with (first | (refine gL (some 17) Tryz.func72 #[.int .i64 (wrap64 (a2 - 1))] (h := ?_); (with_reducible refine (quot_pow.calls k (wrap64 (a2 - 1)) t356 _ A6.out).mono ?_); rintro e w0z ⟨v1z, rfl, ho2z, hb⟩; refine ⟨_, rfl, ?_⟩; have HO3z := am (Kd.R_lower ho2z (below_size pB)); replace HB := bS hb) | (refine gL (some 18) Tryz.func76 #[.int .u64 5] (h := ?_); (with_reducible refine (nat_From.calls k 5 t359 _ A7.out).mono ?_); rintro e w4z ⟨v5z, rfl, ho2z, hb⟩; refine ⟨_, rfl, ?_⟩; have HO6z := am (Kd.R_lower (Kd.R_new' ho2z (Kd.R_lt (Kd.R_below HO3z.out pl))) (below_size pB)); replace HO3z := reR HO3z ho2z hb; replace HB := bS hb; obtain ⟨Ao7z, co8z, eo9z⟩ := Kd.R_slice HO3z.out; subst eo9z; obtain ⟨Ao10z, co11z, eo12z⟩ := Kd.R_slice HO6z.out; subst eo12z) | (refine gL (some 19) Tryz.func71 #[.slice Ao7z t356.length co8z, .slice Ao10z t359.length co11z] (h := ?_); (with_reducible refine (nat_Mul.calls k _ _ t356 _ _ t359 t362 t363 _ ?side1 ?side2 ?side3 ?side4 A8.out).mono ?_); (case side1 => exact Kd.C_below (Kd.R_reads' HO3z.out).2.2 pl); (case side2 => exact (Kd.R_reads' HO3z.out).2.1); (case side3 => exact Kd.C_below (Kd.R_reads' HO6z.out).2.2 pl); (case side4 => exact (Kd.R_reads' HO6z.out).2.1); rintro e w13z ⟨v14z, rfl, ho2z, hb⟩; refine ⟨_, rfl, ?_⟩; have HO15z := am (Kd.R_lower (Kd.R_new' (Kd.R_new' ho2z (Kd.R_lt (Kd.R_below HO3z.out pl))) (Kd.R_lt (Kd.R_below HO6z.out pl))) (below_size pB)); replace HO3z := reR HO3z ho2z hb; replace HO6z := reR HO6z ho2z hb; replace HB := bS hb; obtain ⟨Ao16z, co17z, eo18z⟩ := Kd.R_slice HO15z.out; subst eo18z) | (refine gL (some 22) Tryz.func70 #[.slice Ao16z t362.length co17z, .int .i64 t363] (h := ?_); (with_reducible refine (quot_first_uint32.calls (fun k_ => some k_ = (.slice Ao16z t362.length co17z : Value).ownBlock) (.slice Ao16z t362.length co17z) t362 t363 t366 w _ ?side1 ?side2 A9.out).mono ?_); (case side1 => exact pB); (case side2 => exact Kd.R_tight rfl HO15z.out); rintro e w19z ⟨v20z, rfl, ho2z, hb, hkp⟩; refine ⟨_, rfl, ?_⟩; have HO21z := am (Kd.R_mono (ok' := fun k_ => some k_ ≠ (.slice Ao7z t356.length co8z : Value).ownBlock /\ some k_ ≠ (.slice Ao10z t359.length co11z : Value).ownBlock) ho2z (fun k_ hk_ => ⟨Or.elim hk_ (fun hs_ => fun e_ => (((HO3z.out).1 k_ e_.symm).2) hs_) (fun hn_ => (Kd.fresh' (Kd.R_lt (Kd.R_below HO3z.out pl)) k_ hn_)), Or.elim hk_ (fun hs_ => fun e_ => (((HO6z.out).1 k_ e_.symm).2) hs_) (fun hn_ => (Kd.fresh' (Kd.R_lt (Kd.R_below HO6z.out pl)) k_ hn_))⟩)); replace HO3z := am (Kd.R_mono (ok' := fun k_ => some k_ ≠ (.slice Ao10z t359.length co11z : Value).ownBlock /\ some k_ ≠ (v20z : Value).ownBlock) (Kd.R_keptB (HO3z.out) hkp (fun k_ hk_ hs_ => (hk_.2) hs_)) (fun k_ hk_ => ⟨hk_.1.1.2, fun e_ => Or.elim (ho2z.1 k_ e_.symm) (fun hs_ => hk_.2.1 hs_) (fun hn_ => Nat.not_le.2 hk_.2.2 hn_)⟩)); replace HO6z := am (Kd.R_mono (ok' := fun k_ => some k_ ≠ (.slice Ao7z t356.length co8z : Value).ownBlock /\ some k_ ≠ (v20z : Value).ownBlock) (Kd.R_keptB (HO6z.out) hkp (fun k_ hk_ hs_ => (hk_.2) hs_)) (fun k_ hk_ => ⟨hk_.1.1.2, fun e_ => Or.elim (ho2z.1 k_ e_.symm) (fun hs_ => hk_.2.1 hs_) (fun hn_ => Nat.not_le.2 hk_.2.2 hn_)⟩)); replace HB := am hb; clear HO15z; obtain ⟨Ao22z, co23z, eo24z⟩ := Kd.R_slice HO21z.out; subst eo24z) | ((have q_ : decide (0 < l0.length) = true := c12b1; clear q_); refine gL (some 26) Tryz.func90 #[.slice A1 l1.length c1, .slice Ao22z t366.length co23z] (h := ?_); (with_reducible refine (nat_Compare.calls k _ _ l1 _ _ t366 t369 t370 _ ?side1 ?side2 ?side3 ?side4 A10.out).mono ?_); (case side1 => refine cp ?_; exact (Kd.C_below HR1.out HB.out)); (case side2 => exact HC1.out); (case side3 => exact Kd.C_below (Kd.R_reads' HO21z.out).2.2 pl); (case side4 => exact (Kd.R_reads' HO21z.out).2.1); rintro e w25z ⟨rfl, hb⟩; refine ⟨_, rfl, ?_⟩; replace HO3z := rbl HO3z hb; replace HO6z := rbl HO6z hb; replace HO21z := rbl HO21z hb; replace HB := bS hb; have p26z : 0 <= (0 : Int) := (by omega); have q27z : 0 < (l0.length : Int) := of_decide_eq_true pQ; obtain ⟨ad28z, e29z, hx30z⟩ := Kd.at_int HR0.out 0 p26z q27z; cases e29z; have qi31z : (0 < l0.length) = True := eq_true (by omega); (try rw [show ((0 : Int)).toNat = 0 from rfl] at hx30z); (try rw [Addr.add_zero'] at hx30z); replace hx30z := (HB.out.cell (World.block_lt_of_cell? w _ hx30z)).trans hx30z; replace p26z := eq_true p26z; replace q27z := eq_true q27z) | ((have q_ : decide (0 < l0.length) = false := c11b1; clear q_); refine gL (some 26) Tryz.func90 #[.slice A1 l1.length c1, .slice Ao22z t366.length co23z] (h := ?_); (with_reducible refine (nat_Compare.calls k _ _ l1 _ _ t366 t369 t370 _ ?side1 ?side2 ?side3 ?side4 A10.out).mono ?_); (case side1 => refine cp ?_; exact (Kd.C_below HR1.out HB.out)); (case side2 => exact HC1.out); (case side3 => exact Kd.C_below (Kd.R_reads' HO21z.out).2.2 pl); (case side4 => exact (Kd.R_reads' HO21z.out).2.1); rintro e w25z ⟨rfl, hb⟩; refine ⟨_, rfl, ?_⟩; replace HO3z := rbl HO3z hb; replace HO6z := rbl HO6z hb; replace HO21z := rbl HO21z hb; replace HB := bS hb))
 go_ret
 exact ⟨pE, pB⟩) : P := h
theorem quot_upward.calls (k : Nat) (A0 : Option Addr) (c0 : Nat) (l0 : List Int) (A1 : Option Addr) (c1 : Nat) (l1 : List Int) (a2 : Int) (a3 : Bool) (r : Bool) (w : World) (hr0 : Kd.C (Kd.int .u32) w A0 l0.length l0) (hc0 : l0.length <= c0) (hr1 : Kd.C (Kd.int .u32) w A1 l1.length l1) (hc1 : l1.length <= c1) (h : quot_upward.f k l0 l1 a2 a3 = some r) :
  Calls Tryz.prog 74 #[.slice A0 l0.length c0, .slice A1 l1.length c1, .int .i64 a2, .bool a3] w fun e w' => e = .returned (.bool r) /\ Below w.heap.size w w' := by
 have HR0 := am hr0
 have HC0 := am hc0
 clear hr0 hc0
 have HR1 := am hr1
 have HC1 := am hc1
 clear hr1 hc1
 have HB := am (Below.refl w.heap.size w)
 have H : (if a2 = 0 then (some false) else ((quot_pow.f k (wrap64 (a2 - 1))).bind fun t356 => ((nat_From.f k 5).bind fun t359 => ((nat_Mul.f k t356 t359).bind fun bt362 => ((quot_first_uint32.f bt362.1 bt362.2).bind fun t366 => ((nat_Compare.f k l1 t366).bind fun bt369 => (if (l0.length : Int) > 0 then (if 0 < (l0.length : Int) then (if bt369.1 > 0 then (some true) else (if bt369.1 = 0 then (if a3 = true then (some true) else (some ((Int.tmod (rd l0 0) 2) == 1))) else (some false))) else (none)) else (if bt369.1 > 0 then (some true) else (if bt369.1 = 0 then (if a3 = true then (some true) else (some false)) else (some false)))))))))) = some r := h
 clear h
 by_cases c5 : a2 = 0
 ·rw [if_pos c5] at H
  have c5b0 : (a2 == 0) = true := beq_iff_eq.mpr c5
  have c5b1 : (a2 != 0) = false := bne_eq_false_iff_eq.mpr c5
  clear c5
  obtain rfl := Option.some.inj H
  exact quot_upward.leaf
 ·rw [if_neg c5] at H
  have c5b0 : (a2 == 0) = false := beq_eq_false_iff_ne.mpr c5
  have c5b1 : (a2 != 0) = true := bne_iff_ne.mpr c5
  obtain ⟨t356, A6, H⟩ := ob H
  obtain ⟨t359, A7, H⟩ := ob H
  obtain ⟨⟨t362, t363⟩, A8, H⟩ := ob H; (try dsimp only at H)
  obtain ⟨t366, A9, H⟩ := ob H
  obtain ⟨⟨t369, t370⟩, A10, H⟩ := ob H; (try dsimp only at H)
  by_cases c11 : (l0.length : Int) > 0
  ·rw [if_pos c11] at H
   have c11b0 : decide (0 < (l0.length : Int)) = true := decide_eq_true c11
   have c11b1 : decide (0 < l0.length) = true := decide_eq_true (by omega)
   clear c11
   by_cases c12 : 0 < (l0.length : Int)
   ·rw [if_pos c12] at H
    have c12b0 : decide (0 < (l0.length : Int)) = true := decide_eq_true c12
    have c12b1 : decide (0 < l0.length) = true := decide_eq_true (by omega)
    clear c12
    by_cases c13 : t369 > 0
    ·rw [if_pos c13] at H
     have c13b0 : decide (0 < t369) = true := decide_eq_true c13
     clear c13
     obtain rfl := Option.some.inj H
     exact quot_upward.leaf
    ·rw [if_neg c13] at H
     have c13b0 : decide (0 < t369) = false := decide_eq_false c13
     clear c13
     by_cases c23 : t369 = 0
     ·rw [if_pos c23] at H
      have c23b0 : (t369 == 0) = true := beq_iff_eq.mpr c23
      have c23b1 : (t369 != 0) = false := bne_eq_false_iff_eq.mpr c23
      clear c23
      by_cases c24 : a3 = true
      ·subst c24
       rw [if_pos rfl] at H
       obtain rfl := Option.some.inj H
       exact quot_upward.leaf
      ·replace c24 := Bool.eq_false_iff.mpr c24
       subst c24
       rw [if_neg (show ¬ (false = true) by decide)] at H
       obtain rfl := Option.some.inj H
       exact quot_upward.leaf
     ·rw [if_neg c23] at H
      have c23b0 : (t369 == 0) = false := beq_eq_false_iff_ne.mpr c23
      have c23b1 : (t369 != 0) = true := bne_iff_ne.mpr c23
      obtain rfl := Option.some.inj H
      exact quot_upward.leaf
   ·rw [if_neg c12] at H
    exact absurd H (by simp)
  ·rw [if_neg c11] at H
   have c11b0 : decide (0 < (l0.length : Int)) = false := decide_eq_false c11
   have c11b1 : decide (0 < l0.length) = false := decide_eq_false (by omega)
   clear c11
   by_cases c52 : t369 > 0
   ·rw [if_pos c52] at H
    have c52b0 : decide (0 < t369) = true := decide_eq_true c52
    clear c52
    obtain rfl := Option.some.inj H
    exact quot_upward.leaf
   ·rw [if_neg c52] at H
    have c52b0 : decide (0 < t369) = false := decide_eq_false c52
    clear c52
    by_cases c62 : t369 = 0
    ·rw [if_pos c62] at H
     have c62b0 : (t369 == 0) = true := beq_iff_eq.mpr c62
     have c62b1 : (t369 != 0) = false := bne_eq_false_iff_eq.mpr c62
     clear c62
     by_cases c63 : a3 = true
     ·subst c63
      rw [if_pos rfl] at H
      obtain rfl := Option.some.inj H
      exact quot_upward.leaf
     ·replace c63 := Bool.eq_false_iff.mpr c63
      subst c63
      rw [if_neg (show ¬ (false = true) by decide)] at H
      obtain rfl := Option.some.inj H
      exact quot_upward.leaf
    ·rw [if_neg c62] at H
     have c62b0 : (t369 == 0) = false := beq_eq_false_iff_ne.mpr c62
     have c62b1 : (t369 != 0) = true := bne_iff_ne.mpr c62
     obtain rfl := Option.some.inj H
     exact quot_upward.leaf
def quot_Div.f (k : Nat) (a0_0 : Bool) (l0_1 : List Int) (a0_2 : Int) (a1_0 : Bool) (l1_1 : List Int) (a1_2 : Int) : Option (Bool × List Int × Int × Int) := (quot_ask.f k (([(⟨a0_0, l0_1, a0_2⟩ : S24), (⟨a1_0, l1_1, a1_2⟩ : S24)] : List (S24)))).bind fun t386 => (if t386 = 0 then (if (l1_1.length : Int) = 0 then (some (false, ([] : List Int), 0, 53)) else ((quot_digits.f k l1_1).bind fun t387 => ((quot_digits.f k l0_1).bind fun t388 => ((quot_pow.f k (mx (wrap64 ((wrap64 ((wrap64 (t387 - t388)) + 40)) + 2)) 0)).bind fun t389 => ((nat_Mul.f k l0_1 t389).bind fun bt392 => ((quot_first_uint32.f bt392.1 bt392.2).bind fun t396 => ((nat_Div.f k t396 l1_1).bind fun bt399 => ((quot_parted.f k bt399.1 40).bind fun bt406 => ((quot_upward.f k bt406.1 bt406.2.1 bt406.2.2 (decide ((bt399.2.1.length : Int) > 0))).bind fun t413 => (if t413 = true then ((nat_From.f k 1).bind fun t414 => ((nat_Add.f k bt406.1 t414).bind fun bt417 => ((quot_first_uint32.f bt417.1 bt417.2).bind fun t421 => ((dec_Settle.f k (a0_0 != a1_0) t421 (wrap64 ((wrap64 ((wrap64 (a0_2 - a1_2)) - (mx (wrap64 ((wrap64 ((wrap64 (t387 - t388)) + 40)) + 2)) 0))) + bt406.2.2))).bind fun bt424 => (some (bt424.1, bt424.2.1, bt424.2.2.1, bt424.2.2.2)))))) else ((dec_Settle.f k (a0_0 != a1_0) bt406.1 (wrap64 ((wrap64 ((wrap64 (a0_2 - a1_2)) - (mx (wrap64 ((wrap64 ((wrap64 (t387 - t388)) + 40)) + 2)) 0))) + bt406.2.2))).bind fun bt430 => (some (bt430.1, bt430.2.1, bt430.2.2.1, bt430.2.2.2))))))))))))) else (some (false, ([] : List Int), 0, t386)))
def quot_Div.T6 : Bool × List (List Nat × List Nat) := (true, [([], []), ([0], [0]), ([1], [1]), ([], []), ([3], [3]), ([4, 2], [4]), ([2, 5], [2, 5]), ([6], [6]), ([7], [7]), ([8], [8]), ([9, 5, 0, 1, 2, 3, 4, 5, 6, 7, 8, 9], [9])])
def quot_Div.B6 : List Nat := [0, 1, 3, 0, 8, 31, 63, 127, 255, 511, 1023]
theorem quot_Div.tab6 : rtab .any (opsOf Tryz.f19 6) = quot_Div.T6 := by kernel_rfl
theorem quot_Div.bits6 : waitsOk quot_Div.T6.2 quot_Div.B6 = true := by kernel_rfl
def quot_Div.T7 : Bool × List (List Nat × List Nat) := (true, [([], []), ([0], [0]), ([], []), ([2], [2]), ([1, 3, 3], [1, 3]), ([4], [4]), ([4], [4]), ([5, 6, 4], [5, 6]), ([], []), ([8], [8]), ([7, 9, 7], [7, 9]), ([10], [10]), ([11], [11]), ([11], [11]), ([11], [11]), ([12, 10, 0, 1, 2, 3, 4, 5, 6, 7, 8, 9, 10, 11, 12], [12]), ([13, 15, 0, 1, 2, 3, 4, 5, 6, 7, 8, 9, 10, 11, 12, 13, 15], [13]), ([14, 16, 0, 1, 2, 3, 4, 5, 6, 7, 8, 9, 10, 11, 12, 13, 14, 15, 16], [14])])
def quot_Div.B7 : List Nat := [0, 1, 0, 4, 15, 31, 31, 127, 0, 256, 1023, 2047, 4095, 4095, 4095, 8191, 49151, 131071]
theorem quot_Div.tab7 : rtab .any (opsOf Tryz.f19 7) = quot_Div.T7 := by kernel_rfl
theorem quot_Div.bits7 : waitsOk quot_Div.T7.2 quot_Div.B7 = true := by kernel_rfl
theorem quot_Div.leaf {P : Prop} (h : P := by
 go_enter Tryz.func19, Tryz.ntmps19
 try go_wp2_with (first | ((with_reducible refine gd 2 ?_); refine bx 2 #[.bool a0_0, .slice A0_1 l0_1.length c0_1, .int .i64 a0_2] 24 (h := ?_); intro gb0z hg w1z hbox hb; have BK2z := am hbox; have GW3z := gW hg; have GE4z := gW hg; replace HO0_1 := vE HO0_1 gb0z hg hb; replace HO1_1 := vE HO1_1 gb0z hg hb; replace HB := bS hb; clear hb hbox hg) | ((with_reducible refine gd 3 ?_); refine bx 3 #[.bool a1_0, .slice A1_1 l1_1.length c1_1, .int .i64 a1_2] 24 (h := ?_); intro gb5z hg w6z hbox hb; have BK7z := am hbox; have GW8z := gW hg; have GE9z := gW hg; have NB10z := nL hg BK2z; have NB11z := nG hg BK2z; replace HO0_1 := vE HO0_1 gb5z hg hb; replace HO1_1 := vE HO1_1 gb5z hg hb; replace BK2z := bb BK2z hb; replace HB := bS hb; clear hb hbox hg) | ((with_reducible refine gd 4 ?_); refine bx 4 #[.bool false, .slice none 0 0, .int .i64 0] 24 (h := ?_); intro gb12z hg w13z hbox hb; have BK14z := am hbox; have GW15z := gW hg; have GE16z := gW hg; have NB17z := nL hg BK2z; have NB18z := nG hg BK2z; have NB19z := nL hg BK7z; have NB20z := nG hg BK7z; replace HO0_1 := vE HO0_1 gb12z hg hb; replace HO1_1 := vE HO1_1 gb12z hg hb; replace BK2z := bb BK2z hb; replace BK7z := bb BK7z hb; replace HB := bS hb; clear hb hbox hg; have hnb21z := NB10z.out; have hnc22z := NB11z.out; have hnb23z := NB17z.out; have hnc24z := NB18z.out; obtain ⟨hcz25z, hcz26z, hcz27z, hfz28z, hfz29z, hfz30z⟩ := cEc BK2z.out; have hnb31z := NB19z.out; have hnc32z := NB20z.out; obtain ⟨hcz33z, hcz34z, hcz35z, hfz36z, hfz37z, hfz38z⟩ := cEc BK7z.out) | ((with_reducible refine gd 16 ?_); refine Kd.N_lit k24 _ 24 ?hg (N' := 16) ?hd (xs := ([(⟨a0_0, l0_1, a0_2⟩ : S24), (⟨a1_0, l1_1, a1_2⟩ : S24)] : List (S24))) (inner := [.bool a0_0, .slice A0_1 l0_1.length c0_1, .int .i64 a0_2, .bool a1_0, .slice A1_1 l1_1.length c1_1, .int .i64 a1_2]) (ok := (fun k_ => ((P0_1_ k_ \/ P1_1_ k_) \/ w.heap.size <= k_) /\ k_ ≠ gb0z /\ k_ ≠ gb5z /\ k_ ≠ gb12z)) (okp := (fun k_ => ((P0_1_ k_ \/ P1_1_ k_) \/ w.heap.size <= k_) /\ k_ ≠ gb0z /\ k_ ≠ gb5z /\ k_ ≠ gb12z)) ?hr ?hp (fun _ hk => hk) ((show ∀ k_, w13z.heap.size <= k_ -> (fun k_ => ((P0_1_ k_ \/ P1_1_ k_) \/ w.heap.size <= k_) /\ k_ ≠ gb0z /\ k_ ≠ gb5z /\ k_ ≠ gb12z) k_ from fun k_ hk => ⟨(.inr (Nat.le_trans (below_size pB) hk)), Kd.freshB (g := gb0z) (o := .cells #[.bool a0_0, .slice A0_1 l0_1.length c0_1, .int .i64 a0_2] 24 (0, 0)) (blk_below BK2z.out pl) k_ hk, Kd.freshB (g := gb5z) (o := .cells #[.bool a1_0, .slice A1_1 l1_1.length c1_1, .int .i64 a1_2] 24 (0, 0)) (blk_below BK7z.out pl) k_ hk, Kd.freshB (g := gb12z) (o := .cells #[.bool false, .slice none 0 0, .int .i64 0] 24 (0, 0)) (blk_below BK14z.out pl) k_ hk⟩) _ (Nat.le_refl _)) (Below.refl _ _) (Nat.le_refl _) (by simp) ?_; (case hd => rfl); (case hg => rfl); (case hr => first | (go_simp; done) | (go_simp; rfl)); (case hp => exact (Reps.c3 (show Kd.FK k24 _ _ (⟨a0_0, l0_1, a0_2⟩ : S24) [.bool a0_0, .slice A0_1 l0_1.length c0_1, .int .i64 a0_2] from (k24_mkF _ _ (⟨a0_0, l0_1, a0_2⟩ : S24) (Kd.V_reads' (Kd.V_mono (ok' := (fun k_ => ((P0_1_ k_ \/ P1_1_ k_) \/ w.heap.size <= k_) /\ k_ ≠ gb0z /\ k_ ≠ gb5z /\ k_ ≠ gb12z)) (HO0_1.out) (fun k_ hk => ⟨hk.1.1.1, ⟨hk.1.1.2, ⟨hk.1.2, hk.2⟩⟩⟩))).2.1 (Kd.V_F (Kd.V_mono (ok' := (fun k_ => ((P0_1_ k_ \/ P1_1_ k_) \/ w.heap.size <= k_) /\ k_ ≠ gb0z /\ k_ ≠ gb5z /\ k_ ≠ gb12z)) (HO0_1.out) (fun k_ hk => ⟨hk.1.1.1, ⟨hk.1.1.2, ⟨hk.1.2, hk.2⟩⟩⟩))))) (Reps.c3 (show Kd.FK k24 _ _ (⟨a1_0, l1_1, a1_2⟩ : S24) [.bool a1_0, .slice A1_1 l1_1.length c1_1, .int .i64 a1_2] from (k24_mkF _ _ (⟨a1_0, l1_1, a1_2⟩ : S24) (Kd.V_reads' (Kd.V_mono (ok' := (fun k_ => ((P0_1_ k_ \/ P1_1_ k_) \/ w.heap.size <= k_) /\ k_ ≠ gb0z /\ k_ ≠ gb5z /\ k_ ≠ gb12z)) (HO1_1.out) (fun k_ hk => ⟨hk.1.1.1, ⟨hk.1.1.2, ⟨hk.1.2, hk.2⟩⟩⟩))).2.1 (Kd.V_F (Kd.V_mono (ok' := (fun k_ => ((P0_1_ k_ \/ P1_1_ k_) \/ w.heap.size <= k_) /\ k_ ≠ gb0z /\ k_ ≠ gb5z /\ k_ ≠ gb12z)) (HO1_1.out) (fun k_ hk => ⟨hk.1.1.1, ⟨hk.1.1.2, ⟨hk.1.2, hk.2⟩⟩⟩))))) (Reps.none _ _)))); intro v39z w40z ho41z hb hg_ hnew_; clear hg_ hnew_; (first | rw [<- Ny383.out] at ho41z | (simp only [Int.reduceToNat] at ho41z; rw [<- Ny383.out] at ho41z)); replace HO0_1 := am (Kd.V_elder' (Kd.V_below HO0_1.out pl) (Kd.N_base ho41z) hb); replace HO1_1 := am (Kd.V_elder' (Kd.V_below HO1_1.out pl) (Kd.N_base ho41z) hb); have HO42z := am (Kd.N_lower ho41z (below_size pB)); replace BK2z := bb BK2z hb; replace BK7z := bb BK7z hb; replace BK14z := bb BK14z hb; replace HB := bS hb; clear hb ho41z; obtain ⟨Ao43z, co44z, eo45z⟩ := Kd.N_slice HO42z.out; subst eo45z) | ((have q_ : ((l1_1.length : Int) != 0) = false := c5b1; clear q_); refine gL (some 17) Tryz.func67 #[.slice Ao43z y383.length co44z] (h := ?_); (with_reducible refine (quot_ask.calls k _ _ y383 t386 _ ?side1 ?side2 A3.out).mono ?_); (case side1 => exact Kd.C_below (Kd.N_reads' HO42z.out).2.2 pl); (case side2 => exact (Kd.N_reads' HO42z.out).2.1); rintro e w46z ⟨rfl, hb⟩; refine ⟨_, rfl, ?_⟩; replace HO0_1 := vbl HO0_1 hb; replace HO1_1 := vbl HO1_1 hb; replace HO42z := nbl HO42z hb; replace BK2z := bb BK2z hb; replace BK7z := bb BK7z hb; replace BK14z := bb BK14z hb; replace HB := bS hb; obtain ⟨hcz47z, hcz48z, hcz49z, hfz50z, hfz51z, hfz52z⟩ := cEc BK7z.out; obtain ⟨hcz53z, hcz54z, hcz55z, hfz56z, hfz57z, hfz58z⟩ := cEc BK14z.out) | ((have q_ := A28; clear q_); refine gL (some 17) Tryz.func67 #[.slice Ao43z y383.length co44z] (h := ?_); (with_reducible refine (quot_ask.calls k _ _ y383 t386 _ ?side1 ?side2 A3.out).mono ?_); (case side1 => exact Kd.C_below (Kd.N_reads' HO42z.out).2.2 pl); (case side2 => exact (Kd.N_reads' HO42z.out).2.1); rintro e w46z ⟨rfl, hb⟩; refine ⟨_, rfl, ?_⟩; replace HO0_1 := vbl HO0_1 hb; replace HO1_1 := vbl HO1_1 hb; replace HO42z := nbl HO42z hb; replace BK2z := bb BK2z hb; replace BK7z := bb BK7z hb; replace BK14z := bb BK14z hb; replace HB := bS hb; obtain ⟨hcz47z, hcz48z, hcz49z, hfz50z, hfz51z, hfz52z⟩ := cEc BK7z.out) | ((have q_ : (t386 != 0) = true := c4b1; clear q_); refine gL (some 17) Tryz.func67 #[.slice Ao43z y383.length co44z] (h := ?_); (with_reducible refine (quot_ask.calls k _ _ y383 t386 _ ?side1 ?side2 A3.out).mono ?_); (case side1 => exact Kd.C_below (Kd.N_reads' HO42z.out).2.2 pl); (case side2 => exact (Kd.N_reads' HO42z.out).2.1); rintro e w46z ⟨rfl, hb⟩; refine ⟨_, rfl, ?_⟩; replace HO0_1 := vbl HO0_1 hb; replace HO1_1 := vbl HO1_1 hb; replace HO42z := nbl HO42z hb; replace BK2z := bb BK2z hb; replace BK7z := bb BK7z hb; replace BK14z := bb BK14z hb; replace HB := bS hb; obtain ⟨hcz47z, hcz48z, hcz49z, hfz50z, hfz51z, hfz52z⟩ := cEc BK14z.out))
 first
  | have q_ := A28
    replace HO0_1 := am (Kd.V_drew HO0_1.out)
    replace HO1_1 := am (Kd.V_drew HO1_1.out)
    replace HO42z := am (Kd.N_drew HO42z.out)
    replace BK2z := am (blk_drew BK2z.out)
    replace BK7z := am (blk_drew BK7z.out)
    replace BK14z := am (blk_drew BK14z.out)
    replace HB := am (below_drew1 HB.out)
    refine start_ (n := 11) (S := fun w' => w'.cell? ⟨gb5z, 0, none⟩ = some (.bool a1_0) /\ w'.cell? ⟨gb5z, 1, none⟩ = some (.slice A1_1 l1_1.length c1_1) /\ w'.cell? ⟨gb5z, 2, none⟩ = some (.int .i64 a1_2) /\ w'.cell? ⟨gb0z, 0, none⟩ = some (.bool a0_0) /\ w'.cell? ⟨gb0z, 1, none⟩ = some (.slice A0_1 l0_1.length c0_1) /\ w'.cell? ⟨gb0z, 2, none⟩ = some (.int .i64 a0_2)) (ds := []) #[false, false, false, false, false, false, false, false, false, false, false] (by kernel_rfl) rfl rfl ⟨k0 BK7z 0, k0 BK7z 1, k0 BK7z 2, k0 BK2z 0, k0 BK2z 1, k0 BK2z 2⟩ (fun hHeld => ?_); refine with_tabW quot_Div.tab6 quot_Div.bits6 (fun HT_ HW_ => ?_)
    generalize w46z.drew = w53z at HO0_1 HO1_1 HO42z BK2z BK7z BK14z HB hHeld ⊢
    refine pu 0 (some 27) #[true, false, false, false, false, false, false, false, false, false, false] (h := ?_)
    refine pu 3 (some 30) #[true, false, false, true, false, false, false, false, false, false, false] (h := ?_)
    refine take_ (i := 1) (N := some 28) (v := ?_) (a' := ?_) #[true, true, false, true, false, false, false, false, false, false, false] rfl rfl (take_ofW HT_.out HW_.out (by kernel_rfl)) (fun _ _ _ h => h) (Or.inl ⟨by rfl, ?_⟩) hHeld ?_ ?_
    rotate_left
    ·rintro w' ⟨s54z, s55z, s56z, s57z, s58z, s59z⟩
     go_simp
     with_reducible rfl
    rotate_left
    ·exact pP
    refine take_ (i := 4) (N := some 31) (v := ?_) (a' := ?_) #[true, true, false, true, true, false, false, false, false, false, false] rfl rfl (take_ofW HT_.out HW_.out (by kernel_rfl)) (fun _ _ _ h => h) (Or.inl ⟨by rfl, ?_⟩) hHeld ?_ ?_
    rotate_left
    ·rintro w' ⟨s54z, s55z, s56z, s57z, s58z, s59z⟩
     go_simp
     with_reducible rfl
    rotate_left
    ·exact pP
    refine one_ (i := 2) (N := some 29) #[true, true, true, true, true, false, false, false, false, false, false] rfl rfl (one_of HT_.out (by kernel_rfl)) (by decide) (fun K hK => ?_)
    refine goes_ Tryz.func68 (by kernel_rfl) rfl #[.slice A1_1 l1_1.length c1_1] (by rfl) rfl rfl pA ?_
    with_reducible refine (quot_digits.calls k _ _ l1_1 t387 _ ?side1 ?side2 A20.out).mono ?_
    (case side1 => exact Kd.C_below (Kd.V_reads' HO1_1.out).2.2 pl)
    (case side2 => exact (Kd.V_reads' HO1_1.out).2.1)
    rintro e w60z ⟨rfl, hb⟩
    refine ⟨_, rfl, ?_⟩
    replace HO0_1 := vbl HO0_1 hb
    replace HO1_1 := vbl HO1_1 hb
    replace HO42z := nbl HO42z hb
    replace BK2z := bb BK2z hb
    replace BK7z := bb BK7z hb
    replace BK14z := bb BK14z hb
    replace HB := bS hb
    refine hK.out _ _ ⟨k0 BK7z 0, k0 BK7z 1, k0 BK7z 2, k0 BK2z 0, k0 BK2z 1, k0 BK2z 2⟩ (fun hHeld => ?_)
    clear hK K
    refine norm_ (a' := ?_) ?_ ?_
    rotate_left
    ·show Act.put _ (some 29) _ = _
     exact pP
    refine one_ (i := 5) (N := some 32) #[true, true, true, true, true, true, false, false, false, false, false] rfl rfl (one_of HT_.out (by kernel_rfl)) (by decide) (fun K hK => ?_)
    refine goes_ Tryz.func68 (by kernel_rfl) rfl #[.slice A0_1 l0_1.length c0_1] (by rfl) rfl rfl pA ?_
    with_reducible refine (quot_digits.calls k _ _ l0_1 t388 _ ?side1 ?side2 A21.out).mono ?_
    (case side1 => exact Kd.C_below (Kd.V_reads' HO0_1.out).2.2 pl)
    (case side2 => exact (Kd.V_reads' HO0_1.out).2.1)
    rintro e w61z ⟨rfl, hb⟩
    refine ⟨_, rfl, ?_⟩
    replace HO0_1 := vbl HO0_1 hb
    replace HO1_1 := vbl HO1_1 hb
    replace HO42z := nbl HO42z hb
    replace BK2z := bb BK2z hb
    replace BK7z := bb BK7z hb
    replace BK14z := bb BK14z hb
    replace HB := bS hb
    refine hK.out _ _ ⟨k0 BK7z 0, k0 BK7z 1, k0 BK7z 2, k0 BK2z 0, k0 BK2z 1, k0 BK2z 2⟩ (fun hHeld => ?_)
    clear hK K
    refine norm_ (a' := ?_) ?_ ?_
    rotate_left
    ·show Act.put _ (some 32) _ = _
     exact pP
    refine pu 6 (some 33) #[true, true, true, true, true, true, true, false, false, false, false] (h := ?_)
    refine pu 7 (some 34) #[true, true, true, true, true, true, true, true, false, false, false] (h := ?_)
    refine pu 8 (some 35) #[true, true, true, true, true, true, true, true, true, false, false] (h := ?_)
    refine pu 9 (some 36) #[true, true, true, true, true, true, true, true, true, true, false] (h := ?_)
    refine pu 10 (some 7) #[true, true, true, true, true, true, true, true, true, true, true] (h := ?_)
    refine done_ (done_of HT_.out (by kernel_rfl)) ?_
    try go_wp2
    replace HO0_1 := am (Kd.V_drew HO0_1.out)
    replace HO1_1 := am (Kd.V_drew HO1_1.out)
    replace HO42z := am (Kd.N_drew HO42z.out)
    replace BK2z := am (blk_drew BK2z.out)
    replace BK7z := am (blk_drew BK7z.out)
    replace BK14z := am (blk_drew BK14z.out)
    replace HB := am (below_drew1 HB.out)
    refine start_ (n := 18) (S := fun w' => w'.cell? ⟨gb0z, 0, none⟩ = some (.bool a0_0) /\ w'.cell? ⟨gb0z, 1, none⟩ = some (.slice A0_1 l0_1.length c0_1) /\ w'.cell? ⟨gb0z, 2, none⟩ = some (.int .i64 a0_2) /\ w'.cell? ⟨gb5z, 0, none⟩ = some (.bool a1_0) /\ w'.cell? ⟨gb5z, 1, none⟩ = some (.slice A1_1 l1_1.length c1_1) /\ w'.cell? ⟨gb5z, 2, none⟩ = some (.int .i64 a1_2)) (ds := []) #[false, false, false, false, false, false, false, false, false, false, false, false, false, false, false, false, false, false] (by kernel_rfl) rfl rfl ⟨k0 BK2z 0, k0 BK2z 1, k0 BK2z 2, k0 BK7z 0, k0 BK7z 1, k0 BK7z 2⟩ (fun hHeld => ?_); refine with_tabW quot_Div.tab7 quot_Div.bits7 (fun HT_ HW_ => ?_)
    generalize w61z.drew = w62z at HO0_1 HO1_1 HO42z BK2z BK7z BK14z HB hHeld ⊢
    refine pu 0 (some 38) #[true, false, false, false, false, false, false, false, false, false, false, false, false, false, false, false, false, false] (h := ?_)
    refine pu 2 (some 40) #[true, false, true, false, false, false, false, false, false, false, false, false, false, false, false, false, false, false] (h := ?_)
    refine pu 8 (some 46) #[true, false, true, false, false, false, false, false, true, false, false, false, false, false, false, false, false, false] (h := ?_)
    refine take_ (i := 1) (N := some 39) (v := ?_) (a' := ?_) #[true, true, true, false, false, false, false, false, true, false, false, false, false, false, false, false, false, false] rfl rfl (take_ofW HT_.out HW_.out (by kernel_rfl)) (fun _ _ _ h => h) (Or.inl ⟨by rfl, ?_⟩) hHeld ?_ ?_
    rotate_left
    ·rintro w' ⟨s54z, s55z, s56z, s57z, s58z, s59z⟩
     go_simp
     with_reducible rfl
    rotate_left
    ·exact pP
    refine take_ (i := 9) (N := some 47) (v := ?_) (a' := ?_) #[true, true, true, false, false, false, false, false, true, true, false, false, false, false, false, false, false, false] rfl rfl (take_ofW HT_.out HW_.out (by kernel_rfl)) (fun _ _ _ h => h) (Or.inl ⟨by rfl, ?_⟩) hHeld ?_ ?_
    rotate_left
    ·rintro w' ⟨s54z, s55z, s56z, s57z, s58z, s59z⟩
     go_simp
     with_reducible rfl
    rotate_left
    ·exact pP
    refine one_ (i := 3) (N := some 41) #[true, true, true, true, false, false, false, false, true, true, false, false, false, false, false, false, false, false] rfl rfl (one_of HT_.out (by kernel_rfl)) (by decide) (fun K hK => ?_)
    refine goes_ Tryz.func72 (by kernel_rfl) rfl #[.int .i64 ji22] (by rfl) rfl rfl (by (try simp only [List.map_toArray, List.map_cons, List.map_nil]); first | done | (simp only [hji22]; rfl) | rfl | (simp only [List.length_drop, List.length_take]; rfl)) ?_
    with_reducible refine (quot_pow.calls k ji22 t389 _ A23.out).mono ?_
    rintro e w63z ⟨v64z, rfl, ho65z, hb⟩
    refine ⟨_, rfl, ?_⟩
    replace HO0_1 := am (Kd.V_elder' (Kd.V_below HO0_1.out pl) (Kd.R_base ho65z) hb)
    replace HO1_1 := am (Kd.V_elder' (Kd.V_below HO1_1.out pl) (Kd.R_base ho65z) hb)
    replace HO42z := am (Kd.N_elder' (Kd.N_below HO42z.out pl) (Kd.R_base ho65z) hb)
    have HO66z := am (Kd.R_lower (Kd.R_newM (M := fun k_ => (w.heap.size <= k_)) ho65z (below_size pB) (fun k_ h_ => h_)) (below_size pB))
    replace BK2z := bb BK2z hb
    replace BK7z := bb BK7z hb
    replace BK14z := bb BK14z hb
    replace HB := bS hb
    obtain ⟨Ao67z, co68z, eo69z⟩ := Kd.R_slice HO66z.out
    (first | subst eo69z | (injection eo69z with f1_ f2_ f3_; have f4_ := f1_.symm; have f5_ := f3_.symm; clear f1_ f2_ f3_; subst f4_; subst f5_))
    refine hK.out _ _ ⟨k0 BK2z 0, k0 BK2z 1, k0 BK2z 2, k0 BK7z 0, k0 BK7z 1, k0 BK7z 2⟩ (fun hHeld => ?_)
    clear hK K
    refine norm_ (a' := ?_) ?_ ?_
    rotate_left
    ·show Act.put _ (some 41) _ = _
     exact pP
    refine one_ (i := 4) (N := some 42) #[true, true, true, true, true, false, false, false, true, true, false, false, false, false, false, false, false, false] rfl rfl (one_of HT_.out (by kernel_rfl)) (by decide) (fun K hK => ?_)
    refine goes_ Tryz.func71 (by kernel_rfl) rfl #[.slice A0_1 l0_1.length c0_1, .slice Ao67z t389.length co68z] (by rfl) rfl rfl pA ?_
    with_reducible refine (nat_Mul.calls k _ _ l0_1 _ _ t389 t392 t393 _ ?side1 ?side2 ?side3 ?side4 A24.out).mono ?_
    (case side1 => exact Kd.C_below (Kd.V_reads' HO0_1.out).2.2 pl)
    (case side2 => exact (Kd.V_reads' HO0_1.out).2.1)
    (case side3 => exact Kd.C_below (Kd.R_reads' HO66z.out).2.2 pl)
    (case side4 => exact (Kd.R_reads' HO66z.out).2.1)
    rintro e w70z ⟨v71z, rfl, ho65z, hb⟩
    refine ⟨_, rfl, ?_⟩
    have HO72z := am (Kd.R_lower (Kd.R_new' (Kd.R_newM (M := fun k_ => (w.heap.size <= k_)) ho65z (below_size pB) (fun k_ h_ => h_)) (Kd.R_lt (Kd.R_below HO66z.out pl))) (below_size pB))
    replace HO0_1 := am (Kd.V_elder' (Kd.V_below HO0_1.out pl) (Kd.R_base ho65z) hb)
    replace HO1_1 := am (Kd.V_elder' (Kd.V_below HO1_1.out pl) (Kd.R_base ho65z) hb)
    replace HO42z := am (Kd.N_elder' (Kd.N_below HO42z.out pl) (Kd.R_base ho65z) hb)
    replace HO66z := reR HO66z ho65z hb
    replace BK2z := bb BK2z hb
    replace BK7z := bb BK7z hb
    replace BK14z := bb BK14z hb
    replace HB := bS hb
    obtain ⟨Ao73z, co74z, eo75z⟩ := Kd.R_slice HO72z.out
    (first | subst eo75z | (injection eo75z with f1_ f2_ f3_; have f4_ := f1_.symm; have f5_ := f3_.symm; clear f1_ f2_ f3_; subst f4_; subst f5_))
    refine hK.out _ _ ⟨k0 BK2z 0, k0 BK2z 1, k0 BK2z 2, k0 BK7z 0, k0 BK7z 1, k0 BK7z 2⟩ (fun hHeld => ?_)
    clear hK K
    refine norm_ (a' := ?_) ?_ ?_
    rotate_left
    ·show Act.put _ (some 42) _ = _
     exact pP
    refine pu 5 (some 43) #[true, true, true, true, true, true, false, false, true, true, false, false, false, false, false, false, false, false] (h := ?_)
    refine pu 6 (some 44) #[true, true, true, true, true, true, true, false, true, true, false, false, false, false, false, false, false, false] (h := ?_)
    refine one_ (i := 7) (N := some 45) #[true, true, true, true, true, true, true, true, true, true, false, false, false, false, false, false, false, false] rfl rfl (one_of HT_.out (by kernel_rfl)) (by decide) (fun K hK => ?_)
    refine goes_ Tryz.func70 (by kernel_rfl) rfl #[.slice Ao73z t392.length co74z, .int .i64 t393] (by rfl) rfl rfl pA ?_
    with_reducible refine (quot_first_uint32.calls (fun k_ => some k_ = (.slice Ao73z t392.length co74z : Value).ownBlock) (.slice Ao73z t392.length co74z) t392 t393 t396 w _ ?side1 ?side2 A25.out).mono ?_
    (case side1 => exact pB)
    (case side2 => exact Kd.R_tight rfl HO72z.out)
    rintro e w76z ⟨v77z, rfl, ho65z, hb, hkp⟩
    refine ⟨_, rfl, ?_⟩
    have HO78z := am (Kd.R_mono (ok' := fun k_ => (w.heap.size <= k_) /\ some k_ ≠ (.slice Ao67z t389.length co68z : Value).ownBlock) ho65z (fun k_ hk_ => ⟨Or.elim hk_ (fun hs_ => (HO72z.out.1 k_ (hs_).symm).1.1) (fun hn_ => (Nat.le_trans (below_size pB) hn_)), Or.elim hk_ (fun hs_ => fun e_ => (((HO66z.out).1 k_ e_.symm).2) hs_) (fun hn_ => (Kd.fresh' (Kd.R_lt (Kd.R_below HO66z.out pl)) k_ hn_))⟩))
    replace HO0_1 := am (Kd.V_mono (ok' := fun k_ => ((P0_1_ k_ \/ P1_1_ k_) \/ w.heap.size <= k_) /\ some k_ ≠ (.slice Ao43z y383.length co44z : Value).ownBlock /\ some k_ ≠ (.slice Ao67z t389.length co68z : Value).ownBlock /\ k_ ≠ gb0z /\ k_ ≠ gb5z /\ k_ ≠ gb12z /\ some k_ ≠ (v77z : Value).ownBlock) (Kd.V_keptB (HO0_1.out) hkp (fun k_ hk_ hs_ => (hk_.2) hs_)) (fun k_ hk_ => ⟨hk_.1.1.1.1.1.1.1, hk_.1.1.1.2, hk_.1.1.2, hk_.1.1.1.1.1.1.2, hk_.1.1.1.1.1.2, hk_.1.1.1.1.2, fun e_ => Or.elim (ho65z.1 k_ e_.symm) (fun hs_ => hk_.2.1 hs_) (fun hn_ => Nat.not_le.2 hk_.2.2 hn_)⟩))
    replace HO1_1 := am (Kd.V_mono (ok' := fun k_ => ((P0_1_ k_ \/ P1_1_ k_) \/ w.heap.size <= k_) /\ some k_ ≠ (.slice Ao43z y383.length co44z : Value).ownBlock /\ some k_ ≠ (.slice Ao67z t389.length co68z : Value).ownBlock /\ k_ ≠ gb0z /\ k_ ≠ gb5z /\ k_ ≠ gb12z /\ some k_ ≠ (v77z : Value).ownBlock) (Kd.V_keptB (HO1_1.out) hkp (fun k_ hk_ hs_ => (hk_.2) hs_)) (fun k_ hk_ => ⟨hk_.1.1.1.1.1.1.1, hk_.1.1.1.2, hk_.1.1.2, hk_.1.1.1.1.1.1.2, hk_.1.1.1.1.1.2, hk_.1.1.1.1.2, fun e_ => Or.elim (ho65z.1 k_ e_.symm) (fun hs_ => hk_.2.1 hs_) (fun hn_ => Nat.not_le.2 hk_.2.2 hn_)⟩))
    replace BK2z := am (blk_kept (blk_below BK2z.out pl) hkp (fun e_ => Kd.R_ne HO72z.out BK2z.out (by decide) e_))
    replace BK7z := am (blk_kept (blk_below BK7z.out pl) hkp (fun e_ => Kd.R_ne HO72z.out BK7z.out (by decide) e_))
    replace BK14z := am (blk_kept (blk_below BK14z.out pl) hkp (fun e_ => Kd.R_ne HO72z.out BK14z.out (by decide) e_))
    replace HO42z := am (Kd.N_mono (ok' := fun k_ => ((P0_1_ k_ \/ P1_1_ k_) \/ w.heap.size <= k_) /\ some k_ ≠ (.slice Ao67z t389.length co68z : Value).ownBlock /\ k_ ≠ gb0z /\ k_ ≠ gb5z /\ k_ ≠ gb12z /\ some k_ ≠ (v77z : Value).ownBlock) (Kd.N_keptB (HO42z.out) hkp (fun k_ hk_ hs_ => (hk_.2) hs_)) (fun k_ hk_ => ⟨hk_.1.1.1.1, hk_.1.1.2, hk_.1.1.1.2.1, hk_.1.1.1.2.2.1, hk_.1.1.1.2.2.2, fun e_ => Or.elim (ho65z.1 k_ e_.symm) (fun hs_ => hk_.2.1 hs_) (fun hn_ => Nat.not_le.2 hk_.2.2 hn_)⟩))
    replace HO66z := am (Kd.R_mono (ok' := fun k_ => (w.heap.size <= k_) /\ some k_ ≠ (v77z : Value).ownBlock) (Kd.R_keptB (HO66z.out) hkp (fun k_ hk_ hs_ => (hk_.2) hs_)) (fun k_ hk_ => ⟨hk_.1.1.1, fun e_ => Or.elim (ho65z.1 k_ e_.symm) (fun hs_ => hk_.2.1 hs_) (fun hn_ => Nat.not_le.2 hk_.2.2 hn_)⟩))
    replace HB := am hb
    clear HO72z
    obtain ⟨Ao79z, co80z, eo81z⟩ := Kd.R_slice HO78z.out
    (first | subst eo81z | (injection eo81z with f1_ f2_ f3_; have f4_ := f1_.symm; have f5_ := f3_.symm; clear f1_ f2_ f3_; subst f4_; subst f5_))
    refine hK.out _ _ ⟨k0 BK2z 0, k0 BK2z 1, k0 BK2z 2, k0 BK7z 0, k0 BK7z 1, k0 BK7z 2⟩ (fun hHeld => ?_)
    clear hK K
    refine norm_ (a' := ?_) ?_ ?_
    rotate_left
    ·show Act.put _ (some 45) _ = _
     exact pP
    refine one_ (i := 10) (N := some 48) #[true, true, true, true, true, true, true, true, true, true, true, false, false, false, false, false, false, false] rfl rfl (one_of HT_.out (by kernel_rfl)) (by decide) (fun K hK => ?_)
    refine goes_ Tryz.func69 (by kernel_rfl) rfl #[.slice Ao79z t396.length co80z, .slice A1_1 l1_1.length c1_1] (by rfl) rfl rfl pA ?_
    with_reducible refine (nat_Div.calls k _ _ t396 _ _ l1_1 t399 t400 t401 _ ?side1 ?side2 ?side3 ?side4 A26.out).mono ?_
    (case side1 => exact Kd.C_below (Kd.R_reads' HO78z.out).2.2 pl)
    (case side2 => exact (Kd.R_reads' HO78z.out).2.1)
    (case side3 => exact Kd.C_below (Kd.V_reads' HO1_1.out).2.2 pl)
    (case side4 => exact (Kd.V_reads' HO1_1.out).2.1)
    rintro e w82z ⟨v83z, v84z, rfl, ho65z, ho85z, hb⟩
    refine ⟨_, rfl, ?_⟩
    have HO86z := am (Kd.R_lower (Kd.R_new' (Kd.R_new' (Kd.R_newM (M := fun k_ => (w.heap.size <= k_)) ho65z (below_size pB) (fun k_ h_ => h_)) (Kd.R_lt (Kd.R_below HO66z.out pl))) (Kd.R_lt (Kd.R_below HO78z.out pl))) (below_size pB))
    have HO87z := am (Kd.R_lower (Kd.R_new' (Kd.R_new' (Kd.R_newM (M := fun k_ => (w.heap.size <= k_)) ho85z (below_size pB) (fun k_ h_ => h_)) (Kd.R_lt (Kd.R_below HO66z.out pl))) (Kd.R_lt (Kd.R_below HO78z.out pl))) (below_size pB))
    replace HO0_1 := am (Kd.V_mono (Kd.V_told (Kd.V_told (Kd.V_old (Kd.V_below HO0_1.out pl) hb) (Kd.R_base ho65z)) (Kd.R_base ho85z)) (fun _ h_ => h_.1))
    replace HO1_1 := am (Kd.V_mono (Kd.V_told (Kd.V_told (Kd.V_old (Kd.V_below HO1_1.out pl) hb) (Kd.R_base ho65z)) (Kd.R_base ho85z)) (fun _ h_ => h_.1))
    replace HO42z := am (Kd.N_mono (Kd.N_told (Kd.N_told (Kd.N_old (Kd.N_below HO42z.out pl) hb) (Kd.R_base ho65z)) (Kd.R_base ho85z)) (fun _ h_ => h_.1))
    replace HO66z := am (Kd.R_mono (Kd.R_told (Kd.R_told (Kd.R_old (Kd.R_below HO66z.out pl) hb) (Kd.R_base ho65z)) (Kd.R_base ho85z)) (fun _ h_ => h_.1))
    replace HO78z := am (Kd.R_mono (Kd.R_told (Kd.R_told (Kd.R_old (Kd.R_below HO78z.out pl) hb) (Kd.R_base ho65z)) (Kd.R_base ho85z)) (fun _ h_ => h_.1))
    replace BK2z := bb BK2z hb
    replace BK7z := bb BK7z hb
    replace BK14z := bb BK14z hb
    replace HB := bS hb
    refine hK.out _ _ ⟨k0 BK2z 0, k0 BK2z 1, k0 BK2z 2, k0 BK7z 0, k0 BK7z 1, k0 BK7z 2⟩ (fun hHeld => ?_)
    clear hK K
    refine norm_ (a' := ?_) ?_ ?_
    rotate_left
    ·show Act.put _ (some 48) _ = _
     exact pP
    refine pu 11 (some 37) #[true, true, true, true, true, true, true, true, true, true, true, true, false, false, false, false, false, false] (h := ?_)
    refine pu 12 (some 49) #[true, true, true, true, true, true, true, true, true, true, true, true, true, false, false, false, false, false] (h := ?_)
    refine pu 13 (some 50) #[true, true, true, true, true, true, true, true, true, true, true, true, true, true, false, false, false, false] (h := ?_)
    refine pu 14 (some 51) #[true, true, true, true, true, true, true, true, true, true, true, true, true, true, true, false, false, false] (h := ?_)
    refine pu 15 (some 8) #[true, true, true, true, true, true, true, true, true, true, true, true, true, true, true, true, false, false] (h := ?_)
    refine pu 16 (some 9) #[true, true, true, true, true, true, true, true, true, true, true, true, true, true, true, true, true, false] (h := ?_)
    refine pu 17 (some 10) #[true, true, true, true, true, true, true, true, true, true, true, true, true, true, true, true, true, true] (h := ?_)
    refine done_ (done_of HT_.out (by kernel_rfl)) ?_
    obtain ⟨Ao88z, co89z, eo90z⟩ := Kd.R_slice HO86z.out
    subst eo90z
    try go_wp2_with (first | (refine gL (some 54) Tryz.func73 #[.slice Ao88z t399.length co89z, .int .i64 40] (h := ?_); (with_reducible refine (quot_parted.calls k _ _ t399 40 t406 t407 t408 _ ?side1 ?side2 A27.out).mono ?_); (case side1 => exact Kd.C_below (Kd.R_reads' HO86z.out).2.2 pl); (case side2 => exact (Kd.R_reads' HO86z.out).2.1); rintro e w91z ⟨v92z, v93z, rfl, ho65z, ho85z, hb⟩; refine ⟨_, rfl, ?_⟩; have HO94z := am (Kd.R_lower (Kd.R_new' (Kd.R_new' (Kd.R_new' (Kd.R_new' (Kd.R_newM (M := fun k_ => (w.heap.size <= k_)) ho65z (below_size pB) (fun k_ h_ => h_)) (Kd.R_lt (Kd.R_below HO66z.out pl))) (Kd.R_lt (Kd.R_below HO78z.out pl))) (Kd.R_lt (Kd.R_below HO86z.out pl))) (Kd.R_lt (Kd.R_below HO87z.out pl))) (below_size pB)); have HO95z := am (Kd.R_lower (Kd.R_new' (Kd.R_new' (Kd.R_new' (Kd.R_new' (Kd.R_newM (M := fun k_ => (w.heap.size <= k_)) ho85z (below_size pB) (fun k_ h_ => h_)) (Kd.R_lt (Kd.R_below HO66z.out pl))) (Kd.R_lt (Kd.R_below HO78z.out pl))) (Kd.R_lt (Kd.R_below HO86z.out pl))) (Kd.R_lt (Kd.R_below HO87z.out pl))) (below_size pB)); replace HO0_1 := am (Kd.V_mono (Kd.V_told (Kd.V_told (Kd.V_old (Kd.V_below HO0_1.out pl) hb) (Kd.R_base ho65z)) (Kd.R_base ho85z)) (fun _ h_ => h_.1)); replace HO1_1 := am (Kd.V_mono (Kd.V_told (Kd.V_told (Kd.V_old (Kd.V_below HO1_1.out pl) hb) (Kd.R_base ho65z)) (Kd.R_base ho85z)) (fun _ h_ => h_.1)); replace HO42z := am (Kd.N_mono (Kd.N_told (Kd.N_told (Kd.N_old (Kd.N_below HO42z.out pl) hb) (Kd.R_base ho65z)) (Kd.R_base ho85z)) (fun _ h_ => h_.1)); replace HO66z := am (Kd.R_mono (Kd.R_told (Kd.R_told (Kd.R_old (Kd.R_below HO66z.out pl) hb) (Kd.R_base ho65z)) (Kd.R_base ho85z)) (fun _ h_ => h_.1)); replace HO78z := am (Kd.R_mono (Kd.R_told (Kd.R_told (Kd.R_old (Kd.R_below HO78z.out pl) hb) (Kd.R_base ho65z)) (Kd.R_base ho85z)) (fun _ h_ => h_.1)); replace HO86z := am (Kd.R_mono (Kd.R_told (Kd.R_told (Kd.R_old (Kd.R_below HO86z.out pl) hb) (Kd.R_base ho65z)) (Kd.R_base ho85z)) (fun _ h_ => h_.1)); replace HO87z := am (Kd.R_mono (Kd.R_told (Kd.R_told (Kd.R_old (Kd.R_below HO87z.out pl) hb) (Kd.R_base ho65z)) (Kd.R_base ho85z)) (fun _ h_ => h_.1)); replace BK2z := bb BK2z hb; replace BK7z := bb BK7z hb; replace BK14z := bb BK14z hb; replace HB := bS hb; obtain ⟨Ao96z, co97z, eo98z⟩ := Kd.R_slice HO87z.out; subst eo98z; obtain ⟨Ao99z, co100z, eo101z⟩ := Kd.R_slice HO94z.out; subst eo101z; obtain ⟨Ao102z, co103z, eo104z⟩ := Kd.R_slice HO95z.out; subst eo104z) | (refine gL (some 64) Tryz.func74 #[.slice Ao99z t406.length co100z, .slice Ao102z t407.length co103z, .int .i64 t408, .bool (decide (0 < t400.length))] (h := ?_); (with_reducible refine (quot_upward.calls k _ _ t406 _ _ t407 t408 (decide (0 < t400.length)) true _ ?side1 ?side2 ?side3 ?side4 A28.out).mono ?_); (case side1 => exact Kd.C_below (Kd.R_reads' HO94z.out).2.2 pl); (case side2 => exact (Kd.R_reads' HO94z.out).2.1); (case side3 => exact Kd.C_below (Kd.R_reads' HO95z.out).2.2 pl); (case side4 => exact (Kd.R_reads' HO95z.out).2.1); rintro e w105z ⟨rfl, hb⟩; refine ⟨_, rfl, ?_⟩; replace HO0_1 := vbl HO0_1 hb; replace HO1_1 := vbl HO1_1 hb; replace HO42z := nbl HO42z hb; replace HO66z := rbl HO66z hb; replace HO78z := rbl HO78z hb; replace HO86z := rbl HO86z hb; replace HO87z := rbl HO87z hb; replace HO94z := rbl HO94z hb; replace HO95z := rbl HO95z hb; replace BK2z := bb BK2z hb; replace BK7z := bb BK7z hb; replace BK14z := bb BK14z hb; replace HB := bS hb) | (refine gL (some 66) Tryz.func76 #[.int .u64 1] (h := ?_); (with_reducible refine (nat_From.calls k 1 t414 _ A30.out).mono ?_); rintro e w106z ⟨v107z, rfl, ho65z, hb⟩; refine ⟨_, rfl, ?_⟩; have HO108z := am (Kd.R_lower (Kd.R_new' (Kd.R_new' (Kd.R_new' (Kd.R_new' (Kd.R_new' (Kd.R_new' (Kd.R_newM (M := fun k_ => (w.heap.size <= k_)) ho65z (below_size pB) (fun k_ h_ => h_)) (Kd.R_lt (Kd.R_below HO66z.out pl))) (Kd.R_lt (Kd.R_below HO78z.out pl))) (Kd.R_lt (Kd.R_below HO86z.out pl))) (Kd.R_lt (Kd.R_below HO87z.out pl))) (Kd.R_lt (Kd.R_below HO94z.out pl))) (Kd.R_lt (Kd.R_below HO95z.out pl))) (below_size pB)); replace HO0_1 := am (Kd.V_elder' (Kd.V_below HO0_1.out pl) (Kd.R_base ho65z) hb); replace HO1_1 := am (Kd.V_elder' (Kd.V_below HO1_1.out pl) (Kd.R_base ho65z) hb); replace HO42z := am (Kd.N_elder' (Kd.N_below HO42z.out pl) (Kd.R_base ho65z) hb); replace HO66z := reR HO66z ho65z hb; replace HO78z := reR HO78z ho65z hb; replace HO86z := reR HO86z ho65z hb; replace HO87z := reR HO87z ho65z hb; replace HO94z := reR HO94z ho65z hb; replace HO95z := reR HO95z ho65z hb; replace BK2z := bb BK2z hb; replace BK7z := bb BK7z hb; replace BK14z := bb BK14z hb; replace HB := bS hb; obtain ⟨Ao109z, co110z, eo111z⟩ := Kd.R_slice HO108z.out; subst eo111z) | (refine gL (some 67) Tryz.func75 #[.slice Ao99z t406.length co100z, .slice Ao109z t414.length co110z] (h := ?_); (with_reducible refine (nat_Add.calls k _ _ t406 _ _ t414 t417 t418 _ ?side1 ?side2 ?side3 ?side4 A31.out).mono ?_); (case side1 => exact Kd.C_below (Kd.R_reads' HO94z.out).2.2 pl); (case side2 => exact (Kd.R_reads' HO94z.out).2.1); (case side3 => exact Kd.C_below (Kd.R_reads' HO108z.out).2.2 pl); (case side4 => exact (Kd.R_reads' HO108z.out).2.1); rintro e w112z ⟨v113z, rfl, ho65z, hb⟩; refine ⟨_, rfl, ?_⟩; have HO114z := am (Kd.R_lower (Kd.R_new' (Kd.R_new' (Kd.R_new' (Kd.R_new' (Kd.R_new' (Kd.R_new' (Kd.R_new' (Kd.R_newM (M := fun k_ => (w.heap.size <= k_)) ho65z (below_size pB) (fun k_ h_ => h_)) (Kd.R_lt (Kd.R_below HO66z.out pl))) (Kd.R_lt (Kd.R_below HO78z.out pl))) (Kd.R_lt (Kd.R_below HO86z.out pl))) (Kd.R_lt (Kd.R_below HO87z.out pl))) (Kd.R_lt (Kd.R_below HO94z.out pl))) (Kd.R_lt (Kd.R_below HO95z.out pl))) (Kd.R_lt (Kd.R_below HO108z.out pl))) (below_size pB)); replace HO0_1 := am (Kd.V_elder' (Kd.V_below HO0_1.out pl) (Kd.R_base ho65z) hb); replace HO1_1 := am (Kd.V_elder' (Kd.V_below HO1_1.out pl) (Kd.R_base ho65z) hb); replace HO42z := am (Kd.N_elder' (Kd.N_below HO42z.out pl) (Kd.R_base ho65z) hb); replace HO66z := reR HO66z ho65z hb; replace HO78z := reR HO78z ho65z hb; replace HO86z := reR HO86z ho65z hb; replace HO87z := reR HO87z ho65z hb; replace HO94z := reR HO94z ho65z hb; replace HO95z := reR HO95z ho65z hb; replace HO108z := reR HO108z ho65z hb; replace BK2z := bb BK2z hb; replace BK7z := bb BK7z hb; replace BK14z := bb BK14z hb; replace HB := bS hb; obtain ⟨Ao115z, co116z, eo117z⟩ := Kd.R_slice HO114z.out; subst eo117z) | (refine gL (some 70) Tryz.func70 #[.slice Ao115z t417.length co116z, .int .i64 t418] (h := ?_); (with_reducible refine (quot_first_uint32.calls (fun k_ => some k_ = (.slice Ao115z t417.length co116z : Value).ownBlock) (.slice Ao115z t417.length co116z) t417 t418 t421 w _ ?side1 ?side2 A32.out).mono ?_); (case side1 => exact pB); (case side2 => exact Kd.R_tight rfl HO114z.out); rintro e w118z ⟨v119z, rfl, ho65z, hb, hkp⟩; refine ⟨_, rfl, ?_⟩; have HO120z := am (Kd.R_mono (ok' := fun k_ => (w.heap.size <= k_) /\ some k_ ≠ (.slice Ao67z t389.length co68z : Value).ownBlock /\ some k_ ≠ (.slice Ao79z t396.length co80z : Value).ownBlock /\ some k_ ≠ (.slice Ao88z t399.length co89z : Value).ownBlock /\ some k_ ≠ (.slice Ao96z t400.length co97z : Value).ownBlock /\ some k_ ≠ (.slice Ao99z t406.length co100z : Value).ownBlock /\ some k_ ≠ (.slice Ao102z t407.length co103z : Value).ownBlock /\ some k_ ≠ (.slice Ao109z t414.length co110z : Value).ownBlock) ho65z (fun k_ hk_ => ⟨Or.elim hk_ (fun hs_ => (HO114z.out.1 k_ (hs_).symm).1.1.1.1.1.1.1.1) (fun hn_ => (Nat.le_trans (below_size pB) hn_)), Or.elim hk_ (fun hs_ => fun e_ => (((HO66z.out).1 k_ e_.symm).2) hs_) (fun hn_ => (Kd.fresh' (Kd.R_lt (Kd.R_below HO66z.out pl)) k_ hn_)), Or.elim hk_ (fun hs_ => fun e_ => (((HO78z.out).1 k_ e_.symm).2) hs_) (fun hn_ => (Kd.fresh' (Kd.R_lt (Kd.R_below HO78z.out pl)) k_ hn_)), Or.elim hk_ (fun hs_ => fun e_ => (((HO86z.out).1 k_ e_.symm).2) hs_) (fun hn_ => (Kd.fresh' (Kd.R_lt (Kd.R_below HO86z.out pl)) k_ hn_)), Or.elim hk_ (fun hs_ => fun e_ => (((HO87z.out).1 k_ e_.symm).2) hs_) (fun hn_ => (Kd.fresh' (Kd.R_lt (Kd.R_below HO87z.out pl)) k_ hn_)), Or.elim hk_ (fun hs_ => fun e_ => (((HO94z.out).1 k_ e_.symm).2) hs_) (fun hn_ => (Kd.fresh' (Kd.R_lt (Kd.R_below HO94z.out pl)) k_ hn_)), Or.elim hk_ (fun hs_ => fun e_ => (((HO95z.out).1 k_ e_.symm).2) hs_) (fun hn_ => (Kd.fresh' (Kd.R_lt (Kd.R_below HO95z.out pl)) k_ hn_)), Or.elim hk_ (fun hs_ => fun e_ => (((HO108z.out).1 k_ e_.symm).2) hs_) (fun hn_ => (Kd.fresh' (Kd.R_lt (Kd.R_below HO108z.out pl)) k_ hn_))⟩)); replace HO0_1 := am (Kd.V_mono (ok' := fun k_ => ((P0_1_ k_ \/ P1_1_ k_) \/ w.heap.size <= k_) /\ some k_ ≠ (.slice Ao43z y383.length co44z : Value).ownBlock /\ some k_ ≠ (.slice Ao67z t389.length co68z : Value).ownBlock /\ some k_ ≠ (.slice Ao79z t396.length co80z : Value).ownBlock /\ some k_ ≠ (.slice Ao88z t399.length co89z : Value).ownBlock /\ some k_ ≠ (.slice Ao96z t400.length co97z : Value).ownBlock /\ some k_ ≠ (.slice Ao99z t406.length co100z : Value).ownBlock /\ some k_ ≠ (.slice Ao102z t407.length co103z : Value).ownBlock /\ some k_ ≠ (.slice Ao109z t414.length co110z : Value).ownBlock /\ k_ ≠ gb0z /\ k_ ≠ gb5z /\ k_ ≠ gb12z /\ some k_ ≠ (v119z : Value).ownBlock) (Kd.V_keptB (HO0_1.out) hkp (fun k_ hk_ hs_ => (hk_.2) hs_)) (fun k_ hk_ => ⟨hk_.1.1.1.1.1.1.1.1, hk_.1.1.1.1.1.1.1.2.1, hk_.1.1.1.1.1.1.1.2.2.1, hk_.1.1.1.1.1.1.1.2.2.2.2.2.2, hk_.1.1.1.1.1.1.2, hk_.1.1.1.1.1.2, hk_.1.1.1.1.2, hk_.1.1.1.2, hk_.1.1.2, hk_.1.1.1.1.1.1.1.2.2.2.1, hk_.1.1.1.1.1.1.1.2.2.2.2.1, hk_.1.1.1.1.1.1.1.2.2.2.2.2.1, fun e_ => Or.elim (ho65z.1 k_ e_.symm) (fun hs_ => hk_.2.1 hs_) (fun hn_ => Nat.not_le.2 hk_.2.2 hn_)⟩)); replace HO1_1 := am (Kd.V_mono (ok' := fun k_ => ((P0_1_ k_ \/ P1_1_ k_) \/ w.heap.size <= k_) /\ some k_ ≠ (.slice Ao43z y383.length co44z : Value).ownBlock /\ some k_ ≠ (.slice Ao67z t389.length co68z : Value).ownBlock /\ some k_ ≠ (.slice Ao79z t396.length co80z : Value).ownBlock /\ some k_ ≠ (.slice Ao88z t399.length co89z : Value).ownBlock /\ some k_ ≠ (.slice Ao96z t400.length co97z : Value).ownBlock /\ some k_ ≠ (.slice Ao99z t406.length co100z : Value).ownBlock /\ some k_ ≠ (.slice Ao102z t407.length co103z : Value).ownBlock /\ some k_ ≠ (.slice Ao109z t414.length co110z : Value).ownBlock /\ k_ ≠ gb0z /\ k_ ≠ gb5z /\ k_ ≠ gb12z /\ some k_ ≠ (v119z : Value).ownBlock) (Kd.V_keptB (HO1_1.out) hkp (fun k_ hk_ hs_ => (hk_.2) hs_)) (fun k_ hk_ => ⟨hk_.1.1.1.1.1.1.1.1, hk_.1.1.1.1.1.1.1.2.1, hk_.1.1.1.1.1.1.1.2.2.1, hk_.1.1.1.1.1.1.1.2.2.2.2.2.2, hk_.1.1.1.1.1.1.2, hk_.1.1.1.1.1.2, hk_.1.1.1.1.2, hk_.1.1.1.2, hk_.1.1.2, hk_.1.1.1.1.1.1.1.2.2.2.1, hk_.1.1.1.1.1.1.1.2.2.2.2.1, hk_.1.1.1.1.1.1.1.2.2.2.2.2.1, fun e_ => Or.elim (ho65z.1 k_ e_.symm) (fun hs_ => hk_.2.1 hs_) (fun hn_ => Nat.not_le.2 hk_.2.2 hn_)⟩)); replace BK2z := am (blk_kept (blk_below BK2z.out pl) hkp (fun e_ => Kd.R_ne HO114z.out BK2z.out (by decide) e_)); replace BK7z := am (blk_kept (blk_below BK7z.out pl) hkp (fun e_ => Kd.R_ne HO114z.out BK7z.out (by decide) e_)); replace BK14z := am (blk_kept (blk_below BK14z.out pl) hkp (fun e_ => Kd.R_ne HO114z.out BK14z.out (by decide) e_)); replace HO42z := am (Kd.N_mono (ok' := fun k_ => ((P0_1_ k_ \/ P1_1_ k_) \/ w.heap.size <= k_) /\ some k_ ≠ (.slice Ao67z t389.length co68z : Value).ownBlock /\ some k_ ≠ (.slice Ao79z t396.length co80z : Value).ownBlock /\ some k_ ≠ (.slice Ao88z t399.length co89z : Value).ownBlock /\ some k_ ≠ (.slice Ao96z t400.length co97z : Value).ownBlock /\ some k_ ≠ (.slice Ao99z t406.length co100z : Value).ownBlock /\ some k_ ≠ (.slice Ao102z t407.length co103z : Value).ownBlock /\ some k_ ≠ (.slice Ao109z t414.length co110z : Value).ownBlock /\ k_ ≠ gb0z /\ k_ ≠ gb5z /\ k_ ≠ gb12z /\ some k_ ≠ (v119z : Value).ownBlock) (Kd.N_keptB (HO42z.out) hkp (fun k_ hk_ hs_ => (hk_.2) hs_)) (fun k_ hk_ => ⟨hk_.1.1.1.1.1.1.1.1, hk_.1.1.1.1.1.1.1.2.1, hk_.1.1.1.1.1.1.1.2.2.2.2.2, hk_.1.1.1.1.1.1.2, hk_.1.1.1.1.1.2, hk_.1.1.1.1.2, hk_.1.1.1.2, hk_.1.1.2, hk_.1.1.1.1.1.1.1.2.2.1, hk_.1.1.1.1.1.1.1.2.2.2.1, hk_.1.1.1.1.1.1.1.2.2.2.2.1, fun e_ => Or.elim (ho65z.1 k_ e_.symm) (fun hs_ => hk_.2.1 hs_) (fun hn_ => Nat.not_le.2 hk_.2.2 hn_)⟩)); replace HO66z := am (Kd.R_mono (ok' := fun k_ => (w.heap.size <= k_) /\ some k_ ≠ (.slice Ao79z t396.length co80z : Value).ownBlock /\ some k_ ≠ (.slice Ao88z t399.length co89z : Value).ownBlock /\ some k_ ≠ (.slice Ao96z t400.length co97z : Value).ownBlock /\ some k_ ≠ (.slice Ao99z t406.length co100z : Value).ownBlock /\ some k_ ≠ (.slice Ao102z t407.length co103z : Value).ownBlock /\ some k_ ≠ (.slice Ao109z t414.length co110z : Value).ownBlock /\ some k_ ≠ (v119z : Value).ownBlock) (Kd.R_keptB (HO66z.out) hkp (fun k_ hk_ hs_ => (hk_.2) hs_)) (fun k_ hk_ => ⟨hk_.1.1.1.1.1.1.1.1, hk_.1.1.1.1.1.1.1.2, hk_.1.1.1.1.1.1.2, hk_.1.1.1.1.1.2, hk_.1.1.1.1.2, hk_.1.1.1.2, hk_.1.1.2, fun e_ => Or.elim (ho65z.1 k_ e_.symm) (fun hs_ => hk_.2.1 hs_) (fun hn_ => Nat.not_le.2 hk_.2.2 hn_)⟩)); replace HO78z := am (Kd.R_mono (ok' := fun k_ => (w.heap.size <= k_) /\ some k_ ≠ (.slice Ao67z t389.length co68z : Value).ownBlock /\ some k_ ≠ (.slice Ao88z t399.length co89z : Value).ownBlock /\ some k_ ≠ (.slice Ao96z t400.length co97z : Value).ownBlock /\ some k_ ≠ (.slice Ao99z t406.length co100z : Value).ownBlock /\ some k_ ≠ (.slice Ao102z t407.length co103z : Value).ownBlock /\ some k_ ≠ (.slice Ao109z t414.length co110z : Value).ownBlock /\ some k_ ≠ (v119z : Value).ownBlock) (Kd.R_keptB (HO78z.out) hkp (fun k_ hk_ hs_ => (hk_.2) hs_)) (fun k_ hk_ => ⟨hk_.1.1.1.1.1.1.1.1, hk_.1.1.1.1.1.1.1.2, hk_.1.1.1.1.1.1.2, hk_.1.1.1.1.1.2, hk_.1.1.1.1.2, hk_.1.1.1.2, hk_.1.1.2, fun e_ => Or.elim (ho65z.1 k_ e_.symm) (fun hs_ => hk_.2.1 hs_) (fun hn_ => Nat.not_le.2 hk_.2.2 hn_)⟩)); replace HO86z := am (Kd.R_mono (ok' := fun k_ => (w.heap.size <= k_) /\ some k_ ≠ (.slice Ao67z t389.length co68z : Value).ownBlock /\ some k_ ≠ (.slice Ao79z t396.length co80z : Value).ownBlock /\ some k_ ≠ (.slice Ao96z t400.length co97z : Value).ownBlock /\ some k_ ≠ (.slice Ao99z t406.length co100z : Value).ownBlock /\ some k_ ≠ (.slice Ao102z t407.length co103z : Value).ownBlock /\ some k_ ≠ (.slice Ao109z t414.length co110z : Value).ownBlock /\ some k_ ≠ (v119z : Value).ownBlock) (Kd.R_keptB (HO86z.out) hkp (fun k_ hk_ hs_ => (hk_.2) hs_)) (fun k_ hk_ => ⟨hk_.1.1.1.1.1.1.1.1, hk_.1.1.1.1.1.1.2, hk_.1.1.1.1.1.2, hk_.1.1.1.1.1.1.1.2, hk_.1.1.1.1.2, hk_.1.1.1.2, hk_.1.1.2, fun e_ => Or.elim (ho65z.1 k_ e_.symm) (fun hs_ => hk_.2.1 hs_) (fun hn_ => Nat.not_le.2 hk_.2.2 hn_)⟩)); replace HO87z := am (Kd.R_mono (ok' := fun k_ => (w.heap.size <= k_) /\ some k_ ≠ (.slice Ao67z t389.length co68z : Value).ownBlock /\ some k_ ≠ (.slice Ao79z t396.length co80z : Value).ownBlock /\ some k_ ≠ (.slice Ao88z t399.length co89z : Value).ownBlock /\ some k_ ≠ (.slice Ao99z t406.length co100z : Value).ownBlock /\ some k_ ≠ (.slice Ao102z t407.length co103z : Value).ownBlock /\ some k_ ≠ (.slice Ao109z t414.length co110z : Value).ownBlock /\ some k_ ≠ (v119z : Value).ownBlock) (Kd.R_keptB (HO87z.out) hkp (fun k_ hk_ hs_ => (hk_.2) hs_)) (fun k_ hk_ => ⟨hk_.1.1.1.1.1.1.1.1, hk_.1.1.1.1.1.1.2, hk_.1.1.1.1.1.2, hk_.1.1.1.1.1.1.1.2, hk_.1.1.1.1.2, hk_.1.1.1.2, hk_.1.1.2, fun e_ => Or.elim (ho65z.1 k_ e_.symm) (fun hs_ => hk_.2.1 hs_) (fun hn_ => Nat.not_le.2 hk_.2.2 hn_)⟩)); replace HO94z := am (Kd.R_mono (ok' := fun k_ => (w.heap.size <= k_) /\ some k_ ≠ (.slice Ao67z t389.length co68z : Value).ownBlock /\ some k_ ≠ (.slice Ao79z t396.length co80z : Value).ownBlock /\ some k_ ≠ (.slice Ao88z t399.length co89z : Value).ownBlock /\ some k_ ≠ (.slice Ao96z t400.length co97z : Value).ownBlock /\ some k_ ≠ (.slice Ao102z t407.length co103z : Value).ownBlock /\ some k_ ≠ (.slice Ao109z t414.length co110z : Value).ownBlock /\ some k_ ≠ (v119z : Value).ownBlock) (Kd.R_keptB (HO94z.out) hkp (fun k_ hk_ hs_ => (hk_.2) hs_)) (fun k_ hk_ => ⟨hk_.1.1.1.1.1.1.1.1, hk_.1.1.1.1.1.1.2, hk_.1.1.1.1.1.2, hk_.1.1.1.1.2, hk_.1.1.1.2, hk_.1.1.1.1.1.1.1.2, hk_.1.1.2, fun e_ => Or.elim (ho65z.1 k_ e_.symm) (fun hs_ => hk_.2.1 hs_) (fun hn_ => Nat.not_le.2 hk_.2.2 hn_)⟩)); replace HO95z := am (Kd.R_mono (ok' := fun k_ => (w.heap.size <= k_) /\ some k_ ≠ (.slice Ao67z t389.length co68z : Value).ownBlock /\ some k_ ≠ (.slice Ao79z t396.length co80z : Value).ownBlock /\ some k_ ≠ (.slice Ao88z t399.length co89z : Value).ownBlock /\ some k_ ≠ (.slice Ao96z t400.length co97z : Value).ownBlock /\ some k_ ≠ (.slice Ao99z t406.length co100z : Value).ownBlock /\ some k_ ≠ (.slice Ao109z t414.length co110z : Value).ownBlock /\ some k_ ≠ (v119z : Value).ownBlock) (Kd.R_keptB (HO95z.out) hkp (fun k_ hk_ hs_ => (hk_.2) hs_)) (fun k_ hk_ => ⟨hk_.1.1.1.1.1.1.1.1, hk_.1.1.1.1.1.1.2, hk_.1.1.1.1.1.2, hk_.1.1.1.1.2, hk_.1.1.1.2, hk_.1.1.1.1.1.1.1.2, hk_.1.1.2, fun e_ => Or.elim (ho65z.1 k_ e_.symm) (fun hs_ => hk_.2.1 hs_) (fun hn_ => Nat.not_le.2 hk_.2.2 hn_)⟩)); replace HO108z := am (Kd.R_mono (ok' := fun k_ => (w.heap.size <= k_) /\ some k_ ≠ (.slice Ao67z t389.length co68z : Value).ownBlock /\ some k_ ≠ (.slice Ao79z t396.length co80z : Value).ownBlock /\ some k_ ≠ (.slice Ao88z t399.length co89z : Value).ownBlock /\ some k_ ≠ (.slice Ao96z t400.length co97z : Value).ownBlock /\ some k_ ≠ (.slice Ao99z t406.length co100z : Value).ownBlock /\ some k_ ≠ (.slice Ao102z t407.length co103z : Value).ownBlock /\ some k_ ≠ (v119z : Value).ownBlock) (Kd.R_keptB (HO108z.out) hkp (fun k_ hk_ hs_ => (hk_.2) hs_)) (fun k_ hk_ => ⟨hk_.1.1.1.1.1.1.1.1.1, hk_.1.1.1.1.1.1.1.2, hk_.1.1.1.1.1.1.2, hk_.1.1.1.1.1.2, hk_.1.1.1.1.2, hk_.1.1.1.2, hk_.1.1.2, fun e_ => Or.elim (ho65z.1 k_ e_.symm) (fun hs_ => hk_.2.1 hs_) (fun hn_ => Nat.not_le.2 hk_.2.2 hn_)⟩)); replace HB := am hb; clear HO114z; obtain ⟨hcz121z, hcz122z, hcz123z, hfz124z, hfz125z, hfz126z⟩ := cEc BK2z.out; obtain ⟨hcz127z, hcz128z, hcz129z, hfz130z, hfz131z, hfz132z⟩ := cEc BK7z.out; obtain ⟨Ao133z, co134z, eo135z⟩ := Kd.R_slice HO120z.out; subst eo135z) | ((with_reducible refine gate_callee (f := 60) rfl ?_); refine goesL_ (some 86) rfl rfl Tryz.func60 (by kernel_rfl) rfl #[.bool (a0_0 != a1_0), .slice Ao133z t421.length co134z, .int .i64 (wrap64 ((wrap64 ((wrap64 (a0_2 - a1_2)) - (ji22))) + t408))] rfl (by (try simp only [List.map_toArray, List.map_cons, List.map_nil]); first | done | (simp only [hji22]; rfl) | rfl | (simp only [List.length_drop, List.length_take]; rfl)) ?_; (with_reducible refine (dec_Settle.calls k (a0_0 != a1_0) _ _ t421 (wrap64 ((wrap64 ((wrap64 (a0_2 - a1_2)) - (ji22))) + t408)) t424 t425 t428 t429 _ ?side1 ?side2 A33.out).mono ?_); (case side1 => exact Kd.C_below (Kd.R_reads' HO120z.out).2.2 pl); (case side2 => exact (Kd.R_reads' HO120z.out).2.1); rintro e w136z ⟨v137z, rfl, ho65z, hb⟩; refine ⟨_, rfl, ?_⟩; have HO138z := am (Kd.R_lower (Kd.R_new' (Kd.R_new' (Kd.R_new' (Kd.R_new' (Kd.R_new' (Kd.R_new' (Kd.R_new' (Kd.R_new' (Kd.R_newM (M := fun k_ => (w.heap.size <= k_)) ho65z (below_size pB) (fun k_ h_ => h_)) (Kd.R_lt (Kd.R_below HO66z.out pl))) (Kd.R_lt (Kd.R_below HO78z.out pl))) (Kd.R_lt (Kd.R_below HO86z.out pl))) (Kd.R_lt (Kd.R_below HO87z.out pl))) (Kd.R_lt (Kd.R_below HO94z.out pl))) (Kd.R_lt (Kd.R_below HO95z.out pl))) (Kd.R_lt (Kd.R_below HO108z.out pl))) (Kd.R_lt (Kd.R_below HO120z.out pl))) (below_size pB)); replace HO0_1 := am (Kd.V_elder' (Kd.V_below HO0_1.out pl) (Kd.R_base ho65z) hb); replace HO1_1 := am (Kd.V_elder' (Kd.V_below HO1_1.out pl) (Kd.R_base ho65z) hb); replace HO42z := am (Kd.N_elder' (Kd.N_below HO42z.out pl) (Kd.R_base ho65z) hb); replace HO66z := reR HO66z ho65z hb; replace HO78z := reR HO78z ho65z hb; replace HO86z := reR HO86z ho65z hb; replace HO87z := reR HO87z ho65z hb; replace HO94z := reR HO94z ho65z hb; replace HO95z := reR HO95z ho65z hb; replace HO108z := reR HO108z ho65z hb; replace HO120z := reR HO120z ho65z hb; replace BK2z := bb BK2z hb; replace BK7z := bb BK7z hb; replace BK14z := bb BK14z hb; replace HB := bS hb; obtain ⟨hcz139z, hcz140z, hcz141z, hfz142z, hfz143z, hfz144z⟩ := cEc BK14z.out; obtain ⟨Ao145z, co146z, eo147z⟩ := Kd.R_slice HO138z.out; subst eo147z) | (refine gL (some 64) Tryz.func74 #[.slice Ao99z t406.length co100z, .slice Ao102z t407.length co103z, .int .i64 t408, .bool (decide (0 < t400.length))] (h := ?_); (with_reducible refine (quot_upward.calls k _ _ t406 _ _ t407 t408 (decide (0 < t400.length)) false _ ?side1 ?side2 ?side3 ?side4 A28.out).mono ?_); (case side1 => exact Kd.C_below (Kd.R_reads' HO94z.out).2.2 pl); (case side2 => exact (Kd.R_reads' HO94z.out).2.1); (case side3 => exact Kd.C_below (Kd.R_reads' HO95z.out).2.2 pl); (case side4 => exact (Kd.R_reads' HO95z.out).2.1); rintro e w105z ⟨rfl, hb⟩; refine ⟨_, rfl, ?_⟩; replace HO0_1 := vbl HO0_1 hb; replace HO1_1 := vbl HO1_1 hb; replace HO42z := nbl HO42z hb; replace HO66z := rbl HO66z hb; replace HO78z := rbl HO78z hb; replace HO86z := rbl HO86z hb; replace HO87z := rbl HO87z hb; replace HO94z := rbl HO94z hb; replace HO95z := rbl HO95z hb; replace BK2z := bb BK2z hb; replace BK7z := bb BK7z hb; replace BK14z := bb BK14z hb; replace HB := bS hb; obtain ⟨hcz106z, hcz107z, hcz108z, hfz109z, hfz110z, hfz111z⟩ := cEc BK2z.out; obtain ⟨hcz112z, hcz113z, hcz114z, hfz115z, hfz116z, hfz117z⟩ := cEc BK7z.out) | ((with_reducible refine gate_callee (f := 60) rfl ?_); refine goesL_ (some 86) rfl rfl Tryz.func60 (by kernel_rfl) rfl #[.bool (a0_0 != a1_0), .slice Ao99z t406.length co100z, .int .i64 (wrap64 ((wrap64 ((wrap64 (a0_2 - a1_2)) - (ji22))) + t408))] rfl (by (try simp only [List.map_toArray, List.map_cons, List.map_nil]); first | done | (simp only [hji22]; rfl) | rfl | (simp only [List.length_drop, List.length_take]; rfl)) ?_; (with_reducible refine (dec_Settle.calls k (a0_0 != a1_0) _ _ t406 (wrap64 ((wrap64 ((wrap64 (a0_2 - a1_2)) - (ji22))) + t408)) t430 t431 t434 t435 _ ?side1 ?side2 A75.out).mono ?_); (case side1 => exact Kd.C_below (Kd.R_reads' HO94z.out).2.2 pl); (case side2 => exact (Kd.R_reads' HO94z.out).2.1); rintro e w118z ⟨v119z, rfl, ho65z, hb⟩; refine ⟨_, rfl, ?_⟩; have HO120z := am (Kd.R_lower (Kd.R_new' (Kd.R_new' (Kd.R_new' (Kd.R_new' (Kd.R_new' (Kd.R_new' (Kd.R_newM (M := fun k_ => (w.heap.size <= k_)) ho65z (below_size pB) (fun k_ h_ => h_)) (Kd.R_lt (Kd.R_below HO66z.out pl))) (Kd.R_lt (Kd.R_below HO78z.out pl))) (Kd.R_lt (Kd.R_below HO86z.out pl))) (Kd.R_lt (Kd.R_below HO87z.out pl))) (Kd.R_lt (Kd.R_below HO94z.out pl))) (Kd.R_lt (Kd.R_below HO95z.out pl))) (below_size pB)); replace HO0_1 := am (Kd.V_elder' (Kd.V_below HO0_1.out pl) (Kd.R_base ho65z) hb); replace HO1_1 := am (Kd.V_elder' (Kd.V_below HO1_1.out pl) (Kd.R_base ho65z) hb); replace HO42z := am (Kd.N_elder' (Kd.N_below HO42z.out pl) (Kd.R_base ho65z) hb); replace HO66z := reR HO66z ho65z hb; replace HO78z := reR HO78z ho65z hb; replace HO86z := reR HO86z ho65z hb; replace HO87z := reR HO87z ho65z hb; replace HO94z := reR HO94z ho65z hb; replace HO95z := reR HO95z ho65z hb; replace BK2z := bb BK2z hb; replace BK7z := bb BK7z hb; replace BK14z := bb BK14z hb; replace HB := bS hb; obtain ⟨hcz121z, hcz122z, hcz123z, hfz124z, hfz125z, hfz126z⟩ := cEc BK14z.out; obtain ⟨Ao127z, co128z, eo129z⟩ := Kd.R_slice HO120z.out; subst eo129z))
    first
     | have q_ := A33
       refine bodyPost_ret (results_ct rfl _ _ gb12z 24 #[.bool t424, .slice Ao145z t425.length co146z, .int .i64 t428] (0, 0) _ rfl (by exact p3 BK14z) Tryz.underlying24 rfl (by kernel_rfl)) rfl ?_
       exact ⟨_, by first | rfl | (simp [errW_none, errW_some] <;> rfl) | (simp only [<- hji22]; first | rfl | (simp [errW_none, errW_some] <;> rfl)) | (simp [*, errW_none, errW_some] <;> rfl), by refine rp ?_; exact Kd.R_mono (Kd.R_far (p := ⟨gb12z, 2, none⟩) (Kd.R_far (p := ⟨gb12z, 1, none⟩) (Kd.R_far (p := ⟨gb12z, 0, none⟩) (Kd.R_types HO138z.out BK14z.out (by decide)) (fun _ hk => hk.2) (.bool t424)) (fun _ hk => hk.2) (.slice Ao145z t425.length co146z)) (fun _ hk => hk.2) (.int .i64 t428)) (fun _ hk => hk.1.1.1.1.1.1.1.1.1.1), pB⟩
     | refine bodyPost_ret (results_ct rfl _ _ gb12z 24 #[.bool t430, .slice Ao127z t431.length co128z, .int .i64 t434] (0, 0) _ rfl (by exact p3 BK14z) Tryz.underlying24 rfl (by kernel_rfl)) rfl ?_
       exact ⟨_, by first | rfl | (simp [errW_none, errW_some] <;> rfl) | (simp only [<- hji22]; first | rfl | (simp [errW_none, errW_some] <;> rfl)) | (simp [*, errW_none, errW_some] <;> rfl), by refine rp ?_; exact Kd.R_mono (Kd.R_far (p := ⟨gb12z, 2, none⟩) (Kd.R_far (p := ⟨gb12z, 1, none⟩) (Kd.R_far (p := ⟨gb12z, 0, none⟩) (Kd.R_types HO120z.out BK14z.out (by decide)) (fun _ hk => hk.2) (.bool t430)) (fun _ hk => hk.2) (.slice Ao127z t431.length co128z)) (fun _ hk => hk.2) (.int .i64 t434)) (fun _ hk => hk.1.1.1.1.1.1.1.1), pB⟩
  | refine bodyPost_ret (results_ct rfl _ _ gb12z 24 #[.bool false, .slice none 0 0, .int .i64 0] (0, 0) _ rfl (by exact p3 BK14z) Tryz.underlying24 rfl (by kernel_rfl)) rfl ?_
    exact ⟨_, pE, pN, pB⟩) : P := h
theorem quot_Div.calls (k : Nat) (a0_0 : Bool) (P0_1_ : Nat -> Prop) (A0_1 : Option Addr) (c0_1 : Nat) (l0_1 : List Int) (a0_2 : Int) (a1_0 : Bool) (P1_1_ : Nat -> Prop) (A1_1 : Option Addr) (c1_1 : Nat) (l1_1 : List Int) (a1_2 : Int) (r1 : Bool) (r2 : List Int) (r3 : Int) (r4 : Int) (w : World) (hs0_1 : Kd.V (Kd.int .u32) 85 w w.heap.size (fun k_ => P0_1_ k_) (.slice A0_1 l0_1.length c0_1) l0_1) (hs1_1 : Kd.V (Kd.int .u32) 85 w w.heap.size (fun k_ => P1_1_ k_) (.slice A1_1 l1_1.length c1_1) l1_1) (h : quot_Div.f k a0_0 l0_1 a0_2 a1_0 l1_1 a1_2 = some (r1, r2, r3, r4)) :
  Calls Tryz.prog 19 #[.agg #[.bool a0_0, .slice A0_1 l0_1.length c0_1, .int .i64 a0_2], .agg #[.bool a1_0, .slice A1_1 l1_1.length c1_1, .int .i64 a1_2]] w fun e w' => ∃ v1_ : Value, e = .returned (.tuple #[.agg #[.bool r1, v1_, .int .i64 r3], .int .i64 r4]) /\ Kd.R (Kd.int .u32) 85 w' w.heap.size (fun k_ => (w.heap.size <= k_)) v1_ r2 /\ Below w.heap.size w w' := by
 have hu24 := Tryz.underlying24
 have HO0_1 := am (show Kd.V (Kd.int .u32) 85 w w.heap.size (fun k_ => ((P0_1_ k_ \/ P1_1_ k_) \/ w.heap.size <= k_)) (.slice A0_1 l0_1.length c0_1) l0_1 from Kd.V_mono hs0_1 (fun k_ hk => .inl (.inl hk)))
 have HO1_1 := am (show Kd.V (Kd.int .u32) 85 w w.heap.size (fun k_ => ((P0_1_ k_ \/ P1_1_ k_) \/ w.heap.size <= k_)) (.slice A1_1 l1_1.length c1_1) l1_1 from Kd.V_mono hs1_1 (fun k_ hk => .inl (.inr hk)))
 have HB := am (Below.refl w.heap.size w)
 have H : ((quot_ask.f k (([(⟨a0_0, l0_1, a0_2⟩ : S24), (⟨a1_0, l1_1, a1_2⟩ : S24)] : List (S24)))).bind fun t386 => (if t386 = 0 then (if (l1_1.length : Int) = 0 then (some (false, ([] : List Int), 0, 53)) else ((quot_digits.f k l1_1).bind fun t387 => ((quot_digits.f k l0_1).bind fun t388 => ((quot_pow.f k (mx (wrap64 ((wrap64 ((wrap64 (t387 - t388)) + 40)) + 2)) 0)).bind fun t389 => ((nat_Mul.f k l0_1 t389).bind fun bt392 => ((quot_first_uint32.f bt392.1 bt392.2).bind fun t396 => ((nat_Div.f k t396 l1_1).bind fun bt399 => ((quot_parted.f k bt399.1 40).bind fun bt406 => ((quot_upward.f k bt406.1 bt406.2.1 bt406.2.2 (decide ((bt399.2.1.length : Int) > 0))).bind fun t413 => (if t413 = true then ((nat_From.f k 1).bind fun t414 => ((nat_Add.f k bt406.1 t414).bind fun bt417 => ((quot_first_uint32.f bt417.1 bt417.2).bind fun t421 => ((dec_Settle.f k (a0_0 != a1_0) t421 (wrap64 ((wrap64 ((wrap64 (a0_2 - a1_2)) - (mx (wrap64 ((wrap64 ((wrap64 (t387 - t388)) + 40)) + 2)) 0))) + bt406.2.2))).bind fun bt424 => (some (bt424.1, bt424.2.1, bt424.2.2.1, bt424.2.2.2)))))) else ((dec_Settle.f k (a0_0 != a1_0) bt406.1 (wrap64 ((wrap64 ((wrap64 (a0_2 - a1_2)) - (mx (wrap64 ((wrap64 ((wrap64 (t387 - t388)) + 40)) + 2)) 0))) + bt406.2.2))).bind fun bt430 => (some (bt430.1, bt430.2.1, bt430.2.2.1, bt430.2.2.2))))))))))))) else (some (false, ([] : List Int), 0, t386)))) = some (r1, r2, r3, r4) := h
 clear h
 obtain ⟨y383, hy383⟩ : ∃ y_ : List (S24), y_ = (([(⟨a0_0, l0_1, a0_2⟩ : S24), (⟨a1_0, l1_1, a1_2⟩ : S24)] : List (S24))) := ⟨_, rfl⟩
 replace H : ((quot_ask.f k y383).bind fun t386 => (if t386 = 0 then (if (l1_1.length : Int) = 0 then (some (false, ([] : List Int), 0, 53)) else ((quot_digits.f k l1_1).bind fun t387 => ((quot_digits.f k l0_1).bind fun t388 => ((quot_pow.f k (mx (wrap64 ((wrap64 ((wrap64 (t387 - t388)) + 40)) + 2)) 0)).bind fun t389 => ((nat_Mul.f k l0_1 t389).bind fun bt392 => ((quot_first_uint32.f bt392.1 bt392.2).bind fun t396 => ((nat_Div.f k t396 l1_1).bind fun bt399 => ((quot_parted.f k bt399.1 40).bind fun bt406 => ((quot_upward.f k bt406.1 bt406.2.1 bt406.2.2 (decide ((bt399.2.1.length : Int) > 0))).bind fun t413 => (if t413 = true then ((nat_From.f k 1).bind fun t414 => ((nat_Add.f k bt406.1 t414).bind fun bt417 => ((quot_first_uint32.f bt417.1 bt417.2).bind fun t421 => ((dec_Settle.f k (a0_0 != a1_0) t421 (wrap64 ((wrap64 ((wrap64 (a0_2 - a1_2)) - (mx (wrap64 ((wrap64 ((wrap64 (t387 - t388)) + 40)) + 2)) 0))) + bt406.2.2))).bind fun bt424 => (some (bt424.1, bt424.2.1, bt424.2.2.1, bt424.2.2.2)))))) else ((dec_Settle.f k (a0_0 != a1_0) bt406.1 (wrap64 ((wrap64 ((wrap64 (a0_2 - a1_2)) - (mx (wrap64 ((wrap64 ((wrap64 (t387 - t388)) + 40)) + 2)) 0))) + bt406.2.2))).bind fun bt430 => (some (bt430.1, bt430.2.1, bt430.2.2.1, bt430.2.2.2))))))))))))) else (some (false, ([] : List Int), 0, t386)))) = some (r1, r2, r3, r4) := by have hy_ := hy383; exact pH
 have Ny383 := am hy383
 clear hy383
 obtain ⟨t386, A3, H⟩ := ob H
 by_cases c4 : t386 = 0
 ·rw [if_pos c4] at H
  have c4b0 : (t386 == 0) = true := beq_iff_eq.mpr c4
  have c4b1 : (t386 != 0) = false := bne_eq_false_iff_eq.mpr c4
  clear c4
  by_cases c5 : (l1_1.length : Int) = 0
  ·rw [if_pos c5] at H
   have c5b0 : ((l1_1.length : Int) == 0) = true := beq_iff_eq.mpr c5
   have c5b1 : ((l1_1.length : Int) != 0) = false := bne_eq_false_iff_eq.mpr c5
   clear c5
   simp only [Option.some.injEq, Prod.mk.injEq] at H
   obtain ⟨rfl, rfl, rfl, rfl⟩ := H
   exact quot_Div.leaf
  ·rw [if_neg c5] at H
   have c5b0 : ((l1_1.length : Int) == 0) = false := beq_eq_false_iff_ne.mpr c5
   have c5b1 : ((l1_1.length : Int) != 0) = true := bne_iff_ne.mpr c5
   have c5b2 : ¬ (l1_1 = []) := fun h_ => c5 (by rw [h_]; rfl)
   obtain ⟨t387, A20, H⟩ := ob H
   obtain ⟨t388, A21, H⟩ := ob H
   obtain ⟨ji22, hji22⟩ : ∃ j_ : Int, (mx (wrap64 ((wrap64 ((wrap64 (t387 - t388)) + 40)) + 2)) 0) = j_ := ⟨_, rfl⟩
   replace H : ((quot_pow.f k (ji22)).bind fun t389 => ((nat_Mul.f k l0_1 t389).bind fun bt392 => ((quot_first_uint32.f bt392.1 bt392.2).bind fun t396 => ((nat_Div.f k t396 l1_1).bind fun bt399 => ((quot_parted.f k bt399.1 40).bind fun bt406 => ((quot_upward.f k bt406.1 bt406.2.1 bt406.2.2 (decide ((bt399.2.1.length : Int) > 0))).bind fun t413 => (if t413 = true then ((nat_From.f k 1).bind fun t414 => ((nat_Add.f k bt406.1 t414).bind fun bt417 => ((quot_first_uint32.f bt417.1 bt417.2).bind fun t421 => ((dec_Settle.f k (a0_0 != a1_0) t421 (wrap64 ((wrap64 ((wrap64 (a0_2 - a1_2)) - (ji22))) + bt406.2.2))).bind fun bt424 => (some (bt424.1, bt424.2.1, bt424.2.2.1, bt424.2.2.2)))))) else ((dec_Settle.f k (a0_0 != a1_0) bt406.1 (wrap64 ((wrap64 ((wrap64 (a0_2 - a1_2)) - (ji22))) + bt406.2.2))).bind fun bt430 => (some (bt430.1, bt430.2.1, bt430.2.2.1, bt430.2.2.2)))))))))) = some (r1, r2, r3, r4) := by first | (rw [hji22] at H; exact H) | (simp only [hji22] at H ⊢; exact H)
   (try rw [hji22] at A3)
   (try rw [hji22] at A20)
   (try rw [hji22] at A21)
   (try (have hji22l : 0 <= ji22 := by (rw [<- hji22]; unfold mx; (repeat' split) <;> omega)))
   (try (have hji22m : 0 <= ji22 := by omega))
   have hji22_ : (if (wrap64 ((wrap64 ((wrap64 (t387 - t388)) + 40)) + 2)) < 0 then 0 else (wrap64 ((wrap64 ((wrap64 (t387 - t388)) + 40)) + 2))) = ji22 := hji22
   obtain ⟨t389, A23, H⟩ := ob H
   obtain ⟨⟨t392, t393⟩, A24, H⟩ := ob H; (try dsimp only at H)
   obtain ⟨t396, A25, H⟩ := ob H
   replace H := Option.bind_eq_some_iff.mp H
   obtain ⟨⟨t399, t400, t401⟩, A260, H⟩ := H
   replace H : ((quot_parted.f k t399 40).bind fun bt406 => ((quot_upward.f k bt406.1 bt406.2.1 bt406.2.2 (decide (0 < t400.length))).bind fun t413 => (if t413 = true then ((nat_From.f k 1).bind fun t414 => ((nat_Add.f k bt406.1 t414).bind fun bt417 => ((quot_first_uint32.f bt417.1 bt417.2).bind fun t421 => ((dec_Settle.f k (a0_0 != a1_0) t421 (wrap64 ((wrap64 ((wrap64 (a0_2 - a1_2)) - (ji22))) + bt406.2.2))).bind fun bt424 => (some (bt424.1, bt424.2.1, bt424.2.2.1, bt424.2.2.2)))))) else ((dec_Settle.f k (a0_0 != a1_0) bt406.1 (wrap64 ((wrap64 ((wrap64 (a0_2 - a1_2)) - (ji22))) + bt406.2.2))).bind fun bt430 => (some (bt430.1, bt430.2.1, bt430.2.2.1, bt430.2.2.2)))))) = some (r1, r2, r3, r4) := by rw [show decide (0 < t400.length) = decide ((t400.length : Int) > 0) by simp]; exact H
   have A26 := am A260
   clear A260
   obtain ⟨⟨t406, t407, t408⟩, A27, H⟩ := ob H; (try dsimp only at H)
   obtain ⟨t413, A28, H⟩ := ob H
   by_cases c29 : t413 = true
   ·subst c29
    rw [if_pos rfl] at H
    obtain ⟨t414, A30, H⟩ := ob H
    obtain ⟨⟨t417, t418⟩, A31, H⟩ := ob H; (try dsimp only at H)
    obtain ⟨t421, A32, H⟩ := ob H
    obtain ⟨⟨t424, t425, t428, t429⟩, A33, H⟩ := ob H; (try dsimp only at H)
    simp only [Option.some.injEq, Prod.mk.injEq] at H
    obtain ⟨rfl, rfl, rfl, rfl⟩ := H
    exact quot_Div.leaf
   ·replace c29 := Bool.eq_false_iff.mpr c29
    subst c29
    rw [if_neg (show ¬ (false = true) by decide)] at H
    obtain ⟨⟨t430, t431, t434, t435⟩, A75, H⟩ := ob H; (try dsimp only at H)
    simp only [Option.some.injEq, Prod.mk.injEq] at H
    obtain ⟨rfl, rfl, rfl, rfl⟩ := H
    exact quot_Div.leaf
 ·rw [if_neg c4] at H
  have c4b0 : (t386 == 0) = false := beq_eq_false_iff_ne.mpr c4
  have c4b1 : (t386 != 0) = true := bne_iff_ne.mpr c4
  simp only [Option.some.injEq, Prod.mk.injEq] at H
  obtain ⟨rfl, rfl, rfl, rfl⟩ := H
  exact quot_Div.leaf
def quot_Sqrt.f (k : Nat) (a0_0 : Bool) (l0_1 : List Int) (a0_2 : Int) : Option (Bool × List Int × Int × Int) := (dec_Check.f k a0_0 l0_1 a0_2).bind fun t461 => (if t461 = 0 then (if a0_0 = true then (some (false, ([] : List Int), 0, 4)) else ((quot_digits.f k l0_1).bind fun t462 => ((quot_pow.f k (wrap64 ((mx (wrap64 (80 - t462)) 0) + (Go.bits .and .i64 (wrap64 (a0_2 - (mx (wrap64 (80 - t462)) 0))) 1)))).bind fun t463 => ((nat_Mul.f k l0_1 t463).bind fun bt466 => ((quot_first_uint32.f bt466.1 bt466.2).bind fun t470 => ((nat_Root.f k t470).bind fun bt473 => ((quot_first_uint32.f bt473.1 bt473.2).bind fun t477 => ((quot_parted.f k t477 40).bind fun bt480 => ((dec_Settle.f k false bt480.1 (wrap64 ((wrap64 (Int.tdiv (wrap64 (a0_2 - (wrap64 ((mx (wrap64 (80 - t462)) 0) + (Go.bits .and .i64 (wrap64 (a0_2 - (mx (wrap64 (80 - t462)) 0))) 1))))) 2)) + bt480.2.2))).bind fun bt487 => (some (bt487.1, bt487.2.1, bt487.2.2.1, bt487.2.2.2))))))))))) else (some (false, ([] : List Int), 0, t461)))
def quot_Sqrt.T8 : Bool × List (List Nat × List Nat) := (true, [([], []), ([0], [0]), ([], []), ([2], [2]), ([1, 3, 3], [1, 3]), ([4], [4]), ([4], [4]), ([5, 6, 4], [5, 6]), ([7, 7], [7]), ([8], [8]), ([8], [8]), ([9, 10, 8], [9, 10]), ([11, 11, 0, 1, 2, 3, 4, 5, 6, 7, 8, 9, 10, 11], [11])])
def quot_Sqrt.B8 : List Nat := [0, 1, 0, 4, 15, 31, 31, 127, 255, 511, 511, 2047, 4095]
theorem quot_Sqrt.tab8 : rtab .any (opsOf Tryz.f26 8) = quot_Sqrt.T8 := by kernel_rfl
theorem quot_Sqrt.bits8 : waitsOk quot_Sqrt.T8.2 quot_Sqrt.B8 = true := by kernel_rfl
theorem quot_Sqrt.leaf {P : Prop} (h : P := by
 go_enter Tryz.func26, Tryz.ntmps26
 try go_wp2_with (first | ((with_reducible refine gd 1 ?_); refine bx 1 #[.bool false, .slice A0_1 l0_1.length c0_1, .int .i64 a0_2] 24 (h := ?_); intro gb0z hg w1z hbox hb; have BK2z := am hbox; have GW3z := gW hg; have GE4z := gW hg; replace HB := bS hb; clear hb hbox hg) | ((with_reducible refine gd 2 ?_); refine bx 2 #[.bool false, .slice none 0 0, .int .i64 0] 24 (h := ?_); intro gb5z hg w6z hbox hb; have BK7z := am hbox; have GW8z := gW hg; have GE9z := gW hg; have NB10z := nL hg BK2z; have NB11z := nG hg BK2z; replace BK2z := bb BK2z hb; replace HB := bS hb; clear hb hbox hg; have hnb12z := NB10z.out; have hnc13z := NB11z.out; obtain ⟨hcz14z, hcz15z, hcz16z, hfz17z, hfz18z, hfz19z⟩ := cEc BK2z.out) | (refine gL (some 11) Tryz.func55 #[.agg #[.bool false, .slice A0_1 l0_1.length c0_1, .int .i64 a0_2]] (h := ?_); (with_reducible refine (dec_Check.calls k false _ _ l0_1 a0_2 t461 _ ?side1 ?side2 A2.out).mono ?_); (case side1 => refine cp ?_; exact (Kd.C_below HR0_1.out HB.out)); (case side2 => exact HC0_1.out); rintro e w20z ⟨rfl, hb⟩; refine ⟨_, rfl, ?_⟩; replace BK2z := bb BK2z hb; replace BK7z := bb BK7z hb; replace HB := bS hb; obtain ⟨hcz21z, hcz22z, hcz23z, hfz24z, hfz25z, hfz26z⟩ := cEc BK2z.out) | (refine gL (some 21) Tryz.func68 #[.slice A0_1 l0_1.length c0_1] (h := ?_); (with_reducible refine (quot_digits.calls k _ _ l0_1 t462 _ ?side1 ?side2 A12.out).mono ?_); (case side1 => refine cp ?_; exact (Kd.C_below HR0_1.out HB.out)); (case side2 => exact HC0_1.out); rintro e w27z ⟨rfl, hb⟩; refine ⟨_, rfl, ?_⟩; replace BK2z := bb BK2z hb; replace BK7z := bb BK7z hb; replace HB := bS hb; obtain ⟨hcz28z, hcz29z, hcz30z, hfz31z, hfz32z, hfz33z⟩ := cEc BK2z.out) | ((with_reducible refine gd 1 ?_); refine bx 1 #[.bool true, .slice A0_1 l0_1.length c0_1, .int .i64 a0_2] 24 (h := ?_); intro gb0z hg w1z hbox hb; have BK2z := am hbox; have GW3z := gW hg; have GE4z := gW hg; replace HB := bS hb; clear hb hbox hg) | (refine gL (some 11) Tryz.func55 #[.agg #[.bool true, .slice A0_1 l0_1.length c0_1, .int .i64 a0_2]] (h := ?_); (with_reducible refine (dec_Check.calls k true _ _ l0_1 a0_2 t461 _ ?side1 ?side2 A2.out).mono ?_); (case side1 => refine cp ?_; exact (Kd.C_below HR0_1.out HB.out)); (case side2 => exact HC0_1.out); rintro e w20z ⟨rfl, hb⟩; refine ⟨_, rfl, ?_⟩; replace BK2z := bb BK2z hb; replace BK7z := bb BK7z hb; replace HB := bS hb; obtain ⟨hcz21z, hcz22z, hcz23z, hfz24z, hfz25z, hfz26z⟩ := cEc BK2z.out; obtain ⟨hcz27z, hcz28z, hcz29z, hfz30z, hfz31z, hfz32z⟩ := cEc BK7z.out) | ((with_reducible refine gd 1 ?_); refine bx 1 #[.bool a0_0, .slice A0_1 l0_1.length c0_1, .int .i64 a0_2] 24 (h := ?_); intro gb0z hg w1z hbox hb; have BK2z := am hbox; have GW3z := gW hg; have GE4z := gW hg; replace HB := bS hb; clear hb hbox hg) | (refine gL (some 11) Tryz.func55 #[.agg #[.bool a0_0, .slice A0_1 l0_1.length c0_1, .int .i64 a0_2]] (h := ?_); (with_reducible refine (dec_Check.calls k a0_0 _ _ l0_1 a0_2 t461 _ ?side1 ?side2 A2.out).mono ?_); (case side1 => refine cp ?_; exact (Kd.C_below HR0_1.out HB.out)); (case side2 => exact HC0_1.out); rintro e w20z ⟨rfl, hb⟩; refine ⟨_, rfl, ?_⟩; replace BK2z := bb BK2z hb; replace BK7z := bb BK7z hb; replace HB := bS hb; obtain ⟨hcz21z, hcz22z, hcz23z, hfz24z, hfz25z, hfz26z⟩ := cEc BK7z.out))
 first
  | have q_ := A20
    replace BK2z := am (blk_drew BK2z.out)
    replace BK7z := am (blk_drew BK7z.out)
    replace HB := am (below_drew1 HB.out)
    refine start_ (n := 13) (S := fun w' => w'.cell? ⟨gb0z, 0, none⟩ = some (.bool false) /\ w'.cell? ⟨gb0z, 1, none⟩ = some (.slice A0_1 l0_1.length c0_1) /\ w'.cell? ⟨gb0z, 2, none⟩ = some (.int .i64 a0_2)) (ds := []) #[false, false, false, false, false, false, false, false, false, false, false, false, false] (by kernel_rfl) rfl rfl ⟨k0 BK2z 0, k0 BK2z 1, k0 BK2z 2⟩ (fun hHeld => ?_); refine with_tabW quot_Sqrt.tab8 quot_Sqrt.bits8 (fun HT_ HW_ => ?_)
    generalize w27z.drew = w34z at BK2z BK7z HB hHeld ⊢
    refine pu 0 (some 31) #[true, false, false, false, false, false, false, false, false, false, false, false, false] (h := ?_)
    refine pu 2 (some 33) #[true, false, true, false, false, false, false, false, false, false, false, false, false] (h := ?_)
    refine take_ (i := 1) (N := some 32) (v := ?_) (a' := ?_) #[true, true, true, false, false, false, false, false, false, false, false, false, false] rfl rfl (take_ofW HT_.out HW_.out (by kernel_rfl)) (fun _ _ _ h => h) (Or.inl ⟨by rfl, ?_⟩) hHeld ?_ ?_
    rotate_left
    ·rintro w' ⟨s35z, s36z, s37z⟩
     go_simp
     with_reducible rfl
    rotate_left
    ·exact pP
    refine one_ (i := 3) (N := some 34) #[true, true, true, true, false, false, false, false, false, false, false, false, false] rfl rfl (one_of HT_.out (by kernel_rfl)) (by decide) (fun K hK => ?_)
    refine goes_ Tryz.func72 (by kernel_rfl) rfl #[.int .i64 (wrap64 ((ji13) + (Go.bits .and .i64 (wrap64 (a0_2 - (ji13))) 1)))] (by rfl) rfl rfl (by (try simp only [List.map_toArray, List.map_cons, List.map_nil]); first | done | (simp only [hji13]; rfl) | rfl | (simp only [List.length_drop, List.length_take]; rfl)) ?_
    with_reducible refine (quot_pow.calls k (wrap64 ((ji13) + (Go.bits .and .i64 (wrap64 (a0_2 - (ji13))) 1))) t463 _ A14.out).mono ?_
    rintro e w38z ⟨v39z, rfl, ho40z, hb⟩
    refine ⟨_, rfl, ?_⟩
    have HO41z := am (Kd.R_lower ho40z (below_size pB))
    replace BK2z := bb BK2z hb
    replace BK7z := bb BK7z hb
    replace HB := bS hb
    obtain ⟨Ao42z, co43z, eo44z⟩ := Kd.R_slice HO41z.out
    (first | subst eo44z | (injection eo44z with f1_ f2_ f3_; have f4_ := f1_.symm; have f5_ := f3_.symm; clear f1_ f2_ f3_; subst f4_; subst f5_))
    refine hK.out _ _ ⟨k0 BK2z 0, k0 BK2z 1, k0 BK2z 2⟩ (fun hHeld => ?_)
    clear hK K
    refine norm_ (a' := ?_) ?_ ?_
    rotate_left
    ·show Act.put _ (some 34) _ = _
     exact pP
    refine one_ (i := 4) (N := some 35) #[true, true, true, true, true, false, false, false, false, false, false, false, false] rfl rfl (one_of HT_.out (by kernel_rfl)) (by decide) (fun K hK => ?_)
    refine goes_ Tryz.func71 (by kernel_rfl) rfl #[.slice A0_1 l0_1.length c0_1, .slice Ao42z t463.length co43z] (by rfl) rfl rfl pA ?_
    with_reducible refine (nat_Mul.calls k _ _ l0_1 _ _ t463 t466 t467 _ ?side1 ?side2 ?side3 ?side4 A15.out).mono ?_
    (case side1 => refine cp ?_; exact (Kd.C_below HR0_1.out HB.out))
    (case side2 => exact HC0_1.out)
    (case side3 => exact Kd.C_below (Kd.R_reads' HO41z.out).2.2 pl)
    (case side4 => exact (Kd.R_reads' HO41z.out).2.1)
    rintro e w45z ⟨v46z, rfl, ho40z, hb⟩
    refine ⟨_, rfl, ?_⟩
    have HO47z := am (Kd.R_lower (Kd.R_new' ho40z (Kd.R_lt (Kd.R_below HO41z.out pl))) (below_size pB))
    replace HO41z := reR HO41z ho40z hb
    replace BK2z := bb BK2z hb
    replace BK7z := bb BK7z hb
    replace HB := bS hb
    obtain ⟨Ao48z, co49z, eo50z⟩ := Kd.R_slice HO47z.out
    (first | subst eo50z | (injection eo50z with f1_ f2_ f3_; have f4_ := f1_.symm; have f5_ := f3_.symm; clear f1_ f2_ f3_; subst f4_; subst f5_))
    refine hK.out _ _ ⟨k0 BK2z 0, k0 BK2z 1, k0 BK2z 2⟩ (fun hHeld => ?_)
    clear hK K
    refine norm_ (a' := ?_) ?_ ?_
    rotate_left
    ·show Act.put _ (some 35) _ = _
     exact pP
    refine pu 5 (some 36) #[true, true, true, true, true, true, false, false, false, false, false, false, false] (h := ?_)
    refine pu 6 (some 37) #[true, true, true, true, true, true, true, false, false, false, false, false, false] (h := ?_)
    refine one_ (i := 7) (N := some 38) #[true, true, true, true, true, true, true, true, false, false, false, false, false] rfl rfl (one_of HT_.out (by kernel_rfl)) (by decide) (fun K hK => ?_)
    refine goes_ Tryz.func70 (by kernel_rfl) rfl #[.slice Ao48z t466.length co49z, .int .i64 t467] (by rfl) rfl rfl pA ?_
    with_reducible refine (quot_first_uint32.calls (fun k_ => some k_ = (.slice Ao48z t466.length co49z : Value).ownBlock) (.slice Ao48z t466.length co49z) t466 t467 t470 w _ ?side1 ?side2 A16.out).mono ?_
    (case side1 => exact pB)
    (case side2 => exact Kd.R_tight rfl HO47z.out)
    rintro e w51z ⟨v52z, rfl, ho40z, hb, hkp⟩
    refine ⟨_, rfl, ?_⟩
    have HO53z := am (Kd.R_mono (ok' := fun k_ => some k_ ≠ (.slice Ao42z t463.length co43z : Value).ownBlock) ho40z (fun k_ hk_ => Or.elim hk_ (fun hs_ => fun e_ => (((HO41z.out).1 k_ e_.symm).2) hs_) (fun hn_ => (Kd.fresh' (Kd.R_lt (Kd.R_below HO41z.out pl)) k_ hn_))))
    replace BK2z := am (blk_kept (blk_below BK2z.out pl) hkp (fun e_ => Kd.R_ne HO47z.out BK2z.out (by decide) e_))
    replace BK7z := am (blk_kept (blk_below BK7z.out pl) hkp (fun e_ => Kd.R_ne HO47z.out BK7z.out (by decide) e_))
    replace HO41z := am (Kd.R_mono (ok' := fun k_ => some k_ ≠ (v52z : Value).ownBlock) (Kd.R_keptB (HO41z.out) hkp (fun k_ hk_ hs_ => (hk_.2) hs_)) (fun k_ hk_ => fun e_ => Or.elim (ho40z.1 k_ e_.symm) (fun hs_ => hk_.2.1 hs_) (fun hn_ => Nat.not_le.2 hk_.2.2 hn_)))
    replace HB := am hb
    clear HO47z
    obtain ⟨Ao54z, co55z, eo56z⟩ := Kd.R_slice HO53z.out
    (first | subst eo56z | (injection eo56z with f1_ f2_ f3_; have f4_ := f1_.symm; have f5_ := f3_.symm; clear f1_ f2_ f3_; subst f4_; subst f5_))
    refine hK.out _ _ ⟨k0 BK2z 0, k0 BK2z 1, k0 BK2z 2⟩ (fun hHeld => ?_)
    clear hK K
    refine norm_ (a' := ?_) ?_ ?_
    rotate_left
    ·show Act.put _ (some 38) _ = _
     exact pP
    refine one_ (i := 8) (N := some 39) #[true, true, true, true, true, true, true, true, true, false, false, false, false] rfl rfl (one_of HT_.out (by kernel_rfl)) (by decide) (fun K hK => ?_)
    refine goes_ Tryz.func82 (by kernel_rfl) rfl #[.slice Ao54z t470.length co55z] (by rfl) rfl rfl pA ?_
    with_reducible refine (nat_Root.calls k _ _ t470 t473 t474 _ ?side1 ?side2 A17.out).mono ?_
    (case side1 => exact Kd.C_below (Kd.R_reads' HO53z.out).2.2 pl)
    (case side2 => exact (Kd.R_reads' HO53z.out).2.1)
    rintro e w57z ⟨v58z, rfl, ho40z, hb⟩
    refine ⟨_, rfl, ?_⟩
    have HO59z := am (Kd.R_lower (Kd.R_new' (Kd.R_new' ho40z (Kd.R_lt (Kd.R_below HO41z.out pl))) (Kd.R_lt (Kd.R_below HO53z.out pl))) (below_size pB))
    replace HO41z := reR HO41z ho40z hb
    replace HO53z := reR HO53z ho40z hb
    replace BK2z := bb BK2z hb
    replace BK7z := bb BK7z hb
    replace HB := bS hb
    obtain ⟨Ao60z, co61z, eo62z⟩ := Kd.R_slice HO59z.out
    (first | subst eo62z | (injection eo62z with f1_ f2_ f3_; have f4_ := f1_.symm; have f5_ := f3_.symm; clear f1_ f2_ f3_; subst f4_; subst f5_))
    refine hK.out _ _ ⟨k0 BK2z 0, k0 BK2z 1, k0 BK2z 2⟩ (fun hHeld => ?_)
    clear hK K
    refine norm_ (a' := ?_) ?_ ?_
    rotate_left
    ·show Act.put _ (some 39) _ = _
     exact pP
    refine pu 9 (some 40) #[true, true, true, true, true, true, true, true, true, true, false, false, false] (h := ?_)
    refine pu 10 (some 41) #[true, true, true, true, true, true, true, true, true, true, true, false, false] (h := ?_)
    refine one_ (i := 11) (N := some 42) #[true, true, true, true, true, true, true, true, true, true, true, true, false] rfl rfl (one_of HT_.out (by kernel_rfl)) (by decide) (fun K hK => ?_)
    refine goes_ Tryz.func70 (by kernel_rfl) rfl #[.slice Ao60z t473.length co61z, .int .i64 t474] (by rfl) rfl rfl pA ?_
    with_reducible refine (quot_first_uint32.calls (fun k_ => some k_ = (.slice Ao60z t473.length co61z : Value).ownBlock) (.slice Ao60z t473.length co61z) t473 t474 t477 w _ ?side1 ?side2 A18.out).mono ?_
    (case side1 => exact pB)
    (case side2 => exact Kd.R_tight rfl HO59z.out)
    rintro e w63z ⟨v64z, rfl, ho40z, hb, hkp⟩
    refine ⟨_, rfl, ?_⟩
    have HO65z := am (Kd.R_mono (ok' := fun k_ => some k_ ≠ (.slice Ao42z t463.length co43z : Value).ownBlock /\ some k_ ≠ (.slice Ao54z t470.length co55z : Value).ownBlock) ho40z (fun k_ hk_ => ⟨Or.elim hk_ (fun hs_ => fun e_ => (((HO41z.out).1 k_ e_.symm).2) hs_) (fun hn_ => (Kd.fresh' (Kd.R_lt (Kd.R_below HO41z.out pl)) k_ hn_)), Or.elim hk_ (fun hs_ => fun e_ => (((HO53z.out).1 k_ e_.symm).2) hs_) (fun hn_ => (Kd.fresh' (Kd.R_lt (Kd.R_below HO53z.out pl)) k_ hn_))⟩))
    replace BK2z := am (blk_kept (blk_below BK2z.out pl) hkp (fun e_ => Kd.R_ne HO59z.out BK2z.out (by decide) e_))
    replace BK7z := am (blk_kept (blk_below BK7z.out pl) hkp (fun e_ => Kd.R_ne HO59z.out BK7z.out (by decide) e_))
    replace HO41z := am (Kd.R_mono (ok' := fun k_ => some k_ ≠ (.slice Ao54z t470.length co55z : Value).ownBlock /\ some k_ ≠ (v64z : Value).ownBlock) (Kd.R_keptB (HO41z.out) hkp (fun k_ hk_ hs_ => (hk_.2) hs_)) (fun k_ hk_ => ⟨hk_.1.1, fun e_ => Or.elim (ho40z.1 k_ e_.symm) (fun hs_ => hk_.2.1 hs_) (fun hn_ => Nat.not_le.2 hk_.2.2 hn_)⟩))
    replace HO53z := am (Kd.R_mono (ok' := fun k_ => some k_ ≠ (.slice Ao42z t463.length co43z : Value).ownBlock /\ some k_ ≠ (v64z : Value).ownBlock) (Kd.R_keptB (HO53z.out) hkp (fun k_ hk_ hs_ => (hk_.2) hs_)) (fun k_ hk_ => ⟨hk_.1.1, fun e_ => Or.elim (ho40z.1 k_ e_.symm) (fun hs_ => hk_.2.1 hs_) (fun hn_ => Nat.not_le.2 hk_.2.2 hn_)⟩))
    replace HB := am hb
    clear HO59z
    refine hK.out _ _ ⟨k0 BK2z 0, k0 BK2z 1, k0 BK2z 2⟩ (fun hHeld => ?_)
    clear hK K
    refine norm_ (a' := ?_) ?_ ?_
    rotate_left
    ·show Act.put _ (some 42) _ = _
     exact pP
    refine pu 12 (some 6) #[true, true, true, true, true, true, true, true, true, true, true, true, true] (h := ?_)
    refine done_ (done_of HT_.out (by kernel_rfl)) ?_
    obtain ⟨Ao66z, co67z, eo68z⟩ := Kd.R_slice HO65z.out
    subst eo68z
    try go_wp2_with (first | (refine gL (some 45) Tryz.func73 #[.slice Ao66z t477.length co67z, .int .i64 40] (h := ?_); (with_reducible refine (quot_parted.calls k _ _ t477 40 t480 t481 t482 _ ?side1 ?side2 A19.out).mono ?_); (case side1 => exact Kd.C_below (Kd.R_reads' HO65z.out).2.2 pl); (case side2 => exact (Kd.R_reads' HO65z.out).2.1); rintro e w69z ⟨v70z, v71z, rfl, ho40z, ho72z, hb⟩; refine ⟨_, rfl, ?_⟩; have HO73z := am (Kd.R_lower (Kd.R_new' (Kd.R_new' (Kd.R_new' ho40z (Kd.R_lt (Kd.R_below HO41z.out pl))) (Kd.R_lt (Kd.R_below HO53z.out pl))) (Kd.R_lt (Kd.R_below HO65z.out pl))) (below_size pB)); have HO74z := am (Kd.R_lower (Kd.R_new' (Kd.R_new' (Kd.R_new' ho72z (Kd.R_lt (Kd.R_below HO41z.out pl))) (Kd.R_lt (Kd.R_below HO53z.out pl))) (Kd.R_lt (Kd.R_below HO65z.out pl))) (below_size pB)); replace HO41z := am (Kd.R_mono (Kd.R_told (Kd.R_told (Kd.R_old (Kd.R_below HO41z.out pl) hb) (Kd.R_base ho40z)) (Kd.R_base ho72z)) (fun _ h_ => h_.1)); replace HO53z := am (Kd.R_mono (Kd.R_told (Kd.R_told (Kd.R_old (Kd.R_below HO53z.out pl) hb) (Kd.R_base ho40z)) (Kd.R_base ho72z)) (fun _ h_ => h_.1)); replace HO65z := am (Kd.R_mono (Kd.R_told (Kd.R_told (Kd.R_old (Kd.R_below HO65z.out pl) hb) (Kd.R_base ho40z)) (Kd.R_base ho72z)) (fun _ h_ => h_.1)); replace BK2z := bb BK2z hb; replace BK7z := bb BK7z hb; replace HB := bS hb; obtain ⟨hcz75z, hcz76z, hcz77z, hfz78z, hfz79z, hfz80z⟩ := cEc BK2z.out; obtain ⟨Ao81z, co82z, eo83z⟩ := Kd.R_slice HO73z.out; subst eo83z) | ((with_reducible refine gate_callee (f := 60) rfl ?_); refine goesL_ (some 57) rfl rfl Tryz.func60 (by kernel_rfl) rfl #[.bool false, .slice Ao81z t480.length co82z, .int .i64 (wrap64 ((wrap64 (Int.tdiv (wrap64 (a0_2 - (wrap64 ((ji13) + (Go.bits .and .i64 (wrap64 (a0_2 - (ji13))) 1))))) 2)) + t482))] rfl (by (try simp only [List.map_toArray, List.map_cons, List.map_nil]); first | done | (simp only [hji13]; rfl) | rfl | (simp only [List.length_drop, List.length_take]; rfl)) ?_; (with_reducible refine (dec_Settle.calls k false _ _ t480 (wrap64 ((wrap64 (Int.tdiv (wrap64 (a0_2 - (wrap64 ((ji13) + (Go.bits .and .i64 (wrap64 (a0_2 - (ji13))) 1))))) 2)) + t482)) t487 t488 t491 t492 _ ?side1 ?side2 A20.out).mono ?_); (case side1 => exact Kd.C_below (Kd.R_reads' HO73z.out).2.2 pl); (case side2 => exact (Kd.R_reads' HO73z.out).2.1); rintro e w84z ⟨v85z, rfl, ho40z, hb⟩; refine ⟨_, rfl, ?_⟩; have HO86z := am (Kd.R_lower (Kd.R_new' (Kd.R_new' (Kd.R_new' (Kd.R_new' (Kd.R_new' ho40z (Kd.R_lt (Kd.R_below HO41z.out pl))) (Kd.R_lt (Kd.R_below HO53z.out pl))) (Kd.R_lt (Kd.R_below HO65z.out pl))) (Kd.R_lt (Kd.R_below HO73z.out pl))) (Kd.R_lt (Kd.R_below HO74z.out pl))) (below_size pB)); replace HO41z := reR HO41z ho40z hb; replace HO53z := reR HO53z ho40z hb; replace HO65z := reR HO65z ho40z hb; replace HO73z := reR HO73z ho40z hb; replace HO74z := reR HO74z ho40z hb; replace BK2z := bb BK2z hb; replace BK7z := bb BK7z hb; replace HB := bS hb; obtain ⟨hcz87z, hcz88z, hcz89z, hfz90z, hfz91z, hfz92z⟩ := cEc BK7z.out; obtain ⟨Ao93z, co94z, eo95z⟩ := Kd.R_slice HO86z.out; subst eo95z))
    refine bodyPost_ret (results_ct rfl _ _ gb5z 24 #[.bool t487, .slice Ao93z t488.length co94z, .int .i64 t491] (0, 0) _ rfl (by exact p3 BK7z) Tryz.underlying24 rfl (by kernel_rfl)) rfl ?_
    exact ⟨_, by first | rfl | (simp [errW_none, errW_some] <;> rfl) | (simp only [<- hji13]; first | rfl | (simp [errW_none, errW_some] <;> rfl)) | (simp [*, errW_none, errW_some] <;> rfl), by refine rp ?_; exact Kd.R_mono (Kd.R_far (p := ⟨gb5z, 2, none⟩) (Kd.R_far (p := ⟨gb5z, 1, none⟩) (Kd.R_far (p := ⟨gb5z, 0, none⟩) (Kd.R_types HO86z.out BK7z.out (by decide)) (fun _ hk => hk.2) (.bool t487)) (fun _ hk => hk.2) (.slice Ao93z t488.length co94z)) (fun _ hk => hk.2) (.int .i64 t491)) (fun _ hk => trivial), pB⟩
  | refine bodyPost_ret (results_ct rfl _ _ gb5z 24 #[.bool false, .slice none 0 0, .int .i64 0] (0, 0) _ rfl (by exact p3 BK7z) Tryz.underlying24 rfl (by kernel_rfl)) rfl ?_
    exact ⟨_, pE, pN, pB⟩) : P := h
theorem quot_Sqrt.calls (k : Nat) (a0_0 : Bool) (A0_1 : Option Addr) (c0_1 : Nat) (l0_1 : List Int) (a0_2 : Int) (r1 : Bool) (r2 : List Int) (r3 : Int) (r4 : Int) (w : World) (hr0_1 : Kd.C (Kd.int .u32) w A0_1 l0_1.length l0_1) (hc0_1 : l0_1.length <= c0_1) (h : quot_Sqrt.f k a0_0 l0_1 a0_2 = some (r1, r2, r3, r4)) :
  Calls Tryz.prog 26 #[.agg #[.bool a0_0, .slice A0_1 l0_1.length c0_1, .int .i64 a0_2]] w fun e w' => ∃ v1_ : Value, e = .returned (.tuple #[.agg #[.bool r1, v1_, .int .i64 r3], .int .i64 r4]) /\ Kd.R (Kd.int .u32) 85 w' w.heap.size (fun _ => True) v1_ r2 /\ Below w.heap.size w w' := by
 have hu24 := Tryz.underlying24
 have HR0_1 := am hr0_1
 have HC0_1 := am hc0_1
 clear hr0_1 hc0_1
 have HB := am (Below.refl w.heap.size w)
 have H : ((dec_Check.f k a0_0 l0_1 a0_2).bind fun t461 => (if t461 = 0 then (if a0_0 = true then (some (false, ([] : List Int), 0, 4)) else ((quot_digits.f k l0_1).bind fun t462 => ((quot_pow.f k (wrap64 ((mx (wrap64 (80 - t462)) 0) + (Go.bits .and .i64 (wrap64 (a0_2 - (mx (wrap64 (80 - t462)) 0))) 1)))).bind fun t463 => ((nat_Mul.f k l0_1 t463).bind fun bt466 => ((quot_first_uint32.f bt466.1 bt466.2).bind fun t470 => ((nat_Root.f k t470).bind fun bt473 => ((quot_first_uint32.f bt473.1 bt473.2).bind fun t477 => ((quot_parted.f k t477 40).bind fun bt480 => ((dec_Settle.f k false bt480.1 (wrap64 ((wrap64 (Int.tdiv (wrap64 (a0_2 - (wrap64 ((mx (wrap64 (80 - t462)) 0) + (Go.bits .and .i64 (wrap64 (a0_2 - (mx (wrap64 (80 - t462)) 0))) 1))))) 2)) + bt480.2.2))).bind fun bt487 => (some (bt487.1, bt487.2.1, bt487.2.2.1, bt487.2.2.2))))))))))) else (some (false, ([] : List Int), 0, t461)))) = some (r1, r2, r3, r4) := h
 clear h
 obtain ⟨t461, A2, H⟩ := ob H
 by_cases c3 : t461 = 0
 ·rw [if_pos c3] at H
  have c3b0 : (t461 == 0) = true := beq_iff_eq.mpr c3
  have c3b1 : (t461 != 0) = false := bne_eq_false_iff_eq.mpr c3
  clear c3
  by_cases c4 : a0_0 = true
  ·subst c4
   rw [if_pos rfl] at H
   simp only [Option.some.injEq, Prod.mk.injEq] at H
   obtain ⟨rfl, rfl, rfl, rfl⟩ := H
   exact quot_Sqrt.leaf
  ·replace c4 := Bool.eq_false_iff.mpr c4
   subst c4
   rw [if_neg (show ¬ (false = true) by decide)] at H
   obtain ⟨t462, A12, H⟩ := ob H
   obtain ⟨ji13, hji13⟩ : ∃ j_ : Int, (mx (wrap64 (80 - t462)) 0) = j_ := ⟨_, rfl⟩
   replace H : ((quot_pow.f k (wrap64 ((ji13) + (Go.bits .and .i64 (wrap64 (a0_2 - (ji13))) 1)))).bind fun t463 => ((nat_Mul.f k l0_1 t463).bind fun bt466 => ((quot_first_uint32.f bt466.1 bt466.2).bind fun t470 => ((nat_Root.f k t470).bind fun bt473 => ((quot_first_uint32.f bt473.1 bt473.2).bind fun t477 => ((quot_parted.f k t477 40).bind fun bt480 => ((dec_Settle.f k false bt480.1 (wrap64 ((wrap64 (Int.tdiv (wrap64 (a0_2 - (wrap64 ((ji13) + (Go.bits .and .i64 (wrap64 (a0_2 - (ji13))) 1))))) 2)) + bt480.2.2))).bind fun bt487 => (some (bt487.1, bt487.2.1, bt487.2.2.1, bt487.2.2.2))))))))) = some (r1, r2, r3, r4) := by first | (rw [hji13] at H; exact H) | (simp only [hji13] at H ⊢; exact H)
   (try rw [hji13] at A2)
   (try rw [hji13] at A12)
   (try (have hji13l : 0 <= ji13 := by (rw [<- hji13]; unfold mx; (repeat' split) <;> omega)))
   (try (have hji13m : 0 <= ji13 := by omega))
   have hji13_ : (if (wrap64 (80 - t462)) < 0 then 0 else (wrap64 (80 - t462))) = ji13 := hji13
   obtain ⟨t463, A14, H⟩ := ob H
   obtain ⟨⟨t466, t467⟩, A15, H⟩ := ob H; (try dsimp only at H)
   obtain ⟨t470, A16, H⟩ := ob H
   obtain ⟨⟨t473, t474⟩, A17, H⟩ := ob H; (try dsimp only at H)
   obtain ⟨t477, A18, H⟩ := ob H
   obtain ⟨⟨t480, t481, t482⟩, A19, H⟩ := ob H; (try dsimp only at H)
   obtain ⟨⟨t487, t488, t491, t492⟩, A20, H⟩ := ob H; (try dsimp only at H)
   simp only [Option.some.injEq, Prod.mk.injEq] at H
   obtain ⟨rfl, rfl, rfl, rfl⟩ := H
   exact quot_Sqrt.leaf
 ·rw [if_neg c3] at H
  have c3b0 : (t461 == 0) = false := beq_eq_false_iff_ne.mpr c3
  have c3b1 : (t461 != 0) = true := bne_iff_ne.mpr c3
  simp only [Option.some.injEq, Prod.mk.injEq] at H
  obtain ⟨rfl, rfl, rfl, rfl⟩ := H
  exact quot_Sqrt.leaf
end YtjbjkmccfocikaaGreatDoor.B
end
section
namespace YtjbjkmccfocikaaGreatDoor.P.Nm
open Go.RowKit YtjbjkmccfocikaaGreatDoorW.PrintWords YtjbjkmccfocikaaGreatDoorW.PrintLast YtjbjkmccfocikaaGreatDoorW.PrintMore YtjbjkmccfocikaaGreatDoor.B YtjbjkmccfocikaaGreatDoor.P
theorem qask1_tells (a : Bool) (l : List Int) (e : Int) (hd : Dg 4294967296 l) (hl : l.length <= 9223372036854775807) : Tells (fun k => quot_ask_1.f k a l e) (decide (chk a l e ≠ 0)) := by
 unfold quot_ask_1.f
 refine (DCheck_tells a l e hd hl).bind ((Tells.pure _).val ?_)
 by_cases h : chk a l e = 0 <;> simp [h]
theorem qask_tells (a : Bool) (l : List Int) (e : Int) (b : Bool) (m : List Int) (g : Int) (hd : Dg 4294967296 l) (hl : l.length <= 9223372036854775807) (hd2 : Dg 4294967296 m) (hl2 : m.length <= 9223372036854775807) : Tells (fun k => quot_ask.f k [⟨a, l, e⟩, ⟨b, m, g⟩]) (if chk a l e = 0 /\ chk b m g = 0 then 0 else 9) := by
 have h1 : Tells (fun k => quot_ask_any.f k [⟨a, l, e⟩, ⟨b, m, g⟩]) (decide (¬ (chk a l e = 0 /\ chk b m g = 0))) := by
  unfold quot_ask_any.f
  simp only [anyO]
  refine (qask1_tells a l e hd hl).bind ?_
  by_cases h : chk a l e = 0
  ·refine Tells.ifn (by simp [h]) ((qask1_tells b m g hd2 hl2).bind ?_)
   by_cases h2 : chk b m g = 0
   ·exact Tells.ifn (by simp [h2]) ((Tells.pure _).val (by simp [h, h2]))
   ·exact Tells.ifp (by simp [h2]) ((Tells.pure _).val (by simp [h, h2]))
  ·exact Tells.ifp (by simp [h]) ((Tells.pure _).val (by simp [h]))
 unfold quot_ask.f
 refine h1.bind ?_
 by_cases h : chk a l e = 0 /\ chk b m g = 0
 ·rw [if_pos h]
  exact Tells.ifn (by simp [h]) (Tells.pure _)
 ·rw [if_neg h]
  exact Tells.ifp (decide_eq_true h) (Tells.pure _)
theorem qask_D (D E : Dm) (hD : OkD D) (hE : OkD E) : Tells (fun k => quot_ask.f k [⟨D.neg, limbs D.n, D.e⟩, ⟨E.neg, limbs E.n, E.e⟩]) 0 := by
 have h1 := okd_limbs hD
 have h2 := okd_limbs hE
 have := qask_tells D.neg (limbs D.n) D.e E.neg (limbs E.n) E.e (limbs_dg _) (by omega) (limbs_dg _) (by omega)
 rw [if_pos ⟨chk_of hD, chk_of hE⟩] at this
 exact this
theorem dl_size (n : Nat) : (decT n).size = dl n := decT_size n
theorem qdigits_tells {n : Nat} (h : (limbs n).length <= 256) : Tells (fun k => quot_digits.f k (limbs n)) (dl n : Int) := by
 unfold quot_digits.f quot_first_string.f
 refine (Print_tells h).bind ((Tells.pure _).bind ((Tells.pure _).val ?_))
 rw [dl_size]
theorem qpow_tells {n : Nat} (h : n <= 2400) : Tells (fun k => quot_pow.f k (n : Int)) (limbs (10 ^ n)) := by
 unfold quot_pow.f quot_first_uint32.f
 exact (Pow_tells n h).bind ((Tells.pure _).bind (Tells.pure _))
theorem qparted_tells {n : Nat} (h : (limbs n).length <= 256) (hn : nd n <= 2300) : Tells (fun k => quot_parted.f k (limbs n) 40) (limbs (n / 10 ^ cutN n), limbs (n % 10 ^ cutN n), (cutN n : Int)) := by
 have h1 := dl_le n
 have e1 : mx (wrap64 ((dl n : Int) - 40)) 0 = ((cutN n : Nat) : Int) := by rw [w64n (by omega) (by omega), mx_eq]; unfold cutN; omega
 have hp := qpow_tells (n := cutN n) (by unfold cutN; omega)
 have hpl : (limbs (10 ^ cutN n)).length <= 256 := len_nd (by rw [nd_pow]; unfold cutN; omega)
 have hp0 : 10 ^ cutN n ≠ 0 := by have := pow10_pos (cutN n); omega
 unfold quot_parted.f
 refine (qdigits_tells h).bind ?_
 rw [e1]
 refine hp.bind ((Div_tells h hpl).bind ?_)
 rw [if_neg hp0]
 exact Tells.pure _
theorem rd_limbs {n : Nat} (h : n ≠ 0) : rd (limbs n) 0 = ((n % 4294967296 : Nat) : Int) := by
 unfold limbs
 rw [ofV_step (b := 4294967296) (by omega) h]
 rfl
theorem qupward_tells {h l c : Nat} (rest : Bool) (hh : (limbs h).length <= 256) (hl : (limbs l).length <= 256) (hc : c <= 2300) : Tells (fun k => quot_upward.f k (limbs h) (limbs l) (c : Int) rest) (upB h l c rest) := by
 unfold quot_upward.f quot_first_uint32.f upB
 by_cases h0 : c = 0
 ·subst h0
  exact Tells.ifp rfl (Tells.pure _)
 ·obtain ⟨j, rfl⟩ : ∃ j, c = j + 1 := ⟨c - 1, by omega⟩
  have e1 : wrap64 (((j + 1 : Nat) : Int) - 1) = (j : Int) := by rw [w64n (by omega) (by omega)]; omega
  have hx : nd (10 ^ j * 5) <= j + 2 := nd_le (by
   rw [show j + 2 = (j + 1) + 1 from rfl, Nat.pow_succ, Nat.pow_succ]
   have := pow10_pos j
   omega)
  have hm := Mul_tells (m := 10 ^ j) (n := 5) (len_nd (by rw [nd_pow]; omega)) (by decide +kernel)
  rw [fit_of (len_nd (by omega))] at hm
  have hcm := Compare_tells (m := l) (n := 10 ^ j * 5) hl (len_nd (by omega))
  rw [if_neg h0, Nat.add_sub_cancel]
  refine Tells.ifn (by omega) ?_
  rw [e1]
  refine (qpow_tells (by omega)).bind ((From_tells 5 (by omega)).bind (hm.bind ((Tells.pure _).bind (hcm.bind ?_))))
  dsimp only
  obtain ⟨H, hH⟩ : ∃ H, 5 * 10 ^ j = H := ⟨_, rfl⟩
  rw [Nat.mul_comm (10 ^ j) 5, hH]
  have fin : ∀ (odd : Bool), odd = decide (h % 2 = 1) -> Tells (fun k => if cmpN l H > 0 then some true else if cmpN l H = 0 then if rest = true then some true else some odd else some false)
    (if H < l then true else if l = H then rest || decide (h % 2 = 1) else false) := fun odd ho => by
   by_cases h1 : l < H
   ·have hv : cmpN l H = -1 := by unfold cmpN; rw [if_pos h1]
    rw [hv, if_neg (show ¬ H < l by omega), if_neg (show ¬ l = H by omega)]
    exact Tells.ifn (by decide) (Tells.ifn (by decide) (Tells.pure _))
   ·by_cases h2 : H < l
    ·have hv : cmpN l H = 1 := by unfold cmpN; rw [if_neg h1, if_pos h2]
     rw [hv, if_pos h2]
     exact Tells.ifp (by decide) (Tells.pure _)
    ·have hv : cmpN l H = 0 := by unfold cmpN; rw [if_neg h1, if_neg h2]
     rw [hv, if_neg h2, if_pos (show l = H by omega)]
     refine Tells.ifn (by decide) (Tells.ifp rfl ?_)
     cases rest
     ·exact Tells.ifn (by decide) ((Tells.pure _).val (by rw [ho]; rfl))
     ·exact Tells.ifp rfl (Tells.pure _)
  by_cases hz : h = 0
  ·subst hz
   exact Tells.ifn (by simp [limbs_zero]) (fin false (by decide))
  ·have hpos : 0 < (limbs h).length := List.length_pos_iff.2 (limbs_ne hz)
   refine Tells.ifp (by omega) (Tells.ifp (by omega) (fin _ ?_))
   rw [rd_limbs hz]
   have : Int.tmod ((h % 4294967296 : Nat) : Int) 2 = ((h % 2 : Nat) : Int) := by rw [Int.tmod_eq_emod_of_nonneg (by omega)]; omega
   rw [this]
   by_cases hq : h % 2 = 1
   ·rw [decide_eq_true hq, hq]; rfl
   ·rw [decide_eq_false hq]
    exact beq_eq_false_iff_ne.2 (by omega)
theorem padN_le {D E : Dm} (hD : OkD D) (hE : OkD E) : padN D.n E.n <= 343 := by
 have := hE.len
 have h2 := dl_le E.n
 unfold padN
 have : 1 <= dl D.n := by
  unfold dl; split
  ·exact Nat.le_refl _
  ·rename_i h; exact nd_pos h
 omega
theorem nd_mulpow {n j : Nat} (h : nd n <= 300) (hj : j <= 400) : nd (n * 10 ^ j) <= 700 := Nat.le_trans (nd_shift_le n j) (by omega)
theorem QDiv {D E : Dm} (hD : OkD D) (hE : OkD E) (h0 : E.n ≠ 0) : Tells (fun k => quot_Div.f k D.neg (limbs D.n) D.e E.neg (limbs E.n) E.e) (outD (quotD D E)) := by
 have l1 := hD.len; have l2 := hE.len
 have b1 := hD.low; have b2 := hE.low; have b3 := hD.high; have b4 := hE.high
 have hp := padN_le hD hE
 have dD := dl_le D.n
 have dE := dl_le E.n
 have e1 : mx (wrap64 ((wrap64 ((wrap64 ((dl E.n : Int) - (dl D.n : Int))) + 40)) + 2)) 0 = ((padN D.n E.n : Nat) : Int) := by
  rw [w64n (z := (dl E.n : Int) - (dl D.n : Int)) (by omega) (by omega), w64n (z := (dl E.n : Int) - (dl D.n : Int) + 40) (by omega) (by omega), w64n (by omega) (by omega), mx_eq]
  unfold padN; omega
 have hpos : 0 < (limbs E.n).length := List.length_pos_iff.2 (limbs_ne h0)
 obtain ⟨n, hn⟩ : ∃ n, padN D.n E.n = n := ⟨_, rfl⟩
 rw [hn] at e1 hp
 have hX := nd_mulpow (n := D.n) (j := n) l1 (by omega)
 have hm := Mul_tells (m := D.n) (n := 10 ^ n) (len_nd (by omega)) (len_nd (by rw [nd_pow]; omega))
 rw [fit_of (len_nd (by omega))] at hm
 have hdv := Div_tells (m := D.n * 10 ^ n) (n := E.n) (len_nd (by omega)) (len_nd (by omega))
 rw [if_neg h0] at hdv
 have hq : nd (D.n * 10 ^ n / E.n) <= 700 := Nat.le_trans (nd_mono (Nat.div_le_self _ _)) hX
 obtain ⟨q, hqe⟩ : ∃ q, D.n * 10 ^ n / E.n = q := ⟨_, rfl⟩
 obtain ⟨r, hre⟩ : ∃ r, D.n * 10 ^ n % E.n = r := ⟨_, rfl⟩
 rw [hqe, hre] at hdv
 rw [hqe] at hq
 have hpt := qparted_tells (n := q) (len_nd (by omega)) (by omega)
 have hc1 := dl_le q
 obtain ⟨c, hce⟩ : ∃ c, cutN q = c := ⟨_, rfl⟩
 have hc : c <= 700 := by rw [<- hce]; unfold cutN; omega
 rw [hce] at hpt
 have hh : nd (q / 10 ^ c) <= 700 := Nat.le_trans (nd_mono (Nat.div_le_self _ _)) hq
 have hl : nd (q % 10 ^ c) <= 700 := Nat.le_trans (nd_mono (Nat.mod_le _ _)) hq
 have hup := qupward_tells (h := q / 10 ^ c) (l := q % 10 ^ c) (c := c) (decide (((limbs r).length : Int) > 0)) (len_nd (by omega)) (len_nd (by omega)) (by omega)
 have hrest : decide (((limbs r).length : Int) > 0) = decide (r ≠ 0) := by
  by_cases hr : r = 0
  ·subst hr; rfl
  ·have : 0 < (limbs r).length := List.length_pos_iff.2 (limbs_ne hr)
   rw [decide_eq_true (show ((limbs r).length : Int) > 0 by omega), decide_eq_true hr]
 rw [hrest] at hup
 have e2 : wrap64 ((wrap64 ((wrap64 (D.e - E.e)) - (n : Int))) + (c : Int)) = D.e - E.e - n + c := by
  rw [w64n (z := D.e - E.e) (by omega) (by omega), w64n (z := D.e - E.e - (n : Int)) (by omega) (by omega), w64n (by omega) (by omega)]
 have hfin : ∀ M : Nat, nd M <= 701 -> Tells (fun k => (dec_Settle.f k (D.neg != E.neg) (limbs M) (D.e - E.e - n + c)).bind fun bt => some (bt.1, bt.2.1, bt.2.2.1, bt.2.2.2)) (outD (settleD ⟨D.neg != E.neg, M, D.e - E.e - n + c⟩)) := fun M hM => by
  have := DSettle_tells (D.neg != E.neg) M (D.e - E.e - n + c) (len_nd (by omega)) (by omega)
  rw [if_neg (by omega)] at this
  exact this.bind (Tells.pure _)
 have hgoal : quotD D E = settleD ⟨D.neg != E.neg, upN (upB (q / 10 ^ c) (q % 10 ^ c) c (decide (r ≠ 0))) (q / 10 ^ c), D.e - E.e - n + c⟩ := by
  unfold quotD divD
  simp only [hn, hqe, hre, hce]
 rw [hgoal]
 unfold quot_Div.f quot_first_uint32.f
 refine (qask_D D E hD hE).bind (Tells.ifp rfl (Tells.ifn (by omega) ((qdigits_tells (len_nd (by omega))).bind ((qdigits_tells (len_nd (by omega))).bind ?_))))
 rw [e1]
 refine (qpow_tells (by omega)).bind (hm.bind ((Tells.pure _).bind (hdv.bind (hpt.bind ?_))))
 dsimp only
 rw [hrest, e2]
 refine hup.bind ?_
 cases hu : upB (q / 10 ^ c) (q % 10 ^ c) c (decide (r ≠ 0))
 ·exact Tells.ifn (by simp) (hfin _ (by omega))
 ·have ha := Add_tells (m := q / 10 ^ c) (n := 1) (len_nd (by omega)) (by decide +kernel)
  have hna := nd_add (q / 10 ^ c) 1
  have : nd 1 = 1 := by decide
  rw [fit_of (len_nd (by omega))] at ha
  exact Tells.ifp rfl ((From_tells 1 (by omega)).bind (ha.bind ((Tells.pure _).bind (hfin _ (by omega)))))
end YtjbjkmccfocikaaGreatDoor.P.Nm
end
section
namespace YtjbjkmccfocikaaGreatDoor.P.Nm
open Go.RowKit YtjbjkmccfocikaaGreatDoorW.PrintWords YtjbjkmccfocikaaGreatDoor.B YtjbjkmccfocikaaGreatDoor.P
theorem Tells.at {α : Type} {f : Nat -> Option α} {v : α} (n : Nat) (h : ∀ k, f (k + n) = some v) : Tells f v := ⟨n, fun k hk => by
 obtain ⟨j, rfl⟩ : ∃ j, k = j + n := ⟨k - n, by omega⟩
 exact h j⟩
end YtjbjkmccfocikaaGreatDoor.P.Nm
end
section
namespace YtjbjkmccfocikaaGreatDoor.B
open Go.RowKit YtjbjkmccfocikaaGreatDoorW.PrintWords YtjbjkmccfocikaaGreatDoorW.PrintLast YtjbjkmccfocikaaGreatDoorW.PrintMore
attribute [local go_sem] max2_int min2_int max_two min_two max_three min_three max_four min_four
def bolterlaw03_num.f (a0 : Int) : Option (Int) := some a0
theorem bolterlaw03_num.calls (a0 : Int) (r : Int) (w : World) (h : bolterlaw03_num.f a0 = some r) :
  Calls Tryz.prog 20 #[.int .i64 a0] w fun e w' => e = .returned (.int .i64 r) /\ Drawn0 w w' := by
 have H : (some a0) = some r := h
 clear h
 obtain rfl := Option.some.inj H
 go_enter Tryz.func20, Tryz.ntmps20
 go_wp2
 go_ret
 exact ⟨pR, pD⟩
def bolterref02_zeros.l0 : Nat -> Int -> ByteArray -> Int -> Option (ByteArray)
 | 0, _, _, _ => none
 | k + 1, x0, x3, x4 => if x4 < x0 then (if x3.size + 1 <= 9223372036854775807 then (bolterref02_zeros.l0 k x0 (x3 ++ (⟨#[48]⟩ : ByteArray)) (wrap64 (x4 + 1))) else (none)) else (some x3)
def bolterref02_zeros.f (k : Nat) (a0 : Int) : Option (ByteArray) := bolterref02_zeros.l0 k a0 (⟨#[]⟩ : ByteArray) 0
theorem bolterref02_zeros.calls (k : Nat) (a0 : Int) (r : ByteArray) (w : World) (h : bolterref02_zeros.f k a0 = some r) :
  Calls Tryz.prog 119 #[.int .i64 a0] w fun e w' => e = .returned (.string r) /\ Drawn0 w w' := by
 have H : (bolterref02_zeros.l0 k a0 (⟨#[]⟩ : ByteArray) 0) = some r := h
 clear h
 have H' := am H
 clear H
 go_enter Tryz.func119, Tryz.ntmps119
 go_wp2
 go_loopg [3, 4] k (fun kq v3 v4 w' => ∃ (x3_1 : ByteArray) (x4_1 : Int), v3 = .string x3_1 /\ v4 = .int .i64 x4_1 /\ Aside0 (bolterref02_zeros.l0 kq a0 x3_1 x4_1 = some r) /\ Aside0 (kq <= k) /\ Drawn0 w w')
 case atStart => exact ⟨((⟨#[]⟩ : ByteArray)), (0), pR, pR, H', ⟨Nat.le_refl _⟩, pD⟩
 case round =>
  clear H'
  obtain ⟨x3_1, x4_1, rfl, rfl, HA, HK1, ⟨m1, rfl⟩⟩ := hrel
  cases gk with
  | zero => exact absurd HA.out (by simp [bolterref02_zeros.l0])
  | succ k1 =>
   have H := HA.out
   clear HA
   simp only [bolterref02_zeros.l0] at H
   by_cases c2 : x4_1 < a0
   ·rw [if_pos c2] at H
    have c2b0 : decide (x4_1 < a0) = true := decide_eq_true c2
    clear c2
    by_cases c3 : x3_1.size + 1 <= 9223372036854775807
    ·rw [if_pos c3] at H
     have c3b0 := eq_true c3
     have c3b1 : decide (x3_1.size + 1 <= 9223372036854775807) = true := decide_eq_true c3
     try have c3b2 : (9223372036854775807 < x3_1.size + 1) = False := eq_false (Nat.not_lt.2 c3)
     have H' := am H
     clear H
     go_wp2
     go_roundg k1
     case measure => have := HK1.out; omega
     case rel => exact ⟨(x3_1 ++ (⟨#[48]⟩ : ByteArray)), (wrap64 (x4_1 + 1)), pR, pR, H', ⟨by have := HK1.out; omega⟩, pD⟩
    ·rw [if_neg c3] at H
     exact absurd H (by simp)
   ·rw [if_neg c2] at H
    have c2b0 : decide (x4_1 < a0) = false := decide_eq_false c2
    clear c2
    obtain rfl := Option.some.inj H
    go_wp2
    go_ret
    exact ⟨pR, pD⟩
def bolterref02_plain.f : Nat -> Int -> Option (ByteArray)
 | 0, _ => none
 | k + 1, a0 => if a0 < 10 then (some (strOfNums (([(wrap64 (48 + a0)) % 256] : List Int)))) else ((bolterref02_plain.f k (wrap64 (Int.tdiv a0 10))).bind fun t599 => ((bolterref02_plain.f k (Int.tmod a0 10)).bind fun t600 => (if t599.size + t600.size <= 9223372036854775807 then (some (t599 ++ t600)) else (none))))
theorem bolterref02_plain.calls (k : Nat) : ∀ (a0 : Int) (r : ByteArray) (w : World) (h : bolterref02_plain.f k a0 = some r),
  Calls Tryz.prog 120 #[.int .i64 a0] w fun e w' => e = .returned (.string r) /\ Below w.heap.size w w' := by
 induction k using Nat.strongRecOn with
 | _ k ih =>
 intro a0 r w h
 cases k with
 | zero => exact absurd h (by simp [bolterref02_plain.f])
 | succ k =>
 simp only [bolterref02_plain.f] at h
 have HB := am (Below.refl w.heap.size w)
 have H : (if a0 < 10 then (some (strOfNums (([(wrap64 (48 + a0)) % 256] : List Int)))) else ((bolterref02_plain.f k (wrap64 (Int.tdiv a0 10))).bind fun t599 => ((bolterref02_plain.f k (Int.tmod a0 10)).bind fun t600 => (if t599.size + t600.size <= 9223372036854775807 then (some (t599 ++ t600)) else (none))))) = some r := h
 clear h
 by_cases c2 : a0 < 10
 ·rw [if_pos c2] at H
  have c2b0 : decide (a0 < 10) = true := decide_eq_true c2
  clear c2
  obtain ⟨y596, hy596⟩ : ∃ y_ : List Int, y_ = (([(wrap64 (48 + a0)) % 256] : List Int)) := ⟨_, rfl⟩
  replace H : (some (strOfNums y596)) = some r := by have hy_ := hy596; exact pH
  have Ny596 := am hy596
  clear hy596
  obtain rfl := Option.some.inj H
  go_enter Tryz.func120, Tryz.ntmps120
  go_wp2_with (first | ((with_reducible refine gd 8 ?_); refine Kd.R_lit (Kd.int .u8) _ 5 ?hg (N := 8) ?hd (xs := ([(wrap64 (48 + a0)) % 256] : List Int)) (inner := [.int .u8 ((wrap64 (48 + a0)) % 256)]) (ok := fun _ => True) (okp := fun _ => True) ?hr ?hp (fun _ hk => hk) trivial (Below.refl _ _) (Nat.le_refl _) (by simp) ?_; (case hd => rfl); (case hg => rfl); (case hr => first | (go_simp; done) | (go_simp; rfl)); (case hp => exact (Reps.one (show Kd.M (Kd.int .u8) _ _ _ ((wrap64 (48 + a0)) % 256) [.int .u8 ((wrap64 (48 + a0)) % 256)] from rfl) (Reps.none _ _))); intro v597 w3 ho4 hb hg_ hnew_; clear hg_ hnew_; (first | rw [<- Ny596.out] at ho4 | (simp only [Int.reduceToNat] at ho4; rw [<- Ny596.out] at ho4)); have HO598 := am (Kd.R_lower ho4 (below_size pB)); replace HB := bS hb; clear hb ho4; have hcv5 := own_string (P := Tryz.prog) Tryz.underlying146 Tryz.underlying5 Tryz.underlying9 (Kd.own_of_R HO598.out)))
  go_ret
  exact ⟨pE, pB⟩
 ·rw [if_neg c2] at H
  have c2b0 : decide (a0 < 10) = false := decide_eq_false c2
  clear c2
  obtain ⟨t599, A6, H⟩ := ob H
  obtain ⟨t600, A7, H⟩ := ob H
  by_cases c8 : t599.size + t600.size <= 9223372036854775807
  ·rw [if_pos c8] at H
   have c8b0 := eq_true c8
   have c8b1 : decide (t599.size + t600.size <= 9223372036854775807) = true := decide_eq_true c8
   try have c8b2 : (9223372036854775807 < t599.size + t600.size) = False := eq_false (Nat.not_lt.2 c8)
   obtain rfl := Option.some.inj H
   go_enter Tryz.func120, Tryz.ntmps120
   go_wp2_with (first | (refine gL (some 12) Tryz.func120 #[.int .i64 (wrap64 (Int.tdiv a0 10))] (h := ?_); (with_reducible refine (ih k (by omega) (wrap64 (Int.tdiv a0 10)) t599 _ A6.out).mono ?_); rintro e w9 ⟨rfl, hb⟩; refine ⟨_, rfl, ?_⟩; replace HB := bS hb) | (refine gL (some 15) Tryz.func120 #[.int .i64 (Int.tmod a0 10)] (h := ?_); (with_reducible refine (ih k (by omega) (Int.tmod a0 10) t600 _ A7.out).mono ?_); rintro e w10 ⟨rfl, hb⟩; refine ⟨_, rfl, ?_⟩; replace HB := bS hb))
   go_ret
   exact ⟨pE, pB⟩
  ·rw [if_neg c8] at H
   exact absurd H (by simp)
end YtjbjkmccfocikaaGreatDoor.B
end
end Go.Proofs
