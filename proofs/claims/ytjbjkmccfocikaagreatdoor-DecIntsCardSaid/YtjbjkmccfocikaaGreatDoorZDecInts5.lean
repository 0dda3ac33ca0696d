/- DecInts: part 6 of 6: the texts B63 B120 PLaw2 PAlive HBackU HWhole B134 PLaw4 RDecInts of this claim, one behind the other. -/
import Derived.Test.YtjbjkmccfocikaaGreatDoorZDecInts4
import Derived.KernelRfl
import Derived.SizedLaws
set_option linter.unusedVariables false
set_option linter.unusedSimpArgs false
set_option maxRecDepth 100000
set_option maxHeartbeats 8000000
namespace Go.Proofs
section
namespace YtjbjkmccfocikaaGreatDoor.B
open Go.RowKit YtjbjkmccfocikaaGreatDoorW.PrintWords YtjbjkmccfocikaaGreatDoorW.PrintLast YtjbjkmccfocikaaGreatDoorW.PrintMore
attribute [local go_sem] max2_int min2_int max_two min_two max_three min_three max_four min_four
def bolterlaw02_Of.f (k : Nat) (a0 : ByteArray) : Option (Bool × List Int × Int) := (bolterref02_Parse.f k a0).bind fun bt569 => (some (bt569.1, bt569.2.1, bt569.2.2.1))
theorem bolterlaw02_Of.calls (k : Nat) (a0 : ByteArray) (r1 : Bool) (r2 : List Int) (r3 : Int) (w : World) (h : bolterlaw02_Of.f k a0 = some (r1, r2, r3)) :
  Calls Tryz.prog 62 #[.string a0] w fun e w' => ∃ v1_ : Value, e = .returned (.agg #[.bool r1, v1_, .int .i64 r3]) /\ Kd.R (Kd.int .u32) 85 w' w.heap.size (fun _ => True) v1_ r2 /\ Below w.heap.size w w' := by
 have hu24 := Tryz.underlying24
 have HB := am (Below.refl w.heap.size w)
 have H : ((bolterref02_Parse.f k a0).bind fun bt569 => (some (bt569.1, bt569.2.1, bt569.2.2.1))) = some (r1, r2, r3) := h
 clear h
 obtain ⟨⟨t569, t570, t573, t574⟩, A2, H⟩ := ob H; (try dsimp only at H)
 simp only [Option.some.injEq, Prod.mk.injEq] at H
 obtain ⟨rfl, rfl, rfl⟩ := H
 go_enter Tryz.func62, Tryz.ntmps62
 go_wp2_with (first | ((with_reducible refine gate_dst (N := 2) rfl ?_); refine box_event ?hg (N := 2) ?hd (cs := #[.bool false, .slice none 0 0, .int .i64 0]) (t := 24) ?hr ?_; (case hd => rfl); (case hg => rfl); (case hr => first | (go_simp; done) | (go_simp; rfl)); intro gb568 hg w3 hbox hb; have n0_ := am (below_step pB hb); have n1_ := am (hbox); have n2_ := am ((gw hg pB : w.heap.size <= gb568)); have n3_ := am ((gw hg pB : w.heap.size <= gb568)); clear HB; have HB := n0_; have BK568 := n1_; have GW568 := n2_; have GE568 := n3_; clear n0_ n1_ n2_ n3_ hb hbox hg) | (refine gL (some 7) Tryz.func58 #[.string a0] (h := ?_); (with_reducible refine (bolterref02_Parse.calls k a0 t569 t570 t573 t574 _ A2.out).mono ?_); rintro e w4 ⟨v571, rfl, ho0, hb⟩; refine ⟨_, rfl, ?_⟩; have HO572 := am (Kd.R_lower ho0 (below_size pB)); replace BK568 := am (blk_below (blk_below BK568.out pl) hb); replace HB := am (below_step pB hb); (try clear hb); (try clear hb2); (try clear hk); (try clear hi); (try clear ho0)) | ((with_reducible refine gate_dst (N := 3) rfl ?_); refine box_event ?hg (N := 3) ?hd (cs := #[.bool false, .slice none 0 0, .int .i64 0]) (t := 24) ?hr ?_; (case hd => rfl); (case hg => rfl); (case hr => first | (go_simp; done) | (go_simp; rfl)); intro gb575 hg w5 hbox hb; have n0_ := am (Kd.R_below (Kd.R_below HO572.out pl) hb); have n1_ := am (blk_below (blk_below BK568.out pl) hb); have n2_ := am (below_step pB hb); have n3_ := am (hbox); have n4_ := am ((gw hg pB : w.heap.size <= gb575)); have n5_ := am ((gw hg pB : w.heap.size <= gb575)); have n6_ := am ((nl hg (blk_below BK568.out pl) : gb568 ≠ gb575)); have n7_ := am ((ng hg (blk_below BK568.out pl) : gb575 ≠ gb568)); clear HO572 BK568 HB; have HO572 := n0_; have BK568 := n1_; have HB := n2_; have BK575 := n3_; have GW575 := n4_; have GE575 := n5_; have NB568_575 := n6_; have NB575_568 := n7_; clear n0_ n1_ n2_ n3_ n4_ n5_ n6_ n7_ hb hbox hg; have hnb6 := NB575_568.out; have hnc6 := NB568_575.out; obtain ⟨hcz7_0, hcz7_1, hcz7_2, hfz7_0, hfz7_1, hfz7_2⟩ := cEc BK575.out; obtain ⟨Ao8, co8, eo8⟩ := Kd.R_slice HO572.out; subst eo8; obtain ⟨hcz9_0, hcz9_1, hcz9_2, hfz9_0, hfz9_1, hfz9_2⟩ := cEc BK568.out))
 refine bodyPost_ret (results_cell_row rfl _ _ gb568 24 #[.bool t569, .slice Ao8 t570.length co8, .int .i64 t573] (0, 0) _ rfl (by refine bp ?_; refine blk_put (cs := #[.bool t569, .slice Ao8 t570.length co8, .int .i64 0]) ?_ 2 _ rfl; refine bp ?_; refine blk_put (cs := #[.bool t569, .slice none 0 0, .int .i64 0]) ?_ 1 _ rfl; refine bp ?_; refine blk_put (cs := #[.bool false, .slice none 0 0, .int .i64 0]) ?_ 0 _ rfl; refine bp ?_; refine blk_far ?_ NB568_575.out _; refine bp ?_; refine blk_far ?_ NB568_575.out _; refine bp ?_; refine blk_far ?_ NB568_575.out _; exact bp BK568.out) Tryz.underlying24 rfl (by kernel_rfl)) rfl ?_
 exact ⟨_, pE, by refine rp ?_; exact Kd.R_mono (Kd.R_far (p := ⟨gb568, 2, none⟩) (Kd.R_far (p := ⟨gb568, 1, none⟩) (Kd.R_far (p := ⟨gb568, 0, none⟩) (Kd.R_far (p := ⟨gb575, 2, none⟩) (Kd.R_far (p := ⟨gb575, 1, none⟩) (Kd.R_far (p := ⟨gb575, 0, none⟩) (Kd.R_types (Kd.R_types HO572.out BK575.out (by decide)) BK568.out (by decide)) (fun _ hk => hk.1.2) (.bool t569)) (fun _ hk => hk.1.2) (.slice Ao8 t570.length co8)) (fun _ hk => hk.1.2) (.int .i64 t573)) (fun _ hk => hk.2) (.bool t569)) (fun _ hk => hk.2) (.slice Ao8 t570.length co8)) (fun _ hk => hk.2) (.int .i64 t573)) (fun _ hk => trivial), pB⟩
def bolterlaw02_alive.f (k : Nat)  : Option (Bool) := (bolterlaw02_Of.f k (⟨#[49, 46, 53, 48]⟩ : ByteArray)).bind fun bt1577 => ((bolterlaw02_Of.f k (⟨#[48, 46, 53]⟩ : ByteArray)).bind fun bt1582 => ((dec_Add.f k bt1577.1 bt1577.2.1 bt1577.2.2 bt1582.1 bt1582.2.1 bt1582.2.2).bind fun bt1587 => ((dec_Print.f k bt1587.1 bt1587.2.1 bt1587.2.2.1).bind fun bt1594 => ((bolterlaw02_Of.f k (⟨#[49, 101, 51, 48]⟩ : ByteArray)).bind fun bt1596 => ((dec_Print.f k bt1596.1 bt1596.2.1 bt1596.2.2).bind fun bt1601 => ((bolterlaw02_num.f bt1587.2.2.2).bind fun t1603 => ((bolterlaw02_num.f bt1594.2).bind fun t1604 => ((bolterlaw02_num.f bt1601.2).bind fun t1605 => (if (wrap64 ((wrap64 (t1603 + t1604)) + t1605)) = 0 then (if bt1594.1.toList = ([50] : List UInt8) then (some (bt1601.1.toList == ([49, 101, 43, 51, 48] : List UInt8))) else (some false)) else (some false))))))))))
theorem bolterlaw02_alive.leaf {P : Prop} (h : P := by
 go_enter Tryz.func41, Tryz.ntmps41
 go_wp2_with (first | (refine gL (some 8) Tryz.func62 #[.string (⟨#[49, 46, 53, 48]⟩ : ByteArray)] (h := ?_); (with_reducible refine (bolterlaw02_Of.calls k (⟨#[49, 46, 53, 48]⟩ : ByteArray) t1577 t1578 t1581 _ A1.out).mono ?_); rintro e w0z ⟨v1z, rfl, ho2z, hb⟩; refine ⟨_, rfl, ?_⟩; have HO3z := am (Kd.R_lower ho2z (below_size pB)); replace HB := am (below_step pB hb); (try clear hb); (try clear hb4z); (try clear hk); (try clear hi); (try clear ho2z)) | (refine gL (some 9) Tryz.func62 #[.string (⟨#[48, 46, 53]⟩ : ByteArray)] (h := ?_); (with_reducible refine (bolterlaw02_Of.calls k (⟨#[48, 46, 53]⟩ : ByteArray) t1582 t1583 t1586 _ A2.out).mono ?_); rintro e w5z ⟨v6z, rfl, ho2z, hb⟩; refine ⟨_, rfl, ?_⟩; have n0_ := am (Kd.R_elder' (Kd.R_below HO3z.out pl) (Kd.R_base ho2z) hb); have n1_ := am (Kd.R_lower (Kd.R_new' ho2z (Kd.R_lt (Kd.R_below HO3z.out pl))) (below_size pB)); have n2_ := am (below_step pB hb); clear HO3z HB; have HO3z := n0_; have HO7z := n1_; have HB := n2_; clear n0_ n1_ n2_; (try clear hb); (try clear hb4z); (try clear hk); (try clear hi); (try clear ho2z); obtain ⟨Ao8z, co9z, eo10z⟩ := Kd.R_slice HO3z.out; subst eo10z; obtain ⟨Ao11z, co12z, eo13z⟩ := Kd.R_slice HO7z.out; subst eo13z) | (refine gL (some 10) Tryz.func43 #[.agg #[.bool t1577, .slice Ao8z t1578.length co9z, .int .i64 t1581], .agg #[.bool t1582, .slice Ao11z t1583.length co12z, .int .i64 t1586]] (h := ?_); (with_reducible refine (dec_Add.calls k t1577 (fun k_ => some k_ = (.slice Ao8z t1578.length co9z : Value).ownBlock) _ _ t1578 t1581 t1582 (fun k_ => some k_ = (.slice Ao11z t1583.length co12z : Value).ownBlock) _ _ t1583 t1586 t1587 t1588 t1591 t1592 _ ?side1 ?side2 A3.out).mono ?_); (case side1 => exact Kd.R_V (Kd.R_tight rfl (HO3z.out))); (case side2 => exact Kd.R_V (Kd.R_tight rfl (HO7z.out))); rintro e w14z ⟨v15z, rfl, ho2z, hb⟩; refine ⟨_, rfl, ?_⟩; have n0_ := am (Kd.R_elder' (Kd.R_below HO3z.out pl) (Kd.R_base ho2z) hb); have n1_ := am (Kd.R_elder' (Kd.R_below HO7z.out pl) (Kd.R_base ho2z) hb); have n2_ := am (Kd.R_lower (Kd.R_new' (Kd.R_new' (Kd.R_mono (ok' := fun k_ => True) ho2z (fun _ hk_ => trivial)) (Kd.R_lt (Kd.R_below HO3z.out pl))) (Kd.R_lt (Kd.R_below HO7z.out pl))) (below_size pB)); have n3_ := am (below_step pB hb); clear HO3z HO7z HB; have HO3z := n0_; have HO7z := n1_; have HO16z := n2_; have HB := n3_; clear n0_ n1_ n2_ n3_; (try clear hb); (try clear hb4z); (try clear hk); (try clear hi); (try clear ho2z)) | ((with_reducible refine gate_dst (N := 1) rfl ?_); refine box_event ?hg (N := 1) ?hd (cs := #[.bool false, .slice none 0 0, .int .i64 0]) (t := 24) ?hr ?_; (case hd => rfl); (case hg => rfl); (case hr => first | (go_simp; done) | (go_simp; rfl)); intro gb17z hg w18z hbox hb; have n0_ := am (Kd.R_below (Kd.R_below HO3z.out pl) hb); have n1_ := am (Kd.R_below (Kd.R_below HO7z.out pl) hb); have n2_ := am (Kd.R_below (Kd.R_below HO16z.out pl) hb); have n3_ := am (below_step pB hb); have n4_ := am (hbox); have n5_ := am ((gw hg pB : w.heap.size <= gb17z)); have n6_ := am ((gw hg pB : w.heap.size <= gb17z)); clear HO3z HO7z HO16z HB; have HO3z := n0_; have HO7z := n1_; have HO16z := n2_; have HB := n3_; have BK19z := n4_; have GW20z := n5_; have GE21z := n6_; clear n0_ n1_ n2_ n3_ n4_ n5_ n6_ hb hbox hg; obtain ⟨hcz22z, hcz23z, hcz24z, hfz25z, hfz26z, hfz27z⟩ := cEc BK19z.out; obtain ⟨Ao28z, co29z, eo30z⟩ := Kd.R_slice HO16z.out; subst eo30z) | (refine gL (some 15) Tryz.func56 #[.agg #[.bool t1587, .slice Ao28z t1588.length co29z, .int .i64 t1591]] (h := ?_); (with_reducible refine (dec_Print.calls k t1587 _ _ t1588 t1591 t1594 t1595 _ ?side1 ?side2 A4.out).mono ?_); (case side1 => refine (Kd.R_reads' (e := 85) (base := w.heap.size) (ok := fun k_ => ((True /\ some k_ ≠ (.slice Ao8z t1578.length co9z : Value).ownBlock) /\ some k_ ≠ (.slice Ao11z t1583.length co12z : Value).ownBlock)) (n := t1588.length) (c := co29z) ?_).2.2; exact (Kd.R_below (z3 HO16z.out BK19z.out (by decide) (.bool t1587) (.slice Ao28z t1588.length co29z) (.int .i64 t1591)) pl)); (case side2 => exact (Kd.R_reads' HO16z.out).2.1); rintro e w31z ⟨rfl, hb⟩; refine ⟨_, rfl, ?_⟩; replace HO3z := am (Kd.R_below (Kd.R_below (z3 HO3z.out BK19z.out (by decide) (.bool t1587) (.slice Ao28z t1588.length co29z) (.int .i64 t1591)) pl) hb); replace HO7z := am (Kd.R_below (Kd.R_below (z3 HO7z.out BK19z.out (by decide) (.bool t1587) (.slice Ao28z t1588.length co29z) (.int .i64 t1591)) pl) hb); replace HO16z := am (Kd.R_below (Kd.R_below (z3 HO16z.out BK19z.out (by decide) (.bool t1587) (.slice Ao28z t1588.length co29z) (.int .i64 t1591)) pl) hb); replace BK19z := am (blk_below (g := gb17z) (o := .cells #[.bool t1587, .slice Ao28z t1588.length co29z, .int .i64 t1591] 24 (0, 0)) (by refine bp ?_; refine blk_put (cs := #[.bool t1587, .slice Ao28z t1588.length co29z, .int .i64 0]) ?_ 2 _ rfl; refine bp ?_; refine blk_put (cs := #[.bool t1587, .slice none 0 0, .int .i64 0]) ?_ 1 _ rfl; refine bp ?_; refine blk_put (cs := #[.bool false, .slice none 0 0, .int .i64 0]) ?_ 0 _ rfl; exact bp BK19z.out) hb); replace HB := am (below_step pB hb); (try clear hb); (try clear hb4z); (try clear hk); (try clear hi)) | (refine gL (some 19) Tryz.func62 #[.string (⟨#[49, 101, 51, 48]⟩ : ByteArray)] (h := ?_); (with_reducible refine (bolterlaw02_Of.calls k (⟨#[49, 101, 51, 48]⟩ : ByteArray) t1596 t1597 t1600 _ A5.out).mono ?_); rintro e w32z ⟨v33z, rfl, ho2z, hb⟩; refine ⟨_, rfl, ?_⟩; have n0_ := am (Kd.R_elder' (Kd.R_below HO3z.out pl) (Kd.R_base ho2z) hb); have n1_ := am (Kd.R_elder' (Kd.R_below HO7z.out pl) (Kd.R_base ho2z) hb); have n2_ := am (Kd.R_elder' (Kd.R_below HO16z.out pl) (Kd.R_base ho2z) hb); have n3_ := am (Kd.R_lower (Kd.R_new' (Kd.R_new' (Kd.R_new' ho2z (Kd.R_lt (Kd.R_below HO3z.out pl))) (Kd.R_lt (Kd.R_below HO7z.out pl))) (Kd.R_lt (Kd.R_below HO16z.out pl))) (below_size pB)); have n4_ := am (blk_below (blk_below BK19z.out pl) hb); have n5_ := am (below_step pB hb); clear HO3z HO7z HO16z BK19z HB; have HO3z := n0_; have HO7z := n1_; have HO16z := n2_; have HO34z := n3_; have BK19z := n4_; have HB := n5_; clear n0_ n1_ n2_ n3_ n4_ n5_; (try clear hb); (try clear hb4z); (try clear hk); (try clear hi); (try clear ho2z); obtain ⟨Ao35z, co36z, eo37z⟩ := Kd.R_slice HO34z.out; subst eo37z) | (refine gL (some 20) Tryz.func56 #[.agg #[.bool t1596, .slice Ao35z t1597.length co36z, .int .i64 t1600]] (h := ?_); (with_reducible refine (dec_Print.calls k t1596 _ _ t1597 t1600 t1601 t1602 _ ?side1 ?side2 A6.out).mono ?_); (case side1 => exact Kd.C_below (Kd.R_reads' HO34z.out).2.2 pl); (case side2 => exact (Kd.R_reads' HO34z.out).2.1); rintro e w38z ⟨rfl, hb⟩; refine ⟨_, rfl, ?_⟩; replace HO3z := am (Kd.R_below (Kd.R_below HO3z.out pl) hb); replace HO7z := am (Kd.R_below (Kd.R_below HO7z.out pl) hb); replace HO16z := am (Kd.R_below (Kd.R_below HO16z.out pl) hb); replace HO34z := am (Kd.R_below (Kd.R_below HO34z.out pl) hb); replace BK19z := am (blk_below (blk_below BK19z.out pl) hb); replace HB := am (below_step pB hb); (try clear hb); (try clear hb4z); (try clear hk); (try clear hi)) | (refine gL (some 24) Tryz.func47 #[.int .i64 t1592] (h := ?_); (with_reducible refine (bolterlaw02_num.calls t1592 t1603 _ A7.out).mono ?_); rintro e w' ⟨rfl, ⟨nd, rfl⟩⟩; refine ⟨_, rfl, ?_⟩) | (refine gL (some 26) Tryz.func47 #[.int .i64 t1595] (h := ?_); (with_reducible refine (bolterlaw02_num.calls t1595 t1604 _ A8.out).mono ?_); rintro e w' ⟨rfl, ⟨nd, rfl⟩⟩; refine ⟨_, rfl, ?_⟩) | (refine gL (some 29) Tryz.func47 #[.int .i64 t1602] (h := ?_); (with_reducible refine (bolterlaw02_num.calls t1602 t1605 _ A9.out).mono ?_); rintro e w' ⟨rfl, ⟨nd, rfl⟩⟩; refine ⟨_, rfl, ?_⟩))
 go_ret
 exact ⟨pE, pB⟩) : P := h
theorem bolterlaw02_alive.calls (k : Nat)  (r : Bool) (w : World) (h : bolterlaw02_alive.f k  = some r) :
  Calls Tryz.prog 41 #[] w fun e w' => e = .returned (.bool r) /\ Below w.heap.size w w' := by
 have hu24 := Tryz.underlying24
 have HB := am (Below.refl w.heap.size w)
 have H : ((bolterlaw02_Of.f k (⟨#[49, 46, 53, 48]⟩ : ByteArray)).bind fun bt1577 => ((bolterlaw02_Of.f k (⟨#[48, 46, 53]⟩ : ByteArray)).bind fun bt1582 => ((dec_Add.f k bt1577.1 bt1577.2.1 bt1577.2.2 bt1582.1 bt1582.2.1 bt1582.2.2).bind fun bt1587 => ((dec_Print.f k bt1587.1 bt1587.2.1 bt1587.2.2.1).bind fun bt1594 => ((bolterlaw02_Of.f k (⟨#[49, 101, 51, 48]⟩ : ByteArray)).bind fun bt1596 => ((dec_Print.f k bt1596.1 bt1596.2.1 bt1596.2.2).bind fun bt1601 => ((bolterlaw02_num.f bt1587.2.2.2).bind fun t1603 => ((bolterlaw02_num.f bt1594.2).bind fun t1604 => ((bolterlaw02_num.f bt1601.2).bind fun t1605 => (if (wrap64 ((wrap64 (t1603 + t1604)) + t1605)) = 0 then (if bt1594.1.toList = ([50] : List UInt8) then (some (bt1601.1.toList == ([49, 101, 43, 51, 48] : List UInt8))) else (some false)) else (some false))))))))))) = some r := h
 clear h
 obtain ⟨⟨t1577, t1578, t1581⟩, A1, H⟩ := ob H; (try dsimp only at H)
 obtain ⟨⟨t1582, t1583, t1586⟩, A2, H⟩ := ob H; (try dsimp only at H)
 obtain ⟨⟨t1587, t1588, t1591, t1592⟩, A3, H⟩ := ob H; (try dsimp only at H)
 obtain ⟨⟨t1594, t1595⟩, A4, H⟩ := ob H; (try dsimp only at H)
 obtain ⟨⟨t1596, t1597, t1600⟩, A5, H⟩ := ob H; (try dsimp only at H)
 obtain ⟨⟨t1601, t1602⟩, A6, H⟩ := ob H; (try dsimp only at H)
 obtain ⟨t1603, A7, H⟩ := ob H
 obtain ⟨t1604, A8, H⟩ := ob H
 obtain ⟨t1605, A9, H⟩ := ob H
 by_cases c10 : (wrap64 ((wrap64 (t1603 + t1604)) + t1605)) = 0
 ·rw [if_pos c10] at H
  have c10b0 : ((wrap64 ((wrap64 (t1603 + t1604)) + t1605)) == 0) = true := beq_iff_eq.mpr c10
  have c10b1 : ((wrap64 ((wrap64 (t1603 + t1604)) + t1605)) != 0) = false := bne_eq_false_iff_eq.mpr c10
  clear c10
  by_cases c11 : t1594.toList = ([50] : List UInt8)
  ·rw [if_pos c11] at H
   have c11b0 : (t1594.toList == ([50] : List UInt8)) = true := beq_iff_eq.mpr c11
   have c11b1 : (t1594.toList != ([50] : List UInt8)) = false := bne_eq_false_iff_eq.mpr c11
   clear c11
   obtain rfl := Option.some.inj H
   exact bolterlaw02_alive.leaf
  ·rw [if_neg c11] at H
   have c11b0 : (t1594.toList == ([50] : List UInt8)) = false := beq_eq_false_iff_ne.mpr c11
   have c11b1 : (t1594.toList != ([50] : List UInt8)) = true := bne_iff_ne.mpr c11
   obtain rfl := Option.some.inj H
   exact bolterlaw02_alive.leaf
 ·rw [if_neg c10] at H
  have c10b0 : ((wrap64 ((wrap64 (t1603 + t1604)) + t1605)) == 0) = false := beq_eq_false_iff_ne.mpr c10
  have c10b1 : ((wrap64 ((wrap64 (t1603 + t1604)) + t1605)) != 0) = true := bne_iff_ne.mpr c10
  obtain rfl := Option.some.inj H
  exact bolterlaw02_alive.leaf
end YtjbjkmccfocikaaGreatDoor.B
end
section
namespace YtjbjkmccfocikaaGreatDoor.P.Nm
open Go.RowKit YtjbjkmccfocikaaGreatDoorW.PrintWords YtjbjkmccfocikaaGreatDoor.B YtjbjkmccfocikaaGreatDoor.P
theorem Same_self (D : Dm) (h : nd D.n <= 1000000) : Tells (fun k => bolterref02_Same.f k D.neg (limbs D.n) D.e D.neg (limbs D.n) D.e) true := (Same_D D D h).val (decide_eq_true rfl)
theorem Tells.at {α : Type} {f : Nat -> Option α} {v : α} (n : Nat) (h : ∀ k, f (k + n) = some v) : Tells f v := ⟨n, fun k hk => by
 obtain ⟨j, rfl⟩ : ∃ j, k = j + n := ⟨k - n, by omega⟩
 exact h j⟩
theorem alive02 : Tells (fun k => bolterlaw02_alive.f k) true := Tells.at 40 fun k => by kernel_rfl
end YtjbjkmccfocikaaGreatDoor.P.Nm
end
section
namespace YtjbjkmccfocikaaGreatDoor.B
open Go.RowKit Go.Shelf YtjbjkmccfocikaaGreatDoorW.PrintWords
attribute [local go_sem] Oper.semAt_some
theorem backU_in (w : World) (A : Option Addr) (m c : Nat) (n : Nat) :
  CallsIn Fence.wide n Tryz.prog 107 #[.slice A m c] w fun e w' => e = .returned (.func (.func 142) #[] #[.pointer (some ⟨w.heap.size, 0, none⟩)]) /\ w' = w.alloc (.cells #[.slice A m c] 22) := by
 refine callsIn_of_wp Tryz.func107 rfl trivial ?_ rfl
 simp only [Tryz.ntmps107, List.size_toArray, List.length_cons, List.length_nil, Nat.reduceAdd, Nat.reduceSub, Array.replicate_succ, Array.replicate_zero, List.push_toArray, List.append_toArray, List.nil_append, List.cons_append]
 gi_wp2
 go_ret
 exact ⟨rfl, rfl⟩
theorem backU1_in (n : Nat) (hn : 1 <= n) (l Bs : Nat) (A : Option Addr) (m c : Nat) (Rd : Nat -> Int -> Prop) (hm : m <= 9223372036854775807) (J Jx : List (Nat × Int) -> World -> Prop)
  (W : World) (hJ : AbidesFrom W.heap.size J)
  (hY : ∀ pre x W1, J pre W1 -> pre.length < m -> BkP Rd m (pre ++ [x]) -> YieldAt Fence.wide (n - 1) Tryz.prog l (bkEnc x) W1 fun e W' =>
   (e = .returned (.bool true) /\ J (pre ++ [x]) W' /\ KpB Bs A m Rd W1 W') \/ (e = .returned (.bool false) /\ Jx (pre ++ [x]) W'))
  (hBs : Boxed W Bs 22 (.slice A m c)) (hR : RdW A m Rd W) (h0 : J [] W) :
  CallsIn Fence.wide n Tryz.prog 142 #[.func (.yield l) #[] #[], .pointer (some ⟨Bs, 0, none⟩)] W fun e W' => (∃ v, e = .returned v) /\
   ((∃ ys, (BkP Rd m ys /\ ys.length = m) /\ J ys W') \/ (∃ pre, BkP Rd m pre /\ Jx pre W')) := by
 have hc0 := hBs.cell
 have HBs := Lib.hid hBs
 have HJ := Lib.hid hJ
 have HY := Lib.hid hY
 clear hBs hJ hY
 refine callsIn_of_wp Tryz.func142 rfl trivial ?_ rfl
 simp only [Tryz.ntmps142, List.size_toArray, List.length_cons, List.length_nil, Nat.reduceAdd, Nat.reduceSub, Array.replicate_succ, Array.replicate_zero, List.push_toArray, List.append_toArray, List.nil_append, List.cons_append]
 gi_wp2
 gi_loopw [3] (fun i wr => ∃ pre : List (Nat × Int), i = .int .i64 ((m : Int) - 1 - (pre.length : Int)) /\ BkP Rd m pre /\ Boxed wr Bs 22 (.slice A m c) /\ RdW A m Rd wr /\ J pre wr)
  (fun i _ => (intOf i + 1).toNat)
 case atStart => exact ⟨[], by simp, ⟨Nat.zero_le _, fun k x h => by simp at h⟩, HBs.out, hR, h0⟩
 case round =>
  obtain ⟨pre, rfl, hp, hb, hr, hj⟩ := hrel
  have hle := hp.1
  have hc1 := hb.cell
  have HP := Lib.hid hp
  have HB := Lib.hid hb
  clear hp hb hc0 hR
  obtain ⟨k, hk⟩ : ∃ k, pre.length = k := ⟨_, rfl⟩
  rw [hk] at hle ⊢
  by_cases hlt : k < m
  ·have hlt' : (0 : Int) <= (m : Int) - 1 - (k : Int) := by omega
   obtain ⟨b, o, rfl, hcs⟩ : ∃ b o, A = some ⟨b, o, none⟩ /\ ∀ j, j < m -> ∃ x, wr.cell? ⟨b, o + j, none⟩ = some (.int .u32 x) /\ Rd j x := hr.resolve_left (by omega)
   obtain ⟨x, hx, hrd⟩ := hcs (m - 1 - k) (by omega)
   have hsn := HP.out.snoc (by omega) (by rw [hk]; exact hrd)
   rw [hk] at hsn
   obtain ⟨fn, tmps, assign, body, hy, hRr⟩ := HY.out pre (m - 1 - k, x) wr hj (by omega) hsn
   obtain ⟨i, hi⟩ : ∃ i : Nat, m - 1 - k = i := ⟨_, rfl⟩
   have hi' : (m : Int) - 1 - (k : Int) = (i : Int) := by omega
   rw [hi] at hx hy hsn hRr
   rw [hi']
   have hx0 : (0 : Int) <= (i : Int) := by omega
   have hx1 : (i : Int) < (m : Int) := by omega
   have HI := Lib.hid hi'
   have HK := Lib.hid hk
   have HSn := Lib.hid hsn
   have HRr := Lib.hid hr
   clear hi' hi hk hlt' hsn hr hcs hrd
   dsimp only [bkEnc] at hy
   gi_wp2
   refine hRr.mono ?_
   rintro e W3 (⟨rfl, hJ3, hk1, hk2⟩ | ⟨rfl, hJx3⟩)
   ·have hb3 : Boxed W3 Bs 22 (.slice (some ⟨b, o, none⟩) m c) := hk1.trans HB.out
    have hr3 := hk2 HRr.out
    gi_wp2
    go_roundw
    case rel => exact ⟨pre ++ [(i, x)], by have := HI.out; have := HK.out; rw [List.length_append]; simp only [List.length_cons, List.length_nil]; exact congrArg (Value.int .i64) (by omega), HSn.out, hb3, hr3, hJ3⟩
    case measure => simp [intOf]
   ·gi_wp2
    refine bodyPost_ret (results_none rfl _ _ _) rfl ?_
    exact ⟨⟨_, rfl⟩, .inr ⟨_, HSn.out, hJx3⟩⟩
  ·have hge : ¬ (0 : Int) <= (m : Int) - 1 - (k : Int) := by omega
   have HK := Lib.hid hk
   clear hk
   gi_wp2
   go_end0
   exact ⟨⟨_, rfl⟩, .inl ⟨pre, ⟨HP.out, by have := HK.out; omega⟩, hj⟩⟩
theorem backU_stops (n : Nat) (hn : 1 <= n) (Bs : Nat) (A : Option Addr) (m c : Nat) (Rd : Nat -> Int -> Prop) (hm : m <= 9223372036854775807) (w : World)
  (hBs : Boxed w Bs 22 (.slice A m c)) (hR : RdW A m Rd w) :
  SeqCell Fence.wide n Tryz.prog 142 #[.pointer (some ⟨Bs, 0, none⟩)] bkEnc (KpB Bs A m Rd) (fun ys => BkP Rd m ys /\ ys.length = m) (BkP Rd m) m Bs w :=
 fun l J Jx W hW hJ _ _ hY h0 => backU1_in n hn l Bs A m c Rd hm J Jx W hJ hY ((hW.block Bs hBs.lt).trans hBs) (hR.below hW) h0
end YtjbjkmccfocikaaGreatDoor.B
end
section
namespace YtjbjkmccfocikaaGreatDoor.B
open Go.RowKit YtjbjkmccfocikaaGreatDoorW.PrintWords YtjbjkmccfocikaaGreatDoor.P.Nm
attribute [local go_sem] Oper.semAt_some Instr.field asAgg
def dec_Whole.f (k : Nat) (a : Bool) (l : List Int) (e : Int) : Option (Int × Bool × Int) := (dec_Check.f k a l e).bind fun t => if t = 0 then (if e < 0 then some (0, false, 0) else if 21 < e then some (0, false, 0) else (dec_number_down.f k a l e 0).bind fun d => if 2 < d.2.1.length then some (0, false, 0) else if okW d.2.1 = true then (if 9007199254740992 < num d.2.1 then some (0, false, 0) else some (if a then -(num d.2.1 : Int) else num d.2.1, true, 0)) else none) else some (0, false, t)
structure WhI (w2 : World) (L : List Int) (pre : List (Nat × Int)) (W : World) : Prop where
 n : Boxed W w2.heap.size 3 (.int .i64 (wrap64 (val 4294967296 (L.drop (L.length - pre.length)))))
 s : ∃ u, Boxed W (w2.heap.size + 1) 22 u
 low : Below w2.heap.size w2 W
theorem WhI.own {w2 : World} {L : List Int} {n : Nat} (hn : w2.heap.size <= n) : OwnFrom n (WhI w2 L) := by
 rintro pre A W row ⟨a, ⟨u, s⟩, hb⟩ hg hr
 exact ⟨a.kept hg (not_row hr a), ⟨u, s.kept hg (not_row hr s)⟩, (ownFrom_below (Nat.le_refl _) hn : OwnFrom _ (fun _ : List (Nat × Int) => Below w2.heap.size w2)) pre A W row hb hg hr⟩
theorem WhI.minds {w2 : World} {L : List Int} : Minds (w2.heap.size + 1) (WhI w2 L) := by
 rintro pre W u ⟨a, ⟨v, s⟩, hb⟩
 exact ⟨(setCell_away W _ u _ (by omega)).trans a, ⟨u, s.set u⟩, hb.setCell (p := ⟨w2.heap.size + 1, 0, none⟩) (by simp) u⟩
theorem or_i64 {v y : Int} (h0 : 0 <= v) (h1 : v < 4294967296) (h2 : 0 <= y) (h3 : y < 4294967296) : Go.bits .or .i64 (wrap64 (v * 4294967296)) y = wrap64 (v * 4294967296 + y) := by
 obtain ⟨a, rfl⟩ := Int.eq_ofNat_of_zero_le h0
 obtain ⟨b, rfl⟩ := Int.eq_ofNat_of_zero_le h2
 show IntKind.i64.wrap ((BitVec.ofInt 64 (wrap64 ((a : Int) * 4294967296)) ||| BitVec.ofInt 64 (b : Int)).toNat : Int) = _
 have e2 : ((2 ^ 64 : Nat) : Int) = 18446744073709551616 := by decide
 have e1 : (BitVec.ofInt 64 (wrap64 ((a : Int) * 4294967296))).toNat = 2 ^ 32 * a := by
  rw [BitVec.toNat_ofInt, e2]; unfold wrap64; omega
 have e3 : (BitVec.ofInt 64 (b : Int)).toNat = b := by rw [BitVec.toNat_ofInt, e2]; omega
 rw [BitVec.toNat_or, e1, e3, <- Nat.two_pow_add_eq_or_of_lt (show b < 2 ^ 32 by omega)]
 have e4 : ((2 ^ 32 * a + b : Nat) : Int) = (a : Int) * 4294967296 + b := by omega
 rw [e4]
 simp [IntKind.wrap, IntKind.bits, IntKind.signed, wrap64]
 split <;> omega
theorem dec_Whole.calls (k : Nat) (a0_0 : Bool) (A0_1 : Option Addr) (c0_1 : Nat) (l0_1 : List Int) (a0_2 : Int) (r1 : Int) (r2 : Bool) (r3 : Int) (w : World) (hr0_1 : Kd.C (Kd.int .u32) w A0_1 l0_1.length l0_1) (hc0_1 : l0_1.length <= c0_1) (h : dec_Whole.f k a0_0 l0_1 a0_2 = some (r1, r2, r3)) :
  Calls Tryz.prog 52 #[.agg #[.bool a0_0, .slice A0_1 l0_1.length c0_1, .int .i64 a0_2]] w fun e w' => e = .returned (.tuple #[.int .i64 r1, .bool r2, .int .i64 r3]) /\ Below w.heap.size w w' := by
 have hu24 := Tryz.underlying24
 have hu106 := Tryz.underlying106
 unfold dec_Whole.f at h
 obtain ⟨t, ht, h⟩ := Option.bind_eq_some_iff.mp h
 refine (callsIn_wide (n := 4)).1 ?_
 refine callsIn_of_wp_marks Tryz.func52 rfl trivial ?_ rfl
 simp only [Tryz.ntmps52, List.size_toArray, List.length_cons, List.length_nil, Nat.reduceAdd, Nat.reduceSub, Array.replicate_succ, Array.replicate_zero, List.push_toArray, List.append_toArray, List.nil_append, List.cons_append]
 have CK := Aside0.mk (dec_Check.calls k a0_0 A0_1 c0_1 l0_1 a0_2 t (w.alloc (.cells #[.bool a0_0, .slice A0_1 l0_1.length c0_1, .int .i64 a0_2] 24)) (Kd.C_alloc hr0_1 _) hc0_1 ht)
 have HR := Aside0.mk hr0_1
 have hB0 : Below w.heap.size w (w.alloc (.cells #[.bool a0_0, .slice A0_1 l0_1.length c0_1, .int .i64 a0_2] 24)) := (Below.refl _ w).alloc (Nat.le_refl _) _
 have HB0 := Aside0.mk hB0
 have HQ := Aside0.mk (blk_new w (.cells #[.bool a0_0, .slice A0_1 l0_1.length c0_1, .int .i64 a0_2] 24))
 clear hr0_1 ht hB0
 by_cases ht : t = 0
 ·subst ht
  rw [if_pos rfl] at h
  by_cases he : a0_2 < 0
  ·rw [if_pos he] at h
   obtain ⟨rfl, rfl, rfl⟩ : 0 = r1 /\ false = r2 /\ 0 = r3 := by simpa using h
   have he1 : decide (a0_2 < 0) = true := decide_eq_true he
   clear h he
   gi_wp2_with (refine ⟨trivial, ?_⟩; gi_at_call 55; refine (callsIn_wide.2 CK.out).mono ?_; rintro e w1 ⟨rfl, hb1⟩; have q0 := (blk_cell (blk_below HQ.out hb1) 0).trans rfl; have q1 := (blk_cell (blk_below HQ.out hb1) 1).trans rfl; have q2 := (blk_cell (blk_below HQ.out hb1) 2).trans rfl)
   exact ⟨_, by simp [results, Tryz.f52, go_sem], rfl, below_step HB0.out hb1⟩
  ·rw [if_neg he] at h
   have he1 : decide (a0_2 < 0) = false := decide_eq_false he
   by_cases he2 : 21 < a0_2
   ·rw [if_pos he2] at h
    obtain ⟨rfl, rfl, rfl⟩ : 0 = r1 /\ false = r2 /\ 0 = r3 := by simpa using h
    have he3 : decide (21 < a0_2) = true := decide_eq_true he2
    clear h he he2
    gi_wp2_with (refine ⟨trivial, ?_⟩; gi_at_call 55; refine (callsIn_wide.2 CK.out).mono ?_; rintro e w1 ⟨rfl, hb1⟩; have q0 := (blk_cell (blk_below HQ.out hb1) 0).trans rfl; have q1 := (blk_cell (blk_below HQ.out hb1) 1).trans rfl; have q2 := (blk_cell (blk_below HQ.out hb1) 2).trans rfl)
    exact ⟨_, by simp [results, Tryz.f52, go_sem], rfl, below_step HB0.out hb1⟩
   ·rw [if_neg he2] at h
    have he3 : decide (21 < a0_2) = false := decide_eq_false he2
    obtain ⟨⟨d1, L, d3⟩, hd, h⟩ := Option.bind_eq_some_iff.mp h
    simp only at h
    have CD := fun W (hW : Below w.heap.size w W) => Aside0.mk (dec_number_down.calls k a0_0 (fun k_ => k_ < w.heap.size) A0_1 c0_1 l0_1 a0_2 0 d1 L d3 W (Kd.V_mk hc0_1 (Kd.F_below (Kd.C_F (Kd.heap_int .u32) HR.out) hW)) hd)
    have CDA := Aside0.mk CD
    clear CD hd he he2
    by_cases hl : 2 < L.length
    ·rw [if_pos hl] at h
     obtain ⟨rfl, rfl, rfl⟩ : 0 = r1 /\ false = r2 /\ 0 = r3 := by simpa using h
     have hl' : (2 : Int) < (L.length : Int) := by omega
     clear h
     gi_wp2_with (first | (refine ⟨trivial, ?_⟩; gi_at_call 55; refine (callsIn_wide.2 CK.out).mono ?_; rintro e w1 ⟨rfl, hb1⟩; have q0 := (blk_cell (blk_below HQ.out hb1) 0).trans rfl; have q1 := (blk_cell (blk_below HQ.out hb1) 1).trans rfl; have q2 := (blk_cell (blk_below HQ.out hb1) 2).trans rfl; have hb0 := below_step HB0.out hb1) | (refine ⟨trivial, ?_⟩; gi_at_call 106; refine (callsIn_wide.2 ((CDA.out _ hb0).out)).mono ?_; rintro e w2 ⟨v1, rfl, hV, hb2⟩; obtain ⟨A1, c1, rfl⟩ := Kd.V_slice hV))
     exact ⟨_, by simp [results, Tryz.f52, go_sem], rfl, below_step hb0 hb2⟩
    ·rw [if_neg hl] at h
     split at h
     case isFalse => cases h
     case isTrue hok =>
     have okL := okW_iff.1 hok
     obtain ⟨N, hN⟩ : ∃ N, num L = N := ⟨_, rfl⟩
     rw [hN] at h
     have hNv := num_val okL.dg
     rw [hN] at hNv
     have hN64 : N < 18446744073709551616 := by
      have := num_lt okL.dg
      rw [hN] at this
      exact Nat.lt_of_lt_of_le this (Nat.le_trans (Nat.pow_le_pow_right (by omega) (show L.length <= 2 by omega)) (by decide))
     have HL := Aside0.mk (show L.length <= 2 by omega)
     have HNv := Aside0.mk hNv
     have OKL := Aside0.mk okL
     have HH := Aside0.mk h
     have hl' : ¬ ((2 : Int) < (L.length : Int)) := by omega
     clear h hok hN hl hNv okL
     gi_wp2_with (first | (refine ⟨trivial, ?_⟩; gi_at_call 55; refine (callsIn_wide.2 CK.out).mono ?_; rintro e w1 ⟨rfl, hb1⟩; have q0 := (blk_cell (blk_below HQ.out hb1) 0).trans rfl; have q1 := (blk_cell (blk_below HQ.out hb1) 1).trans rfl; have q2 := (blk_cell (blk_below HQ.out hb1) 2).trans rfl; have hb0 := below_step HB0.out hb1) | (refine ⟨trivial, ?_⟩; gi_at_call 106; refine (callsIn_wide.2 ((CDA.out _ hb0).out)).mono ?_; rintro e w2 ⟨v1, rfl, hV, hb2⟩; obtain ⟨A1, c1, rfl⟩ := Kd.V_slice hV) | (refine ⟨trivial, ?_⟩; gi_at_call 107; refine (backU_in _ _ _ _ _).mono ?_; rintro e w' ⟨rfl, rfl⟩))
     have bN := (Boxed.new w2 3 (.int .i64 0)).alloc (.cells #[.slice A1 L.length c1] 22)
     have bS := Boxed.new (w2.alloc (.cells #[.int .i64 0] 3)) 22 (.slice A1 L.length c1)
     have hBw : Below w2.heap.size w2 ((w2.alloc (.cells #[.int .i64 0] 3)).alloc (.cells #[.slice A1 L.length c1] 22)) := ((Below.refl _ w2).alloc (Nat.le_refl _) _).alloc (by simp) _
     simp only [World.size_alloc] at bN bS
     have hE := reads_at (Kd.V_reads' hV).2.2
     have hQ2 := Aside0.mk (blk_below (blk_below HQ.out hb1) hb2)
     have hLow := Aside0.mk (below_step hb0 hb2)
     have hA0 : L.length = 0 \/ ∃ b o, A1 = some ⟨b, o, none⟩ /\ b < w2.heap.size := by
      rcases Nat.eq_zero_or_pos L.length with h | h
      ·exact .inl h
      ·obtain ⟨b, o, x, hA, hc, _⟩ := hE.at h
       exact .inr ⟨b, o, hA, by have := World.block_lt_of_cell? w2 _ hc; simp at this; omega⟩
     have hA := Lib.hid hA0
     clear hA0
     have hz : wrap64 (val 4294967296 (L.drop (L.length - ([] : List (Nat × Int)).length))) = 0 := by simp [val, wrap64]
     clear hV hb0 hb1 hb2 q0 q1 q2
     refine wpIn_rangeFunc_cell (b := w2.heap.size + 1) rfl (by decide) (gf := 142) (lb := #[.pointer (some ⟨w2.heap.size + 1, 0, none⟩)]) rfl trivial (enters_of Tryz.func142 (by kernel_rfl) rfl)
      (backU_stops 3 (by omega) (w2.heap.size + 1) A1 L.length c1 (fun j x => x = L.getD j 0) (by have := HL.out; omega) _ bS (hE.below hBw)) (by simp) (fun h k => h.trans k)
      (fun W l o o' hl ho hc hw => KpB.put (by simp at hl; omega) ho hc) (Below.refl _ _) (fun _ => rfl)
      (WhI w2 L) (fun _ _ _ => False) (WhI.own (by simp; omega)) (fun _ => by rintro pre A W row h; exact h.elim) WhI.minds ?start
      (fun x => { tmps := #[.agg #[.bool a0_0, .slice A0_1 l0_1.length c0_1, .int .i64 a0_2], .pointer (some ⟨w.heap.size, 0, none⟩), .int .i64 0, .bool false, .int .i64 0, .int .i64 0, .slice A1 L.length c1, .pointer (some ⟨w2.heap.size, 0, none⟩), undef, .int .u32 x.2,
       .agg #[.bool a0_0, .slice A0_1 l0_1.length c0_1, .int .i64 a0_2], .int .i64 0, .int .i64 0, .bool false, undef, .pointer (some ⟨w.heap.size, 2, none⟩), .int .i64 a0_2, .bool false, .bool false, .pointer (some ⟨w.heap.size, 2, none⟩), .int .i64 a0_2, .bool false, .bool false,
       .agg #[.bool a0_0, .slice A0_1 l0_1.length c0_1, .int .i64 a0_2], .agg #[.bool a0_0, .slice A0_1 l0_1.length c0_1, .int .i64 a0_2], .agg #[.bool d1, .slice A1 L.length c1, .int .i64 d3], .agg #[.bool d1, .slice A1 L.length c1, .int .i64 d3], .slice A1 L.length c1, .slice A1 L.length c1, .int .i64 L.length, .bool (decide ((2 : Int) < (L.length : Int))), .slice A1 L.length c1,
       .func (.func 142) #[] #[.pointer (some ⟨w2.heap.size + 1, 0, none⟩)], .int .i64 x.1, .int .u32 x.2, undef, undef, undef, undef, undef, undef, undef, undef, undef, undef, undef, undef, undef, undef, undef, undef, undef, undef], defers := [] }) ?assign ?body ?done ?stop
     case start => exact ⟨by rw [hz]; exact bN, ⟨_, bS⟩, hBw⟩
     case assign =>
      intro l x W K hK
      gi_wp2
      exact hK
     case body =>
      rintro l pre x W ⟨n, ⟨u, s⟩, hb⟩ hlen hsp
      obtain ⟨hx1, hx2⟩ := hsp.2 pre.length x (by simp)
      obtain ⟨i, y⟩ := x
      simp only at hx1 hx2
      have hi' : i < L.length := by omega
      have hyr : 0 <= y /\ y < 4294967296 := by
       rw [hx2, List.getD, List.getElem?_eq_getElem hi']
       exact OKL.out.dg _ (List.getElem_mem hi')
      obtain ⟨v, hv, hv0⟩ : ∃ v : Int, wrap64 (val 4294967296 (L.drop (L.length - pre.length))) = v /\ 0 <= v /\ v < 4294967296 /\ wrap64 (val 4294967296 (L.drop (L.length - (pre ++ [(i, y)]).length))) = wrap64 (v * 4294967296 + y) := by
       have e1 : L.length - pre.length = i + 1 := by omega
       have e2 : L.length - (pre ++ [(i, y)]).length = i := by simp; omega
       have hd := OKL.out.dg
       have hv1 := val_lt (b := 4294967296) (by omega) (hd.drop (i + 1))
       have hv0 := val_nonneg (b := 4294967296) (by omega) (hd.drop (i + 1))
       have hle : pw 4294967296 (L.drop (i + 1)).length <= pw 4294967296 1 := pw_le (by omega) (by rw [List.length_drop]; have := HL.out; omega)
       have hp1 : pw 4294967296 1 = 4294967296 := by decide
       have hdr : L.drop i = y :: L.drop (i + 1) := by
        rw [List.drop_eq_getElem_cons hi', hx2, List.getD, List.getElem?_eq_getElem hi']; rfl
       rw [e1, e2, hdr, val_cons]
       obtain ⟨V, hVe⟩ : ∃ V, val 4294967296 (L.drop (i + 1)) = V := ⟨_, rfl⟩
       rw [hVe] at hv1 hv0 ⊢
       have hw : wrap64 V = V := by unfold wrap64; omega
       exact ⟨V, hw, hv0, by omega, by rw [Int.add_comm y, Int.mul_comm]⟩
      rw [hv] at n
      have hnc := n.cell
      have hnf := n.frozen
      have hH := Lib.hid hb
      have HS := Lib.hid s
      have HN := Lib.hid n
      clear hv hx1 hx2 hsp hb s n
      have hor := or_i64 hv0.1 hv0.2.1 hyr.1 hyr.2
      have HV := Lib.hid hv0.2.2
      have HOr := Lib.hid hor
      clear hor hv0
      gi_wp2
      refine ⟨(KeepsOthers.setCell W ⟨w2.heap.size, 0, none⟩ _).from _, KpB.set (p := ⟨w2.heap.size, 0, none⟩) _ (by show w2.heap.size + 1 ≠ w2.heap.size; omega) (hA.out.imp id fun ⟨b, o, h1, h2⟩ => ⟨b, o, h1, by show b ≠ w2.heap.size; omega⟩), ?_, ⟨u, ?_⟩, ?_⟩
      ·rw [HV.out, HOr.out]; exact Boxed.set _ HN.out
      ·exact (setCell_away W _ _ _ (by omega)).trans HS.out
      ·exact hH.out.setCell (p := ⟨w2.heap.size, 0, none⟩) (by simp) _
     case done =>
      rintro D ys W hD ⟨hp, hpl⟩ ⟨n, _, hb⟩ hK
      have hc3 := blk_cell (blk_below hQ2.out hb) 0
      have hall : wrap64 (val 4294967296 (L.drop (L.length - ys.length))) = wrap64 (N : Int) := by rw [hpl, Nat.sub_self, List.drop_zero, HNv.out]
      rw [hall] at n
      have hnc := n.cell
      have HLow := Aside0.mk (below_step hLow.out hb)
      have hD' : w.heap.size <= D := by have h1 := (below_size hLow.out); simp at hD; omega
      have HK := Aside0.mk hK
      have hh := HH.out
      have fin : ∀ (x : Int) (b : Bool), Below w.heap.size w (W.putObj D (.deferred none)) := fun _ _ => HLow.out.trans (belowK_b (w := w) (Nat.le_refl _) W D _ _ hD' HK.out rfl rfl)
      have Fin := Aside0.mk fin
      clear hp hpl n hb hK hall fin HH
      by_cases hbig : 9007199254740992 < N
      ·rw [if_pos hbig] at hh
       obtain ⟨rfl, rfl, rfl⟩ : 0 = r1 /\ false = r2 /\ 0 = r3 := by simpa using hh
       clear hh
       by_cases hs : N < 9223372036854775808
       ·have hw : wrap64 (N : Int) = (N : Int) := by unfold wrap64; omega
        rw [hw] at hnc
        have f1 : decide ((N : Int) < 0) = false := decide_eq_false (by omega)
        have f2 : decide (9007199254740992 < (N : Int)) = true := decide_eq_true (by omega)
        have f3 : ¬ ((N : Int) < 0) := by omega
        have f4 : (9007199254740992 : Int) < (N : Int) := by omega
        gi_wp2
        refine ⟨by simp, .inl ⟨_, _, rfl, run_takeDeferred HK.out, ?_⟩⟩
        exact ⟨_, by simp [results, Tryz.f52, go_sem], rfl, Fin.out 0 true⟩
       ·have hw : ∃ z : Int, wrap64 (N : Int) = z /\ z < 0 := ⟨(N : Int) - 18446744073709551616, by unfold wrap64; omega, by omega⟩
        obtain ⟨z, hw, hz0⟩ := hw
        rw [hw] at hnc
        have f1 : decide (z < 0) = true := decide_eq_true hz0
        gi_wp2
        refine ⟨by simp, .inl ⟨_, _, rfl, run_takeDeferred HK.out, ?_⟩⟩
        exact ⟨_, by simp [results, Tryz.f52, go_sem], rfl, Fin.out 0 true⟩
      ·rw [if_neg hbig] at hh
       obtain ⟨rfl, rfl, rfl⟩ : (if a0_0 = true then -(N : Int) else (N : Int)) = r1 /\ true = r2 /\ 0 = r3 := by simpa using hh
       clear hh
       have hw : wrap64 (N : Int) = (N : Int) := by unfold wrap64; omega
       rw [hw] at hnc
       have f1 : decide ((N : Int) < 0) = false := decide_eq_false (by omega)
       have f2 : decide (9007199254740992 < (N : Int)) = false := decide_eq_false (by omega)
       have f3 : ¬ ((N : Int) < 0) := by omega
       have f4 : ¬ ((9007199254740992 : Int) < (N : Int)) := by omega
       have f5 : wrap64 (-(N : Int)) = -(N : Int) := by unfold wrap64; omega
       have F5 := Aside0.mk f5
       clear f5 hbig
       cases a0_0
       ·gi_wp2
        refine ⟨by simp, .inl ⟨_, _, rfl, run_takeDeferred HK.out, ?_⟩⟩
        exact ⟨_, by simp [results, Tryz.f52, go_sem], rfl, Fin.out 0 true⟩
       ·gi_wp2
        refine ⟨by simp, .inl ⟨_, _, rfl, run_takeDeferred HK.out, ?_⟩⟩
        exact ⟨_, by simp [results, Tryz.f52, go_sem, F5.out], rfl, Fin.out 0 true⟩
     case stop =>
      rintro D c pre W hD hpre h hK
      exact h.elim
 ·rw [if_neg ht] at h
  obtain ⟨rfl, rfl, rfl⟩ : 0 = r1 /\ false = r2 /\ t = r3 := by simpa using h
  have ht' : (t != 0) = true := bne_iff_ne.2 ht
  clear ht h
  gi_wp2_with (refine ⟨trivial, ?_⟩; gi_at_call 55; refine (callsIn_wide.2 CK.out).mono ?_; rintro e w1 ⟨rfl, hb1⟩)
  exact ⟨_, by simp [results, Tryz.f52, go_sem], rfl, below_step HB0.out hb1⟩
end YtjbjkmccfocikaaGreatDoor.B
end
section
namespace YtjbjkmccfocikaaGreatDoor.B
open Go.RowKit YtjbjkmccfocikaaGreatDoorW.PrintWords YtjbjkmccfocikaaGreatDoorW.PrintLast YtjbjkmccfocikaaGreatDoorW.PrintMore
attribute [local go_sem] max2_int min2_int max_two min_two max_three min_three max_four min_four
def bolterlaw02_DecInts.f (k : Nat) (a0 : Int) (a1 : Int) : Option (Bool) := (bolterlaw02_alive.f k).bind fun t1839 => (if t1839 = true then ((dec_Int.f k (Int.tmod a0 67108864)).bind fun bt1840 => ((dec_Int.f k (Int.tmod a1 67108864)).bind fun bt1845 => ((dec_Add.f k bt1840.1 bt1840.2.1 bt1840.2.2 bt1845.1 bt1845.2.1 bt1845.2.2).bind fun bt1850 => ((dec_Int.f k (Int.tmod a0 67108864)).bind fun bt1857 => ((dec_Int.f k (Int.tmod a1 67108864)).bind fun bt1862 => ((dec_Mul.f k bt1857.1 bt1857.2.1 bt1857.2.2 bt1862.1 bt1862.2.1 bt1862.2.2).bind fun bt1867 => ((dec_Int.f k (Int.tmod a0 67108864)).bind fun bt1874 => ((dec_Int.f k (Int.tmod a1 67108864)).bind fun bt1879 => ((dec_Compare.f k bt1874.1 bt1874.2.1 bt1874.2.2 bt1879.1 bt1879.2.1 bt1879.2.2).bind fun bt1884 => ((dec_Whole.f k bt1867.1 bt1867.2.1 bt1867.2.2.1).bind fun bt1886 => ((bolterlaw02_num.f bt1850.2.2.2).bind fun t1889 => ((bolterlaw02_num.f bt1867.2.2.2).bind fun t1890 => ((bolterlaw02_num.f bt1884.2).bind fun t1891 => ((bolterlaw02_num.f bt1886.2.2).bind fun t1892 => (if (wrap64 ((wrap64 ((wrap64 (t1889 + t1890)) + t1891)) + t1892)) = 0 then ((dec_Int.f k (wrap64 ((Int.tmod a0 67108864) + (Int.tmod a1 67108864)))).bind fun bt1893 => ((bolterref02_Same.f k bt1850.1 bt1850.2.1 bt1850.2.2.1 bt1893.1 bt1893.2.1 bt1893.2.2).bind fun t1898 => (if t1898 = true then (if bt1886.2.1 = true then (if bt1886.1 = (wrap64 ((Int.tmod a0 67108864) * (Int.tmod a1 67108864))) then (if ((decide (bt1884.1 < 0)) == (decide ((Int.tmod a0 67108864) < (Int.tmod a1 67108864)))) = true then (some ((bt1884.1 == 0) == ((Int.tmod a0 67108864) == (Int.tmod a1 67108864)))) else (some false)) else (some false)) else (some false)) else (some false)))) else (some false)))))))))))))))) else (some false))
def bolterlaw02_DecInts.T8 : Bool × List (List Nat × List Nat) := (true, [([], []), ([0], [0]), ([], []), ([2, 1], [2]), ([1, 3], [1, 3]), ([], []), ([5, 3], [5]), ([4, 6], [4, 6]), ([], []), ([8, 6], [8]), ([7, 9], [7, 9]), ([10], [10]), ([11, 9], [11]), ([12], [12]), ([12], [12]), ([12], [12]), ([14, 15, 12], [12, 14, 15]), ([16, 12, 12], [12, 16]), ([13, 17, 17, 12], [12, 13, 17]), ([12, 18], [12, 18]), ([19, 18], [19]), ([20], [20]), ([20, 21], [20, 21]), ([22, 20], [22]), ([23], [23]), ([23], [23]), ([23], [23]), ([25, 26, 23], [23, 25, 26]), ([24, 27, 23], [23, 24, 27]), ([23, 28], [23, 28]), ([29, 23], [29]), ([30], [30]), ([31, 30], [30, 31]), ([30], [30]), ([30], [30]), ([33, 34, 30], [30, 33, 34]), ([32, 35, 30], [30, 32, 35]), ([30, 36], [30, 36]), ([37, 30], [37]), ([38], [38]), ([39, 38], [38, 39]), ([38], [38]), ([38], [38]), ([41, 42, 38], [38, 41, 42]), ([40, 43, 38], [38, 40, 43]), ([38, 44], [38, 44]), ([45, 38, 0, 1, 2, 3, 4, 5, 6, 7, 8, 9, 10, 11, 12, 13, 14, 15, 16, 17, 18, 19, 20, 21, 22, 23, 24, 25, 26, 27, 28, 29, 30, 31, 32, 33, 34, 35, 36, 37, 38, 39, 40, 41, 42, 43, 44, 45], [45])])
def bolterlaw02_DecInts.B8 : List Nat := [0, 1, 0, 7, 15, 0, 47, 127, 0, 367, 1023, 2047, 4095, 8191, 8191, 8191, 57343, 122879, 262143, 524287, 1048575, 2097151, 4194303, 8388607, 16777215, 16777215, 16777215, 117440511, 268435455, 536870911, 1073741823, 2147483647, 4294967295, 2147483647, 2147483647, 27917287423, 68719476735, 137438953471, 274877906943, 549755813887, 1099511627775, 549755813887, 549755813887, 7146825580543, 17592186044415, 35184372088831, 70368744177663]
theorem bolterlaw02_DecInts.tab8 : rtab .any (opsOf Tryz.f12 8) = bolterlaw02_DecInts.T8 := by kernel_rfl
theorem bolterlaw02_DecInts.bits8 : waitsOk bolterlaw02_DecInts.T8.2 bolterlaw02_DecInts.B8 = true := by kernel_rfl
theorem bolterlaw02_DecInts.calls (k : Nat) (a0 : Int) (a1 : Int) (r : Bool) (w : World) (h : bolterlaw02_DecInts.f k a0 a1 = some r) (hr : r = true) :
  Calls Tryz.prog 12 #[.int .i64 a0, .int .i64 a1] w fun e w' => e = .returned (.bool r) /\ Below w.heap.size w w' := by
 have hu24 := Tryz.underlying24
 have HB := am (Below.refl w.heap.size w)
 have H : ((bolterlaw02_alive.f k).bind fun t1839 => (if t1839 = true then ((dec_Int.f k (Int.tmod a0 67108864)).bind fun bt1840 => ((dec_Int.f k (Int.tmod a1 67108864)).bind fun bt1845 => ((dec_Add.f k bt1840.1 bt1840.2.1 bt1840.2.2 bt1845.1 bt1845.2.1 bt1845.2.2).bind fun bt1850 => ((dec_Int.f k (Int.tmod a0 67108864)).bind fun bt1857 => ((dec_Int.f k (Int.tmod a1 67108864)).bind fun bt1862 => ((dec_Mul.f k bt1857.1 bt1857.2.1 bt1857.2.2 bt1862.1 bt1862.2.1 bt1862.2.2).bind fun bt1867 => ((dec_Int.f k (Int.tmod a0 67108864)).bind fun bt1874 => ((dec_Int.f k (Int.tmod a1 67108864)).bind fun bt1879 => ((dec_Compare.f k bt1874.1 bt1874.2.1 bt1874.2.2 bt1879.1 bt1879.2.1 bt1879.2.2).bind fun bt1884 => ((dec_Whole.f k bt1867.1 bt1867.2.1 bt1867.2.2.1).bind fun bt1886 => ((bolterlaw02_num.f bt1850.2.2.2).bind fun t1889 => ((bolterlaw02_num.f bt1867.2.2.2).bind fun t1890 => ((bolterlaw02_num.f bt1884.2).bind fun t1891 => ((bolterlaw02_num.f bt1886.2.2).bind fun t1892 => (if (wrap64 ((wrap64 ((wrap64 (t1889 + t1890)) + t1891)) + t1892)) = 0 then ((dec_Int.f k (wrap64 ((Int.tmod a0 67108864) + (Int.tmod a1 67108864)))).bind fun bt1893 => ((bolterref02_Same.f k bt1850.1 bt1850.2.1 bt1850.2.2.1 bt1893.1 bt1893.2.1 bt1893.2.2).bind fun t1898 => (if t1898 = true then (if bt1886.2.1 = true then (if bt1886.1 = (wrap64 ((Int.tmod a0 67108864) * (Int.tmod a1 67108864))) then (if ((decide (bt1884.1 < 0)) == (decide ((Int.tmod a0 67108864) < (Int.tmod a1 67108864)))) = true then (some ((bt1884.1 == 0) == ((Int.tmod a0 67108864) == (Int.tmod a1 67108864)))) else (some false)) else (some false)) else (some false)) else (some false)))) else (some false)))))))))))))))) else (some false))) = some r := h
 clear h
 obtain ⟨t1839, A3, H⟩ := ob H
 by_cases c4 : t1839 = true
 ·subst c4
  rw [if_pos rfl] at H
  obtain ⟨⟨t1840, t1841, t1844⟩, A5, H⟩ := ob H; (try dsimp only at H)
  obtain ⟨⟨t1845, t1846, t1849⟩, A6, H⟩ := ob H; (try dsimp only at H)
  obtain ⟨⟨t1850, t1851, t1854, t1855⟩, A7, H⟩ := ob H; (try dsimp only at H)
  obtain ⟨⟨t1857, t1858, t1861⟩, A8, H⟩ := ob H; (try dsimp only at H)
  obtain ⟨⟨t1862, t1863, t1866⟩, A9, H⟩ := ob H; (try dsimp only at H)
  obtain ⟨⟨t1867, t1868, t1871, t1872⟩, A10, H⟩ := ob H; (try dsimp only at H)
  obtain ⟨⟨t1874, t1875, t1878⟩, A11, H⟩ := ob H; (try dsimp only at H)
  obtain ⟨⟨t1879, t1880, t1883⟩, A12, H⟩ := ob H; (try dsimp only at H)
  obtain ⟨⟨t1884, t1885⟩, A13, H⟩ := ob H; (try dsimp only at H)
  obtain ⟨⟨t1886, t1887, t1888⟩, A14, H⟩ := ob H; (try dsimp only at H)
  obtain ⟨t1889, A15, H⟩ := ob H
  obtain ⟨t1890, A16, H⟩ := ob H
  obtain ⟨t1891, A17, H⟩ := ob H
  obtain ⟨t1892, A18, H⟩ := ob H
  by_cases c19 : (wrap64 ((wrap64 ((wrap64 (t1889 + t1890)) + t1891)) + t1892)) = 0
  ·rw [if_pos c19] at H
   have c19b0 : ((wrap64 ((wrap64 ((wrap64 (t1889 + t1890)) + t1891)) + t1892)) == 0) = true := beq_iff_eq.mpr c19
   have c19b1 : ((wrap64 ((wrap64 ((wrap64 (t1889 + t1890)) + t1891)) + t1892)) != 0) = false := bne_eq_false_iff_eq.mpr c19
   clear c19
   obtain ⟨⟨t1893, t1894, t1897⟩, A20, H⟩ := ob H; (try dsimp only at H)
   obtain ⟨t1898, A21, H⟩ := ob H
   by_cases c22 : t1898 = true
   ·subst c22
    rw [if_pos rfl] at H
    by_cases c23 : t1887 = true
    ·subst c23
     rw [if_pos rfl] at H
     by_cases c24 : t1886 = (wrap64 ((Int.tmod a0 67108864) * (Int.tmod a1 67108864)))
     ·rw [if_pos c24] at H
      have c24b0 : (t1886 == (wrap64 ((Int.tmod a0 67108864) * (Int.tmod a1 67108864)))) = true := beq_iff_eq.mpr c24
      have c24b1 : (t1886 != (wrap64 ((Int.tmod a0 67108864) * (Int.tmod a1 67108864)))) = false := bne_eq_false_iff_eq.mpr c24
      clear c24
      by_cases c25 : ((decide (t1884 < 0)) == (decide ((Int.tmod a0 67108864) < (Int.tmod a1 67108864)))) = true
      ·rw [if_pos c25] at H
       have c25b0 : ((decide (t1884 < 0)) == (decide ((Int.tmod a0 67108864) < (Int.tmod a1 67108864)))) = true := c25
       (try (have c25b1 : decide ((decide (t1884 < 0)) = (decide ((Int.tmod a0 67108864) < (Int.tmod a1 67108864)))) = true := by simpa using c25))
       (try (have c25b2 : ((decide (t1884 < 0)) == (decide ((Int.tmod a0 67108864) < (Int.tmod a1 67108864)))) = true := by simpa using c25))
       clear c25
       obtain rfl := Option.some.inj H
       go_enter Tryz.func12, Tryz.ntmps12
       try go_wp2_with (first | (refine gL (some 14) Tryz.func41 #[] (h := ?_); (with_reducible refine (bolterlaw02_alive.calls k  true _ A3.out).mono ?_); rintro e w26 ⟨rfl, hb⟩; refine ⟨_, rfl, ?_⟩; replace HB := am (below_step pB hb); (try clear hb); (try clear hb2); (try clear hk); (try clear hi)) | (refine gL (some 22) Tryz.func51 #[.int .i64 (Int.tmod a0 67108864)] (h := ?_); (with_reducible refine (dec_Int.calls k (Int.tmod a0 67108864) t1840 t1841 t1844 _ A5.out).mono ?_); rintro e w27 ⟨v1842, rfl, ho0, hb⟩; refine ⟨_, rfl, ?_⟩; have HO1843 := am (Kd.R_lower ho0 (below_size pB)); replace HB := am (below_step pB hb); (try clear hb); (try clear hb2); (try clear hk); (try clear hi); (try clear ho0)) | (refine gL (some 24) Tryz.func51 #[.int .i64 (Int.tmod a1 67108864)] (h := ?_); (with_reducible refine (dec_Int.calls k (Int.tmod a1 67108864) t1845 t1846 t1849 _ A6.out).mono ?_); rintro e w28 ⟨v1847, rfl, ho0, hb⟩; refine ⟨_, rfl, ?_⟩; have n0_ := am (Kd.R_elder' (Kd.R_below HO1843.out pl) (Kd.R_base ho0) hb); have n1_ := am (Kd.R_lower (Kd.R_new' ho0 (Kd.R_lt (Kd.R_below HO1843.out pl))) (below_size pB)); have n2_ := am (below_step pB hb); clear HO1843 HB; have HO1843 := n0_; have HO1848 := n1_; have HB := n2_; clear n0_ n1_ n2_; (try clear hb); (try clear hb2); (try clear hk); (try clear hi); (try clear ho0); obtain ⟨Ao29, co29, eo29⟩ := Kd.R_slice HO1843.out; subst eo29; obtain ⟨Ao30, co30, eo30⟩ := Kd.R_slice HO1848.out; subst eo30) | (refine gL (some 25) Tryz.func43 #[.agg #[.bool t1840, .slice Ao29 t1841.length co29, .int .i64 t1844], .agg #[.bool t1845, .slice Ao30 t1846.length co30, .int .i64 t1849]] (h := ?_); (with_reducible refine (dec_Add.calls k t1840 (fun k_ => some k_ = (.slice Ao29 t1841.length co29 : Value).ownBlock) _ _ t1841 t1844 t1845 (fun k_ => some k_ = (.slice Ao30 t1846.length co30 : Value).ownBlock) _ _ t1846 t1849 t1850 t1851 t1854 t1855 _ ?side1 ?side2 A7.out).mono ?_); (case side1 => exact Kd.R_V (Kd.R_tight rfl (HO1843.out))); (case side2 => exact Kd.R_V (Kd.R_tight rfl (HO1848.out))); rintro e w31 ⟨v1852, rfl, ho0, hb⟩; refine ⟨_, rfl, ?_⟩; have n0_ := am (Kd.R_elder' (Kd.R_below HO1843.out pl) (Kd.R_base ho0) hb); have n1_ := am (Kd.R_elder' (Kd.R_below HO1848.out pl) (Kd.R_base ho0) hb); have n2_ := am (Kd.R_lower (Kd.R_new' (Kd.R_new' (Kd.R_mono (ok' := fun k_ => True) ho0 (fun _ hk_ => trivial)) (Kd.R_lt (Kd.R_below HO1843.out pl))) (Kd.R_lt (Kd.R_below HO1848.out pl))) (below_size pB)); have n3_ := am (below_step pB hb); clear HO1843 HO1848 HB; have HO1843 := n0_; have HO1848 := n1_; have HO1853 := n2_; have HB := n3_; clear n0_ n1_ n2_ n3_; (try clear hb); (try clear hb2); (try clear hk); (try clear hi); (try clear ho0)) | ((with_reducible refine gate_dst (N := 5) rfl ?_); refine box_event ?hg (N := 5) ?hd (cs := #[.bool false, .slice none 0 0, .int .i64 0]) (t := 24) ?hr ?_; (case hd => rfl); (case hg => rfl); (case hr => first | (go_simp; done) | (go_simp; rfl)); intro gb1856 hg w32 hbox hb; have n0_ := am (Kd.R_below (Kd.R_below HO1843.out pl) hb); have n1_ := am (Kd.R_below (Kd.R_below HO1848.out pl) hb); have n2_ := am (Kd.R_below (Kd.R_below HO1853.out pl) hb); have n3_ := am (below_step pB hb); have n4_ := am (hbox); have n5_ := am ((gw hg pB : w.heap.size <= gb1856)); have n6_ := am ((gw hg pB : w.heap.size <= gb1856)); clear HO1843 HO1848 HO1853 HB; have HO1843 := n0_; have HO1848 := n1_; have HO1853 := n2_; have HB := n3_; have BK1856 := n4_; have GW1856 := n5_; have GE1856 := n6_; clear n0_ n1_ n2_ n3_ n4_ n5_ n6_ hb hbox hg; obtain ⟨hcz33_0, hcz33_1, hcz33_2, hfz33_0, hfz33_1, hfz33_2⟩ := cEc BK1856.out; obtain ⟨Ao34, co34, eo34⟩ := Kd.R_slice HO1853.out; subst eo34) | (refine gL (some 30) Tryz.func51 #[.int .i64 (Int.tmod a0 67108864)] (h := ?_); (with_reducible refine (dec_Int.calls k (Int.tmod a0 67108864) t1857 t1858 t1861 _ A8.out).mono ?_); rintro e w35 ⟨v1859, rfl, ho0, hb⟩; refine ⟨_, rfl, ?_⟩; have n0_ := am (Kd.R_elder' (Kd.R_below (z3 HO1843.out BK1856.out (by decide) (.bool t1850) (.slice Ao34 t1851.length co34) (.int .i64 t1854)) pl) (Kd.R_base ho0) hb); have n1_ := am (Kd.R_elder' (Kd.R_below (z3 HO1848.out BK1856.out (by decide) (.bool t1850) (.slice Ao34 t1851.length co34) (.int .i64 t1854)) pl) (Kd.R_base ho0) hb); have n2_ := am (Kd.R_elder' (Kd.R_below (z3 HO1853.out BK1856.out (by decide) (.bool t1850) (.slice Ao34 t1851.length co34) (.int .i64 t1854)) pl) (Kd.R_base ho0) hb); have n3_ := am (Kd.R_lower (Kd.R_new' (Kd.R_new' (Kd.R_new' ho0 (Kd.R_lt (Kd.R_below (z3 HO1843.out BK1856.out (by decide) (.bool t1850) (.slice Ao34 t1851.length co34) (.int .i64 t1854)) pl))) (Kd.R_lt (Kd.R_below (z3 HO1848.out BK1856.out (by decide) (.bool t1850) (.slice Ao34 t1851.length co34) (.int .i64 t1854)) pl))) (Kd.R_lt (Kd.R_below (z3 HO1853.out BK1856.out (by decide) (.bool t1850) (.slice Ao34 t1851.length co34) (.int .i64 t1854)) pl))) (below_size pB)); have n4_ := am (blk_below (g := gb1856) (o := .cells #[.bool t1850, .slice Ao34 t1851.length co34, .int .i64 t1854] 24 (0, 0)) (by refine bp ?_; refine blk_put (cs := #[.bool t1850, .slice Ao34 t1851.length co34, .int .i64 0]) ?_ 2 _ rfl; refine bp ?_; refine blk_put (cs := #[.bool t1850, .slice none 0 0, .int .i64 0]) ?_ 1 _ rfl; refine bp ?_; refine blk_put (cs := #[.bool false, .slice none 0 0, .int .i64 0]) ?_ 0 _ rfl; exact bp BK1856.out) hb); have n5_ := am (below_step pB hb); clear HO1843 HO1848 HO1853 BK1856 HB; have HO1843 := n0_; have HO1848 := n1_; have HO1853 := n2_; have HO1860 := n3_; have BK1856 := n4_; have HB := n5_; clear n0_ n1_ n2_ n3_ n4_ n5_; (try clear hb); (try clear hb2); (try clear hk); (try clear hi); (try clear ho0)) | (refine gL (some 32) Tryz.func51 #[.int .i64 (Int.tmod a1 67108864)] (h := ?_); (with_reducible refine (dec_Int.calls k (Int.tmod a1 67108864) t1862 t1863 t1866 _ A9.out).mono ?_); rintro e w36 ⟨v1864, rfl, ho0, hb⟩; refine ⟨_, rfl, ?_⟩; have n0_ := am (Kd.R_elder' (Kd.R_below HO1843.out pl) (Kd.R_base ho0) hb); have n1_ := am (Kd.R_elder' (Kd.R_below HO1848.out pl) (Kd.R_base ho0) hb); have n2_ := am (Kd.R_elder' (Kd.R_below HO1853.out pl) (Kd.R_base ho0) hb); have n3_ := am (Kd.R_elder' (Kd.R_below HO1860.out pl) (Kd.R_base ho0) hb); have n4_ := am (Kd.R_lower (Kd.R_new' (Kd.R_new' (Kd.R_new' (Kd.R_new' ho0 (Kd.R_lt (Kd.R_below HO1843.out pl))) (Kd.R_lt (Kd.R_below HO1848.out pl))) (Kd.R_lt (Kd.R_below HO1853.out pl))) (Kd.R_lt (Kd.R_below HO1860.out pl))) (below_size pB)); have n5_ := am (blk_below (blk_below BK1856.out pl) hb); have n6_ := am (below_step pB hb); clear HO1843 HO1848 HO1853 HO1860 BK1856 HB; have HO1843 := n0_; have HO1848 := n1_; have HO1853 := n2_; have HO1860 := n3_; have HO1865 := n4_; have BK1856 := n5_; have HB := n6_; clear n0_ n1_ n2_ n3_ n4_ n5_ n6_; (try clear hb); (try clear hb2); (try clear hk); (try clear hi); (try clear ho0); obtain ⟨Ao37, co37, eo37⟩ := Kd.R_slice HO1860.out; subst eo37; obtain ⟨Ao38, co38, eo38⟩ := Kd.R_slice HO1865.out; subst eo38) | (refine gL (some 33) Tryz.func49 #[.agg #[.bool t1857, .slice Ao37 t1858.length co37, .int .i64 t1861], .agg #[.bool t1862, .slice Ao38 t1863.length co38, .int .i64 t1866]] (h := ?_); (with_reducible refine (dec_Mul.calls k t1857 (fun k_ => some k_ = (.slice Ao37 t1858.length co37 : Value).ownBlock) _ _ t1858 t1861 t1862 (fun k_ => some k_ = (.slice Ao38 t1863.length co38 : Value).ownBlock) _ _ t1863 t1866 t1867 t1868 t1871 t1872 _ ?side1 ?side2 A10.out).mono ?_); (case side1 => exact Kd.R_V (Kd.R_tight rfl (Kd.R_types (HO1860.out) BK1856.out (by decide)))); (case side2 => exact Kd.R_V (Kd.R_tight rfl (Kd.R_types (HO1865.out) BK1856.out (by decide)))); rintro e w39 ⟨v1869, rfl, ho0, hb⟩; refine ⟨_, rfl, ?_⟩; have n0_ := am (Kd.R_elder' (Kd.R_below HO1843.out pl) (Kd.R_base ho0) hb); have n1_ := am (Kd.R_elder' (Kd.R_below HO1848.out pl) (Kd.R_base ho0) hb); have n2_ := am (Kd.R_elder' (Kd.R_below HO1853.out pl) (Kd.R_base ho0) hb); have n3_ := am (Kd.R_elder' (Kd.R_below HO1860.out pl) (Kd.R_base ho0) hb); have n4_ := am (Kd.R_elder' (Kd.R_below HO1865.out pl) (Kd.R_base ho0) hb); have n5_ := am (Kd.R_lower (Kd.R_new' (Kd.R_new' (Kd.R_new' (Kd.R_new' (Kd.R_new' (Kd.R_mono (ok' := fun k_ => True) ho0 (fun _ hk_ => trivial)) (Kd.R_lt (Kd.R_below HO1843.out pl))) (Kd.R_lt (Kd.R_below HO1848.out pl))) (Kd.R_lt (Kd.R_below HO1853.out pl))) (Kd.R_lt (Kd.R_below HO1860.out pl))) (Kd.R_lt (Kd.R_below HO1865.out pl))) (below_size pB)); have n6_ := am (blk_below (blk_below BK1856.out pl) hb); have n7_ := am (below_step pB hb); clear HO1843 HO1848 HO1853 HO1860 HO1865 BK1856 HB; have HO1843 := n0_; have HO1848 := n1_; have HO1853 := n2_; have HO1860 := n3_; have HO1865 := n4_; have HO1870 := n5_; have BK1856 := n6_; have HB := n7_; clear n0_ n1_ n2_ n3_ n4_ n5_ n6_ n7_; (try clear hb); (try clear hb2); (try clear hk); (try clear hi); (try clear ho0)) | ((with_reducible refine gate_dst (N := 7) rfl ?_); refine box_event ?hg (N := 7) ?hd (cs := #[.bool false, .slice none 0 0, .int .i64 0]) (t := 24) ?hr ?_; (case hd => rfl); (case hg => rfl); (case hr => first | (go_simp; done) | (go_simp; rfl)); intro gb1873 hg w40 hbox hb; have n0_ := am (Kd.R_below (Kd.R_below HO1843.out pl) hb); have n1_ := am (Kd.R_below (Kd.R_below HO1848.out pl) hb); have n2_ := am (Kd.R_below (Kd.R_below HO1853.out pl) hb); have n3_ := am (Kd.R_below (Kd.R_below HO1860.out pl) hb); have n4_ := am (Kd.R_below (Kd.R_below HO1865.out pl) hb); have n5_ := am (Kd.R_below (Kd.R_below HO1870.out pl) hb); have n6_ := am (blk_below (blk_below BK1856.out pl) hb); have n7_ := am (below_step pB hb); have n8_ := am (hbox); have n9_ := am ((gw hg pB : w.heap.size <= gb1873)); have n10_ := am ((gw hg pB : w.heap.size <= gb1873)); have n11_ := am ((nl hg (blk_below BK1856.out pl) : gb1856 ≠ gb1873)); have n12_ := am ((ng hg (blk_below BK1856.out pl) : gb1873 ≠ gb1856)); clear HO1843 HO1848 HO1853 HO1860 HO1865 HO1870 BK1856 HB; have HO1843 := n0_; have HO1848 := n1_; have HO1853 := n2_; have HO1860 := n3_; have HO1865 := n4_; have HO1870 := n5_; have BK1856 := n6_; have HB := n7_; have BK1873 := n8_; have GW1873 := n9_; have GE1873 := n10_; have NB1856_1873 := n11_; have NB1873_1856 := n12_; clear n0_ n1_ n2_ n3_ n4_ n5_ n6_ n7_ n8_ n9_ n10_ n11_ n12_ hb hbox hg; have hnb41 := NB1873_1856.out; have hnc41 := NB1856_1873.out; obtain ⟨hcz42_0, hcz42_1, hcz42_2, hfz42_0, hfz42_1, hfz42_2⟩ := cEc BK1873.out; obtain ⟨Ao43, co43, eo43⟩ := Kd.R_slice HO1870.out; subst eo43) | (refine gL (some 38) Tryz.func51 #[.int .i64 (Int.tmod a0 67108864)] (h := ?_); (with_reducible refine (dec_Int.calls k (Int.tmod a0 67108864) t1874 t1875 t1878 _ A11.out).mono ?_); rintro e w44 ⟨v1876, rfl, ho0, hb⟩; refine ⟨_, rfl, ?_⟩; have n0_ := am (Kd.R_elder' (Kd.R_below (z3 HO1843.out BK1873.out (by decide) (.bool t1867) (.slice Ao43 t1868.length co43) (.int .i64 t1871)) pl) (Kd.R_base ho0) hb); have n1_ := am (Kd.R_elder' (Kd.R_below (z3 HO1848.out BK1873.out (by decide) (.bool t1867) (.slice Ao43 t1868.length co43) (.int .i64 t1871)) pl) (Kd.R_base ho0) hb); have n2_ := am (Kd.R_elder' (Kd.R_below (z3 HO1853.out BK1873.out (by decide) (.bool t1867) (.slice Ao43 t1868.length co43) (.int .i64 t1871)) pl) (Kd.R_base ho0) hb); have n3_ := am (Kd.R_elder' (Kd.R_below (z3 HO1860.out BK1873.out (by decide) (.bool t1867) (.slice Ao43 t1868.length co43) (.int .i64 t1871)) pl) (Kd.R_base ho0) hb); have n4_ := am (Kd.R_elder' (Kd.R_below (z3 HO1865.out BK1873.out (by decide) (.bool t1867) (.slice Ao43 t1868.length co43) (.int .i64 t1871)) pl) (Kd.R_base ho0) hb); have n5_ := am (Kd.R_elder' (Kd.R_below (z3 HO1870.out BK1873.out (by decide) (.bool t1867) (.slice Ao43 t1868.length co43) (.int .i64 t1871)) pl) (Kd.R_base ho0) hb); have n6_ := am (Kd.R_lower (Kd.R_new' (Kd.R_new' (Kd.R_new' (Kd.R_new' (Kd.R_new' (Kd.R_new' ho0 (Kd.R_lt (Kd.R_below (z3 HO1843.out BK1873.out (by decide) (.bool t1867) (.slice Ao43 t1868.length co43) (.int .i64 t1871)) pl))) (Kd.R_lt (Kd.R_below (z3 HO1848.out BK1873.out (by decide) (.bool t1867) (.slice Ao43 t1868.length co43) (.int .i64 t1871)) pl))) (Kd.R_lt (Kd.R_below (z3 HO1853.out BK1873.out (by decide) (.bool t1867) (.slice Ao43 t1868.length co43) (.int .i64 t1871)) pl))) (Kd.R_lt (Kd.R_below (z3 HO1860.out BK1873.out (by decide) (.bool t1867) (.slice Ao43 t1868.length co43) (.int .i64 t1871)) pl))) (Kd.R_lt (Kd.R_below (z3 HO1865.out BK1873.out (by decide) (.bool t1867) (.slice Ao43 t1868.length co43) (.int .i64 t1871)) pl))) (Kd.R_lt (Kd.R_below (z3 HO1870.out BK1873.out (by decide) (.bool t1867) (.slice Ao43 t1868.length co43) (.int .i64 t1871)) pl))) (below_size pB)); have n7_ := am (blk_below (bf NB1856_1873.out BK1856.out) hb); have n8_ := am (blk_below (g := gb1873) (o := .cells #[.bool t1867, .slice Ao43 t1868.length co43, .int .i64 t1871] 24 (0, 0)) (by refine bp ?_; refine blk_put (cs := #[.bool t1867, .slice Ao43 t1868.length co43, .int .i64 0]) ?_ 2 _ rfl; refine bp ?_; refine blk_put (cs := #[.bool t1867, .slice none 0 0, .int .i64 0]) ?_ 1 _ rfl; refine bp ?_; refine blk_put (cs := #[.bool false, .slice none 0 0, .int .i64 0]) ?_ 0 _ rfl; exact bp BK1873.out) hb); have n9_ := am (below_step pB hb); clear HO1843 HO1848 HO1853 HO1860 HO1865 HO1870 BK1856 BK1873 HB; have HO1843 := n0_; have HO1848 := n1_; have HO1853 := n2_; have HO1860 := n3_; have HO1865 := n4_; have HO1870 := n5_; have HO1877 := n6_; have BK1856 := n7_; have BK1873 := n8_; have HB := n9_; clear n0_ n1_ n2_ n3_ n4_ n5_ n6_ n7_ n8_ n9_; (try clear hb); (try clear hb2); (try clear hk); (try clear hi); (try clear ho0)) | (refine gL (some 40) Tryz.func51 #[.int .i64 (Int.tmod a1 67108864)] (h := ?_); (with_reducible refine (dec_Int.calls k (Int.tmod a1 67108864) t1879 t1880 t1883 _ A12.out).mono ?_); rintro e w45 ⟨v1881, rfl, ho0, hb⟩; refine ⟨_, rfl, ?_⟩; have n0_ := am (Kd.R_elder' (Kd.R_below HO1843.out pl) (Kd.R_base ho0) hb); have n1_ := am (Kd.R_elder' (Kd.R_below HO1848.out pl) (Kd.R_base ho0) hb); have n2_ := am (Kd.R_elder' (Kd.R_below HO1853.out pl) (Kd.R_base ho0) hb); have n3_ := am (Kd.R_elder' (Kd.R_below HO1860.out pl) (Kd.R_base ho0) hb); have n4_ := am (Kd.R_elder' (Kd.R_below HO1865.out pl) (Kd.R_base ho0) hb); have n5_ := am (Kd.R_elder' (Kd.R_below HO1870.out pl) (Kd.R_base ho0) hb); have n6_ := am (Kd.R_elder' (Kd.R_below HO1877.out pl) (Kd.R_base ho0) hb); have n7_ := am (Kd.R_lower (Kd.R_new' (Kd.R_new' (Kd.R_new' (Kd.R_new' (Kd.R_new' (Kd.R_new' (Kd.R_new' ho0 (Kd.R_lt (Kd.R_below HO1843.out pl))) (Kd.R_lt (Kd.R_below HO1848.out pl))) (Kd.R_lt (Kd.R_below HO1853.out pl))) (Kd.R_lt (Kd.R_below HO1860.out pl))) (Kd.R_lt (Kd.R_below HO1865.out pl))) (Kd.R_lt (Kd.R_below HO1870.out pl))) (Kd.R_lt (Kd.R_below HO1877.out pl))) (below_size pB)); have n8_ := am (blk_below (blk_below BK1856.out pl) hb); have n9_ := am (blk_below (blk_below BK1873.out pl) hb); have n10_ := am (below_step pB hb); clear HO1843 HO1848 HO1853 HO1860 HO1865 HO1870 HO1877 BK1856 BK1873 HB; have HO1843 := n0_; have HO1848 := n1_; have HO1853 := n2_; have HO1860 := n3_; have HO1865 := n4_; have HO1870 := n5_; have HO1877 := n6_; have HO1882 := n7_; have BK1856 := n8_; have BK1873 := n9_; have HB := n10_; clear n0_ n1_ n2_ n3_ n4_ n5_ n6_ n7_ n8_ n9_ n10_; (try clear hb); (try clear hb2); (try clear hk); (try clear hi); (try clear ho0); obtain ⟨Ao46, co46, eo46⟩ := Kd.R_slice HO1877.out; subst eo46; obtain ⟨Ao47, co47, eo47⟩ := Kd.R_slice HO1882.out; subst eo47) | (refine gL (some 41) Tryz.func48 #[.agg #[.bool t1874, .slice Ao46 t1875.length co46, .int .i64 t1878], .agg #[.bool t1879, .slice Ao47 t1880.length co47, .int .i64 t1883]] (h := ?_); (with_reducible refine (dec_Compare.calls k t1874 (fun k_ => some k_ = (.slice Ao46 t1875.length co46 : Value).ownBlock) _ _ t1875 t1878 t1879 (fun k_ => some k_ = (.slice Ao47 t1880.length co47 : Value).ownBlock) _ _ t1880 t1883 t1884 t1885 _ ?side1 ?side2 A13.out).mono ?_); (case side1 => exact Kd.R_V (Kd.R_tight rfl (Kd.R_types (Kd.R_types (HO1877.out) BK1856.out (by decide)) BK1873.out (by decide)))); (case side2 => exact Kd.R_V (Kd.R_tight rfl (Kd.R_types (Kd.R_types (HO1882.out) BK1856.out (by decide)) BK1873.out (by decide)))); rintro e w48 ⟨rfl, hb⟩; refine ⟨_, rfl, ?_⟩; replace HO1843 := am (Kd.R_below (Kd.R_below HO1843.out pl) hb); replace HO1848 := am (Kd.R_below (Kd.R_below HO1848.out pl) hb); replace HO1853 := am (Kd.R_below (Kd.R_below HO1853.out pl) hb); replace HO1860 := am (Kd.R_below (Kd.R_below HO1860.out pl) hb); replace HO1865 := am (Kd.R_below (Kd.R_below HO1865.out pl) hb); replace HO1870 := am (Kd.R_below (Kd.R_below HO1870.out pl) hb); replace HO1877 := am (Kd.R_below (Kd.R_below HO1877.out pl) hb); replace HO1882 := am (Kd.R_below (Kd.R_below HO1882.out pl) hb); replace BK1856 := am (blk_below (blk_below BK1856.out pl) hb); replace BK1873 := am (blk_below (blk_below BK1873.out pl) hb); replace HB := am (below_step pB hb); (try clear hb); (try clear hb2); (try clear hk); (try clear hi); obtain ⟨hcz49_0, hcz49_1, hcz49_2, hfz49_0, hfz49_1, hfz49_2⟩ := cEc BK1873.out) | (refine gL (some 46) Tryz.func52 #[.agg #[.bool t1867, .slice Ao43 t1868.length co43, .int .i64 t1871]] (h := ?_); (with_reducible refine (dec_Whole.calls k t1867 _ _ t1868 t1871 t1886 true t1888 _ ?side1 ?side2 A14.out).mono ?_); (case side1 => exact Kd.C_below (Kd.R_reads' HO1870.out).2.2 pl); (case side2 => exact (Kd.R_reads' HO1870.out).2.1); rintro e w50 ⟨rfl, hb⟩; refine ⟨_, rfl, ?_⟩; replace HO1843 := am (Kd.R_below (Kd.R_below HO1843.out pl) hb); replace HO1848 := am (Kd.R_below (Kd.R_below HO1848.out pl) hb); replace HO1853 := am (Kd.R_below (Kd.R_below HO1853.out pl) hb); replace HO1860 := am (Kd.R_below (Kd.R_below HO1860.out pl) hb); replace HO1865 := am (Kd.R_below (Kd.R_below HO1865.out pl) hb); replace HO1870 := am (Kd.R_below (Kd.R_below HO1870.out pl) hb); replace HO1877 := am (Kd.R_below (Kd.R_below HO1877.out pl) hb); replace HO1882 := am (Kd.R_below (Kd.R_below HO1882.out pl) hb); replace BK1856 := am (blk_below (blk_below BK1856.out pl) hb); replace BK1873 := am (blk_below (blk_below BK1873.out pl) hb); replace HB := am (below_step pB hb); (try clear hb); (try clear hb2); (try clear hk); (try clear hi)))
       replace HO1843 := am (Kd.R_drew HO1843.out)
       replace HO1848 := am (Kd.R_drew HO1848.out)
       replace HO1853 := am (Kd.R_drew HO1853.out)
       replace HO1860 := am (Kd.R_drew HO1860.out)
       replace HO1865 := am (Kd.R_drew HO1865.out)
       replace HO1870 := am (Kd.R_drew HO1870.out)
       replace HO1877 := am (Kd.R_drew HO1877.out)
       replace HO1882 := am (Kd.R_drew HO1882.out)
       replace BK1856 := am (blk_drew BK1856.out)
       replace BK1873 := am (blk_drew BK1873.out)
       replace HB := am (below_drew1 HB.out)
       refine start_ (n := 47) (S := fun w' => w'.cell? ⟨gb1856, 0, none⟩ = some (.bool t1850) /\ w'.cell? ⟨gb1856, 1, none⟩ = some (.slice Ao34 t1851.length co34) /\ w'.cell? ⟨gb1856, 2, none⟩ = some (.int .i64 t1854)) (ds := []) #[false, false, false, false, false, false, false, false, false, false, false, false, false, false, false, false, false, false, false, false, false, false, false, false, false, false, false, false, false, false, false, false, false, false, false, false, false, false, false, false, false, false, false, false, false, false, false] (by kernel_rfl) rfl rfl ⟨(blk_cell BK1856.out 0).trans rfl, (blk_cell BK1856.out 1).trans rfl, (blk_cell BK1856.out 2).trans rfl⟩ (fun hHeld => ?_); refine with_tabW bolterlaw02_DecInts.tab8 bolterlaw02_DecInts.bits8 (fun HT_ HW_ => ?_)
       generalize w50.drew = w51 at HO1843 HO1848 HO1853 HO1860 HO1865 HO1870 HO1877 HO1882 BK1856 BK1873 HB hHeld ⊢
       refine pu 0 (some 50) #[true, false, false, false, false, false, false, false, false, false, false, false, false, false, false, false, false, false, false, false, false, false, false, false, false, false, false, false, false, false, false, false, false, false, false, false, false, false, false, false, false, false, false, false, false, false, false] (h := ?_)
       refine pu 2 (some 52) #[true, false, true, false, false, false, false, false, false, false, false, false, false, false, false, false, false, false, false, false, false, false, false, false, false, false, false, false, false, false, false, false, false, false, false, false, false, false, false, false, false, false, false, false, false, false, false] (h := ?_)
       refine pu 5 (some 55) #[true, false, true, false, false, true, false, false, false, false, false, false, false, false, false, false, false, false, false, false, false, false, false, false, false, false, false, false, false, false, false, false, false, false, false, false, false, false, false, false, false, false, false, false, false, false, false] (h := ?_)
       refine pu 8 (some 58) #[true, false, true, false, false, true, false, false, true, false, false, false, false, false, false, false, false, false, false, false, false, false, false, false, false, false, false, false, false, false, false, false, false, false, false, false, false, false, false, false, false, false, false, false, false, false, false] (h := ?_)
       refine one_ (i := 1) (N := some 51) #[true, true, true, false, false, true, false, false, true, false, false, false, false, false, false, false, false, false, false, false, false, false, false, false, false, false, false, false, false, false, false, false, false, false, false, false, false, false, false, false, false, false, false, false, false, false, false] rfl rfl (one_of HT_.out (by kernel_rfl)) (by decide) (fun K hK => ?_)
       refine goes_ Tryz.func47 (by kernel_rfl) rfl #[.int .i64 t1855] (by rfl) rfl rfl pA ?_
       with_reducible refine (bolterlaw02_num.calls t1855 t1889 _ A15.out).mono ?_
       rintro e w' ⟨rfl, ⟨nd, rfl⟩⟩
       refine ⟨_, rfl, ?_⟩
       refine hK.out _ _ ⟨(blk_cell BK1856.out 0).trans rfl, (blk_cell BK1856.out 1).trans rfl, (blk_cell BK1856.out 2).trans rfl⟩ (fun hHeld => ?_)
       clear hK K
       refine norm_ (a' := ?_) ?_ ?_
       rotate_left
       ·show Act.put _ (some 51) _ = _
        simp only [Act.put, List.setIfInBounds_toArray, List.set_cons_zero, List.set_cons_succ, i64_w, i32_w]
        rfl
       refine one_ (i := 3) (N := some 53) #[true, true, true, true, false, true, false, false, true, false, false, false, false, false, false, false, false, false, false, false, false, false, false, false, false, false, false, false, false, false, false, false, false, false, false, false, false, false, false, false, false, false, false, false, false, false, false] rfl rfl (one_of HT_.out (by kernel_rfl)) (by decide) (fun K hK => ?_)
       refine goes_ Tryz.func47 (by kernel_rfl) rfl #[.int .i64 t1872] (by rfl) rfl rfl pA ?_
       with_reducible refine (bolterlaw02_num.calls t1872 t1890 _ A16.out).mono ?_
       rintro e w' ⟨rfl, ⟨nd, rfl⟩⟩
       refine ⟨_, rfl, ?_⟩
       refine hK.out _ _ ⟨(blk_cell BK1856.out 0).trans rfl, (blk_cell BK1856.out 1).trans rfl, (blk_cell BK1856.out 2).trans rfl⟩ (fun hHeld => ?_)
       clear hK K
       refine norm_ (a' := ?_) ?_ ?_
       rotate_left
       ·show Act.put _ (some 53) _ = _
        simp only [Act.put, List.setIfInBounds_toArray, List.set_cons_zero, List.set_cons_succ, i64_w, i32_w]
        rfl
       refine pu 4 (some 54) #[true, true, true, true, true, true, false, false, true, false, false, false, false, false, false, false, false, false, false, false, false, false, false, false, false, false, false, false, false, false, false, false, false, false, false, false, false, false, false, false, false, false, false, false, false, false, false] (h := ?_)
       refine one_ (i := 6) (N := some 56) #[true, true, true, true, true, true, true, false, true, false, false, false, false, false, false, false, false, false, false, false, false, false, false, false, false, false, false, false, false, false, false, false, false, false, false, false, false, false, false, false, false, false, false, false, false, false, false] rfl rfl (one_of HT_.out (by kernel_rfl)) (by decide) (fun K hK => ?_)
       refine goes_ Tryz.func47 (by kernel_rfl) rfl #[.int .i64 t1885] (by rfl) rfl rfl pA ?_
       with_reducible refine (bolterlaw02_num.calls t1885 t1891 _ A17.out).mono ?_
       rintro e w' ⟨rfl, ⟨nd, rfl⟩⟩
       refine ⟨_, rfl, ?_⟩
       refine hK.out _ _ ⟨(blk_cell BK1856.out 0).trans rfl, (blk_cell BK1856.out 1).trans rfl, (blk_cell BK1856.out 2).trans rfl⟩ (fun hHeld => ?_)
       clear hK K
       refine norm_ (a' := ?_) ?_ ?_
       rotate_left
       ·show Act.put _ (some 56) _ = _
        simp only [Act.put, List.setIfInBounds_toArray, List.set_cons_zero, List.set_cons_succ, i64_w, i32_w]
        rfl
       refine pu 7 (some 57) #[true, true, true, true, true, true, true, true, true, false, false, false, false, false, false, false, false, false, false, false, false, false, false, false, false, false, false, false, false, false, false, false, false, false, false, false, false, false, false, false, false, false, false, false, false, false, false] (h := ?_)
       refine one_ (i := 9) (N := some 59) #[true, true, true, true, true, true, true, true, true, true, false, false, false, false, false, false, false, false, false, false, false, false, false, false, false, false, false, false, false, false, false, false, false, false, false, false, false, false, false, false, false, false, false, false, false, false, false] rfl rfl (one_of HT_.out (by kernel_rfl)) (by decide) (fun K hK => ?_)
       refine goes_ Tryz.func47 (by kernel_rfl) rfl #[.int .i64 t1888] (by rfl) rfl rfl pA ?_
       with_reducible refine (bolterlaw02_num.calls t1888 t1892 _ A18.out).mono ?_
       rintro e w' ⟨rfl, ⟨nd, rfl⟩⟩
       refine ⟨_, rfl, ?_⟩
       refine hK.out _ _ ⟨(blk_cell BK1856.out 0).trans rfl, (blk_cell BK1856.out 1).trans rfl, (blk_cell BK1856.out 2).trans rfl⟩ (fun hHeld => ?_)
       clear hK K
       refine norm_ (a' := ?_) ?_ ?_
       rotate_left
       ·show Act.put _ (some 59) _ = _
        simp only [Act.put, List.setIfInBounds_toArray, List.set_cons_zero, List.set_cons_succ, i64_w, i32_w]
        rfl
       refine pu 10 (some 60) #[true, true, true, true, true, true, true, true, true, true, true, false, false, false, false, false, false, false, false, false, false, false, false, false, false, false, false, false, false, false, false, false, false, false, false, false, false, false, false, false, false, false, false, false, false, false, false] (h := ?_)
       refine pu 11 (some 61) #[true, true, true, true, true, true, true, true, true, true, true, true, false, false, false, false, false, false, false, false, false, false, false, false, false, false, false, false, false, false, false, false, false, false, false, false, false, false, false, false, false, false, false, false, false, false, false] (h := ?_)
       refine pu 12 (some 62) #[true, true, true, true, true, true, true, true, true, true, true, true, true, false, false, false, false, false, false, false, false, false, false, false, false, false, false, false, false, false, false, false, false, false, false, false, false, false, false, false, false, false, false, false, false, false, false] (h := ?_)
       refine pu 14 (some 64) #[true, true, true, true, true, true, true, true, true, true, true, true, true, false, true, false, false, false, false, false, false, false, false, false, false, false, false, false, false, false, false, false, false, false, false, false, false, false, false, false, false, false, false, false, false, false, false] (h := ?_)
       refine pu 15 (some 65) #[true, true, true, true, true, true, true, true, true, true, true, true, true, false, true, true, false, false, false, false, false, false, false, false, false, false, false, false, false, false, false, false, false, false, false, false, false, false, false, false, false, false, false, false, false, false, false] (h := ?_)
       refine pu 16 (some 66) #[true, true, true, true, true, true, true, true, true, true, true, true, true, false, true, true, true, false, false, false, false, false, false, false, false, false, false, false, false, false, false, false, false, false, false, false, false, false, false, false, false, false, false, false, false, false, false] (h := ?_)
       refine take_ (i := 13) (N := some 63) (v := ?_) (a' := ?_) #[true, true, true, true, true, true, true, true, true, true, true, true, true, true, true, true, true, false, false, false, false, false, false, false, false, false, false, false, false, false, false, false, false, false, false, false, false, false, false, false, false, false, false, false, false, false, false] rfl rfl (take_ofW HT_.out HW_.out (by kernel_rfl)) (fun _ _ _ h => h) (Or.inl ⟨by rfl, ?_⟩) hHeld ?_ ?_
       rotate_left
       ·rintro w' ⟨s0, s1, s2⟩
        go_simp
        with_reducible rfl
       rotate_left
       ·simp only [Act.put, List.setIfInBounds_toArray, List.set_cons_zero, List.set_cons_succ, i64_w, i32_w]
        rfl
       refine one_ (i := 17) (N := some 67) #[true, true, true, true, true, true, true, true, true, true, true, true, true, true, true, true, true, true, false, false, false, false, false, false, false, false, false, false, false, false, false, false, false, false, false, false, false, false, false, false, false, false, false, false, false, false, false] rfl rfl (one_of HT_.out (by kernel_rfl)) (by decide) (fun K hK => ?_)
       refine goes_ Tryz.func51 (by kernel_rfl) rfl #[.int .i64 (wrap64 ((Int.tmod a0 67108864) + (Int.tmod a1 67108864)))] (by rfl) rfl rfl pA ?_
       with_reducible refine (dec_Int.calls k (wrap64 ((Int.tmod a0 67108864) + (Int.tmod a1 67108864))) t1893 t1894 t1897 _ A20.out).mono ?_
       rintro e w52 ⟨v1895, rfl, ho0, hb⟩
       refine ⟨_, rfl, ?_⟩
       have n0_ := am (Kd.R_elder' (Kd.R_below HO1843.out pl) (Kd.R_base ho0) hb)
       have n1_ := am (Kd.R_elder' (Kd.R_below HO1848.out pl) (Kd.R_base ho0) hb)
       have n2_ := am (Kd.R_elder' (Kd.R_below HO1853.out pl) (Kd.R_base ho0) hb)
       have n3_ := am (Kd.R_elder' (Kd.R_below HO1860.out pl) (Kd.R_base ho0) hb)
       have n4_ := am (Kd.R_elder' (Kd.R_below HO1865.out pl) (Kd.R_base ho0) hb)
       have n5_ := am (Kd.R_elder' (Kd.R_below HO1870.out pl) (Kd.R_base ho0) hb)
       have n6_ := am (Kd.R_elder' (Kd.R_below HO1877.out pl) (Kd.R_base ho0) hb)
       have n7_ := am (Kd.R_elder' (Kd.R_below HO1882.out pl) (Kd.R_base ho0) hb)
       have n8_ := am (Kd.R_lower (Kd.R_new' (Kd.R_new' (Kd.R_new' (Kd.R_new' (Kd.R_new' (Kd.R_new' (Kd.R_new' (Kd.R_new' ho0 (Kd.R_lt (Kd.R_below HO1843.out pl))) (Kd.R_lt (Kd.R_below HO1848.out pl))) (Kd.R_lt (Kd.R_below HO1853.out pl))) (Kd.R_lt (Kd.R_below HO1860.out pl))) (Kd.R_lt (Kd.R_below HO1865.out pl))) (Kd.R_lt (Kd.R_below HO1870.out pl))) (Kd.R_lt (Kd.R_below HO1877.out pl))) (Kd.R_lt (Kd.R_below HO1882.out pl))) (below_size pB))
       have n9_ := am (blk_below (blk_below BK1856.out pl) hb)
       have n10_ := am (blk_below (blk_below BK1873.out pl) hb)
       have n11_ := am (below_step pB hb)
       clear HO1843 HO1848 HO1853 HO1860 HO1865 HO1870 HO1877 HO1882 BK1856 BK1873 HB
       have HO1843 := n0_
       have HO1848 := n1_
       have HO1853 := n2_
       have HO1860 := n3_
       have HO1865 := n4_
       have HO1870 := n5_
       have HO1877 := n6_
       have HO1882 := n7_
       have HO1896 := n8_
       have BK1856 := n9_
       have BK1873 := n10_
       have HB := n11_
       clear n0_ n1_ n2_ n3_ n4_ n5_ n6_ n7_ n8_ n9_ n10_ n11_
       (try clear hb); (try clear hb2); (try clear hk); (try clear hi); (try clear ho0)
       obtain ⟨Ao53, co53, eo53⟩ := Kd.R_slice HO1896.out
       (first | subst eo53 | (injection eo53 with f1_ f2_ f3_; have f4_ := f1_.symm; have f5_ := f3_.symm; clear f1_ f2_ f3_; subst f4_; subst f5_))
       refine hK.out _ _ ⟨(blk_cell BK1856.out 0).trans rfl, (blk_cell BK1856.out 1).trans rfl, (blk_cell BK1856.out 2).trans rfl⟩ (fun hHeld => ?_)
       clear hK K
       refine norm_ (a' := ?_) ?_ ?_
       rotate_left
       ·show Act.put _ (some 67) _ = _
        simp only [Act.put, List.setIfInBounds_toArray, List.set_cons_zero, List.set_cons_succ, i64_w, i32_w]
        rfl
       refine one_ (i := 18) (N := some 68) #[true, true, true, true, true, true, true, true, true, true, true, true, true, true, true, true, true, true, true, false, false, false, false, false, false, false, false, false, false, false, false, false, false, false, false, false, false, false, false, false, false, false, false, false, false, false, false] rfl rfl (one_of HT_.out (by kernel_rfl)) (by decide) (fun K hK => ?_)
       refine goes_ Tryz.func21 (by kernel_rfl) rfl #[.agg #[.bool t1850, .slice Ao34 t1851.length co34, .int .i64 t1854], .agg #[.bool t1893, .slice Ao53 t1894.length co53, .int .i64 t1897]] (by rfl) rfl rfl pA ?_
       with_reducible refine (bolterref02_Same.calls k t1850 _ _ t1851 t1854 t1893 _ _ t1894 t1897 true _ ?side1 ?side2 ?side3 ?side4 A21.out).mono ?_
       (case side1 => exact Kd.C_below (Kd.R_reads' HO1853.out).2.2 pl)
       (case side2 => exact (Kd.R_reads' HO1853.out).2.1)
       (case side3 => exact Kd.C_below (Kd.R_reads' HO1896.out).2.2 pl)
       (case side4 => exact (Kd.R_reads' HO1896.out).2.1)
       rintro e w54 ⟨rfl, hb⟩
       refine ⟨_, rfl, ?_⟩
       replace HO1843 := am (Kd.R_below (Kd.R_below HO1843.out pl) hb)
       replace HO1848 := am (Kd.R_below (Kd.R_below HO1848.out pl) hb)
       replace HO1853 := am (Kd.R_below (Kd.R_below HO1853.out pl) hb)
       replace HO1860 := am (Kd.R_below (Kd.R_below HO1860.out pl) hb)
       replace HO1865 := am (Kd.R_below (Kd.R_below HO1865.out pl) hb)
       replace HO1870 := am (Kd.R_below (Kd.R_below HO1870.out pl) hb)
       replace HO1877 := am (Kd.R_below (Kd.R_below HO1877.out pl) hb)
       replace HO1882 := am (Kd.R_below (Kd.R_below HO1882.out pl) hb)
       replace HO1896 := am (Kd.R_below (Kd.R_below HO1896.out pl) hb)
       replace BK1856 := am (blk_below (blk_below BK1856.out pl) hb)
       replace BK1873 := am (blk_below (blk_below BK1873.out pl) hb)
       replace HB := am (below_step pB hb)
       (try clear hb); (try clear hb2); (try clear hk); (try clear hi)
       refine hK.out _ _ ⟨(blk_cell BK1856.out 0).trans rfl, (blk_cell BK1856.out 1).trans rfl, (blk_cell BK1856.out 2).trans rfl⟩ (fun hHeld => ?_)
       clear hK K
       refine norm_ (a' := ?_) ?_ ?_
       rotate_left
       ·show Act.put _ (some 68) _ = _
        simp only [Act.put, List.setIfInBounds_toArray, List.set_cons_zero, List.set_cons_succ, i64_w, i32_w]
        rfl
       refine pu 19 (some 69) #[true, true, true, true, true, true, true, true, true, true, true, true, true, true, true, true, true, true, true, true, false, false, false, false, false, false, false, false, false, false, false, false, false, false, false, false, false, false, false, false, false, false, false, false, false, false, false] (h := ?_)
       refine pu 20 (some 70) #[true, true, true, true, true, true, true, true, true, true, true, true, true, true, true, true, true, true, true, true, true, false, false, false, false, false, false, false, false, false, false, false, false, false, false, false, false, false, false, false, false, false, false, false, false, false, false] (h := ?_)
       refine pu 21 (some 71) #[true, true, true, true, true, true, true, true, true, true, true, true, true, true, true, true, true, true, true, true, true, true, false, false, false, false, false, false, false, false, false, false, false, false, false, false, false, false, false, false, false, false, false, false, false, false, false] (h := ?_)
       refine pu 22 (some 72) #[true, true, true, true, true, true, true, true, true, true, true, true, true, true, true, true, true, true, true, true, true, true, true, false, false, false, false, false, false, false, false, false, false, false, false, false, false, false, false, false, false, false, false, false, false, false, false] (h := ?_)
       refine pu 23 (some 73) #[true, true, true, true, true, true, true, true, true, true, true, true, true, true, true, true, true, true, true, true, true, true, true, true, false, false, false, false, false, false, false, false, false, false, false, false, false, false, false, false, false, false, false, false, false, false, false] (h := ?_)
       refine pu 24 (some 74) #[true, true, true, true, true, true, true, true, true, true, true, true, true, true, true, true, true, true, true, true, true, true, true, true, true, false, false, false, false, false, false, false, false, false, false, false, false, false, false, false, false, false, false, false, false, false, false] (h := ?_)
       refine pu 25 (some 75) #[true, true, true, true, true, true, true, true, true, true, true, true, true, true, true, true, true, true, true, true, true, true, true, true, true, true, false, false, false, false, false, false, false, false, false, false, false, false, false, false, false, false, false, false, false, false, false] (h := ?_)
       refine pu 26 (some 76) #[true, true, true, true, true, true, true, true, true, true, true, true, true, true, true, true, true, true, true, true, true, true, true, true, true, true, true, false, false, false, false, false, false, false, false, false, false, false, false, false, false, false, false, false, false, false, false] (h := ?_)
       refine pu 27 (some 77) #[true, true, true, true, true, true, true, true, true, true, true, true, true, true, true, true, true, true, true, true, true, true, true, true, true, true, true, true, false, false, false, false, false, false, false, false, false, false, false, false, false, false, false, false, false, false, false] (h := ?_)
       refine pu 28 (some 78) #[true, true, true, true, true, true, true, true, true, true, true, true, true, true, true, true, true, true, true, true, true, true, true, true, true, true, true, true, true, false, false, false, false, false, false, false, false, false, false, false, false, false, false, false, false, false, false] (h := ?_)
       refine pu 29 (some 79) #[true, true, true, true, true, true, true, true, true, true, true, true, true, true, true, true, true, true, true, true, true, true, true, true, true, true, true, true, true, true, false, false, false, false, false, false, false, false, false, false, false, false, false, false, false, false, false] (h := ?_)
       refine pu 30 (some 80) #[true, true, true, true, true, true, true, true, true, true, true, true, true, true, true, true, true, true, true, true, true, true, true, true, true, true, true, true, true, true, true, false, false, false, false, false, false, false, false, false, false, false, false, false, false, false, false] (h := ?_)
       refine pu 31 (some 81) #[true, true, true, true, true, true, true, true, true, true, true, true, true, true, true, true, true, true, true, true, true, true, true, true, true, true, true, true, true, true, true, true, false, false, false, false, false, false, false, false, false, false, false, false, false, false, false] (h := ?_)
       refine pu 32 (some 82) #[true, true, true, true, true, true, true, true, true, true, true, true, true, true, true, true, true, true, true, true, true, true, true, true, true, true, true, true, true, true, true, true, true, false, false, false, false, false, false, false, false, false, false, false, false, false, false] (h := ?_)
       refine pu 33 (some 83) #[true, true, true, true, true, true, true, true, true, true, true, true, true, true, true, true, true, true, true, true, true, true, true, true, true, true, true, true, true, true, true, true, true, true, false, false, false, false, false, false, false, false, false, false, false, false, false] (h := ?_)
       refine pu 34 (some 84) #[true, true, true, true, true, true, true, true, true, true, true, true, true, true, true, true, true, true, true, true, true, true, true, true, true, true, true, true, true, true, true, true, true, true, true, false, false, false, false, false, false, false, false, false, false, false, false] (h := ?_)
       refine pu 35 (some 85) #[true, true, true, true, true, true, true, true, true, true, true, true, true, true, true, true, true, true, true, true, true, true, true, true, true, true, true, true, true, true, true, true, true, true, true, true, false, false, false, false, false, false, false, false, false, false, false] (h := ?_)
       refine pu 36 (some 86) #[true, true, true, true, true, true, true, true, true, true, true, true, true, true, true, true, true, true, true, true, true, true, true, true, true, true, true, true, true, true, true, true, true, true, true, true, true, false, false, false, false, false, false, false, false, false, false] (h := ?_)
       refine pu 37 (some 87) #[true, true, true, true, true, true, true, true, true, true, true, true, true, true, true, true, true, true, true, true, true, true, true, true, true, true, true, true, true, true, true, true, true, true, true, true, true, true, false, false, false, false, false, false, false, false, false] (h := ?_)
       refine pu 38 (some 88) #[true, true, true, true, true, true, true, true, true, true, true, true, true, true, true, true, true, true, true, true, true, true, true, true, true, true, true, true, true, true, true, true, true, true, true, true, true, true, true, false, false, false, false, false, false, false, false] (h := ?_)
       refine pu 39 (some 89) #[true, true, true, true, true, true, true, true, true, true, true, true, true, true, true, true, true, true, true, true, true, true, true, true, true, true, true, true, true, true, true, true, true, true, true, true, true, true, true, true, false, false, false, false, false, false, false] (h := ?_)
       refine pu 40 (some 90) #[true, true, true, true, true, true, true, true, true, true, true, true, true, true, true, true, true, true, true, true, true, true, true, true, true, true, true, true, true, true, true, true, true, true, true, true, true, true, true, true, true, false, false, false, false, false, false] (h := ?_)
       refine pu 41 (some 91) #[true, true, true, true, true, true, true, true, true, true, true, true, true, true, true, true, true, true, true, true, true, true, true, true, true, true, true, true, true, true, true, true, true, true, true, true, true, true, true, true, true, true, false, false, false, false, false] (h := ?_)
       refine pu 42 (some 92) #[true, true, true, true, true, true, true, true, true, true, true, true, true, true, true, true, true, true, true, true, true, true, true, true, true, true, true, true, true, true, true, true, true, true, true, true, true, true, true, true, true, true, true, false, false, false, false] (h := ?_)
       refine pu 43 (some 93) #[true, true, true, true, true, true, true, true, true, true, true, true, true, true, true, true, true, true, true, true, true, true, true, true, true, true, true, true, true, true, true, true, true, true, true, true, true, true, true, true, true, true, true, true, false, false, false] (h := ?_)
       refine pu 44 (some 94) #[true, true, true, true, true, true, true, true, true, true, true, true, true, true, true, true, true, true, true, true, true, true, true, true, true, true, true, true, true, true, true, true, true, true, true, true, true, true, true, true, true, true, true, true, true, false, false] (h := ?_)
       refine pu 45 (some 95) #[true, true, true, true, true, true, true, true, true, true, true, true, true, true, true, true, true, true, true, true, true, true, true, true, true, true, true, true, true, true, true, true, true, true, true, true, true, true, true, true, true, true, true, true, true, true, false] (h := ?_)
       refine pu 46 (some 4) #[true, true, true, true, true, true, true, true, true, true, true, true, true, true, true, true, true, true, true, true, true, true, true, true, true, true, true, true, true, true, true, true, true, true, true, true, true, true, true, true, true, true, true, true, true, true, true] (h := ?_)
       refine done_ (done_of HT_.out (by kernel_rfl)) ?_
       try go_wp2
       go_ret
       exact ⟨pE, pB⟩
      ·rw [if_neg c25] at H
       have c25b0 : ((decide (t1884 < 0)) == (decide ((Int.tmod a0 67108864) < (Int.tmod a1 67108864)))) = false := by simpa using c25
       (try (have c25b1 : decide ((decide (t1884 < 0)) = (decide ((Int.tmod a0 67108864) < (Int.tmod a1 67108864)))) = false := by simpa using c25))
       (try (have c25b2 : ((decide (t1884 < 0)) == (decide ((Int.tmod a0 67108864) < (Int.tmod a1 67108864)))) = false := by simpa using c25))
       (try (have c25b3 : ¬ ((decide (t1884 < 0)) = (decide ((Int.tmod a0 67108864) < (Int.tmod a1 67108864)))) := by simpa using c25))
       clear c25
       exact absurd ((Option.some.inj H).trans hr) Bool.false_ne_true
     ·rw [if_neg c24] at H
      have c24b0 : (t1886 == (wrap64 ((Int.tmod a0 67108864) * (Int.tmod a1 67108864)))) = false := beq_eq_false_iff_ne.mpr c24
      have c24b1 : (t1886 != (wrap64 ((Int.tmod a0 67108864) * (Int.tmod a1 67108864)))) = true := bne_iff_ne.mpr c24
      exact absurd ((Option.some.inj H).trans hr) Bool.false_ne_true
    ·replace c23 := Bool.eq_false_iff.mpr c23
     subst c23
     rw [if_neg (show ¬ (false = true) by decide)] at H
     exact absurd ((Option.some.inj H).trans hr) Bool.false_ne_true
   ·replace c22 := Bool.eq_false_iff.mpr c22
    subst c22
    rw [if_neg (show ¬ (false = true) by decide)] at H
    exact absurd ((Option.some.inj H).trans hr) Bool.false_ne_true
  ·rw [if_neg c19] at H
   have c19b0 : ((wrap64 ((wrap64 ((wrap64 (t1889 + t1890)) + t1891)) + t1892)) == 0) = false := beq_eq_false_iff_ne.mpr c19
   have c19b1 : ((wrap64 ((wrap64 ((wrap64 (t1889 + t1890)) + t1891)) + t1892)) != 0) = true := bne_iff_ne.mpr c19
   exact absurd ((Option.some.inj H).trans hr) Bool.false_ne_true
 ·replace c4 := Bool.eq_false_iff.mpr c4
  subst c4
  rw [if_neg (show ¬ (false = true) by decide)] at H
  exact absurd ((Option.some.inj H).trans hr) Bool.false_ne_true
end YtjbjkmccfocikaaGreatDoor.B
end
section
namespace YtjbjkmccfocikaaGreatDoor.P.Nm
open Go.RowKit YtjbjkmccfocikaaGreatDoorW.PrintWords YtjbjkmccfocikaaGreatDoor.B YtjbjkmccfocikaaGreatDoor.P
theorem int_sc {n : Int} (h1 : -9223372036854775808 <= n) (h2 : n <= 9223372036854775807) : OkD (intD n) /\ 0 <= (intD n).e /\ sc 0 (intD n) = n /\ settleD ⟨decide (n < 0), n.natAbs, 0⟩ = (intD n, 0) := by
 have ok : OkD (intD n) := settle_ok _
 have h20 : nd n.natAbs <= 20 := nd_20 (by omega)
 have he : settleD ⟨decide (n < 0), n.natAbs, 0⟩ = (intD n, 0) := by
  unfold intD settleD
  simp only
  by_cases hn : n.natAbs = 0
  ·rw [if_pos hn]
  ·have hc := nd_core hn
   rw [if_neg hn, if_neg (by omega), if_neg (by omega)]
 refine ⟨ok, ?_, ?_, he⟩
 ·rcases settle_cases ⟨decide (n < 0), n.natAbs, 0⟩ with ⟨e, _⟩ | ⟨e, _⟩ | ⟨e, _⟩ | ⟨e, _⟩ <;> rw [he] at e <;> rw [(Prod.mk.inj e).1]
  ·decide
  ·decide
  ·decide
  ·show 0 <= 0 + (tz n.natAbs : Int); omega
 ·rw [sc_settle (K := 0) (a := ⟨decide (n < 0), n.natAbs, 0⟩) (Int.le_refl 0) he]
  unfold sc
  simp only [Int.add_zero, Int.toNat_zero, Nat.pow_zero, Nat.mul_one]
  by_cases hn : n < 0
  ·rw [decide_eq_true hn, if_pos rfl]; omega
  ·rw [decide_eq_false hn, if_neg (by simp)]; omega
theorem sc_int0 {n : Int} : sc 0 ⟨decide (n < 0), n.natAbs, 0⟩ = n := by
 unfold sc
 simp only [Int.add_zero, Int.toNat_zero, Nat.pow_zero, Nat.mul_one]
 by_cases hn : n < 0
 ·rw [decide_eq_true hn, if_pos rfl]; omega
 ·rw [decide_eq_false hn, if_neg (by simp)]; omega
theorem add_int {a b : Int} (ha : -67108864 <= a /\ a <= 67108864) (hb : -67108864 <= b /\ b <= 67108864) : addD (intD a) (intD b) = (intD (a + b), 0) := by
 obtain ⟨_, ea, sa, _⟩ := int_sc (n := a) (by omega) (by omega)
 obtain ⟨_, eb, sb, _⟩ := int_sc (n := b) (by omega) (by omega)
 obtain ⟨_, _, _, hs⟩ := int_sc (n := a + b) (by omega) (by omega)
 rw [<- hs]
 unfold addD
 refine settle_sc (K := 0) (by rw [plusD_e]; omega) (Int.le_refl 0) ?_
 rw [sc_plusD (by omega) (by omega), sa, sb, sc_int0]
theorem mul_bound {a b : Int} (ha : -67108864 <= a /\ a <= 67108864) (hb : -67108864 <= b /\ b <= 67108864) : -4503599627370496 <= a * b /\ a * b <= 4503599627370496 := by
 have h1 : (a * b).natAbs <= 67108864 * 67108864 := by rw [Int.natAbs_mul]; exact Nat.mul_le_mul (by omega) (by omega)
 omega
theorem mul_int {a b : Int} (ha : -67108864 <= a /\ a <= 67108864) (hb : -67108864 <= b /\ b <= 67108864) : timesD (intD a) (intD b) = (intD (a * b), 0) := by
 have hm := mul_bound ha hb
 obtain ⟨_, ea, sa, _⟩ := int_sc (n := a) (by omega) (by omega)
 obtain ⟨_, eb, sb, _⟩ := int_sc (n := b) (by omega) (by omega)
 obtain ⟨_, _, _, hs⟩ := int_sc (n := a * b) (by omega) (by omega)
 rw [<- hs]
 unfold timesD
 have := sc_mulD (K := 0) (L := 0) (a := intD a) (b := intD b) (by omega) (by omega)
 refine settle_sc (K := 0) (by show -0 <= (intD a).e + (intD b).e; omega) (Int.le_refl 0) ?_
 rw [sc_int0]
 rw [sa, sb] at this
 exact this
theorem cmp_int2 {a b : Int} (ha : -67108864 <= a /\ a <= 67108864) (hb : -67108864 <= b /\ b <= 67108864) : cmpD (intD a) (intD b) = if a < b then -1 else if b < a then 1 else 0 := by
 obtain ⟨_, ea, sa, _⟩ := int_sc (n := a) (by omega) (by omega)
 obtain ⟨_, eb, sb, _⟩ := int_sc (n := b) (by omega) (by omega)
 rw [cmpD_sc (K := 0) (by omega) (by omega), sa, sb]
def wholeD (D : Dm) : Int × Bool × Int := if D.e < 0 \/ 21 < D.e then (0, false, 0) else if 9007199254740992 < D.n * 10 ^ D.e.toNat then (0, false, 0) else (if D.neg then -((D.n * 10 ^ D.e.toNat : Nat) : Int) else ((D.n * 10 ^ D.e.toNat : Nat) : Int), true, 0)
theorem DWhole {D : Dm} (hD : OkD D) : Tells (fun k => dec_Whole.f k D.neg (limbs D.n) D.e) (wholeD D) := by
 have l1 := hD.len
 unfold dec_Whole.f wholeD
 refine (DCheck D hD).bind (Tells.ifp rfl ?_)
 by_cases h1 : D.e < 0
 ·rw [if_pos (.inl h1)]
  exact Tells.ifp h1 (Tells.pure _)
 ·refine Tells.ifn h1 ?_
  by_cases h2 : 21 < D.e
  ·rw [if_pos (.inr h2)]
   exact Tells.ifp h2 (Tells.pure _)
  ·rw [if_neg (by omega)]
   have hs := nd_shift_le D.n D.e.toNat
   have hd := down_tells D.neg D.n D.e 0 (by omega) (by omega) (by omega) (by omega) (by omega) (by rw [Int.sub_zero]; omega)
   rw [Int.sub_zero] at hd
   obtain ⟨N, hN⟩ : ∃ N, D.n * 10 ^ D.e.toNat = N := ⟨_, rfl⟩
   rw [hN] at hd hs ⊢
   refine Tells.ifn h2 (hd.bind ?_)
   dsimp only
   rw [num_limbs]
   by_cases h3 : 2 < (limbs N).length
   ·have hbig : 9007199254740992 < N := by
     refine Nat.not_le.1 (fun h => ?_)
     have := limbs_len_of (n := N) (k := 2) (by omega)
     omega
    exact (Tells.ifp h3 (Tells.pure _)).val (by rw [if_pos hbig])
   ·by_cases h4 : 9007199254740992 < N
    ·exact (Tells.ifn h3 (Tells.ifp (okW_limbs (by omega)) (Tells.ifp h4 (Tells.pure _)))).val (by rw [if_pos h4])
    ·exact (Tells.ifn h3 (Tells.ifp (okW_limbs (by omega)) (Tells.ifn h4 (Tells.pure _)))).val (by rw [if_neg h4])
theorem wholeD_int {n : Int} (h : -4503599627370496 <= n /\ n <= 4503599627370496) : wholeD (intD n) = (n, true, 0) := by
 obtain ⟨ok, e0, s0, hs⟩ := int_sc (n := n) (by omega) (by omega)
 have h16 : nd n.natAbs <= 16 := nd_le (Nat.lt_of_le_of_lt (show n.natAbs <= 4503599627370496 by omega) (by decide))
 have he : (intD n).e <= 21 := by
  rcases settle_cases ⟨decide (n < 0), n.natAbs, 0⟩ with ⟨e, _⟩ | ⟨e, _⟩ | ⟨e, _⟩ | ⟨e, hn, _⟩ <;> rw [hs] at e <;> rw [(Prod.mk.inj e).1]
  ·decide
  ·decide
  ·decide
  ·have := nd_core hn
   show 0 + (tz n.natAbs : Int) <= 21
   simp only at this
   omega
 have hN : (intD n).n * 10 ^ (intD n).e.toNat = n.natAbs := by
  have := sc_nat (K := 0) (a := intD n)
  rw [s0, Int.add_zero] at this
  exact this.symm
 unfold wholeD
 rw [if_neg (by omega), hN, if_neg (by omega)]
 unfold sc at s0
 rw [Int.add_zero, hN] at s0
 cases hneg : (intD n).neg
 ·rw [hneg] at s0
  simp at s0
  simp; omega
 ·rw [hneg] at s0
  simp at s0
  simp; omega
theorem tmod_26 (a : Int) : -67108864 <= Int.tmod a 67108864 /\ Int.tmod a 67108864 <= 67108864 := by
 have h1 := Int.natAbs_tmod a 67108864
 have h2 := Nat.mod_lt a.natAbs (show 0 < (67108864 : Int).natAbs by decide)
 have h3 : (67108864 : Int).natAbs = 67108864 := by decide
 omega
theorem DecInts_plain {a b : Int} : Tells (fun k => bolterlaw02_DecInts.f k a b) true := by
 have ha := tmod_26 a
 have hb := tmod_26 b
 unfold bolterlaw02_DecInts.f bolterlaw02_num.f
 refine alive02.bind (Tells.ifp rfl ?_)
 obtain ⟨x, hx⟩ : ∃ x, Int.tmod a 67108864 = x := ⟨_, rfl⟩
 obtain ⟨y, hy⟩ : ∃ y, Int.tmod b 67108864 = y := ⟨_, rfl⟩
 rw [hx] at ha ⊢
 rw [hy] at hb ⊢
 have hm := mul_bound ha hb
 have ix := DInt_tells x (by omega) (by omega)
 have iy := DInt_tells y (by omega) (by omega)
 obtain ⟨ox, _⟩ := int_sc (n := x) (by omega) (by omega)
 obtain ⟨oy, _⟩ := int_sc (n := y) (by omega) (by omega)
 obtain ⟨om, _⟩ := int_sc (n := x * y) (by omega) (by omega)
 obtain ⟨os, _⟩ := int_sc (n := x + y) (by omega) (by omega)
 have t1 := DAdd _ _ ox oy
 rw [add_int ha hb] at t1
 have t2 := DMul _ _ ox oy
 rw [mul_int ha hb] at t2
 have t3 := DCompare _ _ ox oy
 rw [cmp_int2 ha hb] at t3
 have t4 := DWhole om
 rw [wholeD_int hm] at t4
 have t5 := DInt_tells (x + y) (by omega) (by omega)
 refine ix.bind (iy.bind (t1.bind (ix.bind (iy.bind (t2.bind (ix.bind (iy.bind (t3.bind (t4.bind ?_)))))))))
 refine (Tells.pure _).bind ((Tells.pure _).bind ((Tells.pure _).bind ((Tells.pure _).bind (Tells.ifp (show wrap64 (wrap64 (wrap64 (0 + 0) + 0) + 0) = 0 by decide +kernel) ?_))))
 rw [w64n (z := x + y) (by omega) (by omega), w64n (z := x * y) (by omega) (by omega)]
 refine t5.bind ((Same_self (intD (x + y)) (by have := os.len; omega)).bind (Tells.ifp rfl (Tells.ifp rfl (Tells.ifp rfl (Tells.ifp ?_ ((Tells.pure _).val ?_))))))
 ·dsimp only
  split
  ·rename_i h; simp [h]
  ·split
   ·rename_i h1 h2; simp; omega
   ·rename_i h1 h2; simp; omega
 ·dsimp only
  split
  ·rename_i h; simp; omega
  ·split
   ·rename_i h1 h2; simp; omega
   ·rename_i h1 h2; simp; omega
end YtjbjkmccfocikaaGreatDoor.P.Nm
end
section
namespace YtjbjkmccfocikaaGreatDoor.R.decInts
open Go.ChangeShapes Go.WideShapes Go.ChangeAt Go.RowKit
open Go.ChangeMaps (open_string shut_string)
theorem reads (os : Os) {H : Type} (enc : TypeId × Value -> H) : ∃ places, DataW.whole enc Tryz.prog ((laidWorld os).forCall (fun _ _ => 0) ⟨#[], #[Value.int .i64 0, Value.int .i64 0], []⟩).memory Tryz.f12.params.toList Rows.decIntsSpec.vars false (#[Value.int .i64 0, Value.int .i64 0] : Array Value).toList 8 = some ([.lit (.int .i64 0), .lit (.int .i64 0)], [], places) :=
 ⟨[], by kernel_rfl⟩
theorem contract (H : Type) (enc : TypeId × Value -> H) (W : World) (base : Nat) (args : Array Value) (ds gs : List (DataW H)) (before : List MemPlace)
  (hval : ∀ (j : Nat) t v, Tryz.f12.params[j]? = some t -> args[j]? = some v -> Value.okWide Tryz.prog W .any base t v)
  (hW : DataW.Whole enc Tryz.prog Tryz.f12.params.toList Rows.decIntsSpec.vars false W args.toList ds gs before) (hk : (DataW.weightsEach Tryz.prog (Tryz.f12.params.toList ++ (OpenSpec.ofChange Rows.decIntsSpec).bare.plain.varTypes Tryz.prog) (ds ++ gs)).all (· <= reachBytes) = true) (hL : laidMetH Tryz.prog laidL W) (hsh : W.ShapedOpen Tryz.prog) :
  Calls Tryz.prog 12 args W fun e W' => ∃ v, e = .returned v /\ Rows.decIntsSpec.post enc Tryz.prog Tryz.f12 false true false false W args v W' := by
 have hG := glob hL hsh
 have hW' := hW
 obtain ⟨p, q, hA0, hV, rfl, hfz, hnd⟩ := hW
 have hA : DataW.TrodAll enc Tryz.prog W 0 (fun _ => true) true Tryz.f12.params.toList args.toList ds p := hA0
 rw [Tryz.params12] at hA hval hk
 obtain ⟨v0, vs0, d0, ds0, p0, q0, hargs, rfl, rfl, h0, r0⟩ := trodAll_cons hA
 obtain ⟨v1, vs1, d1, ds1, p1, q1, rfl, rfl, rfl, h1, r1⟩ := trodAll_cons r0
 obtain ⟨rfl, rfl, rfl⟩ := trodAll_nil r1
 obtain rfl : args = #[v0, v1] := by cases args; simp_all
 obtain ⟨rfl, rfl⟩ := trodVars_none hV
 obtain ⟨a0, rfl, rfl, rfl, y0⟩ := open_int Tryz.underlying3 (hval 0 3 v0 rfl rfl) h0
 obtain ⟨a1, rfl, rfl, rfl, y1⟩ := open_int Tryz.underlying3 (hval 1 3 v1 rfl rfl) h1
 simp only [List.append_nil] at hW'
 clear hA0 hA hk hL
 obtain ⟨k, hp⟩ := (P.Nm.DecInts_plain (a := a0) (b := a1)).ex
 refine (B.bolterlaw02_DecInts.calls k a0 a1 true W hp rfl).mono fun e W' ⟨he, bel⟩ => ?_
 subst he
 exact ⟨_, rfl, _, _, _, [], _, [], hW', trodAll_mk1 (shut_bool Tryz.underlying4 _), (trodAll_cons_mk (shut_int Tryz.underlying3 y0) (trodAll_cons_mk (shut_int Tryz.underlying3 y1) trodAll_mk0)), rfl, bel.frame _, fun h => by cases h⟩
theorem lifted (os : Os) (started : os.Started) (H : Type) (enc : TypeId × Value -> H) (F : Stop.Interp) :
  ReturnsInHanded {} Tryz.checked os 12 .any ((OpenSpec.ofChange Rows.decIntsSpec).preRow enc Tryz.prog Tryz.f12 Rows.decIntsRow.domain false Rows.decIntsRow.laid) (((OpenSpec.ofChange Rows.decIntsSpec).at F).post enc Tryz.prog Tryz.f12 false true false false) := by
 obtain ⟨places, hx⟩ := reads os enc
 refine returnsInHanded_of_row (C := Tryz.checked) (s := OpenSpec.ofChange Rows.decIntsSpec) own started (by kernel_rfl) Tryz.func12
  (witness_row_at (enc := enc) (C := Tryz.checked) false (laidWorld os) #[Value.int .i64 0, Value.int .i64 0] rfl (by kernel_rfl) (by kernel_rfl) (by kernel_rfl)
   (OpenSpec.preRow_of_cond 8 hx (by kernel_rfl) (fun k hk => by cases hk) (by kernel_rfl) (laid_met os _))) ?_
 intro W base args ds gs before hval hW _ _ hk hL hsh _
 exact contract H enc W base args ds gs before hval hW hk hL hsh
theorem said : Rows.DecIntsSaid :=
 OpenClaim.holds_of_cond 12 Tryz.f12 rfl rfl rfl rfl rfl rfl rfl ⟨rfl, rfl, rfl, rfl, rfl⟩ rfl rfl rfl rfl rfl (by kernel_rfl) Tryz.func12 (by kernel_rfl)
  (of_decide_eq_true (by kernel_rfl)) (by unfold Func.isWrapper; first | (rw [if_pos (by decide +kernel)]; kernel_rfl) | (rw [if_neg (by decide +kernel)]; exact ⟨rfl, rfl⟩))
  (fun os started H enc _ F => by rw [OpenClaim.pre_eq_preRow]; exact lifted os started H enc F)
theorem plain (f : FuncId) (fn : Func) (hf : Tryz.pinned.checked.prog.funcNamed "bolter/bolterlaw02.DecInts" = some f) (hfn : Tryz.pinned.checked.prog.funcs[f]? = some fn) :
  false = Tryz.pinned.checked.prog.looks [] /\ ∀ (j : Nat) t, fn.params[j]? = some t -> Tryz.pinned.checked.prog.wantsStandIn t = false := by
 obtain rfl : f = 12 := Option.some.inj ((show Tryz.prog.funcNamed "bolter/bolterlaw02.DecInts" = some 12 by kernel_rfl).symm.trans hf) |>.symm
 obtain rfl : fn = Tryz.f12 := (Option.some.inj (Tryz.func12.symm.trans hfn)).symm
 refine ⟨by kernel_rfl, fun j t ht => ?_⟩
 rw [Tryz.params12] at ht
 have hm : t ∈ (#[3, 3] : Array TypeId) := Array.mem_of_getElem? ht
 have hall : ∀ t ∈ [3, 3], Tryz.prog.wantsStandIn t = false := by
  intro t h
  simp only [List.mem_cons, List.mem_nil_iff, or_false] at h
  rcases h with rfl | rfl <;> kernel_rfl
 exact hall t (by simpa using hm)
theorem card : Rows.DecIntsCardSaid :=
 Claim7.holds_tied_plain_at .later [] _ _ _ _ said (fun _ h => by cases h) (by kernel_rfl) (fun _ h => by cases h) decInts_row_tie rfl ⟨rfl, rfl⟩ (by kernel_rfl) rfl plain (by kernel_rfl)
#print axioms card
end YtjbjkmccfocikaaGreatDoor.R.decInts
end
end Go.Proofs
