/- DecOrder: part 5 of 5: the texts B128 PDecF B115 B116 B117 HLib B118 B119 B60 B61 B62 B63 B120 B129 PLaw2 PAlive RDec RDecOrder of this claim, one behind the other. -/
import Derived.Test.YtjbjkmccfocikaaGreatDoorZDecOrder3
import Derived.Lib.TrimByte
import Derived.Shelf.Strings.MapAny
import Derived.Lib.Hide
import Derived.Shelf.Strings.SlTrimAscii
import Derived.KernelRfl
import Derived.ChangeSlices
import Derived.ChangeArms
import Derived.Lib.SmallJoins
import Derived.Carry
import Derived.SizedLaws
section
namespace Go.Proofs.YtjbjkmccfocikaaGreatDoor.B
open Go.RowKit Go.Proofs.YtjbjkmccfocikaaGreatDoorW.PrintWords Go.Proofs.YtjbjkmccfocikaaGreatDoorW.PrintLast Go.Proofs.YtjbjkmccfocikaaGreatDoorW.PrintMore
attribute [local go_sem] max2_int min2_int max_two min_two max_three min_three max_four min_four   -- for this text's walks alone
set_option linter.unusedVariables false
set_option linter.unusedSimpArgs false

def dec_Compare.f (k : Nat) (a0_0 : Bool) (l0_1 : List Int) (a0_2 : Int) (a1_0 : Bool) (l1_1 : List Int) (a1_2 : Int) : Option (Int × Int) := (dec_ask.f k (([(⟨a0_0, l0_1, a0_2⟩ : S24), (⟨a1_0, l1_1, a1_2⟩ : S24)] : List (S24)))).bind fun t1702 => (if t1702 = 0 then ((dec_number_minus.f a1_0 l1_1 a1_2).bind fun bt1703 => ((dec_number_plus.f k a0_0 l0_1 a0_2 bt1703.1 bt1703.2.1 bt1703.2.2).bind fun bt1708 => ((dec_number_zero.f bt1708.1 bt1708.2.1 bt1708.2.2).bind fun t1714 => (if t1714 = true then (some (0, 0)) else (if bt1708.1 = true then (some ((-1), 0)) else (some (1, 0))))))) else (some (0, t1702)))
def dec_Compare.T4 : Bool × List (List Nat × List Nat) := (true, [([], []), ([0], [0]), ([], []), ([2], [2]), ([3], [3]), ([1, 4, 4], [1, 4]), ([], []), ([6, 5, 5, 0, 1, 2, 3, 4, 5, 6], [5, 6])])
def dec_Compare.B4 : List Nat := [0, 1, 0, 4, 12, 31, 0, 127]
theorem dec_Compare.tab4 : rtab .any (opsOf Tryz.f48 4) = dec_Compare.T4 := by kernel_rfl
theorem dec_Compare.bits4 : waitsOk dec_Compare.T4.2 dec_Compare.B4 = true := by kernel_rfl
set_option maxRecDepth 100000 in
theorem dec_Compare.leaf {P : Prop} (h : P := by
 go_enter Tryz.func48, Tryz.ntmps48
 try go_wp2_with (first | ((with_reducible refine gate_dst (N := 2) rfl ?_); refine box_event ?hg (N := 2) ?hd (cs := #[.bool a0_0, .slice A0_1 l0_1.length c0_1, .int .i64 a0_2]) (t := 24) ?hr ?_; (case hd => rfl); (case hg => rfl); (case hr => first | (go_simp; done) | (go_simp; rfl)); intro gb0z hg w1z hbox hb; have n0_ := am (Kd.V_below (Kd.V_elderB (Kd.V_below HO0_1.out pl) gb0z (Nat.le_of_eq hg.symm)) hb); have n1_ := am (Kd.V_below (Kd.V_elderB (Kd.V_below HO1_1.out pl) gb0z (Nat.le_of_eq hg.symm)) hb); have n2_ := am (below_step pB hb); have n3_ := am (hbox); have n4_ := am ((gw hg pB : w.heap.size ≤ gb0z)); have n5_ := am ((gw hg pB : w.heap.size ≤ gb0z)); clear HO0_1 HO1_1 HB; have HO0_1 := n0_; have HO1_1 := n1_; have HB := n2_; have BK2z := n3_; have GW3z := n4_; have GE4z := n5_; clear n0_ n1_ n2_ n3_ n4_ n5_ hb hbox hg) | ((with_reducible refine gate_dst (N := 3) rfl ?_); refine box_event ?hg (N := 3) ?hd (cs := #[.bool a1_0, .slice A1_1 l1_1.length c1_1, .int .i64 a1_2]) (t := 24) ?hr ?_; (case hd => rfl); (case hg => rfl); (case hr => first | (go_simp; done) | (go_simp; rfl)); intro gb5z hg w6z hbox hb; have n0_ := am (Kd.V_below (Kd.V_elderB (Kd.V_below HO0_1.out pl) gb5z (Nat.le_of_eq hg.symm)) hb); have n1_ := am (Kd.V_below (Kd.V_elderB (Kd.V_below HO1_1.out pl) gb5z (Nat.le_of_eq hg.symm)) hb); have n2_ := am (blk_below (blk_below BK2z.out pl) hb); have n3_ := am (below_step pB hb); have n4_ := am (hbox); have n5_ := am ((gw hg pB : w.heap.size ≤ gb5z)); have n6_ := am ((gw hg pB : w.heap.size ≤ gb5z)); have n7_ := am ((nl hg (blk_below BK2z.out pl) : gb0z ≠ gb5z)); have n8_ := am ((ng hg (blk_below BK2z.out pl) : gb5z ≠ gb0z)); clear HO0_1 HO1_1 BK2z HB; have HO0_1 := n0_; have HO1_1 := n1_; have BK2z := n2_; have HB := n3_; have BK7z := n4_; have GW8z := n5_; have GE9z := n6_; have NB10z := n7_; have NB11z := n8_; clear n0_ n1_ n2_ n3_ n4_ n5_ n6_ n7_ n8_ hb hbox hg; have hnb12z := NB10z.out; have hnc13z := NB11z.out; obtain ⟨hcz14z, hcz15z, hcz16z, hfz17z, hfz18z, hfz19z⟩ := cEc BK2z.out; obtain ⟨hcz20z, hcz21z, hcz22z, hfz23z, hfz24z, hfz25z⟩ := cEc BK7z.out) | ((with_reducible refine gate_dst (N := 10) rfl ?_); refine Kd.N_lit k24 _ 24 ?hg (N' := 10) ?hd (xs := ([(⟨a0_0, l0_1, a0_2⟩ : S24), (⟨a1_0, l1_1, a1_2⟩ : S24)] : List (S24))) (inner := [.bool a0_0, .slice A0_1 l0_1.length c0_1, .int .i64 a0_2, .bool a1_0, .slice A1_1 l1_1.length c1_1, .int .i64 a1_2]) (ok := (fun k_ => ((P0_1_ k_ ∨ P1_1_ k_) ∨ w.heap.size ≤ k_) ∧ k_ ≠ gb0z ∧ k_ ≠ gb5z)) (okp := (fun k_ => ((P0_1_ k_ ∨ P1_1_ k_) ∨ w.heap.size ≤ k_) ∧ k_ ≠ gb0z ∧ k_ ≠ gb5z)) ?hr ?hp (fun _ hk => hk) ((show ∀ k_, w6z.heap.size ≤ k_ → (fun k_ => ((P0_1_ k_ ∨ P1_1_ k_) ∨ w.heap.size ≤ k_) ∧ k_ ≠ gb0z ∧ k_ ≠ gb5z) k_ from fun k_ hk => ⟨(.inr (Nat.le_trans (below_size pB) hk)), Kd.freshB (g := gb0z) (o := .cells #[.bool a0_0, .slice A0_1 l0_1.length c0_1, .int .i64 a0_2] 24 (0, 0)) (blk_below BK2z.out pl) k_ hk, Kd.freshB (g := gb5z) (o := .cells #[.bool a1_0, .slice A1_1 l1_1.length c1_1, .int .i64 a1_2] 24 (0, 0)) (blk_below BK7z.out pl) k_ hk⟩) _ (Nat.le_refl _)) (Below.refl _ _) (Nat.le_refl _) (by simp) ?_; (case hd => rfl); (case hg => rfl); (case hr => first | (go_simp; done) | (go_simp; rfl)); (case hp => exact (Reps.c3 (show Kd.FK k24 _ _ (⟨a0_0, l0_1, a0_2⟩ : S24) [.bool a0_0, .slice A0_1 l0_1.length c0_1, .int .i64 a0_2] from (k24_mkF _ _ (⟨a0_0, l0_1, a0_2⟩ : S24) (Kd.V_reads' (Kd.V_mono (ok' := (fun k_ => ((P0_1_ k_ ∨ P1_1_ k_) ∨ w.heap.size ≤ k_) ∧ k_ ≠ gb0z ∧ k_ ≠ gb5z)) (HO0_1.out) (fun k_ hk => ⟨hk.1.1, ⟨hk.1.2, hk.2⟩⟩))).2.1 (Kd.V_F (Kd.V_mono (ok' := (fun k_ => ((P0_1_ k_ ∨ P1_1_ k_) ∨ w.heap.size ≤ k_) ∧ k_ ≠ gb0z ∧ k_ ≠ gb5z)) (HO0_1.out) (fun k_ hk => ⟨hk.1.1, ⟨hk.1.2, hk.2⟩⟩))))) (Reps.c3 (show Kd.FK k24 _ _ (⟨a1_0, l1_1, a1_2⟩ : S24) [.bool a1_0, .slice A1_1 l1_1.length c1_1, .int .i64 a1_2] from (k24_mkF _ _ (⟨a1_0, l1_1, a1_2⟩ : S24) (Kd.V_reads' (Kd.V_mono (ok' := (fun k_ => ((P0_1_ k_ ∨ P1_1_ k_) ∨ w.heap.size ≤ k_) ∧ k_ ≠ gb0z ∧ k_ ≠ gb5z)) (HO1_1.out) (fun k_ hk => ⟨hk.1.1, ⟨hk.1.2, hk.2⟩⟩))).2.1 (Kd.V_F (Kd.V_mono (ok' := (fun k_ => ((P0_1_ k_ ∨ P1_1_ k_) ∨ w.heap.size ≤ k_) ∧ k_ ≠ gb0z ∧ k_ ≠ gb5z)) (HO1_1.out) (fun k_ hk => ⟨hk.1.1, ⟨hk.1.2, hk.2⟩⟩))))) (Reps.none _ _)))); intro v26z w27z ho28z hb hg_ hnew_; clear hg_ hnew_; (first | rw [← Ny1699.out] at ho28z | (simp only [Int.reduceToNat] at ho28z; rw [← Ny1699.out] at ho28z)); replace HO0_1 := am (Kd.V_elder' (Kd.V_below HO0_1.out pl) (Kd.N_base ho28z) hb); replace HO1_1 := am (Kd.V_elder' (Kd.V_below HO1_1.out pl) (Kd.N_base ho28z) hb); have HO29z := am (Kd.N_lower ho28z (below_size pB)); replace BK2z := am (blk_below (blk_below BK2z.out pl) hb); replace BK7z := am (blk_below (blk_below BK7z.out pl) hb); replace HB := am (below_step pB hb); clear hb ho28z; obtain ⟨Ao30z, co31z, eo32z⟩ := Kd.N_slice HO29z.out; subst eo32z) | (refine gL (some 11) Tryz.func99 #[.slice Ao30z y1699.length co31z] (h := ?_); (with_reducible refine (dec_ask.calls k _ _ y1699 t1702 _ ?side1 ?side2 A3.out).mono ?_); (case side1 => exact Kd.C_below (Kd.N_reads' HO29z.out).2.2 pl); (case side2 => exact (Kd.N_reads' HO29z.out).2.1); rintro e w33z ⟨rfl, hb⟩; refine ⟨_, rfl, ?_⟩; replace HO0_1 := am (Kd.V_below (Kd.V_below HO0_1.out pl) hb); replace HO1_1 := am (Kd.V_below (Kd.V_below HO1_1.out pl) hb); replace HO29z := am (Kd.N_below (Kd.N_below HO29z.out pl) hb); replace BK2z := am (blk_below (blk_below BK2z.out pl) hb); replace BK7z := am (blk_below (blk_below BK7z.out pl) hb); replace HB := am (below_step pB hb); (try clear hb); (try clear hb34z); (try clear hk); (try clear hi)))
 first
  | have q_ := A7
    replace HO0_1 := am (Kd.V_drew HO0_1.out)
    replace HO1_1 := am (Kd.V_drew HO1_1.out)
    replace HO29z := am (Kd.N_drew HO29z.out)
    replace BK2z := am (blk_drew BK2z.out)
    replace BK7z := am (blk_drew BK7z.out)
    replace HB := am (below_drew1 HB.out)
    refine start_ (n := 8) (S := fun w' => w'.cell? ⟨gb0z, 0, none⟩ = some (.bool a0_0) ∧ w'.cell? ⟨gb0z, 1, none⟩ = some (.slice A0_1 l0_1.length c0_1) ∧ w'.cell? ⟨gb0z, 2, none⟩ = some (.int .i64 a0_2) ∧ w'.cell? ⟨gb5z, 0, none⟩ = some (.bool a1_0) ∧ w'.cell? ⟨gb5z, 1, none⟩ = some (.slice A1_1 l1_1.length c1_1) ∧ w'.cell? ⟨gb5z, 2, none⟩ = some (.int .i64 a1_2)) (ds := []) #[false, false, false, false, false, false, false, false] (by kernel_rfl) rfl rfl ⟨(blk_cell BK2z.out 0).trans rfl, (blk_cell BK2z.out 1).trans rfl, (blk_cell BK2z.out 2).trans rfl, (blk_cell BK7z.out 0).trans rfl, (blk_cell BK7z.out 1).trans rfl, (blk_cell BK7z.out 2).trans rfl⟩ (fun hHeld => ?_); refine with_tabW dec_Compare.tab4 dec_Compare.bits4 (fun HT_ HW_ => ?_)
    generalize w33z.drew = w35z at HO0_1 HO1_1 HO29z BK2z BK7z HB hHeld ⊢
    refine take_ (i := 0) (N := some 15) (v := ?_) (a' := ?_) #[true, false, false, false, false, false, false, false] rfl rfl (take_ofW HT_.out HW_.out (by kernel_rfl)) (fun _ _ _ h => h) (Or.inl ⟨by rfl, ?_⟩) hHeld ?_ ?_
    rotate_left
    ·rintro w' ⟨s36z, s37z, s38z, s39z, s40z, s41z⟩
     go_simp
     with_reducible rfl
    rotate_left
    ·simp only [Act.put, List.setIfInBounds_toArray, List.set_cons_zero, List.set_cons_succ, i64_w, i32_w]
     rfl
    refine pu 1 (some 16) #[true, true, false, false, false, false, false, false] (h := ?_)
    refine take_ (i := 2) (N := some 17) (v := ?_) (a' := ?_) #[true, true, true, false, false, false, false, false] rfl rfl (take_ofW HT_.out HW_.out (by kernel_rfl)) (fun _ _ _ h => h) (Or.inl ⟨by rfl, ?_⟩) hHeld ?_ ?_
    rotate_left
    ·rintro w' ⟨s36z, s37z, s38z, s39z, s40z, s41z⟩
     go_simp
     with_reducible rfl
    rotate_left
    ·simp only [Act.put, List.setIfInBounds_toArray, List.set_cons_zero, List.set_cons_succ, i64_w, i32_w]
     rfl
    refine pu 3 (some 18) #[true, true, true, true, false, false, false, false] (h := ?_)
    first | (have q_ : Aside0 (_ = some true) := A7; refine join_ (σ := Value × Value × Nat) 1 #[true, true, true, true, true, true, true, false] (fun s_ => [(19, .agg #[.bool t1703, s_.1, .int .i64 t1707]), (20, .agg #[.bool t1708, s_.2.1, .int .i64 t1712]), (7, .pointer (some ⟨s_.2.2, 0, none⟩))]) (fun s_ w' => (w'.cell? ⟨gb0z, 0, none⟩ = some (.bool a0_0) ∧ w'.cell? ⟨gb0z, 1, none⟩ = some (.slice A0_1 l0_1.length c0_1) ∧ w'.cell? ⟨gb0z, 2, none⟩ = some (.int .i64 a0_2) ∧ w'.cell? ⟨gb5z, 0, none⟩ = some (.bool a1_0) ∧ w'.cell? ⟨gb5z, 1, none⟩ = some (.slice A1_1 l1_1.length c1_1) ∧ w'.cell? ⟨gb5z, 2, none⟩ = some (.int .i64 a1_2)) ∧ (Kd.V (Kd.int .u32) 85 w' w.heap.size (fun k_ => ((P0_1_ k_ ∨ P1_1_ k_) ∨ w.heap.size ≤ k_) ∧ some k_ ≠ (.slice Ao30z y1699.length co31z : Value).ownBlock ∧ some k_ ≠ (s_.2.1 : Value).ownBlock ∧ k_ ≠ gb0z ∧ k_ ≠ gb5z ∧ k_ ≠ s_.2.2) (.slice A0_1 l0_1.length c0_1) l0_1) ∧ (Kd.N k24 24 w' w.heap.size (fun k_ => ((P0_1_ k_ ∨ P1_1_ k_) ∨ w.heap.size ≤ k_) ∧ some k_ ≠ (s_.2.1 : Value).ownBlock ∧ k_ ≠ gb0z ∧ k_ ≠ gb5z ∧ k_ ≠ s_.2.2) (.slice Ao30z y1699.length co31z) y1699) ∧ (Kd.V (Kd.int .u32) 85 w' w.heap.size (fun k_ => ((P0_1_ k_ ∨ P1_1_ k_) ∨ w.heap.size ≤ k_) ∧ some k_ ≠ (.slice Ao30z y1699.length co31z : Value).ownBlock ∧ some k_ ≠ (s_.2.1 : Value).ownBlock ∧ k_ ≠ gb0z ∧ k_ ≠ gb5z ∧ k_ ≠ s_.2.2) s_.1 t1704) ∧ (Kd.R (Kd.int .u32) 85 w' w.heap.size (fun k_ => (w.heap.size ≤ k_)) s_.2.1 t1709) ∧ (Kd.V (Kd.int .u32) 85 w' w.heap.size (fun k_ => ((P0_1_ k_ ∨ P1_1_ k_) ∨ w.heap.size ≤ k_) ∧ some k_ ≠ (.slice Ao30z y1699.length co31z : Value).ownBlock ∧ some k_ ≠ (s_.2.1 : Value).ownBlock ∧ k_ ≠ gb0z ∧ k_ ≠ gb5z ∧ k_ ≠ s_.2.2) (.slice A1_1 l1_1.length c1_1) l1_1) ∧ (w'.heap[gb0z]? = some (.cells #[.bool a0_0, .slice A0_1 l0_1.length c0_1, .int .i64 a0_2] 24 (0, 0))) ∧ (w'.heap[gb5z]? = some (.cells #[.bool a1_0, .slice A1_1 l1_1.length c1_1, .int .i64 a1_2] 24 (0, 0))) ∧ (w'.heap[s_.2.2]? = some (.cells #[.bool false, .slice none 0 0, .int .i64 0] 106 (0, 0))) ∧ (w.heap.size ≤ s_.2.2) ∧ (w.heap.size ≤ s_.2.2) ∧ (gb0z ≠ s_.2.2) ∧ (s_.2.2 ≠ gb0z) ∧ (gb5z ≠ s_.2.2) ∧ (s_.2.2 ≠ gb5z) ∧ (Below w.heap.size w w')) ?_ ?_) | (have q_ : Aside0 (_ = some (true, _, _)) := A6; have q_ : Aside0 (_ = some false) := A7; refine join_ (σ := Value × Value × Nat) 1 #[true, true, true, true, true, true, true, false] (fun s_ => [(19, .agg #[.bool t1703, s_.1, .int .i64 t1707]), (20, .agg #[.bool true, s_.2.1, .int .i64 t1712]), (7, .pointer (some ⟨s_.2.2, 0, none⟩))]) (fun s_ w' => (w'.cell? ⟨gb0z, 0, none⟩ = some (.bool a0_0) ∧ w'.cell? ⟨gb0z, 1, none⟩ = some (.slice A0_1 l0_1.length c0_1) ∧ w'.cell? ⟨gb0z, 2, none⟩ = some (.int .i64 a0_2) ∧ w'.cell? ⟨gb5z, 0, none⟩ = some (.bool a1_0) ∧ w'.cell? ⟨gb5z, 1, none⟩ = some (.slice A1_1 l1_1.length c1_1) ∧ w'.cell? ⟨gb5z, 2, none⟩ = some (.int .i64 a1_2)) ∧ (Kd.V (Kd.int .u32) 85 w' w.heap.size (fun k_ => ((P0_1_ k_ ∨ P1_1_ k_) ∨ w.heap.size ≤ k_) ∧ some k_ ≠ (.slice Ao30z y1699.length co31z : Value).ownBlock ∧ some k_ ≠ (s_.2.1 : Value).ownBlock ∧ k_ ≠ gb0z ∧ k_ ≠ gb5z ∧ k_ ≠ s_.2.2) (.slice A0_1 l0_1.length c0_1) l0_1) ∧ (Kd.N k24 24 w' w.heap.size (fun k_ => ((P0_1_ k_ ∨ P1_1_ k_) ∨ w.heap.size ≤ k_) ∧ some k_ ≠ (s_.2.1 : Value).ownBlock ∧ k_ ≠ gb0z ∧ k_ ≠ gb5z ∧ k_ ≠ s_.2.2) (.slice Ao30z y1699.length co31z) y1699) ∧ (Kd.V (Kd.int .u32) 85 w' w.heap.size (fun k_ => ((P0_1_ k_ ∨ P1_1_ k_) ∨ w.heap.size ≤ k_) ∧ some k_ ≠ (.slice Ao30z y1699.length co31z : Value).ownBlock ∧ some k_ ≠ (s_.2.1 : Value).ownBlock ∧ k_ ≠ gb0z ∧ k_ ≠ gb5z ∧ k_ ≠ s_.2.2) s_.1 t1704) ∧ (Kd.R (Kd.int .u32) 85 w' w.heap.size (fun k_ => (w.heap.size ≤ k_)) s_.2.1 t1709) ∧ (Kd.V (Kd.int .u32) 85 w' w.heap.size (fun k_ => ((P0_1_ k_ ∨ P1_1_ k_) ∨ w.heap.size ≤ k_) ∧ some k_ ≠ (.slice Ao30z y1699.length co31z : Value).ownBlock ∧ some k_ ≠ (s_.2.1 : Value).ownBlock ∧ k_ ≠ gb0z ∧ k_ ≠ gb5z ∧ k_ ≠ s_.2.2) (.slice A1_1 l1_1.length c1_1) l1_1) ∧ (w'.heap[gb0z]? = some (.cells #[.bool a0_0, .slice A0_1 l0_1.length c0_1, .int .i64 a0_2] 24 (0, 0))) ∧ (w'.heap[gb5z]? = some (.cells #[.bool a1_0, .slice A1_1 l1_1.length c1_1, .int .i64 a1_2] 24 (0, 0))) ∧ (w'.heap[s_.2.2]? = some (.cells #[.bool false, .slice none 0 0, .int .i64 0] 106 (0, 0))) ∧ (w.heap.size ≤ s_.2.2) ∧ (w.heap.size ≤ s_.2.2) ∧ (gb0z ≠ s_.2.2) ∧ (s_.2.2 ≠ gb0z) ∧ (gb5z ≠ s_.2.2) ∧ (s_.2.2 ≠ gb5z) ∧ (Below w.heap.size w w')) ?_ ?_) | (have q_ : Aside0 (_ = some (false, _, _)) := A6; have q_ : Aside0 (_ = some false) := A7; refine join_ (σ := Value × Value × Nat) 1 #[true, true, true, true, true, true, true, false] (fun s_ => [(19, .agg #[.bool t1703, s_.1, .int .i64 t1707]), (20, .agg #[.bool false, s_.2.1, .int .i64 t1712]), (7, .pointer (some ⟨s_.2.2, 0, none⟩))]) (fun s_ w' => (w'.cell? ⟨gb0z, 0, none⟩ = some (.bool a0_0) ∧ w'.cell? ⟨gb0z, 1, none⟩ = some (.slice A0_1 l0_1.length c0_1) ∧ w'.cell? ⟨gb0z, 2, none⟩ = some (.int .i64 a0_2) ∧ w'.cell? ⟨gb5z, 0, none⟩ = some (.bool a1_0) ∧ w'.cell? ⟨gb5z, 1, none⟩ = some (.slice A1_1 l1_1.length c1_1) ∧ w'.cell? ⟨gb5z, 2, none⟩ = some (.int .i64 a1_2)) ∧ (Kd.V (Kd.int .u32) 85 w' w.heap.size (fun k_ => ((P0_1_ k_ ∨ P1_1_ k_) ∨ w.heap.size ≤ k_) ∧ some k_ ≠ (.slice Ao30z y1699.length co31z : Value).ownBlock ∧ some k_ ≠ (s_.2.1 : Value).ownBlock ∧ k_ ≠ gb0z ∧ k_ ≠ gb5z ∧ k_ ≠ s_.2.2) (.slice A0_1 l0_1.length c0_1) l0_1) ∧ (Kd.N k24 24 w' w.heap.size (fun k_ => ((P0_1_ k_ ∨ P1_1_ k_) ∨ w.heap.size ≤ k_) ∧ some k_ ≠ (s_.2.1 : Value).ownBlock ∧ k_ ≠ gb0z ∧ k_ ≠ gb5z ∧ k_ ≠ s_.2.2) (.slice Ao30z y1699.length co31z) y1699) ∧ (Kd.V (Kd.int .u32) 85 w' w.heap.size (fun k_ => ((P0_1_ k_ ∨ P1_1_ k_) ∨ w.heap.size ≤ k_) ∧ some k_ ≠ (.slice Ao30z y1699.length co31z : Value).ownBlock ∧ some k_ ≠ (s_.2.1 : Value).ownBlock ∧ k_ ≠ gb0z ∧ k_ ≠ gb5z ∧ k_ ≠ s_.2.2) s_.1 t1704) ∧ (Kd.R (Kd.int .u32) 85 w' w.heap.size (fun k_ => (w.heap.size ≤ k_)) s_.2.1 t1709) ∧ (Kd.V (Kd.int .u32) 85 w' w.heap.size (fun k_ => ((P0_1_ k_ ∨ P1_1_ k_) ∨ w.heap.size ≤ k_) ∧ some k_ ≠ (.slice Ao30z y1699.length co31z : Value).ownBlock ∧ some k_ ≠ (s_.2.1 : Value).ownBlock ∧ k_ ≠ gb0z ∧ k_ ≠ gb5z ∧ k_ ≠ s_.2.2) (.slice A1_1 l1_1.length c1_1) l1_1) ∧ (w'.heap[gb0z]? = some (.cells #[.bool a0_0, .slice A0_1 l0_1.length c0_1, .int .i64 a0_2] 24 (0, 0))) ∧ (w'.heap[gb5z]? = some (.cells #[.bool a1_0, .slice A1_1 l1_1.length c1_1, .int .i64 a1_2] 24 (0, 0))) ∧ (w'.heap[s_.2.2]? = some (.cells #[.bool false, .slice none 0 0, .int .i64 0] 106 (0, 0))) ∧ (w.heap.size ≤ s_.2.2) ∧ (w.heap.size ≤ s_.2.2) ∧ (gb0z ≠ s_.2.2) ∧ (s_.2.2 ≠ gb0z) ∧ (gb5z ≠ s_.2.2) ∧ (s_.2.2 ≠ gb5z) ∧ (Below w.heap.size w w')) ?_ ?_)
    rotate_left
    ·intro hCont
     refine two_ (i := 4) (j := 6) (Ni := some 19) (Nj := some 7) #[true, true, true, true, true, false, false, false] #[true, true, true, true, false, false, true, false] rfl rfl rfl rfl (two_of HT_.out (by kernel_rfl)) (by decide) (by decide) (fun K hK => ?_) (fun K hK => ?_)
     ·skip
      refine goes_ Tryz.func103 (by kernel_rfl) rfl #[.agg #[.bool a1_0, .slice A1_1 l1_1.length c1_1, .int .i64 a1_2]] (by rfl) rfl rfl pA ?_
      with_reducible refine (dec_number_minus.calls a1_0 (fun k_ => (((((P0_1_ k_ ∨ P1_1_ k_) ∨ w.heap.size ≤ k_) ∧ k_ ≠ gb0z) ∧ k_ ≠ gb5z) ∧ some k_ ≠ (.slice Ao30z y1699.length co31z : Value).ownBlock)) _ _ l1_1 a1_2 t1703 t1704 t1707 _ ?side1 A5.out).mono ?_
      (case side1 => exact HO1_1.out)
      rintro e w42z ⟨v43z, rfl, ho44z, hb⟩
      refine ⟨_, rfl, ?_⟩
      have n0_ := am (Kd.V_below (Kd.V_below HO0_1.out pl) hb)
      have n1_ := am (Kd.V_below (Kd.V_below HO1_1.out pl) hb)
      have n2_ := am (Kd.N_below (Kd.N_below HO29z.out pl) hb)
      have n3_ := am (Kd.V_lower (Kd.V_mono (ok' := fun k_ => ((P0_1_ k_ ∨ P1_1_ k_) ∨ w.heap.size ≤ k_) ∧ some k_ ≠ (.slice Ao30z y1699.length co31z : Value).ownBlock ∧ k_ ≠ gb0z ∧ k_ ≠ gb5z) ho44z (fun k_ hk_ => ⟨Or.elim hk_ (fun hs_ => hs_.1.1.1) (fun hn_ => (.inr (Nat.le_trans (below_size pB) hn_))), Or.elim hk_ (fun hs_ => hs_.2) (fun hn_ => (Kd.fresh' (Kd.N_lt (Kd.N_below HO29z.out pl)) k_ hn_)), Or.elim hk_ (fun hs_ => hs_.1.1.2) (fun hn_ => (Kd.freshB (g := gb0z) (o := .cells #[.bool a0_0, .slice A0_1 l0_1.length c0_1, .int .i64 a0_2] 24 (0, 0)) (blk_below BK2z.out pl) k_ hn_)), Or.elim hk_ (fun hs_ => hs_.1.2) (fun hn_ => (Kd.freshB (g := gb5z) (o := .cells #[.bool a1_0, .slice A1_1 l1_1.length c1_1, .int .i64 a1_2] 24 (0, 0)) (blk_below BK7z.out pl) k_ hn_))⟩)) (below_size pB))
      have n4_ := am (blk_below (blk_below BK2z.out pl) hb)
      have n5_ := am (blk_below (blk_below BK7z.out pl) hb)
      have n6_ := am (below_step pB hb)
      clear HO0_1 HO1_1 HO29z BK2z BK7z HB
      have HO0_1 := n0_
      have HO1_1 := n1_
      have HO29z := n2_
      have HO45z := n3_
      have BK2z := n4_
      have BK7z := n5_
      have HB := n6_
      clear n0_ n1_ n2_ n3_ n4_ n5_ n6_
      (try clear hb); (try clear hb34z); (try clear hk); (try clear hi); (try clear ho44z)
      obtain ⟨Ao46z, co47z, eo48z⟩ := Kd.V_slice HO45z.out
      (first | subst eo48z | (injection eo48z with f1_ f2_ f3_; have f4_ := f1_.symm; have f5_ := f3_.symm; clear f1_ f2_ f3_; subst f4_; subst f5_))
      refine hK.out _ _ ⟨(blk_cell BK2z.out 0).trans rfl, (blk_cell BK2z.out 1).trans rfl, (blk_cell BK2z.out 2).trans rfl, (blk_cell BK7z.out 0).trans rfl, (blk_cell BK7z.out 1).trans rfl, (blk_cell BK7z.out 2).trans rfl⟩ (fun hHeld => ?_)
      clear hK K
      refine norm_ (a' := ?_) ?_ ?_
      rotate_left
      ·show Act.put _ (some 19) _ = _
       simp only [Act.put, List.setIfInBounds_toArray, List.set_cons_zero, List.set_cons_succ, i64_w, i32_w]
       rfl
      refine two_ (i := 5) (j := 6) (Ni := some 20) (Nj := some 7) #[true, true, true, true, true, true, false, false] #[true, true, true, true, true, false, true, false] rfl rfl rfl rfl (two_of HT_.out (by kernel_rfl)) (by decide) (by decide) (fun K hK => ?_) (fun K hK => ?_)
      ·skip
       refine goes_ Tryz.func101 (by kernel_rfl) rfl #[.agg #[.bool a0_0, .slice A0_1 l0_1.length c0_1, .int .i64 a0_2], .agg #[.bool t1703, .slice Ao46z t1704.length co47z, .int .i64 t1707]] (by rfl) rfl rfl pA ?_
       first | (have q_ : Aside0 (_ = some true) := A7; with_reducible refine (dec_number_plus.calls k a0_0 _ _ l0_1 a0_2 t1703 _ _ t1704 t1707 t1708 t1709 t1712 _ ?side1 ?side2 ?side3 ?side4 A6.out).mono ?_) | (have q_ : Aside0 (_ = some (true, _, _)) := A6; have q_ : Aside0 (_ = some false) := A7; with_reducible refine (dec_number_plus.calls k a0_0 _ _ l0_1 a0_2 t1703 _ _ t1704 t1707 true t1709 t1712 _ ?side1 ?side2 ?side3 ?side4 A6.out).mono ?_) | (have q_ : Aside0 (_ = some (false, _, _)) := A6; have q_ : Aside0 (_ = some false) := A7; with_reducible refine (dec_number_plus.calls k a0_0 _ _ l0_1 a0_2 t1703 _ _ t1704 t1707 false t1709 t1712 _ ?side1 ?side2 ?side3 ?side4 A6.out).mono ?_)
       (case side1 => exact Kd.C_below (Kd.V_reads' HO0_1.out).2.2 pl)
       (case side2 => exact (Kd.V_reads' HO0_1.out).2.1)
       (case side3 => exact Kd.C_below (Kd.V_reads' HO45z.out).2.2 pl)
       (case side4 => exact (Kd.V_reads' HO45z.out).2.1)
       rintro e w49z ⟨v50z, rfl, ho44z, hb⟩
       refine ⟨_, rfl, ?_⟩
       replace HO0_1 := am (Kd.V_elder' (Kd.V_below HO0_1.out pl) (Kd.R_base ho44z) hb)
       replace HO1_1 := am (Kd.V_elder' (Kd.V_below HO1_1.out pl) (Kd.R_base ho44z) hb)
       replace HO29z := am (Kd.N_elder' (Kd.N_below HO29z.out pl) (Kd.R_base ho44z) hb)
       replace HO45z := am (Kd.V_elder' (Kd.V_below HO45z.out pl) (Kd.R_base ho44z) hb)
       have HO51z := am (Kd.R_lower (Kd.R_newM (M := fun k_ => (w.heap.size ≤ k_)) ho44z (below_size pB) (fun k_ h_ => h_)) (below_size pB))
       replace BK2z := am (blk_below (blk_below BK2z.out pl) hb)
       replace BK7z := am (blk_below (blk_below BK7z.out pl) hb)
       replace HB := am (below_step pB hb)
       (try clear hb); (try clear hb34z); (try clear hk); (try clear hi); (try clear ho44z)
       refine hK.out _ _ ⟨(blk_cell BK2z.out 0).trans rfl, (blk_cell BK2z.out 1).trans rfl, (blk_cell BK2z.out 2).trans rfl, (blk_cell BK7z.out 0).trans rfl, (blk_cell BK7z.out 1).trans rfl, (blk_cell BK7z.out 2).trans rfl⟩ (fun hHeld => ?_)
       clear hK K
       refine norm_ (a' := ?_) ?_ ?_
       rotate_left
       ·show Act.put _ (some 20) _ = _
        simp only [Act.put, List.setIfInBounds_toArray, List.set_cons_zero, List.set_cons_succ, i64_w, i32_w]
        rfl
       refine one_ (i := 6) (N := some 7) #[true, true, true, true, true, true, true, false] rfl rfl (one_of HT_.out (by kernel_rfl)) (by decide) (fun K hK => ?_)
       refine box_step ?hg (N := 7) ?hd (cs := #[.bool false, .slice none 0 0, .int .i64 0]) (t := 106) ?hr ?_; (case hd => rfl); (case hg => rfl); (case hr => first | (go_simp; done) | (go_simp; rfl))
       intro gb52z hg w53z hbox hb
       have n0_ := am (Kd.V_below (Kd.V_elderB (Kd.V_below HO0_1.out pl) gb52z (Nat.le_of_eq hg.symm)) hb)
       have n1_ := am (Kd.V_below (Kd.V_elderB (Kd.V_below HO1_1.out pl) gb52z (Nat.le_of_eq hg.symm)) hb)
       have n2_ := am (Kd.N_below (Kd.N_elderB (Kd.N_below HO29z.out pl) gb52z (Nat.le_of_eq hg.symm)) hb)
       have n3_ := am (Kd.V_below (Kd.V_elderB (Kd.V_below HO45z.out pl) gb52z (Nat.le_of_eq hg.symm)) hb)
       have n4_ := am (Kd.R_below (Kd.R_below HO51z.out pl) hb)
       have n5_ := am (blk_below (blk_below BK2z.out pl) hb)
       have n6_ := am (blk_below (blk_below BK7z.out pl) hb)
       have n7_ := am (below_step pB hb)
       have n8_ := am (hbox)
       have n9_ := am ((gw hg pB : w.heap.size ≤ gb52z))
       have n10_ := am ((gw hg pB : w.heap.size ≤ gb52z))
       have n11_ := am ((nl hg (blk_below BK2z.out pl) : gb0z ≠ gb52z))
       have n12_ := am ((ng hg (blk_below BK2z.out pl) : gb52z ≠ gb0z))
       have n13_ := am ((nl hg (blk_below BK7z.out pl) : gb5z ≠ gb52z))
       have n14_ := am ((ng hg (blk_below BK7z.out pl) : gb52z ≠ gb5z))
       clear HO0_1 HO1_1 HO29z HO45z HO51z BK2z BK7z HB
       have HO0_1 := n0_
       have HO1_1 := n1_
       have HO29z := n2_
       have HO45z := n3_
       have HO51z := n4_
       have BK2z := n5_
       have BK7z := n6_
       have HB := n7_
       have BK54z := n8_
       have GW55z := n9_
       have GE56z := n10_
       have NB57z := n11_
       have NB58z := n12_
       have NB59z := n13_
       have NB60z := n14_
       clear n0_ n1_ n2_ n3_ n4_ n5_ n6_ n7_ n8_ n9_ n10_ n11_ n12_ n13_ n14_ hb hbox hg
       refine hK.out _ _ ⟨(blk_cell BK2z.out 0).trans rfl, (blk_cell BK2z.out 1).trans rfl, (blk_cell BK2z.out 2).trans rfl, (blk_cell BK7z.out 0).trans rfl, (blk_cell BK7z.out 1).trans rfl, (blk_cell BK7z.out 2).trans rfl⟩ (fun hHeld => ?_)
       clear hK K
       refine norm_ (a' := ?_) ?_ ?_
       rotate_left
       ·show Act.put _ (some 7) _ = _
        simp only [Act.put, List.setIfInBounds_toArray, List.set_cons_zero, List.set_cons_succ, i64_w, i32_w]
        rfl
       exact norm_ (by simp only [putAll, Act.put, List.setIfInBounds_toArray, List.set_cons_zero, List.set_cons_succ]) (hCont (.slice Ao46z t1704.length co47z, v50z, gb52z) _ ⟨hHeld, (Kd.V_below (Kd.V_mono HO0_1.out (fun _ hk => ⟨hk.1.1.1.1.1, ⟨hk.1.1.2, ⟨hk.1.2, ⟨hk.1.1.1.1.2, ⟨hk.1.1.1.2, hk.2⟩⟩⟩⟩⟩)) pl), (Kd.N_below (Kd.N_mono HO29z.out (fun _ hk => ⟨hk.1.1.1, ⟨hk.1.2, ⟨hk.1.1.2.1, ⟨hk.1.1.2.2, hk.2⟩⟩⟩⟩)) pl), (Kd.V_below (Kd.V_mono HO45z.out (fun _ hk => ⟨hk.1.1.1, ⟨hk.1.1.2.1, ⟨hk.1.2, ⟨hk.1.1.2.2.1, ⟨hk.1.1.2.2.2, hk.2⟩⟩⟩⟩⟩)) pl), (Kd.R_below (Kd.R_mono HO51z.out (fun _ hk => hk.1)) pl), (Kd.V_below (Kd.V_mono HO1_1.out (fun _ hk => ⟨hk.1.1.1.1.1, ⟨hk.1.1.2, ⟨hk.1.2, ⟨hk.1.1.1.1.2, ⟨hk.1.1.1.2, hk.2⟩⟩⟩⟩⟩)) pl), (blk_below BK2z.out pl), (blk_below BK7z.out pl), (blk_below BK54z.out pl), GW55z.out, GE56z.out, NB57z.out, NB58z.out, NB59z.out, NB60z.out, pB⟩)
      ·skip
       refine box_step ?hg (N := 7) ?hd (cs := #[.bool false, .slice none 0 0, .int .i64 0]) (t := 106) ?hr ?_; (case hd => rfl); (case hg => rfl); (case hr => first | (go_simp; done) | (go_simp; rfl))
       intro gb52z hg w61z hbox hb
       have n0_ := am (Kd.V_below (Kd.V_elderB (Kd.V_below HO0_1.out pl) gb52z (Nat.le_of_eq hg.symm)) hb)
       have n1_ := am (Kd.V_below (Kd.V_elderB (Kd.V_below HO1_1.out pl) gb52z (Nat.le_of_eq hg.symm)) hb)
       have n2_ := am (Kd.N_below (Kd.N_elderB (Kd.N_below HO29z.out pl) gb52z (Nat.le_of_eq hg.symm)) hb)
       have n3_ := am (Kd.V_below (Kd.V_elderB (Kd.V_below HO45z.out pl) gb52z (Nat.le_of_eq hg.symm)) hb)
       have n4_ := am (blk_below (blk_below BK2z.out pl) hb)
       have n5_ := am (blk_below (blk_below BK7z.out pl) hb)
       have n6_ := am (below_step pB hb)
       have n7_ := am (hbox)
       have n8_ := am ((gw hg pB : w.heap.size ≤ gb52z))
       have n9_ := am ((gw hg pB : w.heap.size ≤ gb52z))
       have n10_ := am ((nl hg (blk_below BK2z.out pl) : gb0z ≠ gb52z))
       have n11_ := am ((ng hg (blk_below BK2z.out pl) : gb52z ≠ gb0z))
       have n12_ := am ((nl hg (blk_below BK7z.out pl) : gb5z ≠ gb52z))
       have n13_ := am ((ng hg (blk_below BK7z.out pl) : gb52z ≠ gb5z))
       clear HO0_1 HO1_1 HO29z HO45z BK2z BK7z HB
       have HO0_1 := n0_
       have HO1_1 := n1_
       have HO29z := n2_
       have HO45z := n3_
       have BK2z := n4_
       have BK7z := n5_
       have HB := n6_
       have BK54z := n7_
       have GW55z := n8_
       have GE56z := n9_
       have NB57z := n10_
       have NB58z := n11_
       have NB59z := n12_
       have NB60z := n13_
       clear n0_ n1_ n2_ n3_ n4_ n5_ n6_ n7_ n8_ n9_ n10_ n11_ n12_ n13_ hb hbox hg
       obtain ⟨Ao62z, co63z, eo64z⟩ := Kd.V_slice HO45z.out
       (first | subst eo64z | (injection eo64z with f1_ f2_ f3_; have f4_ := f1_.symm; have f5_ := f3_.symm; clear f1_ f2_ f3_; subst f4_; subst f5_))
       refine hK.out _ _ ⟨(blk_cell BK2z.out 0).trans rfl, (blk_cell BK2z.out 1).trans rfl, (blk_cell BK2z.out 2).trans rfl, (blk_cell BK7z.out 0).trans rfl, (blk_cell BK7z.out 1).trans rfl, (blk_cell BK7z.out 2).trans rfl⟩ (fun hHeld => ?_)
       clear hK K
       refine norm_ (a' := ?_) ?_ ?_
       rotate_left
       ·show Act.put _ (some 7) _ = _
        simp only [Act.put, List.setIfInBounds_toArray, List.set_cons_zero, List.set_cons_succ, i64_w, i32_w]
        rfl
       refine one_ (i := 5) (N := some 20) #[true, true, true, true, true, true, true, false] rfl rfl (one_of HT_.out (by kernel_rfl)) (by decide) (fun K hK => ?_)
       refine goes_ Tryz.func101 (by kernel_rfl) rfl #[.agg #[.bool a0_0, .slice A0_1 l0_1.length c0_1, .int .i64 a0_2], .agg #[.bool t1703, .slice Ao62z t1704.length co63z, .int .i64 t1707]] (by rfl) rfl rfl pA ?_
       first | (have q_ : Aside0 (_ = some true) := A7; with_reducible refine (dec_number_plus.calls k a0_0 _ _ l0_1 a0_2 t1703 _ _ t1704 t1707 t1708 t1709 t1712 _ ?side1 ?side2 ?side3 ?side4 A6.out).mono ?_) | (have q_ : Aside0 (_ = some (true, _, _)) := A6; have q_ : Aside0 (_ = some false) := A7; with_reducible refine (dec_number_plus.calls k a0_0 _ _ l0_1 a0_2 t1703 _ _ t1704 t1707 true t1709 t1712 _ ?side1 ?side2 ?side3 ?side4 A6.out).mono ?_) | (have q_ : Aside0 (_ = some (false, _, _)) := A6; have q_ : Aside0 (_ = some false) := A7; with_reducible refine (dec_number_plus.calls k a0_0 _ _ l0_1 a0_2 t1703 _ _ t1704 t1707 false t1709 t1712 _ ?side1 ?side2 ?side3 ?side4 A6.out).mono ?_)
       (case side1 => exact Kd.C_below (Kd.V_reads' HO0_1.out).2.2 pl)
       (case side2 => exact (Kd.V_reads' HO0_1.out).2.1)
       (case side3 => exact Kd.C_below (Kd.V_reads' HO45z.out).2.2 pl)
       (case side4 => exact (Kd.V_reads' HO45z.out).2.1)
       rintro e w53z ⟨v50z, rfl, ho44z, hb⟩
       refine ⟨_, rfl, ?_⟩
       replace HO0_1 := am (Kd.V_elder' (Kd.V_below HO0_1.out pl) (Kd.R_base ho44z) hb)
       replace HO1_1 := am (Kd.V_elder' (Kd.V_below HO1_1.out pl) (Kd.R_base ho44z) hb)
       replace HO29z := am (Kd.N_elder' (Kd.N_below HO29z.out pl) (Kd.R_base ho44z) hb)
       replace HO45z := am (Kd.V_elder' (Kd.V_below HO45z.out pl) (Kd.R_base ho44z) hb)
       have HO51z := am (Kd.R_lower (Kd.R_newM (M := fun k_ => (w.heap.size ≤ k_)) ho44z (below_size pB) (fun k_ h_ => h_)) (below_size pB))
       replace BK2z := am (blk_below (blk_below BK2z.out pl) hb)
       replace BK7z := am (blk_below (blk_below BK7z.out pl) hb)
       replace BK54z := am (blk_below (blk_below BK54z.out pl) hb)
       replace HB := am (below_step pB hb)
       (try clear hb); (try clear hb34z); (try clear hk); (try clear hi); (try clear ho44z)
       refine hK.out _ _ ⟨(blk_cell BK2z.out 0).trans rfl, (blk_cell BK2z.out 1).trans rfl, (blk_cell BK2z.out 2).trans rfl, (blk_cell BK7z.out 0).trans rfl, (blk_cell BK7z.out 1).trans rfl, (blk_cell BK7z.out 2).trans rfl⟩ (fun hHeld => ?_)
       clear hK K
       refine norm_ (a' := ?_) ?_ ?_
       rotate_left
       ·show Act.put _ (some 20) _ = _
        simp only [Act.put, List.setIfInBounds_toArray, List.set_cons_zero, List.set_cons_succ, i64_w, i32_w]
        rfl
       exact norm_ (by simp only [putAll, Act.put, List.setIfInBounds_toArray, List.set_cons_zero, List.set_cons_succ]) (hCont (.slice Ao62z t1704.length co63z, v50z, gb52z) _ ⟨hHeld, (Kd.V_below (Kd.V_mono HO0_1.out (fun _ hk => ⟨hk.1.1.1.1.1, ⟨hk.1.1.2, ⟨hk.2, ⟨hk.1.1.1.1.2, ⟨hk.1.1.1.2, hk.1.2⟩⟩⟩⟩⟩)) pl), (Kd.N_below (Kd.N_mono HO29z.out (fun _ hk => ⟨hk.1.1.1, ⟨hk.2, ⟨hk.1.1.2.1, ⟨hk.1.1.2.2, hk.1.2⟩⟩⟩⟩)) pl), (Kd.V_below (Kd.V_mono HO45z.out (fun _ hk => ⟨hk.1.1.1, ⟨hk.1.1.2.1, ⟨hk.2, ⟨hk.1.1.2.2.1, ⟨hk.1.1.2.2.2, hk.1.2⟩⟩⟩⟩⟩)) pl), (Kd.R_below (Kd.R_mono HO51z.out (fun _ hk => hk.1)) pl), (Kd.V_below (Kd.V_mono HO1_1.out (fun _ hk => ⟨hk.1.1.1.1.1, ⟨hk.1.1.2, ⟨hk.2, ⟨hk.1.1.1.1.2, ⟨hk.1.1.1.2, hk.1.2⟩⟩⟩⟩⟩)) pl), (blk_below BK2z.out pl), (blk_below BK7z.out pl), (blk_below BK54z.out pl), GW55z.out, GE56z.out, NB57z.out, NB58z.out, NB59z.out, NB60z.out, pB⟩)
     ·skip
      refine box_step ?hg (N := 7) ?hd (cs := #[.bool false, .slice none 0 0, .int .i64 0]) (t := 106) ?hr ?_; (case hd => rfl); (case hg => rfl); (case hr => first | (go_simp; done) | (go_simp; rfl))
      intro gb52z hg w42z hbox hb
      have n0_ := am (Kd.V_below (Kd.V_elderB (Kd.V_below HO0_1.out pl) gb52z (Nat.le_of_eq hg.symm)) hb)
      have n1_ := am (Kd.V_below (Kd.V_elderB (Kd.V_below HO1_1.out pl) gb52z (Nat.le_of_eq hg.symm)) hb)
      have n2_ := am (Kd.N_below (Kd.N_elderB (Kd.N_below HO29z.out pl) gb52z (Nat.le_of_eq hg.symm)) hb)
      have n3_ := am (blk_below (blk_below BK2z.out pl) hb)
      have n4_ := am (blk_below (blk_below BK7z.out pl) hb)
      have n5_ := am (below_step pB hb)
      have n6_ := am (hbox)
      have n7_ := am ((gw hg pB : w.heap.size ≤ gb52z))
      have n8_ := am ((gw hg pB : w.heap.size ≤ gb52z))
      have n9_ := am ((nl hg (blk_below BK2z.out pl) : gb0z ≠ gb52z))
      have n10_ := am ((ng hg (blk_below BK2z.out pl) : gb52z ≠ gb0z))
      have n11_ := am ((nl hg (blk_below BK7z.out pl) : gb5z ≠ gb52z))
      have n12_ := am ((ng hg (blk_below BK7z.out pl) : gb52z ≠ gb5z))
      clear HO0_1 HO1_1 HO29z BK2z BK7z HB
      have HO0_1 := n0_
      have HO1_1 := n1_
      have HO29z := n2_
      have BK2z := n3_
      have BK7z := n4_
      have HB := n5_
      have BK54z := n6_
      have GW55z := n7_
      have GE56z := n8_
      have NB57z := n9_
      have NB58z := n10_
      have NB59z := n11_
      have NB60z := n12_
      clear n0_ n1_ n2_ n3_ n4_ n5_ n6_ n7_ n8_ n9_ n10_ n11_ n12_ hb hbox hg
      refine hK.out _ _ ⟨(blk_cell BK2z.out 0).trans rfl, (blk_cell BK2z.out 1).trans rfl, (blk_cell BK2z.out 2).trans rfl, (blk_cell BK7z.out 0).trans rfl, (blk_cell BK7z.out 1).trans rfl, (blk_cell BK7z.out 2).trans rfl⟩ (fun hHeld => ?_)
      clear hK K
      refine norm_ (a' := ?_) ?_ ?_
      rotate_left
      ·show Act.put _ (some 7) _ = _
       simp only [Act.put, List.setIfInBounds_toArray, List.set_cons_zero, List.set_cons_succ, i64_w, i32_w]
       rfl
      refine one_ (i := 4) (N := some 19) #[true, true, true, true, true, false, true, false] rfl rfl (one_of HT_.out (by kernel_rfl)) (by decide) (fun K hK => ?_)
      refine goes_ Tryz.func103 (by kernel_rfl) rfl #[.agg #[.bool a1_0, .slice A1_1 l1_1.length c1_1, .int .i64 a1_2]] (by rfl) rfl rfl pA ?_
      with_reducible refine (dec_number_minus.calls a1_0 (fun k_ => ((((((P0_1_ k_ ∨ P1_1_ k_) ∨ w.heap.size ≤ k_) ∧ k_ ≠ gb0z) ∧ k_ ≠ gb5z) ∧ some k_ ≠ (.slice Ao30z y1699.length co31z : Value).ownBlock) ∧ k_ ≠ gb52z)) _ _ l1_1 a1_2 t1703 t1704 t1707 _ ?side1 A5.out).mono ?_
      (case side1 => exact HO1_1.out)
      rintro e w61z ⟨v43z, rfl, ho44z, hb⟩
      refine ⟨_, rfl, ?_⟩
      have n0_ := am (Kd.V_below (Kd.V_below HO0_1.out pl) hb)
      have n1_ := am (Kd.V_below (Kd.V_below HO1_1.out pl) hb)
      have n2_ := am (Kd.N_below (Kd.N_below HO29z.out pl) hb)
      have n3_ := am (Kd.V_lower (Kd.V_mono (ok' := fun k_ => ((P0_1_ k_ ∨ P1_1_ k_) ∨ w.heap.size ≤ k_) ∧ some k_ ≠ (.slice Ao30z y1699.length co31z : Value).ownBlock ∧ k_ ≠ gb0z ∧ k_ ≠ gb5z ∧ k_ ≠ gb52z) ho44z (fun k_ hk_ => ⟨Or.elim hk_ (fun hs_ => hs_.1.1.1.1) (fun hn_ => (.inr (Nat.le_trans (below_size pB) hn_))), Or.elim hk_ (fun hs_ => hs_.1.2) (fun hn_ => (Kd.fresh' (Kd.N_lt (Kd.N_below HO29z.out pl)) k_ hn_)), Or.elim hk_ (fun hs_ => hs_.1.1.1.2) (fun hn_ => (Kd.freshB (g := gb0z) (o := .cells #[.bool a0_0, .slice A0_1 l0_1.length c0_1, .int .i64 a0_2] 24 (0, 0)) (blk_below BK2z.out pl) k_ hn_)), Or.elim hk_ (fun hs_ => hs_.1.1.2) (fun hn_ => (Kd.freshB (g := gb5z) (o := .cells #[.bool a1_0, .slice A1_1 l1_1.length c1_1, .int .i64 a1_2] 24 (0, 0)) (blk_below BK7z.out pl) k_ hn_)), Or.elim hk_ (fun hs_ => hs_.2) (fun hn_ => (Kd.freshB (g := gb52z) (o := .cells #[.bool false, .slice none 0 0, .int .i64 0] 106 (0, 0)) (blk_below BK54z.out pl) k_ hn_))⟩)) (below_size pB))
      have n4_ := am (blk_below (blk_below BK2z.out pl) hb)
      have n5_ := am (blk_below (blk_below BK7z.out pl) hb)
      have n6_ := am (blk_below (blk_below BK54z.out pl) hb)
      have n7_ := am (below_step pB hb)
      clear HO0_1 HO1_1 HO29z BK2z BK7z BK54z HB
      have HO0_1 := n0_
      have HO1_1 := n1_
      have HO29z := n2_
      have HO45z := n3_
      have BK2z := n4_
      have BK7z := n5_
      have BK54z := n6_
      have HB := n7_
      clear n0_ n1_ n2_ n3_ n4_ n5_ n6_ n7_
      (try clear hb); (try clear hb34z); (try clear hk); (try clear hi); (try clear ho44z)
      obtain ⟨Ao62z, co63z, eo64z⟩ := Kd.V_slice HO45z.out
      (first | subst eo64z | (injection eo64z with f1_ f2_ f3_; have f4_ := f1_.symm; have f5_ := f3_.symm; clear f1_ f2_ f3_; subst f4_; subst f5_))
      refine hK.out _ _ ⟨(blk_cell BK2z.out 0).trans rfl, (blk_cell BK2z.out 1).trans rfl, (blk_cell BK2z.out 2).trans rfl, (blk_cell BK7z.out 0).trans rfl, (blk_cell BK7z.out 1).trans rfl, (blk_cell BK7z.out 2).trans rfl⟩ (fun hHeld => ?_)
      clear hK K
      refine norm_ (a' := ?_) ?_ ?_
      rotate_left
      ·show Act.put _ (some 19) _ = _
       simp only [Act.put, List.setIfInBounds_toArray, List.set_cons_zero, List.set_cons_succ, i64_w, i32_w]
       rfl
      refine one_ (i := 5) (N := some 20) #[true, true, true, true, true, true, true, false] rfl rfl (one_of HT_.out (by kernel_rfl)) (by decide) (fun K hK => ?_)
      refine goes_ Tryz.func101 (by kernel_rfl) rfl #[.agg #[.bool a0_0, .slice A0_1 l0_1.length c0_1, .int .i64 a0_2], .agg #[.bool t1703, .slice Ao62z t1704.length co63z, .int .i64 t1707]] (by rfl) rfl rfl pA ?_
      first | (have q_ : Aside0 (_ = some true) := A7; with_reducible refine (dec_number_plus.calls k a0_0 _ _ l0_1 a0_2 t1703 _ _ t1704 t1707 t1708 t1709 t1712 _ ?side1 ?side2 ?side3 ?side4 A6.out).mono ?_) | (have q_ : Aside0 (_ = some (true, _, _)) := A6; have q_ : Aside0 (_ = some false) := A7; with_reducible refine (dec_number_plus.calls k a0_0 _ _ l0_1 a0_2 t1703 _ _ t1704 t1707 true t1709 t1712 _ ?side1 ?side2 ?side3 ?side4 A6.out).mono ?_) | (have q_ : Aside0 (_ = some (false, _, _)) := A6; have q_ : Aside0 (_ = some false) := A7; with_reducible refine (dec_number_plus.calls k a0_0 _ _ l0_1 a0_2 t1703 _ _ t1704 t1707 false t1709 t1712 _ ?side1 ?side2 ?side3 ?side4 A6.out).mono ?_)
      (case side1 => exact Kd.C_below (Kd.V_reads' HO0_1.out).2.2 pl)
      (case side2 => exact (Kd.V_reads' HO0_1.out).2.1)
      (case side3 => exact Kd.C_below (Kd.V_reads' HO45z.out).2.2 pl)
      (case side4 => exact (Kd.V_reads' HO45z.out).2.1)
      rintro e w53z ⟨v50z, rfl, ho44z, hb⟩
      refine ⟨_, rfl, ?_⟩
      replace HO0_1 := am (Kd.V_elder' (Kd.V_below HO0_1.out pl) (Kd.R_base ho44z) hb)
      replace HO1_1 := am (Kd.V_elder' (Kd.V_below HO1_1.out pl) (Kd.R_base ho44z) hb)
      replace HO29z := am (Kd.N_elder' (Kd.N_below HO29z.out pl) (Kd.R_base ho44z) hb)
      replace HO45z := am (Kd.V_elder' (Kd.V_below HO45z.out pl) (Kd.R_base ho44z) hb)
      have HO51z := am (Kd.R_lower (Kd.R_newM (M := fun k_ => (w.heap.size ≤ k_)) ho44z (below_size pB) (fun k_ h_ => h_)) (below_size pB))
      replace BK2z := am (blk_below (blk_below BK2z.out pl) hb)
      replace BK7z := am (blk_below (blk_below BK7z.out pl) hb)
      replace BK54z := am (blk_below (blk_below BK54z.out pl) hb)
      replace HB := am (below_step pB hb)
      (try clear hb); (try clear hb34z); (try clear hk); (try clear hi); (try clear ho44z)
      refine hK.out _ _ ⟨(blk_cell BK2z.out 0).trans rfl, (blk_cell BK2z.out 1).trans rfl, (blk_cell BK2z.out 2).trans rfl, (blk_cell BK7z.out 0).trans rfl, (blk_cell BK7z.out 1).trans rfl, (blk_cell BK7z.out 2).trans rfl⟩ (fun hHeld => ?_)
      clear hK K
      refine norm_ (a' := ?_) ?_ ?_
      rotate_left
      ·show Act.put _ (some 20) _ = _
       simp only [Act.put, List.setIfInBounds_toArray, List.set_cons_zero, List.set_cons_succ, i64_w, i32_w]
       rfl
      exact norm_ (by simp only [putAll, Act.put, List.setIfInBounds_toArray, List.set_cons_zero, List.set_cons_succ]) (hCont (.slice Ao62z t1704.length co63z, v50z, gb52z) _ ⟨hHeld, (Kd.V_below (Kd.V_mono HO0_1.out (fun _ hk => ⟨hk.1.1.1.1.1, ⟨hk.1.1.2, ⟨hk.2, ⟨hk.1.1.1.1.2, ⟨hk.1.1.1.2, hk.1.2⟩⟩⟩⟩⟩)) pl), (Kd.N_below (Kd.N_mono HO29z.out (fun _ hk => ⟨hk.1.1.1, ⟨hk.2, ⟨hk.1.1.2.1, ⟨hk.1.1.2.2, hk.1.2⟩⟩⟩⟩)) pl), (Kd.V_below (Kd.V_mono HO45z.out (fun _ hk => ⟨hk.1.1, ⟨hk.1.2.1, ⟨hk.2, ⟨hk.1.2.2.1, ⟨hk.1.2.2.2.1, hk.1.2.2.2.2⟩⟩⟩⟩⟩)) pl), (Kd.R_below (Kd.R_mono HO51z.out (fun _ hk => hk.1)) pl), (Kd.V_below (Kd.V_mono HO1_1.out (fun _ hk => ⟨hk.1.1.1.1.1, ⟨hk.1.1.2, ⟨hk.2, ⟨hk.1.1.1.1.2, ⟨hk.1.1.1.2, hk.1.2⟩⟩⟩⟩⟩)) pl), (blk_below BK2z.out pl), (blk_below BK7z.out pl), (blk_below BK54z.out pl), GW55z.out, GE56z.out, NB57z.out, NB58z.out, NB59z.out, NB60z.out, pB⟩)
    rintro ⟨v43z, v50z, gb52z⟩ w65z ⟨hS_, h0_, h1_, h2_, h3_, h4_, h5_, h6_, h7_, h8_, h9_, h10_, h11_, h12_, h13_, h14_⟩
    have n0_ : Aside0 (Kd.V (Kd.int .u32) 85 w65z w.heap.size (fun k_ => ((P0_1_ k_ ∨ P1_1_ k_) ∨ w.heap.size ≤ k_) ∧ some k_ ≠ (.slice Ao30z y1699.length co31z : Value).ownBlock ∧ some k_ ≠ (v50z : Value).ownBlock ∧ k_ ≠ gb0z ∧ k_ ≠ gb5z ∧ k_ ≠ gb52z) (.slice A0_1 l0_1.length c0_1) l0_1) := ⟨h0_⟩
    have n1_ : Aside0 (Kd.N k24 24 w65z w.heap.size (fun k_ => ((P0_1_ k_ ∨ P1_1_ k_) ∨ w.heap.size ≤ k_) ∧ some k_ ≠ (v50z : Value).ownBlock ∧ k_ ≠ gb0z ∧ k_ ≠ gb5z ∧ k_ ≠ gb52z) (.slice Ao30z y1699.length co31z) y1699) := ⟨h1_⟩
    have n2_ : Aside0 (Kd.V (Kd.int .u32) 85 w65z w.heap.size (fun k_ => ((P0_1_ k_ ∨ P1_1_ k_) ∨ w.heap.size ≤ k_) ∧ some k_ ≠ (.slice Ao30z y1699.length co31z : Value).ownBlock ∧ some k_ ≠ (v50z : Value).ownBlock ∧ k_ ≠ gb0z ∧ k_ ≠ gb5z ∧ k_ ≠ gb52z) v43z t1704) := ⟨h2_⟩
    have n3_ : Aside0 (Kd.R (Kd.int .u32) 85 w65z w.heap.size (fun k_ => (w.heap.size ≤ k_)) v50z t1709) := ⟨h3_⟩
    have n4_ : Aside0 (Kd.V (Kd.int .u32) 85 w65z w.heap.size (fun k_ => ((P0_1_ k_ ∨ P1_1_ k_) ∨ w.heap.size ≤ k_) ∧ some k_ ≠ (.slice Ao30z y1699.length co31z : Value).ownBlock ∧ some k_ ≠ (v50z : Value).ownBlock ∧ k_ ≠ gb0z ∧ k_ ≠ gb5z ∧ k_ ≠ gb52z) (.slice A1_1 l1_1.length c1_1) l1_1) := ⟨h4_⟩
    have n5_ : Aside0 (w65z.heap[gb0z]? = some (.cells #[.bool a0_0, .slice A0_1 l0_1.length c0_1, .int .i64 a0_2] 24 (0, 0))) := ⟨h5_⟩
    have n6_ : Aside0 (w65z.heap[gb5z]? = some (.cells #[.bool a1_0, .slice A1_1 l1_1.length c1_1, .int .i64 a1_2] 24 (0, 0))) := ⟨h6_⟩
    have n7_ : Aside0 (w65z.heap[gb52z]? = some (.cells #[.bool false, .slice none 0 0, .int .i64 0] 106 (0, 0))) := ⟨h7_⟩
    have n8_ : Aside0 (w.heap.size ≤ gb52z) := ⟨h8_⟩
    have n9_ : Aside0 (w.heap.size ≤ gb52z) := ⟨h9_⟩
    have n10_ : Aside0 (gb0z ≠ gb52z) := ⟨h10_⟩
    have n11_ : Aside0 (gb52z ≠ gb0z) := ⟨h11_⟩
    have n12_ : Aside0 (gb5z ≠ gb52z) := ⟨h12_⟩
    have n13_ : Aside0 (gb52z ≠ gb5z) := ⟨h13_⟩
    have n14_ : Aside0 (Below w.heap.size w w65z) := ⟨h14_⟩
    clear HO0_1 HO1_1 HO29z BK2z BK7z HB h0_ h1_ h2_ h3_ h4_ h5_ h6_ h7_ h8_ h9_ h10_ h11_ h12_ h13_ h14_
    have HO0_1 := n0_
    have HO29z := n1_
    have HO45z := n2_
    have HO51z := n3_
    have HO1_1 := n4_
    have BK2z := n5_
    have BK7z := n6_
    have BK54z := n7_
    have GW55z := n8_
    have GE56z := n9_
    have NB57z := n10_
    have NB58z := n11_
    have NB59z := n12_
    have NB60z := n13_
    have HB := n14_
    clear n0_ n1_ n2_ n3_ n4_ n5_ n6_ n7_ n8_ n9_ n10_ n11_ n12_ n13_ n14_
    have hHeld : w65z.cell? ⟨gb0z, 0, none⟩ = some (.bool a0_0) ∧ w65z.cell? ⟨gb0z, 1, none⟩ = some (.slice A0_1 l0_1.length c0_1) ∧ w65z.cell? ⟨gb0z, 2, none⟩ = some (.int .i64 a0_2) ∧ w65z.cell? ⟨gb5z, 0, none⟩ = some (.bool a1_0) ∧ w65z.cell? ⟨gb5z, 1, none⟩ = some (.slice A1_1 l1_1.length c1_1) ∧ w65z.cell? ⟨gb5z, 2, none⟩ = some (.int .i64 a1_2) := hS_
    obtain ⟨Ao66z, co67z, eo68z⟩ := Kd.R_slice HO51z.out
    (first | subst eo68z | (injection eo68z with f1_ f2_ f3_; have f4_ := f1_.symm; have f5_ := f3_.symm; clear f1_ f2_ f3_; subst f4_; subst f5_))
    refine norm_ (a' := ?_) ?_ ?_
    rotate_left
    ·simp only [putAll, Act.put, List.setIfInBounds_toArray, List.set_cons_zero, List.set_cons_succ]
     rfl
    refine one_ (i := 7) (N := none) #[true, true, true, true, true, true, true, true] rfl rfl (one_of HT_.out (by kernel_rfl)) (by decide) (fun K hK => ?_)
    have hs69z : w65z.cell? ⟨gb52z, 0, none⟩ = some (.bool false) := (blk_cell BK54z.out 0).trans rfl
    have hfs70z := blk_frozen BK54z.out 0
    have hns71z := NB57z.out
    have hns72z := NB59z.out
    have hms73z := NB58z.out
    have hms74z := NB60z.out
    have hs75z : w65z.cell? ⟨gb52z, 1, none⟩ = some (.slice none 0 0) := (blk_cell BK54z.out 1).trans rfl
    have hfs76z := blk_frozen BK54z.out 1
    have hns77z := NB57z.out
    have hns78z := NB59z.out
    have hms79z := NB58z.out
    have hms80z := NB60z.out
    have hs81z : w65z.cell? ⟨gb52z, 2, none⟩ = some (.int .i64 0) := (blk_cell BK54z.out 2).trans rfl
    have hfs82z := blk_frozen BK54z.out 2
    have hns83z := NB57z.out
    have hns84z := NB59z.out
    have hms85z := NB58z.out
    have hms86z := NB60z.out
    refine skip_ (w1 := ?_) (by rfl) rfl ?_ ?_
    rotate_left
    ·go_simp
     rfl
    refine hK.out _ _ ⟨((cell_far (p := ⟨gb52z, _, none⟩) NB57z.out _).trans (((cell_far (p := ⟨gb52z, _, none⟩) NB57z.out _).trans (((cell_far (p := ⟨gb52z, _, none⟩) NB57z.out _).trans (hHeld.1)))))), ((cell_far (p := ⟨gb52z, _, none⟩) NB57z.out _).trans (((cell_far (p := ⟨gb52z, _, none⟩) NB57z.out _).trans (((cell_far (p := ⟨gb52z, _, none⟩) NB57z.out _).trans (hHeld.2.1)))))), ((cell_far (p := ⟨gb52z, _, none⟩) NB57z.out _).trans (((cell_far (p := ⟨gb52z, _, none⟩) NB57z.out _).trans (((cell_far (p := ⟨gb52z, _, none⟩) NB57z.out _).trans (hHeld.2.2.1)))))), ((cell_far (p := ⟨gb52z, _, none⟩) NB59z.out _).trans (((cell_far (p := ⟨gb52z, _, none⟩) NB59z.out _).trans (((cell_far (p := ⟨gb52z, _, none⟩) NB59z.out _).trans (hHeld.2.2.2.1)))))), ((cell_far (p := ⟨gb52z, _, none⟩) NB59z.out _).trans (((cell_far (p := ⟨gb52z, _, none⟩) NB59z.out _).trans (((cell_far (p := ⟨gb52z, _, none⟩) NB59z.out _).trans (hHeld.2.2.2.2.1)))))), ((cell_far (p := ⟨gb52z, _, none⟩) NB59z.out _).trans (((cell_far (p := ⟨gb52z, _, none⟩) NB59z.out _).trans (((cell_far (p := ⟨gb52z, _, none⟩) NB59z.out _).trans (hHeld.2.2.2.2.2))))))⟩ (fun hHeld => ?_)
    clear hK K
    refine done_ (done_of HT_.out (by kernel_rfl)) ?_
    have hnb87z := NB58z.out
    have hnc88z := NB57z.out
    have hnb89z := NB60z.out
    have hnc90z := NB59z.out
    obtain ⟨hcz91z, hcz92z, hcz93z, hfz94z, hfz95z, hfz96z⟩ := cEc BK54z.out
    first | (have q_ : Aside0 (_ = some true) := A7; try go_wp2_with (first | (refine gL (some 23) Tryz.func104 #[.agg #[.bool t1708, .slice Ao66z t1709.length co67z, .int .i64 t1712]] (h := ?_); (with_reducible refine (dec_number_zero.calls t1708 _ _ t1709 t1712 true _ ?side1 ?side2 A7.out).mono ?_); (case side1 => refine (Kd.R_reads' (e := 85) (base := w.heap.size) (ok := fun k_ => (w.heap.size ≤ k_)) (n := t1709.length) (c := co67z) ?_).2.2; exact (Kd.R_below (z3 HO51z.out BK54z.out (by decide) (.bool t1708) (.slice Ao66z t1709.length co67z) (.int .i64 t1712)) pl)); (case side2 => exact (Kd.R_reads' HO51z.out).2.1); rintro e w97z ⟨rfl, hb⟩; refine ⟨_, rfl, ?_⟩; replace HO0_1 := am (Kd.V_below (Kd.V_below (Kd.V_mono (Kd.V_far (p := ⟨gb52z, 2, none⟩) (Kd.V_far (p := ⟨gb52z, 1, none⟩) (Kd.V_far (p := ⟨gb52z, 0, none⟩) (Kd.V_mono HO0_1.out (fun k_ hk => (⟨hk, hk.2.2.2.2.2⟩ : _ ∧ k_ ≠ gb52z))) (fun _ hk => hk.2) (.bool t1708)) (fun _ hk => hk.2) (.slice Ao66z t1709.length co67z)) (fun _ hk => hk.2) (.int .i64 t1712)) (fun _ h_ => h_.1)) pl) hb); replace HO1_1 := am (Kd.V_below (Kd.V_below (Kd.V_mono (Kd.V_far (p := ⟨gb52z, 2, none⟩) (Kd.V_far (p := ⟨gb52z, 1, none⟩) (Kd.V_far (p := ⟨gb52z, 0, none⟩) (Kd.V_mono HO1_1.out (fun k_ hk => (⟨hk, hk.2.2.2.2.2⟩ : _ ∧ k_ ≠ gb52z))) (fun _ hk => hk.2) (.bool t1708)) (fun _ hk => hk.2) (.slice Ao66z t1709.length co67z)) (fun _ hk => hk.2) (.int .i64 t1712)) (fun _ h_ => h_.1)) pl) hb); replace HO29z := am (Kd.N_below (Kd.N_below (Kd.N_mono (Kd.N_far (p := ⟨gb52z, 2, none⟩) (Kd.N_far (p := ⟨gb52z, 1, none⟩) (Kd.N_far (p := ⟨gb52z, 0, none⟩) (Kd.N_mono HO29z.out (fun k_ hk => (⟨hk, hk.2.2.2.2⟩ : _ ∧ k_ ≠ gb52z))) (fun _ hk => hk.2) (.bool t1708)) (fun _ hk => hk.2) (.slice Ao66z t1709.length co67z)) (fun _ hk => hk.2) (.int .i64 t1712)) (fun _ h_ => h_.1)) pl) hb); replace HO45z := am (Kd.V_below (Kd.V_below (Kd.V_mono (Kd.V_far (p := ⟨gb52z, 2, none⟩) (Kd.V_far (p := ⟨gb52z, 1, none⟩) (Kd.V_far (p := ⟨gb52z, 0, none⟩) (Kd.V_mono HO45z.out (fun k_ hk => (⟨hk, hk.2.2.2.2.2⟩ : _ ∧ k_ ≠ gb52z))) (fun _ hk => hk.2) (.bool t1708)) (fun _ hk => hk.2) (.slice Ao66z t1709.length co67z)) (fun _ hk => hk.2) (.int .i64 t1712)) (fun _ h_ => h_.1)) pl) hb); replace HO51z := am (Kd.R_below (Kd.R_below (z3 HO51z.out BK54z.out (by decide) (.bool t1708) (.slice Ao66z t1709.length co67z) (.int .i64 t1712)) pl) hb); replace BK2z := am (blk_below (bf NB57z.out BK2z.out) hb); replace BK7z := am (blk_below (bf NB59z.out BK7z.out) hb); replace BK54z := am (blk_below (g := gb52z) (o := .cells #[.bool t1708, .slice Ao66z t1709.length co67z, .int .i64 t1712] 106 (0, 0)) (by refine bp ?_; refine blk_put (cs := #[.bool t1708, .slice Ao66z t1709.length co67z, .int .i64 0]) ?_ 2 _ rfl; refine bp ?_; refine blk_put (cs := #[.bool t1708, .slice none 0 0, .int .i64 0]) ?_ 1 _ rfl; refine bp ?_; refine blk_put (cs := #[.bool false, .slice none 0 0, .int .i64 0]) ?_ 0 _ rfl; exact bp BK54z.out) hb); replace HB := am (below_step pB hb); (try clear hb); (try clear hb34z); (try clear hk); (try clear hi)))) | (have q_ : Aside0 (_ = some (true, _, _)) := A6; have q_ : Aside0 (_ = some false) := A7; try go_wp2_with (first | (refine gL (some 23) Tryz.func104 #[.agg #[.bool true, .slice Ao66z t1709.length co67z, .int .i64 t1712]] (h := ?_); (with_reducible refine (dec_number_zero.calls true _ _ t1709 t1712 false _ ?side1 ?side2 A7.out).mono ?_); (case side1 => refine (Kd.R_reads' (e := 85) (base := w.heap.size) (ok := fun k_ => (w.heap.size ≤ k_)) (n := t1709.length) (c := co67z) ?_).2.2; exact (Kd.R_below (z3 HO51z.out BK54z.out (by decide) (.bool true) (.slice Ao66z t1709.length co67z) (.int .i64 t1712)) pl)); (case side2 => exact (Kd.R_reads' HO51z.out).2.1); rintro e w97z ⟨rfl, hb⟩; refine ⟨_, rfl, ?_⟩; replace HO0_1 := am (Kd.V_below (Kd.V_below (Kd.V_mono (Kd.V_far (p := ⟨gb52z, 2, none⟩) (Kd.V_far (p := ⟨gb52z, 1, none⟩) (Kd.V_far (p := ⟨gb52z, 0, none⟩) (Kd.V_mono HO0_1.out (fun k_ hk => (⟨hk, hk.2.2.2.2.2⟩ : _ ∧ k_ ≠ gb52z))) (fun _ hk => hk.2) (.bool true)) (fun _ hk => hk.2) (.slice Ao66z t1709.length co67z)) (fun _ hk => hk.2) (.int .i64 t1712)) (fun _ h_ => h_.1)) pl) hb); replace HO1_1 := am (Kd.V_below (Kd.V_below (Kd.V_mono (Kd.V_far (p := ⟨gb52z, 2, none⟩) (Kd.V_far (p := ⟨gb52z, 1, none⟩) (Kd.V_far (p := ⟨gb52z, 0, none⟩) (Kd.V_mono HO1_1.out (fun k_ hk => (⟨hk, hk.2.2.2.2.2⟩ : _ ∧ k_ ≠ gb52z))) (fun _ hk => hk.2) (.bool true)) (fun _ hk => hk.2) (.slice Ao66z t1709.length co67z)) (fun _ hk => hk.2) (.int .i64 t1712)) (fun _ h_ => h_.1)) pl) hb); replace HO29z := am (Kd.N_below (Kd.N_below (Kd.N_mono (Kd.N_far (p := ⟨gb52z, 2, none⟩) (Kd.N_far (p := ⟨gb52z, 1, none⟩) (Kd.N_far (p := ⟨gb52z, 0, none⟩) (Kd.N_mono HO29z.out (fun k_ hk => (⟨hk, hk.2.2.2.2⟩ : _ ∧ k_ ≠ gb52z))) (fun _ hk => hk.2) (.bool true)) (fun _ hk => hk.2) (.slice Ao66z t1709.length co67z)) (fun _ hk => hk.2) (.int .i64 t1712)) (fun _ h_ => h_.1)) pl) hb); replace HO45z := am (Kd.V_below (Kd.V_below (Kd.V_mono (Kd.V_far (p := ⟨gb52z, 2, none⟩) (Kd.V_far (p := ⟨gb52z, 1, none⟩) (Kd.V_far (p := ⟨gb52z, 0, none⟩) (Kd.V_mono HO45z.out (fun k_ hk => (⟨hk, hk.2.2.2.2.2⟩ : _ ∧ k_ ≠ gb52z))) (fun _ hk => hk.2) (.bool true)) (fun _ hk => hk.2) (.slice Ao66z t1709.length co67z)) (fun _ hk => hk.2) (.int .i64 t1712)) (fun _ h_ => h_.1)) pl) hb); replace HO51z := am (Kd.R_below (Kd.R_below (z3 HO51z.out BK54z.out (by decide) (.bool true) (.slice Ao66z t1709.length co67z) (.int .i64 t1712)) pl) hb); replace BK2z := am (blk_below (bf NB57z.out BK2z.out) hb); replace BK7z := am (blk_below (bf NB59z.out BK7z.out) hb); replace BK54z := am (blk_below (g := gb52z) (o := .cells #[.bool true, .slice Ao66z t1709.length co67z, .int .i64 t1712] 106 (0, 0)) (by refine bp ?_; refine blk_put (cs := #[.bool true, .slice Ao66z t1709.length co67z, .int .i64 0]) ?_ 2 _ rfl; refine bp ?_; refine blk_put (cs := #[.bool true, .slice none 0 0, .int .i64 0]) ?_ 1 _ rfl; refine bp ?_; refine blk_put (cs := #[.bool false, .slice none 0 0, .int .i64 0]) ?_ 0 _ rfl; exact bp BK54z.out) hb); replace HB := am (below_step pB hb); (try clear hb); (try clear hb34z); (try clear hk); (try clear hi); obtain ⟨hcz98z, hcz99z, hcz100z, hfz101z, hfz102z, hfz103z⟩ := cEc BK54z.out))) | (have q_ : Aside0 (_ = some (false, _, _)) := A6; have q_ : Aside0 (_ = some false) := A7; try go_wp2_with (first | (refine gL (some 23) Tryz.func104 #[.agg #[.bool false, .slice Ao66z t1709.length co67z, .int .i64 t1712]] (h := ?_); (with_reducible refine (dec_number_zero.calls false _ _ t1709 t1712 false _ ?side1 ?side2 A7.out).mono ?_); (case side1 => refine (Kd.R_reads' (e := 85) (base := w.heap.size) (ok := fun k_ => (w.heap.size ≤ k_)) (n := t1709.length) (c := co67z) ?_).2.2; exact (Kd.R_below (z3 HO51z.out BK54z.out (by decide) (.bool false) (.slice Ao66z t1709.length co67z) (.int .i64 t1712)) pl)); (case side2 => exact (Kd.R_reads' HO51z.out).2.1); rintro e w97z ⟨rfl, hb⟩; refine ⟨_, rfl, ?_⟩; replace HO0_1 := am (Kd.V_below (Kd.V_below (Kd.V_mono (Kd.V_far (p := ⟨gb52z, 2, none⟩) (Kd.V_far (p := ⟨gb52z, 1, none⟩) (Kd.V_far (p := ⟨gb52z, 0, none⟩) (Kd.V_mono HO0_1.out (fun k_ hk => (⟨hk, hk.2.2.2.2.2⟩ : _ ∧ k_ ≠ gb52z))) (fun _ hk => hk.2) (.bool false)) (fun _ hk => hk.2) (.slice Ao66z t1709.length co67z)) (fun _ hk => hk.2) (.int .i64 t1712)) (fun _ h_ => h_.1)) pl) hb); replace HO1_1 := am (Kd.V_below (Kd.V_below (Kd.V_mono (Kd.V_far (p := ⟨gb52z, 2, none⟩) (Kd.V_far (p := ⟨gb52z, 1, none⟩) (Kd.V_far (p := ⟨gb52z, 0, none⟩) (Kd.V_mono HO1_1.out (fun k_ hk => (⟨hk, hk.2.2.2.2.2⟩ : _ ∧ k_ ≠ gb52z))) (fun _ hk => hk.2) (.bool false)) (fun _ hk => hk.2) (.slice Ao66z t1709.length co67z)) (fun _ hk => hk.2) (.int .i64 t1712)) (fun _ h_ => h_.1)) pl) hb); replace HO29z := am (Kd.N_below (Kd.N_below (Kd.N_mono (Kd.N_far (p := ⟨gb52z, 2, none⟩) (Kd.N_far (p := ⟨gb52z, 1, none⟩) (Kd.N_far (p := ⟨gb52z, 0, none⟩) (Kd.N_mono HO29z.out (fun k_ hk => (⟨hk, hk.2.2.2.2⟩ : _ ∧ k_ ≠ gb52z))) (fun _ hk => hk.2) (.bool false)) (fun _ hk => hk.2) (.slice Ao66z t1709.length co67z)) (fun _ hk => hk.2) (.int .i64 t1712)) (fun _ h_ => h_.1)) pl) hb); replace HO45z := am (Kd.V_below (Kd.V_below (Kd.V_mono (Kd.V_far (p := ⟨gb52z, 2, none⟩) (Kd.V_far (p := ⟨gb52z, 1, none⟩) (Kd.V_far (p := ⟨gb52z, 0, none⟩) (Kd.V_mono HO45z.out (fun k_ hk => (⟨hk, hk.2.2.2.2.2⟩ : _ ∧ k_ ≠ gb52z))) (fun _ hk => hk.2) (.bool false)) (fun _ hk => hk.2) (.slice Ao66z t1709.length co67z)) (fun _ hk => hk.2) (.int .i64 t1712)) (fun _ h_ => h_.1)) pl) hb); replace HO51z := am (Kd.R_below (Kd.R_below (z3 HO51z.out BK54z.out (by decide) (.bool false) (.slice Ao66z t1709.length co67z) (.int .i64 t1712)) pl) hb); replace BK2z := am (blk_below (bf NB57z.out BK2z.out) hb); replace BK7z := am (blk_below (bf NB59z.out BK7z.out) hb); replace BK54z := am (blk_below (g := gb52z) (o := .cells #[.bool false, .slice Ao66z t1709.length co67z, .int .i64 t1712] 106 (0, 0)) (by refine bp ?_; refine blk_put (cs := #[.bool false, .slice Ao66z t1709.length co67z, .int .i64 0]) ?_ 2 _ rfl; refine bp ?_; refine blk_put (cs := #[.bool false, .slice none 0 0, .int .i64 0]) ?_ 1 _ rfl; refine bp ?_; refine blk_put (cs := #[.bool false, .slice none 0 0, .int .i64 0]) ?_ 0 _ rfl; exact bp BK54z.out) hb); replace HB := am (below_step pB hb); (try clear hb); (try clear hb34z); (try clear hk); (try clear hi); obtain ⟨hcz98z, hcz99z, hcz100z, hfz101z, hfz102z, hfz103z⟩ := cEc BK54z.out)))
    go_ret2
    exact ⟨pE, pB⟩
  | go_ret2
    exact ⟨pE, pB⟩) : P := h
set_option maxHeartbeats 8000000 in
set_option maxRecDepth 100000 in
theorem dec_Compare.calls (k : Nat) (a0_0 : Bool) (P0_1_ : Nat → Prop) (A0_1 : Option Addr) (c0_1 : Nat) (l0_1 : List Int) (a0_2 : Int) (a1_0 : Bool) (P1_1_ : Nat → Prop) (A1_1 : Option Addr) (c1_1 : Nat) (l1_1 : List Int) (a1_2 : Int) (r1 : Int) (r2 : Int) (w : World) (hs0_1 : Kd.V (Kd.int .u32) 85 w w.heap.size (fun k_ => P0_1_ k_) (.slice A0_1 l0_1.length c0_1) l0_1) (hs1_1 : Kd.V (Kd.int .u32) 85 w w.heap.size (fun k_ => P1_1_ k_) (.slice A1_1 l1_1.length c1_1) l1_1) (h : dec_Compare.f k a0_0 l0_1 a0_2 a1_0 l1_1 a1_2 = some (r1, r2)) :
  Calls Tryz.prog 48 #[.agg #[.bool a0_0, .slice A0_1 l0_1.length c0_1, .int .i64 a0_2], .agg #[.bool a1_0, .slice A1_1 l1_1.length c1_1, .int .i64 a1_2]] w fun e w' => e = .returned (.tuple #[.int .i64 r1, .int .i64 r2]) ∧ Below w.heap.size w w' := by
 have hu24 := Tryz.underlying24
 have hu106 := Tryz.underlying106
 have HO0_1 := am (show Kd.V (Kd.int .u32) 85 w w.heap.size (fun k_ => ((P0_1_ k_ ∨ P1_1_ k_) ∨ w.heap.size ≤ k_)) (.slice A0_1 l0_1.length c0_1) l0_1 from Kd.V_mono hs0_1 (fun k_ hk => .inl (.inl hk)))
 have HO1_1 := am (show Kd.V (Kd.int .u32) 85 w w.heap.size (fun k_ => ((P0_1_ k_ ∨ P1_1_ k_) ∨ w.heap.size ≤ k_)) (.slice A1_1 l1_1.length c1_1) l1_1 from Kd.V_mono hs1_1 (fun k_ hk => .inl (.inr hk)))
 have HB := am (Below.refl w.heap.size w)
 have H : ((dec_ask.f k (([(⟨a0_0, l0_1, a0_2⟩ : S24), (⟨a1_0, l1_1, a1_2⟩ : S24)] : List (S24)))).bind fun t1702 => (if t1702 = 0 then ((dec_number_minus.f a1_0 l1_1 a1_2).bind fun bt1703 => ((dec_number_plus.f k a0_0 l0_1 a0_2 bt1703.1 bt1703.2.1 bt1703.2.2).bind fun bt1708 => ((dec_number_zero.f bt1708.1 bt1708.2.1 bt1708.2.2).bind fun t1714 => (if t1714 = true then (some (0, 0)) else (if bt1708.1 = true then (some ((-1), 0)) else (some (1, 0))))))) else (some (0, t1702)))) = some (r1, r2) := h
 clear h
 obtain ⟨y1699, hy1699⟩ : ∃ y_ : List (S24), y_ = (([(⟨a0_0, l0_1, a0_2⟩ : S24), (⟨a1_0, l1_1, a1_2⟩ : S24)] : List (S24))) := ⟨_, rfl⟩
 replace H : ((dec_ask.f k y1699).bind fun t1702 => (if t1702 = 0 then ((dec_number_minus.f a1_0 l1_1 a1_2).bind fun bt1703 => ((dec_number_plus.f k a0_0 l0_1 a0_2 bt1703.1 bt1703.2.1 bt1703.2.2).bind fun bt1708 => ((dec_number_zero.f bt1708.1 bt1708.2.1 bt1708.2.2).bind fun t1714 => (if t1714 = true then (some (0, 0)) else (if bt1708.1 = true then (some ((-1), 0)) else (some (1, 0))))))) else (some (0, t1702)))) = some (r1, r2) := by first | (rw [hy1699]; with_reducible exact H) | (have H2_ := (Option.bind_some _ _).symm.trans H; rw [hy1699]; with_reducible exact H2_) | (have H2_ := (Option.bind_some _ _).symm.trans H; with_reducible exact H2_) | with_reducible exact H | (rw [hy1699]; exact H) | exact H
 have Ny1699 := am hy1699
 clear hy1699
 obtain ⟨t1702, A3, H⟩ := ob H
 by_cases c4 : t1702 = 0
 ·rw [if_pos c4] at H
  have c4b0 : (t1702 == 0) = true := beq_iff_eq.mpr c4
  have c4b1 : (t1702 != 0) = false := bne_eq_false_iff_eq.mpr c4
  clear c4
  obtain ⟨⟨t1703, t1704, t1707⟩, A5, H⟩ := ob H; (try dsimp only at H)
  obtain ⟨⟨t1708, t1709, t1712⟩, A6, H⟩ := ob H; (try dsimp only at H)
  obtain ⟨t1714, A7, H⟩ := ob H
  by_cases c8 : t1714 = true
  ·subst c8
   rw [if_pos rfl] at H
   simp only [Option.some.injEq, Prod.mk.injEq] at H
   obtain ⟨rfl, rfl⟩ := H
   exact dec_Compare.leaf
  ·replace c8 := Bool.eq_false_iff.mpr c8
   subst c8
   rw [if_neg (show ¬ (false = true) by decide)] at H
   by_cases c32 : t1708 = true
   ·subst c32
    rw [if_pos rfl] at H
    simp only [Option.some.injEq, Prod.mk.injEq] at H
    obtain ⟨rfl, rfl⟩ := H
    exact dec_Compare.leaf
   ·replace c32 := Bool.eq_false_iff.mpr c32
    subst c32
    rw [if_neg (show ¬ (false = true) by decide)] at H
    simp only [Option.some.injEq, Prod.mk.injEq] at H
    obtain ⟨rfl, rfl⟩ := H
    exact dec_Compare.leaf
 ·rw [if_neg c4] at H
  have c4b0 : (t1702 == 0) = false := beq_eq_false_iff_ne.mpr c4
  have c4b1 : (t1702 != 0) = true := bne_iff_ne.mpr c4
  simp only [Option.some.injEq, Prod.mk.injEq] at H
  obtain ⟨rfl, rfl⟩ := H
  exact dec_Compare.leaf
end Go.Proofs.YtjbjkmccfocikaaGreatDoor.B

end

section
set_option linter.unusedVariables false
set_option linter.unusedSimpArgs false
namespace Go.Proofs.YtjbjkmccfocikaaGreatDoor.P
open Go.RowKit Go.Proofs.YtjbjkmccfocikaaGreatDoor.B Go.Proofs.YtjbjkmccfocikaaGreatDoorW.PrintWords Go.Proofs.YtjbjkmccfocikaaGreatDoorW.PrintLast Go.Proofs.YtjbjkmccfocikaaGreatDoorW.PrintMore Go.Proofs.YtjbjkmccfocikaaGreatDoor.P.Nm

def chr (d : Int) : UInt8 := UInt8.ofNat (48 + d.toNat)
theorem decT_list {n : Nat} (h : n ≠ 0) : (decT n).data.toList = (digs n).reverse.map chr := by
 unfold decT; rw [if_neg h]; rfl
theorem decT_size (n : Nat) : (decT n).size = if n = 0 then 1 else nd n := by
 by_cases h : n = 0
 ·subst h; rfl
 ·rw [if_neg h]
  show (decT n).data.size = _
  rw [← Array.length_toList, decT_list h]; simp [nd]
theorem zero_f (a : Bool) (n : Nat) (e : Int) : dec_number_zero.f a (limbs n) e = some (decide (n = 0)) := by
 unfold dec_number_zero.f
 congr 1
 by_cases h : n = 0
 ·subst h; rfl
 ·have : 0 < (limbs n).length := List.length_pos_iff.2 (limbs_ne h)
  rw [decide_eq_false h]
  exact beq_eq_false_iff_ne.2 (by omega)
theorem digits_tells {n : Nat} (h : (limbs n).length ≤ 256) : Tells (fun k => dec_digits.f k (limbs n)) (nd n : Int) := by
 unfold dec_digits.f
 refine (Print_tells h).bind ?_
 by_cases h0 : n = 0
 ·subst h0
  exact Tells.ifp rfl (Tells.pure _)
 ·have hl : 0 < (limbs n).length := List.length_pos_iff.2 (limbs_ne h0)
  refine Tells.ifn (by omega) ((Tells.pure _).val ?_)
  rw [decT_size, if_neg h0]
theorem ten_tells {n : Nat} (h : (limbs n).length ≤ 256) : Tells (fun k => dec_ten.f k (limbs n)) (limbs (n / 10), decide (n % 10 = 0)) := by
 unfold dec_ten.f
 have h10 : (limbs 10).length ≤ 256 := by decide +kernel
 refine (From_tells 10 (by omega)).bind ((Div_tells h h10).bind ((Tells.pure _).val ?_))
 rw [if_neg (by omega)]
 dsimp only
 congr 1
 by_cases h0 : n % 10 = 0
 ·rw [h0]; rfl
 ·have : 0 < (limbs (n % 10)).length := List.length_pos_iff.2 (limbs_ne h0)
  rw [decide_eq_false h0]
  exact beq_eq_false_iff_ne.2 (by omega)
theorem DCheck_tells (a : Bool) (l : List Int) (e : Int) (hd : Dg 4294967296 l) (hl : l.length ≤ 9223372036854775807) : Tells (fun k => dec_Check.f k a l e) (chk a l e) := by
 unfold dec_Check.f
 rw [Check_tells l hl]
 refine (Tells.pure _).bind ?_
 have bad : chk a l e = 9 → Tells (fun k => dec_Check.j0 k true a l e) (chk a l e) := fun h => by
  rw [h]
  refine Tells.succ ?_
  simp only [dec_Check.j0]
  exact Tells.ifp trivial (Tells.pure _)
 by_cases hc : chkL l = 0
 ·refine Tells.ifp hc ?_
  by_cases h40 : l.length ≤ 40
  ·rw [decide_eq_false (show ¬ ((l.length : Int) > 40) by omega)]
   have hok := (chkL_ok hd).1 hc
   obtain ⟨n, hn⟩ : ∃ n, num l = n := ⟨_, rfl⟩
   have hln : l = limbs n := by rw [← hn]; exact (limbs_num hok).symm
   have hchk : chk a l e = if okB ⟨a, n, e⟩ = true then 0 else 9 := by
    unfold chk
    rw [hn]
    by_cases h : okB ⟨a, n, e⟩ = true
    ·rw [if_pos ⟨hc, h40, h⟩, if_pos h]
    ·rw [if_neg (fun q => h q.2.2), if_neg h]
   rw [hchk]
   subst hln
   have h256 : (limbs n).length ≤ 256 := by omega
   unfold okB
   simp only
   refine Tells.succ ?_
   simp only [dec_Check.j0]
   refine Tells.ifn (by simp) ?_
   by_cases h0 : n = 0
   ·subst h0
    rw [if_pos rfl]
    refine Tells.ifp rfl ?_
    cases a
    ·refine Tells.ifn (by simp) ?_
     by_cases he : e = 0
     ·subst he; exact Tells.ifp rfl (Tells.pure _)
     ·refine Tells.ifn he ((Tells.pure _).val ?_)
      simp [he]
    ·exact Tells.ifp rfl (Tells.pure _)
   ·have hpos : 0 < (limbs n).length := List.length_pos_iff.2 (limbs_ne h0)
    rw [if_neg h0]
    refine Tells.ifn (by omega) ((ten_tells h256).bind ?_)
    dsimp only
    by_cases hz : n % 10 = 0
    ·rw [decide_eq_false (not_not_intro hz)]
     exact Tells.ifp (decide_eq_true hz) (Tells.pure _)
    ·rw [decide_eq_true hz]
     refine Tells.ifn (by simp [hz]) ((digits_tells h256).bind ?_)
     by_cases h3 : nd n ≤ 300
     ·rw [decide_eq_true h3]
      refine Tells.ifn (by omega) ?_
      by_cases h4 : e < -1000
      ·rw [decide_eq_false (show ¬ (-1000 ≤ e) by omega)]
       exact Tells.ifp h4 (Tells.pure _)
      ·rw [decide_eq_true (show -1000 ≤ e by omega)]
       refine Tells.ifn h4 ?_
       by_cases h5 : 1000 < e
       ·rw [decide_eq_false (show ¬ (e ≤ 1000) by omega)]
        exact Tells.ifp h5 (Tells.pure _)
       ·rw [decide_eq_true (show e ≤ 1000 by omega)]
        exact Tells.ifn h5 (Tells.pure _)
     ·rw [decide_eq_false h3]
      exact Tells.ifp (by omega) (Tells.pure _)
  ·rw [decide_eq_true (show ((l.length : Int) > 40) by omega)]
   exact bad (by unfold chk; rw [if_neg (fun q => h40 q.2.1)])
 ·exact Tells.ifn hc (bad (by unfold chk; rw [if_neg (fun q => hc q.1)]))
theorem ask1_tells (a : Bool) (l : List Int) (e : Int) (hd : Dg 4294967296 l) (hl : l.length ≤ 9223372036854775807) : Tells (fun k => dec_ask_1.f k a l e) (decide (chk a l e ≠ 0)) := by
 unfold dec_ask_1.f
 refine (DCheck_tells a l e hd hl).bind ((Tells.pure _).val ?_)
 by_cases h : chk a l e = 0 <;> simp [h]
theorem ask_tells (a : Bool) (l : List Int) (e : Int) (b : Bool) (m : List Int) (g : Int) (hd : Dg 4294967296 l) (hl : l.length ≤ 9223372036854775807) (hd2 : Dg 4294967296 m) (hl2 : m.length ≤ 9223372036854775807) : Tells (fun k => dec_ask.f k [⟨a, l, e⟩, ⟨b, m, g⟩]) (if chk a l e = 0 ∧ chk b m g = 0 then 0 else 9) := by
 have h1 : Tells (fun k => dec_ask_any.f k [⟨a, l, e⟩, ⟨b, m, g⟩]) (decide (¬ (chk a l e = 0 ∧ chk b m g = 0))) := by
  unfold dec_ask_any.f
  simp only [anyO]
  refine (ask1_tells a l e hd hl).bind ?_
  by_cases h : chk a l e = 0
  ·refine Tells.ifn (by simp [h]) ((ask1_tells b m g hd2 hl2).bind ?_)
   by_cases h2 : chk b m g = 0
   ·exact Tells.ifn (by simp [h2]) ((Tells.pure _).val (by simp [h, h2]))
   ·exact Tells.ifp (by simp [h2]) ((Tells.pure _).val (by simp [h, h2]))
  ·exact Tells.ifp (by simp [h]) ((Tells.pure _).val (by simp [h]))
 unfold dec_ask.f
 refine h1.bind ?_
 by_cases h : chk a l e = 0 ∧ chk b m g = 0
 ·rw [if_pos h]
  exact Tells.ifn (by simp [h]) (Tells.pure _)
 ·rw [if_neg h]
  exact Tells.ifp (decide_eq_true h) (Tells.pure _)
theorem ask_D (D E : Dm) (hD : OkD D) (hE : OkD E) : Tells (fun k => dec_ask.f k [⟨D.neg, limbs D.n, D.e⟩, ⟨E.neg, limbs E.n, E.e⟩]) 0 := by
 have h1 := okd_limbs hD
 have h2 := okd_limbs hE
 have := ask_tells D.neg (limbs D.n) D.e E.neg (limbs E.n) E.e (limbs_dg _) (by omega) (limbs_dg _) (by omega)
 rw [if_pos ⟨chk_of hD, chk_of hE⟩] at this
 exact this
theorem len_nd {n : Nat} (h : nd n ≤ 2304) : (limbs n).length ≤ 256 := limbs_len9 (by omega)
theorem down_tells (a : Bool) (n : Nat) (e x : Int) (hn : nd n ≤ 2304) (hx : x ≤ e) (he : e - x ≤ 2003) (he1 : -100000 ≤ x) (he2 : e ≤ 100000) (hs : nd (n * 10 ^ (e - x).toNat) ≤ 2304) : Tells (fun k => dec_number_down.f k a (limbs n) e x) (a, limbs (n * 10 ^ (e - x).toNat), x) := by
 unfold dec_number_down.f
 rw [zero_f]
 refine (Tells.pure _).bind ?_
 have same : ∀ m, m = n * 10 ^ (e - x).toNat → Tells (fun k => dec_number_down.j0 k x true a (limbs m) e) (a, limbs (n * 10 ^ (e - x).toNat), x) := fun m hm => by
  refine Tells.succ ?_
  simp only [dec_number_down.j0]
  exact Tells.ifp trivial ((Tells.pure _).val (by rw [hm]))
 by_cases h0 : n = 0
 ·subst h0
  exact Tells.ifp (by rfl) (same 0 (by rw [Nat.zero_mul]))
 ·refine Tells.ifn (by simp [h0]) ?_
  by_cases hex : e = x
  ·subst hex
   have e1 : (e == e) = true := beq_self_eq_true e
   rw [e1]
   exact same n (by rw [Int.sub_self]; simp)
  ·have e1 : (e == x) = false := beq_eq_false_iff_ne.2 hex
   obtain ⟨d, hd⟩ : ∃ d : Nat, e - x = d := ⟨(e - x).toNat, by omega⟩
   rw [e1]
   refine Tells.succ ?_
   simp only [dec_number_down.j0]
   rw [hd, Int.toNat_natCast] at hs ⊢
   rw [w64c (by omega)]
   have hp : (limbs (10 ^ d)).length ≤ 256 := len_nd (by rw [nd_pow]; omega)
   have hm := Mul_tells (len_nd hn) hp
   rw [fit_of (len_nd hs)] at hm
   unfold dec_must.f
   exact Tells.ifn (by simp) ((Pow_tells d (by omega)).bind ((Tells.pure _).bind (hm.bind ((Tells.pure _).bind (Tells.pure _)))))
theorem plus_tells {A B : Dm} (hA : OkD A) (hB : OkD B) : Tells (fun k => dec_number_plus.f k A.neg (limbs A.n) A.e B.neg (limbs B.n) B.e) ((plusD A B).neg, limbs (plusD A B).n, (plusD A B).e) := by
 have d1 := hA.len; have d2 := hA.low; have d3 := hA.high
 have e1 := hB.len; have e2 := hB.low; have e3 := hB.high
 have hx := nd_shift_le A.n (A.e - min A.e B.e).toNat
 have hy := nd_shift_le B.n (B.e - min A.e B.e).toNat
 have hr := plusD_nd hA hB
 unfold dec_number_plus.f dec_must.f
 rw [mn_eq]
 refine (down_tells A.neg A.n A.e (min A.e B.e) (by omega) (by omega) (by omega) (by omega) (by omega) (by omega)).bind ?_
 refine (down_tells B.neg B.n B.e (min A.e B.e) (by omega) (by omega) (by omega) (by omega) (by omega) (by omega)).bind ?_
 unfold plusD sumS at *
 simp only at *
 generalize A.n * 10 ^ (A.e - min A.e B.e).toNat = x at *
 generalize B.n * 10 ^ (B.e - min A.e B.e).toNat = y at *
 have hx' : (limbs x).length ≤ 256 := len_nd (by omega)
 have hy' : (limbs y).length ≤ 256 := len_nd (by omega)
 by_cases h : A.neg = B.neg
 ·rw [if_pos h] at hr ⊢
  have ha := Add_tells hx' hy'
  rw [fit_of (len_nd (n := x + y) (by simp only at hr; omega))] at ha
  exact Tells.ifp (by rw [h]; simp) (ha.bind ((Tells.pure _).bind (Tells.pure _)))
 ·rw [if_neg h]
  refine Tells.ifn (by simpa using h) ((Compare_tells hx' hy').bind ?_)
  dsimp only
  by_cases hlt : x < y
  ·have hs := Sub_tells hy' hx'
   rw [if_neg (by omega)] at hs
   rw [if_pos hlt]
   exact Tells.ifp (by unfold cmpN; rw [if_pos hlt]; omega) (hs.bind ((Tells.pure _).bind (Tells.pure _)))
  ·have hs := Sub_tells hx' hy'
   rw [if_neg hlt] at hs
   rw [if_neg hlt]
   exact Tells.ifn (by unfold cmpN; rw [if_neg hlt]; split <;> omega) (hs.bind ((Tells.pure _).bind (Tells.pure _)))
theorem minus_f (A : Dm) : dec_number_minus.f A.neg (limbs A.n) A.e = some ((negD A).neg, limbs A.n, A.e) := by
 unfold dec_number_minus.f negD
 rw [zero_f]
 cases A.neg
 ·rw [if_neg (by simp), Option.bind_some]
  simp
 ·rw [if_pos rfl]; rfl
theorem DCompare (D E : Dm) (hD : OkD D) (hE : OkD E) : Tells (fun k => dec_Compare.f k D.neg (limbs D.n) D.e E.neg (limbs E.n) E.e) (cmpD D E, 0) := by
 unfold dec_Compare.f
 refine (ask_D D E hD hE).bind (Tells.ifp rfl ?_)
 rw [minus_f E]
 refine (Tells.pure _).bind ((plus_tells hD (negD_ok hE)).bind ?_)
 dsimp only
 rw [zero_f]
 refine (Tells.pure _).bind ?_
 unfold cmpD
 simp only
 by_cases h : (plusD D (negD E)).n = 0
 ·rw [if_pos h]
  exact Tells.ifp (by simp [h]) (Tells.pure _)
 ·rw [if_neg h]
  refine Tells.ifn (by simp [h]) ?_
  cases (plusD D (negD E)).neg
  ·exact Tells.ifn (by simp) (Tells.pure _)
  ·exact Tells.ifp rfl (Tells.pure _)
end Go.Proofs.YtjbjkmccfocikaaGreatDoor.P

end

section
namespace Go.Proofs.YtjbjkmccfocikaaGreatDoor.B
open Go.RowKit Go.Proofs.YtjbjkmccfocikaaGreatDoorW.PrintWords Go.Proofs.YtjbjkmccfocikaaGreatDoorW.PrintLast Go.Proofs.YtjbjkmccfocikaaGreatDoorW.PrintMore
attribute [local go_sem] max2_int min2_int max_two min_two max_three min_three max_four min_four   -- for this text's walks alone
set_option linter.unusedVariables false
set_option linter.unusedSimpArgs false

def bolterlaw02_num.f (a0 : Int) : Option (Int) := some a0
set_option maxHeartbeats 8000000 in
set_option maxRecDepth 100000 in
theorem bolterlaw02_num.calls (a0 : Int) (r : Int) (w : World) (h : bolterlaw02_num.f a0 = some r) :
  Calls Tryz.prog 47 #[.int .i64 a0] w fun e w' => e = .returned (.int .i64 r) ∧ Drawn0 w w' := by
 have H : (some a0) = some r := h
 clear h
 obtain rfl := Option.some.inj H
 go_enter Tryz.func47, Tryz.ntmps47
 go_wp2
 go_ret
 exact ⟨by first | rfl | (simp; done) | (simp [*]; done), by repeat (first | exact Drawn0.refl _ | apply Drawn0.step)⟩
def dec_decimal.f (k : Nat) (a0 : Int) : Option (ByteArray) := (nat_From.f k (IntKind.u64.wrap (mx a0 (wrap64 (-a0))))).bind fun t1559 => ((nat_Print.f k t1559).bind fun bt1562 => ((dec_must2.f bt1562.1 bt1562.2).bind fun t1564 => (some t1564)))
set_option maxHeartbeats 8000000 in
set_option maxRecDepth 100000 in
theorem dec_decimal.calls (k : Nat) (a0 : Int) (r : ByteArray) (w : World) (h : dec_decimal.f k a0 = some r) :
  Calls Tryz.prog 170 #[.int .i64 a0] w fun e w' => e = .returned (.string r) ∧ Below w.heap.size w w' := by
 have HB := am (Below.refl w.heap.size w)
 have H : ((nat_From.f k (IntKind.u64.wrap (mx a0 (wrap64 (-a0))))).bind fun t1559 => ((nat_Print.f k t1559).bind fun bt1562 => ((dec_must2.f bt1562.1 bt1562.2).bind fun t1564 => (some t1564)))) = some r := h
 clear h
 obtain ⟨ji2, hji2⟩ : ∃ j_ : Int, (mx a0 (wrap64 (-a0))) = j_ := ⟨_, rfl⟩
 replace H : ((nat_From.f k (IntKind.u64.wrap (ji2))).bind fun t1559 => ((nat_Print.f k t1559).bind fun bt1562 => ((dec_must2.f bt1562.1 bt1562.2).bind fun t1564 => (some t1564)))) = some r := by first | (rw [hji2] at H; exact H) | (simp only [hji2] at H ⊢; exact H)
 have hji2_ : (if a0 < (wrap64 (-a0)) then (wrap64 (-a0)) else a0) = ji2 := hji2
 obtain ⟨t1559, A3, H⟩ := ob H
 obtain ⟨⟨t1562, t1563⟩, A4, H⟩ := ob H; (try dsimp only at H)
 obtain ⟨t1564, A5, H⟩ := ob H
 obtain rfl := Option.some.inj H
 go_enter Tryz.func170, Tryz.ntmps170
 go_wp2_with (first | ((with_reducible refine gate_callee (f := 76) rfl ?_); refine goesL_ (some 8) rfl rfl Tryz.func76 (by kernel_rfl) rfl #[.int .u64 (IntKind.u64.wrap (ji2))] rfl (by (try simp only [List.map_toArray, List.map_cons, List.map_nil]); first | done | (simp only [hji2]; rfl) | rfl | (simp only [List.length_drop, List.length_take]; rfl)) ?_; (with_reducible refine (nat_From.calls k (IntKind.u64.wrap (ji2)) t1559 _ A3.out).mono ?_); rintro e w6 ⟨v1560, rfl, ho0, hb⟩; refine ⟨_, rfl, ?_⟩; have HO1561 := am (Kd.R_lower ho0 (below_size pB)); replace HB := am (below_step pB hb); (try clear hb); (try clear hb2); (try clear hk); (try clear hi); (try clear ho0); obtain ⟨Ao7, co7, eo7⟩ := Kd.R_slice HO1561.out; subst eo7) | (refine gL (some 9) Tryz.func112 #[.slice Ao7 t1559.length co7] (h := ?_); (with_reducible refine (nat_Print.calls k (fun k_ => some k_ = (.slice Ao7 t1559.length co7 : Value).ownBlock) _ _ t1559 t1562 t1563 _ ?side1 A4.out).mono ?_); (case side1 => exact Kd.R_V (Kd.R_tight rfl (HO1561.out))); rintro e w8 ⟨rfl, hb⟩; refine ⟨_, rfl, ?_⟩; replace HO1561 := am (Kd.R_below (Kd.R_below HO1561.out pl) hb); replace HB := am (below_step pB hb); (try clear hb); (try clear hb2); (try clear hk); (try clear hi)) | (refine gL (some 12) Tryz.func111 #[.string t1562, .int .i64 t1563] (h := ?_); (with_reducible refine (dec_must2.calls t1562 t1563 t1564 _ A5.out).mono ?_); rintro e w' ⟨rfl, ⟨nd, rfl⟩⟩; refine ⟨_, rfl, ?_⟩))
 go_ret
 exact ⟨by first | rfl | (simp [errW_none, errW_some] <;> rfl) | (simp only [← hji2]; first | rfl | (simp [errW_none, errW_some] <;> rfl)) | (simp [*, errW_none, errW_some] <;> rfl), pB⟩
def dec_far.j0 : Nat → Int → ByteArray → Option (ByteArray)
 | 0, _, _ => none
 | k + 1, x1, x5 => if x1 < 0 then (if x5.size + 2 ≤ 9223372036854775807 then ((dec_decimal.f k x1).bind fun t1565 => (if (x5 ++ (⟨#[101, 45]⟩ : ByteArray)).size + t1565.size ≤ 9223372036854775807 then (some ((x5 ++ (⟨#[101, 45]⟩ : ByteArray)) ++ t1565)) else (none))) else (none)) else (if x5.size + 2 ≤ 9223372036854775807 then ((dec_decimal.f k x1).bind fun t1566 => (if (x5 ++ (⟨#[101, 43]⟩ : ByteArray)).size + t1566.size ≤ 9223372036854775807 then (some ((x5 ++ (⟨#[101, 43]⟩ : ByteArray)) ++ t1566)) else (none))) else (none))
def dec_far.f (k : Nat) (a0 : ByteArray) (a1 : Int) : Option (ByteArray) := if 0 ≤ 1 then (if 1 ≤ (a0.size : Int) then (if (a0.size : Int) > 1 then (if 1 + (a0.extract 1 a0.size).size ≤ 9223372036854775807 then (if (a0.extract 0 1).size + ((⟨#[46]⟩ : ByteArray) ++ (a0.extract 1 a0.size)).size ≤ 9223372036854775807 then (dec_far.j0 k a1 ((a0.extract 0 1) ++ ((⟨#[46]⟩ : ByteArray) ++ (a0.extract 1 a0.size)))) else (none)) else (none)) else (dec_far.j0 k a1 (a0.extract 0 1))) else (none)) else (none)
set_option maxHeartbeats 8000000 in
set_option maxRecDepth 100000 in
theorem dec_far.calls (k : Nat) (a0 : ByteArray) (a1 : Int) (r : ByteArray) (w : World) (h : dec_far.f k a0 a1 = some r) :
  Calls Tryz.prog 145 #[.string a0, .int .i64 a1] w fun e w' => e = .returned (.string r) ∧ Below w.heap.size w w' := by
 have HB := am (Below.refl w.heap.size w)
 have H : (if 0 ≤ 1 then (if 1 ≤ (a0.size : Int) then (if (a0.size : Int) > 1 then (if 1 + (a0.extract 1 a0.size).size ≤ 9223372036854775807 then (if (a0.extract 0 1).size + ((⟨#[46]⟩ : ByteArray) ++ (a0.extract 1 a0.size)).size ≤ 9223372036854775807 then (dec_far.j0 k a1 ((a0.extract 0 1) ++ ((⟨#[46]⟩ : ByteArray) ++ (a0.extract 1 a0.size)))) else (none)) else (none)) else (dec_far.j0 k a1 (a0.extract 0 1))) else (none)) else (none)) = some r := h
 clear h
 by_cases c3 : 0 ≤ 1
 ·rw [if_pos c3] at H
  have c3b0 := eq_true c3
  have c3b1 : decide (0 ≤ 1) = true := decide_eq_true c3
  clear c3
  by_cases c4 : 1 ≤ (a0.size : Int)
  ·rw [if_pos c4] at H
   have c4b0 := eq_true c4
   have c4b1 : decide (1 ≤ (a0.size : Int)) = true := decide_eq_true c4
   clear c4
   have HC5 := am H
   clear H
   go_enter Tryz.func145, Tryz.ntmps145
   go_upto_if 10 with (fail)
   go_cut [5] (fun v5 wc => ∃ (kq : Nat) (x5_4 : ByteArray), v5 = .string x5_4 ∧ Aside0 (dec_far.j0 kq a1 x5_4 = some r) ∧ Aside0 (kq ≤ k) ∧ Aside0 (Below w.heap.size w wc))
   case first =>
    have H := HC5.out
    clear HC5
    by_cases c6 : (a0.size : Int) > 1
    ·rw [if_pos c6] at H
     have c6b0 : decide (1 < (a0.size : Int)) = true := decide_eq_true c6
     have c6b1 : decide (1 < a0.size) = true := decide_eq_true (by omega)
     clear c6
     (first | rw [c6b0] | (simp only [i64_w, i32_w]; rw [c6b0]) | skip)
     have c7b0 := eq_true (of_decide_eq_true pQ : 1 ≤ (a0.size : Int))
     by_cases c8 : 1 + (a0.extract 1 a0.size).size ≤ 9223372036854775807
     ·rw [if_pos c8] at H
      have c8b0 := eq_true c8
      have c8b1 : decide (1 + (a0.extract 1 a0.size).size ≤ 9223372036854775807) = true := decide_eq_true c8
      try have c8b2 : (9223372036854775807 < 1 + (a0.extract 1 a0.size).size) = False := eq_false (Nat.not_lt.2 c8)
      try have c8b3 : (9223372036854775807 < 1 + (a0.size - 1)) = False := eq_false (Nat.not_lt.2 (by have q_ := c8; (try have h0_ := of_decide_eq_true c3b1); (try have h1_ := of_decide_eq_true c4b1); simp only [ByteArray.size_append, ByteArray.size_extract] at q_; omega))
      by_cases c9 : (a0.extract 0 1).size + ((⟨#[46]⟩ : ByteArray) ++ (a0.extract 1 a0.size)).size ≤ 9223372036854775807
      ·rw [if_pos c9] at H
       have c9b0 := eq_true c9
       have c9b1 : decide ((a0.extract 0 1).size + ((⟨#[46]⟩ : ByteArray) ++ (a0.extract 1 a0.size)).size ≤ 9223372036854775807) = true := decide_eq_true c9
       try have c9b2 : (9223372036854775807 < (a0.extract 0 1).size + ((⟨#[46]⟩ : ByteArray) ++ (a0.extract 1 a0.size)).size) = False := eq_false (Nat.not_lt.2 c9)
       try have c9b3 : (9223372036854775807 < 1 + (1 + ((a0.size - 1)))) = False := eq_false (Nat.not_lt.2 (by have q_ := c9; have l0_ : (⟨#[46]⟩ : ByteArray).size = 1 := rfl; (try have h0_ := of_decide_eq_true c3b1); (try have h1_ := of_decide_eq_true c4b1); (try have h2_ := of_decide_eq_true c8b1); simp only [ByteArray.size_append, ByteArray.size_extract] at q_; omega))
       try have c9b4 : (9223372036854775807 < min 1 a0.size + (1 + ((a0.size - 1)))) = False := eq_false (Nat.not_lt.2 (by have q_ := c9; have l0_ : (⟨#[46]⟩ : ByteArray).size = 1 := rfl; (try have h0_ := of_decide_eq_true c3b1); (try have h1_ := of_decide_eq_true c4b1); (try have h2_ := of_decide_eq_true c8b1); simp only [ByteArray.size_append, ByteArray.size_extract] at q_; omega))
       have H' := am H
       clear H
       go_wp2
       go_meet
       case rel => exact ⟨_, ((a0.extract 0 1) ++ ((⟨#[46]⟩ : ByteArray) ++ (a0.extract 1 a0.size))), (by first | rfl | (simp; done) | (simp [*]; done)), H', ⟨by first | omega | exact Nat.le_refl _⟩, ⟨pB⟩⟩
      ·rw [if_neg c9] at H
       exact absurd H (by simp)
     ·rw [if_neg c8] at H
      exact absurd H (by simp)
    ·rw [if_neg c6] at H
     have c6b0 : decide (1 < (a0.size : Int)) = false := decide_eq_false c6
     have c6b1 : decide (1 < a0.size) = false := decide_eq_false (by omega)
     clear c6
     (first | rw [c6b0] | (simp only [i64_w, i32_w]; rw [c6b0]) | skip)
     have H' := am H
     clear H
     go_wp2
     go_meet
     case rel => exact ⟨_, (a0.extract 0 1), (by first | rfl | (simp; done) | (simp [*]; done)), H', ⟨by first | omega | exact Nat.le_refl _⟩, ⟨pB⟩⟩
   case rest =>
    clear HC5
    (try clear c3); (try clear c3b0); (try clear c3b1); (try clear c4); (try clear c4b0); (try clear c4b1)
    obtain ⟨kq, x5_4, rfl, HA, HJ4, HB⟩ := hcut
    cases kq with
    | zero => exact absurd HA.out (by simp [dec_far.j0])
    | succ kj4 =>
     have H := HA.out
     clear HA
     simp only [dec_far.j0] at H
     by_cases c10 : a1 < 0
     ·rw [if_pos c10] at H
      have c10b0 : decide (a1 < 0) = true := decide_eq_true c10
      clear c10
      by_cases c11 : x5_4.size + 2 ≤ 9223372036854775807
      ·rw [if_pos c11] at H
       have c11b0 := eq_true c11
       have c11b1 : decide (x5_4.size + 2 ≤ 9223372036854775807) = true := decide_eq_true c11
       try have c11b2 : (9223372036854775807 < x5_4.size + 2) = False := eq_false (Nat.not_lt.2 c11)
       obtain ⟨t1565, A12, H⟩ := ob H
       by_cases c13 : (x5_4 ++ (⟨#[101, 45]⟩ : ByteArray)).size + t1565.size ≤ 9223372036854775807
       ·rw [if_pos c13] at H
        have c13b0 := eq_true c13
        have c13b1 : decide ((x5_4 ++ (⟨#[101, 45]⟩ : ByteArray)).size + t1565.size ≤ 9223372036854775807) = true := decide_eq_true c13
        try have c13b2 : (9223372036854775807 < (x5_4 ++ (⟨#[101, 45]⟩ : ByteArray)).size + t1565.size) = False := eq_false (Nat.not_lt.2 c13)
        try have c13b3 : (9223372036854775807 < x5_4.size + 2 + t1565.size) = False := eq_false (Nat.not_lt.2 (by have q_ := c13; have l0_ : (⟨#[101, 45]⟩ : ByteArray).size = 2 := rfl; (try have h0_ := of_decide_eq_true c11b1); simp only [ByteArray.size_append, ByteArray.size_extract] at q_; omega))
        obtain rfl := Option.some.inj H
        go_wp2_with (first | (refine gL (some 21) Tryz.func170 #[.int .i64 a1] (h := ?_); (with_reducible refine (dec_decimal.calls kj4 a1 t1565 _ A12.out).mono ?_); rintro e w14 ⟨rfl, hb⟩; refine ⟨_, rfl, ?_⟩; replace HB := am (below_step pB hb); (try clear hb); (try clear hb2); (try clear hk); (try clear hi)))
        go_ret
        exact ⟨pE, pB⟩
       ·rw [if_neg c13] at H
        exact absurd H (by simp)
      ·rw [if_neg c11] at H
       exact absurd H (by simp)
     ·rw [if_neg c10] at H
      have c10b0 : decide (a1 < 0) = false := decide_eq_false c10
      clear c10
      by_cases c15 : x5_4.size + 2 ≤ 9223372036854775807
      ·rw [if_pos c15] at H
       have c15b0 := eq_true c15
       have c15b1 : decide (x5_4.size + 2 ≤ 9223372036854775807) = true := decide_eq_true c15
       try have c15b2 : (9223372036854775807 < x5_4.size + 2) = False := eq_false (Nat.not_lt.2 c15)
       obtain ⟨t1566, A16, H⟩ := ob H
       by_cases c17 : (x5_4 ++ (⟨#[101, 43]⟩ : ByteArray)).size + t1566.size ≤ 9223372036854775807
       ·rw [if_pos c17] at H
        have c17b0 := eq_true c17
        have c17b1 : decide ((x5_4 ++ (⟨#[101, 43]⟩ : ByteArray)).size + t1566.size ≤ 9223372036854775807) = true := decide_eq_true c17
        try have c17b2 : (9223372036854775807 < (x5_4 ++ (⟨#[101, 43]⟩ : ByteArray)).size + t1566.size) = False := eq_false (Nat.not_lt.2 c17)
        try have c17b3 : (9223372036854775807 < x5_4.size + 2 + t1566.size) = False := eq_false (Nat.not_lt.2 (by have q_ := c17; have l0_ : (⟨#[101, 43]⟩ : ByteArray).size = 2 := rfl; (try have h0_ := of_decide_eq_true c11b1); (try have h1_ := of_decide_eq_true c13b1); (try have h2_ := of_decide_eq_true c15b1); simp only [ByteArray.size_append, ByteArray.size_extract] at q_; omega))
        obtain rfl := Option.some.inj H
        go_wp2_with (first | (refine gL (some 26) Tryz.func170 #[.int .i64 a1] (h := ?_); (with_reducible refine (dec_decimal.calls kj4 a1 t1566 _ A16.out).mono ?_); rintro e w18 ⟨rfl, hb⟩; refine ⟨_, rfl, ?_⟩; replace HB := am (below_step pB hb); (try clear hb); (try clear hb2); (try clear hk); (try clear hi)))
        go_ret
        exact ⟨pE, pB⟩
       ·rw [if_neg c17] at H
        exact absurd H (by simp)
      ·rw [if_neg c15] at H
       exact absurd H (by simp)
  ·rw [if_neg c4] at H
   exact absurd H (by simp)
 ·rw [if_neg c3] at H
  exact absurd H (by simp)
end Go.Proofs.YtjbjkmccfocikaaGreatDoor.B

end

section
set_option linter.unusedVariables false
set_option linter.unusedSimpArgs false
namespace Go.Proofs.YtjbjkmccfocikaaGreatDoor.B
open Go.RowKit Go.Shelf Go.Proofs.YtjbjkmccfocikaaGreatDoorW.PrintWords

def strings_Repeat.f (a0 : ByteArray) (a1 : Int) : Option ByteArray := if 0 ≤ a1 ∧ a1 ≤ 9223372036854775807 ∧ a0.size * a1.toNat ≤ 140737488355328 then some ⟨(Lib.repeatL a0.data.toList a1.toNat).toArray⟩ else none
theorem strings_Repeat.calls (a0 : ByteArray) (a1 : Int) (r : ByteArray) (w : World) (h : strings_Repeat.f a0 a1 = some r) :
  Calls Tryz.prog 146 #[.string a0, .int .i64 a1] w fun e w' => e = .returned (.string r) ∧ Below w.heap.size w w' := by
 unfold strings_Repeat.f at h
 split at h
 ·obtain rfl := Option.some.inj h
  have hc : 0 ≤ a1 ∧ a1 ≤ 9223372036854775807 ∧ a0.size * a1.toNat ≤ 140737488355328 := by assumption
  obtain ⟨n, rfl⟩ := Int.eq_ofNat_of_zero_le hc.1
  exact Tryz.strings_Repeat a0 n w (by omega) (by simpa using hc.2.2)
 ·cases h
theorem add_at (b o j : Nat) : (⟨b, o, none⟩ : Addr).add j = ⟨b, o + j, none⟩ := by unfold Addr.add; split <;> simp_all
end Go.Proofs.YtjbjkmccfocikaaGreatDoor.B

end

section
namespace Go.Proofs.YtjbjkmccfocikaaGreatDoor.B
open Go.RowKit Go.Proofs.YtjbjkmccfocikaaGreatDoorW.PrintWords Go.Proofs.YtjbjkmccfocikaaGreatDoorW.PrintLast Go.Proofs.YtjbjkmccfocikaaGreatDoorW.PrintMore
attribute [local go_sem] max2_int min2_int max_two min_two max_three min_three max_four min_four   -- for this text's walks alone
set_option linter.unusedVariables false
set_option linter.unusedSimpArgs false

def dec_place.j0 : Nat → ByteArray → Int → Bool → Option (ByteArray)
 | 0, _, _, _ => none
 | k + 1, x0, x1, x5 => if x5 = true then ((dec_far.f k x0 (wrap64 (x1 - 1))).bind fun t1567 => (some t1567)) else (if x1 < 1 then ((strings_Repeat.f (⟨#[48]⟩ : ByteArray) (wrap64 (-x1))).bind fun t1568 => (if 2 + t1568.size ≤ 9223372036854775807 then (if ((⟨#[48, 46]⟩ : ByteArray) ++ t1568).size + x0.size ≤ 9223372036854775807 then (some (((⟨#[48, 46]⟩ : ByteArray) ++ t1568) ++ x0)) else (none)) else (none))) else (if x1 < (x0.size : Int) then (if 0 ≤ x1 then (if x1 ≤ (x0.size : Int) then (if (x0.extract 0 (x1 : Int).toNat).size + 1 ≤ 9223372036854775807 then (if ((x0.extract 0 (x1 : Int).toNat) ++ (⟨#[46]⟩ : ByteArray)).size + (x0.extract (x1 : Int).toNat x0.size).size ≤ 9223372036854775807 then (some (((x0.extract 0 (x1 : Int).toNat) ++ (⟨#[46]⟩ : ByteArray)) ++ (x0.extract (x1 : Int).toNat x0.size))) else (none)) else (none)) else (none)) else (none)) else ((strings_Repeat.f (⟨#[48]⟩ : ByteArray) (wrap64 (x1 - (x0.size : Int)))).bind fun t1569 => (if x0.size + t1569.size ≤ 9223372036854775807 then (some (x0 ++ t1569)) else (none)))))
def dec_place.f (k : Nat) (a0 : ByteArray) (a1 : Int) : Option (ByteArray) := if a1 < (-5) then (dec_place.j0 k a0 a1 true) else (dec_place.j0 k a0 a1 (decide (a1 > 21)))
set_option maxHeartbeats 8000000 in
set_option maxRecDepth 100000 in
theorem dec_place.calls (k : Nat) (a0 : ByteArray) (a1 : Int) (r : ByteArray) (w : World) (h : dec_place.f k a0 a1 = some r) :
  Calls Tryz.prog 113 #[.string a0, .int .i64 a1] w fun e w' => e = .returned (.string r) ∧ Below w.heap.size w w' := by
 have HB := am (Below.refl w.heap.size w)
 have H : (if a1 < (-5) then (dec_place.j0 k a0 a1 true) else (dec_place.j0 k a0 a1 (decide (a1 > 21)))) = some r := h
 clear h
 have HC3 := am H
 clear H
 go_enter Tryz.func113, Tryz.ntmps113
 go_upto_region 1 with (fail)
 repeat (go_quiet (fail); go_upto_region 1 with (fail))
 go_cut [5] (fun v5 wc => ∃ (kq : Nat) (x5_2 : Bool), v5 = .bool x5_2 ∧ Aside0 (dec_place.j0 kq a0 a1 x5_2 = some r) ∧ Aside0 (kq ≤ k) ∧ Aside0 (Below w.heap.size w wc))
 case first =>
  have H := HC3.out
  clear HC3
  by_cases c4 : a1 < (-5)
  ·rw [if_pos c4] at H
   have c4b0 : decide (a1 < (-5)) = true := decide_eq_true c4
   clear c4
   (first | rw [c4b0] | (simp only [i64_w, i32_w]; rw [c4b0]) | skip)
   have H' := am H
   clear H
   go_wp2
   repeat (go_quiet (fail); try go_wp2)
   go_meet
   case rel => exact ⟨_, (true), (by first | rfl | (simp; done) | (simp [*]; done)), H', ⟨by first | omega | exact Nat.le_refl _⟩, ⟨pB⟩⟩
  ·rw [if_neg c4] at H
   have c4b0 : decide (a1 < (-5)) = false := decide_eq_false c4
   clear c4
   (first | rw [c4b0] | (simp only [i64_w, i32_w]; rw [c4b0]) | skip)
   have H' := am H
   clear H
   go_wp2
   repeat (go_quiet (fail); try go_wp2)
   go_meet
   case rel => exact ⟨_, (decide (a1 > 21)), (by first | rfl | (simp; done) | (simp [*]; done)), H', ⟨by first | omega | exact Nat.le_refl _⟩, ⟨pB⟩⟩
 case rest =>
  clear HC3
  obtain ⟨kq, x5_2, rfl, HA, HJ2, HB⟩ := hcut
  cases kq with
  | zero => exact absurd HA.out (by simp [dec_place.j0])
  | succ kj2 =>
   have H := HA.out
   clear HA
   simp only [dec_place.j0] at H
   by_cases c5 : x5_2 = true
   ·subst c5
    rw [if_pos rfl] at H
    obtain ⟨t1567, A6, H⟩ := ob H
    obtain rfl := Option.some.inj H
    go_wp2_with (first | (go_at_call 145; (with_reducible refine (dec_far.calls kj2 a0 (wrap64 (a1 - 1)) t1567 _ A6.out).mono ?_); rintro e w7 ⟨rfl, hb⟩; replace HB := am (below_step pB hb); (try clear hb); (try clear hb2); (try clear hk); (try clear hi)))
    repeat (go_quiet (first | (go_at_call 145; (with_reducible refine (dec_far.calls kj2 a0 (wrap64 (a1 - 1)) t1567 _ A6.out).mono ?_); rintro e w7 ⟨rfl, hb⟩; replace HB := am (below_step pB hb); (try clear hb); (try clear hb2); (try clear hk); (try clear hi))); try go_wp2_with (first | (go_at_call 145; (with_reducible refine (dec_far.calls kj2 a0 (wrap64 (a1 - 1)) t1567 _ A6.out).mono ?_); rintro e w7 ⟨rfl, hb⟩; replace HB := am (below_step pB hb); (try clear hb); (try clear hb2); (try clear hk); (try clear hi))))
    go_ret
    exact ⟨pE, pB⟩
   ·replace c5 := Bool.eq_false_iff.mpr c5
    subst c5
    rw [if_neg (show ¬ (false = true) by decide)] at H
    by_cases c8 : a1 < 1
    ·rw [if_pos c8] at H
     have c8b0 : decide (a1 < 1) = true := decide_eq_true c8
     clear c8
     obtain ⟨t1568, A9, H⟩ := ob H
     by_cases c10 : 2 + t1568.size ≤ 9223372036854775807
     ·rw [if_pos c10] at H
      have c10b0 := eq_true c10
      have c10b1 : decide (2 + t1568.size ≤ 9223372036854775807) = true := decide_eq_true c10
      try have c10b2 : (9223372036854775807 < 2 + t1568.size) = False := eq_false (Nat.not_lt.2 c10)
      by_cases c11 : ((⟨#[48, 46]⟩ : ByteArray) ++ t1568).size + a0.size ≤ 9223372036854775807
      ·rw [if_pos c11] at H
       have c11b0 := eq_true c11
       have c11b1 : decide (((⟨#[48, 46]⟩ : ByteArray) ++ t1568).size + a0.size ≤ 9223372036854775807) = true := decide_eq_true c11
       try have c11b2 : (9223372036854775807 < ((⟨#[48, 46]⟩ : ByteArray) ++ t1568).size + a0.size) = False := eq_false (Nat.not_lt.2 c11)
       try have c11b3 : (9223372036854775807 < 2 + t1568.size + a0.size) = False := eq_false (Nat.not_lt.2 (by have q_ := c11; have l0_ : (⟨#[48, 46]⟩ : ByteArray).size = 2 := rfl; (try have h0_ := of_decide_eq_true c10b1); simp only [ByteArray.size_append, ByteArray.size_extract] at q_; omega))
       obtain rfl := Option.some.inj H
       go_wp2_with (first | (go_at_call 146; (with_reducible refine (strings_Repeat.calls (⟨#[48]⟩ : ByteArray) (wrap64 (-a1)) t1568 _ A9.out).mono ?_); rintro e w12 ⟨rfl, hb⟩; replace HB := am (below_step pB hb); (try clear hb); (try clear hb2); (try clear hk); (try clear hi)))
       repeat (go_quiet (first | (go_at_call 146; (with_reducible refine (strings_Repeat.calls (⟨#[48]⟩ : ByteArray) (wrap64 (-a1)) t1568 _ A9.out).mono ?_); rintro e w12 ⟨rfl, hb⟩; replace HB := am (below_step pB hb); (try clear hb); (try clear hb2); (try clear hk); (try clear hi))); try go_wp2_with (first | (go_at_call 146; (with_reducible refine (strings_Repeat.calls (⟨#[48]⟩ : ByteArray) (wrap64 (-a1)) t1568 _ A9.out).mono ?_); rintro e w12 ⟨rfl, hb⟩; replace HB := am (below_step pB hb); (try clear hb); (try clear hb2); (try clear hk); (try clear hi))))
       go_ret
       exact ⟨pE, pB⟩
      ·rw [if_neg c11] at H
       exact absurd H (by simp)
     ·rw [if_neg c10] at H
      exact absurd H (by simp)
    ·rw [if_neg c8] at H
     have c8b0 : decide (a1 < 1) = false := decide_eq_false c8
     clear c8
     by_cases c13 : a1 < (a0.size : Int)
     ·rw [if_pos c13] at H
      have c13b0 : decide (a1 < (a0.size : Int)) = true := decide_eq_true c13
      clear c13
      by_cases c14 : 0 ≤ a1
      ·rw [if_pos c14] at H
       have c14b0 := eq_true c14
       have c14b1 : decide (0 ≤ a1) = true := decide_eq_true c14
       clear c14
       by_cases c15 : a1 ≤ (a0.size : Int)
       ·rw [if_pos c15] at H
        have c15b0 := eq_true c15
        have c15b1 : decide (a1 ≤ (a0.size : Int)) = true := decide_eq_true c15
        clear c15
        by_cases c16 : (a0.extract 0 (a1 : Int).toNat).size + 1 ≤ 9223372036854775807
        ·rw [if_pos c16] at H
         have c16b0 := eq_true c16
         have c16b1 : decide ((a0.extract 0 (a1 : Int).toNat).size + 1 ≤ 9223372036854775807) = true := decide_eq_true c16
         try have c16b2 : (9223372036854775807 < (a0.extract 0 (a1 : Int).toNat).size + 1) = False := eq_false (Nat.not_lt.2 c16)
         try have c16b3 : (9223372036854775807 < (a1 : Int).toNat + 1) = False := eq_false (Nat.not_lt.2 (by have q_ := c16; (try have h0_ := of_decide_eq_true c10b1); (try have h1_ := of_decide_eq_true c11b1); (try have h2_ := of_decide_eq_true c14b1); (try have h3_ := of_decide_eq_true c15b1); simp only [ByteArray.size_append, ByteArray.size_extract] at q_; omega))
         have c17b0 := eq_true (of_decide_eq_true pQ : 0 ≤ a1)
         have c18b0 := eq_true (of_decide_eq_true pQ : a1 ≤ (a0.size : Int))
         by_cases c19 : ((a0.extract 0 (a1 : Int).toNat) ++ (⟨#[46]⟩ : ByteArray)).size + (a0.extract (a1 : Int).toNat a0.size).size ≤ 9223372036854775807
         ·rw [if_pos c19] at H
          have c19b0 := eq_true c19
          have c19b1 : decide (((a0.extract 0 (a1 : Int).toNat) ++ (⟨#[46]⟩ : ByteArray)).size + (a0.extract (a1 : Int).toNat a0.size).size ≤ 9223372036854775807) = true := decide_eq_true c19
          try have c19b2 : (9223372036854775807 < ((a0.extract 0 (a1 : Int).toNat) ++ (⟨#[46]⟩ : ByteArray)).size + (a0.extract (a1 : Int).toNat a0.size).size) = False := eq_false (Nat.not_lt.2 c19)
          try have c19b3 : (9223372036854775807 < (a1 : Int).toNat + 1 + (a0.size - (a1 : Int).toNat)) = False := eq_false (Nat.not_lt.2 (by have q_ := c19; have l0_ : (⟨#[46]⟩ : ByteArray).size = 1 := rfl; (try have h0_ := of_decide_eq_true c10b1); (try have h1_ := of_decide_eq_true c11b1); (try have h2_ := of_decide_eq_true c14b1); (try have h3_ := of_decide_eq_true c15b1); (try have h4_ := of_decide_eq_true c16b1); simp only [ByteArray.size_append, ByteArray.size_extract] at q_; omega))
          obtain rfl := Option.some.inj H
          go_wp2
          repeat (go_quiet (fail); try go_wp2)
          go_ret
          exact ⟨pE, pB⟩
         ·rw [if_neg c19] at H
          exact absurd H (by simp)
        ·rw [if_neg c16] at H
         exact absurd H (by simp)
       ·rw [if_neg c15] at H
        exact absurd H (by simp)
      ·rw [if_neg c14] at H
       exact absurd H (by simp)
     ·rw [if_neg c13] at H
      have c13b0 : decide (a1 < (a0.size : Int)) = false := decide_eq_false c13
      clear c13
      obtain ⟨t1569, A20, H⟩ := ob H
      by_cases c21 : a0.size + t1569.size ≤ 9223372036854775807
      ·rw [if_pos c21] at H
       have c21b0 := eq_true c21
       have c21b1 : decide (a0.size + t1569.size ≤ 9223372036854775807) = true := decide_eq_true c21
       try have c21b2 : (9223372036854775807 < a0.size + t1569.size) = False := eq_false (Nat.not_lt.2 c21)
       obtain rfl := Option.some.inj H
       go_wp2_with (first | (go_at_call 146; (with_reducible refine (strings_Repeat.calls (⟨#[48]⟩ : ByteArray) (wrap64 (a1 - (a0.size : Int))) t1569 _ A20.out).mono ?_); rintro e w22 ⟨rfl, hb⟩; replace HB := am (below_step pB hb); (try clear hb); (try clear hb2); (try clear hk); (try clear hi)))
       repeat (go_quiet (first | (go_at_call 146; (with_reducible refine (strings_Repeat.calls (⟨#[48]⟩ : ByteArray) (wrap64 (a1 - (a0.size : Int))) t1569 _ A20.out).mono ?_); rintro e w22 ⟨rfl, hb⟩; replace HB := am (below_step pB hb); (try clear hb); (try clear hb2); (try clear hk); (try clear hi))); try go_wp2_with (first | (go_at_call 146; (with_reducible refine (strings_Repeat.calls (⟨#[48]⟩ : ByteArray) (wrap64 (a1 - (a0.size : Int))) t1569 _ A20.out).mono ?_); rintro e w22 ⟨rfl, hb⟩; replace HB := am (below_step pB hb); (try clear hb); (try clear hb2); (try clear hk); (try clear hi))))
       go_ret
       exact ⟨pE, pB⟩
      ·rw [if_neg c21] at H
       exact absurd H (by simp)
def dec_Print.f (k : Nat) (a0_0 : Bool) (l0_1 : List Int) (a0_2 : Int) : Option (ByteArray × Int) := (dec_Check.f k a0_0 l0_1 a0_2).bind fun t1571 => (if t1571 = 0 then (if (l0_1.length : Int) = 0 then (some ((⟨#[48]⟩ : ByteArray), 0)) else ((nat_Print.f k l0_1).bind fun bt1572 => ((dec_must2.f bt1572.1 bt1572.2).bind fun t1574 => (if a0_0 = true then ((dec_place.f k t1574 (wrap64 ((t1574.size : Int) + a0_2))).bind fun t1575 => (if 1 + t1575.size ≤ 9223372036854775807 then (some ((⟨#[45]⟩ : ByteArray) ++ t1575, 0)) else (none))) else ((dec_place.f k t1574 (wrap64 ((t1574.size : Int) + a0_2))).bind fun t1576 => (if 0 + t1576.size ≤ 9223372036854775807 then (some ((⟨#[]⟩ : ByteArray) ++ t1576, 0)) else (none))))))) else (some ((⟨#[]⟩ : ByteArray), t1571)))
set_option maxRecDepth 100000 in
theorem dec_Print.leaf {P : Prop} (h : P := by
 go_enter Tryz.func56, Tryz.ntmps56
 go_wp2_with (first | ((with_reducible refine gate_dst (N := 1) rfl ?_); refine box_event ?hg (N := 1) ?hd (cs := #[.bool true, .slice A0_1 l0_1.length c0_1, .int .i64 a0_2]) (t := 24) ?hr ?_; (case hd => rfl); (case hg => rfl); (case hr => first | (go_simp; done) | (go_simp; rfl)); intro gb0z hg w1z hbox hb; have n0_ := am (below_step pB hb); have n1_ := am (hbox); have n2_ := am ((gw hg pB : w.heap.size ≤ gb0z)); have n3_ := am ((gw hg pB : w.heap.size ≤ gb0z)); clear HB; have HB := n0_; have BK2z := n1_; have GW3z := n2_; have GE4z := n3_; clear n0_ n1_ n2_ n3_ hb hbox hg; obtain ⟨hcz5z, hcz6z, hcz7z, hfz8z, hfz9z, hfz10z⟩ := cEc BK2z.out) | (refine gL (some 8) Tryz.func55 #[.agg #[.bool true, .slice A0_1 l0_1.length c0_1, .int .i64 a0_2]] (h := ?_); (with_reducible refine (dec_Check.calls k true _ _ l0_1 a0_2 t1571 _ ?side1 ?side2 A2.out).mono ?_); (case side1 => refine cp ?_; exact (Kd.C_below HR0_1.out HB.out)); (case side2 => exact HC0_1.out); rintro e w11z ⟨rfl, hb⟩; refine ⟨_, rfl, ?_⟩; replace BK2z := am (blk_below (blk_below BK2z.out pl) hb); replace HB := am (below_step pB hb); (try clear hb); (try clear hb12z); (try clear hk); (try clear hi); obtain ⟨hcz13z, hcz14z, hcz15z, hfz16z, hfz17z, hfz18z⟩ := cEc BK2z.out) | (refine gL (some 18) Tryz.func112 #[.slice A0_1 l0_1.length c0_1] (h := ?_); (with_reducible refine (nat_Print.calls k (fun k_ => k_ < w.heap.size) _ _ l0_1 t1572 t1573 _ ?side1 A9.out).mono ?_); (case side1 => exact Kd.V_mk HC0_1.out (Kd.F_below (Kd.C_F (Kd.heap_int .u32) HR0_1.out) pB)); rintro e w19z ⟨rfl, hb⟩; refine ⟨_, rfl, ?_⟩; replace BK2z := am (blk_below (blk_below BK2z.out pl) hb); replace HB := am (below_step pB hb); (try clear hb); (try clear hb12z); (try clear hk); (try clear hi)) | (refine gL (some 21) Tryz.func111 #[.string t1572, .int .i64 t1573] (h := ?_); (with_reducible refine (dec_must2.calls t1572 t1573 t1574 _ A10.out).mono ?_); rintro e w' ⟨rfl, ⟨nd, rfl⟩⟩; refine ⟨_, rfl, ?_⟩; obtain ⟨hcz20z, hcz21z, hcz22z, hfz23z, hfz24z, hfz25z⟩ := cEc BK2z.out) | (refine gL (some 31) Tryz.func113 #[.string t1574, .int .i64 (wrap64 ((t1574.size : Int) + a0_2))] (h := ?_); (with_reducible refine (dec_place.calls k t1574 (wrap64 ((t1574.size : Int) + a0_2)) t1575 _ A12.out).mono ?_); rintro e w26z ⟨rfl, hb⟩; refine ⟨_, rfl, ?_⟩; replace BK2z := am (blk_below (blk_below BK2z.out pl) hb); replace HB := am (below_step pB hb); (try clear hb); (try clear hb12z); (try clear hk); (try clear hi)) | ((with_reducible refine gate_dst (N := 1) rfl ?_); refine box_event ?hg (N := 1) ?hd (cs := #[.bool false, .slice A0_1 l0_1.length c0_1, .int .i64 a0_2]) (t := 24) ?hr ?_; (case hd => rfl); (case hg => rfl); (case hr => first | (go_simp; done) | (go_simp; rfl)); intro gb0z hg w1z hbox hb; have n0_ := am (below_step pB hb); have n1_ := am (hbox); have n2_ := am ((gw hg pB : w.heap.size ≤ gb0z)); have n3_ := am ((gw hg pB : w.heap.size ≤ gb0z)); clear HB; have HB := n0_; have BK2z := n1_; have GW3z := n2_; have GE4z := n3_; clear n0_ n1_ n2_ n3_ hb hbox hg; obtain ⟨hcz5z, hcz6z, hcz7z, hfz8z, hfz9z, hfz10z⟩ := cEc BK2z.out) | (refine gL (some 8) Tryz.func55 #[.agg #[.bool false, .slice A0_1 l0_1.length c0_1, .int .i64 a0_2]] (h := ?_); (with_reducible refine (dec_Check.calls k false _ _ l0_1 a0_2 t1571 _ ?side1 ?side2 A2.out).mono ?_); (case side1 => refine cp ?_; exact (Kd.C_below HR0_1.out HB.out)); (case side2 => exact HC0_1.out); rintro e w11z ⟨rfl, hb⟩; refine ⟨_, rfl, ?_⟩; replace BK2z := am (blk_below (blk_below BK2z.out pl) hb); replace HB := am (below_step pB hb); (try clear hb); (try clear hb12z); (try clear hk); (try clear hi); obtain ⟨hcz13z, hcz14z, hcz15z, hfz16z, hfz17z, hfz18z⟩ := cEc BK2z.out) | (refine gL (some 31) Tryz.func113 #[.string t1574, .int .i64 (wrap64 ((t1574.size : Int) + a0_2))] (h := ?_); (with_reducible refine (dec_place.calls k t1574 (wrap64 ((t1574.size : Int) + a0_2)) t1576 _ A21.out).mono ?_); rintro e w26z ⟨rfl, hb⟩; refine ⟨_, rfl, ?_⟩; replace BK2z := am (blk_below (blk_below BK2z.out pl) hb); replace HB := am (below_step pB hb); (try clear hb); (try clear hb12z); (try clear hk); (try clear hi)) | ((with_reducible refine gate_dst (N := 1) rfl ?_); refine box_event ?hg (N := 1) ?hd (cs := #[.bool a0_0, .slice A0_1 l0_1.length c0_1, .int .i64 a0_2]) (t := 24) ?hr ?_; (case hd => rfl); (case hg => rfl); (case hr => first | (go_simp; done) | (go_simp; rfl)); intro gb0z hg w1z hbox hb; have n0_ := am (below_step pB hb); have n1_ := am (hbox); have n2_ := am ((gw hg pB : w.heap.size ≤ gb0z)); have n3_ := am ((gw hg pB : w.heap.size ≤ gb0z)); clear HB; have HB := n0_; have BK2z := n1_; have GW3z := n2_; have GE4z := n3_; clear n0_ n1_ n2_ n3_ hb hbox hg; obtain ⟨hcz5z, hcz6z, hcz7z, hfz8z, hfz9z, hfz10z⟩ := cEc BK2z.out) | ((have q_ : ((l0_1.length : Int) != 0) = false := c4b1; clear q_); refine gL (some 8) Tryz.func55 #[.agg #[.bool a0_0, .slice A0_1 l0_1.length c0_1, .int .i64 a0_2]] (h := ?_); (with_reducible refine (dec_Check.calls k a0_0 _ _ l0_1 a0_2 t1571 _ ?side1 ?side2 A2.out).mono ?_); (case side1 => refine cp ?_; exact (Kd.C_below HR0_1.out HB.out)); (case side2 => exact HC0_1.out); rintro e w11z ⟨rfl, hb⟩; refine ⟨_, rfl, ?_⟩; replace BK2z := am (blk_below (blk_below BK2z.out pl) hb); replace HB := am (below_step pB hb); (try clear hb); (try clear hb12z); (try clear hk); (try clear hi); obtain ⟨hcz13z, hcz14z, hcz15z, hfz16z, hfz17z, hfz18z⟩ := cEc BK2z.out) | ((have q_ : (t1571 != 0) = true := c3b1; clear q_); refine gL (some 8) Tryz.func55 #[.agg #[.bool a0_0, .slice A0_1 l0_1.length c0_1, .int .i64 a0_2]] (h := ?_); (with_reducible refine (dec_Check.calls k a0_0 _ _ l0_1 a0_2 t1571 _ ?side1 ?side2 A2.out).mono ?_); (case side1 => refine cp ?_; exact (Kd.C_below HR0_1.out HB.out)); (case side2 => exact HC0_1.out); rintro e w11z ⟨rfl, hb⟩; refine ⟨_, rfl, ?_⟩; replace BK2z := am (blk_below (blk_below BK2z.out pl) hb); replace HB := am (below_step pB hb); (try clear hb); (try clear hb12z); (try clear hk); (try clear hi)))
 go_ret2
 exact ⟨pE, pB⟩) : P := h
set_option maxHeartbeats 8000000 in
set_option maxRecDepth 100000 in
theorem dec_Print.calls (k : Nat) (a0_0 : Bool) (A0_1 : Option Addr) (c0_1 : Nat) (l0_1 : List Int) (a0_2 : Int) (r1 : ByteArray) (r2 : Int) (w : World) (hr0_1 : Kd.C (Kd.int .u32) w A0_1 l0_1.length l0_1) (hc0_1 : l0_1.length ≤ c0_1) (h : dec_Print.f k a0_0 l0_1 a0_2 = some (r1, r2)) :
  Calls Tryz.prog 56 #[.agg #[.bool a0_0, .slice A0_1 l0_1.length c0_1, .int .i64 a0_2]] w fun e w' => e = .returned (.tuple #[.string r1, .int .i64 r2]) ∧ Below w.heap.size w w' := by
 have hu24 := Tryz.underlying24
 have HR0_1 := am hr0_1
 have HC0_1 := am hc0_1
 clear hr0_1 hc0_1
 have HB := am (Below.refl w.heap.size w)
 have H : ((dec_Check.f k a0_0 l0_1 a0_2).bind fun t1571 => (if t1571 = 0 then (if (l0_1.length : Int) = 0 then (some ((⟨#[48]⟩ : ByteArray), 0)) else ((nat_Print.f k l0_1).bind fun bt1572 => ((dec_must2.f bt1572.1 bt1572.2).bind fun t1574 => (if a0_0 = true then ((dec_place.f k t1574 (wrap64 ((t1574.size : Int) + a0_2))).bind fun t1575 => (if 1 + t1575.size ≤ 9223372036854775807 then (some ((⟨#[45]⟩ : ByteArray) ++ t1575, 0)) else (none))) else ((dec_place.f k t1574 (wrap64 ((t1574.size : Int) + a0_2))).bind fun t1576 => (if 0 + t1576.size ≤ 9223372036854775807 then (some ((⟨#[]⟩ : ByteArray) ++ t1576, 0)) else (none))))))) else (some ((⟨#[]⟩ : ByteArray), t1571)))) = some (r1, r2) := h
 clear h
 obtain ⟨t1571, A2, H⟩ := ob H
 by_cases c3 : t1571 = 0
 ·rw [if_pos c3] at H
  have c3b0 : (t1571 == 0) = true := beq_iff_eq.mpr c3
  have c3b1 : (t1571 != 0) = false := bne_eq_false_iff_eq.mpr c3
  clear c3
  by_cases c4 : (l0_1.length : Int) = 0
  ·rw [if_pos c4] at H
   have c4b0 : ((l0_1.length : Int) == 0) = true := beq_iff_eq.mpr c4
   have c4b1 : ((l0_1.length : Int) != 0) = false := bne_eq_false_iff_eq.mpr c4
   clear c4
   simp only [Option.some.injEq, Prod.mk.injEq] at H
   obtain ⟨rfl, rfl⟩ := H
   exact dec_Print.leaf
  ·rw [if_neg c4] at H
   have c4b0 : ((l0_1.length : Int) == 0) = false := beq_eq_false_iff_ne.mpr c4
   have c4b1 : ((l0_1.length : Int) != 0) = true := bne_iff_ne.mpr c4
   have c4b2 : ¬ (l0_1 = []) := fun h_ => c4 (by rw [h_]; rfl)
   obtain ⟨⟨t1572, t1573⟩, A9, H⟩ := ob H; (try dsimp only at H)
   obtain ⟨t1574, A10, H⟩ := ob H
   by_cases c11 : a0_0 = true
   ·subst c11
    rw [if_pos rfl] at H
    obtain ⟨t1575, A12, H⟩ := ob H
    by_cases c13 : 1 + t1575.size ≤ 9223372036854775807
    ·rw [if_pos c13] at H
     have c13b0 := eq_true c13
     have c13b1 : decide (1 + t1575.size ≤ 9223372036854775807) = true := decide_eq_true c13
     try have c13b2 : (9223372036854775807 < 1 + t1575.size) = False := eq_false (Nat.not_lt.2 c13)
     simp only [Option.some.injEq, Prod.mk.injEq] at H
     obtain ⟨rfl, rfl⟩ := H
     exact dec_Print.leaf
    ·rw [if_neg c13] at H
     exact absurd H (by simp)
   ·replace c11 := Bool.eq_false_iff.mpr c11
    subst c11
    rw [if_neg (show ¬ (false = true) by decide)] at H
    obtain ⟨t1576, A21, H⟩ := ob H
    by_cases c22 : 0 + t1576.size ≤ 9223372036854775807
    ·rw [if_pos c22] at H
     have c22b0 := eq_true c22
     have c22b1 : decide (0 + t1576.size ≤ 9223372036854775807) = true := decide_eq_true c22
     try have c22b2 : (9223372036854775807 < 0 + t1576.size) = False := eq_false (Nat.not_lt.2 c22)
     simp only [Option.some.injEq, Prod.mk.injEq] at H
     obtain ⟨rfl, rfl⟩ := H
     exact dec_Print.leaf
    ·rw [if_neg c22] at H
     exact absurd H (by simp)
 ·rw [if_neg c3] at H
  have c3b0 : (t1571 == 0) = false := beq_eq_false_iff_ne.mpr c3
  have c3b1 : (t1571 != 0) = true := bne_iff_ne.mpr c3
  simp only [Option.some.injEq, Prod.mk.injEq] at H
  obtain ⟨rfl, rfl⟩ := H
  exact dec_Print.leaf
def bolterref02_digit.f (a0 : ByteArray) (a1 : Int) : Option (Bool) := if a1 < (a0.size : Int) then (if 0 ≤ a1 then (if (bt a0 a1) ≥ 48 then (some (decide ((bt a0 a1) ≤ 57))) else (some false)) else (none)) else (some false)
set_option maxHeartbeats 8000000 in
set_option maxRecDepth 100000 in
theorem bolterref02_digit.calls (a0 : ByteArray) (a1 : Int) (r : Bool) (w : World) (h : bolterref02_digit.f a0 a1 = some r) :
  Calls Tryz.prog 153 #[.string a0, .int .i64 a1] w fun e w' => e = .returned (.bool r) ∧ Drawn0 w w' := by
 have H : (if a1 < (a0.size : Int) then (if 0 ≤ a1 then (if (bt a0 a1) ≥ 48 then (some (decide ((bt a0 a1) ≤ 57))) else (some false)) else (none)) else (some false)) = some r := h
 clear h
 by_cases c3 : a1 < (a0.size : Int)
 ·rw [if_pos c3] at H
  have c3b0 : decide (a1 < (a0.size : Int)) = true := decide_eq_true c3
  clear c3
  by_cases c4 : 0 ≤ a1
  ·rw [if_pos c4] at H
   have c4b0 : decide (0 ≤ a1) = true := decide_eq_true c4
   clear c4
   by_cases c6 : (bt a0 a1) ≥ 48
   ·rw [if_pos c6] at H
    have c6b0 : decide (48 ≤ (bt a0 a1)) = true := decide_eq_true c6
    clear c6
    obtain rfl := Option.some.inj H
    have p5 : 0 ≤ (a1 : Int) := of_decide_eq_true pQ
    have q5 : a1 < (a0.size : Int) := of_decide_eq_true pQ
    have hx5 := bt_at a0 a1
    replace p5 := eq_true p5
    replace q5 := eq_true q5
    have p7 : 0 ≤ (a1 : Int) := of_decide_eq_true pQ
    have q7 : a1 < (a0.size : Int) := of_decide_eq_true pQ
    have hx7 := bt_at a0 a1
    replace p7 := eq_true p7
    replace q7 := eq_true q7
    go_enter Tryz.func153, Tryz.ntmps153
    go_wp2
    go_ret
    exact ⟨by first | rfl | (simp; done) | (simp [*]; done), by repeat (first | exact Drawn0.refl _ | apply Drawn0.step)⟩
   ·rw [if_neg c6] at H
    have c6b0 : decide (48 ≤ (bt a0 a1)) = false := decide_eq_false c6
    clear c6
    obtain rfl := Option.some.inj H
    have p5 : 0 ≤ (a1 : Int) := of_decide_eq_true pQ
    have q5 : a1 < (a0.size : Int) := of_decide_eq_true pQ
    have hx5 := bt_at a0 a1
    replace p5 := eq_true p5
    replace q5 := eq_true q5
    go_enter Tryz.func153, Tryz.ntmps153
    go_wp2
    go_ret
    exact ⟨by first | rfl | (simp; done) | (simp [*]; done), by repeat (first | exact Drawn0.refl _ | apply Drawn0.step)⟩
  ·rw [if_neg c4] at H
   exact absurd H (by simp)
 ·rw [if_neg c3] at H
  have c3b0 : decide (a1 < (a0.size : Int)) = false := decide_eq_false c3
  clear c3
  obtain rfl := Option.some.inj H
  go_enter Tryz.func153, Tryz.ntmps153
  go_wp2
  go_ret
  exact ⟨by first | rfl | (simp; done) | (simp [*]; done), by repeat (first | exact Drawn0.refl _ | apply Drawn0.step)⟩
mutual
def bolterref02_Ends.j0 : Nat → ByteArray → Int → Bool → Option (Int × Bool)
 | 0, _, _, _ => none
 | k + 1, x0, x1, x15 => if x15 = true then (bolterref02_Ends.j1 k x0 (wrap64 (x1 + 1))) else (bolterref02_Ends.j1 k x0 x1)
def bolterref02_Ends.j1 : Nat → ByteArray → Int → Option (Int × Bool)
 | 0, _, _ => none
 | k + 1, x0, x1 => (bolterref02_digit.f x0 x1).bind fun t534 => (if t534 = true then (if 0 ≤ x1 then (if x1 < (x0.size : Int) then (if (bt x0 x1) = 48 then (bolterref02_Ends.j3 k x0 (wrap64 (x1 + 1))) else (bolterref02_Ends.l0 k x0 x1)) else (none)) else (none)) else (some (x1, false)))
def bolterref02_Ends.j3 : Nat → ByteArray → Int → Option (Int × Bool)
 | 0, _, _ => none
 | k + 1, x0, x1 => if x1 < (x0.size : Int) then (if 0 ≤ x1 then (bolterref02_Ends.j4 k x0 x1 ((bt x0 x1) == 46)) else (none)) else (bolterref02_Ends.j4 k x0 x1 false)
def bolterref02_Ends.j4 : Nat → ByteArray → Int → Bool → Option (Int × Bool)
 | 0, _, _, _ => none
 | k + 1, x0, x1, x43 => if x43 = true then ((bolterref02_digit.f x0 (wrap64 (x1 + 1))).bind fun t536 => (if t536 = true then (bolterref02_Ends.l1 k x0 (wrap64 (x1 + 1))) else (some (wrap64 (x1 + 1), false)))) else (bolterref02_Ends.j6 k x0 x1)
def bolterref02_Ends.j6 : Nat → ByteArray → Int → Option (Int × Bool)
 | 0, _, _ => none
 | k + 1, x0, x1 => if x1 < (x0.size : Int) then (if 0 ≤ x1 then (if (bt x0 x1) = 101 then (bolterref02_Ends.j7 k x0 x1 true) else (bolterref02_Ends.j7 k x0 x1 ((bt x0 x1) == 69))) else (none)) else (bolterref02_Ends.j7 k x0 x1 false)
def bolterref02_Ends.j7 : Nat → ByteArray → Int → Bool → Option (Int × Bool)
 | 0, _, _, _ => none
 | k + 1, x0, x1, x71 => if x71 = true then (if (wrap64 (x1 + 1)) < (x0.size : Int) then (if 0 ≤ (wrap64 (x1 + 1)) then (if (bt x0 (wrap64 (x1 + 1))) = 43 then (bolterref02_Ends.j8 k x0 (wrap64 (x1 + 1)) true) else (bolterref02_Ends.j8 k x0 (wrap64 (x1 + 1)) ((bt x0 (wrap64 (x1 + 1))) == 45))) else (none)) else (bolterref02_Ends.j8 k x0 (wrap64 (x1 + 1)) false)) else (some (x1, true))
def bolterref02_Ends.j8 : Nat → ByteArray → Int → Bool → Option (Int × Bool)
 | 0, _, _, _ => none
 | k + 1, x0, x1, x89 => if x89 = true then (bolterref02_Ends.j9 k x0 (wrap64 (x1 + 1))) else (bolterref02_Ends.j9 k x0 x1)
def bolterref02_Ends.j9 : Nat → ByteArray → Int → Option (Int × Bool)
 | 0, _, _ => none
 | k + 1, x0, x1 => (bolterref02_digit.f x0 x1).bind fun t538 => (if t538 = true then (bolterref02_Ends.l2 k x0 x1) else (some (x1, false)))
def bolterref02_Ends.l2 : Nat → ByteArray → Int → Option (Int × Bool)
 | 0, _, _ => none
 | k + 1, x0, x1 => (bolterref02_digit.f x0 x1).bind fun t539 => (if t539 = true then (bolterref02_Ends.l2 k x0 (wrap64 (x1 + 1))) else (some (x1, true)))
def bolterref02_Ends.l1 : Nat → ByteArray → Int → Option (Int × Bool)
 | 0, _, _ => none
 | k + 1, x0, x1 => (bolterref02_digit.f x0 x1).bind fun t537 => (if t537 = true then (bolterref02_Ends.l1 k x0 (wrap64 (x1 + 1))) else (bolterref02_Ends.j6 k x0 x1))
def bolterref02_Ends.l0 : Nat → ByteArray → Int → Option (Int × Bool)
 | 0, _, _ => none
 | k + 1, x0, x1 => (bolterref02_digit.f x0 x1).bind fun t535 => (if t535 = true then (bolterref02_Ends.l0 k x0 (wrap64 (x1 + 1))) else (bolterref02_Ends.j3 k x0 x1))
end
def bolterref02_Ends.f (k : Nat) (a0 : ByteArray) (a1 : Int) : Option (Int × Bool) := if a1 < (a0.size : Int) then (if 0 ≤ a1 then (bolterref02_Ends.j0 k a0 a1 ((bt a0 a1) == 45)) else (none)) else (bolterref02_Ends.j0 k a0 a1 false)
set_option maxHeartbeats 8000000 in
set_option maxRecDepth 100000 in
theorem bolterref02_Ends.calls (k : Nat) (a0 : ByteArray) (a1 : Int) (r1 : Int) (r2 : Bool) (w : World) (h : bolterref02_Ends.f k a0 a1 = some (r1, r2)) :
  Calls Tryz.prog 117 #[.string a0, .int .i64 a1] w fun e w' => e = .returned (.tuple #[.int .i64 r1, .bool r2]) ∧ Drawn0 w w' := by
 have H : (if a1 < (a0.size : Int) then (if 0 ≤ a1 then (bolterref02_Ends.j0 k a0 a1 ((bt a0 a1) == 45)) else (none)) else (bolterref02_Ends.j0 k a0 a1 false)) = some (r1, r2) := h
 clear h
 have HC3 := am H
 clear H
 go_enter Tryz.func117, Tryz.ntmps117
 go_upto_region 1 with (fail)
 go_cut [15] (fun v15 wc => ∃ (kq : Nat) (x15_2 : Bool), v15 = .bool x15_2 ∧ Aside0 (bolterref02_Ends.j0 kq a0 a1 x15_2 = some (r1, r2)) ∧ Aside0 (kq ≤ k) ∧ Drawn0 w wc)
 case first =>
  have H := HC3.out
  clear HC3
  by_cases c4 : a1 < (a0.size : Int)
  ·rw [if_pos c4] at H
   have c4b0 : decide (a1 < (a0.size : Int)) = true := decide_eq_true c4
   clear c4
   (first | rw [c4b0] | (simp only [i64_w, i32_w]; rw [c4b0]) | skip)
   by_cases c5 : 0 ≤ a1
   ·rw [if_pos c5] at H
    have c5b0 : decide (0 ≤ a1) = true := decide_eq_true c5
    clear c5
    have H' := am H
    clear H
    have p6 : 0 ≤ (a1 : Int) := of_decide_eq_true pQ
    have q6 : a1 < (a0.size : Int) := of_decide_eq_true pQ
    have hx6 := bt_at a0 a1
    replace p6 := eq_true p6
    replace q6 := eq_true q6
    go_wp2
    go_meet
    case rel => exact ⟨_, (((bt a0 a1) == 45)), (by first | rfl | (simp; done) | (simp [*]; done)), H', ⟨by first | omega | exact Nat.le_refl _⟩, by repeat (first | exact Drawn0.refl _ | apply Drawn0.step)⟩
   ·rw [if_neg c5] at H
    exact absurd H (by simp)
  ·rw [if_neg c4] at H
   have c4b0 : decide (a1 < (a0.size : Int)) = false := decide_eq_false c4
   clear c4
   (first | rw [c4b0] | (simp only [i64_w, i32_w]; rw [c4b0]) | skip)
   have H' := am H
   clear H
   go_wp2
   go_meet
   case rel => exact ⟨_, (false), (by first | rfl | (simp; done) | (simp [*]; done)), H', ⟨by first | omega | exact Nat.le_refl _⟩, by repeat (first | exact Drawn0.refl _ | apply Drawn0.step)⟩
 case rest =>
  clear HC3
  obtain ⟨kq, x15_2, rfl, HA, HJ2, ⟨mc2, rfl⟩⟩ := hcut
  cases kq with
  | zero => exact absurd HA.out (by simp [bolterref02_Ends.j0])
  | succ kj2 =>
   have H := HA.out
   clear HA
   simp only [bolterref02_Ends.j0] at H
   have HC7 := am H
   clear H
   go_upto_if 15 with (fail)
   go_cut [1] (fun v1 wc => ∃ (kq : Nat) (x1_6 : Int), v1 = .int .i64 x1_6 ∧ Aside0 (bolterref02_Ends.j1 kq a0 x1_6 = some (r1, r2)) ∧ Aside0 (kq ≤ kj2) ∧ Drawn0 w wc)
   case first =>
    have H := HC7.out
    clear HC7
    by_cases c8 : x15_2 = true
    ·subst c8
     rw [if_pos rfl] at H
     have H' := am H
     clear H
     go_wp2
     go_meet
     case rel => exact ⟨_, (wrap64 (a1 + 1)), (by first | rfl | (simp; done) | (simp [*]; done)), H', ⟨by have := HJ2.out; first | omega | exact Nat.le_refl _⟩, by repeat (first | exact Drawn0.refl _ | apply Drawn0.step)⟩
    ·replace c8 := Bool.eq_false_iff.mpr c8
     subst c8
     rw [if_neg (show ¬ (false = true) by decide)] at H
     have H' := am H
     clear H
     go_wp2
     go_meet
     case rel => exact ⟨_, (a1), (by first | rfl | (simp; done) | (simp [*]; done)), H', ⟨by have := HJ2.out; first | omega | exact Nat.le_refl _⟩, by repeat (first | exact Drawn0.refl _ | apply Drawn0.step)⟩
   case rest =>
    clear HC7
    obtain ⟨kq, x1_6, rfl, HA, HJ6, ⟨mc6, rfl⟩⟩ := hcut
    cases kq with
    | zero => exact absurd HA.out (by simp [bolterref02_Ends.j1])
    | succ kj6 =>
     have H := HA.out
     clear HA
     simp only [bolterref02_Ends.j1] at H
     obtain ⟨t534, A9, H⟩ := ob H
     by_cases c10 : t534 = true
     ·subst c10
      rw [if_pos rfl] at H
      by_cases c11 : 0 ≤ x1_6
      ·rw [if_pos c11] at H
       have c11b0 : decide (0 ≤ x1_6) = true := decide_eq_true c11
       clear c11
       by_cases c12 : x1_6 < (a0.size : Int)
       ·rw [if_pos c12] at H
        have c12b0 : decide (x1_6 < (a0.size : Int)) = true := decide_eq_true c12
        clear c12
        have HC14 := am H
        clear H
        go_upto_if 26 with (first | (refine gL (some 20) Tryz.func153 #[.string a0, .int .i64 x1_6] (h := ?_); (with_reducible refine (bolterref02_digit.calls a0 x1_6 true _ A9.out).mono ?_); rintro e w' ⟨rfl, ⟨nd, rfl⟩⟩; refine ⟨_, rfl, ?_⟩; have p13 : 0 ≤ (x1_6 : Int) := of_decide_eq_true pQ; have q13 : x1_6 < (a0.size : Int) := of_decide_eq_true pQ; have hx13 := bt_at a0 x1_6; replace p13 := eq_true p13; replace q13 := eq_true q13))
        (try simp only [Act.put, List.setIfInBounds_toArray, List.set_cons_zero, List.set_cons_succ])
        go_cut [1] (fun v1 wc => ∃ (kq : Nat) (x1_13 : Int), v1 = .int .i64 x1_13 ∧ Aside0 (bolterref02_Ends.j3 kq a0 x1_13 = some (r1, r2)) ∧ Aside0 (kq ≤ kj6) ∧ Drawn0 w wc)
        case first =>
         have H := HC14.out
         clear HC14
         by_cases c15 : (bt a0 x1_6) = 48
         ·rw [if_pos c15] at H
          have c15b0 : ((bt a0 x1_6) == 48) = true := beq_iff_eq.mpr c15
          have c15b1 : ((bt a0 x1_6) != 48) = false := bne_eq_false_iff_eq.mpr c15
          clear c15
          (first | rw [c15b0] | (simp only [i64_w, i32_w]; rw [c15b0]) | skip)
          have H' := am H
          clear H
          go_wp2
          go_meet
          case rel => exact ⟨_, (wrap64 (x1_6 + 1)), (by first | rfl | (simp; done) | (simp [*]; done)), H', ⟨by have := HJ2.out; have := HJ6.out; first | omega | exact Nat.le_refl _⟩, by repeat (first | exact Drawn0.refl _ | apply Drawn0.step)⟩
         ·rw [if_neg c15] at H
          have c15b0 : ((bt a0 x1_6) == 48) = false := beq_eq_false_iff_ne.mpr c15
          have c15b1 : ((bt a0 x1_6) != 48) = true := bne_iff_ne.mpr c15
          (first | rw [c15b0] | (simp only [i64_w, i32_w]; rw [c15b0]) | skip)
          have H' := am H
          clear H
          go_wp2
          go_loopg [1] kj6 (fun kq v1 w' => ∃ (x1_3 : Int), v1 = .int .i64 x1_3 ∧ Aside0 (bolterref02_Ends.l0 kq a0 x1_3 = some (r1, r2)) ∧ Aside0 (kq ≤ kj6) ∧ Drawn0 w w')
          case atStart => exact ⟨(x1_6), (by first | rfl | (simp; done) | (simp [*]; done)), H', ⟨Nat.le_refl _⟩, by repeat (first | exact Drawn0.refl _ | apply Drawn0.step)⟩
          case round =>
           clear H'
           (try clear c10); (try clear c11); (try clear c11b0); (try clear c12); (try clear c12b0); (try clear p13); (try clear q13); (try clear hx13); (try clear c15); (try clear c15b0); (try clear c15b1); (try clear p13); (try clear q13)
           obtain ⟨x1_3, rfl, HA, HK3, ⟨m3, rfl⟩⟩ := hrel
           cases gk with
           | zero => exact absurd HA.out (by simp [bolterref02_Ends.l0])
           | succ k3 =>
            have H := HA.out
            clear HA
            simp only [bolterref02_Ends.l0] at H
            obtain ⟨t535, A16, H⟩ := ob H
            by_cases c17 : t535 = true
            ·subst c17
             rw [if_pos rfl] at H
             have H' := am H
             clear H
             go_wp2_with (first | (refine gL (some 31) Tryz.func153 #[.string a0, .int .i64 x1_3] (h := ?_); (with_reducible refine (bolterref02_digit.calls a0 x1_3 true _ A16.out).mono ?_); rintro e w' ⟨rfl, ⟨nd, rfl⟩⟩; refine ⟨_, rfl, ?_⟩))
             go_roundg k3
             case measure => have := HJ2.out; have := HJ6.out; have := HK3.out; omega
             case rel => exact ⟨(wrap64 (x1_3 + 1)), (by first | rfl | (simp; done) | (simp [*]; done)), H', ⟨by have := HJ2.out; have := HJ6.out; have := HK3.out; omega⟩, by repeat (first | exact Drawn0.refl _ | apply Drawn0.step)⟩
            ·replace c17 := Bool.eq_false_iff.mpr c17
             subst c17
             rw [if_neg (show ¬ (false = true) by decide)] at H
             have H' := am H
             clear H
             go_wp2_with (first | (refine gL (some 31) Tryz.func153 #[.string a0, .int .i64 x1_3] (h := ?_); (with_reducible refine (bolterref02_digit.calls a0 x1_3 false _ A16.out).mono ?_); rintro e w' ⟨rfl, ⟨nd, rfl⟩⟩; refine ⟨_, rfl, ?_⟩))
             go_meet
             case rel => exact ⟨_, (x1_3), (by first | rfl | (simp; done) | (simp [*]; done)), H', ⟨by have := HJ2.out; have := HJ6.out; have := HK3.out; first | omega | exact Nat.le_refl _⟩, by repeat (first | exact Drawn0.refl _ | apply Drawn0.step)⟩
        case rest =>
         clear HC14
         (try clear c10); (try clear c11); (try clear c11b0); (try clear c12); (try clear c12b0); (try clear p13); (try clear q13); (try clear hx13); (try clear p13); (try clear q13)
         obtain ⟨kq, x1_13, rfl, HA, HJ13, ⟨mc13, rfl⟩⟩ := hcut
         cases kq with
         | zero => exact absurd HA.out (by simp [bolterref02_Ends.j3])
         | succ kj13 =>
          have H := HA.out
          clear HA
          simp only [bolterref02_Ends.j3] at H
          have HC18 := am H
          clear H
          go_upto_region 9 with (fail)
          go_cut [43] (fun v43 wc => ∃ (kq : Nat) (x43_17 : Bool), v43 = .bool x43_17 ∧ Aside0 (bolterref02_Ends.j4 kq a0 x1_13 x43_17 = some (r1, r2)) ∧ Aside0 (kq ≤ kj13) ∧ Drawn0 w wc)
          case first =>
           have H := HC18.out
           clear HC18
           by_cases c19 : x1_13 < (a0.size : Int)
           ·rw [if_pos c19] at H
            have c19b0 : decide (x1_13 < (a0.size : Int)) = true := decide_eq_true c19
            clear c19
            (first | rw [c19b0] | (simp only [i64_w, i32_w]; rw [c19b0]) | skip)
            by_cases c20 : 0 ≤ x1_13
            ·rw [if_pos c20] at H
             have c20b0 : decide (0 ≤ x1_13) = true := decide_eq_true c20
             clear c20
             have H' := am H
             clear H
             have p21 : 0 ≤ (x1_13 : Int) := of_decide_eq_true pQ
             have q21 : x1_13 < (a0.size : Int) := of_decide_eq_true pQ
             have hx21 := bt_at a0 x1_13
             replace p21 := eq_true p21
             replace q21 := eq_true q21
             go_wp2
             go_meet
             case rel => exact ⟨_, (((bt a0 x1_13) == 46)), (by first | rfl | (simp; done) | (simp [*]; done)), H', ⟨by have := HJ2.out; have := HJ6.out; have := HJ13.out; first | omega | exact Nat.le_refl _⟩, by repeat (first | exact Drawn0.refl _ | apply Drawn0.step)⟩
            ·rw [if_neg c20] at H
             exact absurd H (by simp)
           ·rw [if_neg c19] at H
            have c19b0 : decide (x1_13 < (a0.size : Int)) = false := decide_eq_false c19
            clear c19
            (first | rw [c19b0] | (simp only [i64_w, i32_w]; rw [c19b0]) | skip)
            have H' := am H
            clear H
            go_wp2
            go_meet
            case rel => exact ⟨_, (false), (by first | rfl | (simp; done) | (simp [*]; done)), H', ⟨by have := HJ2.out; have := HJ6.out; have := HJ13.out; first | omega | exact Nat.le_refl _⟩, by repeat (first | exact Drawn0.refl _ | apply Drawn0.step)⟩
          case rest =>
           clear HC18
           (try clear c10); (try clear c11); (try clear c11b0); (try clear c12); (try clear c12b0); (try clear p13); (try clear q13); (try clear hx13); (try clear p13); (try clear q13)
           obtain ⟨kq, x43_17, rfl, HA, HJ17, ⟨mc17, rfl⟩⟩ := hcut
           cases kq with
           | zero => exact absurd HA.out (by simp [bolterref02_Ends.j4])
           | succ kj17 =>
            have H := HA.out
            clear HA
            simp only [bolterref02_Ends.j4] at H
            have HC22 := am H
            clear H
            go_upto_if 43 with (fail)
            go_cut [1] (fun v1 wc => ∃ (kq : Nat) (x1_21 : Int), v1 = .int .i64 x1_21 ∧ Aside0 (bolterref02_Ends.j6 kq a0 x1_21 = some (r1, r2)) ∧ Aside0 (kq ≤ kj17) ∧ Drawn0 w wc)
            case first =>
             have H := HC22.out
             clear HC22
             by_cases c23 : x43_17 = true
             ·subst c23
              rw [if_pos rfl] at H
              obtain ⟨t536, A24, H⟩ := ob H
              by_cases c25 : t536 = true
              ·subst c25
               rw [if_pos rfl] at H
               have H' := am H
               clear H
               go_wp2_with (first | (refine gL (some 48) Tryz.func153 #[.string a0, .int .i64 (wrap64 (x1_13 + 1))] (h := ?_); (with_reducible refine (bolterref02_digit.calls a0 (wrap64 (x1_13 + 1)) true _ A24.out).mono ?_); rintro e w' ⟨rfl, ⟨nd, rfl⟩⟩; refine ⟨_, rfl, ?_⟩))
               go_loopg [1] kj17 (fun kq v1 w' => ∃ (x1_5 : Int), v1 = .int .i64 x1_5 ∧ Aside0 (bolterref02_Ends.l1 kq a0 x1_5 = some (r1, r2)) ∧ Aside0 (kq ≤ kj17) ∧ Drawn0 w w')
               case atStart => exact ⟨(wrap64 (x1_13 + 1)), (by first | rfl | (simp; done) | (simp [*]; done)), H', ⟨Nat.le_refl _⟩, by repeat (first | exact Drawn0.refl _ | apply Drawn0.step)⟩
               case round =>
                clear H'
                (try clear c10); (try clear c11); (try clear c11b0); (try clear c12); (try clear c12b0); (try clear p13); (try clear q13); (try clear hx13); (try clear c23); (try clear c25); (try clear p13); (try clear q13)
                obtain ⟨x1_5, rfl, HA, HK5, ⟨m5, rfl⟩⟩ := hrel
                cases gk with
                | zero => exact absurd HA.out (by simp [bolterref02_Ends.l1])
                | succ k5 =>
                 have H := HA.out
                 clear HA
                 simp only [bolterref02_Ends.l1] at H
                 obtain ⟨t537, A26, H⟩ := ob H
                 by_cases c27 : t537 = true
                 ·subst c27
                  rw [if_pos rfl] at H
                  have H' := am H
                  clear H
                  go_wp2_with (first | (refine gL (some 53) Tryz.func153 #[.string a0, .int .i64 x1_5] (h := ?_); (with_reducible refine (bolterref02_digit.calls a0 x1_5 true _ A26.out).mono ?_); rintro e w' ⟨rfl, ⟨nd, rfl⟩⟩; refine ⟨_, rfl, ?_⟩))
                  go_roundg k5
                  case measure => have := HJ2.out; have := HJ6.out; have := HJ13.out; have := HJ17.out; have := HK5.out; omega
                  case rel => exact ⟨(wrap64 (x1_5 + 1)), (by first | rfl | (simp; done) | (simp [*]; done)), H', ⟨by have := HJ2.out; have := HJ6.out; have := HJ13.out; have := HJ17.out; have := HK5.out; omega⟩, by repeat (first | exact Drawn0.refl _ | apply Drawn0.step)⟩
                 ·replace c27 := Bool.eq_false_iff.mpr c27
                  subst c27
                  rw [if_neg (show ¬ (false = true) by decide)] at H
                  have H' := am H
                  clear H
                  go_wp2_with (first | (refine gL (some 53) Tryz.func153 #[.string a0, .int .i64 x1_5] (h := ?_); (with_reducible refine (bolterref02_digit.calls a0 x1_5 false _ A26.out).mono ?_); rintro e w' ⟨rfl, ⟨nd, rfl⟩⟩; refine ⟨_, rfl, ?_⟩))
                  go_meet
                  case rel => exact ⟨_, (x1_5), (by first | rfl | (simp; done) | (simp [*]; done)), H', ⟨by have := HJ2.out; have := HJ6.out; have := HJ13.out; have := HJ17.out; have := HK5.out; first | omega | exact Nat.le_refl _⟩, by repeat (first | exact Drawn0.refl _ | apply Drawn0.step)⟩
              ·replace c25 := Bool.eq_false_iff.mpr c25
               subst c25
               rw [if_neg (show ¬ (false = true) by decide)] at H
               simp only [Option.some.injEq, Prod.mk.injEq] at H
               obtain ⟨rfl, rfl⟩ := H
               go_wp2_with (first | (refine gL (some 48) Tryz.func153 #[.string a0, .int .i64 (wrap64 (x1_13 + 1))] (h := ?_); (with_reducible refine (bolterref02_digit.calls a0 (wrap64 (x1_13 + 1)) false _ A24.out).mono ?_); rintro e w' ⟨rfl, ⟨nd, rfl⟩⟩; refine ⟨_, rfl, ?_⟩))
               go_ret2
               exact ⟨by first | rfl | (simp; done) | (simp [*]; done), by repeat (first | exact Drawn0.refl _ | apply Drawn0.step)⟩
             ·replace c23 := Bool.eq_false_iff.mpr c23
              subst c23
              rw [if_neg (show ¬ (false = true) by decide)] at H
              have H' := am H
              clear H
              go_wp2
              go_meet
              case rel => exact ⟨_, (x1_13), (by first | rfl | (simp; done) | (simp [*]; done)), H', ⟨by have := HJ2.out; have := HJ6.out; have := HJ13.out; have := HJ17.out; first | omega | exact Nat.le_refl _⟩, by repeat (first | exact Drawn0.refl _ | apply Drawn0.step)⟩
            case rest =>
             clear HC22
             (try clear c10); (try clear c11); (try clear c11b0); (try clear c12); (try clear c12b0); (try clear p13); (try clear q13); (try clear hx13); (try clear p13); (try clear q13)
             obtain ⟨kq, x1_21, rfl, HA, HJ21, ⟨mc21, rfl⟩⟩ := hcut
             cases kq with
             | zero => exact absurd HA.out (by simp [bolterref02_Ends.j6])
             | succ kj21 =>
              have H := HA.out
              clear HA
              simp only [bolterref02_Ends.j6] at H
              have HC28 := am H
              clear H
              go_upto_region 15 with (fail)
              go_cut [71] (fun v71 wc => ∃ (kq : Nat) (x71_27 : Bool), v71 = .bool x71_27 ∧ Aside0 (bolterref02_Ends.j7 kq a0 x1_21 x71_27 = some (r1, r2)) ∧ Aside0 (kq ≤ kj21) ∧ Drawn0 w wc)
              case first =>
               have H := HC28.out
               clear HC28
               by_cases c29 : x1_21 < (a0.size : Int)
               ·rw [if_pos c29] at H
                have c29b0 : decide (x1_21 < (a0.size : Int)) = true := decide_eq_true c29
                clear c29
                (first | rw [c29b0] | (simp only [i64_w, i32_w]; rw [c29b0]) | skip)
                by_cases c30 : 0 ≤ x1_21
                ·rw [if_pos c30] at H
                 have c30b0 : decide (0 ≤ x1_21) = true := decide_eq_true c30
                 clear c30
                 by_cases c32 : (bt a0 x1_21) = 101
                 ·rw [if_pos c32] at H
                  have c32b0 : ((bt a0 x1_21) == 101) = true := beq_iff_eq.mpr c32
                  have c32b1 : ((bt a0 x1_21) != 101) = false := bne_eq_false_iff_eq.mpr c32
                  clear c32
                  have H' := am H
                  clear H
                  have p31 : 0 ≤ (x1_21 : Int) := of_decide_eq_true pQ
                  have q31 : x1_21 < (a0.size : Int) := of_decide_eq_true pQ
                  have hx31 := bt_at a0 x1_21
                  replace p31 := eq_true p31
                  replace q31 := eq_true q31
                  go_wp2
                  go_meet
                  case rel => exact ⟨_, (true), (by first | rfl | (simp; done) | (simp [*]; done)), H', ⟨by have := HJ2.out; have := HJ6.out; have := HJ13.out; have := HJ17.out; have := HJ21.out; first | omega | exact Nat.le_refl _⟩, by repeat (first | exact Drawn0.refl _ | apply Drawn0.step)⟩
                 ·rw [if_neg c32] at H
                  have c32b0 : ((bt a0 x1_21) == 101) = false := beq_eq_false_iff_ne.mpr c32
                  have c32b1 : ((bt a0 x1_21) != 101) = true := bne_iff_ne.mpr c32
                  have H' := am H
                  clear H
                  have p31 : 0 ≤ (x1_21 : Int) := of_decide_eq_true pQ
                  have q31 : x1_21 < (a0.size : Int) := of_decide_eq_true pQ
                  have hx31 := bt_at a0 x1_21
                  replace p31 := eq_true p31
                  replace q31 := eq_true q31
                  have p33 : 0 ≤ (x1_21 : Int) := of_decide_eq_true pQ
                  have q33 : x1_21 < (a0.size : Int) := of_decide_eq_true pQ
                  have hx33 := bt_at a0 x1_21
                  replace p33 := eq_true p33
                  replace q33 := eq_true q33
                  go_wp2
                  go_meet
                  case rel => exact ⟨_, (((bt a0 x1_21) == 69)), (by first | rfl | (simp; done) | (simp [*]; done)), H', ⟨by have := HJ2.out; have := HJ6.out; have := HJ13.out; have := HJ17.out; have := HJ21.out; first | omega | exact Nat.le_refl _⟩, by repeat (first | exact Drawn0.refl _ | apply Drawn0.step)⟩
                ·rw [if_neg c30] at H
                 exact absurd H (by simp)
               ·rw [if_neg c29] at H
                have c29b0 : decide (x1_21 < (a0.size : Int)) = false := decide_eq_false c29
                clear c29
                (first | rw [c29b0] | (simp only [i64_w, i32_w]; rw [c29b0]) | skip)
                have H' := am H
                clear H
                go_wp2
                go_meet
                case rel => exact ⟨_, (false), (by first | rfl | (simp; done) | (simp [*]; done)), H', ⟨by have := HJ2.out; have := HJ6.out; have := HJ13.out; have := HJ17.out; have := HJ21.out; first | omega | exact Nat.le_refl _⟩, by repeat (first | exact Drawn0.refl _ | apply Drawn0.step)⟩
              case rest =>
               clear HC28
               (try clear c10); (try clear c11); (try clear c11b0); (try clear c12); (try clear c12b0); (try clear p13); (try clear q13); (try clear hx13); (try clear p13); (try clear q13)
               obtain ⟨kq, x71_27, rfl, HA, HJ27, ⟨mc27, rfl⟩⟩ := hcut
               cases kq with
               | zero => exact absurd HA.out (by simp [bolterref02_Ends.j7])
               | succ kj27 =>
                have H := HA.out
                clear HA
                simp only [bolterref02_Ends.j7] at H
                by_cases c34 : x71_27 = true
                ·subst c34
                 rw [if_pos rfl] at H
                 have HC35 := am H
                 clear H
                 go_upto_region 17 with (fail)
                 go_cut [89] (fun v89 wc => ∃ (kq : Nat) (x89_34 : Bool), v89 = .bool x89_34 ∧ Aside0 (bolterref02_Ends.j8 kq a0 (wrap64 (x1_21 + 1)) x89_34 = some (r1, r2)) ∧ Aside0 (kq ≤ kj27) ∧ Drawn0 w wc)
                 case first =>
                  have H := HC35.out
                  clear HC35
                  by_cases c36 : (wrap64 (x1_21 + 1)) < (a0.size : Int)
                  ·rw [if_pos c36] at H
                   have c36b0 : decide ((wrap64 (x1_21 + 1)) < (a0.size : Int)) = true := decide_eq_true c36
                   clear c36
                   (first | rw [c36b0] | (simp only [i64_w, i32_w]; rw [c36b0]) | skip)
                   obtain ⟨ji37, hji37⟩ : ∃ j_ : Int, (wrap64 (x1_21 + 1)) = j_ := ⟨_, rfl⟩
                   replace H : (if 0 ≤ (ji37) then (if (bt a0 (ji37)) = 43 then (bolterref02_Ends.j8 kj27 a0 ji37 true) else (bolterref02_Ends.j8 kj27 a0 ji37 ((bt a0 (ji37)) == 45))) else (none)) = some (r1, r2) := by first | (rw [hji37] at H; exact H) | (simp only [hji37] at H ⊢; exact H)
                   (try rw [hji37] at c36b0)
                   have hji37w : (IntKind.i64.wrap (x1_21 + 1)) = ji37 := (i64_w _).trans hji37
                   by_cases c38 : 0 ≤ (ji37)
                   ·rw [if_pos c38] at H
                    have c38b0 : decide (0 ≤ (ji37)) = true := decide_eq_true c38
                    clear c38
                    by_cases c40 : (bt a0 (ji37)) = 43
                    ·rw [if_pos c40] at H
                     have c40b0 : ((bt a0 (ji37)) == 43) = true := beq_iff_eq.mpr c40
                     have c40b1 : ((bt a0 (ji37)) != 43) = false := bne_eq_false_iff_eq.mpr c40
                     clear c40
                     have H' := am H
                     clear H
                     have p39 : 0 ≤ ((ji37) : Int) := of_decide_eq_true pQ
                     have q39 : (ji37) < (a0.size : Int) := of_decide_eq_true pQ
                     have hx39 := bt_at a0 (ji37)
                     replace p39 := eq_true p39
                     replace q39 := eq_true q39
                     go_wp2
                     go_meet
                     case rel => exact ⟨_, (true), (by first | rfl | (simp; done) | (simp [*]; done)), (by first | exact H' | (have H_ := H'.out; simp only [← hji37] at H_; exact ⟨H_⟩) | (refine ⟨?_⟩; have H_ := H'.out; simp only [← hji37] at H_ ⊢; exact H_)), ⟨by have := HJ2.out; have := HJ6.out; have := HJ13.out; have := HJ17.out; have := HJ21.out; have := HJ27.out; first | omega | exact Nat.le_refl _⟩, by repeat (first | exact Drawn0.refl _ | apply Drawn0.step)⟩
                    ·rw [if_neg c40] at H
                     have c40b0 : ((bt a0 (ji37)) == 43) = false := beq_eq_false_iff_ne.mpr c40
                     have c40b1 : ((bt a0 (ji37)) != 43) = true := bne_iff_ne.mpr c40
                     have H' := am H
                     clear H
                     have p39 : 0 ≤ ((ji37) : Int) := of_decide_eq_true pQ
                     have q39 : (ji37) < (a0.size : Int) := of_decide_eq_true pQ
                     have hx39 := bt_at a0 (ji37)
                     replace p39 := eq_true p39
                     replace q39 := eq_true q39
                     have p41 : 0 ≤ ((ji37) : Int) := of_decide_eq_true pQ
                     have q41 : (ji37) < (a0.size : Int) := of_decide_eq_true pQ
                     have hx41 := bt_at a0 (ji37)
                     replace p41 := eq_true p41
                     replace q41 := eq_true q41
                     go_wp2
                     go_meet
                     case rel => exact ⟨_, (((bt a0 (ji37)) == 45)), (by first | rfl | (simp; done) | (simp only [← hji37] <;> (first | rfl | simp)) | (simp [*]; done)), (by first | exact H' | (have H_ := H'.out; simp only [← hji37] at H_; exact ⟨H_⟩) | (refine ⟨?_⟩; have H_ := H'.out; simp only [← hji37] at H_ ⊢; exact H_)), ⟨by have := HJ2.out; have := HJ6.out; have := HJ13.out; have := HJ17.out; have := HJ21.out; have := HJ27.out; first | omega | exact Nat.le_refl _⟩, by repeat (first | exact Drawn0.refl _ | apply Drawn0.step)⟩
                   ·rw [if_neg c38] at H
                    exact absurd H (by simp)
                  ·rw [if_neg c36] at H
                   have c36b0 : decide ((wrap64 (x1_21 + 1)) < (a0.size : Int)) = false := decide_eq_false c36
                   clear c36
                   (first | rw [c36b0] | (simp only [i64_w, i32_w]; rw [c36b0]) | skip)
                   have H' := am H
                   clear H
                   go_wp2
                   go_meet
                   case rel => exact ⟨_, (false), (by first | rfl | (simp; done) | (simp [*]; done)), H', ⟨by have := HJ2.out; have := HJ6.out; have := HJ13.out; have := HJ17.out; have := HJ21.out; have := HJ27.out; first | omega | exact Nat.le_refl _⟩, by repeat (first | exact Drawn0.refl _ | apply Drawn0.step)⟩
                 case rest =>
                  clear HC35
                  (try clear c10); (try clear c11); (try clear c11b0); (try clear c12); (try clear c12b0); (try clear p13); (try clear q13); (try clear hx13); (try clear c34); (try clear p13); (try clear q13)
                  obtain ⟨kq, x89_34, rfl, HA, HJ34, ⟨mc34, rfl⟩⟩ := hcut
                  cases kq with
                  | zero => exact absurd HA.out (by simp [bolterref02_Ends.j8])
                  | succ kj34 =>
                   have H := HA.out
                   clear HA
                   simp only [bolterref02_Ends.j8] at H
                   have HC42 := am H
                   clear H
                   go_upto_if 89 with (fail)
                   go_cut [1] (fun v1 wc => ∃ (kq : Nat) (x1_41 : Int), v1 = .int .i64 x1_41 ∧ Aside0 (bolterref02_Ends.j9 kq a0 x1_41 = some (r1, r2)) ∧ Aside0 (kq ≤ kj34) ∧ Drawn0 w wc)
                   case first =>
                    have H := HC42.out
                    clear HC42
                    by_cases c43 : x89_34 = true
                    ·subst c43
                     rw [if_pos rfl] at H
                     have H' := am H
                     clear H
                     go_wp2
                     go_meet
                     case rel => exact ⟨_, (wrap64 ((wrap64 (x1_21 + 1)) + 1)), (by first | rfl | (simp; done) | (simp [*]; done)), H', ⟨by have := HJ2.out; have := HJ6.out; have := HJ13.out; have := HJ17.out; have := HJ21.out; have := HJ27.out; have := HJ34.out; first | omega | exact Nat.le_refl _⟩, by repeat (first | exact Drawn0.refl _ | apply Drawn0.step)⟩
                    ·replace c43 := Bool.eq_false_iff.mpr c43
                     subst c43
                     rw [if_neg (show ¬ (false = true) by decide)] at H
                     have H' := am H
                     clear H
                     go_wp2
                     go_meet
                     case rel => exact ⟨_, ((wrap64 (x1_21 + 1))), (by first | rfl | (simp; done) | (simp [*]; done)), H', ⟨by have := HJ2.out; have := HJ6.out; have := HJ13.out; have := HJ17.out; have := HJ21.out; have := HJ27.out; have := HJ34.out; first | omega | exact Nat.le_refl _⟩, by repeat (first | exact Drawn0.refl _ | apply Drawn0.step)⟩
                   case rest =>
                    clear HC42
                    (try clear c10); (try clear c11); (try clear c11b0); (try clear c12); (try clear c12b0); (try clear p13); (try clear q13); (try clear hx13); (try clear c34); (try clear p13); (try clear q13)
                    obtain ⟨kq, x1_41, rfl, HA, HJ41, ⟨mc41, rfl⟩⟩ := hcut
                    cases kq with
                    | zero => exact absurd HA.out (by simp [bolterref02_Ends.j9])
                    | succ kj41 =>
                     have H := HA.out
                     clear HA
                     simp only [bolterref02_Ends.j9] at H
                     obtain ⟨t538, A44, H⟩ := ob H
                     by_cases c45 : t538 = true
                     ·subst c45
                      rw [if_pos rfl] at H
                      have H' := am H
                      clear H
                      go_wp2_with (first | (refine gL (some 94) Tryz.func153 #[.string a0, .int .i64 x1_41] (h := ?_); (with_reducible refine (bolterref02_digit.calls a0 x1_41 true _ A44.out).mono ?_); rintro e w' ⟨rfl, ⟨nd, rfl⟩⟩; refine ⟨_, rfl, ?_⟩))
                      go_loopg [1] kj41 (fun kq v1 w' => ∃ (x1_9 : Int), v1 = .int .i64 x1_9 ∧ Aside0 (bolterref02_Ends.l2 kq a0 x1_9 = some (r1, r2)) ∧ Aside0 (kq ≤ kj41) ∧ Drawn0 w w')
                      case atStart => exact ⟨(x1_41), (by first | rfl | (simp; done) | (simp [*]; done)), H', ⟨Nat.le_refl _⟩, by repeat (first | exact Drawn0.refl _ | apply Drawn0.step)⟩
                      case round =>
                       clear H'
                       (try clear c10); (try clear c11); (try clear c11b0); (try clear c12); (try clear c12b0); (try clear p13); (try clear q13); (try clear hx13); (try clear c34); (try clear c45); (try clear p13); (try clear q13)
                       obtain ⟨x1_9, rfl, HA, HK9, ⟨m9, rfl⟩⟩ := hrel
                       cases gk with
                       | zero => exact absurd HA.out (by simp [bolterref02_Ends.l2])
                       | succ k9 =>
                        have H := HA.out
                        clear HA
                        simp only [bolterref02_Ends.l2] at H
                        obtain ⟨t539, A46, H⟩ := ob H
                        by_cases c47 : t539 = true
                        ·subst c47
                         rw [if_pos rfl] at H
                         have H' := am H
                         clear H
                         go_wp2_with (first | (refine gL (some 99) Tryz.func153 #[.string a0, .int .i64 x1_9] (h := ?_); (with_reducible refine (bolterref02_digit.calls a0 x1_9 true _ A46.out).mono ?_); rintro e w' ⟨rfl, ⟨nd, rfl⟩⟩; refine ⟨_, rfl, ?_⟩))
                         go_roundg k9
                         case measure => have := HJ2.out; have := HJ6.out; have := HJ13.out; have := HJ17.out; have := HJ21.out; have := HJ27.out; have := HJ34.out; have := HJ41.out; have := HK9.out; omega
                         case rel => exact ⟨(wrap64 (x1_9 + 1)), (by first | rfl | (simp; done) | (simp [*]; done)), H', ⟨by have := HJ2.out; have := HJ6.out; have := HJ13.out; have := HJ17.out; have := HJ21.out; have := HJ27.out; have := HJ34.out; have := HJ41.out; have := HK9.out; omega⟩, by repeat (first | exact Drawn0.refl _ | apply Drawn0.step)⟩
                        ·replace c47 := Bool.eq_false_iff.mpr c47
                         subst c47
                         rw [if_neg (show ¬ (false = true) by decide)] at H
                         simp only [Option.some.injEq, Prod.mk.injEq] at H
                         obtain ⟨rfl, rfl⟩ := H
                         go_wp2_with (first | (refine gL (some 99) Tryz.func153 #[.string a0, .int .i64 x1_9] (h := ?_); (with_reducible refine (bolterref02_digit.calls a0 x1_9 false _ A46.out).mono ?_); rintro e w' ⟨rfl, ⟨nd, rfl⟩⟩; refine ⟨_, rfl, ?_⟩))
                         go_ret2
                         exact ⟨by first | rfl | (simp; done) | (simp [*]; done), by repeat (first | exact Drawn0.refl _ | apply Drawn0.step)⟩
                     ·replace c45 := Bool.eq_false_iff.mpr c45
                      subst c45
                      rw [if_neg (show ¬ (false = true) by decide)] at H
                      simp only [Option.some.injEq, Prod.mk.injEq] at H
                      obtain ⟨rfl, rfl⟩ := H
                      go_wp2_with (first | (refine gL (some 94) Tryz.func153 #[.string a0, .int .i64 x1_41] (h := ?_); (with_reducible refine (bolterref02_digit.calls a0 x1_41 false _ A44.out).mono ?_); rintro e w' ⟨rfl, ⟨nd, rfl⟩⟩; refine ⟨_, rfl, ?_⟩))
                      go_ret2
                      exact ⟨by first | rfl | (simp; done) | (simp [*]; done), by repeat (first | exact Drawn0.refl _ | apply Drawn0.step)⟩
                ·replace c34 := Bool.eq_false_iff.mpr c34
                 subst c34
                 rw [if_neg (show ¬ (false = true) by decide)] at H
                 simp only [Option.some.injEq, Prod.mk.injEq] at H
                 obtain ⟨rfl, rfl⟩ := H
                 go_wp2
                 go_ret2
                 exact ⟨by first | rfl | (simp; done) | (simp [*]; done), by repeat (first | exact Drawn0.refl _ | apply Drawn0.step)⟩
       ·rw [if_neg c12] at H
        exact absurd H (by simp)
      ·rw [if_neg c11] at H
       exact absurd H (by simp)
     ·replace c10 := Bool.eq_false_iff.mpr c10
      subst c10
      rw [if_neg (show ¬ (false = true) by decide)] at H
      simp only [Option.some.injEq, Prod.mk.injEq] at H
      obtain ⟨rfl, rfl⟩ := H
      go_wp2_with (first | (refine gL (some 20) Tryz.func153 #[.string a0, .int .i64 x1_6] (h := ?_); (with_reducible refine (bolterref02_digit.calls a0 x1_6 false _ A9.out).mono ?_); rintro e w' ⟨rfl, ⟨nd, rfl⟩⟩; refine ⟨_, rfl, ?_⟩))
      go_ret2
      exact ⟨by first | rfl | (simp; done) | (simp [*]; done), by repeat (first | exact Drawn0.refl _ | apply Drawn0.step)⟩
mutual
def bolterref02_Parse.j0 : Nat → ByteArray → Bool → Option (Bool × List Int × Int × Int)
 | 0, _, _ => none
 | k + 1, x0, x18 => if x18 = true then (some (false, ([] : List Int), 0, 32)) else (if (x0.size : Int) > 2000 then (some (false, ([] : List Int), 0, 5)) else (if 0 < (x0.size : Int) then (bolterref02_Parse.l0 k x0 ([] : List Int) false 0 ((bt x0 0) == 45) 0) else (none)))
def bolterref02_Parse.l0 : Nat → ByteArray → List Int → Bool → Int → Bool → Int → Option (Bool × List Int × Int × Int)
 | 0, _, _, _, _, _, _ => none
 | k + 1, x0, x7, x8, x9, x544000, x544002 => if x9 < (x0.size : Int) then (if 0 ≤ x9 then (if (bt x0 x9) = 101 then (bolterref02_Parse.j2 k x0 x7 x8 x9 false x544000 x544002) else (bolterref02_Parse.j2 k x0 x7 x8 x9 ((bt x0 x9) != 69) x544000 x544002)) else (none)) else (bolterref02_Parse.j2 k x0 x7 x8 x9 false x544000 x544002)
def bolterref02_Parse.j2 : Nat → ByteArray → List Int → Bool → Int → Bool → Bool → Int → Option (Bool × List Int × Int × Int)
 | 0, _, _, _, _, _, _, _ => none
 | k + 1, x0, x7, x8, x9, x52, x544000, x544002 => if x52 = true then (if 0 ≤ x9 then (if x9 < (x0.size : Int) then (if (bt x0 x9) = 46 then (bolterref02_Parse.l0 k x0 x7 true (wrap64 (x9 + 1)) x544000 x544002) else (if (bt x0 x9) = 45 then (bolterref02_Parse.l0 k x0 x7 x8 (wrap64 (x9 + 1)) x544000 x544002) else ((some (([((bt x0 x9) - 48) % 256] : List Int) : List Int)).bind fun y544 => (if y544.length + x7.length < 17592186044416 then ((some (y544 ++ x7 : List Int)).bind fun y547 => (if x8 = true then (bolterref02_Parse.l0 k x0 y547 x8 (wrap64 (x9 + 1)) x544000 (wrap64 (x544002 - 1))) else (bolterref02_Parse.l0 k x0 y547 x8 (wrap64 (x9 + 1)) x544000 x544002))) else (none))))) else (none)) else (none)) else (if x9 < (x0.size : Int) then (bolterref02_Parse.l1 k x0 x7 (wrap64 (x9 + 1)) false 0 0 x544000 x544002) else ((bolterref02_Made.f k x544000 x7 x544002).bind fun bt562 => (some (bt562.1, bt562.2.1, bt562.2.2.1, bt562.2.2.2))))
def bolterref02_Parse.l1 : Nat → ByteArray → List Int → Int → Bool → Int → Int → Bool → Int → Option (Bool × List Int × Int × Int)
 | 0, _, _, _, _, _, _, _, _ => none
 | k + 1, x0, x7, x9, x10, x11, x12, x544000, x544002 => if x9 < (x0.size : Int) then (if 0 ≤ x9 then (if (bt x0 x9) = 45 then (bolterref02_Parse.l1 k x0 x7 (wrap64 (x9 + 1)) true x11 x12 x544000 x544002) else (if (bt x0 x9) = 43 then (bolterref02_Parse.l1 k x0 x7 (wrap64 (x9 + 1)) x10 x11 x12 x544000 x544002) else (if x11 > 0 then (bolterref02_Parse.j4 k x0 x7 x9 x10 x11 x12 true x544000 x544002) else (bolterref02_Parse.j4 k x0 x7 x9 x10 x11 x12 ((bt x0 x9) != 48) x544000 x544002)))) else (none)) else (if x10 = true then ((bolterref02_Made.f k x544000 x7 (wrap64 (x544002 + (wrap64 (-x11))))).bind fun bt550 => (some (bt550.1, bt550.2.1, bt550.2.2.1, bt550.2.2.2))) else ((bolterref02_Made.f k x544000 x7 (wrap64 (x544002 + x11))).bind fun bt556 => (some (bt556.1, bt556.2.1, bt556.2.2.1, bt556.2.2.2))))
def bolterref02_Parse.j4 : Nat → ByteArray → List Int → Int → Bool → Int → Int → Bool → Bool → Int → Option (Bool × List Int × Int × Int)
 | 0, _, _, _, _, _, _, _, _, _ => none
 | k + 1, x0, x7, x9, x10, x11, x12, x107, x544000, x544002 => if x107 = true then (if (wrap64 (x12 + 1)) > 6 then (some (false, ([] : List Int), 0, 52)) else (if 0 ≤ x9 then (if x9 < (x0.size : Int) then (bolterref02_Parse.l1 k x0 x7 (wrap64 (x9 + 1)) x10 (wrap64 ((wrap64 (10 * x11)) + (((bt x0 x9) - 48) % 256))) (wrap64 (x12 + 1)) x544000 x544002) else (none)) else (none))) else (if x12 > 6 then (some (false, ([] : List Int), 0, 52)) else (if 0 ≤ x9 then (if x9 < (x0.size : Int) then (bolterref02_Parse.l1 k x0 x7 (wrap64 (x9 + 1)) x10 (wrap64 ((wrap64 (10 * x11)) + (((bt x0 x9) - 48) % 256))) x12 x544000 x544002) else (none)) else (none)))
end
def bolterref02_Parse.f (k : Nat) (a0 : ByteArray) : Option (Bool × List Int × Int × Int) := (bolterref02_Ends.f k a0 0).bind fun bt541 => (if bt541.2 = true then (bolterref02_Parse.j0 k a0 (bt541.1 != (a0.size : Int))) else (bolterref02_Parse.j0 k a0 true))
set_option maxHeartbeats 8000000 in
set_option maxRecDepth 100000 in
theorem bolterref02_Parse.calls (k : Nat) (a0 : ByteArray) (r1 : Bool) (r2 : List Int) (r3 : Int) (r4 : Int) (w : World) (h : bolterref02_Parse.f k a0 = some (r1, r2, r3, r4)) :
  Calls Tryz.prog 58 #[.string a0] w fun e w' => ∃ v1_ : Value, e = .returned (.tuple #[.agg #[.bool r1, v1_, .int .i64 r3], .int .i64 r4]) ∧ Kd.R (Kd.int .u32) 85 w' w.heap.size (fun _ => True) v1_ r2 ∧ Below w.heap.size w w' := by
 have hu24 := Tryz.underlying24
 have hu30 := Tryz.underlying30
 have HB := am (Below.refl w.heap.size w)
 have H : ((bolterref02_Ends.f k a0 0).bind fun bt541 => (if bt541.2 = true then (bolterref02_Parse.j0 k a0 (bt541.1 != (a0.size : Int))) else (bolterref02_Parse.j0 k a0 true))) = some (r1, r2, r3, r4) := h
 clear h
 obtain ⟨⟨t541, t542⟩, A2, H⟩ := ob H; (try dsimp only at H)
 have HC3 := am H
 clear H
 go_enter Tryz.func58, Tryz.ntmps58
 go_upto_region 2 with (first | ((with_reducible refine gate_dst (N := 2) rfl ?_); (try (refine gate_guard (by rfl) ?_; dsimp only)); refine box_event ?hg (N := 2) ?hd (cs := #[.bool false, .slice none 0 0, .int .i64 0]) (t := 24) ?hr ?_; (case hd => rfl); (case hg => rfl); (case hr => first | (go_simp; done) | (go_simp; rfl)); intro gb540 hg w4 hbox hb; have n0_ := am (below_step pB hb); have n1_ := am (hbox); have n2_ := am ((gw hg pB : w.heap.size ≤ gb540)); have n3_ := am ((gw hg pB : w.heap.size ≤ gb540)); clear HB; have HB := n0_; have BK540 := n1_; have GW540 := n2_; have GE540 := n3_; clear n0_ n1_ n2_ n3_ hb hbox hg) | (refine gL (some 15) Tryz.func117 #[.string a0, .int .i64 0] (h := ?_); (with_reducible refine (bolterref02_Ends.calls k a0 0 t541 t542 _ A2.out).mono ?_); rintro e w' ⟨rfl, ⟨nd, rfl⟩⟩; refine ⟨_, rfl, ?_⟩))
 (try simp only [Act.put, List.setIfInBounds_toArray, List.set_cons_zero, List.set_cons_succ])
 go_cut [18] (fun v18 wc => ∃ (kq : Nat) (x18_2 : Bool), v18 = .bool x18_2 ∧ Aside0 (bolterref02_Parse.j0 kq a0 x18_2 = some (r1, r2, r3, r4)) ∧ Aside0 (kq ≤ k) ∧ Aside0 (wc.heap[gb540]? = some (.cells #[.bool false, (.slice none 0 0), .int .i64 0] 24 (0, 0))) ∧ Aside0 (Below w.heap.size w wc))
 case first =>
  have H := HC3.out
  clear HC3
  by_cases c5 : t542 = true
  ·subst c5
   rw [if_pos rfl] at H
   have H' := am H
   clear H
   go_wp2
   go_meet
   case rel => exact ⟨_, ((t541 != (a0.size : Int))), (by first | rfl | (simp; done) | (simp [*]; done)), H', ⟨by first | omega | exact Nat.le_refl _⟩, ⟨blk_below BK540.out pl⟩, ⟨pB⟩⟩
  ·replace c5 := Bool.eq_false_iff.mpr c5
   subst c5
   rw [if_neg (show ¬ (false = true) by decide)] at H
   have H' := am H
   clear H
   go_wp2
   go_meet
   case rel => exact ⟨_, (true), (by first | rfl | (simp; done) | (simp [*]; done)), H', ⟨by first | omega | exact Nat.le_refl _⟩, ⟨blk_below BK540.out pl⟩, ⟨pB⟩⟩
 case rest =>
  clear HC3
  obtain ⟨kq, x18_2, rfl, HA, HJ2, BK540, HB⟩ := hcut
  cases kq with
  | zero => exact absurd HA.out (by simp [bolterref02_Parse.j0])
  | succ kj2 =>
   have H := HA.out
   clear HA
   simp only [bolterref02_Parse.j0] at H
   by_cases c6 : x18_2 = true
   ·subst c6
    rw [if_pos rfl] at H
    simp only [Option.some.injEq, Prod.mk.injEq] at H
    obtain ⟨rfl, rfl, rfl, rfl⟩ := H
    obtain ⟨hcz7_0, hcz7_1, hcz7_2, hfz7_0, hfz7_1, hfz7_2⟩ := cEc BK540.out
    go_wp2
    refine bodyPost_ret (results_ct rfl _ _ gb540 24 #[.bool false, .slice none 0 0, .int .i64 0] (0, 0) _ rfl (by refine bp ?_; refine blk_put (cs := #[.bool false, .slice none 0 0, .int .i64 0]) ?_ 2 _ rfl; refine bp ?_; refine blk_put (cs := #[.bool false, .slice none 0 0, .int .i64 0]) ?_ 1 _ rfl; refine bp ?_; refine blk_put (cs := #[.bool false, .slice none 0 0, .int .i64 0]) ?_ 0 _ rfl; exact bp BK540.out) Tryz.underlying24 rfl (by kernel_rfl)) rfl ?_
    exact ⟨_, pE, by first | exact Kd.R_nil _ _ _ _ _ | exact Kd.N_nil _ _ _ _ _ | exact Kd.V_nil _ _ _ _ _ | exact Kd.Q_nil _ _ _ _ _ | exact Kd.S_nil _ _ _ _ _, pB⟩
   ·replace c6 := Bool.eq_false_iff.mpr c6
    subst c6
    rw [if_neg (show ¬ (false = true) by decide)] at H
    by_cases c8 : (a0.size : Int) > 2000
    ·rw [if_pos c8] at H
     have c8b0 : decide (2000 < (a0.size : Int)) = true := decide_eq_true c8
     have c8b1 : decide (2000 < a0.size) = true := decide_eq_true (by omega)
     clear c8
     simp only [Option.some.injEq, Prod.mk.injEq] at H
     obtain ⟨rfl, rfl, rfl, rfl⟩ := H
     obtain ⟨hcz9_0, hcz9_1, hcz9_2, hfz9_0, hfz9_1, hfz9_2⟩ := cEc BK540.out
     go_wp2
     refine bodyPost_ret (results_ct rfl _ _ gb540 24 #[.bool false, .slice none 0 0, .int .i64 0] (0, 0) _ rfl (by refine bp ?_; refine blk_put (cs := #[.bool false, .slice none 0 0, .int .i64 0]) ?_ 2 _ rfl; refine bp ?_; refine blk_put (cs := #[.bool false, .slice none 0 0, .int .i64 0]) ?_ 1 _ rfl; refine bp ?_; refine blk_put (cs := #[.bool false, .slice none 0 0, .int .i64 0]) ?_ 0 _ rfl; exact bp BK540.out) Tryz.underlying24 rfl (by kernel_rfl)) rfl ?_
     exact ⟨_, pE, by first | exact Kd.R_nil _ _ _ _ _ | exact Kd.N_nil _ _ _ _ _ | exact Kd.V_nil _ _ _ _ _ | exact Kd.Q_nil _ _ _ _ _ | exact Kd.S_nil _ _ _ _ _, pB⟩
    ·rw [if_neg c8] at H
     have c8b0 : decide (2000 < (a0.size : Int)) = false := decide_eq_false c8
     have c8b1 : decide (2000 < a0.size) = false := decide_eq_false (by omega)
     clear c8
     by_cases c10 : 0 < (a0.size : Int)
     ·rw [if_pos c10] at H
      have c10b0 : decide (0 < (a0.size : Int)) = true := decide_eq_true c10
      have c10b1 : decide (0 < a0.size) = true := decide_eq_true (by omega)
      clear c10
      have H' := am H
      clear H
      have p11 : 0 ≤ (0 : Int) := (by omega)
      have q11 : 0 < a0.size := (by have : (0 : Int) < (a0.size : Int) := of_decide_eq_true pQ; omega)
      have hx11 : ∀ h : 0 < a0.size, ((a0[0]'h).toNat : Int) = bt a0 0 := bt_at a0 0
      clear p11
      have qi11 : (0 < (a0.size : Int)) = True := eq_true (of_decide_eq_true pQ)
      replace q11 := eq_true q11
      go_wp2_with (first | ((with_reducible refine gate_dst (N := 6) rfl ?_); (try (refine gate_guard (by rfl) ?_; dsimp only)); refine box_event ?hg (N := 6) ?hd (cs := #[.bool false, .slice none 0 0, .int .i64 0]) (t := 30) ?hr ?_; (case hd => rfl); (case hg => rfl); (case hr => first | (go_simp; done) | (go_simp; rfl)); intro gb543 hg w12 hbox hb; have n0_ := am (blk_below (blk_below BK540.out pl) hb); have n1_ := am (below_step pB hb); have n2_ := am (hbox); have n3_ := am ((gw hg pB : w.heap.size ≤ gb543)); have n4_ := am ((gw hg pB : w.heap.size ≤ gb543)); have n5_ := am ((nl hg (blk_below BK540.out pl) : gb540 ≠ gb543)); have n6_ := am ((ng hg (blk_below BK540.out pl) : gb543 ≠ gb540)); clear BK540 HB; have BK540 := n0_; have HB := n1_; have BK543 := n2_; have GW543 := n3_; have GE543 := n4_; have NB540_543 := n5_; have NB543_540 := n6_; clear n0_ n1_ n2_ n3_ n4_ n5_ n6_ hb hbox hg; have hnb13 := NB543_540.out; have hnc13 := NB540_543.out; obtain ⟨hcz14_0, hcz14_1, hcz14_2, hfz14_0, hfz14_1, hfz14_2⟩ := cEc BK543.out))
      go_loopg [7, 8, 9] kj2 (fun kq v7 v8 v9 w' => ∃ (x7_2 : List Int) (x8_2 : Bool) (x9_2 : Int) (x544002_2 : Int), v8 = .bool x8_2 ∧ v9 = .int .i64 x9_2 ∧ Aside0 (bolterref02_Parse.l0 kq a0 x7_2 x8_2 x9_2 ((bt a0 0) == 45) x544002_2 = some (r1, r2, r3, r4)) ∧ Aside0 (kq ≤ kj2) ∧ Aside0 (Kd.R (Kd.int .i64) 3 w' w.heap.size (fun _ => True) v7 x7_2) ∧ Aside0 (w'.heap[gb540]? = some (.cells #[.bool false, (.slice none 0 0), .int .i64 0] 24 (0, 0))) ∧ Aside0 (w'.heap[gb543]? = some (.cells #[.bool ((bt a0 0) == 45), (.slice none 0 0), .int .i64 x544002_2] 30 (0, 0))) ∧ Aside0 (Below w.heap.size w w'))
      case atStart => exact ⟨(([] : List Int)), (false), (0), (0), (by first | rfl | (simp; done) | (simp [*]; done)), (by first | rfl | (simp; done) | (simp [*]; done)), H', ⟨Nat.le_refl _⟩, ⟨by first | exact Kd.R_nil _ _ _ _ _ | exact Kd.N_nil _ _ _ _ _ | exact Kd.V_nil _ _ _ _ _ | exact Kd.Q_nil _ _ _ _ _ | exact Kd.S_nil _ _ _ _ _⟩, ⟨bf NB540_543.out BK540.out⟩, ⟨by refine bp ?_; refine blk_put (cs := #[.bool ((bt a0 0) == 45), .slice none 0 0, .int .i64 0]) ?_ 2 _ rfl; refine bp ?_; refine blk_put (cs := #[.bool ((bt a0 0) == 45), .slice none 0 0, .int .i64 0]) ?_ 1 _ rfl; refine bp ?_; refine blk_put (cs := #[.bool false, .slice none 0 0, .int .i64 0]) ?_ 0 _ rfl; exact bp BK543.out⟩, ⟨pB⟩⟩
      case round =>
       clear H'
       (try clear c6); (try clear c8); (try clear c8b0); (try clear c8b1); (try clear c10); (try clear c10b0); (try clear c10b1); (try clear p11); (try clear q11); (try clear hx11); (try clear qi11); (try clear hcz14_0); (try clear hcz14_1); (try clear hcz14_2); (try clear hfz14_0); (try clear hfz14_1); (try clear hfz14_2); (try clear p11); (try clear q11)
       obtain ⟨x7_2, x8_2, x9_2, x544002_2, rfl, rfl, HA, HK2, HO_7, BK540, BK543, HB⟩ := hrel
       cases gk with
       | zero => exact absurd HA.out (by simp [bolterref02_Parse.l0])
       | succ k2 =>
        have H := HA.out
        clear HA
        simp only [bolterref02_Parse.l0] at H
        have HC15 := am H
        clear H
        go_upto_region 10 with (fail)
        go_cut [52] (fun v52 wc => ∃ (kq : Nat) (x52_14 : Bool), v52 = .bool x52_14 ∧ Aside0 (bolterref02_Parse.j2 kq a0 x7_2 x8_2 x9_2 x52_14 ((bt a0 0) == 45) x544002_2 = some (r1, r2, r3, r4)) ∧ Aside0 (kq ≤ k2) ∧ Aside0 (Kd.R (Kd.int .i64) 3 wc w.heap.size (fun _ => True) u7 x7_2) ∧ Aside0 (wc.heap[gb540]? = some (.cells #[.bool false, (.slice none 0 0), .int .i64 0] 24 (0, 0))) ∧ Aside0 (wc.heap[gb543]? = some (.cells #[.bool ((bt a0 0) == 45), (.slice none 0 0), .int .i64 x544002_2] 30 (0, 0))) ∧ Aside0 (Below w.heap.size w wc))
        case first =>
         have H := HC15.out
         clear HC15
         by_cases c16 : x9_2 < (a0.size : Int)
         ·rw [if_pos c16] at H
          have c16b0 : decide (x9_2 < (a0.size : Int)) = true := decide_eq_true c16
          clear c16
          (first | rw [c16b0] | (simp only [i64_w, i32_w]; rw [c16b0]) | skip)
          by_cases c17 : 0 ≤ x9_2
          ·rw [if_pos c17] at H
           have c17b0 : decide (0 ≤ x9_2) = true := decide_eq_true c17
           clear c17
           by_cases c19 : (bt a0 x9_2) = 101
           ·rw [if_pos c19] at H
            have c19b0 : ((bt a0 x9_2) == 101) = true := beq_iff_eq.mpr c19
            have c19b1 : ((bt a0 x9_2) != 101) = false := bne_eq_false_iff_eq.mpr c19
            clear c19
            have H' := am H
            clear H
            have p18 : 0 ≤ (x9_2 : Int) := of_decide_eq_true pQ
            have q18 : x9_2 < (a0.size : Int) := of_decide_eq_true pQ
            have hx18 := bt_at a0 x9_2
            replace p18 := eq_true p18
            replace q18 := eq_true q18
            go_wp2
            go_meet
            case rel => exact ⟨_, (false), (by first | rfl | (simp; done) | (simp [*]; done)), H', ⟨by have := HJ2.out; have := HK2.out; first | omega | exact Nat.le_refl _⟩, ⟨by refine rp ?_; exact HO_7.out⟩, ⟨blk_below BK540.out pl⟩, ⟨blk_below BK543.out pl⟩, ⟨pB⟩⟩
           ·rw [if_neg c19] at H
            have c19b0 : ((bt a0 x9_2) == 101) = false := beq_eq_false_iff_ne.mpr c19
            have c19b1 : ((bt a0 x9_2) != 101) = true := bne_iff_ne.mpr c19
            have H' := am H
            clear H
            have p18 : 0 ≤ (x9_2 : Int) := of_decide_eq_true pQ
            have q18 : x9_2 < (a0.size : Int) := of_decide_eq_true pQ
            have hx18 := bt_at a0 x9_2
            replace p18 := eq_true p18
            replace q18 := eq_true q18
            have p20 : 0 ≤ (x9_2 : Int) := of_decide_eq_true pQ
            have q20 : x9_2 < (a0.size : Int) := of_decide_eq_true pQ
            have hx20 := bt_at a0 x9_2
            replace p20 := eq_true p20
            replace q20 := eq_true q20
            go_wp2
            go_meet
            case rel => exact ⟨_, (((bt a0 x9_2) != 69)), (by first | rfl | (simp; done) | (simp [*]; done)), H', ⟨by have := HJ2.out; have := HK2.out; first | omega | exact Nat.le_refl _⟩, ⟨by refine rp ?_; exact HO_7.out⟩, ⟨blk_below BK540.out pl⟩, ⟨blk_below BK543.out pl⟩, ⟨pB⟩⟩
          ·rw [if_neg c17] at H
           exact absurd H (by simp)
         ·rw [if_neg c16] at H
          have c16b0 : decide (x9_2 < (a0.size : Int)) = false := decide_eq_false c16
          clear c16
          (first | rw [c16b0] | (simp only [i64_w, i32_w]; rw [c16b0]) | skip)
          have H' := am H
          clear H
          go_wp2
          go_meet
          case rel => exact ⟨_, (false), (by first | rfl | (simp; done) | (simp [*]; done)), H', ⟨by have := HJ2.out; have := HK2.out; first | omega | exact Nat.le_refl _⟩, ⟨by refine rp ?_; exact HO_7.out⟩, ⟨blk_below BK540.out pl⟩, ⟨blk_below BK543.out pl⟩, ⟨pB⟩⟩
        case rest =>
         clear HC15
         (try clear c6); (try clear c8); (try clear c8b0); (try clear c8b1); (try clear c10); (try clear c10b0); (try clear c10b1); (try clear p11); (try clear q11); (try clear hx11); (try clear qi11); (try clear hcz14_0); (try clear hcz14_1); (try clear hcz14_2); (try clear hfz14_0); (try clear hfz14_1); (try clear hfz14_2); (try clear p11); (try clear q11)
         obtain ⟨kq, x52_14, rfl, HA, HJ14, HO_7, BK540, BK543, HB⟩ := hcut
         cases kq with
         | zero => exact absurd HA.out (by simp [bolterref02_Parse.j2])
         | succ kj14 =>
          have H := HA.out
          clear HA
          simp only [bolterref02_Parse.j2] at H
          by_cases c21 : x52_14 = true
          ·subst c21
           rw [if_pos rfl] at H
           by_cases c22 : 0 ≤ x9_2
           ·rw [if_pos c22] at H
            have c22b0 : decide (0 ≤ x9_2) = true := decide_eq_true c22
            clear c22
            by_cases c23 : x9_2 < (a0.size : Int)
            ·rw [if_pos c23] at H
             have c23b0 : decide (x9_2 < (a0.size : Int)) = true := decide_eq_true c23
             clear c23
             by_cases c25 : (bt a0 x9_2) = 46
             ·rw [if_pos c25] at H
              have c25b0 : ((bt a0 x9_2) == 46) = true := beq_iff_eq.mpr c25
              have c25b1 : ((bt a0 x9_2) != 46) = false := bne_eq_false_iff_eq.mpr c25
              clear c25
              have H' := am H
              clear H
              have p24 : 0 ≤ (x9_2 : Int) := of_decide_eq_true pQ
              have q24 : x9_2 < (a0.size : Int) := of_decide_eq_true pQ
              have hx24 := bt_at a0 x9_2
              replace p24 := eq_true p24
              replace q24 := eq_true q24
              go_wp2
              go_roundg kj14
              case measure => have := HJ2.out; have := HK2.out; have := HJ14.out; omega
              case rel => exact ⟨(x7_2), (true), (wrap64 (x9_2 + 1)), (x544002_2), (by first | rfl | (simp; done) | (simp [*]; done)), (by first | rfl | (simp; done) | (simp [*]; done)), H', ⟨by have := HJ2.out; have := HK2.out; have := HJ14.out; omega⟩, ⟨by refine rp ?_; exact HO_7.out⟩, ⟨blk_below BK540.out pl⟩, ⟨blk_below BK543.out pl⟩, ⟨pB⟩⟩
             ·rw [if_neg c25] at H
              have c25b0 : ((bt a0 x9_2) == 46) = false := beq_eq_false_iff_ne.mpr c25
              have c25b1 : ((bt a0 x9_2) != 46) = true := bne_iff_ne.mpr c25
              by_cases c27 : (bt a0 x9_2) = 45
              ·rw [if_pos c27] at H
               have c27b0 : ((bt a0 x9_2) == 45) = true := beq_iff_eq.mpr c27
               have c27b1 : ((bt a0 x9_2) != 45) = false := bne_eq_false_iff_eq.mpr c27
               clear c27
               have H' := am H
               clear H
               have p24 : 0 ≤ (x9_2 : Int) := of_decide_eq_true pQ
               have q24 : x9_2 < (a0.size : Int) := of_decide_eq_true pQ
               have hx24 := bt_at a0 x9_2
               replace p24 := eq_true p24
               replace q24 := eq_true q24
               have p26 : 0 ≤ (x9_2 : Int) := of_decide_eq_true pQ
               have q26 : x9_2 < (a0.size : Int) := of_decide_eq_true pQ
               have hx26 := bt_at a0 x9_2
               replace p26 := eq_true p26
               replace q26 := eq_true q26
               go_wp2
               go_roundg kj14
               case measure => have := HJ2.out; have := HK2.out; have := HJ14.out; omega
               case rel => exact ⟨(x7_2), (x8_2), (wrap64 (x9_2 + 1)), (x544002_2), (by first | rfl | (simp; done) | (simp [*]; done)), (by first | rfl | (simp; done) | (simp [*]; done)), H', ⟨by have := HJ2.out; have := HK2.out; have := HJ14.out; omega⟩, ⟨by refine rp ?_; exact HO_7.out⟩, ⟨blk_below BK540.out pl⟩, ⟨blk_below BK543.out pl⟩, ⟨pB⟩⟩
              ·rw [if_neg c27] at H
               have c27b0 : ((bt a0 x9_2) == 45) = false := beq_eq_false_iff_ne.mpr c27
               have c27b1 : ((bt a0 x9_2) != 45) = true := bne_iff_ne.mpr c27
               obtain ⟨y544, hy544⟩ : ∃ y_ : List Int, y_ = (([((bt a0 x9_2) - 48) % 256] : List Int)) := ⟨_, rfl⟩
               replace H : (if y544.length + x7_2.length < 17592186044416 then ((some (y544 ++ x7_2 : List Int)).bind fun y547 => (if x8_2 = true then (bolterref02_Parse.l0 kj14 a0 y547 x8_2 (wrap64 (x9_2 + 1)) ((bt a0 0) == 45) (wrap64 (x544002_2 - 1))) else (bolterref02_Parse.l0 kj14 a0 y547 x8_2 (wrap64 (x9_2 + 1)) ((bt a0 0) == 45) x544002_2))) else (none)) = some (r1, r2, r3, r4) := by first | (rw [hy544]; with_reducible exact H) | (have H2_ := (Option.bind_some _ _).symm.trans H; rw [hy544]; with_reducible exact H2_) | (have H2_ := (Option.bind_some _ _).symm.trans H; with_reducible exact H2_) | with_reducible exact H | (rw [hy544]; exact H) | exact H
               have Ny544 := am hy544
               clear hy544
               by_cases c29 : y544.length + x7_2.length < 17592186044416
               ·rw [if_pos c29] at H
                have LMc29 := am c29
                clear c29
                obtain ⟨y547, hy547⟩ : ∃ y_ : List Int, y_ = (y544 ++ x7_2) := ⟨_, rfl⟩
                replace H : (if x8_2 = true then (bolterref02_Parse.l0 kj14 a0 y547 x8_2 (wrap64 (x9_2 + 1)) ((bt a0 0) == 45) (wrap64 (x544002_2 - 1))) else (bolterref02_Parse.l0 kj14 a0 y547 x8_2 (wrap64 (x9_2 + 1)) ((bt a0 0) == 45) x544002_2)) = some (r1, r2, r3, r4) := by first | (rw [hy547]; with_reducible exact H) | (have H2_ := (Option.bind_some _ _).symm.trans H; rw [hy547]; with_reducible exact H2_) | (have H2_ := (Option.bind_some _ _).symm.trans H; with_reducible exact H2_) | with_reducible exact H | (rw [hy547]; exact H) | exact H
                have Ny547 := am hy547
                clear hy547
                by_cases c30 : x8_2 = true
                ·subst c30
                 rw [if_pos rfl] at H
                 have H' := am H
                 clear H
                 have p24 : 0 ≤ (x9_2 : Int) := of_decide_eq_true pQ
                 have q24 : x9_2 < (a0.size : Int) := of_decide_eq_true pQ
                 have hx24 := bt_at a0 x9_2
                 replace p24 := eq_true p24
                 replace q24 := eq_true q24
                 have p26 : 0 ≤ (x9_2 : Int) := of_decide_eq_true pQ
                 have q26 : x9_2 < (a0.size : Int) := of_decide_eq_true pQ
                 have hx26 := bt_at a0 x9_2
                 replace p26 := eq_true p26
                 replace q26 := eq_true q26
                 have p28 : 0 ≤ (x9_2 : Int) := of_decide_eq_true pQ
                 have q28 : x9_2 < (a0.size : Int) := of_decide_eq_true pQ
                 have hx28 := bt_at a0 x9_2
                 replace p28 := eq_true p28
                 replace q28 := eq_true q28
                 go_wp2_with (first | ((with_reducible refine gate_dst (N := 70) rfl ?_); (try (refine gate_guard (by rfl) ?_; dsimp only)); refine Kd.R_lit (Kd.int .i64) _ 3 ?hg (N := 70) ?hd (xs := ([((bt a0 x9_2) - 48) % 256] : List Int)) (inner := [.int .i64 (((bt a0 x9_2) - 48) % 256)]) (ok := fun _ => True) (okp := fun _ => True) ?hr ?hp (fun _ hk => hk) trivial (Below.refl _ _) (Nat.le_refl _) (by simp) ?_; (case hd => rfl); (case hg => rfl); (case hr => first | (go_simp; done) | (go_simp; rfl)); (case hp => exact (Reps.one (show Kd.M (Kd.int .i64) _ _ _ (((bt a0 x9_2) - 48) % 256) [.int .i64 (((bt a0 x9_2) - 48) % 256)] from rfl) (Reps.none _ _))); intro v545 w31 ho32 hb hg_ hnew_; clear hg_ hnew_; (first | rw [← Ny544.out] at ho32 | (simp only [Int.reduceToNat] at ho32; rw [← Ny544.out] at ho32)); have n0_ := am (Kd.R_elder' (Kd.R_below HO_7.out pl) (Kd.R_base ho32) hb); have n1_ := am (Kd.R_lower (Kd.R_new' ho32 (Kd.R_lt (Kd.R_below HO_7.out pl))) (below_size pB)); have n2_ := am (blk_below (blk_below BK540.out pl) hb); have n3_ := am (blk_below (blk_below BK543.out pl) hb); have n4_ := am (below_step pB hb); clear HO_7 BK540 BK543 HB; have HO_7 := n0_; have HO546 := n1_; have BK540 := n2_; have BK543 := n3_; have HB := n4_; clear n0_ n1_ n2_ n3_ n4_ hb ho32; obtain ⟨Ao34, co34, eo34⟩ := Kd.R_slice HO_7.out; subst eo34) | ((with_reducible refine gate_builtin (b := .append) (xs := #[.tmp 70, .tmp 71]) rfl ?_); (try (refine gate_guard (by rfl) ?_; dsimp only)); at_builtin; refine Kd.R_append_rows (Kd.int .i64) (w0 := w) w.heap.size rfl (.tmp 70) (.tmp 71) 28 3 (.int .i64 0) 8 rfl Tryz.underlying28 info3 rfl (by decide) (by omega) v545 y544 x7_2 _ _ _ (fun k_ => some k_ ≠ (.slice Ao34 x7_2.length co34 : Value).ownBlock) (fun _ => False) rfl rfl ?aO ?aR (fun _ _ h => h) (fun _ h => h.elim) ?aF ?aB ?aS ?aL ?_; (case aR => exact Kd.C_below (Kd.R_reads' HO_7.out).2.2 pl); (case aB => exact pB); (case aF => exact (fun k_ hk => Kd.fresh' (Kd.R_lt (Kd.R_below HO_7.out pl)) k_ hk)); (case aO => exact (Kd.R_below (Kd.R_mono HO546.out (fun _ hk => hk.2)) pl)); (case aS => exact (below_size pB)); (case aL => have := LMc29.out; omega); intro v548 w33 ho hb hg hat; rw [← Ny547.out] at ho; have n0_ := am (Kd.R_after (ok := (fun _ => True)) (Kd.R_below HO_7.out pl) hg hat); have n1_ := am (blk_grown (g := gb540) (o := .cells #[.bool false, .slice none 0 0, .int .i64 0] 24 (0, 0)) (blk_below BK540.out pl) hg (Kd.R_ne HO546.out BK540.out (by decide))); have n2_ := am (blk_grown (g := gb543) (o := .cells #[.bool ((bt a0 0) == 45), .slice none 0 0, .int .i64 x544002_2] 30 (0, 0)) (blk_below BK543.out pl) hg (Kd.R_ne HO546.out BK543.out (by decide))); have n3_ := am (hb); have n4_ := am (ho); clear HO_7 BK540 BK543 HB HO546; have HO_7 := n0_; have BK540 := n1_; have BK543 := n2_; have HB := n3_; have HO549 := n4_; clear n0_ n1_ n2_ n3_ n4_ ho hb hg hat; have hnb35 := NB543_540.out; have hnc35 := NB540_543.out; obtain ⟨hcz36_0, hcz36_1, hcz36_2, hfz36_0, hfz36_1, hfz36_2⟩ := cEc BK543.out))
                 go_roundg kj14
                 case measure => have := HJ2.out; have := HK2.out; have := HJ14.out; omega
                 case rel => exact ⟨(y547), (true), (wrap64 (x9_2 + 1)), (wrap64 (x544002_2 - 1)), (by first | rfl | (simp; done) | (simp [*]; done)), (by first | rfl | (simp; done) | (simp [*]; done)), H', ⟨by have := HJ2.out; have := HK2.out; have := HJ14.out; omega⟩, ⟨by refine rp ?_; exact Kd.R_mono (Kd.R_far (p := ⟨gb543, 2, none⟩) (Kd.R_types HO549.out BK543.out (by decide)) (fun _ hk => hk.2) (.int .i64 (wrap64 (x544002_2 - 1)))) (fun _ hk => trivial)⟩, ⟨bf NB540_543.out BK540.out⟩, ⟨by refine bp ?_; refine blk_put (cs := #[.bool ((bt a0 0) == 45), .slice none 0 0, .int .i64 x544002_2]) ?_ 2 _ rfl; exact bp BK543.out⟩, ⟨pB⟩⟩
                ·replace c30 := Bool.eq_false_iff.mpr c30
                 subst c30
                 rw [if_neg (show ¬ (false = true) by decide)] at H
                 have H' := am H
                 clear H
                 have p24 : 0 ≤ (x9_2 : Int) := of_decide_eq_true pQ
                 have q24 : x9_2 < (a0.size : Int) := of_decide_eq_true pQ
                 have hx24 := bt_at a0 x9_2
                 replace p24 := eq_true p24
                 replace q24 := eq_true q24
                 have p26 : 0 ≤ (x9_2 : Int) := of_decide_eq_true pQ
                 have q26 : x9_2 < (a0.size : Int) := of_decide_eq_true pQ
                 have hx26 := bt_at a0 x9_2
                 replace p26 := eq_true p26
                 replace q26 := eq_true q26
                 have p28 : 0 ≤ (x9_2 : Int) := of_decide_eq_true pQ
                 have q28 : x9_2 < (a0.size : Int) := of_decide_eq_true pQ
                 have hx28 := bt_at a0 x9_2
                 replace p28 := eq_true p28
                 replace q28 := eq_true q28
                 go_wp2_with (first | ((with_reducible refine gate_dst (N := 70) rfl ?_); (try (refine gate_guard (by rfl) ?_; dsimp only)); refine Kd.R_lit (Kd.int .i64) _ 3 ?hg (N := 70) ?hd (xs := ([((bt a0 x9_2) - 48) % 256] : List Int)) (inner := [.int .i64 (((bt a0 x9_2) - 48) % 256)]) (ok := fun _ => True) (okp := fun _ => True) ?hr ?hp (fun _ hk => hk) trivial (Below.refl _ _) (Nat.le_refl _) (by simp) ?_; (case hd => rfl); (case hg => rfl); (case hr => first | (go_simp; done) | (go_simp; rfl)); (case hp => exact (Reps.one (show Kd.M (Kd.int .i64) _ _ _ (((bt a0 x9_2) - 48) % 256) [.int .i64 (((bt a0 x9_2) - 48) % 256)] from rfl) (Reps.none _ _))); intro v545 w37 ho38 hb hg_ hnew_; clear hg_ hnew_; (first | rw [← Ny544.out] at ho38 | (simp only [Int.reduceToNat] at ho38; rw [← Ny544.out] at ho38)); have n0_ := am (Kd.R_elder' (Kd.R_below HO_7.out pl) (Kd.R_base ho38) hb); have n1_ := am (Kd.R_lower (Kd.R_new' ho38 (Kd.R_lt (Kd.R_below HO_7.out pl))) (below_size pB)); have n2_ := am (blk_below (blk_below BK540.out pl) hb); have n3_ := am (blk_below (blk_below BK543.out pl) hb); have n4_ := am (below_step pB hb); clear HO_7 BK540 BK543 HB; have HO_7 := n0_; have HO546 := n1_; have BK540 := n2_; have BK543 := n3_; have HB := n4_; clear n0_ n1_ n2_ n3_ n4_ hb ho38; obtain ⟨Ao40, co40, eo40⟩ := Kd.R_slice HO_7.out; subst eo40) | ((with_reducible refine gate_builtin (b := .append) (xs := #[.tmp 70, .tmp 71]) rfl ?_); (try (refine gate_guard (by rfl) ?_; dsimp only)); at_builtin; refine Kd.R_append_rows (Kd.int .i64) (w0 := w) w.heap.size rfl (.tmp 70) (.tmp 71) 28 3 (.int .i64 0) 8 rfl Tryz.underlying28 info3 rfl (by decide) (by omega) v545 y544 x7_2 _ _ _ (fun k_ => some k_ ≠ (.slice Ao40 x7_2.length co40 : Value).ownBlock) (fun _ => False) rfl rfl ?aO ?aR (fun _ _ h => h) (fun _ h => h.elim) ?aF ?aB ?aS ?aL ?_; (case aR => exact Kd.C_below (Kd.R_reads' HO_7.out).2.2 pl); (case aB => exact pB); (case aF => exact (fun k_ hk => Kd.fresh' (Kd.R_lt (Kd.R_below HO_7.out pl)) k_ hk)); (case aO => exact (Kd.R_below (Kd.R_mono HO546.out (fun _ hk => hk.2)) pl)); (case aS => exact (below_size pB)); (case aL => have := LMc29.out; omega); intro v548 w39 ho hb hg hat; rw [← Ny547.out] at ho; have n0_ := am (Kd.R_after (ok := (fun _ => True)) (Kd.R_below HO_7.out pl) hg hat); have n1_ := am (blk_grown (g := gb540) (o := .cells #[.bool false, .slice none 0 0, .int .i64 0] 24 (0, 0)) (blk_below BK540.out pl) hg (Kd.R_ne HO546.out BK540.out (by decide))); have n2_ := am (blk_grown (g := gb543) (o := .cells #[.bool ((bt a0 0) == 45), .slice none 0 0, .int .i64 x544002_2] 30 (0, 0)) (blk_below BK543.out pl) hg (Kd.R_ne HO546.out BK543.out (by decide))); have n3_ := am (hb); have n4_ := am (ho); clear HO_7 BK540 BK543 HB HO546; have HO_7 := n0_; have BK540 := n1_; have BK543 := n2_; have HB := n3_; have HO549 := n4_; clear n0_ n1_ n2_ n3_ n4_ ho hb hg hat))
                 go_roundg kj14
                 case measure => have := HJ2.out; have := HK2.out; have := HJ14.out; omega
                 case rel => exact ⟨(y547), (false), (wrap64 (x9_2 + 1)), (x544002_2), (by first | rfl | (simp; done) | (simp [*]; done)), (by first | rfl | (simp; done) | (simp [*]; done)), H', ⟨by have := HJ2.out; have := HK2.out; have := HJ14.out; omega⟩, ⟨by refine rp ?_; exact Kd.R_mono HO549.out (fun _ hk => trivial)⟩, ⟨blk_below BK540.out pl⟩, ⟨blk_below BK543.out pl⟩, ⟨pB⟩⟩
               ·rw [if_neg c29] at H
                exact absurd H (by simp)
            ·rw [if_neg c23] at H
             exact absurd H (by simp)
           ·rw [if_neg c22] at H
            exact absurd H (by simp)
          ·replace c21 := Bool.eq_false_iff.mpr c21
           subst c21
           rw [if_neg (show ¬ (false = true) by decide)] at H
           by_cases c41 : x9_2 < (a0.size : Int)
           ·rw [if_pos c41] at H
            have c41b0 : decide (x9_2 < (a0.size : Int)) = true := decide_eq_true c41
            clear c41
            have H' := am H
            clear H
            go_wp2
            go_loopg [9, 10, 11, 12] kj14 (fun kq v9 v10 v11 v12 w' => ∃ (x9_4 : Int) (x10_4 : Bool) (x11_4 : Int) (x12_4 : Int) (x541000_4 : Bool) (x541002_4 : Int), v9 = .int .i64 x9_4 ∧ v10 = .bool x10_4 ∧ v11 = .int .i64 x11_4 ∧ v12 = .int .i64 x12_4 ∧ Aside0 (bolterref02_Parse.l1 kq a0 x7_2 x9_4 x10_4 x11_4 x12_4 ((bt a0 0) == 45) x544002_2 = some (r1, r2, r3, r4)) ∧ Aside0 (kq ≤ kj14) ∧ Aside0 (Kd.R (Kd.int .i64) 3 w' w.heap.size (fun _ => True) u7 x7_2) ∧ Aside0 (w'.heap[gb540]? = some (.cells #[.bool x541000_4, (.slice none 0 0), .int .i64 x541002_4] 24 (0, 0))) ∧ Aside0 (w'.heap[gb543]? = some (.cells #[.bool ((bt a0 0) == 45), (.slice none 0 0), .int .i64 x544002_2] 30 (0, 0))) ∧ Aside0 (Below w.heap.size w w'))
            case atStart => exact ⟨(wrap64 (x9_2 + 1)), (false), (0), (0), (false), (0), (by first | rfl | (simp; done) | (simp [*]; done)), (by first | rfl | (simp; done) | (simp [*]; done)), (by first | rfl | (simp; done) | (simp [*]; done)), (by first | rfl | (simp; done) | (simp [*]; done)), H', ⟨Nat.le_refl _⟩, ⟨by refine rp ?_; exact HO_7.out⟩, ⟨blk_below BK540.out pl⟩, ⟨blk_below BK543.out pl⟩, ⟨pB⟩⟩
            case round =>
             clear H'
             (try clear c6); (try clear c8); (try clear c8b0); (try clear c8b1); (try clear c10); (try clear c10b0); (try clear c10b1); (try clear p11); (try clear q11); (try clear hx11); (try clear qi11); (try clear c21); (try clear c41); (try clear c41b0); (try clear hcz14_0); (try clear hcz14_1); (try clear hcz14_2); (try clear hfz14_0); (try clear hfz14_1); (try clear hfz14_2); (try clear p11); (try clear q11)
             obtain ⟨x9_4, x10_4, x11_4, x12_4, x541000_4, x541002_4, rfl, rfl, rfl, rfl, HA, HK4, HO_7, BK540, BK543, HB⟩ := hrel
             cases gk with
             | zero => exact absurd HA.out (by simp [bolterref02_Parse.l1])
             | succ k4 =>
              have H := HA.out
              clear HA
              simp only [bolterref02_Parse.l1] at H
              by_cases c42 : x9_4 < (a0.size : Int)
              ·rw [if_pos c42] at H
               have c42b0 : decide (x9_4 < (a0.size : Int)) = true := decide_eq_true c42
               clear c42
               by_cases c43 : 0 ≤ x9_4
               ·rw [if_pos c43] at H
                have c43b0 : decide (0 ≤ x9_4) = true := decide_eq_true c43
                clear c43
                by_cases c45 : (bt a0 x9_4) = 45
                ·rw [if_pos c45] at H
                 have c45b0 : ((bt a0 x9_4) == 45) = true := beq_iff_eq.mpr c45
                 have c45b1 : ((bt a0 x9_4) != 45) = false := bne_eq_false_iff_eq.mpr c45
                 clear c45
                 have H' := am H
                 clear H
                 have p44 : 0 ≤ (x9_4 : Int) := of_decide_eq_true pQ
                 have q44 : x9_4 < (a0.size : Int) := of_decide_eq_true pQ
                 have hx44 := bt_at a0 x9_4
                 replace p44 := eq_true p44
                 replace q44 := eq_true q44
                 go_wp2
                 go_roundg k4
                 case measure => have := HJ2.out; have := HK2.out; have := HJ14.out; have := HK4.out; omega
                 case rel => exact ⟨(wrap64 (x9_4 + 1)), (true), (x11_4), (x12_4), (x541000_4), (x541002_4), (by first | rfl | (simp; done) | (simp [*]; done)), (by first | rfl | (simp; done) | (simp [*]; done)), (by first | rfl | (simp; done) | (simp [*]; done)), (by first | rfl | (simp; done) | (simp [*]; done)), H', ⟨by have := HJ2.out; have := HK2.out; have := HJ14.out; have := HK4.out; omega⟩, ⟨by refine rp ?_; exact HO_7.out⟩, ⟨blk_below BK540.out pl⟩, ⟨blk_below BK543.out pl⟩, ⟨pB⟩⟩
                ·rw [if_neg c45] at H
                 have c45b0 : ((bt a0 x9_4) == 45) = false := beq_eq_false_iff_ne.mpr c45
                 have c45b1 : ((bt a0 x9_4) != 45) = true := bne_iff_ne.mpr c45
                 by_cases c47 : (bt a0 x9_4) = 43
                 ·rw [if_pos c47] at H
                  have c47b0 : ((bt a0 x9_4) == 43) = true := beq_iff_eq.mpr c47
                  have c47b1 : ((bt a0 x9_4) != 43) = false := bne_eq_false_iff_eq.mpr c47
                  clear c47
                  have H' := am H
                  clear H
                  have p44 : 0 ≤ (x9_4 : Int) := of_decide_eq_true pQ
                  have q44 : x9_4 < (a0.size : Int) := of_decide_eq_true pQ
                  have hx44 := bt_at a0 x9_4
                  replace p44 := eq_true p44
                  replace q44 := eq_true q44
                  have p46 : 0 ≤ (x9_4 : Int) := of_decide_eq_true pQ
                  have q46 : x9_4 < (a0.size : Int) := of_decide_eq_true pQ
                  have hx46 := bt_at a0 x9_4
                  replace p46 := eq_true p46
                  replace q46 := eq_true q46
                  go_wp2
                  go_roundg k4
                  case measure => have := HJ2.out; have := HK2.out; have := HJ14.out; have := HK4.out; omega
                  case rel => exact ⟨(wrap64 (x9_4 + 1)), (x10_4), (x11_4), (x12_4), (x541000_4), (x541002_4), (by first | rfl | (simp; done) | (simp [*]; done)), (by first | rfl | (simp; done) | (simp [*]; done)), (by first | rfl | (simp; done) | (simp [*]; done)), (by first | rfl | (simp; done) | (simp [*]; done)), H', ⟨by have := HJ2.out; have := HK2.out; have := HJ14.out; have := HK4.out; omega⟩, ⟨by refine rp ?_; exact HO_7.out⟩, ⟨blk_below BK540.out pl⟩, ⟨blk_below BK543.out pl⟩, ⟨pB⟩⟩
                 ·rw [if_neg c47] at H
                  have c47b0 : ((bt a0 x9_4) == 43) = false := beq_eq_false_iff_ne.mpr c47
                  have c47b1 : ((bt a0 x9_4) != 43) = true := bne_iff_ne.mpr c47
                  have HC48 := am H
                  clear H
                  have p44 : 0 ≤ (x9_4 : Int) := of_decide_eq_true pQ
                  have q44 : x9_4 < (a0.size : Int) := of_decide_eq_true pQ
                  have hx44 := bt_at a0 x9_4
                  replace p44 := eq_true p44
                  replace q44 := eq_true q44
                  have p46 : 0 ≤ (x9_4 : Int) := of_decide_eq_true pQ
                  have q46 : x9_4 < (a0.size : Int) := of_decide_eq_true pQ
                  have hx46 := bt_at a0 x9_4
                  replace p46 := eq_true p46
                  replace q46 := eq_true q46
                  go_upto_region 26 with (fail)
                  go_cut [107] (fun v107 wc => ∃ (kq : Nat) (x107_47 : Bool), v107 = .bool x107_47 ∧ Aside0 (bolterref02_Parse.j4 kq a0 x7_2 x9_4 x10_4 x11_4 x12_4 x107_47 ((bt a0 0) == 45) x544002_2 = some (r1, r2, r3, r4)) ∧ Aside0 (kq ≤ k4) ∧ Aside0 (Kd.R (Kd.int .i64) 3 wc w.heap.size (fun _ => True) u7 x7_2) ∧ Aside0 (wc.heap[gb540]? = some (.cells #[.bool x541000_4, (.slice none 0 0), .int .i64 x541002_4] 24 (0, 0))) ∧ Aside0 (wc.heap[gb543]? = some (.cells #[.bool ((bt a0 0) == 45), (.slice none 0 0), .int .i64 x544002_2] 30 (0, 0))) ∧ Aside0 (Below w.heap.size w wc))
                  case first =>
                   have H := HC48.out
                   clear HC48
                   by_cases c49 : x11_4 > 0
                   ·rw [if_pos c49] at H
                    have c49b0 : decide (0 < x11_4) = true := decide_eq_true c49
                    clear c49
                    (first | rw [c49b0] | (simp only [i64_w, i32_w]; rw [c49b0]) | skip)
                    have H' := am H
                    clear H
                    go_wp2
                    go_meet
                    case rel => exact ⟨_, (true), (by first | rfl | (simp; done) | (simp [*]; done)), H', ⟨by have := HJ2.out; have := HK2.out; have := HJ14.out; have := HK4.out; first | omega | exact Nat.le_refl _⟩, ⟨by refine rp ?_; exact HO_7.out⟩, ⟨blk_below BK540.out pl⟩, ⟨blk_below BK543.out pl⟩, ⟨pB⟩⟩
                   ·rw [if_neg c49] at H
                    have c49b0 : decide (0 < x11_4) = false := decide_eq_false c49
                    clear c49
                    (first | rw [c49b0] | (simp only [i64_w, i32_w]; rw [c49b0]) | skip)
                    have H' := am H
                    clear H
                    have p50 : 0 ≤ (x9_4 : Int) := of_decide_eq_true pQ
                    have q50 : x9_4 < (a0.size : Int) := of_decide_eq_true pQ
                    have hx50 := bt_at a0 x9_4
                    replace p50 := eq_true p50
                    replace q50 := eq_true q50
                    go_wp2
                    go_meet
                    case rel => exact ⟨_, (((bt a0 x9_4) != 48)), (by first | rfl | (simp; done) | (simp [*]; done)), H', ⟨by have := HJ2.out; have := HK2.out; have := HJ14.out; have := HK4.out; first | omega | exact Nat.le_refl _⟩, ⟨by refine rp ?_; exact HO_7.out⟩, ⟨blk_below BK540.out pl⟩, ⟨blk_below BK543.out pl⟩, ⟨pB⟩⟩
                  case rest =>
                   clear HC48
                   (try clear c6); (try clear c8); (try clear c8b0); (try clear c8b1); (try clear c10); (try clear c10b0); (try clear c10b1); (try clear p11); (try clear q11); (try clear hx11); (try clear qi11); (try clear c21); (try clear c41); (try clear c41b0); (try clear c42); (try clear c42b0); (try clear c43); (try clear c43b0); (try clear p44); (try clear q44); (try clear hx44); (try clear c45); (try clear c45b0); (try clear c45b1); (try clear p46); (try clear q46); (try clear hx46); (try clear c47); (try clear c47b0); (try clear c47b1); (try clear hcz14_0); (try clear hcz14_1); (try clear hcz14_2); (try clear hfz14_0); (try clear hfz14_1); (try clear hfz14_2); (try clear p11); (try clear p44); (try clear p46); (try clear q11); (try clear q44); (try clear q46)
                   obtain ⟨kq, x107_47, rfl, HA, HJ47, HO_7, BK540, BK543, HB⟩ := hcut
                   cases kq with
                   | zero => exact absurd HA.out (by simp [bolterref02_Parse.j4])
                   | succ kj47 =>
                    have H := HA.out
                    clear HA
                    simp only [bolterref02_Parse.j4] at H
                    by_cases c51 : x107_47 = true
                    ·subst c51
                     rw [if_pos rfl] at H
                     by_cases c52 : (wrap64 (x12_4 + 1)) > 6
                     ·rw [if_pos c52] at H
                      have c52b0 : decide (6 < (wrap64 (x12_4 + 1))) = true := decide_eq_true c52
                      clear c52
                      simp only [Option.some.injEq, Prod.mk.injEq] at H
                      obtain ⟨rfl, rfl, rfl, rfl⟩ := H
                      have hnb53 := NB540_543.out
                      have hnc53 := NB543_540.out
                      obtain ⟨hcz54_0, hcz54_1, hcz54_2, hfz54_0, hfz54_1, hfz54_2⟩ := cEc BK540.out
                      go_wp2
                      refine bodyPost_ret (results_ct rfl _ _ gb540 24 #[.bool false, .slice none 0 0, .int .i64 0] (0, 0) _ rfl (by refine bp ?_; refine blk_put (cs := #[.bool false, .slice none 0 0, .int .i64 x541002_4]) ?_ 2 _ rfl; refine bp ?_; refine blk_put (cs := #[.bool false, .slice none 0 0, .int .i64 x541002_4]) ?_ 1 _ rfl; refine bp ?_; refine blk_put (cs := #[.bool x541000_4, .slice none 0 0, .int .i64 x541002_4]) ?_ 0 _ rfl; exact bp BK540.out) Tryz.underlying24 rfl (by kernel_rfl)) rfl ?_
                      exact ⟨_, pE, by first | exact Kd.R_nil _ _ _ _ _ | exact Kd.N_nil _ _ _ _ _ | exact Kd.V_nil _ _ _ _ _ | exact Kd.Q_nil _ _ _ _ _ | exact Kd.S_nil _ _ _ _ _, pB⟩
                     ·rw [if_neg c52] at H
                      have c52b0 : decide (6 < (wrap64 (x12_4 + 1))) = false := decide_eq_false c52
                      clear c52
                      by_cases c55 : 0 ≤ x9_4
                      ·rw [if_pos c55] at H
                       have c55b0 : decide (0 ≤ x9_4) = true := decide_eq_true c55
                       clear c55
                       by_cases c56 : x9_4 < (a0.size : Int)
                       ·rw [if_pos c56] at H
                        have c56b0 : decide (x9_4 < (a0.size : Int)) = true := decide_eq_true c56
                        clear c56
                        have H' := am H
                        clear H
                        have p57 : 0 ≤ (x9_4 : Int) := of_decide_eq_true pQ
                        have q57 : x9_4 < (a0.size : Int) := of_decide_eq_true pQ
                        have hx57 := bt_at a0 x9_4
                        replace p57 := eq_true p57
                        replace q57 := eq_true q57
                        go_wp2
                        go_roundg kj47
                        case measure => have := HJ2.out; have := HK2.out; have := HJ14.out; have := HK4.out; have := HJ47.out; omega
                        case rel => exact ⟨(wrap64 (x9_4 + 1)), (x10_4), (wrap64 ((wrap64 (10 * x11_4)) + (((bt a0 x9_4) - 48) % 256))), (wrap64 (x12_4 + 1)), (x541000_4), (x541002_4), (by first | rfl | (simp; done) | (simp [*]; done)), (by first | rfl | (simp; done) | (simp [*]; done)), (by first | rfl | (simp; done) | (simp [*]; done)), (by first | rfl | (simp; done) | (simp [*]; done)), H', ⟨by have := HJ2.out; have := HK2.out; have := HJ14.out; have := HK4.out; have := HJ47.out; omega⟩, ⟨by refine rp ?_; exact HO_7.out⟩, ⟨blk_below BK540.out pl⟩, ⟨blk_below BK543.out pl⟩, ⟨pB⟩⟩
                       ·rw [if_neg c56] at H
                        exact absurd H (by simp)
                      ·rw [if_neg c55] at H
                       exact absurd H (by simp)
                    ·replace c51 := Bool.eq_false_iff.mpr c51
                     subst c51
                     rw [if_neg (show ¬ (false = true) by decide)] at H
                     by_cases c58 : x12_4 > 6
                     ·rw [if_pos c58] at H
                      have c58b0 : decide (6 < x12_4) = true := decide_eq_true c58
                      clear c58
                      simp only [Option.some.injEq, Prod.mk.injEq] at H
                      obtain ⟨rfl, rfl, rfl, rfl⟩ := H
                      have hnb59 := NB540_543.out
                      have hnc59 := NB543_540.out
                      obtain ⟨hcz60_0, hcz60_1, hcz60_2, hfz60_0, hfz60_1, hfz60_2⟩ := cEc BK540.out
                      go_wp2
                      refine bodyPost_ret (results_ct rfl _ _ gb540 24 #[.bool false, .slice none 0 0, .int .i64 0] (0, 0) _ rfl (by refine bp ?_; refine blk_put (cs := #[.bool false, .slice none 0 0, .int .i64 x541002_4]) ?_ 2 _ rfl; refine bp ?_; refine blk_put (cs := #[.bool false, .slice none 0 0, .int .i64 x541002_4]) ?_ 1 _ rfl; refine bp ?_; refine blk_put (cs := #[.bool x541000_4, .slice none 0 0, .int .i64 x541002_4]) ?_ 0 _ rfl; exact bp BK540.out) Tryz.underlying24 rfl (by kernel_rfl)) rfl ?_
                      exact ⟨_, pE, by first | exact Kd.R_nil _ _ _ _ _ | exact Kd.N_nil _ _ _ _ _ | exact Kd.V_nil _ _ _ _ _ | exact Kd.Q_nil _ _ _ _ _ | exact Kd.S_nil _ _ _ _ _, pB⟩
                     ·rw [if_neg c58] at H
                      have c58b0 : decide (6 < x12_4) = false := decide_eq_false c58
                      clear c58
                      by_cases c61 : 0 ≤ x9_4
                      ·rw [if_pos c61] at H
                       have c61b0 : decide (0 ≤ x9_4) = true := decide_eq_true c61
                       clear c61
                       by_cases c62 : x9_4 < (a0.size : Int)
                       ·rw [if_pos c62] at H
                        have c62b0 : decide (x9_4 < (a0.size : Int)) = true := decide_eq_true c62
                        clear c62
                        have H' := am H
                        clear H
                        have p63 : 0 ≤ (x9_4 : Int) := of_decide_eq_true pQ
                        have q63 : x9_4 < (a0.size : Int) := of_decide_eq_true pQ
                        have hx63 := bt_at a0 x9_4
                        replace p63 := eq_true p63
                        replace q63 := eq_true q63
                        go_wp2
                        go_roundg kj47
                        case measure => have := HJ2.out; have := HK2.out; have := HJ14.out; have := HK4.out; have := HJ47.out; omega
                        case rel => exact ⟨(wrap64 (x9_4 + 1)), (x10_4), (wrap64 ((wrap64 (10 * x11_4)) + (((bt a0 x9_4) - 48) % 256))), (x12_4), (x541000_4), (x541002_4), (by first | rfl | (simp; done) | (simp [*]; done)), (by first | rfl | (simp; done) | (simp [*]; done)), (by first | rfl | (simp; done) | (simp [*]; done)), (by first | rfl | (simp; done) | (simp [*]; done)), H', ⟨by have := HJ2.out; have := HK2.out; have := HJ14.out; have := HK4.out; have := HJ47.out; omega⟩, ⟨by refine rp ?_; exact HO_7.out⟩, ⟨blk_below BK540.out pl⟩, ⟨blk_below BK543.out pl⟩, ⟨pB⟩⟩
                       ·rw [if_neg c62] at H
                        exact absurd H (by simp)
                      ·rw [if_neg c61] at H
                       exact absurd H (by simp)
               ·rw [if_neg c43] at H
                exact absurd H (by simp)
              ·rw [if_neg c42] at H
               have c42b0 : decide (x9_4 < (a0.size : Int)) = false := decide_eq_false c42
               clear c42
               by_cases c64 : x10_4 = true
               ·subst c64
                rw [if_pos rfl] at H
                obtain ⟨⟨t550, t551, t554, t555⟩, A65, H⟩ := ob H; (try dsimp only at H)
                simp only [Option.some.injEq, Prod.mk.injEq] at H
                obtain ⟨rfl, rfl, rfl, rfl⟩ := H
                have hnb66 := NB543_540.out
                have hnc66 := NB540_543.out
                obtain ⟨hcz67_0, hcz67_1, hcz67_2, hfz67_0, hfz67_1, hfz67_2⟩ := cEc BK543.out
                go_wp2_with (first | ((with_reducible refine gate_store (t := 3) (p := 128) rfl ?_); refine store_event (t := 3) (p := 128) (v := ?vo_w68) (w1 := (wr.setCell ⟨gb543, 2, none⟩ (.int .i64 (wrap64 (x544002_2 + (wrap64 (-x11_4))))))) ?hg ?ho ?hn ?hr ?_; (case ho => rfl); (case hg => rfl); (case hn => rfl); (case hr => first | (go_simp; done) | (go_simp; rfl)); intro w68 hw; have n0_ : Aside0 (Kd.R (Kd.int .i64) 3 w68 w.heap.size (fun _ => True) u7 x7_2) := ⟨(by rw [hw]; exact (Kd.R_below (Kd.R_mono (Kd.R_far (p := ⟨gb543, 2, none⟩) (Kd.R_types HO_7.out BK543.out (by decide)) (fun _ hk => hk.2) (.int .i64 (wrap64 (x544002_2 + (wrap64 (-x11_4)))))) (fun _ hk => trivial)) pl))⟩; have n1_ : Aside0 (w68.heap[gb540]? = some (.cells #[.bool x541000_4, .slice none 0 0, .int .i64 x541002_4] 24 (0, 0))) := ⟨(by rw [hw]; exact (bf NB540_543.out BK540.out))⟩; have n2_ : Aside0 (w68.heap[gb543]? = some (.cells #[.bool ((bt a0 0) == 45), .slice none 0 0, .int .i64 (wrap64 (x544002_2 + (wrap64 (-x11_4))))] 30 (0, 0))) := ⟨(by rw [hw]; exact (by refine bp ?_; refine blk_put (cs := #[.bool ((bt a0 0) == 45), .slice none 0 0, .int .i64 x544002_2]) ?_ 2 _ rfl; exact bp BK543.out))⟩; have n3_ : Aside0 (Below w.heap.size w w68) := ⟨(by rw [hw]; exact pB)⟩; clear hw HO_7 BK540 BK543 HB; have HO_7 := n0_; have BK540 := n1_; have BK543 := n2_; have HB := n3_; clear n0_ n1_ n2_ n3_; obtain ⟨Ao69, co69, eo69⟩ := Kd.R_slice HO_7.out; subst eo69; obtain ⟨hcz70_0, hcz70_1, hcz70_2, hfz70_0, hfz70_1, hfz70_2⟩ := cEc BK543.out) | ((with_reducible refine gate_store (t := 28) (p := 130) rfl ?_); refine store_event (t := 28) (p := 130) (v := ?vo_w71) (w1 := (w68.setCell ⟨gb543, 1, none⟩ (.slice Ao69 x7_2.length co69))) ?hg ?ho ?hn ?hr ?_; (case ho => rfl); (case hg => rfl); (case hn => rfl); (case hr => first | (go_simp; done) | (go_simp; rfl)); intro w71 hw; have n0_ : Aside0 (Kd.R (Kd.int .i64) 3 w71 w.heap.size (fun _ => True) (.slice Ao69 x7_2.length co69) x7_2) := ⟨(by rw [hw]; exact (Kd.R_below (Kd.R_mono (Kd.R_far (p := ⟨gb543, 1, none⟩) (Kd.R_types HO_7.out BK543.out (by decide)) (fun _ hk => hk.2) (.slice Ao69 x7_2.length co69)) (fun _ hk => trivial)) pl))⟩; have n1_ : Aside0 (w71.heap[gb540]? = some (.cells #[.bool x541000_4, .slice none 0 0, .int .i64 x541002_4] 24 (0, 0))) := ⟨(by rw [hw]; exact (bf NB540_543.out BK540.out))⟩; have n2_ : Aside0 (w71.heap[gb543]? = some (.cells #[.bool ((bt a0 0) == 45), .slice Ao69 x7_2.length co69, .int .i64 (wrap64 (x544002_2 + (wrap64 (-x11_4))))] 30 (0, 0))) := ⟨(by rw [hw]; exact (by refine bp ?_; refine blk_put (cs := #[.bool ((bt a0 0) == 45), .slice none 0 0, .int .i64 (wrap64 (x544002_2 + (wrap64 (-x11_4))))]) ?_ 1 _ rfl; exact bp BK543.out))⟩; have n3_ : Aside0 (Below w.heap.size w w71) := ⟨(by rw [hw]; exact pB)⟩; clear hw HO_7 BK540 BK543 HB; have HO_7 := n0_; have BK540 := n1_; have BK543 := n2_; have HB := n3_; clear n0_ n1_ n2_ n3_; obtain ⟨hcz72_0, hcz72_1, hcz72_2, hfz72_0, hfz72_1, hfz72_2⟩ := cEc BK543.out) | (refine gL (some 132) Tryz.func23 #[.agg #[.bool ((bt a0 0) == 45), .slice Ao69 x7_2.length co69, .int .i64 (wrap64 (x544002_2 + (wrap64 (-x11_4))))]] (h := ?_); (with_reducible refine (bolterref02_Made.calls k4 ((bt a0 0) == 45) (fun k_ => some k_ = (.slice Ao69 x7_2.length co69 : Value).ownBlock) (.slice Ao69 x7_2.length co69) x7_2 (wrap64 (x544002_2 + (wrap64 (-x11_4)))) t550 t551 t554 t555 w _ ?side1 ?side2 A65.out).mono ?_); (case side1 => exact pB); (case side2 => exact Kd.R_tight rfl HO_7.out); rintro e w73 ⟨v552, rfl, ho0, hb, hkp⟩; refine ⟨_, rfl, ?_⟩; have n0_ := am (blk_kept (blk_below BK540.out pl) hkp (fun hs_ => (fun e_ => (Kd.R_ne HO_7.out BK540.out (by decide)) e_) hs_)); have n1_ := am (blk_kept (blk_below BK543.out pl) hkp (fun hs_ => (fun e_ => (Kd.R_ne HO_7.out BK543.out (by decide)) e_) hs_)); have n2_ := am (Kd.R_mono (ok' := fun k_ => True) ho0 (fun k_ hk_ => trivial)); have n3_ := am (hb); clear BK540 BK543 HB HO_7; have BK540 := n0_; have BK543 := n1_; have HO553 := n2_; have HB := n3_; clear n0_ n1_ n2_ n3_; (try clear hb); (try clear hkp); (try clear ho0); obtain ⟨hcz74_0, hcz74_1, hcz74_2, hfz74_0, hfz74_1, hfz74_2⟩ := cEc BK540.out; obtain ⟨Ao75, co75, eo75⟩ := Kd.R_slice HO553.out; subst eo75))
                refine bodyPost_ret (results_ct rfl _ _ gb540 24 #[.bool t550, .slice Ao75 t551.length co75, .int .i64 t554] (0, 0) _ rfl (by refine bp ?_; refine blk_put (cs := #[.bool t550, .slice Ao75 t551.length co75, .int .i64 x541002_4]) ?_ 2 _ rfl; refine bp ?_; refine blk_put (cs := #[.bool t550, .slice none 0 0, .int .i64 x541002_4]) ?_ 1 _ rfl; refine bp ?_; refine blk_put (cs := #[.bool x541000_4, .slice none 0 0, .int .i64 x541002_4]) ?_ 0 _ rfl; exact bp BK540.out) Tryz.underlying24 rfl (by kernel_rfl)) rfl ?_
                exact ⟨_, pE, by refine rp ?_; exact Kd.R_mono (Kd.R_far (p := ⟨gb540, 2, none⟩) (Kd.R_far (p := ⟨gb540, 1, none⟩) (Kd.R_far (p := ⟨gb540, 0, none⟩) (Kd.R_types HO553.out BK540.out (by decide)) (fun _ hk => hk.2) (.bool t550)) (fun _ hk => hk.2) (.slice Ao75 t551.length co75)) (fun _ hk => hk.2) (.int .i64 t554)) (fun _ hk => trivial), pB⟩
               ·replace c64 := Bool.eq_false_iff.mpr c64
                subst c64
                rw [if_neg (show ¬ (false = true) by decide)] at H
                obtain ⟨⟨t556, t557, t560, t561⟩, A76, H⟩ := ob H; (try dsimp only at H)
                simp only [Option.some.injEq, Prod.mk.injEq] at H
                obtain ⟨rfl, rfl, rfl, rfl⟩ := H
                have hnb77 := NB543_540.out
                have hnc77 := NB540_543.out
                obtain ⟨hcz78_0, hcz78_1, hcz78_2, hfz78_0, hfz78_1, hfz78_2⟩ := cEc BK543.out
                go_wp2_with (first | ((with_reducible refine gate_store (t := 3) (p := 128) rfl ?_); refine store_event (t := 3) (p := 128) (v := ?vo_w79) (w1 := (wr.setCell ⟨gb543, 2, none⟩ (.int .i64 (wrap64 (x544002_2 + x11_4))))) ?hg ?ho ?hn ?hr ?_; (case ho => rfl); (case hg => rfl); (case hn => rfl); (case hr => first | (go_simp; done) | (go_simp; rfl)); intro w79 hw; have n0_ : Aside0 (Kd.R (Kd.int .i64) 3 w79 w.heap.size (fun _ => True) u7 x7_2) := ⟨(by rw [hw]; exact (Kd.R_below (Kd.R_mono (Kd.R_far (p := ⟨gb543, 2, none⟩) (Kd.R_types HO_7.out BK543.out (by decide)) (fun _ hk => hk.2) (.int .i64 (wrap64 (x544002_2 + x11_4)))) (fun _ hk => trivial)) pl))⟩; have n1_ : Aside0 (w79.heap[gb540]? = some (.cells #[.bool x541000_4, .slice none 0 0, .int .i64 x541002_4] 24 (0, 0))) := ⟨(by rw [hw]; exact (bf NB540_543.out BK540.out))⟩; have n2_ : Aside0 (w79.heap[gb543]? = some (.cells #[.bool ((bt a0 0) == 45), .slice none 0 0, .int .i64 (wrap64 (x544002_2 + x11_4))] 30 (0, 0))) := ⟨(by rw [hw]; exact (by refine bp ?_; refine blk_put (cs := #[.bool ((bt a0 0) == 45), .slice none 0 0, .int .i64 x544002_2]) ?_ 2 _ rfl; exact bp BK543.out))⟩; have n3_ : Aside0 (Below w.heap.size w w79) := ⟨(by rw [hw]; exact pB)⟩; clear hw HO_7 BK540 BK543 HB; have HO_7 := n0_; have BK540 := n1_; have BK543 := n2_; have HB := n3_; clear n0_ n1_ n2_ n3_; obtain ⟨Ao80, co80, eo80⟩ := Kd.R_slice HO_7.out; subst eo80; obtain ⟨hcz81_0, hcz81_1, hcz81_2, hfz81_0, hfz81_1, hfz81_2⟩ := cEc BK543.out) | ((with_reducible refine gate_store (t := 28) (p := 130) rfl ?_); refine store_event (t := 28) (p := 130) (v := ?vo_w82) (w1 := (w79.setCell ⟨gb543, 1, none⟩ (.slice Ao80 x7_2.length co80))) ?hg ?ho ?hn ?hr ?_; (case ho => rfl); (case hg => rfl); (case hn => rfl); (case hr => first | (go_simp; done) | (go_simp; rfl)); intro w82 hw; have n0_ : Aside0 (Kd.R (Kd.int .i64) 3 w82 w.heap.size (fun _ => True) (.slice Ao80 x7_2.length co80) x7_2) := ⟨(by rw [hw]; exact (Kd.R_below (Kd.R_mono (Kd.R_far (p := ⟨gb543, 1, none⟩) (Kd.R_types HO_7.out BK543.out (by decide)) (fun _ hk => hk.2) (.slice Ao80 x7_2.length co80)) (fun _ hk => trivial)) pl))⟩; have n1_ : Aside0 (w82.heap[gb540]? = some (.cells #[.bool x541000_4, .slice none 0 0, .int .i64 x541002_4] 24 (0, 0))) := ⟨(by rw [hw]; exact (bf NB540_543.out BK540.out))⟩; have n2_ : Aside0 (w82.heap[gb543]? = some (.cells #[.bool ((bt a0 0) == 45), .slice Ao80 x7_2.length co80, .int .i64 (wrap64 (x544002_2 + x11_4))] 30 (0, 0))) := ⟨(by rw [hw]; exact (by refine bp ?_; refine blk_put (cs := #[.bool ((bt a0 0) == 45), .slice none 0 0, .int .i64 (wrap64 (x544002_2 + x11_4))]) ?_ 1 _ rfl; exact bp BK543.out))⟩; have n3_ : Aside0 (Below w.heap.size w w82) := ⟨(by rw [hw]; exact pB)⟩; clear hw HO_7 BK540 BK543 HB; have HO_7 := n0_; have BK540 := n1_; have BK543 := n2_; have HB := n3_; clear n0_ n1_ n2_ n3_; obtain ⟨hcz83_0, hcz83_1, hcz83_2, hfz83_0, hfz83_1, hfz83_2⟩ := cEc BK543.out) | (refine gL (some 132) Tryz.func23 #[.agg #[.bool ((bt a0 0) == 45), .slice Ao80 x7_2.length co80, .int .i64 (wrap64 (x544002_2 + x11_4))]] (h := ?_); (with_reducible refine (bolterref02_Made.calls k4 ((bt a0 0) == 45) (fun k_ => some k_ = (.slice Ao80 x7_2.length co80 : Value).ownBlock) (.slice Ao80 x7_2.length co80) x7_2 (wrap64 (x544002_2 + x11_4)) t556 t557 t560 t561 w _ ?side1 ?side2 A76.out).mono ?_); (case side1 => exact pB); (case side2 => exact Kd.R_tight rfl HO_7.out); rintro e w84 ⟨v558, rfl, ho0, hb, hkp⟩; refine ⟨_, rfl, ?_⟩; have n0_ := am (blk_kept (blk_below BK540.out pl) hkp (fun hs_ => (fun e_ => (Kd.R_ne HO_7.out BK540.out (by decide)) e_) hs_)); have n1_ := am (blk_kept (blk_below BK543.out pl) hkp (fun hs_ => (fun e_ => (Kd.R_ne HO_7.out BK543.out (by decide)) e_) hs_)); have n2_ := am (Kd.R_mono (ok' := fun k_ => True) ho0 (fun k_ hk_ => trivial)); have n3_ := am (hb); clear BK540 BK543 HB HO_7; have BK540 := n0_; have BK543 := n1_; have HO559 := n2_; have HB := n3_; clear n0_ n1_ n2_ n3_; (try clear hb); (try clear hkp); (try clear ho0); obtain ⟨hcz85_0, hcz85_1, hcz85_2, hfz85_0, hfz85_1, hfz85_2⟩ := cEc BK540.out; obtain ⟨Ao86, co86, eo86⟩ := Kd.R_slice HO559.out; subst eo86))
                refine bodyPost_ret (results_ct rfl _ _ gb540 24 #[.bool t556, .slice Ao86 t557.length co86, .int .i64 t560] (0, 0) _ rfl (by refine bp ?_; refine blk_put (cs := #[.bool t556, .slice Ao86 t557.length co86, .int .i64 x541002_4]) ?_ 2 _ rfl; refine bp ?_; refine blk_put (cs := #[.bool t556, .slice none 0 0, .int .i64 x541002_4]) ?_ 1 _ rfl; refine bp ?_; refine blk_put (cs := #[.bool x541000_4, .slice none 0 0, .int .i64 x541002_4]) ?_ 0 _ rfl; exact bp BK540.out) Tryz.underlying24 rfl (by kernel_rfl)) rfl ?_
                exact ⟨_, pE, by refine rp ?_; exact Kd.R_mono (Kd.R_far (p := ⟨gb540, 2, none⟩) (Kd.R_far (p := ⟨gb540, 1, none⟩) (Kd.R_far (p := ⟨gb540, 0, none⟩) (Kd.R_types HO559.out BK540.out (by decide)) (fun _ hk => hk.2) (.bool t556)) (fun _ hk => hk.2) (.slice Ao86 t557.length co86)) (fun _ hk => hk.2) (.int .i64 t560)) (fun _ hk => trivial), pB⟩
           ·rw [if_neg c41] at H
            have c41b0 : decide (x9_2 < (a0.size : Int)) = false := decide_eq_false c41
            clear c41
            obtain ⟨⟨t562, t563, t566, t567⟩, A87, H⟩ := ob H; (try dsimp only at H)
            simp only [Option.some.injEq, Prod.mk.injEq] at H
            obtain ⟨rfl, rfl, rfl, rfl⟩ := H
            obtain ⟨Ao88, co88, eo88⟩ := Kd.R_slice HO_7.out
            subst eo88
            have hnb89 := NB543_540.out
            have hnc89 := NB540_543.out
            obtain ⟨hcz90_0, hcz90_1, hcz90_2, hfz90_0, hfz90_1, hfz90_2⟩ := cEc BK543.out
            go_wp2_with (first | ((with_reducible refine gate_store (t := 28) (p := 130) rfl ?_); refine store_event (t := 28) (p := 130) (v := ?vo_w91) (w1 := (wc.setCell ⟨gb543, 1, none⟩ (.slice Ao88 x7_2.length co88))) ?hg ?ho ?hn ?hr ?_; (case ho => rfl); (case hg => rfl); (case hn => rfl); (case hr => first | (go_simp; done) | (go_simp; rfl)); intro w91 hw; have n0_ : Aside0 (Kd.R (Kd.int .i64) 3 w91 w.heap.size (fun _ => True) (.slice Ao88 x7_2.length co88) x7_2) := ⟨(by rw [hw]; exact (Kd.R_below (Kd.R_mono (Kd.R_far (p := ⟨gb543, 1, none⟩) (Kd.R_types HO_7.out BK543.out (by decide)) (fun _ hk => hk.2) (.slice Ao88 x7_2.length co88)) (fun _ hk => trivial)) pl))⟩; have n1_ : Aside0 (w91.heap[gb540]? = some (.cells #[.bool false, .slice none 0 0, .int .i64 0] 24 (0, 0))) := ⟨(by rw [hw]; exact (bf NB540_543.out BK540.out))⟩; have n2_ : Aside0 (w91.heap[gb543]? = some (.cells #[.bool ((bt a0 0) == 45), .slice Ao88 x7_2.length co88, .int .i64 x544002_2] 30 (0, 0))) := ⟨(by rw [hw]; exact (by refine bp ?_; refine blk_put (cs := #[.bool ((bt a0 0) == 45), .slice none 0 0, .int .i64 x544002_2]) ?_ 1 _ rfl; exact bp BK543.out))⟩; have n3_ : Aside0 (Below w.heap.size w w91) := ⟨(by rw [hw]; exact pB)⟩; clear hw HO_7 BK540 BK543 HB; have HO_7 := n0_; have BK540 := n1_; have BK543 := n2_; have HB := n3_; clear n0_ n1_ n2_ n3_; obtain ⟨hcz92_0, hcz92_1, hcz92_2, hfz92_0, hfz92_1, hfz92_2⟩ := cEc BK543.out) | (refine gL (some 132) Tryz.func23 #[.agg #[.bool ((bt a0 0) == 45), .slice Ao88 x7_2.length co88, .int .i64 x544002_2]] (h := ?_); (with_reducible refine (bolterref02_Made.calls kj14 ((bt a0 0) == 45) (fun k_ => some k_ = (.slice Ao88 x7_2.length co88 : Value).ownBlock) (.slice Ao88 x7_2.length co88) x7_2 x544002_2 t562 t563 t566 t567 w _ ?side1 ?side2 A87.out).mono ?_); (case side1 => exact pB); (case side2 => exact Kd.R_tight rfl HO_7.out); rintro e w93 ⟨v564, rfl, ho0, hb, hkp⟩; refine ⟨_, rfl, ?_⟩; have n0_ := am (blk_kept (blk_below BK540.out pl) hkp (fun hs_ => (fun e_ => (Kd.R_ne HO_7.out BK540.out (by decide)) e_) hs_)); have n1_ := am (blk_kept (blk_below BK543.out pl) hkp (fun hs_ => (fun e_ => (Kd.R_ne HO_7.out BK543.out (by decide)) e_) hs_)); have n2_ := am (Kd.R_mono (ok' := fun k_ => True) ho0 (fun k_ hk_ => trivial)); have n3_ := am (hb); clear BK540 BK543 HB HO_7; have BK540 := n0_; have BK543 := n1_; have HO565 := n2_; have HB := n3_; clear n0_ n1_ n2_ n3_; (try clear hb); (try clear hkp); (try clear ho0); obtain ⟨hcz94_0, hcz94_1, hcz94_2, hfz94_0, hfz94_1, hfz94_2⟩ := cEc BK540.out; obtain ⟨Ao95, co95, eo95⟩ := Kd.R_slice HO565.out; subst eo95))
            refine bodyPost_ret (results_ct rfl _ _ gb540 24 #[.bool t562, .slice Ao95 t563.length co95, .int .i64 t566] (0, 0) _ rfl (by refine bp ?_; refine blk_put (cs := #[.bool t562, .slice Ao95 t563.length co95, .int .i64 0]) ?_ 2 _ rfl; refine bp ?_; refine blk_put (cs := #[.bool t562, .slice none 0 0, .int .i64 0]) ?_ 1 _ rfl; refine bp ?_; refine blk_put (cs := #[.bool false, .slice none 0 0, .int .i64 0]) ?_ 0 _ rfl; exact bp BK540.out) Tryz.underlying24 rfl (by kernel_rfl)) rfl ?_
            exact ⟨_, pE, by refine rp ?_; exact Kd.R_mono (Kd.R_far (p := ⟨gb540, 2, none⟩) (Kd.R_far (p := ⟨gb540, 1, none⟩) (Kd.R_far (p := ⟨gb540, 0, none⟩) (Kd.R_types HO565.out BK540.out (by decide)) (fun _ hk => hk.2) (.bool t562)) (fun _ hk => hk.2) (.slice Ao95 t563.length co95)) (fun _ hk => hk.2) (.int .i64 t566)) (fun _ hk => trivial), pB⟩
     ·rw [if_neg c10] at H
      exact absurd H (by simp)
def bolterlaw02_Of.f (k : Nat) (a0 : ByteArray) : Option (Bool × List Int × Int) := (bolterref02_Parse.f k a0).bind fun bt569 => (some (bt569.1, bt569.2.1, bt569.2.2.1))
set_option maxHeartbeats 8000000 in
set_option maxRecDepth 100000 in
theorem bolterlaw02_Of.calls (k : Nat) (a0 : ByteArray) (r1 : Bool) (r2 : List Int) (r3 : Int) (w : World) (h : bolterlaw02_Of.f k a0 = some (r1, r2, r3)) :
  Calls Tryz.prog 62 #[.string a0] w fun e w' => ∃ v1_ : Value, e = .returned (.agg #[.bool r1, v1_, .int .i64 r3]) ∧ Kd.R (Kd.int .u32) 85 w' w.heap.size (fun _ => True) v1_ r2 ∧ Below w.heap.size w w' := by
 have hu24 := Tryz.underlying24
 have HB := am (Below.refl w.heap.size w)
 have H : ((bolterref02_Parse.f k a0).bind fun bt569 => (some (bt569.1, bt569.2.1, bt569.2.2.1))) = some (r1, r2, r3) := h
 clear h
 obtain ⟨⟨t569, t570, t573, t574⟩, A2, H⟩ := ob H; (try dsimp only at H)
 simp only [Option.some.injEq, Prod.mk.injEq] at H
 obtain ⟨rfl, rfl, rfl⟩ := H
 go_enter Tryz.func62, Tryz.ntmps62
 go_wp2_with (first | ((with_reducible refine gate_dst (N := 2) rfl ?_); refine box_event ?hg (N := 2) ?hd (cs := #[.bool false, .slice none 0 0, .int .i64 0]) (t := 24) ?hr ?_; (case hd => rfl); (case hg => rfl); (case hr => first | (go_simp; done) | (go_simp; rfl)); intro gb568 hg w3 hbox hb; have n0_ := am (below_step pB hb); have n1_ := am (hbox); have n2_ := am ((gw hg pB : w.heap.size ≤ gb568)); have n3_ := am ((gw hg pB : w.heap.size ≤ gb568)); clear HB; have HB := n0_; have BK568 := n1_; have GW568 := n2_; have GE568 := n3_; clear n0_ n1_ n2_ n3_ hb hbox hg) | (refine gL (some 7) Tryz.func58 #[.string a0] (h := ?_); (with_reducible refine (bolterref02_Parse.calls k a0 t569 t570 t573 t574 _ A2.out).mono ?_); rintro e w4 ⟨v571, rfl, ho0, hb⟩; refine ⟨_, rfl, ?_⟩; have HO572 := am (Kd.R_lower ho0 (below_size pB)); replace BK568 := am (blk_below (blk_below BK568.out pl) hb); replace HB := am (below_step pB hb); (try clear hb); (try clear hb2); (try clear hk); (try clear hi); (try clear ho0)) | ((with_reducible refine gate_dst (N := 3) rfl ?_); refine box_event ?hg (N := 3) ?hd (cs := #[.bool false, .slice none 0 0, .int .i64 0]) (t := 24) ?hr ?_; (case hd => rfl); (case hg => rfl); (case hr => first | (go_simp; done) | (go_simp; rfl)); intro gb575 hg w5 hbox hb; have n0_ := am (Kd.R_below (Kd.R_below HO572.out pl) hb); have n1_ := am (blk_below (blk_below BK568.out pl) hb); have n2_ := am (below_step pB hb); have n3_ := am (hbox); have n4_ := am ((gw hg pB : w.heap.size ≤ gb575)); have n5_ := am ((gw hg pB : w.heap.size ≤ gb575)); have n6_ := am ((nl hg (blk_below BK568.out pl) : gb568 ≠ gb575)); have n7_ := am ((ng hg (blk_below BK568.out pl) : gb575 ≠ gb568)); clear HO572 BK568 HB; have HO572 := n0_; have BK568 := n1_; have HB := n2_; have BK575 := n3_; have GW575 := n4_; have GE575 := n5_; have NB568_575 := n6_; have NB575_568 := n7_; clear n0_ n1_ n2_ n3_ n4_ n5_ n6_ n7_ hb hbox hg; have hnb6 := NB575_568.out; have hnc6 := NB568_575.out; obtain ⟨hcz7_0, hcz7_1, hcz7_2, hfz7_0, hfz7_1, hfz7_2⟩ := cEc BK575.out; obtain ⟨Ao8, co8, eo8⟩ := Kd.R_slice HO572.out; subst eo8; obtain ⟨hcz9_0, hcz9_1, hcz9_2, hfz9_0, hfz9_1, hfz9_2⟩ := cEc BK568.out))
 refine bodyPost_ret (results_cell_row rfl _ _ gb568 24 #[.bool t569, .slice Ao8 t570.length co8, .int .i64 t573] (0, 0) _ rfl (by refine bp ?_; refine blk_put (cs := #[.bool t569, .slice Ao8 t570.length co8, .int .i64 0]) ?_ 2 _ rfl; refine bp ?_; refine blk_put (cs := #[.bool t569, .slice none 0 0, .int .i64 0]) ?_ 1 _ rfl; refine bp ?_; refine blk_put (cs := #[.bool false, .slice none 0 0, .int .i64 0]) ?_ 0 _ rfl; refine bp ?_; refine blk_far ?_ NB568_575.out _; refine bp ?_; refine blk_far ?_ NB568_575.out _; refine bp ?_; refine blk_far ?_ NB568_575.out _; exact bp BK568.out) Tryz.underlying24 rfl (by kernel_rfl)) rfl ?_
 exact ⟨_, pE, by refine rp ?_; exact Kd.R_mono (Kd.R_far (p := ⟨gb568, 2, none⟩) (Kd.R_far (p := ⟨gb568, 1, none⟩) (Kd.R_far (p := ⟨gb568, 0, none⟩) (Kd.R_far (p := ⟨gb575, 2, none⟩) (Kd.R_far (p := ⟨gb575, 1, none⟩) (Kd.R_far (p := ⟨gb575, 0, none⟩) (Kd.R_types (Kd.R_types HO572.out BK575.out (by decide)) BK568.out (by decide)) (fun _ hk => hk.1.2) (.bool t569)) (fun _ hk => hk.1.2) (.slice Ao8 t570.length co8)) (fun _ hk => hk.1.2) (.int .i64 t573)) (fun _ hk => hk.2) (.bool t569)) (fun _ hk => hk.2) (.slice Ao8 t570.length co8)) (fun _ hk => hk.2) (.int .i64 t573)) (fun _ hk => trivial), pB⟩
def bolterlaw02_alive.f (k : Nat)  : Option (Bool) := (bolterlaw02_Of.f k (⟨#[49, 46, 53, 48]⟩ : ByteArray)).bind fun bt1577 => ((bolterlaw02_Of.f k (⟨#[48, 46, 53]⟩ : ByteArray)).bind fun bt1582 => ((dec_Add.f k bt1577.1 bt1577.2.1 bt1577.2.2 bt1582.1 bt1582.2.1 bt1582.2.2).bind fun bt1587 => ((dec_Print.f k bt1587.1 bt1587.2.1 bt1587.2.2.1).bind fun bt1594 => ((bolterlaw02_Of.f k (⟨#[49, 101, 51, 48]⟩ : ByteArray)).bind fun bt1596 => ((dec_Print.f k bt1596.1 bt1596.2.1 bt1596.2.2).bind fun bt1601 => ((bolterlaw02_num.f bt1587.2.2.2).bind fun t1603 => ((bolterlaw02_num.f bt1594.2).bind fun t1604 => ((bolterlaw02_num.f bt1601.2).bind fun t1605 => (if (wrap64 ((wrap64 (t1603 + t1604)) + t1605)) = 0 then (if bt1594.1.toList = ([50] : List UInt8) then (some (bt1601.1.toList == ([49, 101, 43, 51, 48] : List UInt8))) else (some false)) else (some false))))))))))
set_option maxRecDepth 100000 in
theorem bolterlaw02_alive.leaf {P : Prop} (h : P := by
 go_enter Tryz.func41, Tryz.ntmps41
 go_wp2_with (first | (refine gL (some 8) Tryz.func62 #[.string (⟨#[49, 46, 53, 48]⟩ : ByteArray)] (h := ?_); (with_reducible refine (bolterlaw02_Of.calls k (⟨#[49, 46, 53, 48]⟩ : ByteArray) t1577 t1578 t1581 _ A1.out).mono ?_); rintro e w0z ⟨v1z, rfl, ho2z, hb⟩; refine ⟨_, rfl, ?_⟩; have HO3z := am (Kd.R_lower ho2z (below_size pB)); replace HB := am (below_step pB hb); (try clear hb); (try clear hb4z); (try clear hk); (try clear hi); (try clear ho2z)) | (refine gL (some 9) Tryz.func62 #[.string (⟨#[48, 46, 53]⟩ : ByteArray)] (h := ?_); (with_reducible refine (bolterlaw02_Of.calls k (⟨#[48, 46, 53]⟩ : ByteArray) t1582 t1583 t1586 _ A2.out).mono ?_); rintro e w5z ⟨v6z, rfl, ho2z, hb⟩; refine ⟨_, rfl, ?_⟩; have n0_ := am (Kd.R_elder' (Kd.R_below HO3z.out pl) (Kd.R_base ho2z) hb); have n1_ := am (Kd.R_lower (Kd.R_new' ho2z (Kd.R_lt (Kd.R_below HO3z.out pl))) (below_size pB)); have n2_ := am (below_step pB hb); clear HO3z HB; have HO3z := n0_; have HO7z := n1_; have HB := n2_; clear n0_ n1_ n2_; (try clear hb); (try clear hb4z); (try clear hk); (try clear hi); (try clear ho2z); obtain ⟨Ao8z, co9z, eo10z⟩ := Kd.R_slice HO3z.out; subst eo10z; obtain ⟨Ao11z, co12z, eo13z⟩ := Kd.R_slice HO7z.out; subst eo13z) | (refine gL (some 10) Tryz.func43 #[.agg #[.bool t1577, .slice Ao8z t1578.length co9z, .int .i64 t1581], .agg #[.bool t1582, .slice Ao11z t1583.length co12z, .int .i64 t1586]] (h := ?_); (with_reducible refine (dec_Add.calls k t1577 (fun k_ => some k_ = (.slice Ao8z t1578.length co9z : Value).ownBlock) _ _ t1578 t1581 t1582 (fun k_ => some k_ = (.slice Ao11z t1583.length co12z : Value).ownBlock) _ _ t1583 t1586 t1587 t1588 t1591 t1592 _ ?side1 ?side2 A3.out).mono ?_); (case side1 => exact Kd.R_V (Kd.R_tight rfl (HO3z.out))); (case side2 => exact Kd.R_V (Kd.R_tight rfl (HO7z.out))); rintro e w14z ⟨v15z, rfl, ho2z, hb⟩; refine ⟨_, rfl, ?_⟩; have n0_ := am (Kd.R_elder' (Kd.R_below HO3z.out pl) (Kd.R_base ho2z) hb); have n1_ := am (Kd.R_elder' (Kd.R_below HO7z.out pl) (Kd.R_base ho2z) hb); have n2_ := am (Kd.R_lower (Kd.R_new' (Kd.R_new' (Kd.R_mono (ok' := fun k_ => True) ho2z (fun _ hk_ => trivial)) (Kd.R_lt (Kd.R_below HO3z.out pl))) (Kd.R_lt (Kd.R_below HO7z.out pl))) (below_size pB)); have n3_ := am (below_step pB hb); clear HO3z HO7z HB; have HO3z := n0_; have HO7z := n1_; have HO16z := n2_; have HB := n3_; clear n0_ n1_ n2_ n3_; (try clear hb); (try clear hb4z); (try clear hk); (try clear hi); (try clear ho2z)) | ((with_reducible refine gate_dst (N := 1) rfl ?_); refine box_event ?hg (N := 1) ?hd (cs := #[.bool false, .slice none 0 0, .int .i64 0]) (t := 24) ?hr ?_; (case hd => rfl); (case hg => rfl); (case hr => first | (go_simp; done) | (go_simp; rfl)); intro gb17z hg w18z hbox hb; have n0_ := am (Kd.R_below (Kd.R_below HO3z.out pl) hb); have n1_ := am (Kd.R_below (Kd.R_below HO7z.out pl) hb); have n2_ := am (Kd.R_below (Kd.R_below HO16z.out pl) hb); have n3_ := am (below_step pB hb); have n4_ := am (hbox); have n5_ := am ((gw hg pB : w.heap.size ≤ gb17z)); have n6_ := am ((gw hg pB : w.heap.size ≤ gb17z)); clear HO3z HO7z HO16z HB; have HO3z := n0_; have HO7z := n1_; have HO16z := n2_; have HB := n3_; have BK19z := n4_; have GW20z := n5_; have GE21z := n6_; clear n0_ n1_ n2_ n3_ n4_ n5_ n6_ hb hbox hg; obtain ⟨hcz22z, hcz23z, hcz24z, hfz25z, hfz26z, hfz27z⟩ := cEc BK19z.out; obtain ⟨Ao28z, co29z, eo30z⟩ := Kd.R_slice HO16z.out; subst eo30z) | (refine gL (some 15) Tryz.func56 #[.agg #[.bool t1587, .slice Ao28z t1588.length co29z, .int .i64 t1591]] (h := ?_); (with_reducible refine (dec_Print.calls k t1587 _ _ t1588 t1591 t1594 t1595 _ ?side1 ?side2 A4.out).mono ?_); (case side1 => refine (Kd.R_reads' (e := 85) (base := w.heap.size) (ok := fun k_ => ((True ∧ some k_ ≠ (.slice Ao8z t1578.length co9z : Value).ownBlock) ∧ some k_ ≠ (.slice Ao11z t1583.length co12z : Value).ownBlock)) (n := t1588.length) (c := co29z) ?_).2.2; exact (Kd.R_below (z3 HO16z.out BK19z.out (by decide) (.bool t1587) (.slice Ao28z t1588.length co29z) (.int .i64 t1591)) pl)); (case side2 => exact (Kd.R_reads' HO16z.out).2.1); rintro e w31z ⟨rfl, hb⟩; refine ⟨_, rfl, ?_⟩; replace HO3z := am (Kd.R_below (Kd.R_below (z3 HO3z.out BK19z.out (by decide) (.bool t1587) (.slice Ao28z t1588.length co29z) (.int .i64 t1591)) pl) hb); replace HO7z := am (Kd.R_below (Kd.R_below (z3 HO7z.out BK19z.out (by decide) (.bool t1587) (.slice Ao28z t1588.length co29z) (.int .i64 t1591)) pl) hb); replace HO16z := am (Kd.R_below (Kd.R_below (z3 HO16z.out BK19z.out (by decide) (.bool t1587) (.slice Ao28z t1588.length co29z) (.int .i64 t1591)) pl) hb); replace BK19z := am (blk_below (g := gb17z) (o := .cells #[.bool t1587, .slice Ao28z t1588.length co29z, .int .i64 t1591] 24 (0, 0)) (by refine bp ?_; refine blk_put (cs := #[.bool t1587, .slice Ao28z t1588.length co29z, .int .i64 0]) ?_ 2 _ rfl; refine bp ?_; refine blk_put (cs := #[.bool t1587, .slice none 0 0, .int .i64 0]) ?_ 1 _ rfl; refine bp ?_; refine blk_put (cs := #[.bool false, .slice none 0 0, .int .i64 0]) ?_ 0 _ rfl; exact bp BK19z.out) hb); replace HB := am (below_step pB hb); (try clear hb); (try clear hb4z); (try clear hk); (try clear hi)) | (refine gL (some 19) Tryz.func62 #[.string (⟨#[49, 101, 51, 48]⟩ : ByteArray)] (h := ?_); (with_reducible refine (bolterlaw02_Of.calls k (⟨#[49, 101, 51, 48]⟩ : ByteArray) t1596 t1597 t1600 _ A5.out).mono ?_); rintro e w32z ⟨v33z, rfl, ho2z, hb⟩; refine ⟨_, rfl, ?_⟩; have n0_ := am (Kd.R_elder' (Kd.R_below HO3z.out pl) (Kd.R_base ho2z) hb); have n1_ := am (Kd.R_elder' (Kd.R_below HO7z.out pl) (Kd.R_base ho2z) hb); have n2_ := am (Kd.R_elder' (Kd.R_below HO16z.out pl) (Kd.R_base ho2z) hb); have n3_ := am (Kd.R_lower (Kd.R_new' (Kd.R_new' (Kd.R_new' ho2z (Kd.R_lt (Kd.R_below HO3z.out pl))) (Kd.R_lt (Kd.R_below HO7z.out pl))) (Kd.R_lt (Kd.R_below HO16z.out pl))) (below_size pB)); have n4_ := am (blk_below (blk_below BK19z.out pl) hb); have n5_ := am (below_step pB hb); clear HO3z HO7z HO16z BK19z HB; have HO3z := n0_; have HO7z := n1_; have HO16z := n2_; have HO34z := n3_; have BK19z := n4_; have HB := n5_; clear n0_ n1_ n2_ n3_ n4_ n5_; (try clear hb); (try clear hb4z); (try clear hk); (try clear hi); (try clear ho2z); obtain ⟨Ao35z, co36z, eo37z⟩ := Kd.R_slice HO34z.out; subst eo37z) | (refine gL (some 20) Tryz.func56 #[.agg #[.bool t1596, .slice Ao35z t1597.length co36z, .int .i64 t1600]] (h := ?_); (with_reducible refine (dec_Print.calls k t1596 _ _ t1597 t1600 t1601 t1602 _ ?side1 ?side2 A6.out).mono ?_); (case side1 => exact Kd.C_below (Kd.R_reads' HO34z.out).2.2 pl); (case side2 => exact (Kd.R_reads' HO34z.out).2.1); rintro e w38z ⟨rfl, hb⟩; refine ⟨_, rfl, ?_⟩; replace HO3z := am (Kd.R_below (Kd.R_below HO3z.out pl) hb); replace HO7z := am (Kd.R_below (Kd.R_below HO7z.out pl) hb); replace HO16z := am (Kd.R_below (Kd.R_below HO16z.out pl) hb); replace HO34z := am (Kd.R_below (Kd.R_below HO34z.out pl) hb); replace BK19z := am (blk_below (blk_below BK19z.out pl) hb); replace HB := am (below_step pB hb); (try clear hb); (try clear hb4z); (try clear hk); (try clear hi)) | (refine gL (some 24) Tryz.func47 #[.int .i64 t1592] (h := ?_); (with_reducible refine (bolterlaw02_num.calls t1592 t1603 _ A7.out).mono ?_); rintro e w' ⟨rfl, ⟨nd, rfl⟩⟩; refine ⟨_, rfl, ?_⟩) | (refine gL (some 26) Tryz.func47 #[.int .i64 t1595] (h := ?_); (with_reducible refine (bolterlaw02_num.calls t1595 t1604 _ A8.out).mono ?_); rintro e w' ⟨rfl, ⟨nd, rfl⟩⟩; refine ⟨_, rfl, ?_⟩) | (refine gL (some 29) Tryz.func47 #[.int .i64 t1602] (h := ?_); (with_reducible refine (bolterlaw02_num.calls t1602 t1605 _ A9.out).mono ?_); rintro e w' ⟨rfl, ⟨nd, rfl⟩⟩; refine ⟨_, rfl, ?_⟩))
 go_ret
 exact ⟨pE, pB⟩) : P := h
set_option maxHeartbeats 8000000 in
set_option maxRecDepth 100000 in
theorem bolterlaw02_alive.calls (k : Nat)  (r : Bool) (w : World) (h : bolterlaw02_alive.f k  = some r) :
  Calls Tryz.prog 41 #[] w fun e w' => e = .returned (.bool r) ∧ Below w.heap.size w w' := by
 have hu24 := Tryz.underlying24
 have HB := am (Below.refl w.heap.size w)
 have H : ((bolterlaw02_Of.f k (⟨#[49, 46, 53, 48]⟩ : ByteArray)).bind fun bt1577 => ((bolterlaw02_Of.f k (⟨#[48, 46, 53]⟩ : ByteArray)).bind fun bt1582 => ((dec_Add.f k bt1577.1 bt1577.2.1 bt1577.2.2 bt1582.1 bt1582.2.1 bt1582.2.2).bind fun bt1587 => ((dec_Print.f k bt1587.1 bt1587.2.1 bt1587.2.2.1).bind fun bt1594 => ((bolterlaw02_Of.f k (⟨#[49, 101, 51, 48]⟩ : ByteArray)).bind fun bt1596 => ((dec_Print.f k bt1596.1 bt1596.2.1 bt1596.2.2).bind fun bt1601 => ((bolterlaw02_num.f bt1587.2.2.2).bind fun t1603 => ((bolterlaw02_num.f bt1594.2).bind fun t1604 => ((bolterlaw02_num.f bt1601.2).bind fun t1605 => (if (wrap64 ((wrap64 (t1603 + t1604)) + t1605)) = 0 then (if bt1594.1.toList = ([50] : List UInt8) then (some (bt1601.1.toList == ([49, 101, 43, 51, 48] : List UInt8))) else (some false)) else (some false))))))))))) = some r := h
 clear h
 obtain ⟨⟨t1577, t1578, t1581⟩, A1, H⟩ := ob H; (try dsimp only at H)
 obtain ⟨⟨t1582, t1583, t1586⟩, A2, H⟩ := ob H; (try dsimp only at H)
 obtain ⟨⟨t1587, t1588, t1591, t1592⟩, A3, H⟩ := ob H; (try dsimp only at H)
 obtain ⟨⟨t1594, t1595⟩, A4, H⟩ := ob H; (try dsimp only at H)
 obtain ⟨⟨t1596, t1597, t1600⟩, A5, H⟩ := ob H; (try dsimp only at H)
 obtain ⟨⟨t1601, t1602⟩, A6, H⟩ := ob H; (try dsimp only at H)
 obtain ⟨t1603, A7, H⟩ := ob H
 obtain ⟨t1604, A8, H⟩ := ob H
 obtain ⟨t1605, A9, H⟩ := ob H
 by_cases c10 : (wrap64 ((wrap64 (t1603 + t1604)) + t1605)) = 0
 ·rw [if_pos c10] at H
  have c10b0 : ((wrap64 ((wrap64 (t1603 + t1604)) + t1605)) == 0) = true := beq_iff_eq.mpr c10
  have c10b1 : ((wrap64 ((wrap64 (t1603 + t1604)) + t1605)) != 0) = false := bne_eq_false_iff_eq.mpr c10
  clear c10
  by_cases c11 : t1594.toList = ([50] : List UInt8)
  ·rw [if_pos c11] at H
   have c11b0 : (t1594.toList == ([50] : List UInt8)) = true := beq_iff_eq.mpr c11
   have c11b1 : (t1594.toList != ([50] : List UInt8)) = false := bne_eq_false_iff_eq.mpr c11
   clear c11
   obtain rfl := Option.some.inj H
   exact bolterlaw02_alive.leaf
  ·rw [if_neg c11] at H
   have c11b0 : (t1594.toList == ([50] : List UInt8)) = false := beq_eq_false_iff_ne.mpr c11
   have c11b1 : (t1594.toList != ([50] : List UInt8)) = true := bne_iff_ne.mpr c11
   obtain rfl := Option.some.inj H
   exact bolterlaw02_alive.leaf
 ·rw [if_neg c10] at H
  have c10b0 : ((wrap64 ((wrap64 (t1603 + t1604)) + t1605)) == 0) = false := beq_eq_false_iff_ne.mpr c10
  have c10b1 : ((wrap64 ((wrap64 (t1603 + t1604)) + t1605)) != 0) = true := bne_iff_ne.mpr c10
  obtain rfl := Option.some.inj H
  exact bolterlaw02_alive.leaf
def bolterlaw02_DecOrder.j0 : Nat → Int → Int → Int → Int → Int → Int → Bool → Bool → List Int → Int → Bool → List Int → Int → Option (Bool)
 | 0, _, _, _, _, _, _, _, _, _, _, _, _, _ => none
 | k + 1, x7, x9, x11, x12, x13, x14, x48, x1716000, x1716001, x1716002, x1717000, x1717001, x1717002 => if x48 = true then (if x7 = 0 then (some true) else (some (x9 == 0))) else ((bolterlaw02_num.f x12).bind fun t1729 => ((bolterlaw02_num.f x14).bind fun t1730 => (if (wrap64 (t1729 + t1730)) = 0 then (if x13 = (wrap64 (-x7)) then ((bolterref02_Same.f k x1716000 x1716001 x1716002 x1717000 x1717001 x1717002).bind fun t1731 => (if ((x7 == 0) == t1731) = true then (if x7 > 0 then (some true) else (if x9 > 0 then (some true) else (some (decide (x11 ≤ 0))))) else (some false))) else (some false)) else (some false))))
def bolterlaw02_DecOrder.f (k : Nat) (a0_0 : Bool) (l0_1 : List Int) (a0_2 : Int) (a1_0 : Bool) (l1_1 : List Int) (a1_2 : Int) (a2_0 : Bool) (l2_1 : List Int) (a2_2 : Int) : Option (Bool) := (bolterlaw02_alive.f k).bind fun t1718 => (if t1718 = true then ((dec_Compare.f k a0_0 l0_1 a0_2 a1_0 l1_1 a1_2).bind fun bt1719 => ((dec_Compare.f k a1_0 l1_1 a1_2 a2_0 l2_1 a2_2).bind fun bt1721 => ((dec_Compare.f k a0_0 l0_1 a0_2 a2_0 l2_1 a2_2).bind fun bt1723 => ((dec_Compare.f k a1_0 l1_1 a1_2 a0_0 l0_1 a0_2).bind fun bt1725 => ((bolterlaw02_num.f bt1719.2).bind fun t1727 => (if t1727 = 0 then ((bolterlaw02_num.f bt1721.2).bind fun t1728 => (bolterlaw02_DecOrder.j0 k bt1719.1 bt1721.1 bt1723.1 bt1723.2 bt1725.1 bt1725.2 (t1728 != 0) a0_0 l0_1 a0_2 a1_0 l1_1 a1_2)) else (bolterlaw02_DecOrder.j0 k bt1719.1 bt1721.1 bt1723.1 bt1723.2 bt1725.1 bt1725.2 true a0_0 l0_1 a0_2 a1_0 l1_1 a1_2))))))) else (some false))
set_option maxHeartbeats 8000000 in
set_option maxRecDepth 100000 in
theorem bolterlaw02_DecOrder.calls (k : Nat) (a0_0 : Bool) (A0_1 : Option Addr) (c0_1 : Nat) (l0_1 : List Int) (a0_2 : Int) (a1_0 : Bool) (A1_1 : Option Addr) (c1_1 : Nat) (l1_1 : List Int) (a1_2 : Int) (a2_0 : Bool) (A2_1 : Option Addr) (c2_1 : Nat) (l2_1 : List Int) (a2_2 : Int) (r : Bool) (w : World) (hr0_1 : Kd.C (Kd.int .u32) w A0_1 l0_1.length l0_1) (hc0_1 : l0_1.length ≤ c0_1) (hr1_1 : Kd.C (Kd.int .u32) w A1_1 l1_1.length l1_1) (hc1_1 : l1_1.length ≤ c1_1) (hr2_1 : Kd.C (Kd.int .u32) w A2_1 l2_1.length l2_1) (hc2_1 : l2_1.length ≤ c2_1) (h : bolterlaw02_DecOrder.f k a0_0 l0_1 a0_2 a1_0 l1_1 a1_2 a2_0 l2_1 a2_2 = some r) (hr : r = true) :
  Calls Tryz.prog 10 #[.agg #[.bool a0_0, .slice A0_1 l0_1.length c0_1, .int .i64 a0_2], .agg #[.bool a1_0, .slice A1_1 l1_1.length c1_1, .int .i64 a1_2], .agg #[.bool a2_0, .slice A2_1 l2_1.length c2_1, .int .i64 a2_2]] w fun e w' => e = .returned (.bool r) ∧ Below w.heap.size w w' := by
 have hu24 := Tryz.underlying24
 have HR0_1 := am hr0_1
 have HC0_1 := am hc0_1
 clear hr0_1 hc0_1
 have HR1_1 := am hr1_1
 have HC1_1 := am hc1_1
 clear hr1_1 hc1_1
 have HR2_1 := am hr2_1
 have HC2_1 := am hc2_1
 clear hr2_1 hc2_1
 have HB := am (Below.refl w.heap.size w)
 have H : ((bolterlaw02_alive.f k).bind fun t1718 => (if t1718 = true then ((dec_Compare.f k a0_0 l0_1 a0_2 a1_0 l1_1 a1_2).bind fun bt1719 => ((dec_Compare.f k a1_0 l1_1 a1_2 a2_0 l2_1 a2_2).bind fun bt1721 => ((dec_Compare.f k a0_0 l0_1 a0_2 a2_0 l2_1 a2_2).bind fun bt1723 => ((dec_Compare.f k a1_0 l1_1 a1_2 a0_0 l0_1 a0_2).bind fun bt1725 => ((bolterlaw02_num.f bt1719.2).bind fun t1727 => (if t1727 = 0 then ((bolterlaw02_num.f bt1721.2).bind fun t1728 => (bolterlaw02_DecOrder.j0 k bt1719.1 bt1721.1 bt1723.1 bt1723.2 bt1725.1 bt1725.2 (t1728 != 0) a0_0 l0_1 a0_2 a1_0 l1_1 a1_2)) else (bolterlaw02_DecOrder.j0 k bt1719.1 bt1721.1 bt1723.1 bt1723.2 bt1725.1 bt1725.2 true a0_0 l0_1 a0_2 a1_0 l1_1 a1_2))))))) else (some false))) = some r := h
 clear h
 obtain ⟨t1718, A4, H⟩ := ob H
 by_cases c5 : t1718 = true
 ·subst c5
  rw [if_pos rfl] at H
  obtain ⟨⟨t1719, t1720⟩, A6, H⟩ := ob H; (try dsimp only at H)
  obtain ⟨⟨t1721, t1722⟩, A7, H⟩ := ob H; (try dsimp only at H)
  obtain ⟨⟨t1723, t1724⟩, A8, H⟩ := ob H; (try dsimp only at H)
  obtain ⟨⟨t1725, t1726⟩, A9, H⟩ := ob H; (try dsimp only at H)
  have HC10 := am H
  clear H
  go_enter Tryz.func10, Tryz.ntmps10
  go_upto_region 7 with (first | ((with_reducible refine gate_dst (N := 3) rfl ?_); refine box_event ?hg (N := 3) ?hd (cs := #[.bool a0_0, .slice A0_1 l0_1.length c0_1, .int .i64 a0_2]) (t := 24) ?hr ?_; (case hd => rfl); (case hg => rfl); (case hr => first | (go_simp; done) | (go_simp; rfl)); intro gb1715 hg w11 hbox hb; have n0_ := am (below_step pB hb); have n1_ := am (hbox); have n2_ := am ((gw hg pB : w.heap.size ≤ gb1715)); have n3_ := am ((gw hg pB : w.heap.size ≤ gb1715)); clear HB; have HB := n0_; have BK1715 := n1_; have GW1715 := n2_; have GE1715 := n3_; clear n0_ n1_ n2_ n3_ hb hbox hg) | ((with_reducible refine gate_dst (N := 4) rfl ?_); refine box_event ?hg (N := 4) ?hd (cs := #[.bool a1_0, .slice A1_1 l1_1.length c1_1, .int .i64 a1_2]) (t := 24) ?hr ?_; (case hd => rfl); (case hg => rfl); (case hr => first | (go_simp; done) | (go_simp; rfl)); intro gb1716 hg w12 hbox hb; have n0_ := am (blk_below (blk_below BK1715.out pl) hb); have n1_ := am (below_step pB hb); have n2_ := am (hbox); have n3_ := am ((gw hg pB : w.heap.size ≤ gb1716)); have n4_ := am ((gw hg pB : w.heap.size ≤ gb1716)); have n5_ := am ((nl hg (blk_below BK1715.out pl) : gb1715 ≠ gb1716)); have n6_ := am ((ng hg (blk_below BK1715.out pl) : gb1716 ≠ gb1715)); clear BK1715 HB; have BK1715 := n0_; have HB := n1_; have BK1716 := n2_; have GW1716 := n3_; have GE1716 := n4_; have NB1715_1716 := n5_; have NB1716_1715 := n6_; clear n0_ n1_ n2_ n3_ n4_ n5_ n6_ hb hbox hg) | ((with_reducible refine gate_dst (N := 5) rfl ?_); refine box_event ?hg (N := 5) ?hd (cs := #[.bool a2_0, .slice A2_1 l2_1.length c2_1, .int .i64 a2_2]) (t := 24) ?hr ?_; (case hd => rfl); (case hg => rfl); (case hr => first | (go_simp; done) | (go_simp; rfl)); intro gb1717 hg w13 hbox hb; have n0_ := am (blk_below (blk_below BK1715.out pl) hb); have n1_ := am (blk_below (blk_below BK1716.out pl) hb); have n2_ := am (below_step pB hb); have n3_ := am (hbox); have n4_ := am ((gw hg pB : w.heap.size ≤ gb1717)); have n5_ := am ((gw hg pB : w.heap.size ≤ gb1717)); have n6_ := am ((nl hg (blk_below BK1715.out pl) : gb1715 ≠ gb1717)); have n7_ := am ((ng hg (blk_below BK1715.out pl) : gb1717 ≠ gb1715)); have n8_ := am ((nl hg (blk_below BK1716.out pl) : gb1716 ≠ gb1717)); have n9_ := am ((ng hg (blk_below BK1716.out pl) : gb1717 ≠ gb1716)); clear BK1715 BK1716 HB; have BK1715 := n0_; have BK1716 := n1_; have HB := n2_; have BK1717 := n3_; have GW1717 := n4_; have GE1717 := n5_; have NB1715_1717 := n6_; have NB1717_1715 := n7_; have NB1716_1717 := n8_; have NB1717_1716 := n9_; clear n0_ n1_ n2_ n3_ n4_ n5_ n6_ n7_ n8_ n9_ hb hbox hg) | (refine gL (some 15) Tryz.func41 #[] (h := ?_); (with_reducible refine (bolterlaw02_alive.calls k  true _ A4.out).mono ?_); rintro e w14 ⟨rfl, hb⟩; refine ⟨_, rfl, ?_⟩; replace BK1715 := am (blk_below (blk_below BK1715.out pl) hb); replace BK1716 := am (blk_below (blk_below BK1716.out pl) hb); replace BK1717 := am (blk_below (blk_below BK1717.out pl) hb); replace HB := am (below_step pB hb); (try clear hb); (try clear hb2); (try clear hk); (try clear hi); have hnb15 := NB1715_1716.out; have hnc15 := NB1716_1715.out; have hnb16 := NB1715_1717.out; have hnc16 := NB1717_1715.out; obtain ⟨hcz17_0, hcz17_1, hcz17_2, hfz17_0, hfz17_1, hfz17_2⟩ := cEc BK1715.out; have hnb18 := NB1716_1717.out; have hnc18 := NB1717_1716.out; obtain ⟨hcz19_0, hcz19_1, hcz19_2, hfz19_0, hfz19_1, hfz19_2⟩ := cEc BK1716.out) | (refine gL (some 20) Tryz.func48 #[.agg #[.bool a0_0, .slice A0_1 l0_1.length c0_1, .int .i64 a0_2], .agg #[.bool a1_0, .slice A1_1 l1_1.length c1_1, .int .i64 a1_2]] (h := ?_); (with_reducible refine (dec_Compare.calls k a0_0 (fun k_ => k_ < w.heap.size) _ _ l0_1 a0_2 a1_0 (fun k_ => k_ < w.heap.size) _ _ l1_1 a1_2 t1719 t1720 _ ?side1 ?side2 A6.out).mono ?_); (case side1 => exact Kd.V_mk HC0_1.out (Kd.F_below (Kd.C_F (Kd.heap_int .u32) HR0_1.out) pB)); (case side2 => exact Kd.V_mk HC1_1.out (Kd.F_below (Kd.C_F (Kd.heap_int .u32) HR1_1.out) pB)); rintro e w20 ⟨rfl, hb⟩; refine ⟨_, rfl, ?_⟩; replace BK1715 := am (blk_below (blk_below BK1715.out pl) hb); replace BK1716 := am (blk_below (blk_below BK1716.out pl) hb); replace BK1717 := am (blk_below (blk_below BK1717.out pl) hb); replace HB := am (below_step pB hb); (try clear hb); (try clear hb2); (try clear hk); (try clear hi); obtain ⟨hcz21_0, hcz21_1, hcz21_2, hfz21_0, hfz21_1, hfz21_2⟩ := cEc BK1716.out; obtain ⟨hcz22_0, hcz22_1, hcz22_2, hfz22_0, hfz22_1, hfz22_2⟩ := cEc BK1717.out) | (refine gL (some 26) Tryz.func48 #[.agg #[.bool a1_0, .slice A1_1 l1_1.length c1_1, .int .i64 a1_2], .agg #[.bool a2_0, .slice A2_1 l2_1.length c2_1, .int .i64 a2_2]] (h := ?_); (with_reducible refine (dec_Compare.calls k a1_0 (fun k_ => k_ < w.heap.size) _ _ l1_1 a1_2 a2_0 (fun k_ => k_ < w.heap.size) _ _ l2_1 a2_2 t1721 t1722 _ ?side1 ?side2 A7.out).mono ?_); (case side1 => exact Kd.V_mk HC1_1.out (Kd.F_below (Kd.C_F (Kd.heap_int .u32) HR1_1.out) pB)); (case side2 => exact Kd.V_mk HC2_1.out (Kd.F_below (Kd.C_F (Kd.heap_int .u32) HR2_1.out) pB)); rintro e w23 ⟨rfl, hb⟩; refine ⟨_, rfl, ?_⟩; replace BK1715 := am (blk_below (blk_below BK1715.out pl) hb); replace BK1716 := am (blk_below (blk_below BK1716.out pl) hb); replace BK1717 := am (blk_below (blk_below BK1717.out pl) hb); replace HB := am (below_step pB hb); (try clear hb); (try clear hb2); (try clear hk); (try clear hi); obtain ⟨hcz24_0, hcz24_1, hcz24_2, hfz24_0, hfz24_1, hfz24_2⟩ := cEc BK1715.out; obtain ⟨hcz25_0, hcz25_1, hcz25_2, hfz25_0, hfz25_1, hfz25_2⟩ := cEc BK1717.out) | (refine gL (some 32) Tryz.func48 #[.agg #[.bool a0_0, .slice A0_1 l0_1.length c0_1, .int .i64 a0_2], .agg #[.bool a2_0, .slice A2_1 l2_1.length c2_1, .int .i64 a2_2]] (h := ?_); (with_reducible refine (dec_Compare.calls k a0_0 (fun k_ => k_ < w.heap.size) _ _ l0_1 a0_2 a2_0 (fun k_ => k_ < w.heap.size) _ _ l2_1 a2_2 t1723 t1724 _ ?side1 ?side2 A8.out).mono ?_); (case side1 => exact Kd.V_mk HC0_1.out (Kd.F_below (Kd.C_F (Kd.heap_int .u32) HR0_1.out) pB)); (case side2 => exact Kd.V_mk HC2_1.out (Kd.F_below (Kd.C_F (Kd.heap_int .u32) HR2_1.out) pB)); rintro e w26 ⟨rfl, hb⟩; refine ⟨_, rfl, ?_⟩; replace BK1715 := am (blk_below (blk_below BK1715.out pl) hb); replace BK1716 := am (blk_below (blk_below BK1716.out pl) hb); replace BK1717 := am (blk_below (blk_below BK1717.out pl) hb); replace HB := am (below_step pB hb); (try clear hb); (try clear hb2); (try clear hk); (try clear hi); obtain ⟨hcz27_0, hcz27_1, hcz27_2, hfz27_0, hfz27_1, hfz27_2⟩ := cEc BK1716.out; obtain ⟨hcz28_0, hcz28_1, hcz28_2, hfz28_0, hfz28_1, hfz28_2⟩ := cEc BK1715.out) | (refine gL (some 38) Tryz.func48 #[.agg #[.bool a1_0, .slice A1_1 l1_1.length c1_1, .int .i64 a1_2], .agg #[.bool a0_0, .slice A0_1 l0_1.length c0_1, .int .i64 a0_2]] (h := ?_); (with_reducible refine (dec_Compare.calls k a1_0 (fun k_ => k_ < w.heap.size) _ _ l1_1 a1_2 a0_0 (fun k_ => k_ < w.heap.size) _ _ l0_1 a0_2 t1725 t1726 _ ?side1 ?side2 A9.out).mono ?_); (case side1 => exact Kd.V_mk HC1_1.out (Kd.F_below (Kd.C_F (Kd.heap_int .u32) HR1_1.out) pB)); (case side2 => exact Kd.V_mk HC0_1.out (Kd.F_below (Kd.C_F (Kd.heap_int .u32) HR0_1.out) pB)); rintro e w29 ⟨rfl, hb⟩; refine ⟨_, rfl, ?_⟩; replace BK1715 := am (blk_below (blk_below BK1715.out pl) hb); replace BK1716 := am (blk_below (blk_below BK1716.out pl) hb); replace BK1717 := am (blk_below (blk_below BK1717.out pl) hb); replace HB := am (below_step pB hb); (try clear hb); (try clear hb2); (try clear hk); (try clear hi)))
  (try simp only [Act.put, List.setIfInBounds_toArray, List.set_cons_zero, List.set_cons_succ])
  go_cut [48] (fun v48 wc => ∃ (kq : Nat) (x48_9 : Bool), v48 = .bool x48_9 ∧ Aside0 (bolterlaw02_DecOrder.j0 kq t1719 t1721 t1723 t1724 t1725 t1726 x48_9 a0_0 l0_1 a0_2 a1_0 l1_1 a1_2 = some r) ∧ Aside0 (kq ≤ k) ∧ Aside0 (wc.heap[gb1715]? = some (.cells #[.bool a0_0, (.slice A0_1 l0_1.length c0_1), .int .i64 a0_2] 24 (0, 0))) ∧ Aside0 (wc.heap[gb1716]? = some (.cells #[.bool a1_0, (.slice A1_1 l1_1.length c1_1), .int .i64 a1_2] 24 (0, 0))) ∧ Aside0 (wc.heap[gb1717]? = some (.cells #[.bool a2_0, (.slice A2_1 l2_1.length c2_1), .int .i64 a2_2] 24 (0, 0))) ∧ Aside0 (Below w.heap.size w wc))
  case first =>
   have H := HC10.out
   clear HC10
   obtain ⟨t1727, A30, H⟩ := ob H
   by_cases c31 : t1727 = 0
   ·rw [if_pos c31] at H
    have c31b0 : (t1727 == 0) = true := beq_iff_eq.mpr c31
    have c31b1 : (t1727 != 0) = false := bne_eq_false_iff_eq.mpr c31
    clear c31
    (first | rw [c31b0] | (simp only [i64_w, i32_w]; rw [c31b0]) | skip)
    obtain ⟨t1728, A32, H⟩ := ob H
    have H' := am H
    clear H
    go_wp2_with (first | (refine gL (some 42) Tryz.func47 #[.int .i64 t1720] (h := ?_); (with_reducible refine (bolterlaw02_num.calls t1720 t1727 _ A30.out).mono ?_); rintro e w' ⟨rfl, ⟨nd, rfl⟩⟩; refine ⟨_, rfl, ?_⟩) | (go_at_call 47; (with_reducible refine (bolterlaw02_num.calls t1722 t1728 _ A32.out).mono ?_); rintro e w' ⟨rfl, ⟨nd, rfl⟩⟩))
    go_meet
    case rel => exact ⟨_, ((t1728 != 0)), (by first | rfl | (simp; done) | (simp [*]; done)), H', ⟨by first | omega | exact Nat.le_refl _⟩, ⟨blk_below BK1715.out pl⟩, ⟨blk_below BK1716.out pl⟩, ⟨blk_below BK1717.out pl⟩, ⟨pB⟩⟩
   ·rw [if_neg c31] at H
    have c31b0 : (t1727 == 0) = false := beq_eq_false_iff_ne.mpr c31
    have c31b1 : (t1727 != 0) = true := bne_iff_ne.mpr c31
    (first | rw [c31b0] | (simp only [i64_w, i32_w]; rw [c31b0]) | skip)
    have H' := am H
    clear H
    go_wp2_with (first | (refine gL (some 42) Tryz.func47 #[.int .i64 t1720] (h := ?_); (with_reducible refine (bolterlaw02_num.calls t1720 t1727 _ A30.out).mono ?_); rintro e w' ⟨rfl, ⟨nd, rfl⟩⟩; refine ⟨_, rfl, ?_⟩))
    go_meet
    case rel => exact ⟨_, (true), (by first | rfl | (simp; done) | (simp [*]; done)), H', ⟨by first | omega | exact Nat.le_refl _⟩, ⟨blk_below BK1715.out pl⟩, ⟨blk_below BK1716.out pl⟩, ⟨blk_below BK1717.out pl⟩, ⟨pB⟩⟩
  case rest =>
   clear HC10
   (try clear c5); (try clear hcz17_0); (try clear hcz17_1); (try clear hcz17_2); (try clear hcz19_0); (try clear hcz19_1); (try clear hcz19_2); (try clear hcz21_0); (try clear hcz21_1); (try clear hcz21_2); (try clear hcz22_0); (try clear hcz22_1); (try clear hcz22_2); (try clear hcz24_0); (try clear hcz24_1); (try clear hcz24_2); (try clear hcz25_0); (try clear hcz25_1); (try clear hcz25_2); (try clear hcz27_0); (try clear hcz27_1); (try clear hcz27_2); (try clear hcz28_0); (try clear hcz28_1); (try clear hcz28_2); (try clear hfz17_0); (try clear hfz17_1); (try clear hfz17_2); (try clear hfz19_0); (try clear hfz19_1); (try clear hfz19_2); (try clear hfz21_0); (try clear hfz21_1); (try clear hfz21_2); (try clear hfz22_0); (try clear hfz22_1); (try clear hfz22_2); (try clear hfz24_0); (try clear hfz24_1); (try clear hfz24_2); (try clear hfz25_0); (try clear hfz25_1); (try clear hfz25_2); (try clear hfz27_0); (try clear hfz27_1); (try clear hfz27_2); (try clear hfz28_0); (try clear hfz28_1); (try clear hfz28_2)
   obtain ⟨kq, x48_9, rfl, HA, HJ9, BK1715, BK1716, BK1717, HB⟩ := hcut
   cases kq with
   | zero => exact absurd HA.out (by simp [bolterlaw02_DecOrder.j0])
   | succ kj9 =>
    have H := HA.out
    clear HA
    simp only [bolterlaw02_DecOrder.j0] at H
    by_cases c33 : x48_9 = true
    ·subst c33
     rw [if_pos rfl] at H
     by_cases c34 : t1719 = 0
     ·rw [if_pos c34] at H
      have c34b0 : (t1719 == 0) = true := beq_iff_eq.mpr c34
      have c34b1 : (t1719 != 0) = false := bne_eq_false_iff_eq.mpr c34
      clear c34
      obtain rfl := Option.some.inj H
      go_wp2
      go_ret
      exact ⟨pE, pB⟩
     ·rw [if_neg c34] at H
      have c34b0 : (t1719 == 0) = false := beq_eq_false_iff_ne.mpr c34
      have c34b1 : (t1719 != 0) = true := bne_iff_ne.mpr c34
      obtain rfl := Option.some.inj H
      go_wp2
      go_ret
      exact ⟨pE, pB⟩
    ·replace c33 := Bool.eq_false_iff.mpr c33
     subst c33
     rw [if_neg (show ¬ (false = true) by decide)] at H
     obtain ⟨t1729, A35, H⟩ := ob H
     obtain ⟨t1730, A36, H⟩ := ob H
     by_cases c37 : (wrap64 (t1729 + t1730)) = 0
     ·rw [if_pos c37] at H
      have c37b0 : ((wrap64 (t1729 + t1730)) == 0) = true := beq_iff_eq.mpr c37
      have c37b1 : ((wrap64 (t1729 + t1730)) != 0) = false := bne_eq_false_iff_eq.mpr c37
      clear c37
      by_cases c38 : t1725 = (wrap64 (-t1719))
      ·rw [if_pos c38] at H
       have c38b0 : (t1725 == (wrap64 (-t1719))) = true := beq_iff_eq.mpr c38
       have c38b1 : (t1725 != (wrap64 (-t1719))) = false := bne_eq_false_iff_eq.mpr c38
       clear c38
       obtain ⟨t1731, A39, H⟩ := ob H
       by_cases c40 : ((t1719 == 0) == t1731) = true
       ·rw [if_pos c40] at H
        have c40b0 : ((t1719 == 0) == t1731) = true := c40
        (try (have c40b1 : decide ((t1719 == 0) = t1731) = true := by simpa using c40))
        (try (have c40b2 : ((t1719 == 0) == t1731) = true := by simpa using c40))
        clear c40
        by_cases c41 : t1719 > 0
        ·rw [if_pos c41] at H
         have c41b0 : decide (0 < t1719) = true := decide_eq_true c41
         clear c41
         obtain rfl := Option.some.inj H
         go_wp2_with (first | (refine gL (some 56) Tryz.func47 #[.int .i64 t1724] (h := ?_); (with_reducible refine (bolterlaw02_num.calls t1724 t1729 _ A35.out).mono ?_); rintro e w' ⟨rfl, ⟨nd, rfl⟩⟩; refine ⟨_, rfl, ?_⟩) | (refine gL (some 58) Tryz.func47 #[.int .i64 t1726] (h := ?_); (with_reducible refine (bolterlaw02_num.calls t1726 t1730 _ A36.out).mono ?_); rintro e w' ⟨rfl, ⟨nd, rfl⟩⟩; refine ⟨_, rfl, ?_⟩; have hnb42 := NB1715_1716.out; have hnc42 := NB1716_1715.out; have hnb43 := NB1715_1717.out; have hnc43 := NB1717_1715.out; obtain ⟨hcz44_0, hcz44_1, hcz44_2, hfz44_0, hfz44_1, hfz44_2⟩ := cEc BK1715.out; have hnb45 := NB1716_1717.out; have hnc45 := NB1717_1716.out; obtain ⟨hcz46_0, hcz46_1, hcz46_2, hfz46_0, hfz46_1, hfz46_2⟩ := cEc BK1716.out) | (go_at_call 21; (with_reducible refine (bolterref02_Same.calls kj9 a0_0 _ _ l0_1 a0_2 a1_0 _ _ l1_1 a1_2 t1731 _ ?side1 ?side2 ?side3 ?side4 A39.out).mono ?_); (case side1 => refine cp ?_; exact (Kd.C_below HR0_1.out pB)); (case side2 => exact HC0_1.out); (case side3 => refine cp ?_; exact (Kd.C_below HR1_1.out pB)); (case side4 => exact HC1_1.out); rintro e w47 ⟨rfl, hb⟩; replace BK1715 := am (blk_below (blk_below BK1715.out pl) hb); replace BK1716 := am (blk_below (blk_below BK1716.out pl) hb); replace BK1717 := am (blk_below (blk_below BK1717.out pl) hb); replace HB := am (below_step pB hb); (try clear hb); (try clear hb2); (try clear hk); (try clear hi)))
         go_ret
         exact ⟨pE, pB⟩
        ·rw [if_neg c41] at H
         have c41b0 : decide (0 < t1719) = false := decide_eq_false c41
         clear c41
         by_cases c48 : t1721 > 0
         ·rw [if_pos c48] at H
          have c48b0 : decide (0 < t1721) = true := decide_eq_true c48
          clear c48
          obtain rfl := Option.some.inj H
          go_wp2_with (first | (refine gL (some 56) Tryz.func47 #[.int .i64 t1724] (h := ?_); (with_reducible refine (bolterlaw02_num.calls t1724 t1729 _ A35.out).mono ?_); rintro e w' ⟨rfl, ⟨nd, rfl⟩⟩; refine ⟨_, rfl, ?_⟩) | (refine gL (some 58) Tryz.func47 #[.int .i64 t1726] (h := ?_); (with_reducible refine (bolterlaw02_num.calls t1726 t1730 _ A36.out).mono ?_); rintro e w' ⟨rfl, ⟨nd, rfl⟩⟩; refine ⟨_, rfl, ?_⟩; have hnb49 := NB1715_1716.out; have hnc49 := NB1716_1715.out; have hnb50 := NB1715_1717.out; have hnc50 := NB1717_1715.out; obtain ⟨hcz51_0, hcz51_1, hcz51_2, hfz51_0, hfz51_1, hfz51_2⟩ := cEc BK1715.out; have hnb52 := NB1716_1717.out; have hnc52 := NB1717_1716.out; obtain ⟨hcz53_0, hcz53_1, hcz53_2, hfz53_0, hfz53_1, hfz53_2⟩ := cEc BK1716.out) | (go_at_call 21; (with_reducible refine (bolterref02_Same.calls kj9 a0_0 _ _ l0_1 a0_2 a1_0 _ _ l1_1 a1_2 t1731 _ ?side1 ?side2 ?side3 ?side4 A39.out).mono ?_); (case side1 => refine cp ?_; exact (Kd.C_below HR0_1.out pB)); (case side2 => exact HC0_1.out); (case side3 => refine cp ?_; exact (Kd.C_below HR1_1.out pB)); (case side4 => exact HC1_1.out); rintro e w54 ⟨rfl, hb⟩; replace BK1715 := am (blk_below (blk_below BK1715.out pl) hb); replace BK1716 := am (blk_below (blk_below BK1716.out pl) hb); replace BK1717 := am (blk_below (blk_below BK1717.out pl) hb); replace HB := am (below_step pB hb); (try clear hb); (try clear hb2); (try clear hk); (try clear hi)))
          go_ret
          exact ⟨pE, pB⟩
         ·rw [if_neg c48] at H
          have c48b0 : decide (0 < t1721) = false := decide_eq_false c48
          clear c48
          obtain rfl := Option.some.inj H
          go_wp2_with (first | (refine gL (some 56) Tryz.func47 #[.int .i64 t1724] (h := ?_); (with_reducible refine (bolterlaw02_num.calls t1724 t1729 _ A35.out).mono ?_); rintro e w' ⟨rfl, ⟨nd, rfl⟩⟩; refine ⟨_, rfl, ?_⟩) | (refine gL (some 58) Tryz.func47 #[.int .i64 t1726] (h := ?_); (with_reducible refine (bolterlaw02_num.calls t1726 t1730 _ A36.out).mono ?_); rintro e w' ⟨rfl, ⟨nd, rfl⟩⟩; refine ⟨_, rfl, ?_⟩; have hnb55 := NB1715_1716.out; have hnc55 := NB1716_1715.out; have hnb56 := NB1715_1717.out; have hnc56 := NB1717_1715.out; obtain ⟨hcz57_0, hcz57_1, hcz57_2, hfz57_0, hfz57_1, hfz57_2⟩ := cEc BK1715.out; have hnb58 := NB1716_1717.out; have hnc58 := NB1717_1716.out; obtain ⟨hcz59_0, hcz59_1, hcz59_2, hfz59_0, hfz59_1, hfz59_2⟩ := cEc BK1716.out) | (go_at_call 21; (with_reducible refine (bolterref02_Same.calls kj9 a0_0 _ _ l0_1 a0_2 a1_0 _ _ l1_1 a1_2 t1731 _ ?side1 ?side2 ?side3 ?side4 A39.out).mono ?_); (case side1 => refine cp ?_; exact (Kd.C_below HR0_1.out pB)); (case side2 => exact HC0_1.out); (case side3 => refine cp ?_; exact (Kd.C_below HR1_1.out pB)); (case side4 => exact HC1_1.out); rintro e w60 ⟨rfl, hb⟩; replace BK1715 := am (blk_below (blk_below BK1715.out pl) hb); replace BK1716 := am (blk_below (blk_below BK1716.out pl) hb); replace BK1717 := am (blk_below (blk_below BK1717.out pl) hb); replace HB := am (below_step pB hb); (try clear hb); (try clear hb2); (try clear hk); (try clear hi)))
          go_ret
          exact ⟨pE, pB⟩
       ·rw [if_neg c40] at H
        have c40b0 : ((t1719 == 0) == t1731) = false := by simpa using c40
        (try (have c40b1 : decide ((t1719 == 0) = t1731) = false := by simpa using c40))
        (try (have c40b2 : ((t1719 == 0) == t1731) = false := by simpa using c40))
        (try (have c40b3 : ¬ ((t1719 == 0) = t1731) := by simpa using c40))
        clear c40
        exact absurd ((Option.some.inj H).trans hr) Bool.false_ne_true
      ·rw [if_neg c38] at H
       have c38b0 : (t1725 == (wrap64 (-t1719))) = false := beq_eq_false_iff_ne.mpr c38
       have c38b1 : (t1725 != (wrap64 (-t1719))) = true := bne_iff_ne.mpr c38
       exact absurd ((Option.some.inj H).trans hr) Bool.false_ne_true
     ·rw [if_neg c37] at H
      have c37b0 : ((wrap64 (t1729 + t1730)) == 0) = false := beq_eq_false_iff_ne.mpr c37
      have c37b1 : ((wrap64 (t1729 + t1730)) != 0) = true := bne_iff_ne.mpr c37
      exact absurd ((Option.some.inj H).trans hr) Bool.false_ne_true
 ·replace c5 := Bool.eq_false_iff.mpr c5
  subst c5
  rw [if_neg (show ¬ (false = true) by decide)] at H
  exact absurd ((Option.some.inj H).trans hr) Bool.false_ne_true
end Go.Proofs.YtjbjkmccfocikaaGreatDoor.B

end

section
set_option linter.unusedVariables false
set_option linter.unusedSimpArgs false
namespace Go.Proofs.YtjbjkmccfocikaaGreatDoor.P.Nm
open Go.RowKit Go.Proofs.YtjbjkmccfocikaaGreatDoorW.PrintWords Go.Proofs.YtjbjkmccfocikaaGreatDoor.B Go.Proofs.YtjbjkmccfocikaaGreatDoor.P

structure RawD (l : List Int) : Prop where
 dg : Dg 4294967296 l
 len : l.length ≤ 9223372036854775807
theorem CompareX_bad {a b : Bool} {l m : List Int} {e g : Int} (hl : RawD l) (hm : RawD m) (h : ¬ (chk a l e = 0 ∧ chk b m g = 0)) : Tells (fun k => dec_Compare.f k a l e b m g) (0, 9) := by
 unfold dec_Compare.f
 have := ask_tells a l e b m g hl.dg hl.len hm.dg hm.len
 rw [if_neg h] at this
 exact this.bind (Tells.ifn (by decide +kernel) (Tells.pure _))
theorem CompareX {a b : Bool} {l m : List Int} {e g : Int} (hl : RawD l) (hm : RawD m) : ∃ y, Tells (fun k => dec_Compare.f k a l e b m g) y := by
 by_cases h : chk a l e = 0 ∧ chk b m g = 0
 ·obtain ⟨D, hD, rfl, rfl, rfl⟩ := of_chk hl.dg h.1
  obtain ⟨E, hE, rfl, rfl, rfl⟩ := of_chk hm.dg h.2
  exact ⟨_, DCompare D E hD hE⟩
 ·exact ⟨_, CompareX_bad hl hm h⟩
theorem DecOrder_plain {a b c : Bool} {l m n : List Int} {e f g : Int} (ha : Tells (fun k => bolterlaw02_alive.f k) true) (hl : RawD l) (hm : RawD m) (hn : RawD n) :
  Tells (fun k => bolterlaw02_DecOrder.f k a l e b m f c n g) true := by
 unfold bolterlaw02_DecOrder.f
 refine ha.bind (Tells.ifp rfl ?_)
 by_cases hab : chk a l e = 0 ∧ chk b m f = 0
 ·obtain ⟨D, hD, rfl, rfl, rfl⟩ := of_chk hl.dg hab.1
  obtain ⟨E, hE, rfl, rfl, rfl⟩ := of_chk hm.dg hab.2
  refine (DCompare D E hD hE).bind ?_
  by_cases hc : chk c n g = 0
  ·obtain ⟨F, hF, rfl, rfl, rfl⟩ := of_chk hn.dg hc
   refine (DCompare E F hE hF).bind ((DCompare D F hD hF).bind ((DCompare E D hE hD).bind ?_))
   unfold bolterlaw02_num.f
   refine (Tells.pure _).bind (Tells.ifp rfl ((Tells.pure _).bind ?_))
   refine Tells.succ ?_
   simp only [bolterlaw02_DecOrder.j0]
   refine Tells.ifn (by decide +kernel) ?_
   unfold bolterlaw02_num.f
   refine (Tells.pure _).bind ((Tells.pure _).bind (Tells.ifp (by decide +kernel) ?_))
   have k1 := cmpD_sc (K := 1000) (a := D) (b := E) (by have := hD.low; omega) (by have := hE.low; omega)
   have k2 := cmpD_sc (K := 1000) (a := E) (b := F) (by have := hE.low; omega) (by have := hF.low; omega)
   have k3 := cmpD_sc (K := 1000) (a := D) (b := F) (by have := hD.low; omega) (by have := hF.low; omega)
   have k4 := cmpD_sc (K := 1000) (a := E) (b := D) (by have := hE.low; omega) (by have := hD.low; omega)
   have hinj := sc_inj (K := 1000) hD hE (by omega)
   obtain ⟨x, hx⟩ : ∃ x, cmpD D E = x := ⟨_, rfl⟩
   obtain ⟨y, hy⟩ : ∃ y, cmpD E F = y := ⟨_, rfl⟩
   obtain ⟨z, hz⟩ : ∃ z, cmpD D F = z := ⟨_, rfl⟩
   obtain ⟨v, hv⟩ : ∃ v, cmpD E D = v := ⟨_, rfl⟩
   rw [hx] at k1 ⊢
   rw [hy] at k2 ⊢
   rw [hz] at k3 ⊢
   rw [hv] at k4 ⊢
   have hs := Same_D D E (by have := hD.len; omega)
   have he : decide (D = E) = (x == 0) := by
    by_cases hDE : D = E
    ·subst hDE
     rw [if_neg (by omega), if_neg (by omega)] at k1
     rw [k1]; simp
    ·have : sc 1000 D ≠ sc 1000 E := fun h => hDE (hinj h)
     rw [decide_eq_false hDE]
     have : x ≠ 0 := by 
      rw [k1]
      split
      ·decide
      ·split
       ·decide
       ·omega
     exact (beq_eq_false_iff_ne.2 this).symm
   rw [he] at hs
   obtain ⟨p, hp⟩ : ∃ p, sc 1000 D = p := ⟨_, rfl⟩
   obtain ⟨q, hq⟩ : ∃ q, sc 1000 E = q := ⟨_, rfl⟩
   obtain ⟨r, hr⟩ : ∃ r, sc 1000 F = r := ⟨_, rfl⟩
   rw [hp, hq] at k1
   rw [hq, hr] at k2
   rw [hp, hr] at k3
   rw [hq, hp] at k4
   clear hx hy hz hv he hinj hp hq hr ha hab hc
   have hxv : v = wrap64 (-x) := by
    rcases Int.lt_trichotomy p q with h | h | h
    ·rw [if_pos h] at k1
     rw [if_neg (by omega), if_pos h] at k4
     rw [k1, k4]; decide +kernel
    ·rw [if_neg (by omega), if_neg (by omega)] at k1
     rw [if_neg (by omega), if_neg (by omega)] at k4
     rw [k1, k4]; decide +kernel
    ·rw [if_neg (by omega), if_pos h] at k1
     rw [if_pos h] at k4
     rw [k1, k4]; decide +kernel
   refine Tells.ifp hxv ?_
   refine hs.bind (Tells.ifp (by simp) ?_)
   by_cases h1 : x > 0
   ·exact Tells.ifp h1 (Tells.pure _)
   ·refine Tells.ifn h1 ?_
    by_cases h2 : y > 0
    ·exact Tells.ifp h2 (Tells.pure _)
    ·refine Tells.ifn h2 ((Tells.pure _).val (decide_eq_true ?_))
     rw [k1] at h1
     rw [k2] at h2
     rw [k3]
     split at h1 <;> split at h2 <;> (try split at h1) <;> (try split at h2) <;> split <;> (try split) <;> omega
  ·refine (CompareX_bad hm hn (fun h => hc h.2)).bind ((CompareX_bad hl hn (fun h => hc h.2)).bind ((DCompare E D hE hD).bind ?_))
   unfold bolterlaw02_num.f
   refine (Tells.pure _).bind (Tells.ifp rfl ((Tells.pure _).bind ?_))
   refine Tells.succ ?_
   simp only [bolterlaw02_DecOrder.j0]
   refine Tells.ifp (by decide +kernel) ?_
   by_cases h : cmpD D E = 0
   ·exact Tells.ifp h (Tells.pure _)
   ·exact Tells.ifn h ((Tells.pure _).val (by decide +kernel))
 ·have key : ∀ y z v : Int × Int, Tells (fun k => (bolterlaw02_num.f 9).bind fun t1727 => (if t1727 = 0 then ((bolterlaw02_num.f y.2).bind fun t1728 => (bolterlaw02_DecOrder.j0 k 0 y.1 z.1 z.2 v.1 v.2 (t1728 != 0) a l e b m f)) else (bolterlaw02_DecOrder.j0 k 0 y.1 z.1 z.2 v.1 v.2 true a l e b m f))) true := fun y z v => by
   unfold bolterlaw02_num.f
   refine (Tells.pure _).bind (Tells.ifn (by decide +kernel) ?_)
   refine Tells.succ ?_
   simp only [bolterlaw02_DecOrder.j0]
   exact Tells.ifp trivial (Tells.ifp trivial (Tells.pure _))
  obtain ⟨y, hy⟩ := CompareX (a := b) (b := c) (e := f) (g := g) hm hn
  obtain ⟨z, hz⟩ := CompareX (a := a) (b := c) (e := e) (g := g) hl hn
  obtain ⟨v, hv⟩ := CompareX (a := b) (b := a) (e := f) (g := e) hm hl
  exact (CompareX_bad hl hm hab).bind (hy.bind (hz.bind (hv.bind (key y z v))))
theorem RawD.nil : RawD [] := ⟨(fun x h => absurd h (by simp)), (by simp)⟩
theorem Tells.at {α : Type} {f : Nat → Option α} {v : α} (n : Nat) (h : ∀ k, f (k + n) = some v) : Tells f v := ⟨n, fun k hk => by
 obtain ⟨j, rfl⟩ : ∃ j, k = j + n := ⟨k - n, by omega⟩
 exact h j⟩
theorem alive02 : Tells (fun k => bolterlaw02_alive.f k) true := Tells.at 40 fun k => by kernel_rfl
end Go.Proofs.YtjbjkmccfocikaaGreatDoor.P.Nm

end

section
set_option linter.unusedVariables false
set_option linter.unusedSimpArgs false
namespace Go.Proofs.YtjbjkmccfocikaaGreatDoor.R
open Go.ChangeShapes Go.WideShapes Go.ChangeAt Go.RowKit Go.Joins Go.Proofs.YtjbjkmccfocikaaGreatDoorW.PrintWords Go.Proofs.YtjbjkmccfocikaaGreatDoor.P.Nm
theorem laidOut : laidOutB Tryz.prog = true := by kernel_rfl
theorem cellsD : Tryz.prog.cellsOf 24 = 3 := by kernel_rfl
theorem cellsU : Tryz.prog.cellsOf 85 = 1 := by kernel_rfl
theorem wf32 {n : Int} (h : (Lit.int .u32 n).wf = true) : 0 ≤ n ∧ n < 4294967296 := by
 have e1 : IntKind.u32.min = 0 := by decide
 have e2 : IntKind.u32.max = 4294967295 := by decide
 simp only [Lit.wf, e1, e2, Bool.and_eq_true, decide_eq_true_eq] at h
 omega
theorem open_limbs {H : Type} {enc : TypeId × Value → H} {W : World} {v : Value} {fuel : Nat} {x : DataW H × List MemPlace}
  (hf : DataW.trod enc Tryz.prog W 0 (fun _ => true) true fuel 22 [v] = some x) :
  ∃ (A : Option Addr) (c : Nat) (l : List Int), v = .slice A l.length c ∧ l.length ≤ c ∧ Kd.C (Kd.int .u32) W A l.length l ∧ RawD l ∧ ((x.1 = .nil ∧ l = []) ∨ ∃ spare, x.1 = .slice (lits .u32 l) spare) := by
 rcases open_ints Tryz.underlying22 Tryz.underlying85 cellsU hf with ⟨hcs, hx⟩ | ⟨a, len, cap, zs, hcs, _, hl, hm, hz, hx, hcell, hwf⟩
 ·simp at hcs
  subst hcs hx
  exact ⟨none, 0, [], rfl, Nat.le_refl _, Kd.C_of_reads (enc := Value.int .u32) (d := 0) ⟨rfl, by simp, fun h => absurd h (by simp)⟩, RawD.nil, .inl ⟨rfl, rfl⟩⟩
 ·simp at hcs
  subst hcs hx
  simp only [if_true] at hz
  have hlen : (zs.take len).length = len := by simp; omega
  refine ⟨some a, cap, zs.take len, by rw [hlen], by omega, Kd.C_of_reads (enc := Value.int .u32) (d := 0) ⟨rfl, by unfold maxLen at hm; simp; omega, fun _ => ⟨a, rfl, fun j hj => ?_⟩⟩, ⟨fun y hy => wf32 (hwf y (List.mem_of_mem_take hy)), by unfold maxLen at hm; omega⟩, .inr ⟨_, rfl⟩⟩
  have hj' : j < len := by simp at hj; omega
  rw [hcell j (by omega)]
  simp [List.getD, List.getElem?_take_of_lt hj']
theorem bytesU : Tryz.prog.bytesOf 85 = 4 := by kernel_rfl
theorem limbs_sized {H : Type} {x : DataW H} {l : List Int} (h : (x = .nil ∧ l = []) ∨ ∃ spare, x = .slice (lits .u32 l) spare) (hw : (x.weights Tryz.prog 22).all (· ≤ reachBytes) = true) : l.length ≤ 35184372087808 := by
 rcases h with ⟨rfl, rfl⟩ | ⟨sp, rfl⟩
 ·simp
 ·have := List.all_eq_true.1 hw (((lits .u32 l : List (DataW H)).length + sp.length) * Tryz.prog.bytesOf 85) (by simp [DataW.weights, Tryz.underlying22])
  rw [bytesU] at this
  have hl : (lits .u32 l : List (DataW H)).length = l.length := by simp [lits]
  rw [hl] at this
  have hb : reachBytes = 140737488351232 := by decide
  rw [decide_eq_true_eq, hb] at this
  omega
set_option maxRecDepth 100000 in
theorem open_dec {H : Type} {enc : TypeId × Value → H} {W : World} {base : Nat} {v : Value} {d : DataW H} {p : List MemPlace} (hv : Value.okWide Tryz.prog W .any base 24 v)
  (h : DataW.Trod enc Tryz.prog W 0 (fun _ => true) true 24 v d p) :
  ∃ (n : Bool) (A : Option Addr) (c : Nat) (l : List Int) (e : Int), v = .agg #[.bool n, .slice A l.length c, .int .i64 e] ∧ l.length ≤ c ∧ Kd.C (Kd.int .u32) W A l.length l ∧ RawD l ∧ (Lit.int .i64 e).wf = true ∧
   ((d.weights Tryz.prog 24).all (· ≤ reachBytes) = true → l.length ≤ 35184372087808) := by
 obtain ⟨c0, c1, c2, y0, y1, y2, m, rfl, rfl, rfl, hy0, hy1, hy2⟩ := open_agg3 Tryz.underlying24 (by kernel_rfl) cellsD hv h
 obtain ⟨n, e0, _⟩ := DataW.trod_bool Tryz.underlying4 hy0
 obtain ⟨A, c, l, e1, h1, h2, h3, h4⟩ := open_limbs hy1
 obtain ⟨e, e2, _, we⟩ := DataW.trod_int Tryz.underlying3 hy2
 simp at e0 e2
 subst e0 e1 e2
 refine ⟨n, A, c, l, e, rfl, h1, h2, h3, we, fun hw => limbs_sized h4 (List.all_eq_true.2 fun z hz => List.all_eq_true.1 hw z ?_)⟩
 simp only [DataW.weights, Tryz.underlying24, List.map_cons, List.map_nil, DataW.weightsEach, List.mem_append]
 exact .inr (.inl hz)
end Go.Proofs.YtjbjkmccfocikaaGreatDoor.R

end

section
set_option linter.unusedVariables false
set_option linter.unusedSimpArgs false
namespace Go.Proofs.YtjbjkmccfocikaaGreatDoor.R.decOrder
open Go.ChangeShapes Go.WideShapes Go.ChangeAt Go.RowKit
open Go.ChangeMaps (open_string shut_string)
theorem reads (os : Os) {H : Type} (enc : TypeId × Value → H) : ∃ places, DataW.whole enc Tryz.prog ((laidWorld os).forCall (fun _ _ => 0) ⟨#[], #[Value.agg #[.bool false, .slice none 0 0, .int .i64 0], Value.agg #[.bool false, .slice none 0 0, .int .i64 0], Value.agg #[.bool false, .slice none 0 0, .int .i64 0]], []⟩).memory Tryz.f10.params.toList Rows.decOrderSpec.vars false (#[Value.agg #[.bool false, .slice none 0 0, .int .i64 0], Value.agg #[.bool false, .slice none 0 0, .int .i64 0], Value.agg #[.bool false, .slice none 0 0, .int .i64 0]] : Array Value).toList 8 = some ([.agg [.lit (.bool false), .nil, .lit (.int .i64 0)], .agg [.lit (.bool false), .nil, .lit (.int .i64 0)], .agg [.lit (.bool false), .nil, .lit (.int .i64 0)]], [], places) :=
 ⟨[], by kernel_rfl⟩
set_option maxRecDepth 100000 in
theorem contract (H : Type) (enc : TypeId × Value → H) (W : World) (base : Nat) (args : Array Value) (ds gs : List (DataW H)) (before : List MemPlace)
  (hval : ∀ (j : Nat) t v, Tryz.f10.params[j]? = some t → args[j]? = some v → Value.okWide Tryz.prog W .any base t v)
  (hW : DataW.Whole enc Tryz.prog Tryz.f10.params.toList Rows.decOrderSpec.vars false W args.toList ds gs before) (hk : (DataW.weightsEach Tryz.prog (Tryz.f10.params.toList ++ (OpenSpec.ofChange Rows.decOrderSpec).bare.plain.varTypes Tryz.prog) (ds ++ gs)).all (· ≤ reachBytes) = true) (hL : laidMetH Tryz.prog laidL W) (hsh : W.ShapedOpen Tryz.prog) :
  Calls Tryz.prog 10 args W fun e W' => ∃ v, e = .returned v ∧ Rows.decOrderSpec.post enc Tryz.prog Tryz.f10 false true false false W args v W' := by
 have hG := glob hL hsh
 have hW' := hW
 obtain ⟨p, q, hA0, hV, rfl, hfz, hnd⟩ := hW
 have hA : DataW.TrodAll enc Tryz.prog W 0 (fun _ => true) true Tryz.f10.params.toList args.toList ds p := hA0
 rw [Tryz.params10] at hA hval hk
 obtain ⟨v0, vs0, d0, ds0, p0, q0, hargs, rfl, rfl, h0, r0⟩ := trodAll_cons hA
 obtain ⟨v1, vs1, d1, ds1, p1, q1, rfl, rfl, rfl, h1, r1⟩ := trodAll_cons r0
 obtain ⟨v2, vs2, d2, ds2, p2, q2, rfl, rfl, rfl, h2, r2⟩ := trodAll_cons r1
 obtain ⟨rfl, rfl, rfl⟩ := trodAll_nil r2
 obtain rfl : args = #[v0, v1, v2] := by cases args; simp_all
 obtain ⟨rfl, rfl⟩ := trodVars_none hV
 have h0k := h0
 obtain ⟨n0, A0, c0, l0, e0, rfl, hc0, hC0, hR0, we0, hs0⟩ := open_dec (hval 0 24 v0 rfl rfl) h0
 have h1k := h1
 obtain ⟨n1, A1, c1, l1, e1, rfl, hc1, hC1, hR1, we1, hs1⟩ := open_dec (hval 1 24 v1 rfl rfl) h1
 have h2k := h2
 obtain ⟨n2, A2, c2, l2, e2, rfl, hc2, hC2, hR2, we2, hs2⟩ := open_dec (hval 2 24 v2 rfl rfl) h2
 simp only [List.append_nil] at hW'
 have hlt : ∀ x ∈ p0 ++ p1 ++ p2, x.block < W.heap.size := fun x hx => hW'.lt x (by simpa using hx)
 clear hA0 hA hk hL
 obtain ⟨k, hp⟩ := (P.Nm.DecOrder_plain P.Nm.alive02 hR0 hR1 hR2).ex
 refine (B.bolterlaw02_DecOrder.calls k n0 A0 c0 l0 e0 n1 A1 c1 l1 e1 n2 A2 c2 l2 e2 true W hC0 hc0 hC1 hc1 hC2 hc2 hp rfl).mono fun e W' ⟨he, bel⟩ => ?_
 subst he
 exact ⟨_, rfl, _, _, _, [], _, [], hW', trodAll_mk1 (shut_bool Tryz.underlying4 _), (trodAll_cons_mk (Below.trod laidOut (by kernel_rfl) (of_decide_eq_true (by kernel_rfl)) h0k bel (fun x hx => hlt x (by simp [hx]))) (trodAll_cons_mk (Below.trod laidOut (by kernel_rfl) (of_decide_eq_true (by kernel_rfl)) h1k bel (fun x hx => hlt x (by simp [hx]))) (trodAll_cons_mk (Below.trod laidOut (by kernel_rfl) (of_decide_eq_true (by kernel_rfl)) h2k bel (fun x hx => hlt x (by simp [hx]))) trodAll_mk0))), rfl, bel.frame _, fun h => by cases h⟩
set_option maxRecDepth 100000 in
theorem lifted (os : Os) (started : os.Started) (H : Type) (enc : TypeId × Value → H) (F : Stop.Interp) :
  ReturnsInHanded {} Tryz.checked os 10 .any ((OpenSpec.ofChange Rows.decOrderSpec).preRow enc Tryz.prog Tryz.f10 Rows.decOrderRow.domain false Rows.decOrderRow.laid) (((OpenSpec.ofChange Rows.decOrderSpec).at F).post enc Tryz.prog Tryz.f10 false true false false) := by
 obtain ⟨places, hx⟩ := reads os enc
 refine returnsInHanded_of_row (C := Tryz.checked) (s := OpenSpec.ofChange Rows.decOrderSpec) own started (by kernel_rfl) Tryz.func10
  (witness_row_at (enc := enc) (C := Tryz.checked) false (laidWorld os) #[Value.agg #[.bool false, .slice none 0 0, .int .i64 0], Value.agg #[.bool false, .slice none 0 0, .int .i64 0], Value.agg #[.bool false, .slice none 0 0, .int .i64 0]] rfl (by kernel_rfl) (by kernel_rfl) (by kernel_rfl)
   (OpenSpec.preRow_of_cond 8 hx (by kernel_rfl) (fun k hk => by cases hk) (by kernel_rfl) (laid_met os _))) ?_
 intro W base args ds gs before hval hW _ _ hk hL hsh _
 exact contract H enc W base args ds gs before hval hW hk hL hsh
theorem said : Rows.DecOrderSaid :=
 OpenClaim.holds_of_cond 10 Tryz.f10 rfl rfl rfl rfl rfl rfl rfl ⟨rfl, rfl, rfl, rfl, rfl⟩ rfl rfl rfl rfl rfl (by kernel_rfl) Tryz.func10 (by kernel_rfl)
  (of_decide_eq_true (by kernel_rfl)) (by unfold Func.isWrapper; first | (rw [if_pos (by decide +kernel)]; kernel_rfl) | (rw [if_neg (by decide +kernel)]; exact ⟨rfl, rfl⟩))
  (fun os started H enc _ F => by rw [OpenClaim.pre_eq_preRow]; exact lifted os started H enc F)
theorem plain (f : FuncId) (fn : Func) (hf : Tryz.pinned.checked.prog.funcNamed "bolter/bolterlaw02.DecOrder" = some f) (hfn : Tryz.pinned.checked.prog.funcs[f]? = some fn) :
  false = Tryz.pinned.checked.prog.looks [] ∧ ∀ (j : Nat) t, fn.params[j]? = some t → Tryz.pinned.checked.prog.wantsStandIn t = false := by
 obtain rfl : f = 10 := Option.some.inj ((show Tryz.prog.funcNamed "bolter/bolterlaw02.DecOrder" = some 10 by kernel_rfl).symm.trans hf) |>.symm
 obtain rfl : fn = Tryz.f10 := (Option.some.inj (Tryz.func10.symm.trans hfn)).symm
 refine ⟨by kernel_rfl, fun j t ht => ?_⟩
 rw [Tryz.params10] at ht
 have hm : t ∈ (#[24, 24, 24] : Array TypeId) := Array.mem_of_getElem? ht
 have hall : ∀ t ∈ [24, 24, 24], Tryz.prog.wantsStandIn t = false := by
  intro t h
  simp only [List.mem_cons, List.mem_nil_iff, or_false] at h
  rcases h with rfl | rfl | rfl <;> kernel_rfl
 exact hall t (by simpa using hm)
theorem card : Rows.DecOrderCardSaid :=
 Claim7.holds_tied_plain_at .later [] _ _ _ _ said (fun _ h => by cases h) (by kernel_rfl) (fun _ h => by cases h) decOrder_row_tie rfl ⟨rfl, rfl⟩ (by kernel_rfl) rfl plain (by kernel_rfl)
#print axioms card
end Go.Proofs.YtjbjkmccfocikaaGreatDoor.R.decOrder

end
