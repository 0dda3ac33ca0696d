/- DecInts: part 5 of 6: the texts B128 B130 B133 PDecF B115 B116 B117 HLib B118 B119 B60 B61 B62 of this claim, one behind the other. -/
import Derived.Test.YtjbjkmccfocikaaGreatDoorZDecInts3
import Derived.Lib.TrimByte
import Derived.Shelf.Strings.MapAny
import Derived.Lib.Hide
import Derived.Shelf.Strings.SlTrimAscii
set_option linter.unusedVariables false
set_option linter.unusedSimpArgs false
set_option maxRecDepth 100000
set_option maxHeartbeats 8000000
namespace Go.Proofs
section
namespace YtjbjkmccfocikaaGreatDoor.B
open Go.RowKit YtjbjkmccfocikaaGreatDoorW.PrintWords YtjbjkmccfocikaaGreatDoorW.PrintLast YtjbjkmccfocikaaGreatDoorW.PrintMore
attribute [local go_sem] max2_int min2_int max_two min_two max_three min_three max_four min_four
def dec_Compare.f (k : Nat) (a0_0 : Bool) (l0_1 : List Int) (a0_2 : Int) (a1_0 : Bool) (l1_1 : List Int) (a1_2 : Int) : Option (Int × Int) := (dec_ask.f k (([(⟨a0_0, l0_1, a0_2⟩ : S24), (⟨a1_0, l1_1, a1_2⟩ : S24)] : List (S24)))).bind fun t1702 => (if t1702 = 0 then ((dec_number_minus.f a1_0 l1_1 a1_2).bind fun bt1703 => ((dec_number_plus.f k a0_0 l0_1 a0_2 bt1703.1 bt1703.2.1 bt1703.2.2).bind fun bt1708 => ((dec_number_zero.f bt1708.1 bt1708.2.1 bt1708.2.2).bind fun t1714 => (if t1714 = true then (some (0, 0)) else (if bt1708.1 = true then (some ((-1), 0)) else (some (1, 0))))))) else (some (0, t1702)))
def dec_Compare.T4 : Bool × List (List Nat × List Nat) := (true, [([], []), ([0], [0]), ([], []), ([2], [2]), ([3], [3]), ([1, 4, 4], [1, 4]), ([], []), ([6, 5, 5, 0, 1, 2, 3, 4, 5, 6], [5, 6])])
def dec_Compare.B4 : List Nat := [0, 1, 0, 4, 12, 31, 0, 127]
theorem dec_Compare.tab4 : rtab .any (opsOf Tryz.f48 4) = dec_Compare.T4 := by kernel_rfl
theorem dec_Compare.bits4 : waitsOk dec_Compare.T4.2 dec_Compare.B4 = true := by kernel_rfl
theorem dec_Compare.leaf {P : Prop} (h : P := by
 go_enter Tryz.func48, Tryz.ntmps48
 try go_wp2_with (first | ((with_reducible refine gate_dst (N := 2) rfl ?_); refine box_event ?hg (N := 2) ?hd (cs := #[.bool a0_0, .slice A0_1 l0_1.length c0_1, .int .i64 a0_2]) (t := 24) ?hr ?_; (case hd => rfl); (case hg => rfl); (case hr => first | (go_simp; done) | (go_simp; rfl)); intro gb0z hg w1z hbox hb; have n0_ := am (Kd.V_below (Kd.V_elderB (Kd.V_below HO0_1.out pl) gb0z (Nat.le_of_eq hg.symm)) hb); have n1_ := am (Kd.V_below (Kd.V_elderB (Kd.V_below HO1_1.out pl) gb0z (Nat.le_of_eq hg.symm)) hb); have n2_ := am (below_step pB hb); have n3_ := am (hbox); have n4_ := am ((gw hg pB : w.heap.size <= gb0z)); have n5_ := am ((gw hg pB : w.heap.size <= gb0z)); clear HO0_1 HO1_1 HB; have HO0_1 := n0_; have HO1_1 := n1_; have HB := n2_; have BK2z := n3_; have GW3z := n4_; have GE4z := n5_; clear n0_ n1_ n2_ n3_ n4_ n5_ hb hbox hg) | ((with_reducible refine gate_dst (N := 3) rfl ?_); refine box_event ?hg (N := 3) ?hd (cs := #[.bool a1_0, .slice A1_1 l1_1.length c1_1, .int .i64 a1_2]) (t := 24) ?hr ?_; (case hd => rfl); (case hg => rfl); (case hr => first | (go_simp; done) | (go_simp; rfl)); intro gb5z hg w6z hbox hb; have n0_ := am (Kd.V_below (Kd.V_elderB (Kd.V_below HO0_1.out pl) gb5z (Nat.le_of_eq hg.symm)) hb); have n1_ := am (Kd.V_below (Kd.V_elderB (Kd.V_below HO1_1.out pl) gb5z (Nat.le_of_eq hg.symm)) hb); have n2_ := am (blk_below (blk_below BK2z.out pl) hb); have n3_ := am (below_step pB hb); have n4_ := am (hbox); have n5_ := am ((gw hg pB : w.heap.size <= gb5z)); have n6_ := am ((gw hg pB : w.heap.size <= gb5z)); have n7_ := am ((nl hg (blk_below BK2z.out pl) : gb0z ≠ gb5z)); have n8_ := am ((ng hg (blk_below BK2z.out pl) : gb5z ≠ gb0z)); clear HO0_1 HO1_1 BK2z HB; have HO0_1 := n0_; have HO1_1 := n1_; have BK2z := n2_; have HB := n3_; have BK7z := n4_; have GW8z := n5_; have GE9z := n6_; have NB10z := n7_; have NB11z := n8_; clear n0_ n1_ n2_ n3_ n4_ n5_ n6_ n7_ n8_ hb hbox hg; have hnb12z := NB10z.out; have hnc13z := NB11z.out; obtain ⟨hcz14z, hcz15z, hcz16z, hfz17z, hfz18z, hfz19z⟩ := cEc BK2z.out; obtain ⟨hcz20z, hcz21z, hcz22z, hfz23z, hfz24z, hfz25z⟩ := cEc BK7z.out) | ((with_reducible refine gate_dst (N := 10) rfl ?_); refine Kd.N_lit k24 _ 24 ?hg (N' := 10) ?hd (xs := ([(⟨a0_0, l0_1, a0_2⟩ : S24), (⟨a1_0, l1_1, a1_2⟩ : S24)] : List (S24))) (inner := [.bool a0_0, .slice A0_1 l0_1.length c0_1, .int .i64 a0_2, .bool a1_0, .slice A1_1 l1_1.length c1_1, .int .i64 a1_2]) (ok := (fun k_ => ((P0_1_ k_ \/ P1_1_ k_) \/ w.heap.size <= k_) /\ k_ ≠ gb0z /\ k_ ≠ gb5z)) (okp := (fun k_ => ((P0_1_ k_ \/ P1_1_ k_) \/ w.heap.size <= k_) /\ k_ ≠ gb0z /\ k_ ≠ gb5z)) ?hr ?hp (fun _ hk => hk) ((show ∀ k_, w6z.heap.size <= k_ -> (fun k_ => ((P0_1_ k_ \/ P1_1_ k_) \/ w.heap.size <= k_) /\ k_ ≠ gb0z /\ k_ ≠ gb5z) k_ from fun k_ hk => ⟨(.inr (Nat.le_trans (below_size pB) hk)), Kd.freshB (g := gb0z) (o := .cells #[.bool a0_0, .slice A0_1 l0_1.length c0_1, .int .i64 a0_2] 24 (0, 0)) (blk_below BK2z.out pl) k_ hk, Kd.freshB (g := gb5z) (o := .cells #[.bool a1_0, .slice A1_1 l1_1.length c1_1, .int .i64 a1_2] 24 (0, 0)) (blk_below BK7z.out pl) k_ hk⟩) _ (Nat.le_refl _)) (Below.refl _ _) (Nat.le_refl _) (by simp) ?_; (case hd => rfl); (case hg => rfl); (case hr => first | (go_simp; done) | (go_simp; rfl)); (case hp => exact (Reps.c3 (show Kd.FK k24 _ _ (⟨a0_0, l0_1, a0_2⟩ : S24) [.bool a0_0, .slice A0_1 l0_1.length c0_1, .int .i64 a0_2] from (k24_mkF _ _ (⟨a0_0, l0_1, a0_2⟩ : S24) (Kd.V_reads' (Kd.V_mono (ok' := (fun k_ => ((P0_1_ k_ \/ P1_1_ k_) \/ w.heap.size <= k_) /\ k_ ≠ gb0z /\ k_ ≠ gb5z)) (HO0_1.out) (fun k_ hk => ⟨hk.1.1, ⟨hk.1.2, hk.2⟩⟩))).2.1 (Kd.V_F (Kd.V_mono (ok' := (fun k_ => ((P0_1_ k_ \/ P1_1_ k_) \/ w.heap.size <= k_) /\ k_ ≠ gb0z /\ k_ ≠ gb5z)) (HO0_1.out) (fun k_ hk => ⟨hk.1.1, ⟨hk.1.2, hk.2⟩⟩))))) (Reps.c3 (show Kd.FK k24 _ _ (⟨a1_0, l1_1, a1_2⟩ : S24) [.bool a1_0, .slice A1_1 l1_1.length c1_1, .int .i64 a1_2] from (k24_mkF _ _ (⟨a1_0, l1_1, a1_2⟩ : S24) (Kd.V_reads' (Kd.V_mono (ok' := (fun k_ => ((P0_1_ k_ \/ P1_1_ k_) \/ w.heap.size <= k_) /\ k_ ≠ gb0z /\ k_ ≠ gb5z)) (HO1_1.out) (fun k_ hk => ⟨hk.1.1, ⟨hk.1.2, hk.2⟩⟩))).2.1 (Kd.V_F (Kd.V_mono (ok' := (fun k_ => ((P0_1_ k_ \/ P1_1_ k_) \/ w.heap.size <= k_) /\ k_ ≠ gb0z /\ k_ ≠ gb5z)) (HO1_1.out) (fun k_ hk => ⟨hk.1.1, ⟨hk.1.2, hk.2⟩⟩))))) (Reps.none _ _)))); intro v26z w27z ho28z hb hg_ hnew_; clear hg_ hnew_; (first | rw [<- Ny1699.out] at ho28z | (simp only [Int.reduceToNat] at ho28z; rw [<- Ny1699.out] at ho28z)); replace HO0_1 := am (Kd.V_elder' (Kd.V_below HO0_1.out pl) (Kd.N_base ho28z) hb); replace HO1_1 := am (Kd.V_elder' (Kd.V_below HO1_1.out pl) (Kd.N_base ho28z) hb); have HO29z := am (Kd.N_lower ho28z (below_size pB)); replace BK2z := am (blk_below (blk_below BK2z.out pl) hb); replace BK7z := am (blk_below (blk_below BK7z.out pl) hb); replace HB := am (below_step pB hb); clear hb ho28z; obtain ⟨Ao30z, co31z, eo32z⟩ := Kd.N_slice HO29z.out; subst eo32z) | (refine gL (some 11) Tryz.func99 #[.slice Ao30z y1699.length co31z] (h := ?_); (with_reducible refine (dec_ask.calls k _ _ y1699 t1702 _ ?side1 ?side2 A3.out).mono ?_); (case side1 => exact Kd.C_below (Kd.N_reads' HO29z.out).2.2 pl); (case side2 => exact (Kd.N_reads' HO29z.out).2.1); rintro e w33z ⟨rfl, hb⟩; refine ⟨_, rfl, ?_⟩; replace HO0_1 := am (Kd.V_below (Kd.V_below HO0_1.out pl) hb); replace HO1_1 := am (Kd.V_below (Kd.V_below HO1_1.out pl) hb); replace HO29z := am (Kd.N_below (Kd.N_below HO29z.out pl) hb); replace BK2z := am (blk_below (blk_below BK2z.out pl) hb); replace BK7z := am (blk_below (blk_below BK7z.out pl) hb); replace HB := am (below_step pB hb); (try clear hb); (try clear hb34z); (try clear hk); (try clear hi)))
 first
  | have q_ := A7
    replace HO0_1 := am (Kd.V_drew HO0_1.out)
    replace HO1_1 := am (Kd.V_drew HO1_1.out)
    replace HO29z := am (Kd.N_drew HO29z.out)
    replace BK2z := am (blk_drew BK2z.out)
    replace BK7z := am (blk_drew BK7z.out)
    replace HB := am (below_drew1 HB.out)
    refine start_ (n := 8) (S := fun w' => w'.cell? ⟨gb0z, 0, none⟩ = some (.bool a0_0) /\ w'.cell? ⟨gb0z, 1, none⟩ = some (.slice A0_1 l0_1.length c0_1) /\ w'.cell? ⟨gb0z, 2, none⟩ = some (.int .i64 a0_2) /\ w'.cell? ⟨gb5z, 0, none⟩ = some (.bool a1_0) /\ w'.cell? ⟨gb5z, 1, none⟩ = some (.slice A1_1 l1_1.length c1_1) /\ w'.cell? ⟨gb5z, 2, none⟩ = some (.int .i64 a1_2)) (ds := []) #[false, false, false, false, false, false, false, false] (by kernel_rfl) rfl rfl ⟨(blk_cell BK2z.out 0).trans rfl, (blk_cell BK2z.out 1).trans rfl, (blk_cell BK2z.out 2).trans rfl, (blk_cell BK7z.out 0).trans rfl, (blk_cell BK7z.out 1).trans rfl, (blk_cell BK7z.out 2).trans rfl⟩ (fun hHeld => ?_); refine with_tabW dec_Compare.tab4 dec_Compare.bits4 (fun HT_ HW_ => ?_)
    generalize w33z.drew = w35z at HO0_1 HO1_1 HO29z BK2z BK7z HB hHeld ⊢
    refine take_ (i := 0) (N := some 15) (v := ?_) (a' := ?_) #[true, false, false, false, false, false, false, false] rfl rfl (take_ofW HT_.out HW_.out (by kernel_rfl)) (fun _ _ _ h => h) (Or.inl ⟨by rfl, ?_⟩) hHeld ?_ ?_
    rotate_left
    ·rintro w' ⟨s36z, s37z, s38z, s39z, s40z, s41z⟩
     go_simp
     with_reducible rfl
    rotate_left
    ·simp only [Act.put, List.setIfInBounds_toArray, List.set_cons_zero, List.set_cons_succ, i64_w, i32_w]
     rfl
    refine pu 1 (some 16) #[true, true, false, false, false, false, false, false] (h := ?_)
    refine take_ (i := 2) (N := some 17) (v := ?_) (a' := ?_) #[true, true, true, false, false, false, false, false] rfl rfl (take_ofW HT_.out HW_.out (by kernel_rfl)) (fun _ _ _ h => h) (Or.inl ⟨by rfl, ?_⟩) hHeld ?_ ?_
    rotate_left
    ·rintro w' ⟨s36z, s37z, s38z, s39z, s40z, s41z⟩
     go_simp
     with_reducible rfl
    rotate_left
    ·simp only [Act.put, List.setIfInBounds_toArray, List.set_cons_zero, List.set_cons_succ, i64_w, i32_w]
     rfl
    refine pu 3 (some 18) #[true, true, true, true, false, false, false, false] (h := ?_)
    first | (have q_ : Aside0 (_ = some true) := A7; refine join_ (σ := Value × Value × Nat) 1 #[true, true, true, true, true, true, true, false] (fun s_ => [(19, .agg #[.bool t1703, s_.1, .int .i64 t1707]), (20, .agg #[.bool t1708, s_.2.1, .int .i64 t1712]), (7, .pointer (some ⟨s_.2.2, 0, none⟩))]) (fun s_ w' => (w'.cell? ⟨gb0z, 0, none⟩ = some (.bool a0_0) /\ w'.cell? ⟨gb0z, 1, none⟩ = some (.slice A0_1 l0_1.length c0_1) /\ w'.cell? ⟨gb0z, 2, none⟩ = some (.int .i64 a0_2) /\ w'.cell? ⟨gb5z, 0, none⟩ = some (.bool a1_0) /\ w'.cell? ⟨gb5z, 1, none⟩ = some (.slice A1_1 l1_1.length c1_1) /\ w'.cell? ⟨gb5z, 2, none⟩ = some (.int .i64 a1_2)) /\ (Kd.V (Kd.int .u32) 85 w' w.heap.size (fun k_ => ((P0_1_ k_ \/ P1_1_ k_) \/ w.heap.size <= k_) /\ some k_ ≠ (.slice Ao30z y1699.length co31z : Value).ownBlock /\ some k_ ≠ (s_.2.1 : Value).ownBlock /\ k_ ≠ gb0z /\ k_ ≠ gb5z /\ k_ ≠ s_.2.2) (.slice A0_1 l0_1.length c0_1) l0_1) /\ (Kd.N k24 24 w' w.heap.size (fun k_ => ((P0_1_ k_ \/ P1_1_ k_) \/ w.heap.size <= k_) /\ some k_ ≠ (s_.2.1 : Value).ownBlock /\ k_ ≠ gb0z /\ k_ ≠ gb5z /\ k_ ≠ s_.2.2) (.slice Ao30z y1699.length co31z) y1699) /\ (Kd.V (Kd.int .u32) 85 w' w.heap.size (fun k_ => ((P0_1_ k_ \/ P1_1_ k_) \/ w.heap.size <= k_) /\ some k_ ≠ (.slice Ao30z y1699.length co31z : Value).ownBlock /\ some k_ ≠ (s_.2.1 : Value).ownBlock /\ k_ ≠ gb0z /\ k_ ≠ gb5z /\ k_ ≠ s_.2.2) s_.1 t1704) /\ (Kd.R (Kd.int .u32) 85 w' w.heap.size (fun k_ => (w.heap.size <= k_)) s_.2.1 t1709) /\ (Kd.V (Kd.int .u32) 85 w' w.heap.size (fun k_ => ((P0_1_ k_ \/ P1_1_ k_) \/ w.heap.size <= k_) /\ some k_ ≠ (.slice Ao30z y1699.length co31z : Value).ownBlock /\ some k_ ≠ (s_.2.1 : Value).ownBlock /\ k_ ≠ gb0z /\ k_ ≠ gb5z /\ k_ ≠ s_.2.2) (.slice A1_1 l1_1.length c1_1) l1_1) /\ (w'.heap[gb0z]? = some (.cells #[.bool a0_0, .slice A0_1 l0_1.length c0_1, .int .i64 a0_2] 24 (0, 0))) /\ (w'.heap[gb5z]? = some (.cells #[.bool a1_0, .slice A1_1 l1_1.length c1_1, .int .i64 a1_2] 24 (0, 0))) /\ (w'.heap[s_.2.2]? = some (.cells #[.bool false, .slice none 0 0, .int .i64 0] 106 (0, 0))) /\ (w.heap.size <= s_.2.2) /\ (w.heap.size <= s_.2.2) /\ (gb0z ≠ s_.2.2) /\ (s_.2.2 ≠ gb0z) /\ (gb5z ≠ s_.2.2) /\ (s_.2.2 ≠ gb5z) /\ (Below w.heap.size w w')) ?_ ?_) | (have q_ : Aside0 (_ = some (true, _, _)) := A6; have q_ : Aside0 (_ = some false) := A7; refine join_ (σ := Value × Value × Nat) 1 #[true, true, true, true, true, true, true, false] (fun s_ => [(19, .agg #[.bool t1703, s_.1, .int .i64 t1707]), (20, .agg #[.bool true, s_.2.1, .int .i64 t1712]), (7, .pointer (some ⟨s_.2.2, 0, none⟩))]) (fun s_ w' => (w'.cell? ⟨gb0z, 0, none⟩ = some (.bool a0_0) /\ w'.cell? ⟨gb0z, 1, none⟩ = some (.slice A0_1 l0_1.length c0_1) /\ w'.cell? ⟨gb0z, 2, none⟩ = some (.int .i64 a0_2) /\ w'.cell? ⟨gb5z, 0, none⟩ = some (.bool a1_0) /\ w'.cell? ⟨gb5z, 1, none⟩ = some (.slice A1_1 l1_1.length c1_1) /\ w'.cell? ⟨gb5z, 2, none⟩ = some (.int .i64 a1_2)) /\ (Kd.V (Kd.int .u32) 85 w' w.heap.size (fun k_ => ((P0_1_ k_ \/ P1_1_ k_) \/ w.heap.size <= k_) /\ some k_ ≠ (.slice Ao30z y1699.length co31z : Value).ownBlock /\ some k_ ≠ (s_.2.1 : Value).ownBlock /\ k_ ≠ gb0z /\ k_ ≠ gb5z /\ k_ ≠ s_.2.2) (.slice A0_1 l0_1.length c0_1) l0_1) /\ (Kd.N k24 24 w' w.heap.size (fun k_ => ((P0_1_ k_ \/ P1_1_ k_) \/ w.heap.size <= k_) /\ some k_ ≠ (s_.2.1 : Value).ownBlock /\ k_ ≠ gb0z /\ k_ ≠ gb5z /\ k_ ≠ s_.2.2) (.slice Ao30z y1699.length co31z) y1699) /\ (Kd.V (Kd.int .u32) 85 w' w.heap.size (fun k_ => ((P0_1_ k_ \/ P1_1_ k_) \/ w.heap.size <= k_) /\ some k_ ≠ (.slice Ao30z y1699.length co31z : Value).ownBlock /\ some k_ ≠ (s_.2.1 : Value).ownBlock /\ k_ ≠ gb0z /\ k_ ≠ gb5z /\ k_ ≠ s_.2.2) s_.1 t1704) /\ (Kd.R (Kd.int .u32) 85 w' w.heap.size (fun k_ => (w.heap.size <= k_)) s_.2.1 t1709) /\ (Kd.V (Kd.int .u32) 85 w' w.heap.size (fun k_ => ((P0_1_ k_ \/ P1_1_ k_) \/ w.heap.size <= k_) /\ some k_ ≠ (.slice Ao30z y1699.length co31z : Value).ownBlock /\ some k_ ≠ (s_.2.1 : Value).ownBlock /\ k_ ≠ gb0z /\ k_ ≠ gb5z /\ k_ ≠ s_.2.2) (.slice A1_1 l1_1.length c1_1) l1_1) /\ (w'.heap[gb0z]? = some (.cells #[.bool a0_0, .slice A0_1 l0_1.length c0_1, .int .i64 a0_2] 24 (0, 0))) /\ (w'.heap[gb5z]? = some (.cells #[.bool a1_0, .slice A1_1 l1_1.length c1_1, .int .i64 a1_2] 24 (0, 0))) /\ (w'.heap[s_.2.2]? = some (.cells #[.bool false, .slice none 0 0, .int .i64 0] 106 (0, 0))) /\ (w.heap.size <= s_.2.2) /\ (w.heap.size <= s_.2.2) /\ (gb0z ≠ s_.2.2) /\ (s_.2.2 ≠ gb0z) /\ (gb5z ≠ s_.2.2) /\ (s_.2.2 ≠ gb5z) /\ (Below w.heap.size w w')) ?_ ?_) | (have q_ : Aside0 (_ = some (false, _, _)) := A6; have q_ : Aside0 (_ = some false) := A7; refine join_ (σ := Value × Value × Nat) 1 #[true, true, true, true, true, true, true, false] (fun s_ => [(19, .agg #[.bool t1703, s_.1, .int .i64 t1707]), (20, .agg #[.bool false, s_.2.1, .int .i64 t1712]), (7, .pointer (some ⟨s_.2.2, 0, none⟩))]) (fun s_ w' => (w'.cell? ⟨gb0z, 0, none⟩ = some (.bool a0_0) /\ w'.cell? ⟨gb0z, 1, none⟩ = some (.slice A0_1 l0_1.length c0_1) /\ w'.cell? ⟨gb0z, 2, none⟩ = some (.int .i64 a0_2) /\ w'.cell? ⟨gb5z, 0, none⟩ = some (.bool a1_0) /\ w'.cell? ⟨gb5z, 1, none⟩ = some (.slice A1_1 l1_1.length c1_1) /\ w'.cell? ⟨gb5z, 2, none⟩ = some (.int .i64 a1_2)) /\ (Kd.V (Kd.int .u32) 85 w' w.heap.size (fun k_ => ((P0_1_ k_ \/ P1_1_ k_) \/ w.heap.size <= k_) /\ some k_ ≠ (.slice Ao30z y1699.length co31z : Value).ownBlock /\ some k_ ≠ (s_.2.1 : Value).ownBlock /\ k_ ≠ gb0z /\ k_ ≠ gb5z /\ k_ ≠ s_.2.2) (.slice A0_1 l0_1.length c0_1) l0_1) /\ (Kd.N k24 24 w' w.heap.size (fun k_ => ((P0_1_ k_ \/ P1_1_ k_) \/ w.heap.size <= k_) /\ some k_ ≠ (s_.2.1 : Value).ownBlock /\ k_ ≠ gb0z /\ k_ ≠ gb5z /\ k_ ≠ s_.2.2) (.slice Ao30z y1699.length co31z) y1699) /\ (Kd.V (Kd.int .u32) 85 w' w.heap.size (fun k_ => ((P0_1_ k_ \/ P1_1_ k_) \/ w.heap.size <= k_) /\ some k_ ≠ (.slice Ao30z y1699.length co31z : Value).ownBlock /\ some k_ ≠ (s_.2.1 : Value).ownBlock /\ k_ ≠ gb0z /\ k_ ≠ gb5z /\ k_ ≠ s_.2.2) s_.1 t1704) /\ (Kd.R (Kd.int .u32) 85 w' w.heap.size (fun k_ => (w.heap.size <= k_)) s_.2.1 t1709) /\ (Kd.V (Kd.int .u32) 85 w' w.heap.size (fun k_ => ((P0_1_ k_ \/ P1_1_ k_) \/ w.heap.size <= k_) /\ some k_ ≠ (.slice Ao30z y1699.length co31z : Value).ownBlock /\ some k_ ≠ (s_.2.1 : Value).ownBlock /\ k_ ≠ gb0z /\ k_ ≠ gb5z /\ k_ ≠ s_.2.2) (.slice A1_1 l1_1.length c1_1) l1_1) /\ (w'.heap[gb0z]? = some (.cells #[.bool a0_0, .slice A0_1 l0_1.length c0_1, .int .i64 a0_2] 24 (0, 0))) /\ (w'.heap[gb5z]? = some (.cells #[.bool a1_0, .slice A1_1 l1_1.length c1_1, .int .i64 a1_2] 24 (0, 0))) /\ (w'.heap[s_.2.2]? = some (.cells #[.bool false, .slice none 0 0, .int .i64 0] 106 (0, 0))) /\ (w.heap.size <= s_.2.2) /\ (w.heap.size <= s_.2.2) /\ (gb0z ≠ s_.2.2) /\ (s_.2.2 ≠ gb0z) /\ (gb5z ≠ s_.2.2) /\ (s_.2.2 ≠ gb5z) /\ (Below w.heap.size w w')) ?_ ?_)
    rotate_left
    ·intro hCont
     refine two_ (i := 4) (j := 6) (Ni := some 19) (Nj := some 7) #[true, true, true, true, true, false, false, false] #[true, true, true, true, false, false, true, false] rfl rfl rfl rfl (two_of HT_.out (by kernel_rfl)) (by decide) (by decide) (fun K hK => ?_) (fun K hK => ?_)
     ·skip
      refine goes_ Tryz.func103 (by kernel_rfl) rfl #[.agg #[.bool a1_0, .slice A1_1 l1_1.length c1_1, .int .i64 a1_2]] (by rfl) rfl rfl pA ?_
      with_reducible refine (dec_number_minus.calls a1_0 (fun k_ => (((((P0_1_ k_ \/ P1_1_ k_) \/ w.heap.size <= k_) /\ k_ ≠ gb0z) /\ k_ ≠ gb5z) /\ some k_ ≠ (.slice Ao30z y1699.length co31z : Value).ownBlock)) _ _ l1_1 a1_2 t1703 t1704 t1707 _ ?side1 A5.out).mono ?_
      (case side1 => exact HO1_1.out)
      rintro e w42z ⟨v43z, rfl, ho44z, hb⟩
      refine ⟨_, rfl, ?_⟩
      have n0_ := am (Kd.V_below (Kd.V_below HO0_1.out pl) hb)
      have n1_ := am (Kd.V_below (Kd.V_below HO1_1.out pl) hb)
      have n2_ := am (Kd.N_below (Kd.N_below HO29z.out pl) hb)
      have n3_ := am (Kd.V_lower (Kd.V_mono (ok' := fun k_ => ((P0_1_ k_ \/ P1_1_ k_) \/ w.heap.size <= k_) /\ some k_ ≠ (.slice Ao30z y1699.length co31z : Value).ownBlock /\ k_ ≠ gb0z /\ k_ ≠ gb5z) ho44z (fun k_ hk_ => ⟨Or.elim hk_ (fun hs_ => hs_.1.1.1) (fun hn_ => (.inr (Nat.le_trans (below_size pB) hn_))), Or.elim hk_ (fun hs_ => hs_.2) (fun hn_ => (Kd.fresh' (Kd.N_lt (Kd.N_below HO29z.out pl)) k_ hn_)), Or.elim hk_ (fun hs_ => hs_.1.1.2) (fun hn_ => (Kd.freshB (g := gb0z) (o := .cells #[.bool a0_0, .slice A0_1 l0_1.length c0_1, .int .i64 a0_2] 24 (0, 0)) (blk_below BK2z.out pl) k_ hn_)), Or.elim hk_ (fun hs_ => hs_.1.2) (fun hn_ => (Kd.freshB (g := gb5z) (o := .cells #[.bool a1_0, .slice A1_1 l1_1.length c1_1, .int .i64 a1_2] 24 (0, 0)) (blk_below BK7z.out pl) k_ hn_))⟩)) (below_size pB))
      have n4_ := am (blk_below (blk_below BK2z.out pl) hb)
      have n5_ := am (blk_below (blk_below BK7z.out pl) hb)
      have n6_ := am (below_step pB hb)
      clear HO0_1 HO1_1 HO29z BK2z BK7z HB
      have HO0_1 := n0_
      have HO1_1 := n1_
      have HO29z := n2_
      have HO45z := n3_
      have BK2z := n4_
      have BK7z := n5_
      have HB := n6_
      clear n0_ n1_ n2_ n3_ n4_ n5_ n6_
      (try clear hb); (try clear hb34z); (try clear hk); (try clear hi); (try clear ho44z)
      obtain ⟨Ao46z, co47z, eo48z⟩ := Kd.V_slice HO45z.out
      (first | subst eo48z | (injection eo48z with f1_ f2_ f3_; have f4_ := f1_.symm; have f5_ := f3_.symm; clear f1_ f2_ f3_; subst f4_; subst f5_))
      refine hK.out _ _ ⟨(blk_cell BK2z.out 0).trans rfl, (blk_cell BK2z.out 1).trans rfl, (blk_cell BK2z.out 2).trans rfl, (blk_cell BK7z.out 0).trans rfl, (blk_cell BK7z.out 1).trans rfl, (blk_cell BK7z.out 2).trans rfl⟩ (fun hHeld => ?_)
      clear hK K
      refine norm_ (a' := ?_) ?_ ?_
      rotate_left
      ·show Act.put _ (some 19) _ = _
       simp only [Act.put, List.setIfInBounds_toArray, List.set_cons_zero, List.set_cons_succ, i64_w, i32_w]
       rfl
      refine two_ (i := 5) (j := 6) (Ni := some 20) (Nj := some 7) #[true, true, true, true, true, true, false, false] #[true, true, true, true, true, false, true, false] rfl rfl rfl rfl (two_of HT_.out (by kernel_rfl)) (by decide) (by decide) (fun K hK => ?_) (fun K hK => ?_)
      ·skip
       refine goes_ Tryz.func101 (by kernel_rfl) rfl #[.agg #[.bool a0_0, .slice A0_1 l0_1.length c0_1, .int .i64 a0_2], .agg #[.bool t1703, .slice Ao46z t1704.length co47z, .int .i64 t1707]] (by rfl) rfl rfl pA ?_
       first | (have q_ : Aside0 (_ = some true) := A7; with_reducible refine (dec_number_plus.calls k a0_0 _ _ l0_1 a0_2 t1703 _ _ t1704 t1707 t1708 t1709 t1712 _ ?side1 ?side2 ?side3 ?side4 A6.out).mono ?_) | (have q_ : Aside0 (_ = some (true, _, _)) := A6; have q_ : Aside0 (_ = some false) := A7; with_reducible refine (dec_number_plus.calls k a0_0 _ _ l0_1 a0_2 t1703 _ _ t1704 t1707 true t1709 t1712 _ ?side1 ?side2 ?side3 ?side4 A6.out).mono ?_) | (have q_ : Aside0 (_ = some (false, _, _)) := A6; have q_ : Aside0 (_ = some false) := A7; with_reducible refine (dec_number_plus.calls k a0_0 _ _ l0_1 a0_2 t1703 _ _ t1704 t1707 false t1709 t1712 _ ?side1 ?side2 ?side3 ?side4 A6.out).mono ?_)
       (case side1 => exact Kd.C_below (Kd.V_reads' HO0_1.out).2.2 pl)
       (case side2 => exact (Kd.V_reads' HO0_1.out).2.1)
       (case side3 => exact Kd.C_below (Kd.V_reads' HO45z.out).2.2 pl)
       (case side4 => exact (Kd.V_reads' HO45z.out).2.1)
       rintro e w49z ⟨v50z, rfl, ho44z, hb⟩
       refine ⟨_, rfl, ?_⟩
       replace HO0_1 := am (Kd.V_elder' (Kd.V_below HO0_1.out pl) (Kd.R_base ho44z) hb)
       replace HO1_1 := am (Kd.V_elder' (Kd.V_below HO1_1.out pl) (Kd.R_base ho44z) hb)
       replace HO29z := am (Kd.N_elder' (Kd.N_below HO29z.out pl) (Kd.R_base ho44z) hb)
       replace HO45z := am (Kd.V_elder' (Kd.V_below HO45z.out pl) (Kd.R_base ho44z) hb)
       have HO51z := am (Kd.R_lower (Kd.R_newM (M := fun k_ => (w.heap.size <= k_)) ho44z (below_size pB) (fun k_ h_ => h_)) (below_size pB))
       replace BK2z := am (blk_below (blk_below BK2z.out pl) hb)
       replace BK7z := am (blk_below (blk_below BK7z.out pl) hb)
       replace HB := am (below_step pB hb)
       (try clear hb); (try clear hb34z); (try clear hk); (try clear hi); (try clear ho44z)
       refine hK.out _ _ ⟨(blk_cell BK2z.out 0).trans rfl, (blk_cell BK2z.out 1).trans rfl, (blk_cell BK2z.out 2).trans rfl, (blk_cell BK7z.out 0).trans rfl, (blk_cell BK7z.out 1).trans rfl, (blk_cell BK7z.out 2).trans rfl⟩ (fun hHeld => ?_)
       clear hK K
       refine norm_ (a' := ?_) ?_ ?_
       rotate_left
       ·show Act.put _ (some 20) _ = _
        simp only [Act.put, List.setIfInBounds_toArray, List.set_cons_zero, List.set_cons_succ, i64_w, i32_w]
        rfl
       refine one_ (i := 6) (N := some 7) #[true, true, true, true, true, true, true, false] rfl rfl (one_of HT_.out (by kernel_rfl)) (by decide) (fun K hK => ?_)
       refine box_step ?hg (N := 7) ?hd (cs := #[.bool false, .slice none 0 0, .int .i64 0]) (t := 106) ?hr ?_; (case hd => rfl); (case hg => rfl); (case hr => first | (go_simp; done) | (go_simp; rfl))
       intro gb52z hg w53z hbox hb
       have n0_ := am (Kd.V_below (Kd.V_elderB (Kd.V_below HO0_1.out pl) gb52z (Nat.le_of_eq hg.symm)) hb)
       have n1_ := am (Kd.V_below (Kd.V_elderB (Kd.V_below HO1_1.out pl) gb52z (Nat.le_of_eq hg.symm)) hb)
       have n2_ := am (Kd.N_below (Kd.N_elderB (Kd.N_below HO29z.out pl) gb52z (Nat.le_of_eq hg.symm)) hb)
       have n3_ := am (Kd.V_below (Kd.V_elderB (Kd.V_below HO45z.out pl) gb52z (Nat.le_of_eq hg.symm)) hb)
       have n4_ := am (Kd.R_below (Kd.R_below HO51z.out pl) hb)
       have n5_ := am (blk_below (blk_below BK2z.out pl) hb)
       have n6_ := am (blk_below (blk_below BK7z.out pl) hb)
       have n7_ := am (below_step pB hb)
       have n8_ := am (hbox)
       have n9_ := am ((gw hg pB : w.heap.size <= gb52z))
       have n10_ := am ((gw hg pB : w.heap.size <= gb52z))
       have n11_ := am ((nl hg (blk_below BK2z.out pl) : gb0z ≠ gb52z))
       have n12_ := am ((ng hg (blk_below BK2z.out pl) : gb52z ≠ gb0z))
       have n13_ := am ((nl hg (blk_below BK7z.out pl) : gb5z ≠ gb52z))
       have n14_ := am ((ng hg (blk_below BK7z.out pl) : gb52z ≠ gb5z))
       clear HO0_1 HO1_1 HO29z HO45z HO51z BK2z BK7z HB
       have HO0_1 := n0_
       have HO1_1 := n1_
       have HO29z := n2_
       have HO45z := n3_
       have HO51z := n4_
       have BK2z := n5_
       have BK7z := n6_
       have HB := n7_
       have BK54z := n8_
       have GW55z := n9_
       have GE56z := n10_
       have NB57z := n11_
       have NB58z := n12_
       have NB59z := n13_
       have NB60z := n14_
       clear n0_ n1_ n2_ n3_ n4_ n5_ n6_ n7_ n8_ n9_ n10_ n11_ n12_ n13_ n14_ hb hbox hg
       refine hK.out _ _ ⟨(blk_cell BK2z.out 0).trans rfl, (blk_cell BK2z.out 1).trans rfl, (blk_cell BK2z.out 2).trans rfl, (blk_cell BK7z.out 0).trans rfl, (blk_cell BK7z.out 1).trans rfl, (blk_cell BK7z.out 2).trans rfl⟩ (fun hHeld => ?_)
       clear hK K
       refine norm_ (a' := ?_) ?_ ?_
       rotate_left
       ·show Act.put _ (some 7) _ = _
        simp only [Act.put, List.setIfInBounds_toArray, List.set_cons_zero, List.set_cons_succ, i64_w, i32_w]
        rfl
       exact norm_ (by simp only [putAll, Act.put, List.setIfInBounds_toArray, List.set_cons_zero, List.set_cons_succ]) (hCont (.slice Ao46z t1704.length co47z, v50z, gb52z) _ ⟨hHeld, (Kd.V_below (Kd.V_mono HO0_1.out (fun _ hk => ⟨hk.1.1.1.1.1, ⟨hk.1.1.2, ⟨hk.1.2, ⟨hk.1.1.1.1.2, ⟨hk.1.1.1.2, hk.2⟩⟩⟩⟩⟩)) pl), (Kd.N_below (Kd.N_mono HO29z.out (fun _ hk => ⟨hk.1.1.1, ⟨hk.1.2, ⟨hk.1.1.2.1, ⟨hk.1.1.2.2, hk.2⟩⟩⟩⟩)) pl), (Kd.V_below (Kd.V_mono HO45z.out (fun _ hk => ⟨hk.1.1.1, ⟨hk.1.1.2.1, ⟨hk.1.2, ⟨hk.1.1.2.2.1, ⟨hk.1.1.2.2.2, hk.2⟩⟩⟩⟩⟩)) pl), (Kd.R_below (Kd.R_mono HO51z.out (fun _ hk => hk.1)) pl), (Kd.V_below (Kd.V_mono HO1_1.out (fun _ hk => ⟨hk.1.1.1.1.1, ⟨hk.1.1.2, ⟨hk.1.2, ⟨hk.1.1.1.1.2, ⟨hk.1.1.1.2, hk.2⟩⟩⟩⟩⟩)) pl), (blk_below BK2z.out pl), (blk_below BK7z.out pl), (blk_below BK54z.out pl), GW55z.out, GE56z.out, NB57z.out, NB58z.out, NB59z.out, NB60z.out, pB⟩)
      ·skip
       refine box_step ?hg (N := 7) ?hd (cs := #[.bool false, .slice none 0 0, .int .i64 0]) (t := 106) ?hr ?_; (case hd => rfl); (case hg => rfl); (case hr => first | (go_simp; done) | (go_simp; rfl))
       intro gb52z hg w61z hbox hb
       have n0_ := am (Kd.V_below (Kd.V_elderB (Kd.V_below HO0_1.out pl) gb52z (Nat.le_of_eq hg.symm)) hb)
       have n1_ := am (Kd.V_below (Kd.V_elderB (Kd.V_below HO1_1.out pl) gb52z (Nat.le_of_eq hg.symm)) hb)
       have n2_ := am (Kd.N_below (Kd.N_elderB (Kd.N_below HO29z.out pl) gb52z (Nat.le_of_eq hg.symm)) hb)
       have n3_ := am (Kd.V_below (Kd.V_elderB (Kd.V_below HO45z.out pl) gb52z (Nat.le_of_eq hg.symm)) hb)
       have n4_ := am (blk_below (blk_below BK2z.out pl) hb)
       have n5_ := am (blk_below (blk_below BK7z.out pl) hb)
       have n6_ := am (below_step pB hb)
       have n7_ := am (hbox)
       have n8_ := am ((gw hg pB : w.heap.size <= gb52z))
       have n9_ := am ((gw hg pB : w.heap.size <= gb52z))
       have n10_ := am ((nl hg (blk_below BK2z.out pl) : gb0z ≠ gb52z))
       have n11_ := am ((ng hg (blk_below BK2z.out pl) : gb52z ≠ gb0z))
       have n12_ := am ((nl hg (blk_below BK7z.out pl) : gb5z ≠ gb52z))
       have n13_ := am ((ng hg (blk_below BK7z.out pl) : gb52z ≠ gb5z))
       clear HO0_1 HO1_1 HO29z HO45z BK2z BK7z HB
       have HO0_1 := n0_
       have HO1_1 := n1_
       have HO29z := n2_
       have HO45z := n3_
       have BK2z := n4_
       have BK7z := n5_
       have HB := n6_
       have BK54z := n7_
       have GW55z := n8_
       have GE56z := n9_
       have NB57z := n10_
       have NB58z := n11_
       have NB59z := n12_
       have NB60z := n13_
       clear n0_ n1_ n2_ n3_ n4_ n5_ n6_ n7_ n8_ n9_ n10_ n11_ n12_ n13_ hb hbox hg
       obtain ⟨Ao62z, co63z, eo64z⟩ := Kd.V_slice HO45z.out
       (first | subst eo64z | (injection eo64z with f1_ f2_ f3_; have f4_ := f1_.symm; have f5_ := f3_.symm; clear f1_ f2_ f3_; subst f4_; subst f5_))
       refine hK.out _ _ ⟨(blk_cell BK2z.out 0).trans rfl, (blk_cell BK2z.out 1).trans rfl, (blk_cell BK2z.out 2).trans rfl, (blk_cell BK7z.out 0).trans rfl, (blk_cell BK7z.out 1).trans rfl, (blk_cell BK7z.out 2).trans rfl⟩ (fun hHeld => ?_)
       clear hK K
       refine norm_ (a' := ?_) ?_ ?_
       rotate_left
       ·show Act.put _ (some 7) _ = _
        simp only [Act.put, List.setIfInBounds_toArray, List.set_cons_zero, List.set_cons_succ, i64_w, i32_w]
        rfl
       refine one_ (i := 5) (N := some 20) #[true, true, true, true, true, true, true, false] rfl rfl (one_of HT_.out (by kernel_rfl)) (by decide) (fun K hK => ?_)
       refine goes_ Tryz.func101 (by kernel_rfl) rfl #[.agg #[.bool a0_0, .slice A0_1 l0_1.length c0_1, .int .i64 a0_2], .agg #[.bool t1703, .slice Ao62z t1704.length co63z, .int .i64 t1707]] (by rfl) rfl rfl pA ?_
       first | (have q_ : Aside0 (_ = some true) := A7; with_reducible refine (dec_number_plus.calls k a0_0 _ _ l0_1 a0_2 t1703 _ _ t1704 t1707 t1708 t1709 t1712 _ ?side1 ?side2 ?side3 ?side4 A6.out).mono ?_) | (have q_ : Aside0 (_ = some (true, _, _)) := A6; have q_ : Aside0 (_ = some false) := A7; with_reducible refine (dec_number_plus.calls k a0_0 _ _ l0_1 a0_2 t1703 _ _ t1704 t1707 true t1709 t1712 _ ?side1 ?side2 ?side3 ?side4 A6.out).mono ?_) | (have q_ : Aside0 (_ = some (false, _, _)) := A6; have q_ : Aside0 (_ = some false) := A7; with_reducible refine (dec_number_plus.calls k a0_0 _ _ l0_1 a0_2 t1703 _ _ t1704 t1707 false t1709 t1712 _ ?side1 ?side2 ?side3 ?side4 A6.out).mono ?_)
       (case side1 => exact Kd.C_below (Kd.V_reads' HO0_1.out).2.2 pl)
       (case side2 => exact (Kd.V_reads' HO0_1.out).2.1)
       (case side3 => exact Kd.C_below (Kd.V_reads' HO45z.out).2.2 pl)
       (case side4 => exact (Kd.V_reads' HO45z.out).2.1)
       rintro e w53z ⟨v50z, rfl, ho44z, hb⟩
       refine ⟨_, rfl, ?_⟩
       replace HO0_1 := am (Kd.V_elder' (Kd.V_below HO0_1.out pl) (Kd.R_base ho44z) hb)
       replace HO1_1 := am (Kd.V_elder' (Kd.V_below HO1_1.out pl) (Kd.R_base ho44z) hb)
       replace HO29z := am (Kd.N_elder' (Kd.N_below HO29z.out pl) (Kd.R_base ho44z) hb)
       replace HO45z := am (Kd.V_elder' (Kd.V_below HO45z.out pl) (Kd.R_base ho44z) hb)
       have HO51z := am (Kd.R_lower (Kd.R_newM (M := fun k_ => (w.heap.size <= k_)) ho44z (below_size pB) (fun k_ h_ => h_)) (below_size pB))
       replace BK2z := am (blk_below (blk_below BK2z.out pl) hb)
       replace BK7z := am (blk_below (blk_below BK7z.out pl) hb)
       replace BK54z := am (blk_below (blk_below BK54z.out pl) hb)
       replace HB := am (below_step pB hb)
       (try clear hb); (try clear hb34z); (try clear hk); (try clear hi); (try clear ho44z)
       refine hK.out _ _ ⟨(blk_cell BK2z.out 0).trans rfl, (blk_cell BK2z.out 1).trans rfl, (blk_cell BK2z.out 2).trans rfl, (blk_cell BK7z.out 0).trans rfl, (blk_cell BK7z.out 1).trans rfl, (blk_cell BK7z.out 2).trans rfl⟩ (fun hHeld => ?_)
       clear hK K
       refine norm_ (a' := ?_) ?_ ?_
       rotate_left
       ·show Act.put _ (some 20) _ = _
        simp only [Act.put, List.setIfInBounds_toArray, List.set_cons_zero, List.set_cons_succ, i64_w, i32_w]
        rfl
       exact norm_ (by simp only [putAll, Act.put, List.setIfInBounds_toArray, List.set_cons_zero, List.set_cons_succ]) (hCont (.slice Ao62z t1704.length co63z, v50z, gb52z) _ ⟨hHeld, (Kd.V_below (Kd.V_mono HO0_1.out (fun _ hk => ⟨hk.1.1.1.1.1, ⟨hk.1.1.2, ⟨hk.2, ⟨hk.1.1.1.1.2, ⟨hk.1.1.1.2, hk.1.2⟩⟩⟩⟩⟩)) pl), (Kd.N_below (Kd.N_mono HO29z.out (fun _ hk => ⟨hk.1.1.1, ⟨hk.2, ⟨hk.1.1.2.1, ⟨hk.1.1.2.2, hk.1.2⟩⟩⟩⟩)) pl), (Kd.V_below (Kd.V_mono HO45z.out (fun _ hk => ⟨hk.1.1.1, ⟨hk.1.1.2.1, ⟨hk.2, ⟨hk.1.1.2.2.1, ⟨hk.1.1.2.2.2, hk.1.2⟩⟩⟩⟩⟩)) pl), (Kd.R_below (Kd.R_mono HO51z.out (fun _ hk => hk.1)) pl), (Kd.V_below (Kd.V_mono HO1_1.out (fun _ hk => ⟨hk.1.1.1.1.1, ⟨hk.1.1.2, ⟨hk.2, ⟨hk.1.1.1.1.2, ⟨hk.1.1.1.2, hk.1.2⟩⟩⟩⟩⟩)) pl), (blk_below BK2z.out pl), (blk_below BK7z.out pl), (blk_below BK54z.out pl), GW55z.out, GE56z.out, NB57z.out, NB58z.out, NB59z.out, NB60z.out, pB⟩)
     ·skip
      refine box_step ?hg (N := 7) ?hd (cs := #[.bool false, .slice none 0 0, .int .i64 0]) (t := 106) ?hr ?_; (case hd => rfl); (case hg => rfl); (case hr => first | (go_simp; done) | (go_simp; rfl))
      intro gb52z hg w42z hbox hb
      have n0_ := am (Kd.V_below (Kd.V_elderB (Kd.V_below HO0_1.out pl) gb52z (Nat.le_of_eq hg.symm)) hb)
      have n1_ := am (Kd.V_below (Kd.V_elderB (Kd.V_below HO1_1.out pl) gb52z (Nat.le_of_eq hg.symm)) hb)
      have n2_ := am (Kd.N_below (Kd.N_elderB (Kd.N_below HO29z.out pl) gb52z (Nat.le_of_eq hg.symm)) hb)
      have n3_ := am (blk_below (blk_below BK2z.out pl) hb)
      have n4_ := am (blk_below (blk_below BK7z.out pl) hb)
      have n5_ := am (below_step pB hb)
      have n6_ := am (hbox)
      have n7_ := am ((gw hg pB : w.heap.size <= gb52z))
      have n8_ := am ((gw hg pB : w.heap.size <= gb52z))
      have n9_ := am ((nl hg (blk_below BK2z.out pl) : gb0z ≠ gb52z))
      have n10_ := am ((ng hg (blk_below BK2z.out pl) : gb52z ≠ gb0z))
      have n11_ := am ((nl hg (blk_below BK7z.out pl) : gb5z ≠ gb52z))
      have n12_ := am ((ng hg (blk_below BK7z.out pl) : gb52z ≠ gb5z))
      clear HO0_1 HO1_1 HO29z BK2z BK7z HB
      have HO0_1 := n0_
      have HO1_1 := n1_
      have HO29z := n2_
      have BK2z := n3_
      have BK7z := n4_
      have HB := n5_
      have BK54z := n6_
      have GW55z := n7_
      have GE56z := n8_
      have NB57z := n9_
      have NB58z := n10_
      have NB59z := n11_
      have NB60z := n12_
      clear n0_ n1_ n2_ n3_ n4_ n5_ n6_ n7_ n8_ n9_ n10_ n11_ n12_ hb hbox hg
      refine hK.out _ _ ⟨(blk_cell BK2z.out 0).trans rfl, (blk_cell BK2z.out 1).trans rfl, (blk_cell BK2z.out 2).trans rfl, (blk_cell BK7z.out 0).trans rfl, (blk_cell BK7z.out 1).trans rfl, (blk_cell BK7z.out 2).trans rfl⟩ (fun hHeld => ?_)
      clear hK K
      refine norm_ (a' := ?_) ?_ ?_
      rotate_left
      ·show Act.put _ (some 7) _ = _
       simp only [Act.put, List.setIfInBounds_toArray, List.set_cons_zero, List.set_cons_succ, i64_w, i32_w]
       rfl
      refine one_ (i := 4) (N := some 19) #[true, true, true, true, true, false, true, false] rfl rfl (one_of HT_.out (by kernel_rfl)) (by decide) (fun K hK => ?_)
      refine goes_ Tryz.func103 (by kernel_rfl) rfl #[.agg #[.bool a1_0, .slice A1_1 l1_1.length c1_1, .int .i64 a1_2]] (by rfl) rfl rfl pA ?_
      with_reducible refine (dec_number_minus.calls a1_0 (fun k_ => ((((((P0_1_ k_ \/ P1_1_ k_) \/ w.heap.size <= k_) /\ k_ ≠ gb0z) /\ k_ ≠ gb5z) /\ some k_ ≠ (.slice Ao30z y1699.length co31z : Value).ownBlock) /\ k_ ≠ gb52z)) _ _ l1_1 a1_2 t1703 t1704 t1707 _ ?side1 A5.out).mono ?_
      (case side1 => exact HO1_1.out)
      rintro e w61z ⟨v43z, rfl, ho44z, hb⟩
      refine ⟨_, rfl, ?_⟩
      have n0_ := am (Kd.V_below (Kd.V_below HO0_1.out pl) hb)
      have n1_ := am (Kd.V_below (Kd.V_below HO1_1.out pl) hb)
      have n2_ := am (Kd.N_below (Kd.N_below HO29z.out pl) hb)
      have n3_ := am (Kd.V_lower (Kd.V_mono (ok' := fun k_ => ((P0_1_ k_ \/ P1_1_ k_) \/ w.heap.size <= k_) /\ some k_ ≠ (.slice Ao30z y1699.length co31z : Value).ownBlock /\ k_ ≠ gb0z /\ k_ ≠ gb5z /\ k_ ≠ gb52z) ho44z (fun k_ hk_ => ⟨Or.elim hk_ (fun hs_ => hs_.1.1.1.1) (fun hn_ => (.inr (Nat.le_trans (below_size pB) hn_))), Or.elim hk_ (fun hs_ => hs_.1.2) (fun hn_ => (Kd.fresh' (Kd.N_lt (Kd.N_below HO29z.out pl)) k_ hn_)), Or.elim hk_ (fun hs_ => hs_.1.1.1.2) (fun hn_ => (Kd.freshB (g := gb0z) (o := .cells #[.bool a0_0, .slice A0_1 l0_1.length c0_1, .int .i64 a0_2] 24 (0, 0)) (blk_below BK2z.out pl) k_ hn_)), Or.elim hk_ (fun hs_ => hs_.1.1.2) (fun hn_ => (Kd.freshB (g := gb5z) (o := .cells #[.bool a1_0, .slice A1_1 l1_1.length c1_1, .int .i64 a1_2] 24 (0, 0)) (blk_below BK7z.out pl) k_ hn_)), Or.elim hk_ (fun hs_ => hs_.2) (fun hn_ => (Kd.freshB (g := gb52z) (o := .cells #[.bool false, .slice none 0 0, .int .i64 0] 106 (0, 0)) (blk_below BK54z.out pl) k_ hn_))⟩)) (below_size pB))
      have n4_ := am (blk_below (blk_below BK2z.out pl) hb)
      have n5_ := am (blk_below (blk_below BK7z.out pl) hb)
      have n6_ := am (blk_below (blk_below BK54z.out pl) hb)
      have n7_ := am (below_step pB hb)
      clear HO0_1 HO1_1 HO29z BK2z BK7z BK54z HB
      have HO0_1 := n0_
      have HO1_1 := n1_
      have HO29z := n2_
      have HO45z := n3_
      have BK2z := n4_
      have BK7z := n5_
      have BK54z := n6_
      have HB := n7_
      clear n0_ n1_ n2_ n3_ n4_ n5_ n6_ n7_
      (try clear hb); (try clear hb34z); (try clear hk); (try clear hi); (try clear ho44z)
      obtain ⟨Ao62z, co63z, eo64z⟩ := Kd.V_slice HO45z.out
      (first | subst eo64z | (injection eo64z with f1_ f2_ f3_; have f4_ := f1_.symm; have f5_ := f3_.symm; clear f1_ f2_ f3_; subst f4_; subst f5_))
      refine hK.out _ _ ⟨(blk_cell BK2z.out 0).trans rfl, (blk_cell BK2z.out 1).trans rfl, (blk_cell BK2z.out 2).trans rfl, (blk_cell BK7z.out 0).trans rfl, (blk_cell BK7z.out 1).trans rfl, (blk_cell BK7z.out 2).trans rfl⟩ (fun hHeld => ?_)
      clear hK K
      refine norm_ (a' := ?_) ?_ ?_
      rotate_left
      ·show Act.put _ (some 19) _ = _
       simp only [Act.put, List.setIfInBounds_toArray, List.set_cons_zero, List.set_cons_succ, i64_w, i32_w]
       rfl
      refine one_ (i := 5) (N := some 20) #[true, true, true, true, true, true, true, false] rfl rfl (one_of HT_.out (by kernel_rfl)) (by decide) (fun K hK => ?_)
      refine goes_ Tryz.func101 (by kernel_rfl) rfl #[.agg #[.bool a0_0, .slice A0_1 l0_1.length c0_1, .int .i64 a0_2], .agg #[.bool t1703, .slice Ao62z t1704.length co63z, .int .i64 t1707]] (by rfl) rfl rfl pA ?_
      first | (have q_ : Aside0 (_ = some true) := A7; with_reducible refine (dec_number_plus.calls k a0_0 _ _ l0_1 a0_2 t1703 _ _ t1704 t1707 t1708 t1709 t1712 _ ?side1 ?side2 ?side3 ?side4 A6.out).mono ?_) | (have q_ : Aside0 (_ = some (true, _, _)) := A6; have q_ : Aside0 (_ = some false) := A7; with_reducible refine (dec_number_plus.calls k a0_0 _ _ l0_1 a0_2 t1703 _ _ t1704 t1707 true t1709 t1712 _ ?side1 ?side2 ?side3 ?side4 A6.out).mono ?_) | (have q_ : Aside0 (_ = some (false, _, _)) := A6; have q_ : Aside0 (_ = some false) := A7; with_reducible refine (dec_number_plus.calls k a0_0 _ _ l0_1 a0_2 t1703 _ _ t1704 t1707 false t1709 t1712 _ ?side1 ?side2 ?side3 ?side4 A6.out).mono ?_)
      (case side1 => exact Kd.C_below (Kd.V_reads' HO0_1.out).2.2 pl)
      (case side2 => exact (Kd.V_reads' HO0_1.out).2.1)
      (case side3 => exact Kd.C_below (Kd.V_reads' HO45z.out).2.2 pl)
      (case side4 => exact (Kd.V_reads' HO45z.out).2.1)
      rintro e w53z ⟨v50z, rfl, ho44z, hb⟩
      refine ⟨_, rfl, ?_⟩
      replace HO0_1 := am (Kd.V_elder' (Kd.V_below HO0_1.out pl) (Kd.R_base ho44z) hb)
      replace HO1_1 := am (Kd.V_elder' (Kd.V_below HO1_1.out pl) (Kd.R_base ho44z) hb)
      replace HO29z := am (Kd.N_elder' (Kd.N_below HO29z.out pl) (Kd.R_base ho44z) hb)
      replace HO45z := am (Kd.V_elder' (Kd.V_below HO45z.out pl) (Kd.R_base ho44z) hb)
      have HO51z := am (Kd.R_lower (Kd.R_newM (M := fun k_ => (w.heap.size <= k_)) ho44z (below_size pB) (fun k_ h_ => h_)) (below_size pB))
      replace BK2z := am (blk_below (blk_below BK2z.out pl) hb)
      replace BK7z := am (blk_below (blk_below BK7z.out pl) hb)
      replace BK54z := am (blk_below (blk_below BK54z.out pl) hb)
      replace HB := am (below_step pB hb)
      (try clear hb); (try clear hb34z); (try clear hk); (try clear hi); (try clear ho44z)
      refine hK.out _ _ ⟨(blk_cell BK2z.out 0).trans rfl, (blk_cell BK2z.out 1).trans rfl, (blk_cell BK2z.out 2).trans rfl, (blk_cell BK7z.out 0).trans rfl, (blk_cell BK7z.out 1).trans rfl, (blk_cell BK7z.out 2).trans rfl⟩ (fun hHeld => ?_)
      clear hK K
      refine norm_ (a' := ?_) ?_ ?_
      rotate_left
      ·show Act.put _ (some 20) _ = _
       simp only [Act.put, List.setIfInBounds_toArray, List.set_cons_zero, List.set_cons_succ, i64_w, i32_w]
       rfl
      exact norm_ (by simp only [putAll, Act.put, List.setIfInBounds_toArray, List.set_cons_zero, List.set_cons_succ]) (hCont (.slice Ao62z t1704.length co63z, v50z, gb52z) _ ⟨hHeld, (Kd.V_below (Kd.V_mono HO0_1.out (fun _ hk => ⟨hk.1.1.1.1.1, ⟨hk.1.1.2, ⟨hk.2, ⟨hk.1.1.1.1.2, ⟨hk.1.1.1.2, hk.1.2⟩⟩⟩⟩⟩)) pl), (Kd.N_below (Kd.N_mono HO29z.out (fun _ hk => ⟨hk.1.1.1, ⟨hk.2, ⟨hk.1.1.2.1, ⟨hk.1.1.2.2, hk.1.2⟩⟩⟩⟩)) pl), (Kd.V_below (Kd.V_mono HO45z.out (fun _ hk => ⟨hk.1.1, ⟨hk.1.2.1, ⟨hk.2, ⟨hk.1.2.2.1, ⟨hk.1.2.2.2.1, hk.1.2.2.2.2⟩⟩⟩⟩⟩)) pl), (Kd.R_below (Kd.R_mono HO51z.out (fun _ hk => hk.1)) pl), (Kd.V_below (Kd.V_mono HO1_1.out (fun _ hk => ⟨hk.1.1.1.1.1, ⟨hk.1.1.2, ⟨hk.2, ⟨hk.1.1.1.1.2, ⟨hk.1.1.1.2, hk.1.2⟩⟩⟩⟩⟩)) pl), (blk_below BK2z.out pl), (blk_below BK7z.out pl), (blk_below BK54z.out pl), GW55z.out, GE56z.out, NB57z.out, NB58z.out, NB59z.out, NB60z.out, pB⟩)
    rintro ⟨v43z, v50z, gb52z⟩ w65z ⟨hS_, h0_, h1_, h2_, h3_, h4_, h5_, h6_, h7_, h8_, h9_, h10_, h11_, h12_, h13_, h14_⟩
    have n0_ : Aside0 (Kd.V (Kd.int .u32) 85 w65z w.heap.size (fun k_ => ((P0_1_ k_ \/ P1_1_ k_) \/ w.heap.size <= k_) /\ some k_ ≠ (.slice Ao30z y1699.length co31z : Value).ownBlock /\ some k_ ≠ (v50z : Value).ownBlock /\ k_ ≠ gb0z /\ k_ ≠ gb5z /\ k_ ≠ gb52z) (.slice A0_1 l0_1.length c0_1) l0_1) := ⟨h0_⟩
    have n1_ : Aside0 (Kd.N k24 24 w65z w.heap.size (fun k_ => ((P0_1_ k_ \/ P1_1_ k_) \/ w.heap.size <= k_) /\ some k_ ≠ (v50z : Value).ownBlock /\ k_ ≠ gb0z /\ k_ ≠ gb5z /\ k_ ≠ gb52z) (.slice Ao30z y1699.length co31z) y1699) := ⟨h1_⟩
    have n2_ : Aside0 (Kd.V (Kd.int .u32) 85 w65z w.heap.size (fun k_ => ((P0_1_ k_ \/ P1_1_ k_) \/ w.heap.size <= k_) /\ some k_ ≠ (.slice Ao30z y1699.length co31z : Value).ownBlock /\ some k_ ≠ (v50z : Value).ownBlock /\ k_ ≠ gb0z /\ k_ ≠ gb5z /\ k_ ≠ gb52z) v43z t1704) := ⟨h2_⟩
    have n3_ : Aside0 (Kd.R (Kd.int .u32) 85 w65z w.heap.size (fun k_ => (w.heap.size <= k_)) v50z t1709) := ⟨h3_⟩
    have n4_ : Aside0 (Kd.V (Kd.int .u32) 85 w65z w.heap.size (fun k_ => ((P0_1_ k_ \/ P1_1_ k_) \/ w.heap.size <= k_) /\ some k_ ≠ (.slice Ao30z y1699.length co31z : Value).ownBlock /\ some k_ ≠ (v50z : Value).ownBlock /\ k_ ≠ gb0z /\ k_ ≠ gb5z /\ k_ ≠ gb52z) (.slice A1_1 l1_1.length c1_1) l1_1) := ⟨h4_⟩
    have n5_ : Aside0 (w65z.heap[gb0z]? = some (.cells #[.bool a0_0, .slice A0_1 l0_1.length c0_1, .int .i64 a0_2] 24 (0, 0))) := ⟨h5_⟩
    have n6_ : Aside0 (w65z.heap[gb5z]? = some (.cells #[.bool a1_0, .slice A1_1 l1_1.length c1_1, .int .i64 a1_2] 24 (0, 0))) := ⟨h6_⟩
    have n7_ : Aside0 (w65z.heap[gb52z]? = some (.cells #[.bool false, .slice none 0 0, .int .i64 0] 106 (0, 0))) := ⟨h7_⟩
    have n8_ : Aside0 (w.heap.size <= gb52z) := ⟨h8_⟩
    have n9_ : Aside0 (w.heap.size <= gb52z) := ⟨h9_⟩
    have n10_ : Aside0 (gb0z ≠ gb52z) := ⟨h10_⟩
    have n11_ : Aside0 (gb52z ≠ gb0z) := ⟨h11_⟩
    have n12_ : Aside0 (gb5z ≠ gb52z) := ⟨h12_⟩
    have n13_ : Aside0 (gb52z ≠ gb5z) := ⟨h13_⟩
    have n14_ : Aside0 (Below w.heap.size w w65z) := ⟨h14_⟩
    clear HO0_1 HO1_1 HO29z BK2z BK7z HB h0_ h1_ h2_ h3_ h4_ h5_ h6_ h7_ h8_ h9_ h10_ h11_ h12_ h13_ h14_
    have HO0_1 := n0_
    have HO29z := n1_
    have HO45z := n2_
    have HO51z := n3_
    have HO1_1 := n4_
    have BK2z := n5_
    have BK7z := n6_
    have BK54z := n7_
    have GW55z := n8_
    have GE56z := n9_
    have NB57z := n10_
    have NB58z := n11_
    have NB59z := n12_
    have NB60z := n13_
    have HB := n14_
    clear n0_ n1_ n2_ n3_ n4_ n5_ n6_ n7_ n8_ n9_ n10_ n11_ n12_ n13_ n14_
    have hHeld : w65z.cell? ⟨gb0z, 0, none⟩ = some (.bool a0_0) /\ w65z.cell? ⟨gb0z, 1, none⟩ = some (.slice A0_1 l0_1.length c0_1) /\ w65z.cell? ⟨gb0z, 2, none⟩ = some (.int .i64 a0_2) /\ w65z.cell? ⟨gb5z, 0, none⟩ = some (.bool a1_0) /\ w65z.cell? ⟨gb5z, 1, none⟩ = some (.slice A1_1 l1_1.length c1_1) /\ w65z.cell? ⟨gb5z, 2, none⟩ = some (.int .i64 a1_2) := hS_
    obtain ⟨Ao66z, co67z, eo68z⟩ := Kd.R_slice HO51z.out
    (first | subst eo68z | (injection eo68z with f1_ f2_ f3_; have f4_ := f1_.symm; have f5_ := f3_.symm; clear f1_ f2_ f3_; subst f4_; subst f5_))
    refine norm_ (a' := ?_) ?_ ?_
    rotate_left
    ·simp only [putAll, Act.put, List.setIfInBounds_toArray, List.set_cons_zero, List.set_cons_succ]
     rfl
    refine one_ (i := 7) (N := none) #[true, true, true, true, true, true, true, true] rfl rfl (one_of HT_.out (by kernel_rfl)) (by decide) (fun K hK => ?_)
    have hs69z : w65z.cell? ⟨gb52z, 0, none⟩ = some (.bool false) := (blk_cell BK54z.out 0).trans rfl
    have hfs70z := blk_frozen BK54z.out 0
    have hns71z := NB57z.out
    have hns72z := NB59z.out
    have hms73z := NB58z.out
    have hms74z := NB60z.out
    have hs75z : w65z.cell? ⟨gb52z, 1, none⟩ = some (.slice none 0 0) := (blk_cell BK54z.out 1).trans rfl
    have hfs76z := blk_frozen BK54z.out 1
    have hns77z := NB57z.out
    have hns78z := NB59z.out
    have hms79z := NB58z.out
    have hms80z := NB60z.out
    have hs81z : w65z.cell? ⟨gb52z, 2, none⟩ = some (.int .i64 0) := (blk_cell BK54z.out 2).trans rfl
    have hfs82z := blk_frozen BK54z.out 2
    have hns83z := NB57z.out
    have hns84z := NB59z.out
    have hms85z := NB58z.out
    have hms86z := NB60z.out
    refine skip_ (w1 := ?_) (by rfl) rfl ?_ ?_
    rotate_left
    ·go_simp
     rfl
    refine hK.out _ _ ⟨((cell_far (p := ⟨gb52z, _, none⟩) NB57z.out _).trans (((cell_far (p := ⟨gb52z, _, none⟩) NB57z.out _).trans (((cell_far (p := ⟨gb52z, _, none⟩) NB57z.out _).trans (hHeld.1)))))), ((cell_far (p := ⟨gb52z, _, none⟩) NB57z.out _).trans (((cell_far (p := ⟨gb52z, _, none⟩) NB57z.out _).trans (((cell_far (p := ⟨gb52z, _, none⟩) NB57z.out _).trans (hHeld.2.1)))))), ((cell_far (p := ⟨gb52z, _, none⟩) NB57z.out _).trans (((cell_far (p := ⟨gb52z, _, none⟩) NB57z.out _).trans (((cell_far (p := ⟨gb52z, _, none⟩) NB57z.out _).trans (hHeld.2.2.1)))))), ((cell_far (p := ⟨gb52z, _, none⟩) NB59z.out _).trans (((cell_far (p := ⟨gb52z, _, none⟩) NB59z.out _).trans (((cell_far (p := ⟨gb52z, _, none⟩) NB59z.out _).trans (hHeld.2.2.2.1)))))), ((cell_far (p := ⟨gb52z, _, none⟩) NB59z.out _).trans (((cell_far (p := ⟨gb52z, _, none⟩) NB59z.out _).trans (((cell_far (p := ⟨gb52z, _, none⟩) NB59z.out _).trans (hHeld.2.2.2.2.1)))))), ((cell_far (p := ⟨gb52z, _, none⟩) NB59z.out _).trans (((cell_far (p := ⟨gb52z, _, none⟩) NB59z.out _).trans (((cell_far (p := ⟨gb52z, _, none⟩) NB59z.out _).trans (hHeld.2.2.2.2.2))))))⟩ (fun hHeld => ?_)
    clear hK K
    refine done_ (done_of HT_.out (by kernel_rfl)) ?_
    have hnb87z := NB58z.out
    have hnc88z := NB57z.out
    have hnb89z := NB60z.out
    have hnc90z := NB59z.out
    obtain ⟨hcz91z, hcz92z, hcz93z, hfz94z, hfz95z, hfz96z⟩ := cEc BK54z.out
    first | (have q_ : Aside0 (_ = some true) := A7; try go_wp2_with (first | (refine gL (some 23) Tryz.func104 #[.agg #[.bool t1708, .slice Ao66z t1709.length co67z, .int .i64 t1712]] (h := ?_); (with_reducible refine (dec_number_zero.calls t1708 _ _ t1709 t1712 true _ ?side1 ?side2 A7.out).mono ?_); (case side1 => refine (Kd.R_reads' (e := 85) (base := w.heap.size) (ok := fun k_ => (w.heap.size <= k_)) (n := t1709.length) (c := co67z) ?_).2.2; exact (Kd.R_below (z3 HO51z.out BK54z.out (by decide) (.bool t1708) (.slice Ao66z t1709.length co67z) (.int .i64 t1712)) pl)); (case side2 => exact (Kd.R_reads' HO51z.out).2.1); rintro e w97z ⟨rfl, hb⟩; refine ⟨_, rfl, ?_⟩; replace HO0_1 := am (Kd.V_below (Kd.V_below (Kd.V_mono (Kd.V_far (p := ⟨gb52z, 2, none⟩) (Kd.V_far (p := ⟨gb52z, 1, none⟩) (Kd.V_far (p := ⟨gb52z, 0, none⟩) (Kd.V_mono HO0_1.out (fun k_ hk => (⟨hk, hk.2.2.2.2.2⟩ : _ /\ k_ ≠ gb52z))) (fun _ hk => hk.2) (.bool t1708)) (fun _ hk => hk.2) (.slice Ao66z t1709.length co67z)) (fun _ hk => hk.2) (.int .i64 t1712)) (fun _ h_ => h_.1)) pl) hb); replace HO1_1 := am (Kd.V_below (Kd.V_below (Kd.V_mono (Kd.V_far (p := ⟨gb52z, 2, none⟩) (Kd.V_far (p := ⟨gb52z, 1, none⟩) (Kd.V_far (p := ⟨gb52z, 0, none⟩) (Kd.V_mono HO1_1.out (fun k_ hk => (⟨hk, hk.2.2.2.2.2⟩ : _ /\ k_ ≠ gb52z))) (fun _ hk => hk.2) (.bool t1708)) (fun _ hk => hk.2) (.slice Ao66z t1709.length co67z)) (fun _ hk => hk.2) (.int .i64 t1712)) (fun _ h_ => h_.1)) pl) hb); replace HO29z := am (Kd.N_below (Kd.N_below (Kd.N_mono (Kd.N_far (p := ⟨gb52z, 2, none⟩) (Kd.N_far (p := ⟨gb52z, 1, none⟩) (Kd.N_far (p := ⟨gb52z, 0, none⟩) (Kd.N_mono HO29z.out (fun k_ hk => (⟨hk, hk.2.2.2.2⟩ : _ /\ k_ ≠ gb52z))) (fun _ hk => hk.2) (.bool t1708)) (fun _ hk => hk.2) (.slice Ao66z t1709.length co67z)) (fun _ hk => hk.2) (.int .i64 t1712)) (fun _ h_ => h_.1)) pl) hb); replace HO45z := am (Kd.V_below (Kd.V_below (Kd.V_mono (Kd.V_far (p := ⟨gb52z, 2, none⟩) (Kd.V_far (p := ⟨gb52z, 1, none⟩) (Kd.V_far (p := ⟨gb52z, 0, none⟩) (Kd.V_mono HO45z.out (fun k_ hk => (⟨hk, hk.2.2.2.2.2⟩ : _ /\ k_ ≠ gb52z))) (fun _ hk => hk.2) (.bool t1708)) (fun _ hk => hk.2) (.slice Ao66z t1709.length co67z)) (fun _ hk => hk.2) (.int .i64 t1712)) (fun _ h_ => h_.1)) pl) hb); replace HO51z := am (Kd.R_below (Kd.R_below (z3 HO51z.out BK54z.out (by decide) (.bool t1708) (.slice Ao66z t1709.length co67z) (.int .i64 t1712)) pl) hb); replace BK2z := am (blk_below (bf NB57z.out BK2z.out) hb); replace BK7z := am (blk_below (bf NB59z.out BK7z.out) hb); replace BK54z := am (blk_below (g := gb52z) (o := .cells #[.bool t1708, .slice Ao66z t1709.length co67z, .int .i64 t1712] 106 (0, 0)) (by refine bp ?_; refine blk_put (cs := #[.bool t1708, .slice Ao66z t1709.length co67z, .int .i64 0]) ?_ 2 _ rfl; refine bp ?_; refine blk_put (cs := #[.bool t1708, .slice none 0 0, .int .i64 0]) ?_ 1 _ rfl; refine bp ?_; refine blk_put (cs := #[.bool false, .slice none 0 0, .int .i64 0]) ?_ 0 _ rfl; exact bp BK54z.out) hb); replace HB := am (below_step pB hb); (try clear hb); (try clear hb34z); (try clear hk); (try clear hi)))) | (have q_ : Aside0 (_ = some (true, _, _)) := A6; have q_ : Aside0 (_ = some false) := A7; try go_wp2_with (first | (refine gL (some 23) Tryz.func104 #[.agg #[.bool true, .slice Ao66z t1709.length co67z, .int .i64 t1712]] (h := ?_); (with_reducible refine (dec_number_zero.calls true _ _ t1709 t1712 false _ ?side1 ?side2 A7.out).mono ?_); (case side1 => refine (Kd.R_reads' (e := 85) (base := w.heap.size) (ok := fun k_ => (w.heap.size <= k_)) (n := t1709.length) (c := co67z) ?_).2.2; exact (Kd.R_below (z3 HO51z.out BK54z.out (by decide) (.bool true) (.slice Ao66z t1709.length co67z) (.int .i64 t1712)) pl)); (case side2 => exact (Kd.R_reads' HO51z.out).2.1); rintro e w97z ⟨rfl, hb⟩; refine ⟨_, rfl, ?_⟩; replace HO0_1 := am (Kd.V_below (Kd.V_below (Kd.V_mono (Kd.V_far (p := ⟨gb52z, 2, none⟩) (Kd.V_far (p := ⟨gb52z, 1, none⟩) (Kd.V_far (p := ⟨gb52z, 0, none⟩) (Kd.V_mono HO0_1.out (fun k_ hk => (⟨hk, hk.2.2.2.2.2⟩ : _ /\ k_ ≠ gb52z))) (fun _ hk => hk.2) (.bool true)) (fun _ hk => hk.2) (.slice Ao66z t1709.length co67z)) (fun _ hk => hk.2) (.int .i64 t1712)) (fun _ h_ => h_.1)) pl) hb); replace HO1_1 := am (Kd.V_below (Kd.V_below (Kd.V_mono (Kd.V_far (p := ⟨gb52z, 2, none⟩) (Kd.V_far (p := ⟨gb52z, 1, none⟩) (Kd.V_far (p := ⟨gb52z, 0, none⟩) (Kd.V_mono HO1_1.out (fun k_ hk => (⟨hk, hk.2.2.2.2.2⟩ : _ /\ k_ ≠ gb52z))) (fun _ hk => hk.2) (.bool true)) (fun _ hk => hk.2) (.slice Ao66z t1709.length co67z)) (fun _ hk => hk.2) (.int .i64 t1712)) (fun _ h_ => h_.1)) pl) hb); replace HO29z := am (Kd.N_below (Kd.N_below (Kd.N_mono (Kd.N_far (p := ⟨gb52z, 2, none⟩) (Kd.N_far (p := ⟨gb52z, 1, none⟩) (Kd.N_far (p := ⟨gb52z, 0, none⟩) (Kd.N_mono HO29z.out (fun k_ hk => (⟨hk, hk.2.2.2.2⟩ : _ /\ k_ ≠ gb52z))) (fun _ hk => hk.2) (.bool true)) (fun _ hk => hk.2) (.slice Ao66z t1709.length co67z)) (fun _ hk => hk.2) (.int .i64 t1712)) (fun _ h_ => h_.1)) pl) hb); replace HO45z := am (Kd.V_below (Kd.V_below (Kd.V_mono (Kd.V_far (p := ⟨gb52z, 2, none⟩) (Kd.V_far (p := ⟨gb52z, 1, none⟩) (Kd.V_far (p := ⟨gb52z, 0, none⟩) (Kd.V_mono HO45z.out (fun k_ hk => (⟨hk, hk.2.2.2.2.2⟩ : _ /\ k_ ≠ gb52z))) (fun _ hk => hk.2) (.bool true)) (fun _ hk => hk.2) (.slice Ao66z t1709.length co67z)) (fun _ hk => hk.2) (.int .i64 t1712)) (fun _ h_ => h_.1)) pl) hb); replace HO51z := am (Kd.R_below (Kd.R_below (z3 HO51z.out BK54z.out (by decide) (.bool true) (.slice Ao66z t1709.length co67z) (.int .i64 t1712)) pl) hb); replace BK2z := am (blk_below (bf NB57z.out BK2z.out) hb); replace BK7z := am (blk_below (bf NB59z.out BK7z.out) hb); replace BK54z := am (blk_below (g := gb52z) (o := .cells #[.bool true, .slice Ao66z t1709.length co67z, .int .i64 t1712] 106 (0, 0)) (by refine bp ?_; refine blk_put (cs := #[.bool true, .slice Ao66z t1709.length co67z, .int .i64 0]) ?_ 2 _ rfl; refine bp ?_; refine blk_put (cs := #[.bool true, .slice none 0 0, .int .i64 0]) ?_ 1 _ rfl; refine bp ?_; refine blk_put (cs := #[.bool false, .slice none 0 0, .int .i64 0]) ?_ 0 _ rfl; exact bp BK54z.out) hb); replace HB := am (below_step pB hb); (try clear hb); (try clear hb34z); (try clear hk); (try clear hi); obtain ⟨hcz98z, hcz99z, hcz100z, hfz101z, hfz102z, hfz103z⟩ := cEc BK54z.out))) | (have q_ : Aside0 (_ = some (false, _, _)) := A6; have q_ : Aside0 (_ = some false) := A7; try go_wp2_with (first | (refine gL (some 23) Tryz.func104 #[.agg #[.bool false, .slice Ao66z t1709.length co67z, .int .i64 t1712]] (h := ?_); (with_reducible refine (dec_number_zero.calls false _ _ t1709 t1712 false _ ?side1 ?side2 A7.out).mono ?_); (case side1 => refine (Kd.R_reads' (e := 85) (base := w.heap.size) (ok := fun k_ => (w.heap.size <= k_)) (n := t1709.length) (c := co67z) ?_).2.2; exact (Kd.R_below (z3 HO51z.out BK54z.out (by decide) (.bool false) (.slice Ao66z t1709.length co67z) (.int .i64 t1712)) pl)); (case side2 => exact (Kd.R_reads' HO51z.out).2.1); rintro e w97z ⟨rfl, hb⟩; refine ⟨_, rfl, ?_⟩; replace HO0_1 := am (Kd.V_below (Kd.V_below (Kd.V_mono (Kd.V_far (p := ⟨gb52z, 2, none⟩) (Kd.V_far (p := ⟨gb52z, 1, none⟩) (Kd.V_far (p := ⟨gb52z, 0, none⟩) (Kd.V_mono HO0_1.out (fun k_ hk => (⟨hk, hk.2.2.2.2.2⟩ : _ /\ k_ ≠ gb52z))) (fun _ hk => hk.2) (.bool false)) (fun _ hk => hk.2) (.slice Ao66z t1709.length co67z)) (fun _ hk => hk.2) (.int .i64 t1712)) (fun _ h_ => h_.1)) pl) hb); replace HO1_1 := am (Kd.V_below (Kd.V_below (Kd.V_mono (Kd.V_far (p := ⟨gb52z, 2, none⟩) (Kd.V_far (p := ⟨gb52z, 1, none⟩) (Kd.V_far (p := ⟨gb52z, 0, none⟩) (Kd.V_mono HO1_1.out (fun k_ hk => (⟨hk, hk.2.2.2.2.2⟩ : _ /\ k_ ≠ gb52z))) (fun _ hk => hk.2) (.bool false)) (fun _ hk => hk.2) (.slice Ao66z t1709.length co67z)) (fun _ hk => hk.2) (.int .i64 t1712)) (fun _ h_ => h_.1)) pl) hb); replace HO29z := am (Kd.N_below (Kd.N_below (Kd.N_mono (Kd.N_far (p := ⟨gb52z, 2, none⟩) (Kd.N_far (p := ⟨gb52z, 1, none⟩) (Kd.N_far (p := ⟨gb52z, 0, none⟩) (Kd.N_mono HO29z.out (fun k_ hk => (⟨hk, hk.2.2.2.2⟩ : _ /\ k_ ≠ gb52z))) (fun _ hk => hk.2) (.bool false)) (fun _ hk => hk.2) (.slice Ao66z t1709.length co67z)) (fun _ hk => hk.2) (.int .i64 t1712)) (fun _ h_ => h_.1)) pl) hb); replace HO45z := am (Kd.V_below (Kd.V_below (Kd.V_mono (Kd.V_far (p := ⟨gb52z, 2, none⟩) (Kd.V_far (p := ⟨gb52z, 1, none⟩) (Kd.V_far (p := ⟨gb52z, 0, none⟩) (Kd.V_mono HO45z.out (fun k_ hk => (⟨hk, hk.2.2.2.2.2⟩ : _ /\ k_ ≠ gb52z))) (fun _ hk => hk.2) (.bool false)) (fun _ hk => hk.2) (.slice Ao66z t1709.length co67z)) (fun _ hk => hk.2) (.int .i64 t1712)) (fun _ h_ => h_.1)) pl) hb); replace HO51z := am (Kd.R_below (Kd.R_below (z3 HO51z.out BK54z.out (by decide) (.bool false) (.slice Ao66z t1709.length co67z) (.int .i64 t1712)) pl) hb); replace BK2z := am (blk_below (bf NB57z.out BK2z.out) hb); replace BK7z := am (blk_below (bf NB59z.out BK7z.out) hb); replace BK54z := am (blk_below (g := gb52z) (o := .cells #[.bool false, .slice Ao66z t1709.length co67z, .int .i64 t1712] 106 (0, 0)) (by refine bp ?_; refine blk_put (cs := #[.bool false, .slice Ao66z t1709.length co67z, .int .i64 0]) ?_ 2 _ rfl; refine bp ?_; refine blk_put (cs := #[.bool false, .slice none 0 0, .int .i64 0]) ?_ 1 _ rfl; refine bp ?_; refine blk_put (cs := #[.bool false, .slice none 0 0, .int .i64 0]) ?_ 0 _ rfl; exact bp BK54z.out) hb); replace HB := am (below_step pB hb); (try clear hb); (try clear hb34z); (try clear hk); (try clear hi); obtain ⟨hcz98z, hcz99z, hcz100z, hfz101z, hfz102z, hfz103z⟩ := cEc BK54z.out)))
    go_ret2
    exact ⟨pE, pB⟩
  | go_ret2
    exact ⟨pE, pB⟩) : P := h
theorem dec_Compare.calls (k : Nat) (a0_0 : Bool) (P0_1_ : Nat -> Prop) (A0_1 : Option Addr) (c0_1 : Nat) (l0_1 : List Int) (a0_2 : Int) (a1_0 : Bool) (P1_1_ : Nat -> Prop) (A1_1 : Option Addr) (c1_1 : Nat) (l1_1 : List Int) (a1_2 : Int) (r1 : Int) (r2 : Int) (w : World) (hs0_1 : Kd.V (Kd.int .u32) 85 w w.heap.size (fun k_ => P0_1_ k_) (.slice A0_1 l0_1.length c0_1) l0_1) (hs1_1 : Kd.V (Kd.int .u32) 85 w w.heap.size (fun k_ => P1_1_ k_) (.slice A1_1 l1_1.length c1_1) l1_1) (h : dec_Compare.f k a0_0 l0_1 a0_2 a1_0 l1_1 a1_2 = some (r1, r2)) :
  Calls Tryz.prog 48 #[.agg #[.bool a0_0, .slice A0_1 l0_1.length c0_1, .int .i64 a0_2], .agg #[.bool a1_0, .slice A1_1 l1_1.length c1_1, .int .i64 a1_2]] w fun e w' => e = .returned (.tuple #[.int .i64 r1, .int .i64 r2]) /\ Below w.heap.size w w' := by
 have hu24 := Tryz.underlying24
 have hu106 := Tryz.underlying106
 have HO0_1 := am (show Kd.V (Kd.int .u32) 85 w w.heap.size (fun k_ => ((P0_1_ k_ \/ P1_1_ k_) \/ w.heap.size <= k_)) (.slice A0_1 l0_1.length c0_1) l0_1 from Kd.V_mono hs0_1 (fun k_ hk => .inl (.inl hk)))
 have HO1_1 := am (show Kd.V (Kd.int .u32) 85 w w.heap.size (fun k_ => ((P0_1_ k_ \/ P1_1_ k_) \/ w.heap.size <= k_)) (.slice A1_1 l1_1.length c1_1) l1_1 from Kd.V_mono hs1_1 (fun k_ hk => .inl (.inr hk)))
 have HB := am (Below.refl w.heap.size w)
 have H : ((dec_ask.f k (([(⟨a0_0, l0_1, a0_2⟩ : S24), (⟨a1_0, l1_1, a1_2⟩ : S24)] : List (S24)))).bind fun t1702 => (if t1702 = 0 then ((dec_number_minus.f a1_0 l1_1 a1_2).bind fun bt1703 => ((dec_number_plus.f k a0_0 l0_1 a0_2 bt1703.1 bt1703.2.1 bt1703.2.2).bind fun bt1708 => ((dec_number_zero.f bt1708.1 bt1708.2.1 bt1708.2.2).bind fun t1714 => (if t1714 = true then (some (0, 0)) else (if bt1708.1 = true then (some ((-1), 0)) else (some (1, 0))))))) else (some (0, t1702)))) = some (r1, r2) := h
 clear h
 obtain ⟨y1699, hy1699⟩ : ∃ y_ : List (S24), y_ = (([(⟨a0_0, l0_1, a0_2⟩ : S24), (⟨a1_0, l1_1, a1_2⟩ : S24)] : List (S24))) := ⟨_, rfl⟩
 replace H : ((dec_ask.f k y1699).bind fun t1702 => (if t1702 = 0 then ((dec_number_minus.f a1_0 l1_1 a1_2).bind fun bt1703 => ((dec_number_plus.f k a0_0 l0_1 a0_2 bt1703.1 bt1703.2.1 bt1703.2.2).bind fun bt1708 => ((dec_number_zero.f bt1708.1 bt1708.2.1 bt1708.2.2).bind fun t1714 => (if t1714 = true then (some (0, 0)) else (if bt1708.1 = true then (some ((-1), 0)) else (some (1, 0))))))) else (some (0, t1702)))) = some (r1, r2) := by first | (rw [hy1699]; with_reducible exact H) | (have H2_ := (Option.bind_some _ _).symm.trans H; rw [hy1699]; with_reducible exact H2_) | (have H2_ := (Option.bind_some _ _).symm.trans H; with_reducible exact H2_) | with_reducible exact H | (rw [hy1699]; exact H) | exact H
 have Ny1699 := am hy1699
 clear hy1699
 obtain ⟨t1702, A3, H⟩ := ob H
 by_cases c4 : t1702 = 0
 ·rw [if_pos c4] at H
  have c4b0 : (t1702 == 0) = true := beq_iff_eq.mpr c4
  have c4b1 : (t1702 != 0) = false := bne_eq_false_iff_eq.mpr c4
  clear c4
  obtain ⟨⟨t1703, t1704, t1707⟩, A5, H⟩ := ob H; (try dsimp only at H)
  obtain ⟨⟨t1708, t1709, t1712⟩, A6, H⟩ := ob H; (try dsimp only at H)
  obtain ⟨t1714, A7, H⟩ := ob H
  by_cases c8 : t1714 = true
  ·subst c8
   rw [if_pos rfl] at H
   simp only [Option.some.injEq, Prod.mk.injEq] at H
   obtain ⟨rfl, rfl⟩ := H
   exact dec_Compare.leaf
  ·replace c8 := Bool.eq_false_iff.mpr c8
   subst c8
   rw [if_neg (show ¬ (false = true) by decide)] at H
   by_cases c32 : t1708 = true
   ·subst c32
    rw [if_pos rfl] at H
    simp only [Option.some.injEq, Prod.mk.injEq] at H
    obtain ⟨rfl, rfl⟩ := H
    exact dec_Compare.leaf
   ·replace c32 := Bool.eq_false_iff.mpr c32
    subst c32
    rw [if_neg (show ¬ (false = true) by decide)] at H
    simp only [Option.some.injEq, Prod.mk.injEq] at H
    obtain ⟨rfl, rfl⟩ := H
    exact dec_Compare.leaf
 ·rw [if_neg c4] at H
  have c4b0 : (t1702 == 0) = false := beq_eq_false_iff_ne.mpr c4
  have c4b1 : (t1702 != 0) = true := bne_iff_ne.mpr c4
  simp only [Option.some.injEq, Prod.mk.injEq] at H
  obtain ⟨rfl, rfl⟩ := H
  exact dec_Compare.leaf
def dec_Mul.f (k : Nat) (a0_0 : Bool) (l0_1 : List Int) (a0_2 : Int) (a1_0 : Bool) (l1_1 : List Int) (a1_2 : Int) : Option (Bool × List Int × Int × Int) := (dec_ask.f k (([(⟨a0_0, l0_1, a0_2⟩ : S24), (⟨a1_0, l1_1, a1_2⟩ : S24)] : List (S24)))).bind fun t1738 => (if t1738 = 0 then ((nat_Mul.f k l0_1 l1_1).bind fun bt1739 => ((dec_must.f bt1739.1 bt1739.2).bind fun t1743 => ((dec_settle.f k (a0_0 != a1_0) t1743 (wrap64 (a0_2 + a1_2))).bind fun bt1746 => (some (bt1746.1, bt1746.2.1, bt1746.2.2.1, bt1746.2.2.2))))) else (some (false, ([] : List Int), 0, t1738)))
def dec_Mul.T4 : Bool × List (List Nat × List Nat) := (true, [([], []), ([0], [0]), ([], []), ([2], [2]), ([1, 3], [1, 3]), ([], []), ([5], [5]), ([], []), ([7], [7]), ([6, 8], [6, 8]), ([9], [9]), ([9], [9]), ([10, 11, 9], [10, 11]), ([], []), ([13], [13]), ([], []), ([15], [15]), ([14, 16], [14, 16]), ([4, 12, 17], [4, 12, 17]), ([18], [18]), ([19, 12], [19]), ([20], [20]), ([20], [20]), ([21, 20, 0, 1, 2, 3, 4, 5, 6, 7, 8, 9, 10, 11, 12, 13, 14, 15, 16, 17, 18, 19, 20, 21, 22], [21]), ([22, 23, 0, 1, 2, 3, 4, 5, 6, 7, 8, 9, 10, 11, 12, 13, 14, 15, 16, 17, 18, 19, 20, 21, 22, 23], [22])])
def dec_Mul.B4 : List Nat := [0, 1, 0, 4, 15, 0, 32, 0, 128, 480, 992, 992, 4064, 0, 8192, 0, 32768, 122880, 262143, 524287, 1048575, 2097151, 2097151, 8388607, 16777215]
theorem dec_Mul.tab4 : rtab .any (opsOf Tryz.f49 4) = dec_Mul.T4 := by kernel_rfl
theorem dec_Mul.bits4 : waitsOk dec_Mul.T4.2 dec_Mul.B4 = true := by kernel_rfl
theorem dec_Mul.leaf {P : Prop} (h : P := by
 go_enter Tryz.func49, Tryz.ntmps49
 try go_wp2_with (first | ((with_reducible refine gate_dst (N := 2) rfl ?_); refine box_event ?hg (N := 2) ?hd (cs := #[.bool a0_0, .slice A0_1 l0_1.length c0_1, .int .i64 a0_2]) (t := 24) ?hr ?_; (case hd => rfl); (case hg => rfl); (case hr => first | (go_simp; done) | (go_simp; rfl)); intro gb0z hg w1z hbox hb; have n0_ := am (Kd.V_below (Kd.V_elderB (Kd.V_below HO0_1.out pl) gb0z (Nat.le_of_eq hg.symm)) hb); have n1_ := am (Kd.V_below (Kd.V_elderB (Kd.V_below HO1_1.out pl) gb0z (Nat.le_of_eq hg.symm)) hb); have n2_ := am (below_step pB hb); have n3_ := am (hbox); have n4_ := am ((gw hg pB : w.heap.size <= gb0z)); have n5_ := am ((gw hg pB : w.heap.size <= gb0z)); clear HO0_1 HO1_1 HB; have HO0_1 := n0_; have HO1_1 := n1_; have HB := n2_; have BK2z := n3_; have GW3z := n4_; have GE4z := n5_; clear n0_ n1_ n2_ n3_ n4_ n5_ hb hbox hg) | ((with_reducible refine gate_dst (N := 3) rfl ?_); refine box_event ?hg (N := 3) ?hd (cs := #[.bool a1_0, .slice A1_1 l1_1.length c1_1, .int .i64 a1_2]) (t := 24) ?hr ?_; (case hd => rfl); (case hg => rfl); (case hr => first | (go_simp; done) | (go_simp; rfl)); intro gb5z hg w6z hbox hb; have n0_ := am (Kd.V_below (Kd.V_elderB (Kd.V_below HO0_1.out pl) gb5z (Nat.le_of_eq hg.symm)) hb); have n1_ := am (Kd.V_below (Kd.V_elderB (Kd.V_below HO1_1.out pl) gb5z (Nat.le_of_eq hg.symm)) hb); have n2_ := am (blk_below (blk_below BK2z.out pl) hb); have n3_ := am (below_step pB hb); have n4_ := am (hbox); have n5_ := am ((gw hg pB : w.heap.size <= gb5z)); have n6_ := am ((gw hg pB : w.heap.size <= gb5z)); have n7_ := am ((nl hg (blk_below BK2z.out pl) : gb0z ≠ gb5z)); have n8_ := am ((ng hg (blk_below BK2z.out pl) : gb5z ≠ gb0z)); clear HO0_1 HO1_1 BK2z HB; have HO0_1 := n0_; have HO1_1 := n1_; have BK2z := n2_; have HB := n3_; have BK7z := n4_; have GW8z := n5_; have GE9z := n6_; have NB10z := n7_; have NB11z := n8_; clear n0_ n1_ n2_ n3_ n4_ n5_ n6_ n7_ n8_ hb hbox hg) | ((with_reducible refine gate_dst (N := 4) rfl ?_); refine box_event ?hg (N := 4) ?hd (cs := #[.bool false, .slice none 0 0, .int .i64 0]) (t := 24) ?hr ?_; (case hd => rfl); (case hg => rfl); (case hr => first | (go_simp; done) | (go_simp; rfl)); intro gb12z hg w13z hbox hb; have n0_ := am (Kd.V_below (Kd.V_elderB (Kd.V_below HO0_1.out pl) gb12z (Nat.le_of_eq hg.symm)) hb); have n1_ := am (Kd.V_below (Kd.V_elderB (Kd.V_below HO1_1.out pl) gb12z (Nat.le_of_eq hg.symm)) hb); have n2_ := am (blk_below (blk_below BK2z.out pl) hb); have n3_ := am (blk_below (blk_below BK7z.out pl) hb); have n4_ := am (below_step pB hb); have n5_ := am (hbox); have n6_ := am ((gw hg pB : w.heap.size <= gb12z)); have n7_ := am ((gw hg pB : w.heap.size <= gb12z)); have n8_ := am ((nl hg (blk_below BK2z.out pl) : gb0z ≠ gb12z)); have n9_ := am ((ng hg (blk_below BK2z.out pl) : gb12z ≠ gb0z)); have n10_ := am ((nl hg (blk_below BK7z.out pl) : gb5z ≠ gb12z)); have n11_ := am ((ng hg (blk_below BK7z.out pl) : gb12z ≠ gb5z)); clear HO0_1 HO1_1 BK2z BK7z HB; have HO0_1 := n0_; have HO1_1 := n1_; have BK2z := n2_; have BK7z := n3_; have HB := n4_; have BK14z := n5_; have GW15z := n6_; have GE16z := n7_; have NB17z := n8_; have NB18z := n9_; have NB19z := n10_; have NB20z := n11_; clear n0_ n1_ n2_ n3_ n4_ n5_ n6_ n7_ n8_ n9_ n10_ n11_ hb hbox hg; have hnb21z := NB10z.out; have hnc22z := NB11z.out; have hnb23z := NB17z.out; have hnc24z := NB18z.out; obtain ⟨hcz25z, hcz26z, hcz27z, hfz28z, hfz29z, hfz30z⟩ := cEc BK2z.out; have hnb31z := NB19z.out; have hnc32z := NB20z.out; obtain ⟨hcz33z, hcz34z, hcz35z, hfz36z, hfz37z, hfz38z⟩ := cEc BK7z.out) | ((with_reducible refine gate_dst (N := 9) rfl ?_); refine Kd.N_lit k24 _ 24 ?hg (N' := 9) ?hd (xs := ([(⟨a0_0, l0_1, a0_2⟩ : S24), (⟨a1_0, l1_1, a1_2⟩ : S24)] : List (S24))) (inner := [.bool a0_0, .slice A0_1 l0_1.length c0_1, .int .i64 a0_2, .bool a1_0, .slice A1_1 l1_1.length c1_1, .int .i64 a1_2]) (ok := (fun k_ => ((P0_1_ k_ \/ P1_1_ k_) \/ w.heap.size <= k_) /\ k_ ≠ gb0z /\ k_ ≠ gb5z /\ k_ ≠ gb12z)) (okp := (fun k_ => ((P0_1_ k_ \/ P1_1_ k_) \/ w.heap.size <= k_) /\ k_ ≠ gb0z /\ k_ ≠ gb5z /\ k_ ≠ gb12z)) ?hr ?hp (fun _ hk => hk) ((show ∀ k_, w13z.heap.size <= k_ -> (fun k_ => ((P0_1_ k_ \/ P1_1_ k_) \/ w.heap.size <= k_) /\ k_ ≠ gb0z /\ k_ ≠ gb5z /\ k_ ≠ gb12z) k_ from fun k_ hk => ⟨(.inr (Nat.le_trans (below_size pB) hk)), Kd.freshB (g := gb0z) (o := .cells #[.bool a0_0, .slice A0_1 l0_1.length c0_1, .int .i64 a0_2] 24 (0, 0)) (blk_below BK2z.out pl) k_ hk, Kd.freshB (g := gb5z) (o := .cells #[.bool a1_0, .slice A1_1 l1_1.length c1_1, .int .i64 a1_2] 24 (0, 0)) (blk_below BK7z.out pl) k_ hk, Kd.freshB (g := gb12z) (o := .cells #[.bool false, .slice none 0 0, .int .i64 0] 24 (0, 0)) (blk_below BK14z.out pl) k_ hk⟩) _ (Nat.le_refl _)) (Below.refl _ _) (Nat.le_refl _) (by simp) ?_; (case hd => rfl); (case hg => rfl); (case hr => first | (go_simp; done) | (go_simp; rfl)); (case hp => exact (Reps.c3 (show Kd.FK k24 _ _ (⟨a0_0, l0_1, a0_2⟩ : S24) [.bool a0_0, .slice A0_1 l0_1.length c0_1, .int .i64 a0_2] from (k24_mkF _ _ (⟨a0_0, l0_1, a0_2⟩ : S24) (Kd.V_reads' (Kd.V_mono (ok' := (fun k_ => ((P0_1_ k_ \/ P1_1_ k_) \/ w.heap.size <= k_) /\ k_ ≠ gb0z /\ k_ ≠ gb5z /\ k_ ≠ gb12z)) (HO0_1.out) (fun k_ hk => ⟨hk.1.1.1, ⟨hk.1.1.2, ⟨hk.1.2, hk.2⟩⟩⟩))).2.1 (Kd.V_F (Kd.V_mono (ok' := (fun k_ => ((P0_1_ k_ \/ P1_1_ k_) \/ w.heap.size <= k_) /\ k_ ≠ gb0z /\ k_ ≠ gb5z /\ k_ ≠ gb12z)) (HO0_1.out) (fun k_ hk => ⟨hk.1.1.1, ⟨hk.1.1.2, ⟨hk.1.2, hk.2⟩⟩⟩))))) (Reps.c3 (show Kd.FK k24 _ _ (⟨a1_0, l1_1, a1_2⟩ : S24) [.bool a1_0, .slice A1_1 l1_1.length c1_1, .int .i64 a1_2] from (k24_mkF _ _ (⟨a1_0, l1_1, a1_2⟩ : S24) (Kd.V_reads' (Kd.V_mono (ok' := (fun k_ => ((P0_1_ k_ \/ P1_1_ k_) \/ w.heap.size <= k_) /\ k_ ≠ gb0z /\ k_ ≠ gb5z /\ k_ ≠ gb12z)) (HO1_1.out) (fun k_ hk => ⟨hk.1.1.1, ⟨hk.1.1.2, ⟨hk.1.2, hk.2⟩⟩⟩))).2.1 (Kd.V_F (Kd.V_mono (ok' := (fun k_ => ((P0_1_ k_ \/ P1_1_ k_) \/ w.heap.size <= k_) /\ k_ ≠ gb0z /\ k_ ≠ gb5z /\ k_ ≠ gb12z)) (HO1_1.out) (fun k_ hk => ⟨hk.1.1.1, ⟨hk.1.1.2, ⟨hk.1.2, hk.2⟩⟩⟩))))) (Reps.none _ _)))); intro v39z w40z ho41z hb hg_ hnew_; clear hg_ hnew_; (first | rw [<- Ny1735.out] at ho41z | (simp only [Int.reduceToNat] at ho41z; rw [<- Ny1735.out] at ho41z)); replace HO0_1 := am (Kd.V_elder' (Kd.V_below HO0_1.out pl) (Kd.N_base ho41z) hb); replace HO1_1 := am (Kd.V_elder' (Kd.V_below HO1_1.out pl) (Kd.N_base ho41z) hb); have HO42z := am (Kd.N_lower ho41z (below_size pB)); replace BK2z := am (blk_below (blk_below BK2z.out pl) hb); replace BK7z := am (blk_below (blk_below BK7z.out pl) hb); replace BK14z := am (blk_below (blk_below BK14z.out pl) hb); replace HB := am (below_step pB hb); clear hb ho41z; obtain ⟨Ao43z, co44z, eo45z⟩ := Kd.N_slice HO42z.out; subst eo45z) | ((have q_ := A7; clear q_); refine gL (some 10) Tryz.func99 #[.slice Ao43z y1735.length co44z] (h := ?_); (with_reducible refine (dec_ask.calls k _ _ y1735 t1738 _ ?side1 ?side2 A3.out).mono ?_); (case side1 => exact Kd.C_below (Kd.N_reads' HO42z.out).2.2 pl); (case side2 => exact (Kd.N_reads' HO42z.out).2.1); rintro e w46z ⟨rfl, hb⟩; refine ⟨_, rfl, ?_⟩; replace HO0_1 := am (Kd.V_below (Kd.V_below HO0_1.out pl) hb); replace HO1_1 := am (Kd.V_below (Kd.V_below HO1_1.out pl) hb); replace HO42z := am (Kd.N_below (Kd.N_below HO42z.out pl) hb); replace BK2z := am (blk_below (blk_below BK2z.out pl) hb); replace BK7z := am (blk_below (blk_below BK7z.out pl) hb); replace BK14z := am (blk_below (blk_below BK14z.out pl) hb); replace HB := am (below_step pB hb); (try clear hb); (try clear hb47z); (try clear hk); (try clear hi)) | ((have q_ : (t1738 != 0) = true := c4b1; clear q_); refine gL (some 10) Tryz.func99 #[.slice Ao43z y1735.length co44z] (h := ?_); (with_reducible refine (dec_ask.calls k _ _ y1735 t1738 _ ?side1 ?side2 A3.out).mono ?_); (case side1 => exact Kd.C_below (Kd.N_reads' HO42z.out).2.2 pl); (case side2 => exact (Kd.N_reads' HO42z.out).2.1); rintro e w46z ⟨rfl, hb⟩; refine ⟨_, rfl, ?_⟩; replace HO0_1 := am (Kd.V_below (Kd.V_below HO0_1.out pl) hb); replace HO1_1 := am (Kd.V_below (Kd.V_below HO1_1.out pl) hb); replace HO42z := am (Kd.N_below (Kd.N_below HO42z.out pl) hb); replace BK2z := am (blk_below (blk_below BK2z.out pl) hb); replace BK7z := am (blk_below (blk_below BK7z.out pl) hb); replace BK14z := am (blk_below (blk_below BK14z.out pl) hb); replace HB := am (below_step pB hb); (try clear hb); (try clear hb47z); (try clear hk); (try clear hi); obtain ⟨hcz48z, hcz49z, hcz50z, hfz51z, hfz52z, hfz53z⟩ := cEc BK14z.out))
 first
  | have q_ := A7
    replace HO0_1 := am (Kd.V_drew HO0_1.out)
    replace HO1_1 := am (Kd.V_drew HO1_1.out)
    replace HO42z := am (Kd.N_drew HO42z.out)
    replace BK2z := am (blk_drew BK2z.out)
    replace BK7z := am (blk_drew BK7z.out)
    replace BK14z := am (blk_drew BK14z.out)
    replace HB := am (below_drew1 HB.out)
    refine start_ (n := 25) (S := fun w' => w'.cell? ⟨gb0z, 0, none⟩ = some (.bool a0_0) /\ w'.cell? ⟨gb0z, 1, none⟩ = some (.slice A0_1 l0_1.length c0_1) /\ w'.cell? ⟨gb0z, 2, none⟩ = some (.int .i64 a0_2) /\ w'.cell? ⟨gb5z, 0, none⟩ = some (.bool a1_0) /\ w'.cell? ⟨gb5z, 1, none⟩ = some (.slice A1_1 l1_1.length c1_1) /\ w'.cell? ⟨gb5z, 2, none⟩ = some (.int .i64 a1_2)) (ds := []) #[false, false, false, false, false, false, false, false, false, false, false, false, false, false, false, false, false, false, false, false, false, false, false, false, false] (by kernel_rfl) rfl rfl ⟨(blk_cell BK2z.out 0).trans rfl, (blk_cell BK2z.out 1).trans rfl, (blk_cell BK2z.out 2).trans rfl, (blk_cell BK7z.out 0).trans rfl, (blk_cell BK7z.out 1).trans rfl, (blk_cell BK7z.out 2).trans rfl⟩ (fun hHeld => ?_); refine with_tabW dec_Mul.tab4 dec_Mul.bits4 (fun HT_ HW_ => ?_)
    generalize w46z.drew = w48z at HO0_1 HO1_1 HO42z BK2z BK7z BK14z HB hHeld ⊢
    refine pu 0 (some 15) #[true, false, false, false, false, false, false, false, false, false, false, false, false, false, false, false, false, false, false, false, false, false, false, false, false] (h := ?_)
    refine pu 2 (some 17) #[true, false, true, false, false, false, false, false, false, false, false, false, false, false, false, false, false, false, false, false, false, false, false, false, false] (h := ?_)
    refine pu 5 (some 20) #[true, false, true, false, false, true, false, false, false, false, false, false, false, false, false, false, false, false, false, false, false, false, false, false, false] (h := ?_)
    refine pu 7 (some 22) #[true, false, true, false, false, true, false, true, false, false, false, false, false, false, false, false, false, false, false, false, false, false, false, false, false] (h := ?_)
    refine pu 13 (some 28) #[true, false, true, false, false, true, false, true, false, false, false, false, false, true, false, false, false, false, false, false, false, false, false, false, false] (h := ?_)
    refine pu 15 (some 30) #[true, false, true, false, false, true, false, true, false, false, false, false, false, true, false, true, false, false, false, false, false, false, false, false, false] (h := ?_)
    refine take_ (i := 1) (N := some 16) (v := ?_) (a' := ?_) #[true, true, true, false, false, true, false, true, false, false, false, false, false, true, false, true, false, false, false, false, false, false, false, false, false] rfl rfl (take_ofW HT_.out HW_.out (by kernel_rfl)) (fun _ _ _ h => h) (Or.inl ⟨by rfl, ?_⟩) hHeld ?_ ?_
    rotate_left
    ·rintro w' ⟨s49z, s50z, s51z, s52z, s53z, s54z⟩
     go_simp
     with_reducible rfl
    rotate_left
    ·simp only [Act.put, List.setIfInBounds_toArray, List.set_cons_zero, List.set_cons_succ, i64_w, i32_w]
     rfl
    refine take_ (i := 3) (N := some 18) (v := ?_) (a' := ?_) #[true, true, true, true, false, true, false, true, false, false, false, false, false, true, false, true, false, false, false, false, false, false, false, false, false] rfl rfl (take_ofW HT_.out HW_.out (by kernel_rfl)) (fun _ _ _ h => h) (Or.inl ⟨by rfl, ?_⟩) hHeld ?_ ?_
    rotate_left
    ·rintro w' ⟨s49z, s50z, s51z, s52z, s53z, s54z⟩
     go_simp
     with_reducible rfl
    rotate_left
    ·simp only [Act.put, List.setIfInBounds_toArray, List.set_cons_zero, List.set_cons_succ, i64_w, i32_w]
     rfl
    refine pu 4 (some 19) #[true, true, true, true, true, true, false, true, false, false, false, false, false, true, false, true, false, false, false, false, false, false, false, false, false] (h := ?_)
    refine take_ (i := 6) (N := some 21) (v := ?_) (a' := ?_) #[true, true, true, true, true, true, true, true, false, false, false, false, false, true, false, true, false, false, false, false, false, false, false, false, false] rfl rfl (take_ofW HT_.out HW_.out (by kernel_rfl)) (fun _ _ _ h => h) (Or.inl ⟨by rfl, ?_⟩) hHeld ?_ ?_
    rotate_left
    ·rintro w' ⟨s49z, s50z, s51z, s52z, s53z, s54z⟩
     go_simp
     with_reducible rfl
    rotate_left
    ·simp only [Act.put, List.setIfInBounds_toArray, List.set_cons_zero, List.set_cons_succ, i64_w, i32_w]
     rfl
    refine take_ (i := 8) (N := some 23) (v := ?_) (a' := ?_) #[true, true, true, true, true, true, true, true, true, false, false, false, false, true, false, true, false, false, false, false, false, false, false, false, false] rfl rfl (take_ofW HT_.out HW_.out (by kernel_rfl)) (fun _ _ _ h => h) (Or.inl ⟨by rfl, ?_⟩) hHeld ?_ ?_
    rotate_left
    ·rintro w' ⟨s49z, s50z, s51z, s52z, s53z, s54z⟩
     go_simp
     with_reducible rfl
    rotate_left
    ·simp only [Act.put, List.setIfInBounds_toArray, List.set_cons_zero, List.set_cons_succ, i64_w, i32_w]
     rfl
    refine take_ (i := 14) (N := some 29) (v := ?_) (a' := ?_) #[true, true, true, true, true, true, true, true, true, false, false, false, false, true, true, true, false, false, false, false, false, false, false, false, false] rfl rfl (take_ofW HT_.out HW_.out (by kernel_rfl)) (fun _ _ _ h => h) (Or.inl ⟨by rfl, ?_⟩) hHeld ?_ ?_
    rotate_left
    ·rintro w' ⟨s49z, s50z, s51z, s52z, s53z, s54z⟩
     go_simp
     with_reducible rfl
    rotate_left
    ·simp only [Act.put, List.setIfInBounds_toArray, List.set_cons_zero, List.set_cons_succ, i64_w, i32_w]
     rfl
    refine take_ (i := 16) (N := some 31) (v := ?_) (a' := ?_) #[true, true, true, true, true, true, true, true, true, false, false, false, false, true, true, true, true, false, false, false, false, false, false, false, false] rfl rfl (take_ofW HT_.out HW_.out (by kernel_rfl)) (fun _ _ _ h => h) (Or.inl ⟨by rfl, ?_⟩) hHeld ?_ ?_
    rotate_left
    ·rintro w' ⟨s49z, s50z, s51z, s52z, s53z, s54z⟩
     go_simp
     with_reducible rfl
    rotate_left
    ·simp only [Act.put, List.setIfInBounds_toArray, List.set_cons_zero, List.set_cons_succ, i64_w, i32_w]
     rfl
    refine pu 17 (some 32) #[true, true, true, true, true, true, true, true, true, false, false, false, false, true, true, true, true, true, false, false, false, false, false, false, false] (h := ?_)
    refine one_ (i := 9) (N := some 24) #[true, true, true, true, true, true, true, true, true, true, false, false, false, true, true, true, true, true, false, false, false, false, false, false, false] rfl rfl (one_of HT_.out (by kernel_rfl)) (by decide) (fun K hK => ?_)
    refine goes_ Tryz.func71 (by kernel_rfl) rfl #[.slice A0_1 l0_1.length c0_1, .slice A1_1 l1_1.length c1_1] (by rfl) rfl rfl pA ?_
    with_reducible refine (nat_Mul.calls k _ _ l0_1 _ _ l1_1 t1739 t1740 _ ?side1 ?side2 ?side3 ?side4 A5.out).mono ?_
    (case side1 => exact Kd.C_below (Kd.V_reads' HO0_1.out).2.2 pl)
    (case side2 => exact (Kd.V_reads' HO0_1.out).2.1)
    (case side3 => exact Kd.C_below (Kd.V_reads' HO1_1.out).2.2 pl)
    (case side4 => exact (Kd.V_reads' HO1_1.out).2.1)
    rintro e w55z ⟨v56z, rfl, ho57z, hb⟩
    refine ⟨_, rfl, ?_⟩
    replace HO0_1 := am (Kd.V_elder' (Kd.V_below HO0_1.out pl) (Kd.R_base ho57z) hb)
    replace HO1_1 := am (Kd.V_elder' (Kd.V_below HO1_1.out pl) (Kd.R_base ho57z) hb)
    replace HO42z := am (Kd.N_elder' (Kd.N_below HO42z.out pl) (Kd.R_base ho57z) hb)
    have HO58z := am (Kd.R_lower (Kd.R_newM (M := fun k_ => (w.heap.size <= k_)) ho57z (below_size pB) (fun k_ h_ => h_)) (below_size pB))
    replace BK2z := am (blk_below (blk_below BK2z.out pl) hb)
    replace BK7z := am (blk_below (blk_below BK7z.out pl) hb)
    replace BK14z := am (blk_below (blk_below BK14z.out pl) hb)
    replace HB := am (below_step pB hb)
    (try clear hb); (try clear hb47z); (try clear hk); (try clear hi); (try clear ho57z)
    obtain ⟨Ao59z, co60z, eo61z⟩ := Kd.R_slice HO58z.out
    (first | subst eo61z | (injection eo61z with f1_ f2_ f3_; have f4_ := f1_.symm; have f5_ := f3_.symm; clear f1_ f2_ f3_; subst f4_; subst f5_))
    refine hK.out _ _ ⟨(blk_cell BK2z.out 0).trans rfl, (blk_cell BK2z.out 1).trans rfl, (blk_cell BK2z.out 2).trans rfl, (blk_cell BK7z.out 0).trans rfl, (blk_cell BK7z.out 1).trans rfl, (blk_cell BK7z.out 2).trans rfl⟩ (fun hHeld => ?_)
    clear hK K
    refine norm_ (a' := ?_) ?_ ?_
    rotate_left
    ·show Act.put _ (some 24) _ = _
     simp only [Act.put, List.setIfInBounds_toArray, List.set_cons_zero, List.set_cons_succ, i64_w, i32_w]
     rfl
    refine pu 10 (some 25) #[true, true, true, true, true, true, true, true, true, true, true, false, false, true, true, true, true, true, false, false, false, false, false, false, false] (h := ?_)
    refine pu 11 (some 26) #[true, true, true, true, true, true, true, true, true, true, true, true, false, true, true, true, true, true, false, false, false, false, false, false, false] (h := ?_)
    refine one_ (i := 12) (N := some 27) #[true, true, true, true, true, true, true, true, true, true, true, true, true, true, true, true, true, true, false, false, false, false, false, false, false] rfl rfl (one_of HT_.out (by kernel_rfl)) (by decide) (fun K hK => ?_)
    refine goes_ Tryz.func105 (by kernel_rfl) rfl #[.slice Ao59z t1739.length co60z, .int .i64 t1740] (by rfl) rfl rfl pA ?_
    with_reducible refine (dec_must.calls (fun k_ => some k_ = (.slice Ao59z t1739.length co60z : Value).ownBlock) (.slice Ao59z t1739.length co60z) t1739 t1740 t1743 w _ ?side1 ?side2 A6.out).mono ?_
    (case side1 => exact pB)
    (case side2 => exact Kd.R_tight rfl HO58z.out)
    rintro e w62z ⟨v63z, rfl, ho57z, hb, hkp⟩
    refine ⟨_, rfl, ?_⟩
    have n0_ := am (Kd.V_mono (ok' := fun k_ => ((P0_1_ k_ \/ P1_1_ k_) \/ w.heap.size <= k_) /\ some k_ ≠ (.slice Ao43z y1735.length co44z : Value).ownBlock /\ k_ ≠ gb0z /\ k_ ≠ gb5z /\ k_ ≠ gb12z /\ some k_ ≠ (v63z : Value).ownBlock) (Kd.V_keptB (HO0_1.out) hkp (fun k_ hk_ hs_ => (hk_.2) hs_)) (fun k_ hk_ => ⟨hk_.1.1.1.1.1.1, hk_.1.1.2, hk_.1.1.1.1.1.2, hk_.1.1.1.1.2, hk_.1.1.1.2, fun e_ => Or.elim (ho57z.1 k_ e_.symm) (fun hs_ => hk_.2.1 hs_) (fun hn_ => Nat.not_le.2 hk_.2.2 hn_)⟩))
    have n1_ := am (Kd.V_mono (ok' := fun k_ => ((P0_1_ k_ \/ P1_1_ k_) \/ w.heap.size <= k_) /\ some k_ ≠ (.slice Ao43z y1735.length co44z : Value).ownBlock /\ k_ ≠ gb0z /\ k_ ≠ gb5z /\ k_ ≠ gb12z /\ some k_ ≠ (v63z : Value).ownBlock) (Kd.V_keptB (HO1_1.out) hkp (fun k_ hk_ hs_ => (hk_.2) hs_)) (fun k_ hk_ => ⟨hk_.1.1.1.1.1.1, hk_.1.1.2, hk_.1.1.1.1.1.2, hk_.1.1.1.1.2, hk_.1.1.1.2, fun e_ => Or.elim (ho57z.1 k_ e_.symm) (fun hs_ => hk_.2.1 hs_) (fun hn_ => Nat.not_le.2 hk_.2.2 hn_)⟩))
    have n2_ := am (blk_kept (blk_below BK2z.out pl) hkp (fun hs_ => (fun e_ => (Kd.R_ne HO58z.out BK2z.out (by decide)) e_) hs_))
    have n3_ := am (blk_kept (blk_below BK7z.out pl) hkp (fun hs_ => (fun e_ => (Kd.R_ne HO58z.out BK7z.out (by decide)) e_) hs_))
    have n4_ := am (blk_kept (blk_below BK14z.out pl) hkp (fun hs_ => (fun e_ => (Kd.R_ne HO58z.out BK14z.out (by decide)) e_) hs_))
    have n5_ := am (Kd.N_mono (ok' := fun k_ => ((P0_1_ k_ \/ P1_1_ k_) \/ w.heap.size <= k_) /\ k_ ≠ gb0z /\ k_ ≠ gb5z /\ k_ ≠ gb12z /\ some k_ ≠ (v63z : Value).ownBlock) (Kd.N_keptB (HO42z.out) hkp (fun k_ hk_ hs_ => (hk_.2) hs_)) (fun k_ hk_ => ⟨hk_.1.1.1, hk_.1.1.2.1, hk_.1.1.2.2.1, hk_.1.1.2.2.2, fun e_ => Or.elim (ho57z.1 k_ e_.symm) (fun hs_ => hk_.2.1 hs_) (fun hn_ => Nat.not_le.2 hk_.2.2 hn_)⟩))
    have n6_ := am (Kd.R_mono (ok' := fun k_ => (w.heap.size <= k_)) ho57z (fun k_ hk_ => Or.elim hk_ (fun hs_ => (HO58z.out.1 k_ (hs_).symm).1) (fun hn_ => (Nat.le_trans (below_size pB) hn_))))
    have n7_ := am (hb)
    clear HO0_1 HO1_1 BK2z BK7z BK14z HO42z HB HO58z
    have HO0_1 := n0_
    have HO1_1 := n1_
    have BK2z := n2_
    have BK7z := n3_
    have BK14z := n4_
    have HO42z := n5_
    have HO64z := n6_
    have HB := n7_
    clear n0_ n1_ n2_ n3_ n4_ n5_ n6_ n7_
    (try clear hb); (try clear hkp); (try clear ho57z)
    obtain ⟨Ao65z, co66z, eo67z⟩ := Kd.R_slice HO64z.out
    (first | subst eo67z | (injection eo67z with f1_ f2_ f3_; have f4_ := f1_.symm; have f5_ := f3_.symm; clear f1_ f2_ f3_; subst f4_; subst f5_))
    refine hK.out _ _ ⟨(blk_cell BK2z.out 0).trans rfl, (blk_cell BK2z.out 1).trans rfl, (blk_cell BK2z.out 2).trans rfl, (blk_cell BK7z.out 0).trans rfl, (blk_cell BK7z.out 1).trans rfl, (blk_cell BK7z.out 2).trans rfl⟩ (fun hHeld => ?_)
    clear hK K
    refine norm_ (a' := ?_) ?_ ?_
    rotate_left
    ·show Act.put _ (some 27) _ = _
     simp only [Act.put, List.setIfInBounds_toArray, List.set_cons_zero, List.set_cons_succ, i64_w, i32_w]
     rfl
    refine pu 18 (some 33) #[true, true, true, true, true, true, true, true, true, true, true, true, true, true, true, true, true, true, true, false, false, false, false, false, false] (h := ?_)
    refine pu 19 (some 34) #[true, true, true, true, true, true, true, true, true, true, true, true, true, true, true, true, true, true, true, true, false, false, false, false, false] (h := ?_)
    refine one_ (i := 20) (N := some 35) #[true, true, true, true, true, true, true, true, true, true, true, true, true, true, true, true, true, true, true, true, true, false, false, false, false] rfl rfl (one_of HT_.out (by kernel_rfl)) (by decide) (fun K hK => ?_)
    refine goes_ Tryz.func100 (by kernel_rfl) rfl #[.agg #[.bool (a0_0 != a1_0), .slice Ao65z t1743.length co66z, .int .i64 (wrap64 (a0_2 + a1_2))]] (by rfl) rfl rfl pA ?_
    with_reducible refine (dec_settle.calls k (a0_0 != a1_0) (fun k_ => some k_ = (.slice Ao65z t1743.length co66z : Value).ownBlock) (.slice Ao65z t1743.length co66z) t1743 (wrap64 (a0_2 + a1_2)) t1746 t1747 t1750 t1751 w _ ?side1 ?side2 A7.out).mono ?_
    (case side1 => exact pB)
    (case side2 => exact Kd.R_tight rfl HO64z.out)
    rintro e w68z ⟨v69z, rfl, ho57z, hb, hkp⟩
    refine ⟨_, rfl, ?_⟩
    have n0_ := am (Kd.V_mono (ok' := fun k_ => ((P0_1_ k_ \/ P1_1_ k_) \/ w.heap.size <= k_) /\ some k_ ≠ (.slice Ao43z y1735.length co44z : Value).ownBlock /\ k_ ≠ gb0z /\ k_ ≠ gb5z /\ k_ ≠ gb12z /\ some k_ ≠ (v69z : Value).ownBlock) (Kd.V_keptB (HO0_1.out) hkp (fun k_ hk_ hs_ => (hk_.2.2.2.2.2) hs_)) (fun k_ hk_ => ⟨hk_.1.1, hk_.1.2.1, hk_.1.2.2.1, hk_.1.2.2.2.1, hk_.1.2.2.2.2.1, fun e_ => Or.elim (ho57z.1 k_ e_.symm) (fun hs_ => hk_.2.1 hs_) (fun hn_ => Nat.not_le.2 hk_.2.2 hn_)⟩))
    have n1_ := am (Kd.V_mono (ok' := fun k_ => ((P0_1_ k_ \/ P1_1_ k_) \/ w.heap.size <= k_) /\ some k_ ≠ (.slice Ao43z y1735.length co44z : Value).ownBlock /\ k_ ≠ gb0z /\ k_ ≠ gb5z /\ k_ ≠ gb12z /\ some k_ ≠ (v69z : Value).ownBlock) (Kd.V_keptB (HO1_1.out) hkp (fun k_ hk_ hs_ => (hk_.2.2.2.2.2) hs_)) (fun k_ hk_ => ⟨hk_.1.1, hk_.1.2.1, hk_.1.2.2.1, hk_.1.2.2.2.1, hk_.1.2.2.2.2.1, fun e_ => Or.elim (ho57z.1 k_ e_.symm) (fun hs_ => hk_.2.1 hs_) (fun hn_ => Nat.not_le.2 hk_.2.2 hn_)⟩))
    have n2_ := am (blk_kept (blk_below BK2z.out pl) hkp (fun hs_ => (fun e_ => (Kd.R_ne HO64z.out BK2z.out (by decide)) e_) hs_))
    have n3_ := am (blk_kept (blk_below BK7z.out pl) hkp (fun hs_ => (fun e_ => (Kd.R_ne HO64z.out BK7z.out (by decide)) e_) hs_))
    have n4_ := am (blk_kept (blk_below BK14z.out pl) hkp (fun hs_ => (fun e_ => (Kd.R_ne HO64z.out BK14z.out (by decide)) e_) hs_))
    have n5_ := am (Kd.N_mono (ok' := fun k_ => ((P0_1_ k_ \/ P1_1_ k_) \/ w.heap.size <= k_) /\ k_ ≠ gb0z /\ k_ ≠ gb5z /\ k_ ≠ gb12z /\ some k_ ≠ (v69z : Value).ownBlock) (Kd.N_keptB (HO42z.out) hkp (fun k_ hk_ hs_ => (hk_.2.2.2.2) hs_)) (fun k_ hk_ => ⟨hk_.1.1, hk_.1.2.1, hk_.1.2.2.1, hk_.1.2.2.2.1, fun e_ => Or.elim (ho57z.1 k_ e_.symm) (fun hs_ => hk_.2.1 hs_) (fun hn_ => Nat.not_le.2 hk_.2.2 hn_)⟩))
    have n6_ := am (Kd.R_mono (ok' := fun k_ => (w.heap.size <= k_)) ho57z (fun k_ hk_ => Or.elim hk_ (fun hs_ => (HO64z.out.1 k_ (hs_).symm)) (fun hn_ => (Nat.le_trans (below_size pB) hn_))))
    have n7_ := am (hb)
    clear HO0_1 HO1_1 BK2z BK7z BK14z HO42z HB HO64z
    have HO0_1 := n0_
    have HO1_1 := n1_
    have BK2z := n2_
    have BK7z := n3_
    have BK14z := n4_
    have HO42z := n5_
    have HO70z := n6_
    have HB := n7_
    clear n0_ n1_ n2_ n3_ n4_ n5_ n6_ n7_
    (try clear hb); (try clear hkp); (try clear ho57z)
    obtain ⟨Ao71z, co72z, eo73z⟩ := Kd.R_slice HO70z.out
    (first | subst eo73z | (injection eo73z with f1_ f2_ f3_; have f4_ := f1_.symm; have f5_ := f3_.symm; clear f1_ f2_ f3_; subst f4_; subst f5_))
    refine hK.out _ _ ⟨(blk_cell BK2z.out 0).trans rfl, (blk_cell BK2z.out 1).trans rfl, (blk_cell BK2z.out 2).trans rfl, (blk_cell BK7z.out 0).trans rfl, (blk_cell BK7z.out 1).trans rfl, (blk_cell BK7z.out 2).trans rfl⟩ (fun hHeld => ?_)
    clear hK K
    refine norm_ (a' := ?_) ?_ ?_
    rotate_left
    ·show Act.put _ (some 35) _ = _
     simp only [Act.put, List.setIfInBounds_toArray, List.set_cons_zero, List.set_cons_succ, i64_w, i32_w]
     rfl
    refine pu 21 (some 36) #[true, true, true, true, true, true, true, true, true, true, true, true, true, true, true, true, true, true, true, true, true, true, false, false, false] (h := ?_)
    refine pu 22 (some 37) #[true, true, true, true, true, true, true, true, true, true, true, true, true, true, true, true, true, true, true, true, true, true, true, false, false] (h := ?_)
    refine one_ (i := 23) (N := none) #[true, true, true, true, true, true, true, true, true, true, true, true, true, true, true, true, true, true, true, true, true, true, true, true, false] rfl rfl (one_of HT_.out (by kernel_rfl)) (by decide) (fun K hK => ?_)
    have hs74z : w68z.cell? ⟨gb12z, 0, none⟩ = some (.bool false) := (blk_cell BK14z.out 0).trans rfl
    have hfs75z := blk_frozen BK14z.out 0
    have hns76z := NB17z.out
    have hns77z := NB19z.out
    have hms78z := NB18z.out
    have hms79z := NB20z.out
    have hs80z : w68z.cell? ⟨gb12z, 1, none⟩ = some (.slice none 0 0) := (blk_cell BK14z.out 1).trans rfl
    have hfs81z := blk_frozen BK14z.out 1
    have hns82z := NB17z.out
    have hns83z := NB19z.out
    have hms84z := NB18z.out
    have hms85z := NB20z.out
    have hs86z : w68z.cell? ⟨gb12z, 2, none⟩ = some (.int .i64 0) := (blk_cell BK14z.out 2).trans rfl
    have hfs87z := blk_frozen BK14z.out 2
    have hns88z := NB17z.out
    have hns89z := NB19z.out
    have hms90z := NB18z.out
    have hms91z := NB20z.out
    refine skip_ (w1 := ?_) (by rfl) rfl ?_ ?_
    rotate_left
    ·go_simp
     rfl
    refine hK.out _ _ ⟨((cell_far (p := ⟨gb12z, _, none⟩) NB17z.out _).trans (((cell_far (p := ⟨gb12z, _, none⟩) NB17z.out _).trans (((cell_far (p := ⟨gb12z, _, none⟩) NB17z.out _).trans (hHeld.1)))))), ((cell_far (p := ⟨gb12z, _, none⟩) NB17z.out _).trans (((cell_far (p := ⟨gb12z, _, none⟩) NB17z.out _).trans (((cell_far (p := ⟨gb12z, _, none⟩) NB17z.out _).trans (hHeld.2.1)))))), ((cell_far (p := ⟨gb12z, _, none⟩) NB17z.out _).trans (((cell_far (p := ⟨gb12z, _, none⟩) NB17z.out _).trans (((cell_far (p := ⟨gb12z, _, none⟩) NB17z.out _).trans (hHeld.2.2.1)))))), ((cell_far (p := ⟨gb12z, _, none⟩) NB19z.out _).trans (((cell_far (p := ⟨gb12z, _, none⟩) NB19z.out _).trans (((cell_far (p := ⟨gb12z, _, none⟩) NB19z.out _).trans (hHeld.2.2.2.1)))))), ((cell_far (p := ⟨gb12z, _, none⟩) NB19z.out _).trans (((cell_far (p := ⟨gb12z, _, none⟩) NB19z.out _).trans (((cell_far (p := ⟨gb12z, _, none⟩) NB19z.out _).trans (hHeld.2.2.2.2.1)))))), ((cell_far (p := ⟨gb12z, _, none⟩) NB19z.out _).trans (((cell_far (p := ⟨gb12z, _, none⟩) NB19z.out _).trans (((cell_far (p := ⟨gb12z, _, none⟩) NB19z.out _).trans (hHeld.2.2.2.2.2))))))⟩ (fun hHeld => ?_)
    clear hK K
    refine pu 24 (some 5) #[true, true, true, true, true, true, true, true, true, true, true, true, true, true, true, true, true, true, true, true, true, true, true, true, true] (h := ?_)
    refine done_ (done_of HT_.out (by kernel_rfl)) ?_
    try go_wp2
    refine bodyPost_ret (results_ct rfl _ _ gb12z 24 #[.bool t1746, .slice Ao71z t1747.length co72z, .int .i64 t1750] (0, 0) _ rfl (by refine bp ?_; refine blk_put (cs := #[.bool t1746, .slice Ao71z t1747.length co72z, .int .i64 0]) ?_ 2 _ rfl; refine bp ?_; refine blk_put (cs := #[.bool t1746, .slice none 0 0, .int .i64 0]) ?_ 1 _ rfl; refine bp ?_; refine blk_put (cs := #[.bool false, .slice none 0 0, .int .i64 0]) ?_ 0 _ rfl; exact bp BK14z.out) Tryz.underlying24 rfl (by kernel_rfl)) rfl ?_
    exact ⟨_, pE, by refine rp ?_; exact Kd.R_mono (Kd.R_far (p := ⟨gb12z, 2, none⟩) (Kd.R_far (p := ⟨gb12z, 1, none⟩) (Kd.R_far (p := ⟨gb12z, 0, none⟩) (Kd.R_types HO70z.out BK14z.out (by decide)) (fun _ hk => hk.2) (.bool t1746)) (fun _ hk => hk.2) (.slice Ao71z t1747.length co72z)) (fun _ hk => hk.2) (.int .i64 t1750)) (fun _ hk => hk.1), pB⟩
  | refine bodyPost_ret (results_ct rfl _ _ gb12z 24 #[.bool false, .slice none 0 0, .int .i64 0] (0, 0) _ rfl (by refine bp ?_; refine blk_put (cs := #[.bool false, .slice none 0 0, .int .i64 0]) ?_ 2 _ rfl; refine bp ?_; refine blk_put (cs := #[.bool false, .slice none 0 0, .int .i64 0]) ?_ 1 _ rfl; refine bp ?_; refine blk_put (cs := #[.bool false, .slice none 0 0, .int .i64 0]) ?_ 0 _ rfl; exact bp BK14z.out) Tryz.underlying24 rfl (by kernel_rfl)) rfl ?_
    exact ⟨_, pE, by first | exact Kd.R_nil _ _ _ _ _ | exact Kd.N_nil _ _ _ _ _ | exact Kd.V_nil _ _ _ _ _ | exact Kd.Q_nil _ _ _ _ _ | exact Kd.S_nil _ _ _ _ _, pB⟩) : P := h
theorem dec_Mul.calls (k : Nat) (a0_0 : Bool) (P0_1_ : Nat -> Prop) (A0_1 : Option Addr) (c0_1 : Nat) (l0_1 : List Int) (a0_2 : Int) (a1_0 : Bool) (P1_1_ : Nat -> Prop) (A1_1 : Option Addr) (c1_1 : Nat) (l1_1 : List Int) (a1_2 : Int) (r1 : Bool) (r2 : List Int) (r3 : Int) (r4 : Int) (w : World) (hs0_1 : Kd.V (Kd.int .u32) 85 w w.heap.size (fun k_ => P0_1_ k_) (.slice A0_1 l0_1.length c0_1) l0_1) (hs1_1 : Kd.V (Kd.int .u32) 85 w w.heap.size (fun k_ => P1_1_ k_) (.slice A1_1 l1_1.length c1_1) l1_1) (h : dec_Mul.f k a0_0 l0_1 a0_2 a1_0 l1_1 a1_2 = some (r1, r2, r3, r4)) :
  Calls Tryz.prog 49 #[.agg #[.bool a0_0, .slice A0_1 l0_1.length c0_1, .int .i64 a0_2], .agg #[.bool a1_0, .slice A1_1 l1_1.length c1_1, .int .i64 a1_2]] w fun e w' => ∃ v1_ : Value, e = .returned (.tuple #[.agg #[.bool r1, v1_, .int .i64 r3], .int .i64 r4]) /\ Kd.R (Kd.int .u32) 85 w' w.heap.size (fun k_ => (w.heap.size <= k_)) v1_ r2 /\ Below w.heap.size w w' := by
 have hu24 := Tryz.underlying24
 have hu106 := Tryz.underlying106
 have HO0_1 := am (show Kd.V (Kd.int .u32) 85 w w.heap.size (fun k_ => ((P0_1_ k_ \/ P1_1_ k_) \/ w.heap.size <= k_)) (.slice A0_1 l0_1.length c0_1) l0_1 from Kd.V_mono hs0_1 (fun k_ hk => .inl (.inl hk)))
 have HO1_1 := am (show Kd.V (Kd.int .u32) 85 w w.heap.size (fun k_ => ((P0_1_ k_ \/ P1_1_ k_) \/ w.heap.size <= k_)) (.slice A1_1 l1_1.length c1_1) l1_1 from Kd.V_mono hs1_1 (fun k_ hk => .inl (.inr hk)))
 have HB := am (Below.refl w.heap.size w)
 have H : ((dec_ask.f k (([(⟨a0_0, l0_1, a0_2⟩ : S24), (⟨a1_0, l1_1, a1_2⟩ : S24)] : List (S24)))).bind fun t1738 => (if t1738 = 0 then ((nat_Mul.f k l0_1 l1_1).bind fun bt1739 => ((dec_must.f bt1739.1 bt1739.2).bind fun t1743 => ((dec_settle.f k (a0_0 != a1_0) t1743 (wrap64 (a0_2 + a1_2))).bind fun bt1746 => (some (bt1746.1, bt1746.2.1, bt1746.2.2.1, bt1746.2.2.2))))) else (some (false, ([] : List Int), 0, t1738)))) = some (r1, r2, r3, r4) := h
 clear h
 obtain ⟨y1735, hy1735⟩ : ∃ y_ : List (S24), y_ = (([(⟨a0_0, l0_1, a0_2⟩ : S24), (⟨a1_0, l1_1, a1_2⟩ : S24)] : List (S24))) := ⟨_, rfl⟩
 replace H : ((dec_ask.f k y1735).bind fun t1738 => (if t1738 = 0 then ((nat_Mul.f k l0_1 l1_1).bind fun bt1739 => ((dec_must.f bt1739.1 bt1739.2).bind fun t1743 => ((dec_settle.f k (a0_0 != a1_0) t1743 (wrap64 (a0_2 + a1_2))).bind fun bt1746 => (some (bt1746.1, bt1746.2.1, bt1746.2.2.1, bt1746.2.2.2))))) else (some (false, ([] : List Int), 0, t1738)))) = some (r1, r2, r3, r4) := by first | (rw [hy1735]; with_reducible exact H) | (have H2_ := (Option.bind_some _ _).symm.trans H; rw [hy1735]; with_reducible exact H2_) | (have H2_ := (Option.bind_some _ _).symm.trans H; with_reducible exact H2_) | with_reducible exact H | (rw [hy1735]; exact H) | exact H
 have Ny1735 := am hy1735
 clear hy1735
 obtain ⟨t1738, A3, H⟩ := ob H
 by_cases c4 : t1738 = 0
 ·rw [if_pos c4] at H
  have c4b0 : (t1738 == 0) = true := beq_iff_eq.mpr c4
  have c4b1 : (t1738 != 0) = false := bne_eq_false_iff_eq.mpr c4
  clear c4
  obtain ⟨⟨t1739, t1740⟩, A5, H⟩ := ob H; (try dsimp only at H)
  obtain ⟨t1743, A6, H⟩ := ob H
  obtain ⟨⟨t1746, t1747, t1750, t1751⟩, A7, H⟩ := ob H; (try dsimp only at H)
  simp only [Option.some.injEq, Prod.mk.injEq] at H
  obtain ⟨rfl, rfl, rfl, rfl⟩ := H
  exact dec_Mul.leaf
 ·rw [if_neg c4] at H
  have c4b0 : (t1738 == 0) = false := beq_eq_false_iff_ne.mpr c4
  have c4b1 : (t1738 != 0) = true := bne_iff_ne.mpr c4
  simp only [Option.some.injEq, Prod.mk.injEq] at H
  obtain ⟨rfl, rfl, rfl, rfl⟩ := H
  exact dec_Mul.leaf
def dec_Int.f (k : Nat) (a0 : Int) : Option (Bool × List Int × Int) := if a0 < 0 then ((nat_From.f k (IntKind.u64.wrap (-(IntKind.u64.wrap (a0))))).bind fun t1819 => ((dec_settle.f k (decide (a0 < 0)) t1819 0).bind fun bt1822 => (some (bt1822.1, bt1822.2.1, bt1822.2.2.1)))) else ((nat_From.f k (IntKind.u64.wrap (a0))).bind fun t1829 => ((dec_settle.f k (decide (a0 < 0)) t1829 0).bind fun bt1832 => (some (bt1832.1, bt1832.2.1, bt1832.2.2.1))))
theorem dec_Int.leaf {P : Prop} (h : P := by
 go_enter Tryz.func51, Tryz.ntmps51
 go_wp2_with (first | ((with_reducible refine gate_dst (N := 2) rfl ?_); refine box_event ?hg (N := 2) ?hd (cs := #[.bool false, .slice none 0 0, .int .i64 0]) (t := 24) ?hr ?_; (case hd => rfl); (case hg => rfl); (case hr => first | (go_simp; done) | (go_simp; rfl)); intro gb0z hg w1z hbox hb; have n0_ := am (below_step pB hb); have n1_ := am (hbox); have n2_ := am ((gw hg pB : w.heap.size <= gb0z)); have n3_ := am ((gw hg pB : w.heap.size <= gb0z)); clear HB; have HB := n0_; have BK2z := n1_; have GW3z := n2_; have GE4z := n3_; clear n0_ n1_ n2_ n3_ hb hbox hg) | (refine gL (some 16) Tryz.func76 #[.int .u64 (IntKind.u64.wrap (-(IntKind.u64.wrap (a0))))] (h := ?_); (with_reducible refine (nat_From.calls k (IntKind.u64.wrap (-(IntKind.u64.wrap (a0)))) t1819 _ A3.out).mono ?_); rintro e w5z ⟨v6z, rfl, ho7z, hb⟩; refine ⟨_, rfl, ?_⟩; have HO8z := am (Kd.R_lower ho7z (below_size pB)); replace BK2z := am (blk_below (blk_below BK2z.out pl) hb); replace HB := am (below_step pB hb); (try clear hb); (try clear hb9z); (try clear hk); (try clear hi); (try clear ho7z); obtain ⟨Ao10z, co11z, eo12z⟩ := Kd.R_slice HO8z.out; subst eo12z) | (refine gL (some 19) Tryz.func100 #[.agg #[.bool true, .slice Ao10z t1819.length co11z, .int .i64 0]] (h := ?_); (with_reducible refine (dec_settle.calls k true (fun k_ => some k_ = (.slice Ao10z t1819.length co11z : Value).ownBlock) (.slice Ao10z t1819.length co11z) t1819 0 t1822 t1823 t1826 t1827 w _ ?side1 ?side2 A4.out).mono ?_); (case side1 => exact pB); (case side2 => exact Kd.R_tight rfl HO8z.out); rintro e w13z ⟨v14z, rfl, ho7z, hb, hkp⟩; refine ⟨_, rfl, ?_⟩; have n0_ := am (blk_kept (blk_below BK2z.out pl) hkp (fun hs_ => (fun e_ => (Kd.R_ne HO8z.out BK2z.out (by decide)) e_) hs_)); have n1_ := am (Kd.R_mono (ok' := fun k_ => True) ho7z (fun k_ hk_ => trivial)); have n2_ := am (hb); clear BK2z HB HO8z; have BK2z := n0_; have HO15z := n1_; have HB := n2_; clear n0_ n1_ n2_; (try clear hb); (try clear hkp); (try clear ho7z)) | ((with_reducible refine gate_dst (N := 4) rfl ?_); refine box_event ?hg (N := 4) ?hd (cs := #[.bool false, .slice none 0 0, .int .i64 0]) (t := 24) ?hr ?_; (case hd => rfl); (case hg => rfl); (case hr => first | (go_simp; done) | (go_simp; rfl)); intro gb16z hg w17z hbox hb; have n0_ := am (Kd.R_below (Kd.R_below HO15z.out pl) hb); have n1_ := am (blk_below (blk_below BK2z.out pl) hb); have n2_ := am (below_step pB hb); have n3_ := am (hbox); have n4_ := am ((gw hg pB : w.heap.size <= gb16z)); have n5_ := am ((gw hg pB : w.heap.size <= gb16z)); have n6_ := am ((nl hg (blk_below BK2z.out pl) : gb0z ≠ gb16z)); have n7_ := am ((ng hg (blk_below BK2z.out pl) : gb16z ≠ gb0z)); clear HO15z BK2z HB; have HO15z := n0_; have BK2z := n1_; have HB := n2_; have BK18z := n3_; have GW19z := n4_; have GE20z := n5_; have NB21z := n6_; have NB22z := n7_; clear n0_ n1_ n2_ n3_ n4_ n5_ n6_ n7_ hb hbox hg; have hnb23z := NB22z.out; have hnc24z := NB21z.out; obtain ⟨hcz25z, hcz26z, hcz27z, hfz28z, hfz29z, hfz30z⟩ := cEc BK18z.out; obtain ⟨Ao31z, co32z, eo33z⟩ := Kd.R_slice HO15z.out; subst eo33z; obtain ⟨hcz34z, hcz35z, hcz36z, hfz37z, hfz38z, hfz39z⟩ := cEc BK2z.out) | (refine gL (some 16) Tryz.func76 #[.int .u64 (IntKind.u64.wrap (a0))] (h := ?_); (with_reducible refine (nat_From.calls k (IntKind.u64.wrap (a0)) t1829 _ A14.out).mono ?_); rintro e w5z ⟨v6z, rfl, ho7z, hb⟩; refine ⟨_, rfl, ?_⟩; have HO8z := am (Kd.R_lower ho7z (below_size pB)); replace BK2z := am (blk_below (blk_below BK2z.out pl) hb); replace HB := am (below_step pB hb); (try clear hb); (try clear hb9z); (try clear hk); (try clear hi); (try clear ho7z); obtain ⟨Ao10z, co11z, eo12z⟩ := Kd.R_slice HO8z.out; subst eo12z) | (refine gL (some 19) Tryz.func100 #[.agg #[.bool false, .slice Ao10z t1829.length co11z, .int .i64 0]] (h := ?_); (with_reducible refine (dec_settle.calls k false (fun k_ => some k_ = (.slice Ao10z t1829.length co11z : Value).ownBlock) (.slice Ao10z t1829.length co11z) t1829 0 t1832 t1833 t1836 t1837 w _ ?side1 ?side2 A15.out).mono ?_); (case side1 => exact pB); (case side2 => exact Kd.R_tight rfl HO8z.out); rintro e w13z ⟨v14z, rfl, ho7z, hb, hkp⟩; refine ⟨_, rfl, ?_⟩; have n0_ := am (blk_kept (blk_below BK2z.out pl) hkp (fun hs_ => (fun e_ => (Kd.R_ne HO8z.out BK2z.out (by decide)) e_) hs_)); have n1_ := am (Kd.R_mono (ok' := fun k_ => True) ho7z (fun k_ hk_ => trivial)); have n2_ := am (hb); clear BK2z HB HO8z; have BK2z := n0_; have HO15z := n1_; have HB := n2_; clear n0_ n1_ n2_; (try clear hb); (try clear hkp); (try clear ho7z)))
 first
  | have q_ := A4
    refine bodyPost_ret (results_cell_row rfl _ _ gb0z 24 #[.bool t1822, .slice Ao31z t1823.length co32z, .int .i64 t1826] (0, 0) _ rfl (by refine bp ?_; refine blk_put (cs := #[.bool t1822, .slice Ao31z t1823.length co32z, .int .i64 0]) ?_ 2 _ rfl; refine bp ?_; refine blk_put (cs := #[.bool t1822, .slice none 0 0, .int .i64 0]) ?_ 1 _ rfl; refine bp ?_; refine blk_put (cs := #[.bool false, .slice none 0 0, .int .i64 0]) ?_ 0 _ rfl; refine bp ?_; refine blk_far ?_ NB21z.out _; refine bp ?_; refine blk_far ?_ NB21z.out _; refine bp ?_; refine blk_far ?_ NB21z.out _; exact bp BK2z.out) Tryz.underlying24 rfl (by kernel_rfl)) rfl ?_
    exact ⟨_, pE, by refine rp ?_; exact Kd.R_mono (Kd.R_far (p := ⟨gb0z, 2, none⟩) (Kd.R_far (p := ⟨gb0z, 1, none⟩) (Kd.R_far (p := ⟨gb0z, 0, none⟩) (Kd.R_far (p := ⟨gb16z, 2, none⟩) (Kd.R_far (p := ⟨gb16z, 1, none⟩) (Kd.R_far (p := ⟨gb16z, 0, none⟩) (Kd.R_types (Kd.R_types HO15z.out BK18z.out (by decide)) BK2z.out (by decide)) (fun _ hk => hk.1.2) (.bool t1822)) (fun _ hk => hk.1.2) (.slice Ao31z t1823.length co32z)) (fun _ hk => hk.1.2) (.int .i64 t1826)) (fun _ hk => hk.2) (.bool t1822)) (fun _ hk => hk.2) (.slice Ao31z t1823.length co32z)) (fun _ hk => hk.2) (.int .i64 t1826)) (fun _ hk => trivial), pB⟩
  | refine bodyPost_ret (results_cell_row rfl _ _ gb0z 24 #[.bool t1832, .slice Ao31z t1833.length co32z, .int .i64 t1836] (0, 0) _ rfl (by refine bp ?_; refine blk_put (cs := #[.bool t1832, .slice Ao31z t1833.length co32z, .int .i64 0]) ?_ 2 _ rfl; refine bp ?_; refine blk_put (cs := #[.bool t1832, .slice none 0 0, .int .i64 0]) ?_ 1 _ rfl; refine bp ?_; refine blk_put (cs := #[.bool false, .slice none 0 0, .int .i64 0]) ?_ 0 _ rfl; refine bp ?_; refine blk_far ?_ NB21z.out _; refine bp ?_; refine blk_far ?_ NB21z.out _; refine bp ?_; refine blk_far ?_ NB21z.out _; exact bp BK2z.out) Tryz.underlying24 rfl (by kernel_rfl)) rfl ?_
    exact ⟨_, pE, by refine rp ?_; exact Kd.R_mono (Kd.R_far (p := ⟨gb0z, 2, none⟩) (Kd.R_far (p := ⟨gb0z, 1, none⟩) (Kd.R_far (p := ⟨gb0z, 0, none⟩) (Kd.R_far (p := ⟨gb16z, 2, none⟩) (Kd.R_far (p := ⟨gb16z, 1, none⟩) (Kd.R_far (p := ⟨gb16z, 0, none⟩) (Kd.R_types (Kd.R_types HO15z.out BK18z.out (by decide)) BK2z.out (by decide)) (fun _ hk => hk.1.2) (.bool t1832)) (fun _ hk => hk.1.2) (.slice Ao31z t1833.length co32z)) (fun _ hk => hk.1.2) (.int .i64 t1836)) (fun _ hk => hk.2) (.bool t1832)) (fun _ hk => hk.2) (.slice Ao31z t1833.length co32z)) (fun _ hk => hk.2) (.int .i64 t1836)) (fun _ hk => trivial), pB⟩) : P := h
theorem dec_Int.calls (k : Nat) (a0 : Int) (r1 : Bool) (r2 : List Int) (r3 : Int) (w : World) (h : dec_Int.f k a0 = some (r1, r2, r3)) :
  Calls Tryz.prog 51 #[.int .i64 a0] w fun e w' => ∃ v1_ : Value, e = .returned (.agg #[.bool r1, v1_, .int .i64 r3]) /\ Kd.R (Kd.int .u32) 85 w' w.heap.size (fun _ => True) v1_ r2 /\ Below w.heap.size w w' := by
 have hu24 := Tryz.underlying24
 have hu106 := Tryz.underlying106
 have HB := am (Below.refl w.heap.size w)
 have H : (if a0 < 0 then ((nat_From.f k (IntKind.u64.wrap (-(IntKind.u64.wrap (a0))))).bind fun t1819 => ((dec_settle.f k (decide (a0 < 0)) t1819 0).bind fun bt1822 => (some (bt1822.1, bt1822.2.1, bt1822.2.2.1)))) else ((nat_From.f k (IntKind.u64.wrap (a0))).bind fun t1829 => ((dec_settle.f k (decide (a0 < 0)) t1829 0).bind fun bt1832 => (some (bt1832.1, bt1832.2.1, bt1832.2.2.1))))) = some (r1, r2, r3) := h
 clear h
 by_cases c2 : a0 < 0
 ·rw [if_pos c2] at H
  have c2b0 : decide (a0 < 0) = true := decide_eq_true c2
  clear c2
  replace H := Option.bind_eq_some_iff.mp H
  obtain ⟨t1819, A30, H⟩ := H
  (try dsimp only at H)
  rw [c2b0] at H
  have A3 := am A30
  clear A30
  obtain ⟨⟨t1822, t1823, t1826, t1827⟩, A4, H⟩ := ob H; (try dsimp only at H)
  simp only [Option.some.injEq, Prod.mk.injEq] at H
  obtain ⟨rfl, rfl, rfl⟩ := H
  exact dec_Int.leaf
 ·rw [if_neg c2] at H
  have c2b0 : decide (a0 < 0) = false := decide_eq_false c2
  clear c2
  replace H := Option.bind_eq_some_iff.mp H
  obtain ⟨t1829, A140, H⟩ := H
  (try dsimp only at H)
  rw [c2b0] at H
  have A14 := am A140
  clear A140
  obtain ⟨⟨t1832, t1833, t1836, t1837⟩, A15, H⟩ := ob H; (try dsimp only at H)
  simp only [Option.some.injEq, Prod.mk.injEq] at H
  obtain ⟨rfl, rfl, rfl⟩ := H
  exact dec_Int.leaf
end YtjbjkmccfocikaaGreatDoor.B
end
section
namespace YtjbjkmccfocikaaGreatDoor.P
open Go.RowKit YtjbjkmccfocikaaGreatDoor.B YtjbjkmccfocikaaGreatDoorW.PrintWords YtjbjkmccfocikaaGreatDoorW.PrintLast YtjbjkmccfocikaaGreatDoorW.PrintMore YtjbjkmccfocikaaGreatDoor.P.Nm
def chr (d : Int) : UInt8 := UInt8.ofNat (48 + d.toNat)
theorem decT_list {n : Nat} (h : n ≠ 0) : (decT n).data.toList = (digs n).reverse.map chr := by
 unfold decT; rw [if_neg h]; rfl
theorem chr_nat {d : Int} (h0 : 0 <= d) (h1 : d < 10) : (chr d).toNat = 48 + d.toNat := by
 unfold chr; simp; omega
theorem decT_size (n : Nat) : (decT n).size = if n = 0 then 1 else nd n := by
 by_cases h : n = 0
 ·subst h; rfl
 ·rw [if_neg h]
  show (decT n).data.size = _
  rw [<- Array.length_toList, decT_list h]; simp [nd]
theorem mk_list {b : ByteArray} {l : List UInt8} (h : b.data.toList = l) : b = ⟨l.toArray⟩ := by
 cases b with | mk d => subst h; rfl
theorem trim_decT {n : Nat} (h : n ≠ 0) : (⟨(Lib.trimRightB (decT n).data.toList 48).toArray⟩ : ByteArray) = decT (core n) := by
 obtain ⟨h1, h2⟩ := tz_is h
 have hc := core_ne h
 symm
 refine mk_list ?_
 rw [decT_list hc, decT_list h]
 unfold Lib.trimRightB
 rw [<- List.map_reverse, List.reverse_reverse]
 have hd : digs n = List.replicate (tz n) 0 ++ digs (core n) := by
  conv => lhs; rw [h1]
  exact digs_shift hc _
 rw [hd, List.map_append, List.map_replicate, digs_step hc, List.map_cons]
 have e0 : chr 0 = 48 := rfl
 have e1 : (chr ((core n % 10 : Nat) : Int) == 48) = false := by
  refine beq_eq_false_iff_ne.2 (fun q => ?_)
  have := congrArg UInt8.toNat q
  rw [chr_nat (by omega) (by omega)] at this
  have e48 : (48 : UInt8).toNat = 48 := rfl
  rw [e48] at this
  omega
 have drop : ∀ k (l : List UInt8), (List.replicate k (48 : UInt8) ++ l).dropWhile (· == 48) = l.dropWhile (· == 48) := fun k l => by
  induction k with
  | zero => rfl
  | succ k ih => rw [List.replicate_succ, List.cons_append, List.dropWhile_cons_of_pos (by rfl), ih]
 rw [e0, drop, List.dropWhile_cons_of_neg (by rw [e1]; simp), List.map_reverse, List.map_cons]
theorem numT_decT (n : Nat) : numT (decT n) = n := by
 by_cases h : n = 0
 ·subst h; rfl
 ·unfold numT
  rw [decT_list h]
  have key : ∀ l : List Int, Dg 10 l -> (((l.reverse.map chr).foldl (fun n c => n * 10 + (c.toNat - 48)) 0 : Nat) : Int) = val 10 l := fun l => by
   induction l with
   | nil => intro _; rfl
   | cons x l ih =>
    intro hd
    have hx := hd.head
    rw [List.reverse_cons, List.map_append, List.foldl_append, List.map_cons, List.map_nil, List.foldl_cons, List.foldl_nil, chr_nat hx.1 hx.2, val_cons, <- ih hd.tail]
    omega
  have := key (digs n) (digs_dg n)
  rw [digs_val] at this
  exact_mod_cast this
theorem decT_dig (n : Nat) : (decT n).data.toList.all isDig = true := by
 by_cases h : n = 0
 ·subst h; rfl
 ·rw [decT_list h, List.all_eq_true]
  intro c hc
  obtain ⟨d, hd, rfl⟩ := List.mem_map.1 hc
  have hx := digs_dg n d (List.mem_reverse.1 hd)
  unfold isDig
  rw [chr_nat hx.1 hx.2]
  simp; omega
theorem ext_list (s : ByteArray) (a b : Nat) : (s.extract a b).data.toList = (s.data.toList.drop a).take (b - a) := by
 rw [ByteArray.data_extract, Array.toList_extract]
def numF (v : Nat) (l : List UInt8) : Nat := l.foldl (fun n c => n * 10 + (c.toNat - 48)) v
theorem numF_nil (v : Nat) : numF v [] = v := rfl
theorem numF_cons (v : Nat) (c : UInt8) (l : List UInt8) : numF v (c :: l) = numF (v * 10 + (c.toNat - 48)) l := by unfold numF; rw [List.foldl_cons]
theorem numF_app (v : Nat) (l m : List UInt8) : numF v (l ++ m) = numF (numF v l) m := by unfold numF; rw [List.foldl_append]
theorem numF_lin : ∀ (l : List UInt8) (v : Nat), numF v l = v * 10 ^ l.length + numF 0 l
 | [], v => by simp [numF]
 | c :: l, v => by
  rw [numF_cons, numF_cons, numF_lin l (v * 10 + _), numF_lin l (0 * 10 + _), List.length_cons, Nat.pow_succ, Nat.add_mul, Nat.zero_mul, Nat.zero_add, Nat.mul_assoc v 10, Nat.mul_comm 10]
  omega
theorem isDig_iff {c : UInt8} : isDig c = true ↔ 48 <= c.toNat /\ c.toNat <= 57 := by unfold isDig; simp
theorem numF_lt : ∀ (l : List UInt8), l.all isDig = true -> numF 0 l < 10 ^ l.length
 | [], _ => by simp [numF]
 | c :: l, h => by
  rw [List.all_cons, Bool.and_eq_true] at h
  have h1 := numF_lt l h.2
  have h2 := isDig_iff.1 h.1
  rw [numF_cons, numF_lin, List.length_cons, Nat.pow_succ]
  have := Nat.mul_le_mul_right (10 ^ l.length) (show 0 * 10 + (c.toNat - 48) <= 9 by omega)
  omega
theorem conv_f (s : ByteArray) (h : s.size <= 9223372036854775807) : conv_bytes146.f s = some (bytesOf s) := by unfold conv_bytes146.f; rw [if_pos h]
theorem bytesOf_getD (s : ByteArray) (i : Nat) (c : UInt8) (r : List UInt8) (h : s.data.toList.drop i = c :: r) : (bytesOf s).getD i 0 = (c.toNat : Int) := by
 unfold bytesOf
 have h2 : s.data.toList[i]? = some c := by
  have := List.getElem?_drop (xs := s.data.toList) (i := i) (j := 0)
  rw [h] at this
  simpa using this.symm
 rw [List.getD, List.getElem?_map, h2]; rfl
theorem piece_l0 (s : ByteArray) (hs : s.data.toList.all isDig = true) (hl : s.data.toList.length <= 9) : ∀ (r : List UInt8) (i v : Nat), s.data.toList.drop i = r -> i <= s.data.toList.length -> v < 10 ^ i -> Tells (fun k => nat_piece.l0 k (v : Int) (bytesOf s) ((bytesOf s).length : Int) (i : Int)) (numF v r : Int)
 | [], i, v, hr, hi, hv => by
  have hlen : (bytesOf s).length = s.data.toList.length := by unfold bytesOf; rw [List.length_map]
  have hge : s.data.toList.length <= i := List.drop_eq_nil_iff.1 hr
  refine Tells.succ ?_
  simp only [nat_piece.l0]
  exact Tells.ifn (by omega) (Tells.pure _)
 | c :: r, i, v, hr, hi, hv => by
  have hlen : (bytesOf s).length = s.data.toList.length := by unfold bytesOf; rw [List.length_map]
  have hlt : i < s.data.toList.length := by
   have := congrArg List.length hr
   rw [List.length_drop, List.length_cons] at this
   omega
  have hc : isDig c = true := List.all_eq_true.1 hs c (List.mem_of_mem_drop (by rw [hr]; exact List.mem_cons_self))
  have hc2 := isDig_iff.1 hc
  have hv9 : v < 100000000 := Nat.lt_of_lt_of_le hv (Nat.le_trans (Nat.pow_le_pow_right (by omega) (show i <= 8 by omega)) (by decide))
  have ih := piece_l0 s hs hl r (i + 1) (v * 10 + (c.toNat - 48)) (by rw [<- List.drop_drop, hr]; rfl) (by omega) (by rw [Nat.pow_succ]; omega)
  have c1 : (i : Int) < ((bytesOf s).length : Int) := by omega
  have c2 : (0 : Int) <= (i : Int) := by omega
  have e1 : (((v : Int) * 10) % 4294967296 + (((c.toNat : Int) - 48) % 256)) % 4294967296 = ((v * 10 + (c.toNat - 48) : Nat) : Int) := by omega
  refine Tells.succ ?_
  simp only [nat_piece.l0]
  rw [rd_n, bytesOf_getD s i c r hr, e1, w64s (by omega)]
  exact Tells.ifp c1 (Tells.ifp c2 (Tells.ifp c1 ih))
theorem piece_tells (s : ByteArray) (hs : s.data.toList.all isDig = true) (hl : s.data.toList.length <= 9) : Tells (fun k => nat_piece.f k s) (numF 0 s.data.toList : Int) := by
 unfold nat_piece.f
 have hsz : s.size = s.data.toList.length := by rw [Array.length_toList]; rfl
 rw [conv_f s (by omega)]
 exact (Tells.pure _).bind (piece_l0 s hs hl s.data.toList 0 0 rfl (by omega) (by simp))
theorem limbs_billion : ([1000000000] : List Int) = limbs 1000000000 := by decide +kernel
theorem trim_one (n : Nat) (h : n < 4294967296) : Tells (fun k => nat_num_trim.f k [(n : Int)]) (limbs n) :=
 trim_limbs (Dg.one (by omega) (by omega)) (by rw [val_one]) (by simp)
theorem all_drop {l : List UInt8} (h : l.all isDig = true) (n : Nat) : (l.drop n).all isDig = true := List.all_eq_true.2 fun x hx => List.all_eq_true.1 h x (List.mem_of_mem_drop hx)
theorem all_take {l : List UInt8} (h : l.all isDig = true) (n : Nat) : (l.take n).all isDig = true := List.all_eq_true.2 fun x hx => List.all_eq_true.1 h x (List.mem_of_mem_take hx)
theorem Parse_l0 : ∀ (f : Nat) (s : ByteArray) (v : Nat), s.data.toList.length <= f -> s.data.toList.all isDig = true -> (v = 0 \/ s.data.toList.length % 9 = 0) -> nd v + s.data.toList.length <= 100000 ->
  Tells (fun k => nat_Parse.l0 k s (limbs v)) (limbs (numF v s.data.toList), 0)
 | f, s, v, hf, hs, hv, hl => by
  have hsz : s.size = s.data.toList.length := by rw [Array.length_toList]; rfl
  by_cases h0 : s.data.toList = []
  ·refine Tells.succ ?_
   simp only [nat_Parse.l0]
   refine Tells.ifp (by rw [<- h0]; exact (Lib.toList_data s)) ((Tells.pure _).val ?_)
   rw [h0, numF_nil]
  ·have hpos : 0 < s.data.toList.length := List.length_pos_iff.2 h0
   obtain ⟨f, rfl⟩ : ∃ g, f = g + 1 := ⟨f - 1, by omega⟩
   obtain ⟨n, hn⟩ : ∃ n, (s.data.toList.length - 1) % 9 + 1 = n := ⟨_, rfl⟩
   have hn9 : n <= 9 := by omega
   have hnl : n <= s.data.toList.length := by omega
   have hT : (s.extract 0 n).data.toList = s.data.toList.take n := by rw [ext_list]; simp
   have hD : (s.extract n s.size).data.toList = s.data.toList.drop n := by
    rw [ext_list, hsz, List.take_of_length_le (by rw [List.length_drop]; omega)]
   have hp := piece_tells (s.extract 0 n) (by rw [hT]; exact all_take hs n) (by rw [hT, List.length_take]; omega)
   rw [hT] at hp
   have hpl := numF_lt (s.data.toList.take n) (all_take hs n)
   obtain ⟨p, hpp⟩ : ∃ p, numF 0 (s.data.toList.take n) = p := ⟨_, rfl⟩
   rw [hpp] at hp hpl
   rw [List.length_take, Nat.min_eq_left hnl] at hpl
   have hp9 : p < 1000000000 := Nat.lt_of_lt_of_le hpl (Nat.le_trans (Nat.pow_le_pow_right (by omega) hn9) (by decide))
   have hv2 : v * 1000000000 + p = numF v (s.data.toList.take n) := by
    rw [numF_lin, hpp, List.length_take, Nat.min_eq_left hnl]
    rcases hv with h | h
    ·rw [h]; simp
    ·rw [show n = 9 by omega]
   have hndv : nd (v * 1000000000 + p) <= nd v + 9 := by
    refine nd_le ?_
    have := nd_lt v
    rw [Nat.pow_add]
    have h9 : (10 : Nat) ^ 9 = 1000000000 := by decide
    rw [h9]
    have := Nat.mul_le_mul_right 1000000000 (show v + 1 <= 10 ^ nd v by omega)
    omega
   have hv0 : v = 0 -> nd (v * 1000000000 + p) <= n := fun e => by
    subst e
    rw [Nat.zero_mul, Nat.zero_add]
    exact nd_le hpl
   have hndb : nd 1000000000 <= 10 := nd_le (by decide)
   have hndp : nd p <= 9 := nd_le hp9
   have hm := mul_limbs (m := v) (n := 1000000000) (by omega) (by omega)
   have ha := add_limbs (m := v * 1000000000) (n := p) (Nat.le_trans (nd_mono (Nat.le_add_right _ p)) (by omega)) (by omega)
   have ih := Parse_l0 f (s.extract n s.size) (v * 1000000000 + p) (by rw [hD, List.length_drop]; omega) (by rw [hD]; exact all_drop hs n) (.inr (by rw [hD, List.length_drop]; omega)) (by
    rw [hD, List.length_drop]
    rcases hv with h | h
    ·have := hv0 h; omega
    ·have : n = 9 := by omega
     omega)
   rw [hD] at ih
   have ih := ih.val (u := (limbs (numF v s.data.toList), 0)) (by rw [hv2, <- numF_app, List.take_append_drop])
   have e1 : (s.size : Int) - 1 = ((s.data.toList.length - 1 : Nat) : Int) := by omega
   have e2 : Int.tmod ((s.data.toList.length - 1 : Nat) : Int) 9 = (((s.data.toList.length - 1) % 9 : Nat) : Int) := by rw [Int.tmod_eq_emod_of_nonneg (by omega)]; omega
   have c1 : (0 : Int) <= (n : Int) := by omega
   have c2 : (n : Int) <= (s.size : Int) := by omega
   refine Tells.succ ?_
   simp only [nat_Parse.l0]
   rw [e1, w64c (by omega), e2, w64s (by omega), hn, Int.toNat_natCast, limbs_billion]
   refine Tells.ifn (fun q => h0 (by rw [<- Lib.toList_data s]; exact q)) (hm.bind (Tells.ifp c1 (Tells.ifp c2 (hp.bind ((trim_one p (by omega)).bind (ha.bind ih))))))
theorem any_digits (s : ByteArray) (h : s.data.toList.all isDig = true) : nat_Parse_any.f (bytesOf s) = some false := by
 unfold nat_Parse_any.f
 rw [anyO_some (fun x => decide (x < 48) || decide (57 < x)) (bytesOf s) (fun x _ => by
  unfold nat_Parse_1.f
  by_cases h1 : x < 48
  ·rw [if_pos h1, decide_eq_true h1]; rfl
  ·rw [if_neg h1, decide_eq_false h1]; rfl)]
 congr 1
 rw [List.any_eq_false]
 intro x hx
 unfold bytesOf at hx
 obtain ⟨c, hc, rfl⟩ := List.mem_map.1 hx
 have := isDig_iff.1 (List.all_eq_true.1 h c hc)
 simp; omega
theorem Parse_tells (s : ByteArray) (h : s.data.toList.all isDig = true) (h0 : 0 < s.size) (h1 : s.size <= 2400) : Tells (fun k => nat_Parse.f k s) (limbs (numF 0 s.data.toList), 0) := by
 have hsz : s.size = s.data.toList.length := by rw [Array.length_toList]; rfl
 unfold nat_Parse.f
 rw [conv_f s (by omega)]
 refine Tells.ifn (by omega) (Tells.ifn (by omega) ((Tells.pure _).bind ?_))
 rw [any_digits s h]
 exact (Tells.pure _).bind (Tells.ifn (by simp) (Parse_l0 _ s 0 (Nat.le_refl _) h (.inl rfl) (by rw [nd_zero]; omega)))
theorem Parse_decT {n : Nat} (h : nd n <= 2400) : Tells (fun k => nat_Parse.f k (decT n)) (limbs n, 0) := by
 have hs := decT_size n
 have hpos : 0 < (decT n).size := by
  rw [hs]; split
  ·omega
  ·rename_i h0; exact nd_pos h0
 have hle : (decT n).size <= 2400 := by rw [hs]; split <;> omega
 refine (Parse_tells (decT n) (decT_dig n) hpos hle).val ?_
 rw [show numF 0 (decT n).data.toList = n from numT_decT n]
theorem zero_f (a : Bool) (n : Nat) (e : Int) : dec_number_zero.f a (limbs n) e = some (decide (n = 0)) := by
 unfold dec_number_zero.f
 congr 1
 by_cases h : n = 0
 ·subst h; rfl
 ·have : 0 < (limbs n).length := List.length_pos_iff.2 (limbs_ne h)
  rw [decide_eq_false h]
  exact beq_eq_false_iff_ne.2 (by omega)
theorem digits_tells {n : Nat} (h : (limbs n).length <= 256) : Tells (fun k => dec_digits.f k (limbs n)) (nd n : Int) := by
 unfold dec_digits.f
 refine (Print_tells h).bind ?_
 by_cases h0 : n = 0
 ·subst h0
  exact Tells.ifp rfl (Tells.pure _)
 ·have hl : 0 < (limbs n).length := List.length_pos_iff.2 (limbs_ne h0)
  refine Tells.ifn (by omega) ((Tells.pure _).val ?_)
  rw [decT_size, if_neg h0]
theorem core_len {n : Nat} (h : (limbs n).length <= 256) : (limbs (core n)).length <= 256 := by
 refine limbs_len_of (Nat.lt_of_le_of_lt (core_le n) (Nat.lt_of_lt_of_le (limbs_lt n) (Nat.pow_le_pow_right (by omega) h)))
theorem strip_tells (a : Bool) {n : Nat} (e : Int) (h0 : n ≠ 0) (h : (limbs n).length <= 256) (hd : nd n <= 2400) (he1 : -1000000000 <= e) (he2 : e <= 1000000000) : Tells (fun k => dec_number_strip.f k a (limbs n) e) (a, limbs (core n), e + tz n) := by
 have hs := decT_size n
 have hs2 := decT_size (core n)
 have hnc := nd_core h0
 rw [if_neg h0] at hs
 rw [if_neg (core_ne h0)] at hs2
 unfold dec_number_strip.f dec_must2.f dec_must.f strings_TrimRight.f
 refine (Print_tells h).bind ((Tells.pure _).bind ?_)
 rw [if_pos ⟨rfl, by show (decT n).size <= _; omega⟩]
 refine (Tells.pure _).bind ?_
 simp only [trim_decT h0]
 by_cases ht : tz n = 0
 ·have hc : core n = n := by
   have := (tz_is h0).1
   rw [ht, Nat.pow_zero, Nat.mul_one] at this
   exact this.symm
  refine Tells.ifp (by rw [hc]) ((Tells.pure _).val ?_)
  rw [hc, ht]; simp
 ·refine Tells.ifn (by omega) ?_
  have e1 : ((decT n).size : Int) - ((decT (core n)).size : Int) = (tz n : Int) := by omega
  refine (Parse_decT (by omega)).bind ((Tells.pure _).bind ((Tells.pure _).val ?_))
  rw [e1, w64c (m := tz n) (by omega), w64n (by omega) (by omega)]
theorem settle_tells (a : Bool) {n : Nat} (e : Int) (h : (limbs n).length <= 256) (hd : nd n <= 2400) (he1 : -1000000000 <= e) (he2 : e <= 1000000000) : Tells (fun k => dec_settle.f k a (limbs n) e) (outD (settleD ⟨a, n, e⟩)) := by
 unfold dec_settle.f settleD
 rw [zero_f]
 refine (Tells.pure _).bind ?_
 simp only
 by_cases h0 : n = 0
 ·subst h0
  exact Tells.ifp rfl (Tells.pure _)
 ·rw [if_neg h0]
  have hcd := nd_core h0
  refine Tells.ifn (by simp [h0]) ((strip_tells a e h0 h hd he1 he2).bind ((digits_tells (core_len h)).bind ?_))
  dsimp only
  by_cases h3 : 300 < nd (core n)
  ·rw [if_pos h3]
   exact Tells.ifp (by omega) (Tells.pure _)
  ·rw [if_neg h3]
   refine Tells.ifn (by omega) ?_
   by_cases h4 : e + tz n < -1000
   ·exact (Tells.ifp h4 (Tells.pure _)).val (by rw [if_pos (Or.inl h4)]; rfl)
   ·refine Tells.ifn h4 ?_
    by_cases h5 : 1000 < e + tz n
    ·exact (Tells.ifp h5 (Tells.pure _)).val (by rw [if_pos (Or.inr h5)]; rfl)
    ·exact (Tells.ifn h5 (Tells.pure _)).val (by rw [if_neg (by omega)])
theorem ten_tells {n : Nat} (h : (limbs n).length <= 256) : Tells (fun k => dec_ten.f k (limbs n)) (limbs (n / 10), decide (n % 10 = 0)) := by
 unfold dec_ten.f
 have h10 : (limbs 10).length <= 256 := by decide +kernel
 refine (From_tells 10 (by omega)).bind ((Div_tells h h10).bind ((Tells.pure _).val ?_))
 rw [if_neg (by omega)]
 dsimp only
 congr 1
 by_cases h0 : n % 10 = 0
 ·rw [h0]; rfl
 ·have : 0 < (limbs (n % 10)).length := List.length_pos_iff.2 (limbs_ne h0)
  rw [decide_eq_false h0]
  exact beq_eq_false_iff_ne.2 (by omega)
theorem DCheck_tells (a : Bool) (l : List Int) (e : Int) (hd : Dg 4294967296 l) (hl : l.length <= 9223372036854775807) : Tells (fun k => dec_Check.f k a l e) (chk a l e) := by
 unfold dec_Check.f
 rw [Check_tells l hl]
 refine (Tells.pure _).bind ?_
 have bad : chk a l e = 9 -> Tells (fun k => dec_Check.j0 k true a l e) (chk a l e) := fun h => by
  rw [h]
  refine Tells.succ ?_
  simp only [dec_Check.j0]
  exact Tells.ifp trivial (Tells.pure _)
 by_cases hc : chkL l = 0
 ·refine Tells.ifp hc ?_
  by_cases h40 : l.length <= 40
  ·rw [decide_eq_false (show ¬ ((l.length : Int) > 40) by omega)]
   have hok := (chkL_ok hd).1 hc
   obtain ⟨n, hn⟩ : ∃ n, num l = n := ⟨_, rfl⟩
   have hln : l = limbs n := by rw [<- hn]; exact (limbs_num hok).symm
   have hchk : chk a l e = if okB ⟨a, n, e⟩ = true then 0 else 9 := by
    unfold chk
    rw [hn]
    by_cases h : okB ⟨a, n, e⟩ = true
    ·rw [if_pos ⟨hc, h40, h⟩, if_pos h]
    ·rw [if_neg (fun q => h q.2.2), if_neg h]
   rw [hchk]
   subst hln
   have h256 : (limbs n).length <= 256 := by omega
   unfold okB
   simp only
   refine Tells.succ ?_
   simp only [dec_Check.j0]
   refine Tells.ifn (by simp) ?_
   by_cases h0 : n = 0
   ·subst h0
    rw [if_pos rfl]
    refine Tells.ifp rfl ?_
    cases a
    ·refine Tells.ifn (by simp) ?_
     by_cases he : e = 0
     ·subst he; exact Tells.ifp rfl (Tells.pure _)
     ·refine Tells.ifn he ((Tells.pure _).val ?_)
      simp [he]
    ·exact Tells.ifp rfl (Tells.pure _)
   ·have hpos : 0 < (limbs n).length := List.length_pos_iff.2 (limbs_ne h0)
    rw [if_neg h0]
    refine Tells.ifn (by omega) ((ten_tells h256).bind ?_)
    dsimp only
    by_cases hz : n % 10 = 0
    ·rw [decide_eq_false (not_not_intro hz)]
     exact Tells.ifp (decide_eq_true hz) (Tells.pure _)
    ·rw [decide_eq_true hz]
     refine Tells.ifn (by simp [hz]) ((digits_tells h256).bind ?_)
     by_cases h3 : nd n <= 300
     ·rw [decide_eq_true h3]
      refine Tells.ifn (by omega) ?_
      by_cases h4 : e < -1000
      ·rw [decide_eq_false (show ¬ (-1000 <= e) by omega)]
       exact Tells.ifp h4 (Tells.pure _)
      ·rw [decide_eq_true (show -1000 <= e by omega)]
       refine Tells.ifn h4 ?_
       by_cases h5 : 1000 < e
       ·rw [decide_eq_false (show ¬ (e <= 1000) by omega)]
        exact Tells.ifp h5 (Tells.pure _)
       ·rw [decide_eq_true (show e <= 1000 by omega)]
        exact Tells.ifn h5 (Tells.pure _)
     ·rw [decide_eq_false h3]
      exact Tells.ifp (by omega) (Tells.pure _)
  ·rw [decide_eq_true (show ((l.length : Int) > 40) by omega)]
   exact bad (by unfold chk; rw [if_neg (fun q => h40 q.2.1)])
 ·exact Tells.ifn hc (bad (by unfold chk; rw [if_neg (fun q => hc q.1)]))
theorem DCheck (D : Dm) (h : OkD D) : Tells (fun k => dec_Check.f k D.neg (limbs D.n) D.e) 0 := by
 have h1 := okd_limbs h
 have := DCheck_tells D.neg (limbs D.n) D.e (limbs_dg _) (by omega)
 rw [chk_of h] at this
 exact this
theorem ask1_tells (a : Bool) (l : List Int) (e : Int) (hd : Dg 4294967296 l) (hl : l.length <= 9223372036854775807) : Tells (fun k => dec_ask_1.f k a l e) (decide (chk a l e ≠ 0)) := by
 unfold dec_ask_1.f
 refine (DCheck_tells a l e hd hl).bind ((Tells.pure _).val ?_)
 by_cases h : chk a l e = 0 <;> simp [h]
theorem ask_tells (a : Bool) (l : List Int) (e : Int) (b : Bool) (m : List Int) (g : Int) (hd : Dg 4294967296 l) (hl : l.length <= 9223372036854775807) (hd2 : Dg 4294967296 m) (hl2 : m.length <= 9223372036854775807) : Tells (fun k => dec_ask.f k [⟨a, l, e⟩, ⟨b, m, g⟩]) (if chk a l e = 0 /\ chk b m g = 0 then 0 else 9) := by
 have h1 : Tells (fun k => dec_ask_any.f k [⟨a, l, e⟩, ⟨b, m, g⟩]) (decide (¬ (chk a l e = 0 /\ chk b m g = 0))) := by
  unfold dec_ask_any.f
  simp only [anyO]
  refine (ask1_tells a l e hd hl).bind ?_
  by_cases h : chk a l e = 0
  ·refine Tells.ifn (by simp [h]) ((ask1_tells b m g hd2 hl2).bind ?_)
   by_cases h2 : chk b m g = 0
   ·exact Tells.ifn (by simp [h2]) ((Tells.pure _).val (by simp [h, h2]))
   ·exact Tells.ifp (by simp [h2]) ((Tells.pure _).val (by simp [h, h2]))
  ·exact Tells.ifp (by simp [h]) ((Tells.pure _).val (by simp [h]))
 unfold dec_ask.f
 refine h1.bind ?_
 by_cases h : chk a l e = 0 /\ chk b m g = 0
 ·rw [if_pos h]
  exact Tells.ifn (by simp [h]) (Tells.pure _)
 ·rw [if_neg h]
  exact Tells.ifp (decide_eq_true h) (Tells.pure _)
theorem ask_D (D E : Dm) (hD : OkD D) (hE : OkD E) : Tells (fun k => dec_ask.f k [⟨D.neg, limbs D.n, D.e⟩, ⟨E.neg, limbs E.n, E.e⟩]) 0 := by
 have h1 := okd_limbs hD
 have h2 := okd_limbs hE
 have := ask_tells D.neg (limbs D.n) D.e E.neg (limbs E.n) E.e (limbs_dg _) (by omega) (limbs_dg _) (by omega)
 rw [if_pos ⟨chk_of hD, chk_of hE⟩] at this
 exact this
theorem len_nd {n : Nat} (h : nd n <= 2304) : (limbs n).length <= 256 := limbs_len9 (by omega)
theorem down_tells (a : Bool) (n : Nat) (e x : Int) (hn : nd n <= 2304) (hx : x <= e) (he : e - x <= 2003) (he1 : -100000 <= x) (he2 : e <= 100000) (hs : nd (n * 10 ^ (e - x).toNat) <= 2304) : Tells (fun k => dec_number_down.f k a (limbs n) e x) (a, limbs (n * 10 ^ (e - x).toNat), x) := by
 unfold dec_number_down.f
 rw [zero_f]
 refine (Tells.pure _).bind ?_
 have same : ∀ m, m = n * 10 ^ (e - x).toNat -> Tells (fun k => dec_number_down.j0 k x true a (limbs m) e) (a, limbs (n * 10 ^ (e - x).toNat), x) := fun m hm => by
  refine Tells.succ ?_
  simp only [dec_number_down.j0]
  exact Tells.ifp trivial ((Tells.pure _).val (by rw [hm]))
 by_cases h0 : n = 0
 ·subst h0
  exact Tells.ifp (by rfl) (same 0 (by rw [Nat.zero_mul]))
 ·refine Tells.ifn (by simp [h0]) ?_
  by_cases hex : e = x
  ·subst hex
   have e1 : (e == e) = true := beq_self_eq_true e
   rw [e1]
   exact same n (by rw [Int.sub_self]; simp)
  ·have e1 : (e == x) = false := beq_eq_false_iff_ne.2 hex
   obtain ⟨d, hd⟩ : ∃ d : Nat, e - x = d := ⟨(e - x).toNat, by omega⟩
   rw [e1]
   refine Tells.succ ?_
   simp only [dec_number_down.j0]
   rw [hd, Int.toNat_natCast] at hs ⊢
   rw [w64c (by omega)]
   have hp : (limbs (10 ^ d)).length <= 256 := len_nd (by rw [nd_pow]; omega)
   have hm := Mul_tells (len_nd hn) hp
   rw [fit_of (len_nd hs)] at hm
   unfold dec_must.f
   exact Tells.ifn (by simp) ((Pow_tells d (by omega)).bind ((Tells.pure _).bind (hm.bind ((Tells.pure _).bind (Tells.pure _)))))
theorem plus_tells {A B : Dm} (hA : OkD A) (hB : OkD B) : Tells (fun k => dec_number_plus.f k A.neg (limbs A.n) A.e B.neg (limbs B.n) B.e) ((plusD A B).neg, limbs (plusD A B).n, (plusD A B).e) := by
 have d1 := hA.len; have d2 := hA.low; have d3 := hA.high
 have e1 := hB.len; have e2 := hB.low; have e3 := hB.high
 have hx := nd_shift_le A.n (A.e - min A.e B.e).toNat
 have hy := nd_shift_le B.n (B.e - min A.e B.e).toNat
 have hr := plusD_nd hA hB
 unfold dec_number_plus.f dec_must.f
 rw [mn_eq]
 refine (down_tells A.neg A.n A.e (min A.e B.e) (by omega) (by omega) (by omega) (by omega) (by omega) (by omega)).bind ?_
 refine (down_tells B.neg B.n B.e (min A.e B.e) (by omega) (by omega) (by omega) (by omega) (by omega) (by omega)).bind ?_
 unfold plusD sumS at *
 simp only at *
 generalize A.n * 10 ^ (A.e - min A.e B.e).toNat = x at *
 generalize B.n * 10 ^ (B.e - min A.e B.e).toNat = y at *
 have hx' : (limbs x).length <= 256 := len_nd (by omega)
 have hy' : (limbs y).length <= 256 := len_nd (by omega)
 by_cases h : A.neg = B.neg
 ·rw [if_pos h] at hr ⊢
  have ha := Add_tells hx' hy'
  rw [fit_of (len_nd (n := x + y) (by simp only at hr; omega))] at ha
  exact Tells.ifp (by rw [h]; simp) (ha.bind ((Tells.pure _).bind (Tells.pure _)))
 ·rw [if_neg h]
  refine Tells.ifn (by simpa using h) ((Compare_tells hx' hy').bind ?_)
  dsimp only
  by_cases hlt : x < y
  ·have hs := Sub_tells hy' hx'
   rw [if_neg (by omega)] at hs
   rw [if_pos hlt]
   exact Tells.ifp (by unfold cmpN; rw [if_pos hlt]; omega) (hs.bind ((Tells.pure _).bind (Tells.pure _)))
  ·have hs := Sub_tells hx' hy'
   rw [if_neg hlt] at hs
   rw [if_neg hlt]
   exact Tells.ifn (by unfold cmpN; rw [if_neg hlt]; split <;> omega) (hs.bind ((Tells.pure _).bind (Tells.pure _)))
theorem minus_f (A : Dm) : dec_number_minus.f A.neg (limbs A.n) A.e = some ((negD A).neg, limbs A.n, A.e) := by
 unfold dec_number_minus.f negD
 rw [zero_f]
 cases A.neg
 ·rw [if_neg (by simp), Option.bind_some]
  simp
 ·rw [if_pos rfl]; rfl
theorem DCompare (D E : Dm) (hD : OkD D) (hE : OkD E) : Tells (fun k => dec_Compare.f k D.neg (limbs D.n) D.e E.neg (limbs E.n) E.e) (cmpD D E, 0) := by
 unfold dec_Compare.f
 refine (ask_D D E hD hE).bind (Tells.ifp rfl ?_)
 rw [minus_f E]
 refine (Tells.pure _).bind ((plus_tells hD (negD_ok hE)).bind ?_)
 dsimp only
 rw [zero_f]
 refine (Tells.pure _).bind ?_
 unfold cmpD
 simp only
 by_cases h : (plusD D (negD E)).n = 0
 ·rw [if_pos h]
  exact Tells.ifp (by simp [h]) (Tells.pure _)
 ·rw [if_neg h]
  refine Tells.ifn (by simp [h]) ?_
  cases (plusD D (negD E)).neg
  ·exact Tells.ifn (by simp) (Tells.pure _)
  ·exact Tells.ifp rfl (Tells.pure _)
theorem settle_plus {A B : Dm} (hA : OkD A) (hB : OkD B) : Tells (fun k => dec_settle.f k (plusD A B).neg (limbs (plusD A B).n) (plusD A B).e) (outD (settleD (plusD A B))) := by
 have h1 := plusD_nd hA hB
 have h2 := plusD_lo hA hB
 exact settle_tells (plusD A B).neg (plusD A B).e (len_nd (by omega)) (by omega) (by omega) (by omega)
theorem DAdd (D E : Dm) (hD : OkD D) (hE : OkD E) : Tells (fun k => dec_Add.f k D.neg (limbs D.n) D.e E.neg (limbs E.n) E.e) (outD (addD D E)) := by
 unfold dec_Add.f
 exact (ask_D D E hD hE).bind (Tells.ifp rfl ((plus_tells hD hE).bind ((settle_plus hD hE).bind (Tells.pure _))))
theorem DMul (D E : Dm) (hD : OkD D) (hE : OkD E) : Tells (fun k => dec_Mul.f k D.neg (limbs D.n) D.e E.neg (limbs E.n) E.e) (outD (timesD D E)) := by
 have d1 := hD.len; have d2 := hD.low; have d3 := hD.high
 have e1 := hE.len; have e2 := hE.low; have e3 := hE.high
 have hm := nd_mul D.n E.n
 have h := Mul_tells (len_nd (n := D.n) (by omega)) (len_nd (n := E.n) (by omega))
 rw [fit_of (len_nd (by omega))] at h
 unfold dec_Mul.f dec_must.f
 rw [w64n (by omega) (by omega)]
 exact (ask_D D E hD hE).bind (Tells.ifp rfl (h.bind ((Tells.pure _).bind ((settle_tells (D.neg != E.neg) (D.e + E.e) (len_nd (by omega)) (by omega) (by omega) (by omega)).bind (Tells.pure _)))))
theorem DInt_tells (n : Int) (h1 : -9223372036854775808 <= n) (h2 : n <= 9223372036854775807) : Tells (fun k => dec_Int.f k n) ((intD n).neg, limbs (intD n).n, (intD n).e) := by
 have hl : ∀ v : Nat, v <= 18446744073709551615 -> (limbs v).length <= 256 /\ nd v <= 2400 := fun v hv => by
  have := nd_20 (n := v) (by omega)
  exact ⟨len_nd (by omega), by omega⟩
 unfold dec_Int.f intD
 by_cases hn : n < 0
 ·obtain ⟨v, hv⟩ : ∃ v : Nat, n = -(v : Int) := ⟨(-n).toNat, by omega⟩
  subst hv
  have e1 : IntKind.u64.wrap (-(IntKind.u64.wrap (-(v : Int)))) = (v : Int) := by simp [IntKind.wrap, IntKind.bits, IntKind.signed]; omega
  rw [e1, Int.natAbs_neg, Int.natAbs_natCast, decide_eq_true hn]
  obtain ⟨h3, h4⟩ := hl v (by omega)
  exact Tells.ifp hn ((From_tells v (by omega)).bind ((settle_tells true 0 h3 h4 (by omega) (by omega)).bind (Tells.pure _)))
 ·obtain ⟨v, rfl⟩ := Int.eq_ofNat_of_zero_le (show 0 <= n by omega)
  rw [u64n (by omega), Int.natAbs_natCast, decide_eq_false hn]
  obtain ⟨h3, h4⟩ := hl v (by omega)
  exact Tells.ifn hn ((From_tells v (by omega)).bind ((settle_tells false 0 h3 h4 (by omega) (by omega)).bind (Tells.pure _)))
end YtjbjkmccfocikaaGreatDoor.P
end
section
namespace YtjbjkmccfocikaaGreatDoor.B
open Go.RowKit YtjbjkmccfocikaaGreatDoorW.PrintWords YtjbjkmccfocikaaGreatDoorW.PrintLast YtjbjkmccfocikaaGreatDoorW.PrintMore
attribute [local go_sem] max2_int min2_int max_two min_two max_three min_three max_four min_four
def bolterlaw02_num.f (a0 : Int) : Option (Int) := some a0
theorem bolterlaw02_num.calls (a0 : Int) (r : Int) (w : World) (h : bolterlaw02_num.f a0 = some r) :
  Calls Tryz.prog 47 #[.int .i64 a0] w fun e w' => e = .returned (.int .i64 r) /\ Drawn0 w w' := by
 have H : (some a0) = some r := h
 clear h
 obtain rfl := Option.some.inj H
 go_enter Tryz.func47, Tryz.ntmps47
 go_wp2
 go_ret
 exact ⟨by first | rfl | (simp; done) | (simp [*]; done), by repeat (first | exact Drawn0.refl _ | apply Drawn0.step)⟩
def dec_decimal.f (k : Nat) (a0 : Int) : Option (ByteArray) := (nat_From.f k (IntKind.u64.wrap (mx a0 (wrap64 (-a0))))).bind fun t1559 => ((nat_Print.f k t1559).bind fun bt1562 => ((dec_must2.f bt1562.1 bt1562.2).bind fun t1564 => (some t1564)))
theorem dec_decimal.calls (k : Nat) (a0 : Int) (r : ByteArray) (w : World) (h : dec_decimal.f k a0 = some r) :
  Calls Tryz.prog 170 #[.int .i64 a0] w fun e w' => e = .returned (.string r) /\ Below w.heap.size w w' := by
 have HB := am (Below.refl w.heap.size w)
 have H : ((nat_From.f k (IntKind.u64.wrap (mx a0 (wrap64 (-a0))))).bind fun t1559 => ((nat_Print.f k t1559).bind fun bt1562 => ((dec_must2.f bt1562.1 bt1562.2).bind fun t1564 => (some t1564)))) = some r := h
 clear h
 obtain ⟨ji2, hji2⟩ : ∃ j_ : Int, (mx a0 (wrap64 (-a0))) = j_ := ⟨_, rfl⟩
 replace H : ((nat_From.f k (IntKind.u64.wrap (ji2))).bind fun t1559 => ((nat_Print.f k t1559).bind fun bt1562 => ((dec_must2.f bt1562.1 bt1562.2).bind fun t1564 => (some t1564)))) = some r := by first | (rw [hji2] at H; exact H) | (simp only [hji2] at H ⊢; exact H)
 have hji2_ : (if a0 < (wrap64 (-a0)) then (wrap64 (-a0)) else a0) = ji2 := hji2
 obtain ⟨t1559, A3, H⟩ := ob H
 obtain ⟨⟨t1562, t1563⟩, A4, H⟩ := ob H; (try dsimp only at H)
 obtain ⟨t1564, A5, H⟩ := ob H
 obtain rfl := Option.some.inj H
 go_enter Tryz.func170, Tryz.ntmps170
 go_wp2_with (first | ((with_reducible refine gate_callee (f := 76) rfl ?_); refine goesL_ (some 8) rfl rfl Tryz.func76 (by kernel_rfl) rfl #[.int .u64 (IntKind.u64.wrap (ji2))] rfl (by (try simp only [List.map_toArray, List.map_cons, List.map_nil]); first | done | (simp only [hji2]; rfl) | rfl | (simp only [List.length_drop, List.length_take]; rfl)) ?_; (with_reducible refine (nat_From.calls k (IntKind.u64.wrap (ji2)) t1559 _ A3.out).mono ?_); rintro e w6 ⟨v1560, rfl, ho0, hb⟩; refine ⟨_, rfl, ?_⟩; have HO1561 := am (Kd.R_lower ho0 (below_size pB)); replace HB := am (below_step pB hb); (try clear hb); (try clear hb2); (try clear hk); (try clear hi); (try clear ho0); obtain ⟨Ao7, co7, eo7⟩ := Kd.R_slice HO1561.out; subst eo7) | (refine gL (some 9) Tryz.func112 #[.slice Ao7 t1559.length co7] (h := ?_); (with_reducible refine (nat_Print.calls k (fun k_ => some k_ = (.slice Ao7 t1559.length co7 : Value).ownBlock) _ _ t1559 t1562 t1563 _ ?side1 A4.out).mono ?_); (case side1 => exact Kd.R_V (Kd.R_tight rfl (HO1561.out))); rintro e w8 ⟨rfl, hb⟩; refine ⟨_, rfl, ?_⟩; replace HO1561 := am (Kd.R_below (Kd.R_below HO1561.out pl) hb); replace HB := am (below_step pB hb); (try clear hb); (try clear hb2); (try clear hk); (try clear hi)) | (refine gL (some 12) Tryz.func111 #[.string t1562, .int .i64 t1563] (h := ?_); (with_reducible refine (dec_must2.calls t1562 t1563 t1564 _ A5.out).mono ?_); rintro e w' ⟨rfl, ⟨nd, rfl⟩⟩; refine ⟨_, rfl, ?_⟩))
 go_ret
 exact ⟨by first | rfl | (simp [errW_none, errW_some] <;> rfl) | (simp only [<- hji2]; first | rfl | (simp [errW_none, errW_some] <;> rfl)) | (simp [*, errW_none, errW_some] <;> rfl), pB⟩
def dec_far.j0 : Nat -> Int -> ByteArray -> Option (ByteArray)
 | 0, _, _ => none
 | k + 1, x1, x5 => if x1 < 0 then (if x5.size + 2 <= 9223372036854775807 then ((dec_decimal.f k x1).bind fun t1565 => (if (x5 ++ (⟨#[101, 45]⟩ : ByteArray)).size + t1565.size <= 9223372036854775807 then (some ((x5 ++ (⟨#[101, 45]⟩ : ByteArray)) ++ t1565)) else (none))) else (none)) else (if x5.size + 2 <= 9223372036854775807 then ((dec_decimal.f k x1).bind fun t1566 => (if (x5 ++ (⟨#[101, 43]⟩ : ByteArray)).size + t1566.size <= 9223372036854775807 then (some ((x5 ++ (⟨#[101, 43]⟩ : ByteArray)) ++ t1566)) else (none))) else (none))
def dec_far.f (k : Nat) (a0 : ByteArray) (a1 : Int) : Option (ByteArray) := if 0 <= 1 then (if 1 <= (a0.size : Int) then (if (a0.size : Int) > 1 then (if 1 + (a0.extract 1 a0.size).size <= 9223372036854775807 then (if (a0.extract 0 1).size + ((⟨#[46]⟩ : ByteArray) ++ (a0.extract 1 a0.size)).size <= 9223372036854775807 then (dec_far.j0 k a1 ((a0.extract 0 1) ++ ((⟨#[46]⟩ : ByteArray) ++ (a0.extract 1 a0.size)))) else (none)) else (none)) else (dec_far.j0 k a1 (a0.extract 0 1))) else (none)) else (none)
theorem dec_far.calls (k : Nat) (a0 : ByteArray) (a1 : Int) (r : ByteArray) (w : World) (h : dec_far.f k a0 a1 = some r) :
  Calls Tryz.prog 145 #[.string a0, .int .i64 a1] w fun e w' => e = .returned (.string r) /\ Below w.heap.size w w' := by
 have HB := am (Below.refl w.heap.size w)
 have H : (if 0 <= 1 then (if 1 <= (a0.size : Int) then (if (a0.size : Int) > 1 then (if 1 + (a0.extract 1 a0.size).size <= 9223372036854775807 then (if (a0.extract 0 1).size + ((⟨#[46]⟩ : ByteArray) ++ (a0.extract 1 a0.size)).size <= 9223372036854775807 then (dec_far.j0 k a1 ((a0.extract 0 1) ++ ((⟨#[46]⟩ : ByteArray) ++ (a0.extract 1 a0.size)))) else (none)) else (none)) else (dec_far.j0 k a1 (a0.extract 0 1))) else (none)) else (none)) = some r := h
 clear h
 by_cases c3 : 0 <= 1
 ·rw [if_pos c3] at H
  have c3b0 := eq_true c3
  have c3b1 : decide (0 <= 1) = true := decide_eq_true c3
  clear c3
  by_cases c4 : 1 <= (a0.size : Int)
  ·rw [if_pos c4] at H
   have c4b0 := eq_true c4
   have c4b1 : decide (1 <= (a0.size : Int)) = true := decide_eq_true c4
   clear c4
   have HC5 := am H
   clear H
   go_enter Tryz.func145, Tryz.ntmps145
   go_upto_if 10 with (fail)
   go_cut [5] (fun v5 wc => ∃ (kq : Nat) (x5_4 : ByteArray), v5 = .string x5_4 /\ Aside0 (dec_far.j0 kq a1 x5_4 = some r) /\ Aside0 (kq <= k) /\ Aside0 (Below w.heap.size w wc))
   case first =>
    have H := HC5.out
    clear HC5
    by_cases c6 : (a0.size : Int) > 1
    ·rw [if_pos c6] at H
     have c6b0 : decide (1 < (a0.size : Int)) = true := decide_eq_true c6
     have c6b1 : decide (1 < a0.size) = true := decide_eq_true (by omega)
     clear c6
     (first | rw [c6b0] | (simp only [i64_w, i32_w]; rw [c6b0]) | skip)
     have c7b0 := eq_true (of_decide_eq_true pQ : 1 <= (a0.size : Int))
     by_cases c8 : 1 + (a0.extract 1 a0.size).size <= 9223372036854775807
     ·rw [if_pos c8] at H
      have c8b0 := eq_true c8
      have c8b1 : decide (1 + (a0.extract 1 a0.size).size <= 9223372036854775807) = true := decide_eq_true c8
      try have c8b2 : (9223372036854775807 < 1 + (a0.extract 1 a0.size).size) = False := eq_false (Nat.not_lt.2 c8)
      try have c8b3 : (9223372036854775807 < 1 + (a0.size - 1)) = False := eq_false (Nat.not_lt.2 (by have q_ := c8; (try have h0_ := of_decide_eq_true c3b1); (try have h1_ := of_decide_eq_true c4b1); simp only [ByteArray.size_append, ByteArray.size_extract] at q_; omega))
      by_cases c9 : (a0.extract 0 1).size + ((⟨#[46]⟩ : ByteArray) ++ (a0.extract 1 a0.size)).size <= 9223372036854775807
      ·rw [if_pos c9] at H
       have c9b0 := eq_true c9
       have c9b1 : decide ((a0.extract 0 1).size + ((⟨#[46]⟩ : ByteArray) ++ (a0.extract 1 a0.size)).size <= 9223372036854775807) = true := decide_eq_true c9
       try have c9b2 : (9223372036854775807 < (a0.extract 0 1).size + ((⟨#[46]⟩ : ByteArray) ++ (a0.extract 1 a0.size)).size) = False := eq_false (Nat.not_lt.2 c9)
       try have c9b3 : (9223372036854775807 < 1 + (1 + ((a0.size - 1)))) = False := eq_false (Nat.not_lt.2 (by have q_ := c9; have l0_ : (⟨#[46]⟩ : ByteArray).size = 1 := rfl; (try have h0_ := of_decide_eq_true c3b1); (try have h1_ := of_decide_eq_true c4b1); (try have h2_ := of_decide_eq_true c8b1); simp only [ByteArray.size_append, ByteArray.size_extract] at q_; omega))
       try have c9b4 : (9223372036854775807 < min 1 a0.size + (1 + ((a0.size - 1)))) = False := eq_false (Nat.not_lt.2 (by have q_ := c9; have l0_ : (⟨#[46]⟩ : ByteArray).size = 1 := rfl; (try have h0_ := of_decide_eq_true c3b1); (try have h1_ := of_decide_eq_true c4b1); (try have h2_ := of_decide_eq_true c8b1); simp only [ByteArray.size_append, ByteArray.size_extract] at q_; omega))
       have H' := am H
       clear H
       go_wp2
       go_meet
       case rel => exact ⟨_, ((a0.extract 0 1) ++ ((⟨#[46]⟩ : ByteArray) ++ (a0.extract 1 a0.size))), (by first | rfl | (simp; done) | (simp [*]; done)), H', ⟨by first | omega | exact Nat.le_refl _⟩, ⟨pB⟩⟩
      ·rw [if_neg c9] at H
       exact absurd H (by simp)
     ·rw [if_neg c8] at H
      exact absurd H (by simp)
    ·rw [if_neg c6] at H
     have c6b0 : decide (1 < (a0.size : Int)) = false := decide_eq_false c6
     have c6b1 : decide (1 < a0.size) = false := decide_eq_false (by omega)
     clear c6
     (first | rw [c6b0] | (simp only [i64_w, i32_w]; rw [c6b0]) | skip)
     have H' := am H
     clear H
     go_wp2
     go_meet
     case rel => exact ⟨_, (a0.extract 0 1), (by first | rfl | (simp; done) | (simp [*]; done)), H', ⟨by first | omega | exact Nat.le_refl _⟩, ⟨pB⟩⟩
   case rest =>
    clear HC5
    (try clear c3); (try clear c3b0); (try clear c3b1); (try clear c4); (try clear c4b0); (try clear c4b1)
    obtain ⟨kq, x5_4, rfl, HA, HJ4, HB⟩ := hcut
    cases kq with
    | zero => exact absurd HA.out (by simp [dec_far.j0])
    | succ kj4 =>
     have H := HA.out
     clear HA
     simp only [dec_far.j0] at H
     by_cases c10 : a1 < 0
     ·rw [if_pos c10] at H
      have c10b0 : decide (a1 < 0) = true := decide_eq_true c10
      clear c10
      by_cases c11 : x5_4.size + 2 <= 9223372036854775807
      ·rw [if_pos c11] at H
       have c11b0 := eq_true c11
       have c11b1 : decide (x5_4.size + 2 <= 9223372036854775807) = true := decide_eq_true c11
       try have c11b2 : (9223372036854775807 < x5_4.size + 2) = False := eq_false (Nat.not_lt.2 c11)
       obtain ⟨t1565, A12, H⟩ := ob H
       by_cases c13 : (x5_4 ++ (⟨#[101, 45]⟩ : ByteArray)).size + t1565.size <= 9223372036854775807
       ·rw [if_pos c13] at H
        have c13b0 := eq_true c13
        have c13b1 : decide ((x5_4 ++ (⟨#[101, 45]⟩ : ByteArray)).size + t1565.size <= 9223372036854775807) = true := decide_eq_true c13
        try have c13b2 : (9223372036854775807 < (x5_4 ++ (⟨#[101, 45]⟩ : ByteArray)).size + t1565.size) = False := eq_false (Nat.not_lt.2 c13)
        try have c13b3 : (9223372036854775807 < x5_4.size + 2 + t1565.size) = False := eq_false (Nat.not_lt.2 (by have q_ := c13; have l0_ : (⟨#[101, 45]⟩ : ByteArray).size = 2 := rfl; (try have h0_ := of_decide_eq_true c11b1); simp only [ByteArray.size_append, ByteArray.size_extract] at q_; omega))
        obtain rfl := Option.some.inj H
        go_wp2_with (first | (refine gL (some 21) Tryz.func170 #[.int .i64 a1] (h := ?_); (with_reducible refine (dec_decimal.calls kj4 a1 t1565 _ A12.out).mono ?_); rintro e w14 ⟨rfl, hb⟩; refine ⟨_, rfl, ?_⟩; replace HB := am (below_step pB hb); (try clear hb); (try clear hb2); (try clear hk); (try clear hi)))
        go_ret
        exact ⟨pE, pB⟩
       ·rw [if_neg c13] at H
        exact absurd H (by simp)
      ·rw [if_neg c11] at H
       exact absurd H (by simp)
     ·rw [if_neg c10] at H
      have c10b0 : decide (a1 < 0) = false := decide_eq_false c10
      clear c10
      by_cases c15 : x5_4.size + 2 <= 9223372036854775807
      ·rw [if_pos c15] at H
       have c15b0 := eq_true c15
       have c15b1 : decide (x5_4.size + 2 <= 9223372036854775807) = true := decide_eq_true c15
       try have c15b2 : (9223372036854775807 < x5_4.size + 2) = False := eq_false (Nat.not_lt.2 c15)
       obtain ⟨t1566, A16, H⟩ := ob H
       by_cases c17 : (x5_4 ++ (⟨#[101, 43]⟩ : ByteArray)).size + t1566.size <= 9223372036854775807
       ·rw [if_pos c17] at H
        have c17b0 := eq_true c17
        have c17b1 : decide ((x5_4 ++ (⟨#[101, 43]⟩ : ByteArray)).size + t1566.size <= 9223372036854775807) = true := decide_eq_true c17
        try have c17b2 : (9223372036854775807 < (x5_4 ++ (⟨#[101, 43]⟩ : ByteArray)).size + t1566.size) = False := eq_false (Nat.not_lt.2 c17)
        try have c17b3 : (9223372036854775807 < x5_4.size + 2 + t1566.size) = False := eq_false (Nat.not_lt.2 (by have q_ := c17; have l0_ : (⟨#[101, 43]⟩ : ByteArray).size = 2 := rfl; (try have h0_ := of_decide_eq_true c11b1); (try have h1_ := of_decide_eq_true c13b1); (try have h2_ := of_decide_eq_true c15b1); simp only [ByteArray.size_append, ByteArray.size_extract] at q_; omega))
        obtain rfl := Option.some.inj H
        go_wp2_with (first | (refine gL (some 26) Tryz.func170 #[.int .i64 a1] (h := ?_); (with_reducible refine (dec_decimal.calls kj4 a1 t1566 _ A16.out).mono ?_); rintro e w18 ⟨rfl, hb⟩; refine ⟨_, rfl, ?_⟩; replace HB := am (below_step pB hb); (try clear hb); (try clear hb2); (try clear hk); (try clear hi)))
        go_ret
        exact ⟨pE, pB⟩
       ·rw [if_neg c17] at H
        exact absurd H (by simp)
      ·rw [if_neg c15] at H
       exact absurd H (by simp)
  ·rw [if_neg c4] at H
   exact absurd H (by simp)
 ·rw [if_neg c3] at H
  exact absurd H (by simp)
end YtjbjkmccfocikaaGreatDoor.B
end
section
namespace YtjbjkmccfocikaaGreatDoor.B
open Go.RowKit Go.Shelf YtjbjkmccfocikaaGreatDoorW.PrintWords
def strings_Repeat.f (a0 : ByteArray) (a1 : Int) : Option ByteArray := if 0 <= a1 /\ a1 <= 9223372036854775807 /\ a0.size * a1.toNat <= 140737488355328 then some ⟨(Lib.repeatL a0.data.toList a1.toNat).toArray⟩ else none
theorem strings_Repeat.calls (a0 : ByteArray) (a1 : Int) (r : ByteArray) (w : World) (h : strings_Repeat.f a0 a1 = some r) :
  Calls Tryz.prog 146 #[.string a0, .int .i64 a1] w fun e w' => e = .returned (.string r) /\ Below w.heap.size w w' := by
 unfold strings_Repeat.f at h
 split at h
 ·obtain rfl := Option.some.inj h
  have hc : 0 <= a1 /\ a1 <= 9223372036854775807 /\ a0.size * a1.toNat <= 140737488355328 := by assumption
  obtain ⟨n, rfl⟩ := Int.eq_ofNat_of_zero_le hc.1
  exact Tryz.strings_Repeat a0 n w (by omega) (by simpa using hc.2.2)
 ·cases h
theorem add_at (b o j : Nat) : (⟨b, o, none⟩ : Addr).add j = ⟨b, o + j, none⟩ := by unfold Addr.add; split <;> simp_all
end YtjbjkmccfocikaaGreatDoor.B
end
section
namespace YtjbjkmccfocikaaGreatDoor.B
open Go.RowKit YtjbjkmccfocikaaGreatDoorW.PrintWords YtjbjkmccfocikaaGreatDoorW.PrintLast YtjbjkmccfocikaaGreatDoorW.PrintMore
attribute [local go_sem] max2_int min2_int max_two min_two max_three min_three max_four min_four
def dec_place.j0 : Nat -> ByteArray -> Int -> Bool -> Option (ByteArray)
 | 0, _, _, _ => none
 | k + 1, x0, x1, x5 => if x5 = true then ((dec_far.f k x0 (wrap64 (x1 - 1))).bind fun t1567 => (some t1567)) else (if x1 < 1 then ((strings_Repeat.f (⟨#[48]⟩ : ByteArray) (wrap64 (-x1))).bind fun t1568 => (if 2 + t1568.size <= 9223372036854775807 then (if ((⟨#[48, 46]⟩ : ByteArray) ++ t1568).size + x0.size <= 9223372036854775807 then (some (((⟨#[48, 46]⟩ : ByteArray) ++ t1568) ++ x0)) else (none)) else (none))) else (if x1 < (x0.size : Int) then (if 0 <= x1 then (if x1 <= (x0.size : Int) then (if (x0.extract 0 (x1 : Int).toNat).size + 1 <= 9223372036854775807 then (if ((x0.extract 0 (x1 : Int).toNat) ++ (⟨#[46]⟩ : ByteArray)).size + (x0.extract (x1 : Int).toNat x0.size).size <= 9223372036854775807 then (some (((x0.extract 0 (x1 : Int).toNat) ++ (⟨#[46]⟩ : ByteArray)) ++ (x0.extract (x1 : Int).toNat x0.size))) else (none)) else (none)) else (none)) else (none)) else ((strings_Repeat.f (⟨#[48]⟩ : ByteArray) (wrap64 (x1 - (x0.size : Int)))).bind fun t1569 => (if x0.size + t1569.size <= 9223372036854775807 then (some (x0 ++ t1569)) else (none)))))
def dec_place.f (k : Nat) (a0 : ByteArray) (a1 : Int) : Option (ByteArray) := if a1 < (-5) then (dec_place.j0 k a0 a1 true) else (dec_place.j0 k a0 a1 (decide (a1 > 21)))
theorem dec_place.calls (k : Nat) (a0 : ByteArray) (a1 : Int) (r : ByteArray) (w : World) (h : dec_place.f k a0 a1 = some r) :
  Calls Tryz.prog 113 #[.string a0, .int .i64 a1] w fun e w' => e = .returned (.string r) /\ Below w.heap.size w w' := by
 have HB := am (Below.refl w.heap.size w)
 have H : (if a1 < (-5) then (dec_place.j0 k a0 a1 true) else (dec_place.j0 k a0 a1 (decide (a1 > 21)))) = some r := h
 clear h
 have HC3 := am H
 clear H
 go_enter Tryz.func113, Tryz.ntmps113
 go_upto_region 1 with (fail)
 repeat (go_quiet (fail); go_upto_region 1 with (fail))
 go_cut [5] (fun v5 wc => ∃ (kq : Nat) (x5_2 : Bool), v5 = .bool x5_2 /\ Aside0 (dec_place.j0 kq a0 a1 x5_2 = some r) /\ Aside0 (kq <= k) /\ Aside0 (Below w.heap.size w wc))
 case first =>
  have H := HC3.out
  clear HC3
  by_cases c4 : a1 < (-5)
  ·rw [if_pos c4] at H
   have c4b0 : decide (a1 < (-5)) = true := decide_eq_true c4
   clear c4
   (first | rw [c4b0] | (simp only [i64_w, i32_w]; rw [c4b0]) | skip)
   have H' := am H
   clear H
   go_wp2
   repeat (go_quiet (fail); try go_wp2)
   go_meet
   case rel => exact ⟨_, (true), (by first | rfl | (simp; done) | (simp [*]; done)), H', ⟨by first | omega | exact Nat.le_refl _⟩, ⟨pB⟩⟩
  ·rw [if_neg c4] at H
   have c4b0 : decide (a1 < (-5)) = false := decide_eq_false c4
   clear c4
   (first | rw [c4b0] | (simp only [i64_w, i32_w]; rw [c4b0]) | skip)
   have H' := am H
   clear H
   go_wp2
   repeat (go_quiet (fail); try go_wp2)
   go_meet
   case rel => exact ⟨_, (decide (a1 > 21)), (by first | rfl | (simp; done) | (simp [*]; done)), H', ⟨by first | omega | exact Nat.le_refl _⟩, ⟨pB⟩⟩
 case rest =>
  clear HC3
  obtain ⟨kq, x5_2, rfl, HA, HJ2, HB⟩ := hcut
  cases kq with
  | zero => exact absurd HA.out (by simp [dec_place.j0])
  | succ kj2 =>
   have H := HA.out
   clear HA
   simp only [dec_place.j0] at H
   by_cases c5 : x5_2 = true
   ·subst c5
    rw [if_pos rfl] at H
    obtain ⟨t1567, A6, H⟩ := ob H
    obtain rfl := Option.some.inj H
    go_wp2_with (first | (go_at_call 145; (with_reducible refine (dec_far.calls kj2 a0 (wrap64 (a1 - 1)) t1567 _ A6.out).mono ?_); rintro e w7 ⟨rfl, hb⟩; replace HB := am (below_step pB hb); (try clear hb); (try clear hb2); (try clear hk); (try clear hi)))
    repeat (go_quiet (first | (go_at_call 145; (with_reducible refine (dec_far.calls kj2 a0 (wrap64 (a1 - 1)) t1567 _ A6.out).mono ?_); rintro e w7 ⟨rfl, hb⟩; replace HB := am (below_step pB hb); (try clear hb); (try clear hb2); (try clear hk); (try clear hi))); try go_wp2_with (first | (go_at_call 145; (with_reducible refine (dec_far.calls kj2 a0 (wrap64 (a1 - 1)) t1567 _ A6.out).mono ?_); rintro e w7 ⟨rfl, hb⟩; replace HB := am (below_step pB hb); (try clear hb); (try clear hb2); (try clear hk); (try clear hi))))
    go_ret
    exact ⟨pE, pB⟩
   ·replace c5 := Bool.eq_false_iff.mpr c5
    subst c5
    rw [if_neg (show ¬ (false = true) by decide)] at H
    by_cases c8 : a1 < 1
    ·rw [if_pos c8] at H
     have c8b0 : decide (a1 < 1) = true := decide_eq_true c8
     clear c8
     obtain ⟨t1568, A9, H⟩ := ob H
     by_cases c10 : 2 + t1568.size <= 9223372036854775807
     ·rw [if_pos c10] at H
      have c10b0 := eq_true c10
      have c10b1 : decide (2 + t1568.size <= 9223372036854775807) = true := decide_eq_true c10
      try have c10b2 : (9223372036854775807 < 2 + t1568.size) = False := eq_false (Nat.not_lt.2 c10)
      by_cases c11 : ((⟨#[48, 46]⟩ : ByteArray) ++ t1568).size + a0.size <= 9223372036854775807
      ·rw [if_pos c11] at H
       have c11b0 := eq_true c11
       have c11b1 : decide (((⟨#[48, 46]⟩ : ByteArray) ++ t1568).size + a0.size <= 9223372036854775807) = true := decide_eq_true c11
       try have c11b2 : (9223372036854775807 < ((⟨#[48, 46]⟩ : ByteArray) ++ t1568).size + a0.size) = False := eq_false (Nat.not_lt.2 c11)
       try have c11b3 : (9223372036854775807 < 2 + t1568.size + a0.size) = False := eq_false (Nat.not_lt.2 (by have q_ := c11; have l0_ : (⟨#[48, 46]⟩ : ByteArray).size = 2 := rfl; (try have h0_ := of_decide_eq_true c10b1); simp only [ByteArray.size_append, ByteArray.size_extract] at q_; omega))
       obtain rfl := Option.some.inj H
       go_wp2_with (first | (go_at_call 146; (with_reducible refine (strings_Repeat.calls (⟨#[48]⟩ : ByteArray) (wrap64 (-a1)) t1568 _ A9.out).mono ?_); rintro e w12 ⟨rfl, hb⟩; replace HB := am (below_step pB hb); (try clear hb); (try clear hb2); (try clear hk); (try clear hi)))
       repeat (go_quiet (first | (go_at_call 146; (with_reducible refine (strings_Repeat.calls (⟨#[48]⟩ : ByteArray) (wrap64 (-a1)) t1568 _ A9.out).mono ?_); rintro e w12 ⟨rfl, hb⟩; replace HB := am (below_step pB hb); (try clear hb); (try clear hb2); (try clear hk); (try clear hi))); try go_wp2_with (first | (go_at_call 146; (with_reducible refine (strings_Repeat.calls (⟨#[48]⟩ : ByteArray) (wrap64 (-a1)) t1568 _ A9.out).mono ?_); rintro e w12 ⟨rfl, hb⟩; replace HB := am (below_step pB hb); (try clear hb); (try clear hb2); (try clear hk); (try clear hi))))
       go_ret
       exact ⟨pE, pB⟩
      ·rw [if_neg c11] at H
       exact absurd H (by simp)
     ·rw [if_neg c10] at H
      exact absurd H (by simp)
    ·rw [if_neg c8] at H
     have c8b0 : decide (a1 < 1) = false := decide_eq_false c8
     clear c8
     by_cases c13 : a1 < (a0.size : Int)
     ·rw [if_pos c13] at H
      have c13b0 : decide (a1 < (a0.size : Int)) = true := decide_eq_true c13
      clear c13
      by_cases c14 : 0 <= a1
      ·rw [if_pos c14] at H
       have c14b0 := eq_true c14
       have c14b1 : decide (0 <= a1) = true := decide_eq_true c14
       clear c14
       by_cases c15 : a1 <= (a0.size : Int)
       ·rw [if_pos c15] at H
        have c15b0 := eq_true c15
        have c15b1 : decide (a1 <= (a0.size : Int)) = true := decide_eq_true c15
        clear c15
        by_cases c16 : (a0.extract 0 (a1 : Int).toNat).size + 1 <= 9223372036854775807
        ·rw [if_pos c16] at H
         have c16b0 := eq_true c16
         have c16b1 : decide ((a0.extract 0 (a1 : Int).toNat).size + 1 <= 9223372036854775807) = true := decide_eq_true c16
         try have c16b2 : (9223372036854775807 < (a0.extract 0 (a1 : Int).toNat).size + 1) = False := eq_false (Nat.not_lt.2 c16)
         try have c16b3 : (9223372036854775807 < (a1 : Int).toNat + 1) = False := eq_false (Nat.not_lt.2 (by have q_ := c16; (try have h0_ := of_decide_eq_true c10b1); (try have h1_ := of_decide_eq_true c11b1); (try have h2_ := of_decide_eq_true c14b1); (try have h3_ := of_decide_eq_true c15b1); simp only [ByteArray.size_append, ByteArray.size_extract] at q_; omega))
         have c17b0 := eq_true (of_decide_eq_true pQ : 0 <= a1)
         have c18b0 := eq_true (of_decide_eq_true pQ : a1 <= (a0.size : Int))
         by_cases c19 : ((a0.extract 0 (a1 : Int).toNat) ++ (⟨#[46]⟩ : ByteArray)).size + (a0.extract (a1 : Int).toNat a0.size).size <= 9223372036854775807
         ·rw [if_pos c19] at H
          have c19b0 := eq_true c19
          have c19b1 : decide (((a0.extract 0 (a1 : Int).toNat) ++ (⟨#[46]⟩ : ByteArray)).size + (a0.extract (a1 : Int).toNat a0.size).size <= 9223372036854775807) = true := decide_eq_true c19
          try have c19b2 : (9223372036854775807 < ((a0.extract 0 (a1 : Int).toNat) ++ (⟨#[46]⟩ : ByteArray)).size + (a0.extract (a1 : Int).toNat a0.size).size) = False := eq_false (Nat.not_lt.2 c19)
          try have c19b3 : (9223372036854775807 < (a1 : Int).toNat + 1 + (a0.size - (a1 : Int).toNat)) = False := eq_false (Nat.not_lt.2 (by have q_ := c19; have l0_ : (⟨#[46]⟩ : ByteArray).size = 1 := rfl; (try have h0_ := of_decide_eq_true c10b1); (try have h1_ := of_decide_eq_true c11b1); (try have h2_ := of_decide_eq_true c14b1); (try have h3_ := of_decide_eq_true c15b1); (try have h4_ := of_decide_eq_true c16b1); simp only [ByteArray.size_append, ByteArray.size_extract] at q_; omega))
          obtain rfl := Option.some.inj H
          go_wp2
          repeat (go_quiet (fail); try go_wp2)
          go_ret
          exact ⟨pE, pB⟩
         ·rw [if_neg c19] at H
          exact absurd H (by simp)
        ·rw [if_neg c16] at H
         exact absurd H (by simp)
       ·rw [if_neg c15] at H
        exact absurd H (by simp)
      ·rw [if_neg c14] at H
       exact absurd H (by simp)
     ·rw [if_neg c13] at H
      have c13b0 : decide (a1 < (a0.size : Int)) = false := decide_eq_false c13
      clear c13
      obtain ⟨t1569, A20, H⟩ := ob H
      by_cases c21 : a0.size + t1569.size <= 9223372036854775807
      ·rw [if_pos c21] at H
       have c21b0 := eq_true c21
       have c21b1 : decide (a0.size + t1569.size <= 9223372036854775807) = true := decide_eq_true c21
       try have c21b2 : (9223372036854775807 < a0.size + t1569.size) = False := eq_false (Nat.not_lt.2 c21)
       obtain rfl := Option.some.inj H
       go_wp2_with (first | (go_at_call 146; (with_reducible refine (strings_Repeat.calls (⟨#[48]⟩ : ByteArray) (wrap64 (a1 - (a0.size : Int))) t1569 _ A20.out).mono ?_); rintro e w22 ⟨rfl, hb⟩; replace HB := am (below_step pB hb); (try clear hb); (try clear hb2); (try clear hk); (try clear hi)))
       repeat (go_quiet (first | (go_at_call 146; (with_reducible refine (strings_Repeat.calls (⟨#[48]⟩ : ByteArray) (wrap64 (a1 - (a0.size : Int))) t1569 _ A20.out).mono ?_); rintro e w22 ⟨rfl, hb⟩; replace HB := am (below_step pB hb); (try clear hb); (try clear hb2); (try clear hk); (try clear hi))); try go_wp2_with (first | (go_at_call 146; (with_reducible refine (strings_Repeat.calls (⟨#[48]⟩ : ByteArray) (wrap64 (a1 - (a0.size : Int))) t1569 _ A20.out).mono ?_); rintro e w22 ⟨rfl, hb⟩; replace HB := am (below_step pB hb); (try clear hb); (try clear hb2); (try clear hk); (try clear hi))))
       go_ret
       exact ⟨pE, pB⟩
      ·rw [if_neg c21] at H
       exact absurd H (by simp)
def dec_Print.f (k : Nat) (a0_0 : Bool) (l0_1 : List Int) (a0_2 : Int) : Option (ByteArray × Int) := (dec_Check.f k a0_0 l0_1 a0_2).bind fun t1571 => (if t1571 = 0 then (if (l0_1.length : Int) = 0 then (some ((⟨#[48]⟩ : ByteArray), 0)) else ((nat_Print.f k l0_1).bind fun bt1572 => ((dec_must2.f bt1572.1 bt1572.2).bind fun t1574 => (if a0_0 = true then ((dec_place.f k t1574 (wrap64 ((t1574.size : Int) + a0_2))).bind fun t1575 => (if 1 + t1575.size <= 9223372036854775807 then (some ((⟨#[45]⟩ : ByteArray) ++ t1575, 0)) else (none))) else ((dec_place.f k t1574 (wrap64 ((t1574.size : Int) + a0_2))).bind fun t1576 => (if 0 + t1576.size <= 9223372036854775807 then (some ((⟨#[]⟩ : ByteArray) ++ t1576, 0)) else (none))))))) else (some ((⟨#[]⟩ : ByteArray), t1571)))
theorem dec_Print.leaf {P : Prop} (h : P := by
 go_enter Tryz.func56, Tryz.ntmps56
 go_wp2_with (first | ((with_reducible refine gate_dst (N := 1) rfl ?_); refine box_event ?hg (N := 1) ?hd (cs := #[.bool true, .slice A0_1 l0_1.length c0_1, .int .i64 a0_2]) (t := 24) ?hr ?_; (case hd => rfl); (case hg => rfl); (case hr => first | (go_simp; done) | (go_simp; rfl)); intro gb0z hg w1z hbox hb; have n0_ := am (below_step pB hb); have n1_ := am (hbox); have n2_ := am ((gw hg pB : w.heap.size <= gb0z)); have n3_ := am ((gw hg pB : w.heap.size <= gb0z)); clear HB; have HB := n0_; have BK2z := n1_; have GW3z := n2_; have GE4z := n3_; clear n0_ n1_ n2_ n3_ hb hbox hg; obtain ⟨hcz5z, hcz6z, hcz7z, hfz8z, hfz9z, hfz10z⟩ := cEc BK2z.out) | (refine gL (some 8) Tryz.func55 #[.agg #[.bool true, .slice A0_1 l0_1.length c0_1, .int .i64 a0_2]] (h := ?_); (with_reducible refine (dec_Check.calls k true _ _ l0_1 a0_2 t1571 _ ?side1 ?side2 A2.out).mono ?_); (case side1 => refine cp ?_; exact (Kd.C_below HR0_1.out HB.out)); (case side2 => exact HC0_1.out); rintro e w11z ⟨rfl, hb⟩; refine ⟨_, rfl, ?_⟩; replace BK2z := am (blk_below (blk_below BK2z.out pl) hb); replace HB := am (below_step pB hb); (try clear hb); (try clear hb12z); (try clear hk); (try clear hi); obtain ⟨hcz13z, hcz14z, hcz15z, hfz16z, hfz17z, hfz18z⟩ := cEc BK2z.out) | (refine gL (some 18) Tryz.func112 #[.slice A0_1 l0_1.length c0_1] (h := ?_); (with_reducible refine (nat_Print.calls k (fun k_ => k_ < w.heap.size) _ _ l0_1 t1572 t1573 _ ?side1 A9.out).mono ?_); (case side1 => exact Kd.V_mk HC0_1.out (Kd.F_below (Kd.C_F (Kd.heap_int .u32) HR0_1.out) pB)); rintro e w19z ⟨rfl, hb⟩; refine ⟨_, rfl, ?_⟩; replace BK2z := am (blk_below (blk_below BK2z.out pl) hb); replace HB := am (below_step pB hb); (try clear hb); (try clear hb12z); (try clear hk); (try clear hi)) | (refine gL (some 21) Tryz.func111 #[.string t1572, .int .i64 t1573] (h := ?_); (with_reducible refine (dec_must2.calls t1572 t1573 t1574 _ A10.out).mono ?_); rintro e w' ⟨rfl, ⟨nd, rfl⟩⟩; refine ⟨_, rfl, ?_⟩; obtain ⟨hcz20z, hcz21z, hcz22z, hfz23z, hfz24z, hfz25z⟩ := cEc BK2z.out) | (refine gL (some 31) Tryz.func113 #[.string t1574, .int .i64 (wrap64 ((t1574.size : Int) + a0_2))] (h := ?_); (with_reducible refine (dec_place.calls k t1574 (wrap64 ((t1574.size : Int) + a0_2)) t1575 _ A12.out).mono ?_); rintro e w26z ⟨rfl, hb⟩; refine ⟨_, rfl, ?_⟩; replace BK2z := am (blk_below (blk_below BK2z.out pl) hb); replace HB := am (below_step pB hb); (try clear hb); (try clear hb12z); (try clear hk); (try clear hi)) | ((with_reducible refine gate_dst (N := 1) rfl ?_); refine box_event ?hg (N := 1) ?hd (cs := #[.bool false, .slice A0_1 l0_1.length c0_1, .int .i64 a0_2]) (t := 24) ?hr ?_; (case hd => rfl); (case hg => rfl); (case hr => first | (go_simp; done) | (go_simp; rfl)); intro gb0z hg w1z hbox hb; have n0_ := am (below_step pB hb); have n1_ := am (hbox); have n2_ := am ((gw hg pB : w.heap.size <= gb0z)); have n3_ := am ((gw hg pB : w.heap.size <= gb0z)); clear HB; have HB := n0_; have BK2z := n1_; have GW3z := n2_; have GE4z := n3_; clear n0_ n1_ n2_ n3_ hb hbox hg; obtain ⟨hcz5z, hcz6z, hcz7z, hfz8z, hfz9z, hfz10z⟩ := cEc BK2z.out) | (refine gL (some 8) Tryz.func55 #[.agg #[.bool false, .slice A0_1 l0_1.length c0_1, .int .i64 a0_2]] (h := ?_); (with_reducible refine (dec_Check.calls k false _ _ l0_1 a0_2 t1571 _ ?side1 ?side2 A2.out).mono ?_); (case side1 => refine cp ?_; exact (Kd.C_below HR0_1.out HB.out)); (case side2 => exact HC0_1.out); rintro e w11z ⟨rfl, hb⟩; refine ⟨_, rfl, ?_⟩; replace BK2z := am (blk_below (blk_below BK2z.out pl) hb); replace HB := am (below_step pB hb); (try clear hb); (try clear hb12z); (try clear hk); (try clear hi); obtain ⟨hcz13z, hcz14z, hcz15z, hfz16z, hfz17z, hfz18z⟩ := cEc BK2z.out) | (refine gL (some 31) Tryz.func113 #[.string t1574, .int .i64 (wrap64 ((t1574.size : Int) + a0_2))] (h := ?_); (with_reducible refine (dec_place.calls k t1574 (wrap64 ((t1574.size : Int) + a0_2)) t1576 _ A21.out).mono ?_); rintro e w26z ⟨rfl, hb⟩; refine ⟨_, rfl, ?_⟩; replace BK2z := am (blk_below (blk_below BK2z.out pl) hb); replace HB := am (below_step pB hb); (try clear hb); (try clear hb12z); (try clear hk); (try clear hi)) | ((with_reducible refine gate_dst (N := 1) rfl ?_); refine box_event ?hg (N := 1) ?hd (cs := #[.bool a0_0, .slice A0_1 l0_1.length c0_1, .int .i64 a0_2]) (t := 24) ?hr ?_; (case hd => rfl); (case hg => rfl); (case hr => first | (go_simp; done) | (go_simp; rfl)); intro gb0z hg w1z hbox hb; have n0_ := am (below_step pB hb); have n1_ := am (hbox); have n2_ := am ((gw hg pB : w.heap.size <= gb0z)); have n3_ := am ((gw hg pB : w.heap.size <= gb0z)); clear HB; have HB := n0_; have BK2z := n1_; have GW3z := n2_; have GE4z := n3_; clear n0_ n1_ n2_ n3_ hb hbox hg; obtain ⟨hcz5z, hcz6z, hcz7z, hfz8z, hfz9z, hfz10z⟩ := cEc BK2z.out) | ((have q_ : ((l0_1.length : Int) != 0) = false := c4b1; clear q_); refine gL (some 8) Tryz.func55 #[.agg #[.bool a0_0, .slice A0_1 l0_1.length c0_1, .int .i64 a0_2]] (h := ?_); (with_reducible refine (dec_Check.calls k a0_0 _ _ l0_1 a0_2 t1571 _ ?side1 ?side2 A2.out).mono ?_); (case side1 => refine cp ?_; exact (Kd.C_below HR0_1.out HB.out)); (case side2 => exact HC0_1.out); rintro e w11z ⟨rfl, hb⟩; refine ⟨_, rfl, ?_⟩; replace BK2z := am (blk_below (blk_below BK2z.out pl) hb); replace HB := am (below_step pB hb); (try clear hb); (try clear hb12z); (try clear hk); (try clear hi); obtain ⟨hcz13z, hcz14z, hcz15z, hfz16z, hfz17z, hfz18z⟩ := cEc BK2z.out) | ((have q_ : (t1571 != 0) = true := c3b1; clear q_); refine gL (some 8) Tryz.func55 #[.agg #[.bool a0_0, .slice A0_1 l0_1.length c0_1, .int .i64 a0_2]] (h := ?_); (with_reducible refine (dec_Check.calls k a0_0 _ _ l0_1 a0_2 t1571 _ ?side1 ?side2 A2.out).mono ?_); (case side1 => refine cp ?_; exact (Kd.C_below HR0_1.out HB.out)); (case side2 => exact HC0_1.out); rintro e w11z ⟨rfl, hb⟩; refine ⟨_, rfl, ?_⟩; replace BK2z := am (blk_below (blk_below BK2z.out pl) hb); replace HB := am (below_step pB hb); (try clear hb); (try clear hb12z); (try clear hk); (try clear hi)))
 go_ret2
 exact ⟨pE, pB⟩) : P := h
theorem dec_Print.calls (k : Nat) (a0_0 : Bool) (A0_1 : Option Addr) (c0_1 : Nat) (l0_1 : List Int) (a0_2 : Int) (r1 : ByteArray) (r2 : Int) (w : World) (hr0_1 : Kd.C (Kd.int .u32) w A0_1 l0_1.length l0_1) (hc0_1 : l0_1.length <= c0_1) (h : dec_Print.f k a0_0 l0_1 a0_2 = some (r1, r2)) :
  Calls Tryz.prog 56 #[.agg #[.bool a0_0, .slice A0_1 l0_1.length c0_1, .int .i64 a0_2]] w fun e w' => e = .returned (.tuple #[.string r1, .int .i64 r2]) /\ Below w.heap.size w w' := by
 have hu24 := Tryz.underlying24
 have HR0_1 := am hr0_1
 have HC0_1 := am hc0_1
 clear hr0_1 hc0_1
 have HB := am (Below.refl w.heap.size w)
 have H : ((dec_Check.f k a0_0 l0_1 a0_2).bind fun t1571 => (if t1571 = 0 then (if (l0_1.length : Int) = 0 then (some ((⟨#[48]⟩ : ByteArray), 0)) else ((nat_Print.f k l0_1).bind fun bt1572 => ((dec_must2.f bt1572.1 bt1572.2).bind fun t1574 => (if a0_0 = true then ((dec_place.f k t1574 (wrap64 ((t1574.size : Int) + a0_2))).bind fun t1575 => (if 1 + t1575.size <= 9223372036854775807 then (some ((⟨#[45]⟩ : ByteArray) ++ t1575, 0)) else (none))) else ((dec_place.f k t1574 (wrap64 ((t1574.size : Int) + a0_2))).bind fun t1576 => (if 0 + t1576.size <= 9223372036854775807 then (some ((⟨#[]⟩ : ByteArray) ++ t1576, 0)) else (none))))))) else (some ((⟨#[]⟩ : ByteArray), t1571)))) = some (r1, r2) := h
 clear h
 obtain ⟨t1571, A2, H⟩ := ob H
 by_cases c3 : t1571 = 0
 ·rw [if_pos c3] at H
  have c3b0 : (t1571 == 0) = true := beq_iff_eq.mpr c3
  have c3b1 : (t1571 != 0) = false := bne_eq_false_iff_eq.mpr c3
  clear c3
  by_cases c4 : (l0_1.length : Int) = 0
  ·rw [if_pos c4] at H
   have c4b0 : ((l0_1.length : Int) == 0) = true := beq_iff_eq.mpr c4
   have c4b1 : ((l0_1.length : Int) != 0) = false := bne_eq_false_iff_eq.mpr c4
   clear c4
   simp only [Option.some.injEq, Prod.mk.injEq] at H
   obtain ⟨rfl, rfl⟩ := H
   exact dec_Print.leaf
  ·rw [if_neg c4] at H
   have c4b0 : ((l0_1.length : Int) == 0) = false := beq_eq_false_iff_ne.mpr c4
   have c4b1 : ((l0_1.length : Int) != 0) = true := bne_iff_ne.mpr c4
   have c4b2 : ¬ (l0_1 = []) := fun h_ => c4 (by rw [h_]; rfl)
   obtain ⟨⟨t1572, t1573⟩, A9, H⟩ := ob H; (try dsimp only at H)
   obtain ⟨t1574, A10, H⟩ := ob H
   by_cases c11 : a0_0 = true
   ·subst c11
    rw [if_pos rfl] at H
    obtain ⟨t1575, A12, H⟩ := ob H
    by_cases c13 : 1 + t1575.size <= 9223372036854775807
    ·rw [if_pos c13] at H
     have c13b0 := eq_true c13
     have c13b1 : decide (1 + t1575.size <= 9223372036854775807) = true := decide_eq_true c13
     try have c13b2 : (9223372036854775807 < 1 + t1575.size) = False := eq_false (Nat.not_lt.2 c13)
     simp only [Option.some.injEq, Prod.mk.injEq] at H
     obtain ⟨rfl, rfl⟩ := H
     exact dec_Print.leaf
    ·rw [if_neg c13] at H
     exact absurd H (by simp)
   ·replace c11 := Bool.eq_false_iff.mpr c11
    subst c11
    rw [if_neg (show ¬ (false = true) by decide)] at H
    obtain ⟨t1576, A21, H⟩ := ob H
    by_cases c22 : 0 + t1576.size <= 9223372036854775807
    ·rw [if_pos c22] at H
     have c22b0 := eq_true c22
     have c22b1 : decide (0 + t1576.size <= 9223372036854775807) = true := decide_eq_true c22
     try have c22b2 : (9223372036854775807 < 0 + t1576.size) = False := eq_false (Nat.not_lt.2 c22)
     simp only [Option.some.injEq, Prod.mk.injEq] at H
     obtain ⟨rfl, rfl⟩ := H
     exact dec_Print.leaf
    ·rw [if_neg c22] at H
     exact absurd H (by simp)
 ·rw [if_neg c3] at H
  have c3b0 : (t1571 == 0) = false := beq_eq_false_iff_ne.mpr c3
  have c3b1 : (t1571 != 0) = true := bne_iff_ne.mpr c3
  simp only [Option.some.injEq, Prod.mk.injEq] at H
  obtain ⟨rfl, rfl⟩ := H
  exact dec_Print.leaf
def bolterref02_digit.f (a0 : ByteArray) (a1 : Int) : Option (Bool) := if a1 < (a0.size : Int) then (if 0 <= a1 then (if (bt a0 a1) >= 48 then (some (decide ((bt a0 a1) <= 57))) else (some false)) else (none)) else (some false)
theorem bolterref02_digit.calls (a0 : ByteArray) (a1 : Int) (r : Bool) (w : World) (h : bolterref02_digit.f a0 a1 = some r) :
  Calls Tryz.prog 153 #[.string a0, .int .i64 a1] w fun e w' => e = .returned (.bool r) /\ Drawn0 w w' := by
 have H : (if a1 < (a0.size : Int) then (if 0 <= a1 then (if (bt a0 a1) >= 48 then (some (decide ((bt a0 a1) <= 57))) else (some false)) else (none)) else (some false)) = some r := h
 clear h
 by_cases c3 : a1 < (a0.size : Int)
 ·rw [if_pos c3] at H
  have c3b0 : decide (a1 < (a0.size : Int)) = true := decide_eq_true c3
  clear c3
  by_cases c4 : 0 <= a1
  ·rw [if_pos c4] at H
   have c4b0 : decide (0 <= a1) = true := decide_eq_true c4
   clear c4
   by_cases c6 : (bt a0 a1) >= 48
   ·rw [if_pos c6] at H
    have c6b0 : decide (48 <= (bt a0 a1)) = true := decide_eq_true c6
    clear c6
    obtain rfl := Option.some.inj H
    have p5 : 0 <= (a1 : Int) := of_decide_eq_true pQ
    have q5 : a1 < (a0.size : Int) := of_decide_eq_true pQ
    have hx5 := bt_at a0 a1
    replace p5 := eq_true p5
    replace q5 := eq_true q5
    have p7 : 0 <= (a1 : Int) := of_decide_eq_true pQ
    have q7 : a1 < (a0.size : Int) := of_decide_eq_true pQ
    have hx7 := bt_at a0 a1
    replace p7 := eq_true p7
    replace q7 := eq_true q7
    go_enter Tryz.func153, Tryz.ntmps153
    go_wp2
    go_ret
    exact ⟨by first | rfl | (simp; done) | (simp [*]; done), by repeat (first | exact Drawn0.refl _ | apply Drawn0.step)⟩
   ·rw [if_neg c6] at H
    have c6b0 : decide (48 <= (bt a0 a1)) = false := decide_eq_false c6
    clear c6
    obtain rfl := Option.some.inj H
    have p5 : 0 <= (a1 : Int) := of_decide_eq_true pQ
    have q5 : a1 < (a0.size : Int) := of_decide_eq_true pQ
    have hx5 := bt_at a0 a1
    replace p5 := eq_true p5
    replace q5 := eq_true q5
    go_enter Tryz.func153, Tryz.ntmps153
    go_wp2
    go_ret
    exact ⟨by first | rfl | (simp; done) | (simp [*]; done), by repeat (first | exact Drawn0.refl _ | apply Drawn0.step)⟩
  ·rw [if_neg c4] at H
   exact absurd H (by simp)
 ·rw [if_neg c3] at H
  have c3b0 : decide (a1 < (a0.size : Int)) = false := decide_eq_false c3
  clear c3
  obtain rfl := Option.some.inj H
  go_enter Tryz.func153, Tryz.ntmps153
  go_wp2
  go_ret
  exact ⟨by first | rfl | (simp; done) | (simp [*]; done), by repeat (first | exact Drawn0.refl _ | apply Drawn0.step)⟩
mutual
def bolterref02_Ends.j0 : Nat -> ByteArray -> Int -> Bool -> Option (Int × Bool)
 | 0, _, _, _ => none
 | k + 1, x0, x1, x15 => if x15 = true then (bolterref02_Ends.j1 k x0 (wrap64 (x1 + 1))) else (bolterref02_Ends.j1 k x0 x1)
def bolterref02_Ends.j1 : Nat -> ByteArray -> Int -> Option (Int × Bool)
 | 0, _, _ => none
 | k + 1, x0, x1 => (bolterref02_digit.f x0 x1).bind fun t534 => (if t534 = true then (if 0 <= x1 then (if x1 < (x0.size : Int) then (if (bt x0 x1) = 48 then (bolterref02_Ends.j3 k x0 (wrap64 (x1 + 1))) else (bolterref02_Ends.l0 k x0 x1)) else (none)) else (none)) else (some (x1, false)))
def bolterref02_Ends.j3 : Nat -> ByteArray -> Int -> Option (Int × Bool)
 | 0, _, _ => none
 | k + 1, x0, x1 => if x1 < (x0.size : Int) then (if 0 <= x1 then (bolterref02_Ends.j4 k x0 x1 ((bt x0 x1) == 46)) else (none)) else (bolterref02_Ends.j4 k x0 x1 false)
def bolterref02_Ends.j4 : Nat -> ByteArray -> Int -> Bool -> Option (Int × Bool)
 | 0, _, _, _ => none
 | k + 1, x0, x1, x43 => if x43 = true then ((bolterref02_digit.f x0 (wrap64 (x1 + 1))).bind fun t536 => (if t536 = true then (bolterref02_Ends.l1 k x0 (wrap64 (x1 + 1))) else (some (wrap64 (x1 + 1), false)))) else (bolterref02_Ends.j6 k x0 x1)
def bolterref02_Ends.j6 : Nat -> ByteArray -> Int -> Option (Int × Bool)
 | 0, _, _ => none
 | k + 1, x0, x1 => if x1 < (x0.size : Int) then (if 0 <= x1 then (if (bt x0 x1) = 101 then (bolterref02_Ends.j7 k x0 x1 true) else (bolterref02_Ends.j7 k x0 x1 ((bt x0 x1) == 69))) else (none)) else (bolterref02_Ends.j7 k x0 x1 false)
def bolterref02_Ends.j7 : Nat -> ByteArray -> Int -> Bool -> Option (Int × Bool)
 | 0, _, _, _ => none
 | k + 1, x0, x1, x71 => if x71 = true then (if (wrap64 (x1 + 1)) < (x0.size : Int) then (if 0 <= (wrap64 (x1 + 1)) then (if (bt x0 (wrap64 (x1 + 1))) = 43 then (bolterref02_Ends.j8 k x0 (wrap64 (x1 + 1)) true) else (bolterref02_Ends.j8 k x0 (wrap64 (x1 + 1)) ((bt x0 (wrap64 (x1 + 1))) == 45))) else (none)) else (bolterref02_Ends.j8 k x0 (wrap64 (x1 + 1)) false)) else (some (x1, true))
def bolterref02_Ends.j8 : Nat -> ByteArray -> Int -> Bool -> Option (Int × Bool)
 | 0, _, _, _ => none
 | k + 1, x0, x1, x89 => if x89 = true then (bolterref02_Ends.j9 k x0 (wrap64 (x1 + 1))) else (bolterref02_Ends.j9 k x0 x1)
def bolterref02_Ends.j9 : Nat -> ByteArray -> Int -> Option (Int × Bool)
 | 0, _, _ => none
 | k + 1, x0, x1 => (bolterref02_digit.f x0 x1).bind fun t538 => (if t538 = true then (bolterref02_Ends.l2 k x0 x1) else (some (x1, false)))
def bolterref02_Ends.l2 : Nat -> ByteArray -> Int -> Option (Int × Bool)
 | 0, _, _ => none
 | k + 1, x0, x1 => (bolterref02_digit.f x0 x1).bind fun t539 => (if t539 = true then (bolterref02_Ends.l2 k x0 (wrap64 (x1 + 1))) else (some (x1, true)))
def bolterref02_Ends.l1 : Nat -> ByteArray -> Int -> Option (Int × Bool)
 | 0, _, _ => none
 | k + 1, x0, x1 => (bolterref02_digit.f x0 x1).bind fun t537 => (if t537 = true then (bolterref02_Ends.l1 k x0 (wrap64 (x1 + 1))) else (bolterref02_Ends.j6 k x0 x1))
def bolterref02_Ends.l0 : Nat -> ByteArray -> Int -> Option (Int × Bool)
 | 0, _, _ => none
 | k + 1, x0, x1 => (bolterref02_digit.f x0 x1).bind fun t535 => (if t535 = true then (bolterref02_Ends.l0 k x0 (wrap64 (x1 + 1))) else (bolterref02_Ends.j3 k x0 x1))
end
def bolterref02_Ends.f (k : Nat) (a0 : ByteArray) (a1 : Int) : Option (Int × Bool) := if a1 < (a0.size : Int) then (if 0 <= a1 then (bolterref02_Ends.j0 k a0 a1 ((bt a0 a1) == 45)) else (none)) else (bolterref02_Ends.j0 k a0 a1 false)
theorem bolterref02_Ends.calls (k : Nat) (a0 : ByteArray) (a1 : Int) (r1 : Int) (r2 : Bool) (w : World) (h : bolterref02_Ends.f k a0 a1 = some (r1, r2)) :
  Calls Tryz.prog 117 #[.string a0, .int .i64 a1] w fun e w' => e = .returned (.tuple #[.int .i64 r1, .bool r2]) /\ Drawn0 w w' := by
 have H : (if a1 < (a0.size : Int) then (if 0 <= a1 then (bolterref02_Ends.j0 k a0 a1 ((bt a0 a1) == 45)) else (none)) else (bolterref02_Ends.j0 k a0 a1 false)) = some (r1, r2) := h
 clear h
 have HC3 := am H
 clear H
 go_enter Tryz.func117, Tryz.ntmps117
 go_upto_region 1 with (fail)
 go_cut [15] (fun v15 wc => ∃ (kq : Nat) (x15_2 : Bool), v15 = .bool x15_2 /\ Aside0 (bolterref02_Ends.j0 kq a0 a1 x15_2 = some (r1, r2)) /\ Aside0 (kq <= k) /\ Drawn0 w wc)
 case first =>
  have H := HC3.out
  clear HC3
  by_cases c4 : a1 < (a0.size : Int)
  ·rw [if_pos c4] at H
   have c4b0 : decide (a1 < (a0.size : Int)) = true := decide_eq_true c4
   clear c4
   (first | rw [c4b0] | (simp only [i64_w, i32_w]; rw [c4b0]) | skip)
   by_cases c5 : 0 <= a1
   ·rw [if_pos c5] at H
    have c5b0 : decide (0 <= a1) = true := decide_eq_true c5
    clear c5
    have H' := am H
    clear H
    have p6 : 0 <= (a1 : Int) := of_decide_eq_true pQ
    have q6 : a1 < (a0.size : Int) := of_decide_eq_true pQ
    have hx6 := bt_at a0 a1
    replace p6 := eq_true p6
    replace q6 := eq_true q6
    go_wp2
    go_meet
    case rel => exact ⟨_, (((bt a0 a1) == 45)), (by first | rfl | (simp; done) | (simp [*]; done)), H', ⟨by first | omega | exact Nat.le_refl _⟩, by repeat (first | exact Drawn0.refl _ | apply Drawn0.step)⟩
   ·rw [if_neg c5] at H
    exact absurd H (by simp)
  ·rw [if_neg c4] at H
   have c4b0 : decide (a1 < (a0.size : Int)) = false := decide_eq_false c4
   clear c4
   (first | rw [c4b0] | (simp only [i64_w, i32_w]; rw [c4b0]) | skip)
   have H' := am H
   clear H
   go_wp2
   go_meet
   case rel => exact ⟨_, (false), (by first | rfl | (simp; done) | (simp [*]; done)), H', ⟨by first | omega | exact Nat.le_refl _⟩, by repeat (first | exact Drawn0.refl _ | apply Drawn0.step)⟩
 case rest =>
  clear HC3
  obtain ⟨kq, x15_2, rfl, HA, HJ2, ⟨mc2, rfl⟩⟩ := hcut
  cases kq with
  | zero => exact absurd HA.out (by simp [bolterref02_Ends.j0])
  | succ kj2 =>
   have H := HA.out
   clear HA
   simp only [bolterref02_Ends.j0] at H
   have HC7 := am H
   clear H
   go_upto_if 15 with (fail)
   go_cut [1] (fun v1 wc => ∃ (kq : Nat) (x1_6 : Int), v1 = .int .i64 x1_6 /\ Aside0 (bolterref02_Ends.j1 kq a0 x1_6 = some (r1, r2)) /\ Aside0 (kq <= kj2) /\ Drawn0 w wc)
   case first =>
    have H := HC7.out
    clear HC7
    by_cases c8 : x15_2 = true
    ·subst c8
     rw [if_pos rfl] at H
     have H' := am H
     clear H
     go_wp2
     go_meet
     case rel => exact ⟨_, (wrap64 (a1 + 1)), (by first | rfl | (simp; done) | (simp [*]; done)), H', ⟨by have := HJ2.out; first | omega | exact Nat.le_refl _⟩, by repeat (first | exact Drawn0.refl _ | apply Drawn0.step)⟩
    ·replace c8 := Bool.eq_false_iff.mpr c8
     subst c8
     rw [if_neg (show ¬ (false = true) by decide)] at H
     have H' := am H
     clear H
     go_wp2
     go_meet
     case rel => exact ⟨_, (a1), (by first | rfl | (simp; done) | (simp [*]; done)), H', ⟨by have := HJ2.out; first | omega | exact Nat.le_refl _⟩, by repeat (first | exact Drawn0.refl _ | apply Drawn0.step)⟩
   case rest =>
    clear HC7
    obtain ⟨kq, x1_6, rfl, HA, HJ6, ⟨mc6, rfl⟩⟩ := hcut
    cases kq with
    | zero => exact absurd HA.out (by simp [bolterref02_Ends.j1])
    | succ kj6 =>
     have H := HA.out
     clear HA
     simp only [bolterref02_Ends.j1] at H
     obtain ⟨t534, A9, H⟩ := ob H
     by_cases c10 : t534 = true
     ·subst c10
      rw [if_pos rfl] at H
      by_cases c11 : 0 <= x1_6
      ·rw [if_pos c11] at H
       have c11b0 : decide (0 <= x1_6) = true := decide_eq_true c11
       clear c11
       by_cases c12 : x1_6 < (a0.size : Int)
       ·rw [if_pos c12] at H
        have c12b0 : decide (x1_6 < (a0.size : Int)) = true := decide_eq_true c12
        clear c12
        have HC14 := am H
        clear H
        go_upto_if 26 with (first | (refine gL (some 20) Tryz.func153 #[.string a0, .int .i64 x1_6] (h := ?_); (with_reducible refine (bolterref02_digit.calls a0 x1_6 true _ A9.out).mono ?_); rintro e w' ⟨rfl, ⟨nd, rfl⟩⟩; refine ⟨_, rfl, ?_⟩; have p13 : 0 <= (x1_6 : Int) := of_decide_eq_true pQ; have q13 : x1_6 < (a0.size : Int) := of_decide_eq_true pQ; have hx13 := bt_at a0 x1_6; replace p13 := eq_true p13; replace q13 := eq_true q13))
        (try simp only [Act.put, List.setIfInBounds_toArray, List.set_cons_zero, List.set_cons_succ])
        go_cut [1] (fun v1 wc => ∃ (kq : Nat) (x1_13 : Int), v1 = .int .i64 x1_13 /\ Aside0 (bolterref02_Ends.j3 kq a0 x1_13 = some (r1, r2)) /\ Aside0 (kq <= kj6) /\ Drawn0 w wc)
        case first =>
         have H := HC14.out
         clear HC14
         by_cases c15 : (bt a0 x1_6) = 48
         ·rw [if_pos c15] at H
          have c15b0 : ((bt a0 x1_6) == 48) = true := beq_iff_eq.mpr c15
          have c15b1 : ((bt a0 x1_6) != 48) = false := bne_eq_false_iff_eq.mpr c15
          clear c15
          (first | rw [c15b0] | (simp only [i64_w, i32_w]; rw [c15b0]) | skip)
          have H' := am H
          clear H
          go_wp2
          go_meet
          case rel => exact ⟨_, (wrap64 (x1_6 + 1)), (by first | rfl | (simp; done) | (simp [*]; done)), H', ⟨by have := HJ2.out; have := HJ6.out; first | omega | exact Nat.le_refl _⟩, by repeat (first | exact Drawn0.refl _ | apply Drawn0.step)⟩
         ·rw [if_neg c15] at H
          have c15b0 : ((bt a0 x1_6) == 48) = false := beq_eq_false_iff_ne.mpr c15
          have c15b1 : ((bt a0 x1_6) != 48) = true := bne_iff_ne.mpr c15
          (first | rw [c15b0] | (simp only [i64_w, i32_w]; rw [c15b0]) | skip)
          have H' := am H
          clear H
          go_wp2
          go_loopg [1] kj6 (fun kq v1 w' => ∃ (x1_3 : Int), v1 = .int .i64 x1_3 /\ Aside0 (bolterref02_Ends.l0 kq a0 x1_3 = some (r1, r2)) /\ Aside0 (kq <= kj6) /\ Drawn0 w w')
          case atStart => exact ⟨(x1_6), (by first | rfl | (simp; done) | (simp [*]; done)), H', ⟨Nat.le_refl _⟩, by repeat (first | exact Drawn0.refl _ | apply Drawn0.step)⟩
          case round =>
           clear H'
           (try clear c10); (try clear c11); (try clear c11b0); (try clear c12); (try clear c12b0); (try clear p13); (try clear q13); (try clear hx13); (try clear c15); (try clear c15b0); (try clear c15b1); (try clear p13); (try clear q13)
           obtain ⟨x1_3, rfl, HA, HK3, ⟨m3, rfl⟩⟩ := hrel
           cases gk with
           | zero => exact absurd HA.out (by simp [bolterref02_Ends.l0])
           | succ k3 =>
            have H := HA.out
            clear HA
            simp only [bolterref02_Ends.l0] at H
            obtain ⟨t535, A16, H⟩ := ob H
            by_cases c17 : t535 = true
            ·subst c17
             rw [if_pos rfl] at H
             have H' := am H
             clear H
             go_wp2_with (first | (refine gL (some 31) Tryz.func153 #[.string a0, .int .i64 x1_3] (h := ?_); (with_reducible refine (bolterref02_digit.calls a0 x1_3 true _ A16.out).mono ?_); rintro e w' ⟨rfl, ⟨nd, rfl⟩⟩; refine ⟨_, rfl, ?_⟩))
             go_roundg k3
             case measure => have := HJ2.out; have := HJ6.out; have := HK3.out; omega
             case rel => exact ⟨(wrap64 (x1_3 + 1)), (by first | rfl | (simp; done) | (simp [*]; done)), H', ⟨by have := HJ2.out; have := HJ6.out; have := HK3.out; omega⟩, by repeat (first | exact Drawn0.refl _ | apply Drawn0.step)⟩
            ·replace c17 := Bool.eq_false_iff.mpr c17
             subst c17
             rw [if_neg (show ¬ (false = true) by decide)] at H
             have H' := am H
             clear H
             go_wp2_with (first | (refine gL (some 31) Tryz.func153 #[.string a0, .int .i64 x1_3] (h := ?_); (with_reducible refine (bolterref02_digit.calls a0 x1_3 false _ A16.out).mono ?_); rintro e w' ⟨rfl, ⟨nd, rfl⟩⟩; refine ⟨_, rfl, ?_⟩))
             go_meet
             case rel => exact ⟨_, (x1_3), (by first | rfl | (simp; done) | (simp [*]; done)), H', ⟨by have := HJ2.out; have := HJ6.out; have := HK3.out; first | omega | exact Nat.le_refl _⟩, by repeat (first | exact Drawn0.refl _ | apply Drawn0.step)⟩
        case rest =>
         clear HC14
         (try clear c10); (try clear c11); (try clear c11b0); (try clear c12); (try clear c12b0); (try clear p13); (try clear q13); (try clear hx13); (try clear p13); (try clear q13)
         obtain ⟨kq, x1_13, rfl, HA, HJ13, ⟨mc13, rfl⟩⟩ := hcut
         cases kq with
         | zero => exact absurd HA.out (by simp [bolterref02_Ends.j3])
         | succ kj13 =>
          have H := HA.out
          clear HA
          simp only [bolterref02_Ends.j3] at H
          have HC18 := am H
          clear H
          go_upto_region 9 with (fail)
          go_cut [43] (fun v43 wc => ∃ (kq : Nat) (x43_17 : Bool), v43 = .bool x43_17 /\ Aside0 (bolterref02_Ends.j4 kq a0 x1_13 x43_17 = some (r1, r2)) /\ Aside0 (kq <= kj13) /\ Drawn0 w wc)
          case first =>
           have H := HC18.out
           clear HC18
           by_cases c19 : x1_13 < (a0.size : Int)
           ·rw [if_pos c19] at H
            have c19b0 : decide (x1_13 < (a0.size : Int)) = true := decide_eq_true c19
            clear c19
            (first | rw [c19b0] | (simp only [i64_w, i32_w]; rw [c19b0]) | skip)
            by_cases c20 : 0 <= x1_13
            ·rw [if_pos c20] at H
             have c20b0 : decide (0 <= x1_13) = true := decide_eq_true c20
             clear c20
             have H' := am H
             clear H
             have p21 : 0 <= (x1_13 : Int) := of_decide_eq_true pQ
             have q21 : x1_13 < (a0.size : Int) := of_decide_eq_true pQ
             have hx21 := bt_at a0 x1_13
             replace p21 := eq_true p21
             replace q21 := eq_true q21
             go_wp2
             go_meet
             case rel => exact ⟨_, (((bt a0 x1_13) == 46)), (by first | rfl | (simp; done) | (simp [*]; done)), H', ⟨by have := HJ2.out; have := HJ6.out; have := HJ13.out; first | omega | exact Nat.le_refl _⟩, by repeat (first | exact Drawn0.refl _ | apply Drawn0.step)⟩
            ·rw [if_neg c20] at H
             exact absurd H (by simp)
           ·rw [if_neg c19] at H
            have c19b0 : decide (x1_13 < (a0.size : Int)) = false := decide_eq_false c19
            clear c19
            (first | rw [c19b0] | (simp only [i64_w, i32_w]; rw [c19b0]) | skip)
            have H' := am H
            clear H
            go_wp2
            go_meet
            case rel => exact ⟨_, (false), (by first | rfl | (simp; done) | (simp [*]; done)), H', ⟨by have := HJ2.out; have := HJ6.out; have := HJ13.out; first | omega | exact Nat.le_refl _⟩, by repeat (first | exact Drawn0.refl _ | apply Drawn0.step)⟩
          case rest =>
           clear HC18
           (try clear c10); (try clear c11); (try clear c11b0); (try clear c12); (try clear c12b0); (try clear p13); (try clear q13); (try clear hx13); (try clear p13); (try clear q13)
           obtain ⟨kq, x43_17, rfl, HA, HJ17, ⟨mc17, rfl⟩⟩ := hcut
           cases kq with
           | zero => exact absurd HA.out (by simp [bolterref02_Ends.j4])
           | succ kj17 =>
            have H := HA.out
            clear HA
            simp only [bolterref02_Ends.j4] at H
            have HC22 := am H
            clear H
            go_upto_if 43 with (fail)
            go_cut [1] (fun v1 wc => ∃ (kq : Nat) (x1_21 : Int), v1 = .int .i64 x1_21 /\ Aside0 (bolterref02_Ends.j6 kq a0 x1_21 = some (r1, r2)) /\ Aside0 (kq <= kj17) /\ Drawn0 w wc)
            case first =>
             have H := HC22.out
             clear HC22
             by_cases c23 : x43_17 = true
             ·subst c23
              rw [if_pos rfl] at H
              obtain ⟨t536, A24, H⟩ := ob H
              by_cases c25 : t536 = true
              ·subst c25
               rw [if_pos rfl] at H
               have H' := am H
               clear H
               go_wp2_with (first | (refine gL (some 48) Tryz.func153 #[.string a0, .int .i64 (wrap64 (x1_13 + 1))] (h := ?_); (with_reducible refine (bolterref02_digit.calls a0 (wrap64 (x1_13 + 1)) true _ A24.out).mono ?_); rintro e w' ⟨rfl, ⟨nd, rfl⟩⟩; refine ⟨_, rfl, ?_⟩))
               go_loopg [1] kj17 (fun kq v1 w' => ∃ (x1_5 : Int), v1 = .int .i64 x1_5 /\ Aside0 (bolterref02_Ends.l1 kq a0 x1_5 = some (r1, r2)) /\ Aside0 (kq <= kj17) /\ Drawn0 w w')
               case atStart => exact ⟨(wrap64 (x1_13 + 1)), (by first | rfl | (simp; done) | (simp [*]; done)), H', ⟨Nat.le_refl _⟩, by repeat (first | exact Drawn0.refl _ | apply Drawn0.step)⟩
               case round =>
                clear H'
                (try clear c10); (try clear c11); (try clear c11b0); (try clear c12); (try clear c12b0); (try clear p13); (try clear q13); (try clear hx13); (try clear c23); (try clear c25); (try clear p13); (try clear q13)
                obtain ⟨x1_5, rfl, HA, HK5, ⟨m5, rfl⟩⟩ := hrel
                cases gk with
                | zero => exact absurd HA.out (by simp [bolterref02_Ends.l1])
                | succ k5 =>
                 have H := HA.out
                 clear HA
                 simp only [bolterref02_Ends.l1] at H
                 obtain ⟨t537, A26, H⟩ := ob H
                 by_cases c27 : t537 = true
                 ·subst c27
                  rw [if_pos rfl] at H
                  have H' := am H
                  clear H
                  go_wp2_with (first | (refine gL (some 53) Tryz.func153 #[.string a0, .int .i64 x1_5] (h := ?_); (with_reducible refine (bolterref02_digit.calls a0 x1_5 true _ A26.out).mono ?_); rintro e w' ⟨rfl, ⟨nd, rfl⟩⟩; refine ⟨_, rfl, ?_⟩))
                  go_roundg k5
                  case measure => have := HJ2.out; have := HJ6.out; have := HJ13.out; have := HJ17.out; have := HK5.out; omega
                  case rel => exact ⟨(wrap64 (x1_5 + 1)), (by first | rfl | (simp; done) | (simp [*]; done)), H', ⟨by have := HJ2.out; have := HJ6.out; have := HJ13.out; have := HJ17.out; have := HK5.out; omega⟩, by repeat (first | exact Drawn0.refl _ | apply Drawn0.step)⟩
                 ·replace c27 := Bool.eq_false_iff.mpr c27
                  subst c27
                  rw [if_neg (show ¬ (false = true) by decide)] at H
                  have H' := am H
                  clear H
                  go_wp2_with (first | (refine gL (some 53) Tryz.func153 #[.string a0, .int .i64 x1_5] (h := ?_); (with_reducible refine (bolterref02_digit.calls a0 x1_5 false _ A26.out).mono ?_); rintro e w' ⟨rfl, ⟨nd, rfl⟩⟩; refine ⟨_, rfl, ?_⟩))
                  go_meet
                  case rel => exact ⟨_, (x1_5), (by first | rfl | (simp; done) | (simp [*]; done)), H', ⟨by have := HJ2.out; have := HJ6.out; have := HJ13.out; have := HJ17.out; have := HK5.out; first | omega | exact Nat.le_refl _⟩, by repeat (first | exact Drawn0.refl _ | apply Drawn0.step)⟩
              ·replace c25 := Bool.eq_false_iff.mpr c25
               subst c25
               rw [if_neg (show ¬ (false = true) by decide)] at H
               simp only [Option.some.injEq, Prod.mk.injEq] at H
               obtain ⟨rfl, rfl⟩ := H
               go_wp2_with (first | (refine gL (some 48) Tryz.func153 #[.string a0, .int .i64 (wrap64 (x1_13 + 1))] (h := ?_); (with_reducible refine (bolterref02_digit.calls a0 (wrap64 (x1_13 + 1)) false _ A24.out).mono ?_); rintro e w' ⟨rfl, ⟨nd, rfl⟩⟩; refine ⟨_, rfl, ?_⟩))
               go_ret2
               exact ⟨by first | rfl | (simp; done) | (simp [*]; done), by repeat (first | exact Drawn0.refl _ | apply Drawn0.step)⟩
             ·replace c23 := Bool.eq_false_iff.mpr c23
              subst c23
              rw [if_neg (show ¬ (false = true) by decide)] at H
              have H' := am H
              clear H
              go_wp2
              go_meet
              case rel => exact ⟨_, (x1_13), (by first | rfl | (simp; done) | (simp [*]; done)), H', ⟨by have := HJ2.out; have := HJ6.out; have := HJ13.out; have := HJ17.out; first | omega | exact Nat.le_refl _⟩, by repeat (first | exact Drawn0.refl _ | apply Drawn0.step)⟩
            case rest =>
             clear HC22
             (try clear c10); (try clear c11); (try clear c11b0); (try clear c12); (try clear c12b0); (try clear p13); (try clear q13); (try clear hx13); (try clear p13); (try clear q13)
             obtain ⟨kq, x1_21, rfl, HA, HJ21, ⟨mc21, rfl⟩⟩ := hcut
             cases kq with
             | zero => exact absurd HA.out (by simp [bolterref02_Ends.j6])
             | succ kj21 =>
              have H := HA.out
              clear HA
              simp only [bolterref02_Ends.j6] at H
              have HC28 := am H
              clear H
              go_upto_region 15 with (fail)
              go_cut [71] (fun v71 wc => ∃ (kq : Nat) (x71_27 : Bool), v71 = .bool x71_27 /\ Aside0 (bolterref02_Ends.j7 kq a0 x1_21 x71_27 = some (r1, r2)) /\ Aside0 (kq <= kj21) /\ Drawn0 w wc)
              case first =>
               have H := HC28.out
               clear HC28
               by_cases c29 : x1_21 < (a0.size : Int)
               ·rw [if_pos c29] at H
                have c29b0 : decide (x1_21 < (a0.size : Int)) = true := decide_eq_true c29
                clear c29
                (first | rw [c29b0] | (simp only [i64_w, i32_w]; rw [c29b0]) | skip)
                by_cases c30 : 0 <= x1_21
                ·rw [if_pos c30] at H
                 have c30b0 : decide (0 <= x1_21) = true := decide_eq_true c30
                 clear c30
                 by_cases c32 : (bt a0 x1_21) = 101
                 ·rw [if_pos c32] at H
                  have c32b0 : ((bt a0 x1_21) == 101) = true := beq_iff_eq.mpr c32
                  have c32b1 : ((bt a0 x1_21) != 101) = false := bne_eq_false_iff_eq.mpr c32
                  clear c32
                  have H' := am H
                  clear H
                  have p31 : 0 <= (x1_21 : Int) := of_decide_eq_true pQ
                  have q31 : x1_21 < (a0.size : Int) := of_decide_eq_true pQ
                  have hx31 := bt_at a0 x1_21
                  replace p31 := eq_true p31
                  replace q31 := eq_true q31
                  go_wp2
                  go_meet
                  case rel => exact ⟨_, (true), (by first | rfl | (simp; done) | (simp [*]; done)), H', ⟨by have := HJ2.out; have := HJ6.out; have := HJ13.out; have := HJ17.out; have := HJ21.out; first | omega | exact Nat.le_refl _⟩, by repeat (first | exact Drawn0.refl _ | apply Drawn0.step)⟩
                 ·rw [if_neg c32] at H
                  have c32b0 : ((bt a0 x1_21) == 101) = false := beq_eq_false_iff_ne.mpr c32
                  have c32b1 : ((bt a0 x1_21) != 101) = true := bne_iff_ne.mpr c32
                  have H' := am H
                  clear H
                  have p31 : 0 <= (x1_21 : Int) := of_decide_eq_true pQ
                  have q31 : x1_21 < (a0.size : Int) := of_decide_eq_true pQ
                  have hx31 := bt_at a0 x1_21
                  replace p31 := eq_true p31
                  replace q31 := eq_true q31
                  have p33 : 0 <= (x1_21 : Int) := of_decide_eq_true pQ
                  have q33 : x1_21 < (a0.size : Int) := of_decide_eq_true pQ
                  have hx33 := bt_at a0 x1_21
                  replace p33 := eq_true p33
                  replace q33 := eq_true q33
                  go_wp2
                  go_meet
                  case rel => exact ⟨_, (((bt a0 x1_21) == 69)), (by first | rfl | (simp; done) | (simp [*]; done)), H', ⟨by have := HJ2.out; have := HJ6.out; have := HJ13.out; have := HJ17.out; have := HJ21.out; first | omega | exact Nat.le_refl _⟩, by repeat (first | exact Drawn0.refl _ | apply Drawn0.step)⟩
                ·rw [if_neg c30] at H
                 exact absurd H (by simp)
               ·rw [if_neg c29] at H
                have c29b0 : decide (x1_21 < (a0.size : Int)) = false := decide_eq_false c29
                clear c29
                (first | rw [c29b0] | (simp only [i64_w, i32_w]; rw [c29b0]) | skip)
                have H' := am H
                clear H
                go_wp2
                go_meet
                case rel => exact ⟨_, (false), (by first | rfl | (simp; done) | (simp [*]; done)), H', ⟨by have := HJ2.out; have := HJ6.out; have := HJ13.out; have := HJ17.out; have := HJ21.out; first | omega | exact Nat.le_refl _⟩, by repeat (first | exact Drawn0.refl _ | apply Drawn0.step)⟩
              case rest =>
               clear HC28
               (try clear c10); (try clear c11); (try clear c11b0); (try clear c12); (try clear c12b0); (try clear p13); (try clear q13); (try clear hx13); (try clear p13); (try clear q13)
               obtain ⟨kq, x71_27, rfl, HA, HJ27, ⟨mc27, rfl⟩⟩ := hcut
               cases kq with
               | zero => exact absurd HA.out (by simp [bolterref02_Ends.j7])
               | succ kj27 =>
                have H := HA.out
                clear HA
                simp only [bolterref02_Ends.j7] at H
                by_cases c34 : x71_27 = true
                ·subst c34
                 rw [if_pos rfl] at H
                 have HC35 := am H
                 clear H
                 go_upto_region 17 with (fail)
                 go_cut [89] (fun v89 wc => ∃ (kq : Nat) (x89_34 : Bool), v89 = .bool x89_34 /\ Aside0 (bolterref02_Ends.j8 kq a0 (wrap64 (x1_21 + 1)) x89_34 = some (r1, r2)) /\ Aside0 (kq <= kj27) /\ Drawn0 w wc)
                 case first =>
                  have H := HC35.out
                  clear HC35
                  by_cases c36 : (wrap64 (x1_21 + 1)) < (a0.size : Int)
                  ·rw [if_pos c36] at H
                   have c36b0 : decide ((wrap64 (x1_21 + 1)) < (a0.size : Int)) = true := decide_eq_true c36
                   clear c36
                   (first | rw [c36b0] | (simp only [i64_w, i32_w]; rw [c36b0]) | skip)
                   obtain ⟨ji37, hji37⟩ : ∃ j_ : Int, (wrap64 (x1_21 + 1)) = j_ := ⟨_, rfl⟩
                   replace H : (if 0 <= (ji37) then (if (bt a0 (ji37)) = 43 then (bolterref02_Ends.j8 kj27 a0 ji37 true) else (bolterref02_Ends.j8 kj27 a0 ji37 ((bt a0 (ji37)) == 45))) else (none)) = some (r1, r2) := by first | (rw [hji37] at H; exact H) | (simp only [hji37] at H ⊢; exact H)
                   (try rw [hji37] at c36b0)
                   have hji37w : (IntKind.i64.wrap (x1_21 + 1)) = ji37 := (i64_w _).trans hji37
                   by_cases c38 : 0 <= (ji37)
                   ·rw [if_pos c38] at H
                    have c38b0 : decide (0 <= (ji37)) = true := decide_eq_true c38
                    clear c38
                    by_cases c40 : (bt a0 (ji37)) = 43
                    ·rw [if_pos c40] at H
                     have c40b0 : ((bt a0 (ji37)) == 43) = true := beq_iff_eq.mpr c40
                     have c40b1 : ((bt a0 (ji37)) != 43) = false := bne_eq_false_iff_eq.mpr c40
                     clear c40
                     have H' := am H
                     clear H
                     have p39 : 0 <= ((ji37) : Int) := of_decide_eq_true pQ
                     have q39 : (ji37) < (a0.size : Int) := of_decide_eq_true pQ
                     have hx39 := bt_at a0 (ji37)
                     replace p39 := eq_true p39
                     replace q39 := eq_true q39
                     go_wp2
                     go_meet
                     case rel => exact ⟨_, (true), (by first | rfl | (simp; done) | (simp [*]; done)), (by first | exact H' | (have H_ := H'.out; simp only [<- hji37] at H_; exact ⟨H_⟩) | (refine ⟨?_⟩; have H_ := H'.out; simp only [<- hji37] at H_ ⊢; exact H_)), ⟨by have := HJ2.out; have := HJ6.out; have := HJ13.out; have := HJ17.out; have := HJ21.out; have := HJ27.out; first | omega | exact Nat.le_refl _⟩, by repeat (first | exact Drawn0.refl _ | apply Drawn0.step)⟩
                    ·rw [if_neg c40] at H
                     have c40b0 : ((bt a0 (ji37)) == 43) = false := beq_eq_false_iff_ne.mpr c40
                     have c40b1 : ((bt a0 (ji37)) != 43) = true := bne_iff_ne.mpr c40
                     have H' := am H
                     clear H
                     have p39 : 0 <= ((ji37) : Int) := of_decide_eq_true pQ
                     have q39 : (ji37) < (a0.size : Int) := of_decide_eq_true pQ
                     have hx39 := bt_at a0 (ji37)
                     replace p39 := eq_true p39
                     replace q39 := eq_true q39
                     have p41 : 0 <= ((ji37) : Int) := of_decide_eq_true pQ
                     have q41 : (ji37) < (a0.size : Int) := of_decide_eq_true pQ
                     have hx41 := bt_at a0 (ji37)
                     replace p41 := eq_true p41
                     replace q41 := eq_true q41
                     go_wp2
                     go_meet
                     case rel => exact ⟨_, (((bt a0 (ji37)) == 45)), (by first | rfl | (simp; done) | (simp only [<- hji37] <;> (first | rfl | simp)) | (simp [*]; done)), (by first | exact H' | (have H_ := H'.out; simp only [<- hji37] at H_; exact ⟨H_⟩) | (refine ⟨?_⟩; have H_ := H'.out; simp only [<- hji37] at H_ ⊢; exact H_)), ⟨by have := HJ2.out; have := HJ6.out; have := HJ13.out; have := HJ17.out; have := HJ21.out; have := HJ27.out; first | omega | exact Nat.le_refl _⟩, by repeat (first | exact Drawn0.refl _ | apply Drawn0.step)⟩
                   ·rw [if_neg c38] at H
                    exact absurd H (by simp)
                  ·rw [if_neg c36] at H
                   have c36b0 : decide ((wrap64 (x1_21 + 1)) < (a0.size : Int)) = false := decide_eq_false c36
                   clear c36
                   (first | rw [c36b0] | (simp only [i64_w, i32_w]; rw [c36b0]) | skip)
                   have H' := am H
                   clear H
                   go_wp2
                   go_meet
                   case rel => exact ⟨_, (false), (by first | rfl | (simp; done) | (simp [*]; done)), H', ⟨by have := HJ2.out; have := HJ6.out; have := HJ13.out; have := HJ17.out; have := HJ21.out; have := HJ27.out; first | omega | exact Nat.le_refl _⟩, by repeat (first | exact Drawn0.refl _ | apply Drawn0.step)⟩
                 case rest =>
                  clear HC35
                  (try clear c10); (try clear c11); (try clear c11b0); (try clear c12); (try clear c12b0); (try clear p13); (try clear q13); (try clear hx13); (try clear c34); (try clear p13); (try clear q13)
                  obtain ⟨kq, x89_34, rfl, HA, HJ34, ⟨mc34, rfl⟩⟩ := hcut
                  cases kq with
                  | zero => exact absurd HA.out (by simp [bolterref02_Ends.j8])
                  | succ kj34 =>
                   have H := HA.out
                   clear HA
                   simp only [bolterref02_Ends.j8] at H
                   have HC42 := am H
                   clear H
                   go_upto_if 89 with (fail)
                   go_cut [1] (fun v1 wc => ∃ (kq : Nat) (x1_41 : Int), v1 = .int .i64 x1_41 /\ Aside0 (bolterref02_Ends.j9 kq a0 x1_41 = some (r1, r2)) /\ Aside0 (kq <= kj34) /\ Drawn0 w wc)
                   case first =>
                    have H := HC42.out
                    clear HC42
                    by_cases c43 : x89_34 = true
                    ·subst c43
                     rw [if_pos rfl] at H
                     have H' := am H
                     clear H
                     go_wp2
                     go_meet
                     case rel => exact ⟨_, (wrap64 ((wrap64 (x1_21 + 1)) + 1)), (by first | rfl | (simp; done) | (simp [*]; done)), H', ⟨by have := HJ2.out; have := HJ6.out; have := HJ13.out; have := HJ17.out; have := HJ21.out; have := HJ27.out; have := HJ34.out; first | omega | exact Nat.le_refl _⟩, by repeat (first | exact Drawn0.refl _ | apply Drawn0.step)⟩
                    ·replace c43 := Bool.eq_false_iff.mpr c43
                     subst c43
                     rw [if_neg (show ¬ (false = true) by decide)] at H
                     have H' := am H
                     clear H
                     go_wp2
                     go_meet
                     case rel => exact ⟨_, ((wrap64 (x1_21 + 1))), (by first | rfl | (simp; done) | (simp [*]; done)), H', ⟨by have := HJ2.out; have := HJ6.out; have := HJ13.out; have := HJ17.out; have := HJ21.out; have := HJ27.out; have := HJ34.out; first | omega | exact Nat.le_refl _⟩, by repeat (first | exact Drawn0.refl _ | apply Drawn0.step)⟩
                   case rest =>
                    clear HC42
                    (try clear c10); (try clear c11); (try clear c11b0); (try clear c12); (try clear c12b0); (try clear p13); (try clear q13); (try clear hx13); (try clear c34); (try clear p13); (try clear q13)
                    obtain ⟨kq, x1_41, rfl, HA, HJ41, ⟨mc41, rfl⟩⟩ := hcut
                    cases kq with
                    | zero => exact absurd HA.out (by simp [bolterref02_Ends.j9])
                    | succ kj41 =>
                     have H := HA.out
                     clear HA
                     simp only [bolterref02_Ends.j9] at H
                     obtain ⟨t538, A44, H⟩ := ob H
                     by_cases c45 : t538 = true
                     ·subst c45
                      rw [if_pos rfl] at H
                      have H' := am H
                      clear H
                      go_wp2_with (first | (refine gL (some 94) Tryz.func153 #[.string a0, .int .i64 x1_41] (h := ?_); (with_reducible refine (bolterref02_digit.calls a0 x1_41 true _ A44.out).mono ?_); rintro e w' ⟨rfl, ⟨nd, rfl⟩⟩; refine ⟨_, rfl, ?_⟩))
                      go_loopg [1] kj41 (fun kq v1 w' => ∃ (x1_9 : Int), v1 = .int .i64 x1_9 /\ Aside0 (bolterref02_Ends.l2 kq a0 x1_9 = some (r1, r2)) /\ Aside0 (kq <= kj41) /\ Drawn0 w w')
                      case atStart => exact ⟨(x1_41), (by first | rfl | (simp; done) | (simp [*]; done)), H', ⟨Nat.le_refl _⟩, by repeat (first | exact Drawn0.refl _ | apply Drawn0.step)⟩
                      case round =>
                       clear H'
                       (try clear c10); (try clear c11); (try clear c11b0); (try clear c12); (try clear c12b0); (try clear p13); (try clear q13); (try clear hx13); (try clear c34); (try clear c45); (try clear p13); (try clear q13)
                       obtain ⟨x1_9, rfl, HA, HK9, ⟨m9, rfl⟩⟩ := hrel
                       cases gk with
                       | zero => exact absurd HA.out (by simp [bolterref02_Ends.l2])
                       | succ k9 =>
                        have H := HA.out
                        clear HA
                        simp only [bolterref02_Ends.l2] at H
                        obtain ⟨t539, A46, H⟩ := ob H
                        by_cases c47 : t539 = true
                        ·subst c47
                         rw [if_pos rfl] at H
                         have H' := am H
                         clear H
                         go_wp2_with (first | (refine gL (some 99) Tryz.func153 #[.string a0, .int .i64 x1_9] (h := ?_); (with_reducible refine (bolterref02_digit.calls a0 x1_9 true _ A46.out).mono ?_); rintro e w' ⟨rfl, ⟨nd, rfl⟩⟩; refine ⟨_, rfl, ?_⟩))
                         go_roundg k9
                         case measure => have := HJ2.out; have := HJ6.out; have := HJ13.out; have := HJ17.out; have := HJ21.out; have := HJ27.out; have := HJ34.out; have := HJ41.out; have := HK9.out; omega
                         case rel => exact ⟨(wrap64 (x1_9 + 1)), (by first | rfl | (simp; done) | (simp [*]; done)), H', ⟨by have := HJ2.out; have := HJ6.out; have := HJ13.out; have := HJ17.out; have := HJ21.out; have := HJ27.out; have := HJ34.out; have := HJ41.out; have := HK9.out; omega⟩, by repeat (first | exact Drawn0.refl _ | apply Drawn0.step)⟩
                        ·replace c47 := Bool.eq_false_iff.mpr c47
                         subst c47
                         rw [if_neg (show ¬ (false = true) by decide)] at H
                         simp only [Option.some.injEq, Prod.mk.injEq] at H
                         obtain ⟨rfl, rfl⟩ := H
                         go_wp2_with (first | (refine gL (some 99) Tryz.func153 #[.string a0, .int .i64 x1_9] (h := ?_); (with_reducible refine (bolterref02_digit.calls a0 x1_9 false _ A46.out).mono ?_); rintro e w' ⟨rfl, ⟨nd, rfl⟩⟩; refine ⟨_, rfl, ?_⟩))
                         go_ret2
                         exact ⟨by first | rfl | (simp; done) | (simp [*]; done), by repeat (first | exact Drawn0.refl _ | apply Drawn0.step)⟩
                     ·replace c45 := Bool.eq_false_iff.mpr c45
                      subst c45
                      rw [if_neg (show ¬ (false = true) by decide)] at H
                      simp only [Option.some.injEq, Prod.mk.injEq] at H
                      obtain ⟨rfl, rfl⟩ := H
                      go_wp2_with (first | (refine gL (some 94) Tryz.func153 #[.string a0, .int .i64 x1_41] (h := ?_); (with_reducible refine (bolterref02_digit.calls a0 x1_41 false _ A44.out).mono ?_); rintro e w' ⟨rfl, ⟨nd, rfl⟩⟩; refine ⟨_, rfl, ?_⟩))
                      go_ret2
                      exact ⟨by first | rfl | (simp; done) | (simp [*]; done), by repeat (first | exact Drawn0.refl _ | apply Drawn0.step)⟩
                ·replace c34 := Bool.eq_false_iff.mpr c34
                 subst c34
                 rw [if_neg (show ¬ (false = true) by decide)] at H
                 simp only [Option.some.injEq, Prod.mk.injEq] at H
                 obtain ⟨rfl, rfl⟩ := H
                 go_wp2
                 go_ret2
                 exact ⟨by first | rfl | (simp; done) | (simp [*]; done), by repeat (first | exact Drawn0.refl _ | apply Drawn0.step)⟩
       ·rw [if_neg c12] at H
        exact absurd H (by simp)
      ·rw [if_neg c11] at H
       exact absurd H (by simp)
     ·replace c10 := Bool.eq_false_iff.mpr c10
      subst c10
      rw [if_neg (show ¬ (false = true) by decide)] at H
      simp only [Option.some.injEq, Prod.mk.injEq] at H
      obtain ⟨rfl, rfl⟩ := H
      go_wp2_with (first | (refine gL (some 20) Tryz.func153 #[.string a0, .int .i64 x1_6] (h := ?_); (with_reducible refine (bolterref02_digit.calls a0 x1_6 false _ A9.out).mono ?_); rintro e w' ⟨rfl, ⟨nd, rfl⟩⟩; refine ⟨_, rfl, ?_⟩))
      go_ret2
      exact ⟨by first | rfl | (simp; done) | (simp [*]; done), by repeat (first | exact Drawn0.refl _ | apply Drawn0.step)⟩
mutual
def bolterref02_Parse.j0 : Nat -> ByteArray -> Bool -> Option (Bool × List Int × Int × Int)
 | 0, _, _ => none
 | k + 1, x0, x18 => if x18 = true then (some (false, ([] : List Int), 0, 32)) else (if (x0.size : Int) > 2000 then (some (false, ([] : List Int), 0, 5)) else (if 0 < (x0.size : Int) then (bolterref02_Parse.l0 k x0 ([] : List Int) false 0 ((bt x0 0) == 45) 0) else (none)))
def bolterref02_Parse.l0 : Nat -> ByteArray -> List Int -> Bool -> Int -> Bool -> Int -> Option (Bool × List Int × Int × Int)
 | 0, _, _, _, _, _, _ => none
 | k + 1, x0, x7, x8, x9, x544000, x544002 => if x9 < (x0.size : Int) then (if 0 <= x9 then (if (bt x0 x9) = 101 then (bolterref02_Parse.j2 k x0 x7 x8 x9 false x544000 x544002) else (bolterref02_Parse.j2 k x0 x7 x8 x9 ((bt x0 x9) != 69) x544000 x544002)) else (none)) else (bolterref02_Parse.j2 k x0 x7 x8 x9 false x544000 x544002)
def bolterref02_Parse.j2 : Nat -> ByteArray -> List Int -> Bool -> Int -> Bool -> Bool -> Int -> Option (Bool × List Int × Int × Int)
 | 0, _, _, _, _, _, _, _ => none
 | k + 1, x0, x7, x8, x9, x52, x544000, x544002 => if x52 = true then (if 0 <= x9 then (if x9 < (x0.size : Int) then (if (bt x0 x9) = 46 then (bolterref02_Parse.l0 k x0 x7 true (wrap64 (x9 + 1)) x544000 x544002) else (if (bt x0 x9) = 45 then (bolterref02_Parse.l0 k x0 x7 x8 (wrap64 (x9 + 1)) x544000 x544002) else ((some (([((bt x0 x9) - 48) % 256] : List Int) : List Int)).bind fun y544 => (if y544.length + x7.length < 17592186044416 then ((some (y544 ++ x7 : List Int)).bind fun y547 => (if x8 = true then (bolterref02_Parse.l0 k x0 y547 x8 (wrap64 (x9 + 1)) x544000 (wrap64 (x544002 - 1))) else (bolterref02_Parse.l0 k x0 y547 x8 (wrap64 (x9 + 1)) x544000 x544002))) else (none))))) else (none)) else (none)) else (if x9 < (x0.size : Int) then (bolterref02_Parse.l1 k x0 x7 (wrap64 (x9 + 1)) false 0 0 x544000 x544002) else ((bolterref02_Made.f k x544000 x7 x544002).bind fun bt562 => (some (bt562.1, bt562.2.1, bt562.2.2.1, bt562.2.2.2))))
def bolterref02_Parse.l1 : Nat -> ByteArray -> List Int -> Int -> Bool -> Int -> Int -> Bool -> Int -> Option (Bool × List Int × Int × Int)
 | 0, _, _, _, _, _, _, _, _ => none
 | k + 1, x0, x7, x9, x10, x11, x12, x544000, x544002 => if x9 < (x0.size : Int) then (if 0 <= x9 then (if (bt x0 x9) = 45 then (bolterref02_Parse.l1 k x0 x7 (wrap64 (x9 + 1)) true x11 x12 x544000 x544002) else (if (bt x0 x9) = 43 then (bolterref02_Parse.l1 k x0 x7 (wrap64 (x9 + 1)) x10 x11 x12 x544000 x544002) else (if x11 > 0 then (bolterref02_Parse.j4 k x0 x7 x9 x10 x11 x12 true x544000 x544002) else (bolterref02_Parse.j4 k x0 x7 x9 x10 x11 x12 ((bt x0 x9) != 48) x544000 x544002)))) else (none)) else (if x10 = true then ((bolterref02_Made.f k x544000 x7 (wrap64 (x544002 + (wrap64 (-x11))))).bind fun bt550 => (some (bt550.1, bt550.2.1, bt550.2.2.1, bt550.2.2.2))) else ((bolterref02_Made.f k x544000 x7 (wrap64 (x544002 + x11))).bind fun bt556 => (some (bt556.1, bt556.2.1, bt556.2.2.1, bt556.2.2.2))))
def bolterref02_Parse.j4 : Nat -> ByteArray -> List Int -> Int -> Bool -> Int -> Int -> Bool -> Bool -> Int -> Option (Bool × List Int × Int × Int)
 | 0, _, _, _, _, _, _, _, _, _ => none
 | k + 1, x0, x7, x9, x10, x11, x12, x107, x544000, x544002 => if x107 = true then (if (wrap64 (x12 + 1)) > 6 then (some (false, ([] : List Int), 0, 52)) else (if 0 <= x9 then (if x9 < (x0.size : Int) then (bolterref02_Parse.l1 k x0 x7 (wrap64 (x9 + 1)) x10 (wrap64 ((wrap64 (10 * x11)) + (((bt x0 x9) - 48) % 256))) (wrap64 (x12 + 1)) x544000 x544002) else (none)) else (none))) else (if x12 > 6 then (some (false, ([] : List Int), 0, 52)) else (if 0 <= x9 then (if x9 < (x0.size : Int) then (bolterref02_Parse.l1 k x0 x7 (wrap64 (x9 + 1)) x10 (wrap64 ((wrap64 (10 * x11)) + (((bt x0 x9) - 48) % 256))) x12 x544000 x544002) else (none)) else (none)))
end
def bolterref02_Parse.f (k : Nat) (a0 : ByteArray) : Option (Bool × List Int × Int × Int) := (bolterref02_Ends.f k a0 0).bind fun bt541 => (if bt541.2 = true then (bolterref02_Parse.j0 k a0 (bt541.1 != (a0.size : Int))) else (bolterref02_Parse.j0 k a0 true))
theorem bolterref02_Parse.calls (k : Nat) (a0 : ByteArray) (r1 : Bool) (r2 : List Int) (r3 : Int) (r4 : Int) (w : World) (h : bolterref02_Parse.f k a0 = some (r1, r2, r3, r4)) :
  Calls Tryz.prog 58 #[.string a0] w fun e w' => ∃ v1_ : Value, e = .returned (.tuple #[.agg #[.bool r1, v1_, .int .i64 r3], .int .i64 r4]) /\ Kd.R (Kd.int .u32) 85 w' w.heap.size (fun _ => True) v1_ r2 /\ Below w.heap.size w w' := by
 have hu24 := Tryz.underlying24
 have hu30 := Tryz.underlying30
 have HB := am (Below.refl w.heap.size w)
 have H : ((bolterref02_Ends.f k a0 0).bind fun bt541 => (if bt541.2 = true then (bolterref02_Parse.j0 k a0 (bt541.1 != (a0.size : Int))) else (bolterref02_Parse.j0 k a0 true))) = some (r1, r2, r3, r4) := h
 clear h
 obtain ⟨⟨t541, t542⟩, A2, H⟩ := ob H; (try dsimp only at H)
 have HC3 := am H
 clear H
 go_enter Tryz.func58, Tryz.ntmps58
 go_upto_region 2 with (first | ((with_reducible refine gate_dst (N := 2) rfl ?_); (try (refine gate_guard (by rfl) ?_; dsimp only)); refine box_event ?hg (N := 2) ?hd (cs := #[.bool false, .slice none 0 0, .int .i64 0]) (t := 24) ?hr ?_; (case hd => rfl); (case hg => rfl); (case hr => first | (go_simp; done) | (go_simp; rfl)); intro gb540 hg w4 hbox hb; have n0_ := am (below_step pB hb); have n1_ := am (hbox); have n2_ := am ((gw hg pB : w.heap.size <= gb540)); have n3_ := am ((gw hg pB : w.heap.size <= gb540)); clear HB; have HB := n0_; have BK540 := n1_; have GW540 := n2_; have GE540 := n3_; clear n0_ n1_ n2_ n3_ hb hbox hg) | (refine gL (some 15) Tryz.func117 #[.string a0, .int .i64 0] (h := ?_); (with_reducible refine (bolterref02_Ends.calls k a0 0 t541 t542 _ A2.out).mono ?_); rintro e w' ⟨rfl, ⟨nd, rfl⟩⟩; refine ⟨_, rfl, ?_⟩))
 (try simp only [Act.put, List.setIfInBounds_toArray, List.set_cons_zero, List.set_cons_succ])
 go_cut [18] (fun v18 wc => ∃ (kq : Nat) (x18_2 : Bool), v18 = .bool x18_2 /\ Aside0 (bolterref02_Parse.j0 kq a0 x18_2 = some (r1, r2, r3, r4)) /\ Aside0 (kq <= k) /\ Aside0 (wc.heap[gb540]? = some (.cells #[.bool false, (.slice none 0 0), .int .i64 0] 24 (0, 0))) /\ Aside0 (Below w.heap.size w wc))
 case first =>
  have H := HC3.out
  clear HC3
  by_cases c5 : t542 = true
  ·subst c5
   rw [if_pos rfl] at H
   have H' := am H
   clear H
   go_wp2
   go_meet
   case rel => exact ⟨_, ((t541 != (a0.size : Int))), (by first | rfl | (simp; done) | (simp [*]; done)), H', ⟨by first | omega | exact Nat.le_refl _⟩, ⟨blk_below BK540.out pl⟩, ⟨pB⟩⟩
  ·replace c5 := Bool.eq_false_iff.mpr c5
   subst c5
   rw [if_neg (show ¬ (false = true) by decide)] at H
   have H' := am H
   clear H
   go_wp2
   go_meet
   case rel => exact ⟨_, (true), (by first | rfl | (simp; done) | (simp [*]; done)), H', ⟨by first | omega | exact Nat.le_refl _⟩, ⟨blk_below BK540.out pl⟩, ⟨pB⟩⟩
 case rest =>
  clear HC3
  obtain ⟨kq, x18_2, rfl, HA, HJ2, BK540, HB⟩ := hcut
  cases kq with
  | zero => exact absurd HA.out (by simp [bolterref02_Parse.j0])
  | succ kj2 =>
   have H := HA.out
   clear HA
   simp only [bolterref02_Parse.j0] at H
   by_cases c6 : x18_2 = true
   ·subst c6
    rw [if_pos rfl] at H
    simp only [Option.some.injEq, Prod.mk.injEq] at H
    obtain ⟨rfl, rfl, rfl, rfl⟩ := H
    obtain ⟨hcz7_0, hcz7_1, hcz7_2, hfz7_0, hfz7_1, hfz7_2⟩ := cEc BK540.out
    go_wp2
    refine bodyPost_ret (results_ct rfl _ _ gb540 24 #[.bool false, .slice none 0 0, .int .i64 0] (0, 0) _ rfl (by refine bp ?_; refine blk_put (cs := #[.bool false, .slice none 0 0, .int .i64 0]) ?_ 2 _ rfl; refine bp ?_; refine blk_put (cs := #[.bool false, .slice none 0 0, .int .i64 0]) ?_ 1 _ rfl; refine bp ?_; refine blk_put (cs := #[.bool false, .slice none 0 0, .int .i64 0]) ?_ 0 _ rfl; exact bp BK540.out) Tryz.underlying24 rfl (by kernel_rfl)) rfl ?_
    exact ⟨_, pE, by first | exact Kd.R_nil _ _ _ _ _ | exact Kd.N_nil _ _ _ _ _ | exact Kd.V_nil _ _ _ _ _ | exact Kd.Q_nil _ _ _ _ _ | exact Kd.S_nil _ _ _ _ _, pB⟩
   ·replace c6 := Bool.eq_false_iff.mpr c6
    subst c6
    rw [if_neg (show ¬ (false = true) by decide)] at H
    by_cases c8 : (a0.size : Int) > 2000
    ·rw [if_pos c8] at H
     have c8b0 : decide (2000 < (a0.size : Int)) = true := decide_eq_true c8
     have c8b1 : decide (2000 < a0.size) = true := decide_eq_true (by omega)
     clear c8
     simp only [Option.some.injEq, Prod.mk.injEq] at H
     obtain ⟨rfl, rfl, rfl, rfl⟩ := H
     obtain ⟨hcz9_0, hcz9_1, hcz9_2, hfz9_0, hfz9_1, hfz9_2⟩ := cEc BK540.out
     go_wp2
     refine bodyPost_ret (results_ct rfl _ _ gb540 24 #[.bool false, .slice none 0 0, .int .i64 0] (0, 0) _ rfl (by refine bp ?_; refine blk_put (cs := #[.bool false, .slice none 0 0, .int .i64 0]) ?_ 2 _ rfl; refine bp ?_; refine blk_put (cs := #[.bool false, .slice none 0 0, .int .i64 0]) ?_ 1 _ rfl; refine bp ?_; refine blk_put (cs := #[.bool false, .slice none 0 0, .int .i64 0]) ?_ 0 _ rfl; exact bp BK540.out) Tryz.underlying24 rfl (by kernel_rfl)) rfl ?_
     exact ⟨_, pE, by first | exact Kd.R_nil _ _ _ _ _ | exact Kd.N_nil _ _ _ _ _ | exact Kd.V_nil _ _ _ _ _ | exact Kd.Q_nil _ _ _ _ _ | exact Kd.S_nil _ _ _ _ _, pB⟩
    ·rw [if_neg c8] at H
     have c8b0 : decide (2000 < (a0.size : Int)) = false := decide_eq_false c8
     have c8b1 : decide (2000 < a0.size) = false := decide_eq_false (by omega)
     clear c8
     by_cases c10 : 0 < (a0.size : Int)
     ·rw [if_pos c10] at H
      have c10b0 : decide (0 < (a0.size : Int)) = true := decide_eq_true c10
      have c10b1 : decide (0 < a0.size) = true := decide_eq_true (by omega)
      clear c10
      have H' := am H
      clear H
      have p11 : 0 <= (0 : Int) := (by omega)
      have q11 : 0 < a0.size := (by have : (0 : Int) < (a0.size : Int) := of_decide_eq_true pQ; omega)
      have hx11 : ∀ h : 0 < a0.size, ((a0[0]'h).toNat : Int) = bt a0 0 := bt_at a0 0
      clear p11
      have qi11 : (0 < (a0.size : Int)) = True := eq_true (of_decide_eq_true pQ)
      replace q11 := eq_true q11
      go_wp2_with (first | ((with_reducible refine gate_dst (N := 6) rfl ?_); (try (refine gate_guard (by rfl) ?_; dsimp only)); refine box_event ?hg (N := 6) ?hd (cs := #[.bool false, .slice none 0 0, .int .i64 0]) (t := 30) ?hr ?_; (case hd => rfl); (case hg => rfl); (case hr => first | (go_simp; done) | (go_simp; rfl)); intro gb543 hg w12 hbox hb; have n0_ := am (blk_below (blk_below BK540.out pl) hb); have n1_ := am (below_step pB hb); have n2_ := am (hbox); have n3_ := am ((gw hg pB : w.heap.size <= gb543)); have n4_ := am ((gw hg pB : w.heap.size <= gb543)); have n5_ := am ((nl hg (blk_below BK540.out pl) : gb540 ≠ gb543)); have n6_ := am ((ng hg (blk_below BK540.out pl) : gb543 ≠ gb540)); clear BK540 HB; have BK540 := n0_; have HB := n1_; have BK543 := n2_; have GW543 := n3_; have GE543 := n4_; have NB540_543 := n5_; have NB543_540 := n6_; clear n0_ n1_ n2_ n3_ n4_ n5_ n6_ hb hbox hg; have hnb13 := NB543_540.out; have hnc13 := NB540_543.out; obtain ⟨hcz14_0, hcz14_1, hcz14_2, hfz14_0, hfz14_1, hfz14_2⟩ := cEc BK543.out))
      go_loopg [7, 8, 9] kj2 (fun kq v7 v8 v9 w' => ∃ (x7_2 : List Int) (x8_2 : Bool) (x9_2 : Int) (x544002_2 : Int), v8 = .bool x8_2 /\ v9 = .int .i64 x9_2 /\ Aside0 (bolterref02_Parse.l0 kq a0 x7_2 x8_2 x9_2 ((bt a0 0) == 45) x544002_2 = some (r1, r2, r3, r4)) /\ Aside0 (kq <= kj2) /\ Aside0 (Kd.R (Kd.int .i64) 3 w' w.heap.size (fun _ => True) v7 x7_2) /\ Aside0 (w'.heap[gb540]? = some (.cells #[.bool false, (.slice none 0 0), .int .i64 0] 24 (0, 0))) /\ Aside0 (w'.heap[gb543]? = some (.cells #[.bool ((bt a0 0) == 45), (.slice none 0 0), .int .i64 x544002_2] 30 (0, 0))) /\ Aside0 (Below w.heap.size w w'))
      case atStart => exact ⟨(([] : List Int)), (false), (0), (0), (by first | rfl | (simp; done) | (simp [*]; done)), (by first | rfl | (simp; done) | (simp [*]; done)), H', ⟨Nat.le_refl _⟩, ⟨by first | exact Kd.R_nil _ _ _ _ _ | exact Kd.N_nil _ _ _ _ _ | exact Kd.V_nil _ _ _ _ _ | exact Kd.Q_nil _ _ _ _ _ | exact Kd.S_nil _ _ _ _ _⟩, ⟨bf NB540_543.out BK540.out⟩, ⟨by refine bp ?_; refine blk_put (cs := #[.bool ((bt a0 0) == 45), .slice none 0 0, .int .i64 0]) ?_ 2 _ rfl; refine bp ?_; refine blk_put (cs := #[.bool ((bt a0 0) == 45), .slice none 0 0, .int .i64 0]) ?_ 1 _ rfl; refine bp ?_; refine blk_put (cs := #[.bool false, .slice none 0 0, .int .i64 0]) ?_ 0 _ rfl; exact bp BK543.out⟩, ⟨pB⟩⟩
      case round =>
       clear H'
       (try clear c6); (try clear c8); (try clear c8b0); (try clear c8b1); (try clear c10); (try clear c10b0); (try clear c10b1); (try clear p11); (try clear q11); (try clear hx11); (try clear qi11); (try clear hcz14_0); (try clear hcz14_1); (try clear hcz14_2); (try clear hfz14_0); (try clear hfz14_1); (try clear hfz14_2); (try clear p11); (try clear q11)
       obtain ⟨x7_2, x8_2, x9_2, x544002_2, rfl, rfl, HA, HK2, HO_7, BK540, BK543, HB⟩ := hrel
       cases gk with
       | zero => exact absurd HA.out (by simp [bolterref02_Parse.l0])
       | succ k2 =>
        have H := HA.out
        clear HA
        simp only [bolterref02_Parse.l0] at H
        have HC15 := am H
        clear H
        go_upto_region 10 with (fail)
        go_cut [52] (fun v52 wc => ∃ (kq : Nat) (x52_14 : Bool), v52 = .bool x52_14 /\ Aside0 (bolterref02_Parse.j2 kq a0 x7_2 x8_2 x9_2 x52_14 ((bt a0 0) == 45) x544002_2 = some (r1, r2, r3, r4)) /\ Aside0 (kq <= k2) /\ Aside0 (Kd.R (Kd.int .i64) 3 wc w.heap.size (fun _ => True) u7 x7_2) /\ Aside0 (wc.heap[gb540]? = some (.cells #[.bool false, (.slice none 0 0), .int .i64 0] 24 (0, 0))) /\ Aside0 (wc.heap[gb543]? = some (.cells #[.bool ((bt a0 0) == 45), (.slice none 0 0), .int .i64 x544002_2] 30 (0, 0))) /\ Aside0 (Below w.heap.size w wc))
        case first =>
         have H := HC15.out
         clear HC15
         by_cases c16 : x9_2 < (a0.size : Int)
         ·rw [if_pos c16] at H
          have c16b0 : decide (x9_2 < (a0.size : Int)) = true := decide_eq_true c16
          clear c16
          (first | rw [c16b0] | (simp only [i64_w, i32_w]; rw [c16b0]) | skip)
          by_cases c17 : 0 <= x9_2
          ·rw [if_pos c17] at H
           have c17b0 : decide (0 <= x9_2) = true := decide_eq_true c17
           clear c17
           by_cases c19 : (bt a0 x9_2) = 101
           ·rw [if_pos c19] at H
            have c19b0 : ((bt a0 x9_2) == 101) = true := beq_iff_eq.mpr c19
            have c19b1 : ((bt a0 x9_2) != 101) = false := bne_eq_false_iff_eq.mpr c19
            clear c19
            have H' := am H
            clear H
            have p18 : 0 <= (x9_2 : Int) := of_decide_eq_true pQ
            have q18 : x9_2 < (a0.size : Int) := of_decide_eq_true pQ
            have hx18 := bt_at a0 x9_2
            replace p18 := eq_true p18
            replace q18 := eq_true q18
            go_wp2
            go_meet
            case rel => exact ⟨_, (false), (by first | rfl | (simp; done) | (simp [*]; done)), H', ⟨by have := HJ2.out; have := HK2.out; first | omega | exact Nat.le_refl _⟩, ⟨by refine rp ?_; exact HO_7.out⟩, ⟨blk_below BK540.out pl⟩, ⟨blk_below BK543.out pl⟩, ⟨pB⟩⟩
           ·rw [if_neg c19] at H
            have c19b0 : ((bt a0 x9_2) == 101) = false := beq_eq_false_iff_ne.mpr c19
            have c19b1 : ((bt a0 x9_2) != 101) = true := bne_iff_ne.mpr c19
            have H' := am H
            clear H
            have p18 : 0 <= (x9_2 : Int) := of_decide_eq_true pQ
            have q18 : x9_2 < (a0.size : Int) := of_decide_eq_true pQ
            have hx18 := bt_at a0 x9_2
            replace p18 := eq_true p18
            replace q18 := eq_true q18
            have p20 : 0 <= (x9_2 : Int) := of_decide_eq_true pQ
            have q20 : x9_2 < (a0.size : Int) := of_decide_eq_true pQ
            have hx20 := bt_at a0 x9_2
            replace p20 := eq_true p20
            replace q20 := eq_true q20
            go_wp2
            go_meet
            case rel => exact ⟨_, (((bt a0 x9_2) != 69)), (by first | rfl | (simp; done) | (simp [*]; done)), H', ⟨by have := HJ2.out; have := HK2.out; first | omega | exact Nat.le_refl _⟩, ⟨by refine rp ?_; exact HO_7.out⟩, ⟨blk_below BK540.out pl⟩, ⟨blk_below BK543.out pl⟩, ⟨pB⟩⟩
          ·rw [if_neg c17] at H
           exact absurd H (by simp)
         ·rw [if_neg c16] at H
          have c16b0 : decide (x9_2 < (a0.size : Int)) = false := decide_eq_false c16
          clear c16
          (first | rw [c16b0] | (simp only [i64_w, i32_w]; rw [c16b0]) | skip)
          have H' := am H
          clear H
          go_wp2
          go_meet
          case rel => exact ⟨_, (false), (by first | rfl | (simp; done) | (simp [*]; done)), H', ⟨by have := HJ2.out; have := HK2.out; first | omega | exact Nat.le_refl _⟩, ⟨by refine rp ?_; exact HO_7.out⟩, ⟨blk_below BK540.out pl⟩, ⟨blk_below BK543.out pl⟩, ⟨pB⟩⟩
        case rest =>
         clear HC15
         (try clear c6); (try clear c8); (try clear c8b0); (try clear c8b1); (try clear c10); (try clear c10b0); (try clear c10b1); (try clear p11); (try clear q11); (try clear hx11); (try clear qi11); (try clear hcz14_0); (try clear hcz14_1); (try clear hcz14_2); (try clear hfz14_0); (try clear hfz14_1); (try clear hfz14_2); (try clear p11); (try clear q11)
         obtain ⟨kq, x52_14, rfl, HA, HJ14, HO_7, BK540, BK543, HB⟩ := hcut
         cases kq with
         | zero => exact absurd HA.out (by simp [bolterref02_Parse.j2])
         | succ kj14 =>
          have H := HA.out
          clear HA
          simp only [bolterref02_Parse.j2] at H
          by_cases c21 : x52_14 = true
          ·subst c21
           rw [if_pos rfl] at H
           by_cases c22 : 0 <= x9_2
           ·rw [if_pos c22] at H
            have c22b0 : decide (0 <= x9_2) = true := decide_eq_true c22
            clear c22
            by_cases c23 : x9_2 < (a0.size : Int)
            ·rw [if_pos c23] at H
             have c23b0 : decide (x9_2 < (a0.size : Int)) = true := decide_eq_true c23
             clear c23
             by_cases c25 : (bt a0 x9_2) = 46
             ·rw [if_pos c25] at H
              have c25b0 : ((bt a0 x9_2) == 46) = true := beq_iff_eq.mpr c25
              have c25b1 : ((bt a0 x9_2) != 46) = false := bne_eq_false_iff_eq.mpr c25
              clear c25
              have H' := am H
              clear H
              have p24 : 0 <= (x9_2 : Int) := of_decide_eq_true pQ
              have q24 : x9_2 < (a0.size : Int) := of_decide_eq_true pQ
              have hx24 := bt_at a0 x9_2
              replace p24 := eq_true p24
              replace q24 := eq_true q24
              go_wp2
              go_roundg kj14
              case measure => have := HJ2.out; have := HK2.out; have := HJ14.out; omega
              case rel => exact ⟨(x7_2), (true), (wrap64 (x9_2 + 1)), (x544002_2), (by first | rfl | (simp; done) | (simp [*]; done)), (by first | rfl | (simp; done) | (simp [*]; done)), H', ⟨by have := HJ2.out; have := HK2.out; have := HJ14.out; omega⟩, ⟨by refine rp ?_; exact HO_7.out⟩, ⟨blk_below BK540.out pl⟩, ⟨blk_below BK543.out pl⟩, ⟨pB⟩⟩
             ·rw [if_neg c25] at H
              have c25b0 : ((bt a0 x9_2) == 46) = false := beq_eq_false_iff_ne.mpr c25
              have c25b1 : ((bt a0 x9_2) != 46) = true := bne_iff_ne.mpr c25
              by_cases c27 : (bt a0 x9_2) = 45
              ·rw [if_pos c27] at H
               have c27b0 : ((bt a0 x9_2) == 45) = true := beq_iff_eq.mpr c27
               have c27b1 : ((bt a0 x9_2) != 45) = false := bne_eq_false_iff_eq.mpr c27
               clear c27
               have H' := am H
               clear H
               have p24 : 0 <= (x9_2 : Int) := of_decide_eq_true pQ
               have q24 : x9_2 < (a0.size : Int) := of_decide_eq_true pQ
               have hx24 := bt_at a0 x9_2
               replace p24 := eq_true p24
               replace q24 := eq_true q24
               have p26 : 0 <= (x9_2 : Int) := of_decide_eq_true pQ
               have q26 : x9_2 < (a0.size : Int) := of_decide_eq_true pQ
               have hx26 := bt_at a0 x9_2
               replace p26 := eq_true p26
               replace q26 := eq_true q26
               go_wp2
               go_roundg kj14
               case measure => have := HJ2.out; have := HK2.out; have := HJ14.out; omega
               case rel => exact ⟨(x7_2), (x8_2), (wrap64 (x9_2 + 1)), (x544002_2), (by first | rfl | (simp; done) | (simp [*]; done)), (by first | rfl | (simp; done) | (simp [*]; done)), H', ⟨by have := HJ2.out; have := HK2.out; have := HJ14.out; omega⟩, ⟨by refine rp ?_; exact HO_7.out⟩, ⟨blk_below BK540.out pl⟩, ⟨blk_below BK543.out pl⟩, ⟨pB⟩⟩
              ·rw [if_neg c27] at H
               have c27b0 : ((bt a0 x9_2) == 45) = false := beq_eq_false_iff_ne.mpr c27
               have c27b1 : ((bt a0 x9_2) != 45) = true := bne_iff_ne.mpr c27
               obtain ⟨y544, hy544⟩ : ∃ y_ : List Int, y_ = (([((bt a0 x9_2) - 48) % 256] : List Int)) := ⟨_, rfl⟩
               replace H : (if y544.length + x7_2.length < 17592186044416 then ((some (y544 ++ x7_2 : List Int)).bind fun y547 => (if x8_2 = true then (bolterref02_Parse.l0 kj14 a0 y547 x8_2 (wrap64 (x9_2 + 1)) ((bt a0 0) == 45) (wrap64 (x544002_2 - 1))) else (bolterref02_Parse.l0 kj14 a0 y547 x8_2 (wrap64 (x9_2 + 1)) ((bt a0 0) == 45) x544002_2))) else (none)) = some (r1, r2, r3, r4) := by first | (rw [hy544]; with_reducible exact H) | (have H2_ := (Option.bind_some _ _).symm.trans H; rw [hy544]; with_reducible exact H2_) | (have H2_ := (Option.bind_some _ _).symm.trans H; with_reducible exact H2_) | with_reducible exact H | (rw [hy544]; exact H) | exact H
               have Ny544 := am hy544
               clear hy544
               by_cases c29 : y544.length + x7_2.length < 17592186044416
               ·rw [if_pos c29] at H
                have LMc29 := am c29
                clear c29
                obtain ⟨y547, hy547⟩ : ∃ y_ : List Int, y_ = (y544 ++ x7_2) := ⟨_, rfl⟩
                replace H : (if x8_2 = true then (bolterref02_Parse.l0 kj14 a0 y547 x8_2 (wrap64 (x9_2 + 1)) ((bt a0 0) == 45) (wrap64 (x544002_2 - 1))) else (bolterref02_Parse.l0 kj14 a0 y547 x8_2 (wrap64 (x9_2 + 1)) ((bt a0 0) == 45) x544002_2)) = some (r1, r2, r3, r4) := by first | (rw [hy547]; with_reducible exact H) | (have H2_ := (Option.bind_some _ _).symm.trans H; rw [hy547]; with_reducible exact H2_) | (have H2_ := (Option.bind_some _ _).symm.trans H; with_reducible exact H2_) | with_reducible exact H | (rw [hy547]; exact H) | exact H
                have Ny547 := am hy547
                clear hy547
                by_cases c30 : x8_2 = true
                ·subst c30
                 rw [if_pos rfl] at H
                 have H' := am H
                 clear H
                 have p24 : 0 <= (x9_2 : Int) := of_decide_eq_true pQ
                 have q24 : x9_2 < (a0.size : Int) := of_decide_eq_true pQ
                 have hx24 := bt_at a0 x9_2
                 replace p24 := eq_true p24
                 replace q24 := eq_true q24
                 have p26 : 0 <= (x9_2 : Int) := of_decide_eq_true pQ
                 have q26 : x9_2 < (a0.size : Int) := of_decide_eq_true pQ
                 have hx26 := bt_at a0 x9_2
                 replace p26 := eq_true p26
                 replace q26 := eq_true q26
                 have p28 : 0 <= (x9_2 : Int) := of_decide_eq_true pQ
                 have q28 : x9_2 < (a0.size : Int) := of_decide_eq_true pQ
                 have hx28 := bt_at a0 x9_2
                 replace p28 := eq_true p28
                 replace q28 := eq_true q28
                 go_wp2_with (first | ((with_reducible refine gate_dst (N := 70) rfl ?_); (try (refine gate_guard (by rfl) ?_; dsimp only)); refine Kd.R_lit (Kd.int .i64) _ 3 ?hg (N := 70) ?hd (xs := ([((bt a0 x9_2) - 48) % 256] : List Int)) (inner := [.int .i64 (((bt a0 x9_2) - 48) % 256)]) (ok := fun _ => True) (okp := fun _ => True) ?hr ?hp (fun _ hk => hk) trivial (Below.refl _ _) (Nat.le_refl _) (by simp) ?_; (case hd => rfl); (case hg => rfl); (case hr => first | (go_simp; done) | (go_simp; rfl)); (case hp => exact (Reps.one (show Kd.M (Kd.int .i64) _ _ _ (((bt a0 x9_2) - 48) % 256) [.int .i64 (((bt a0 x9_2) - 48) % 256)] from rfl) (Reps.none _ _))); intro v545 w31 ho32 hb hg_ hnew_; clear hg_ hnew_; (first | rw [<- Ny544.out] at ho32 | (simp only [Int.reduceToNat] at ho32; rw [<- Ny544.out] at ho32)); have n0_ := am (Kd.R_elder' (Kd.R_below HO_7.out pl) (Kd.R_base ho32) hb); have n1_ := am (Kd.R_lower (Kd.R_new' ho32 (Kd.R_lt (Kd.R_below HO_7.out pl))) (below_size pB)); have n2_ := am (blk_below (blk_below BK540.out pl) hb); have n3_ := am (blk_below (blk_below BK543.out pl) hb); have n4_ := am (below_step pB hb); clear HO_7 BK540 BK543 HB; have HO_7 := n0_; have HO546 := n1_; have BK540 := n2_; have BK543 := n3_; have HB := n4_; clear n0_ n1_ n2_ n3_ n4_ hb ho32; obtain ⟨Ao34, co34, eo34⟩ := Kd.R_slice HO_7.out; subst eo34) | ((with_reducible refine gate_builtin (b := .append) (xs := #[.tmp 70, .tmp 71]) rfl ?_); (try (refine gate_guard (by rfl) ?_; dsimp only)); at_builtin; refine Kd.R_append_rows (Kd.int .i64) (w0 := w) w.heap.size rfl (.tmp 70) (.tmp 71) 28 3 (.int .i64 0) 8 rfl Tryz.underlying28 info3 rfl (by decide) (by omega) v545 y544 x7_2 _ _ _ (fun k_ => some k_ ≠ (.slice Ao34 x7_2.length co34 : Value).ownBlock) (fun _ => False) rfl rfl ?aO ?aR (fun _ _ h => h) (fun _ h => h.elim) ?aF ?aB ?aS ?aL ?_; (case aR => exact Kd.C_below (Kd.R_reads' HO_7.out).2.2 pl); (case aB => exact pB); (case aF => exact (fun k_ hk => Kd.fresh' (Kd.R_lt (Kd.R_below HO_7.out pl)) k_ hk)); (case aO => exact (Kd.R_below (Kd.R_mono HO546.out (fun _ hk => hk.2)) pl)); (case aS => exact (below_size pB)); (case aL => have := LMc29.out; omega); intro v548 w33 ho hb hg hat; rw [<- Ny547.out] at ho; have n0_ := am (Kd.R_after (ok := (fun _ => True)) (Kd.R_below HO_7.out pl) hg hat); have n1_ := am (blk_grown (g := gb540) (o := .cells #[.bool false, .slice none 0 0, .int .i64 0] 24 (0, 0)) (blk_below BK540.out pl) hg (Kd.R_ne HO546.out BK540.out (by decide))); have n2_ := am (blk_grown (g := gb543) (o := .cells #[.bool ((bt a0 0) == 45), .slice none 0 0, .int .i64 x544002_2] 30 (0, 0)) (blk_below BK543.out pl) hg (Kd.R_ne HO546.out BK543.out (by decide))); have n3_ := am (hb); have n4_ := am (ho); clear HO_7 BK540 BK543 HB HO546; have HO_7 := n0_; have BK540 := n1_; have BK543 := n2_; have HB := n3_; have HO549 := n4_; clear n0_ n1_ n2_ n3_ n4_ ho hb hg hat; have hnb35 := NB543_540.out; have hnc35 := NB540_543.out; obtain ⟨hcz36_0, hcz36_1, hcz36_2, hfz36_0, hfz36_1, hfz36_2⟩ := cEc BK543.out))
                 go_roundg kj14
                 case measure => have := HJ2.out; have := HK2.out; have := HJ14.out; omega
                 case rel => exact ⟨(y547), (true), (wrap64 (x9_2 + 1)), (wrap64 (x544002_2 - 1)), (by first | rfl | (simp; done) | (simp [*]; done)), (by first | rfl | (simp; done) | (simp [*]; done)), H', ⟨by have := HJ2.out; have := HK2.out; have := HJ14.out; omega⟩, ⟨by refine rp ?_; exact Kd.R_mono (Kd.R_far (p := ⟨gb543, 2, none⟩) (Kd.R_types HO549.out BK543.out (by decide)) (fun _ hk => hk.2) (.int .i64 (wrap64 (x544002_2 - 1)))) (fun _ hk => trivial)⟩, ⟨bf NB540_543.out BK540.out⟩, ⟨by refine bp ?_; refine blk_put (cs := #[.bool ((bt a0 0) == 45), .slice none 0 0, .int .i64 x544002_2]) ?_ 2 _ rfl; exact bp BK543.out⟩, ⟨pB⟩⟩
                ·replace c30 := Bool.eq_false_iff.mpr c30
                 subst c30
                 rw [if_neg (show ¬ (false = true) by decide)] at H
                 have H' := am H
                 clear H
                 have p24 : 0 <= (x9_2 : Int) := of_decide_eq_true pQ
                 have q24 : x9_2 < (a0.size : Int) := of_decide_eq_true pQ
                 have hx24 := bt_at a0 x9_2
                 replace p24 := eq_true p24
                 replace q24 := eq_true q24
                 have p26 : 0 <= (x9_2 : Int) := of_decide_eq_true pQ
                 have q26 : x9_2 < (a0.size : Int) := of_decide_eq_true pQ
                 have hx26 := bt_at a0 x9_2
                 replace p26 := eq_true p26
                 replace q26 := eq_true q26
                 have p28 : 0 <= (x9_2 : Int) := of_decide_eq_true pQ
                 have q28 : x9_2 < (a0.size : Int) := of_decide_eq_true pQ
                 have hx28 := bt_at a0 x9_2
                 replace p28 := eq_true p28
                 replace q28 := eq_true q28
                 go_wp2_with (first | ((with_reducible refine gate_dst (N := 70) rfl ?_); (try (refine gate_guard (by rfl) ?_; dsimp only)); refine Kd.R_lit (Kd.int .i64) _ 3 ?hg (N := 70) ?hd (xs := ([((bt a0 x9_2) - 48) % 256] : List Int)) (inner := [.int .i64 (((bt a0 x9_2) - 48) % 256)]) (ok := fun _ => True) (okp := fun _ => True) ?hr ?hp (fun _ hk => hk) trivial (Below.refl _ _) (Nat.le_refl _) (by simp) ?_; (case hd => rfl); (case hg => rfl); (case hr => first | (go_simp; done) | (go_simp; rfl)); (case hp => exact (Reps.one (show Kd.M (Kd.int .i64) _ _ _ (((bt a0 x9_2) - 48) % 256) [.int .i64 (((bt a0 x9_2) - 48) % 256)] from rfl) (Reps.none _ _))); intro v545 w37 ho38 hb hg_ hnew_; clear hg_ hnew_; (first | rw [<- Ny544.out] at ho38 | (simp only [Int.reduceToNat] at ho38; rw [<- Ny544.out] at ho38)); have n0_ := am (Kd.R_elder' (Kd.R_below HO_7.out pl) (Kd.R_base ho38) hb); have n1_ := am (Kd.R_lower (Kd.R_new' ho38 (Kd.R_lt (Kd.R_below HO_7.out pl))) (below_size pB)); have n2_ := am (blk_below (blk_below BK540.out pl) hb); have n3_ := am (blk_below (blk_below BK543.out pl) hb); have n4_ := am (below_step pB hb); clear HO_7 BK540 BK543 HB; have HO_7 := n0_; have HO546 := n1_; have BK540 := n2_; have BK543 := n3_; have HB := n4_; clear n0_ n1_ n2_ n3_ n4_ hb ho38; obtain ⟨Ao40, co40, eo40⟩ := Kd.R_slice HO_7.out; subst eo40) | ((with_reducible refine gate_builtin (b := .append) (xs := #[.tmp 70, .tmp 71]) rfl ?_); (try (refine gate_guard (by rfl) ?_; dsimp only)); at_builtin; refine Kd.R_append_rows (Kd.int .i64) (w0 := w) w.heap.size rfl (.tmp 70) (.tmp 71) 28 3 (.int .i64 0) 8 rfl Tryz.underlying28 info3 rfl (by decide) (by omega) v545 y544 x7_2 _ _ _ (fun k_ => some k_ ≠ (.slice Ao40 x7_2.length co40 : Value).ownBlock) (fun _ => False) rfl rfl ?aO ?aR (fun _ _ h => h) (fun _ h => h.elim) ?aF ?aB ?aS ?aL ?_; (case aR => exact Kd.C_below (Kd.R_reads' HO_7.out).2.2 pl); (case aB => exact pB); (case aF => exact (fun k_ hk => Kd.fresh' (Kd.R_lt (Kd.R_below HO_7.out pl)) k_ hk)); (case aO => exact (Kd.R_below (Kd.R_mono HO546.out (fun _ hk => hk.2)) pl)); (case aS => exact (below_size pB)); (case aL => have := LMc29.out; omega); intro v548 w39 ho hb hg hat; rw [<- Ny547.out] at ho; have n0_ := am (Kd.R_after (ok := (fun _ => True)) (Kd.R_below HO_7.out pl) hg hat); have n1_ := am (blk_grown (g := gb540) (o := .cells #[.bool false, .slice none 0 0, .int .i64 0] 24 (0, 0)) (blk_below BK540.out pl) hg (Kd.R_ne HO546.out BK540.out (by decide))); have n2_ := am (blk_grown (g := gb543) (o := .cells #[.bool ((bt a0 0) == 45), .slice none 0 0, .int .i64 x544002_2] 30 (0, 0)) (blk_below BK543.out pl) hg (Kd.R_ne HO546.out BK543.out (by decide))); have n3_ := am (hb); have n4_ := am (ho); clear HO_7 BK540 BK543 HB HO546; have HO_7 := n0_; have BK540 := n1_; have BK543 := n2_; have HB := n3_; have HO549 := n4_; clear n0_ n1_ n2_ n3_ n4_ ho hb hg hat))
                 go_roundg kj14
                 case measure => have := HJ2.out; have := HK2.out; have := HJ14.out; omega
                 case rel => exact ⟨(y547), (false), (wrap64 (x9_2 + 1)), (x544002_2), (by first | rfl | (simp; done) | (simp [*]; done)), (by first | rfl | (simp; done) | (simp [*]; done)), H', ⟨by have := HJ2.out; have := HK2.out; have := HJ14.out; omega⟩, ⟨by refine rp ?_; exact Kd.R_mono HO549.out (fun _ hk => trivial)⟩, ⟨blk_below BK540.out pl⟩, ⟨blk_below BK543.out pl⟩, ⟨pB⟩⟩
               ·rw [if_neg c29] at H
                exact absurd H (by simp)
            ·rw [if_neg c23] at H
             exact absurd H (by simp)
           ·rw [if_neg c22] at H
            exact absurd H (by simp)
          ·replace c21 := Bool.eq_false_iff.mpr c21
           subst c21
           rw [if_neg (show ¬ (false = true) by decide)] at H
           by_cases c41 : x9_2 < (a0.size : Int)
           ·rw [if_pos c41] at H
            have c41b0 : decide (x9_2 < (a0.size : Int)) = true := decide_eq_true c41
            clear c41
            have H' := am H
            clear H
            go_wp2
            go_loopg [9, 10, 11, 12] kj14 (fun kq v9 v10 v11 v12 w' => ∃ (x9_4 : Int) (x10_4 : Bool) (x11_4 : Int) (x12_4 : Int) (x541000_4 : Bool) (x541002_4 : Int), v9 = .int .i64 x9_4 /\ v10 = .bool x10_4 /\ v11 = .int .i64 x11_4 /\ v12 = .int .i64 x12_4 /\ Aside0 (bolterref02_Parse.l1 kq a0 x7_2 x9_4 x10_4 x11_4 x12_4 ((bt a0 0) == 45) x544002_2 = some (r1, r2, r3, r4)) /\ Aside0 (kq <= kj14) /\ Aside0 (Kd.R (Kd.int .i64) 3 w' w.heap.size (fun _ => True) u7 x7_2) /\ Aside0 (w'.heap[gb540]? = some (.cells #[.bool x541000_4, (.slice none 0 0), .int .i64 x541002_4] 24 (0, 0))) /\ Aside0 (w'.heap[gb543]? = some (.cells #[.bool ((bt a0 0) == 45), (.slice none 0 0), .int .i64 x544002_2] 30 (0, 0))) /\ Aside0 (Below w.heap.size w w'))
            case atStart => exact ⟨(wrap64 (x9_2 + 1)), (false), (0), (0), (false), (0), (by first | rfl | (simp; done) | (simp [*]; done)), (by first | rfl | (simp; done) | (simp [*]; done)), (by first | rfl | (simp; done) | (simp [*]; done)), (by first | rfl | (simp; done) | (simp [*]; done)), H', ⟨Nat.le_refl _⟩, ⟨by refine rp ?_; exact HO_7.out⟩, ⟨blk_below BK540.out pl⟩, ⟨blk_below BK543.out pl⟩, ⟨pB⟩⟩
            case round =>
             clear H'
             (try clear c6); (try clear c8); (try clear c8b0); (try clear c8b1); (try clear c10); (try clear c10b0); (try clear c10b1); (try clear p11); (try clear q11); (try clear hx11); (try clear qi11); (try clear c21); (try clear c41); (try clear c41b0); (try clear hcz14_0); (try clear hcz14_1); (try clear hcz14_2); (try clear hfz14_0); (try clear hfz14_1); (try clear hfz14_2); (try clear p11); (try clear q11)
             obtain ⟨x9_4, x10_4, x11_4, x12_4, x541000_4, x541002_4, rfl, rfl, rfl, rfl, HA, HK4, HO_7, BK540, BK543, HB⟩ := hrel
             cases gk with
             | zero => exact absurd HA.out (by simp [bolterref02_Parse.l1])
             | succ k4 =>
              have H := HA.out
              clear HA
              simp only [bolterref02_Parse.l1] at H
              by_cases c42 : x9_4 < (a0.size : Int)
              ·rw [if_pos c42] at H
               have c42b0 : decide (x9_4 < (a0.size : Int)) = true := decide_eq_true c42
               clear c42
               by_cases c43 : 0 <= x9_4
               ·rw [if_pos c43] at H
                have c43b0 : decide (0 <= x9_4) = true := decide_eq_true c43
                clear c43
                by_cases c45 : (bt a0 x9_4) = 45
                ·rw [if_pos c45] at H
                 have c45b0 : ((bt a0 x9_4) == 45) = true := beq_iff_eq.mpr c45
                 have c45b1 : ((bt a0 x9_4) != 45) = false := bne_eq_false_iff_eq.mpr c45
                 clear c45
                 have H' := am H
                 clear H
                 have p44 : 0 <= (x9_4 : Int) := of_decide_eq_true pQ
                 have q44 : x9_4 < (a0.size : Int) := of_decide_eq_true pQ
                 have hx44 := bt_at a0 x9_4
                 replace p44 := eq_true p44
                 replace q44 := eq_true q44
                 go_wp2
                 go_roundg k4
                 case measure => have := HJ2.out; have := HK2.out; have := HJ14.out; have := HK4.out; omega
                 case rel => exact ⟨(wrap64 (x9_4 + 1)), (true), (x11_4), (x12_4), (x541000_4), (x541002_4), (by first | rfl | (simp; done) | (simp [*]; done)), (by first | rfl | (simp; done) | (simp [*]; done)), (by first | rfl | (simp; done) | (simp [*]; done)), (by first | rfl | (simp; done) | (simp [*]; done)), H', ⟨by have := HJ2.out; have := HK2.out; have := HJ14.out; have := HK4.out; omega⟩, ⟨by refine rp ?_; exact HO_7.out⟩, ⟨blk_below BK540.out pl⟩, ⟨blk_below BK543.out pl⟩, ⟨pB⟩⟩
                ·rw [if_neg c45] at H
                 have c45b0 : ((bt a0 x9_4) == 45) = false := beq_eq_false_iff_ne.mpr c45
                 have c45b1 : ((bt a0 x9_4) != 45) = true := bne_iff_ne.mpr c45
                 by_cases c47 : (bt a0 x9_4) = 43
                 ·rw [if_pos c47] at H
                  have c47b0 : ((bt a0 x9_4) == 43) = true := beq_iff_eq.mpr c47
                  have c47b1 : ((bt a0 x9_4) != 43) = false := bne_eq_false_iff_eq.mpr c47
                  clear c47
                  have H' := am H
                  clear H
                  have p44 : 0 <= (x9_4 : Int) := of_decide_eq_true pQ
                  have q44 : x9_4 < (a0.size : Int) := of_decide_eq_true pQ
                  have hx44 := bt_at a0 x9_4
                  replace p44 := eq_true p44
                  replace q44 := eq_true q44
                  have p46 : 0 <= (x9_4 : Int) := of_decide_eq_true pQ
                  have q46 : x9_4 < (a0.size : Int) := of_decide_eq_true pQ
                  have hx46 := bt_at a0 x9_4
                  replace p46 := eq_true p46
                  replace q46 := eq_true q46
                  go_wp2
                  go_roundg k4
                  case measure => have := HJ2.out; have := HK2.out; have := HJ14.out; have := HK4.out; omega
                  case rel => exact ⟨(wrap64 (x9_4 + 1)), (x10_4), (x11_4), (x12_4), (x541000_4), (x541002_4), (by first | rfl | (simp; done) | (simp [*]; done)), (by first | rfl | (simp; done) | (simp [*]; done)), (by first | rfl | (simp; done) | (simp [*]; done)), (by first | rfl | (simp; done) | (simp [*]; done)), H', ⟨by have := HJ2.out; have := HK2.out; have := HJ14.out; have := HK4.out; omega⟩, ⟨by refine rp ?_; exact HO_7.out⟩, ⟨blk_below BK540.out pl⟩, ⟨blk_below BK543.out pl⟩, ⟨pB⟩⟩
                 ·rw [if_neg c47] at H
                  have c47b0 : ((bt a0 x9_4) == 43) = false := beq_eq_false_iff_ne.mpr c47
                  have c47b1 : ((bt a0 x9_4) != 43) = true := bne_iff_ne.mpr c47
                  have HC48 := am H
                  clear H
                  have p44 : 0 <= (x9_4 : Int) := of_decide_eq_true pQ
                  have q44 : x9_4 < (a0.size : Int) := of_decide_eq_true pQ
                  have hx44 := bt_at a0 x9_4
                  replace p44 := eq_true p44
                  replace q44 := eq_true q44
                  have p46 : 0 <= (x9_4 : Int) := of_decide_eq_true pQ
                  have q46 : x9_4 < (a0.size : Int) := of_decide_eq_true pQ
                  have hx46 := bt_at a0 x9_4
                  replace p46 := eq_true p46
                  replace q46 := eq_true q46
                  go_upto_region 26 with (fail)
                  go_cut [107] (fun v107 wc => ∃ (kq : Nat) (x107_47 : Bool), v107 = .bool x107_47 /\ Aside0 (bolterref02_Parse.j4 kq a0 x7_2 x9_4 x10_4 x11_4 x12_4 x107_47 ((bt a0 0) == 45) x544002_2 = some (r1, r2, r3, r4)) /\ Aside0 (kq <= k4) /\ Aside0 (Kd.R (Kd.int .i64) 3 wc w.heap.size (fun _ => True) u7 x7_2) /\ Aside0 (wc.heap[gb540]? = some (.cells #[.bool x541000_4, (.slice none 0 0), .int .i64 x541002_4] 24 (0, 0))) /\ Aside0 (wc.heap[gb543]? = some (.cells #[.bool ((bt a0 0) == 45), (.slice none 0 0), .int .i64 x544002_2] 30 (0, 0))) /\ Aside0 (Below w.heap.size w wc))
                  case first =>
                   have H := HC48.out
                   clear HC48
                   by_cases c49 : x11_4 > 0
                   ·rw [if_pos c49] at H
                    have c49b0 : decide (0 < x11_4) = true := decide_eq_true c49
                    clear c49
                    (first | rw [c49b0] | (simp only [i64_w, i32_w]; rw [c49b0]) | skip)
                    have H' := am H
                    clear H
                    go_wp2
                    go_meet
                    case rel => exact ⟨_, (true), (by first | rfl | (simp; done) | (simp [*]; done)), H', ⟨by have := HJ2.out; have := HK2.out; have := HJ14.out; have := HK4.out; first | omega | exact Nat.le_refl _⟩, ⟨by refine rp ?_; exact HO_7.out⟩, ⟨blk_below BK540.out pl⟩, ⟨blk_below BK543.out pl⟩, ⟨pB⟩⟩
                   ·rw [if_neg c49] at H
                    have c49b0 : decide (0 < x11_4) = false := decide_eq_false c49
                    clear c49
                    (first | rw [c49b0] | (simp only [i64_w, i32_w]; rw [c49b0]) | skip)
                    have H' := am H
                    clear H
                    have p50 : 0 <= (x9_4 : Int) := of_decide_eq_true pQ
                    have q50 : x9_4 < (a0.size : Int) := of_decide_eq_true pQ
                    have hx50 := bt_at a0 x9_4
                    replace p50 := eq_true p50
                    replace q50 := eq_true q50
                    go_wp2
                    go_meet
                    case rel => exact ⟨_, (((bt a0 x9_4) != 48)), (by first | rfl | (simp; done) | (simp [*]; done)), H', ⟨by have := HJ2.out; have := HK2.out; have := HJ14.out; have := HK4.out; first | omega | exact Nat.le_refl _⟩, ⟨by refine rp ?_; exact HO_7.out⟩, ⟨blk_below BK540.out pl⟩, ⟨blk_below BK543.out pl⟩, ⟨pB⟩⟩
                  case rest =>
                   clear HC48
                   (try clear c6); (try clear c8); (try clear c8b0); (try clear c8b1); (try clear c10); (try clear c10b0); (try clear c10b1); (try clear p11); (try clear q11); (try clear hx11); (try clear qi11); (try clear c21); (try clear c41); (try clear c41b0); (try clear c42); (try clear c42b0); (try clear c43); (try clear c43b0); (try clear p44); (try clear q44); (try clear hx44); (try clear c45); (try clear c45b0); (try clear c45b1); (try clear p46); (try clear q46); (try clear hx46); (try clear c47); (try clear c47b0); (try clear c47b1); (try clear hcz14_0); (try clear hcz14_1); (try clear hcz14_2); (try clear hfz14_0); (try clear hfz14_1); (try clear hfz14_2); (try clear p11); (try clear p44); (try clear p46); (try clear q11); (try clear q44); (try clear q46)
                   obtain ⟨kq, x107_47, rfl, HA, HJ47, HO_7, BK540, BK543, HB⟩ := hcut
                   cases kq with
                   | zero => exact absurd HA.out (by simp [bolterref02_Parse.j4])
                   | succ kj47 =>
                    have H := HA.out
                    clear HA
                    simp only [bolterref02_Parse.j4] at H
                    by_cases c51 : x107_47 = true
                    ·subst c51
                     rw [if_pos rfl] at H
                     by_cases c52 : (wrap64 (x12_4 + 1)) > 6
                     ·rw [if_pos c52] at H
                      have c52b0 : decide (6 < (wrap64 (x12_4 + 1))) = true := decide_eq_true c52
                      clear c52
                      simp only [Option.some.injEq, Prod.mk.injEq] at H
                      obtain ⟨rfl, rfl, rfl, rfl⟩ := H
                      have hnb53 := NB540_543.out
                      have hnc53 := NB543_540.out
                      obtain ⟨hcz54_0, hcz54_1, hcz54_2, hfz54_0, hfz54_1, hfz54_2⟩ := cEc BK540.out
                      go_wp2
                      refine bodyPost_ret (results_ct rfl _ _ gb540 24 #[.bool false, .slice none 0 0, .int .i64 0] (0, 0) _ rfl (by refine bp ?_; refine blk_put (cs := #[.bool false, .slice none 0 0, .int .i64 x541002_4]) ?_ 2 _ rfl; refine bp ?_; refine blk_put (cs := #[.bool false, .slice none 0 0, .int .i64 x541002_4]) ?_ 1 _ rfl; refine bp ?_; refine blk_put (cs := #[.bool x541000_4, .slice none 0 0, .int .i64 x541002_4]) ?_ 0 _ rfl; exact bp BK540.out) Tryz.underlying24 rfl (by kernel_rfl)) rfl ?_
                      exact ⟨_, pE, by first | exact Kd.R_nil _ _ _ _ _ | exact Kd.N_nil _ _ _ _ _ | exact Kd.V_nil _ _ _ _ _ | exact Kd.Q_nil _ _ _ _ _ | exact Kd.S_nil _ _ _ _ _, pB⟩
                     ·rw [if_neg c52] at H
                      have c52b0 : decide (6 < (wrap64 (x12_4 + 1))) = false := decide_eq_false c52
                      clear c52
                      by_cases c55 : 0 <= x9_4
                      ·rw [if_pos c55] at H
                       have c55b0 : decide (0 <= x9_4) = true := decide_eq_true c55
                       clear c55
                       by_cases c56 : x9_4 < (a0.size : Int)
                       ·rw [if_pos c56] at H
                        have c56b0 : decide (x9_4 < (a0.size : Int)) = true := decide_eq_true c56
                        clear c56
                        have H' := am H
                        clear H
                        have p57 : 0 <= (x9_4 : Int) := of_decide_eq_true pQ
                        have q57 : x9_4 < (a0.size : Int) := of_decide_eq_true pQ
                        have hx57 := bt_at a0 x9_4
                        replace p57 := eq_true p57
                        replace q57 := eq_true q57
                        go_wp2
                        go_roundg kj47
                        case measure => have := HJ2.out; have := HK2.out; have := HJ14.out; have := HK4.out; have := HJ47.out; omega
                        case rel => exact ⟨(wrap64 (x9_4 + 1)), (x10_4), (wrap64 ((wrap64 (10 * x11_4)) + (((bt a0 x9_4) - 48) % 256))), (wrap64 (x12_4 + 1)), (x541000_4), (x541002_4), (by first | rfl | (simp; done) | (simp [*]; done)), (by first | rfl | (simp; done) | (simp [*]; done)), (by first | rfl | (simp; done) | (simp [*]; done)), (by first | rfl | (simp; done) | (simp [*]; done)), H', ⟨by have := HJ2.out; have := HK2.out; have := HJ14.out; have := HK4.out; have := HJ47.out; omega⟩, ⟨by refine rp ?_; exact HO_7.out⟩, ⟨blk_below BK540.out pl⟩, ⟨blk_below BK543.out pl⟩, ⟨pB⟩⟩
                       ·rw [if_neg c56] at H
                        exact absurd H (by simp)
                      ·rw [if_neg c55] at H
                       exact absurd H (by simp)
                    ·replace c51 := Bool.eq_false_iff.mpr c51
                     subst c51
                     rw [if_neg (show ¬ (false = true) by decide)] at H
                     by_cases c58 : x12_4 > 6
                     ·rw [if_pos c58] at H
                      have c58b0 : decide (6 < x12_4) = true := decide_eq_true c58
                      clear c58
                      simp only [Option.some.injEq, Prod.mk.injEq] at H
                      obtain ⟨rfl, rfl, rfl, rfl⟩ := H
                      have hnb59 := NB540_543.out
                      have hnc59 := NB543_540.out
                      obtain ⟨hcz60_0, hcz60_1, hcz60_2, hfz60_0, hfz60_1, hfz60_2⟩ := cEc BK540.out
                      go_wp2
                      refine bodyPost_ret (results_ct rfl _ _ gb540 24 #[.bool false, .slice none 0 0, .int .i64 0] (0, 0) _ rfl (by refine bp ?_; refine blk_put (cs := #[.bool false, .slice none 0 0, .int .i64 x541002_4]) ?_ 2 _ rfl; refine bp ?_; refine blk_put (cs := #[.bool false, .slice none 0 0, .int .i64 x541002_4]) ?_ 1 _ rfl; refine bp ?_; refine blk_put (cs := #[.bool x541000_4, .slice none 0 0, .int .i64 x541002_4]) ?_ 0 _ rfl; exact bp BK540.out) Tryz.underlying24 rfl (by kernel_rfl)) rfl ?_
                      exact ⟨_, pE, by first | exact Kd.R_nil _ _ _ _ _ | exact Kd.N_nil _ _ _ _ _ | exact Kd.V_nil _ _ _ _ _ | exact Kd.Q_nil _ _ _ _ _ | exact Kd.S_nil _ _ _ _ _, pB⟩
                     ·rw [if_neg c58] at H
                      have c58b0 : decide (6 < x12_4) = false := decide_eq_false c58
                      clear c58
                      by_cases c61 : 0 <= x9_4
                      ·rw [if_pos c61] at H
                       have c61b0 : decide (0 <= x9_4) = true := decide_eq_true c61
                       clear c61
                       by_cases c62 : x9_4 < (a0.size : Int)
                       ·rw [if_pos c62] at H
                        have c62b0 : decide (x9_4 < (a0.size : Int)) = true := decide_eq_true c62
                        clear c62
                        have H' := am H
                        clear H
                        have p63 : 0 <= (x9_4 : Int) := of_decide_eq_true pQ
                        have q63 : x9_4 < (a0.size : Int) := of_decide_eq_true pQ
                        have hx63 := bt_at a0 x9_4
                        replace p63 := eq_true p63
                        replace q63 := eq_true q63
                        go_wp2
                        go_roundg kj47
                        case measure => have := HJ2.out; have := HK2.out; have := HJ14.out; have := HK4.out; have := HJ47.out; omega
                        case rel => exact ⟨(wrap64 (x9_4 + 1)), (x10_4), (wrap64 ((wrap64 (10 * x11_4)) + (((bt a0 x9_4) - 48) % 256))), (x12_4), (x541000_4), (x541002_4), (by first | rfl | (simp; done) | (simp [*]; done)), (by first | rfl | (simp; done) | (simp [*]; done)), (by first | rfl | (simp; done) | (simp [*]; done)), (by first | rfl | (simp; done) | (simp [*]; done)), H', ⟨by have := HJ2.out; have := HK2.out; have := HJ14.out; have := HK4.out; have := HJ47.out; omega⟩, ⟨by refine rp ?_; exact HO_7.out⟩, ⟨blk_below BK540.out pl⟩, ⟨blk_below BK543.out pl⟩, ⟨pB⟩⟩
                       ·rw [if_neg c62] at H
                        exact absurd H (by simp)
                      ·rw [if_neg c61] at H
                       exact absurd H (by simp)
               ·rw [if_neg c43] at H
                exact absurd H (by simp)
              ·rw [if_neg c42] at H
               have c42b0 : decide (x9_4 < (a0.size : Int)) = false := decide_eq_false c42
               clear c42
               by_cases c64 : x10_4 = true
               ·subst c64
                rw [if_pos rfl] at H
                obtain ⟨⟨t550, t551, t554, t555⟩, A65, H⟩ := ob H; (try dsimp only at H)
                simp only [Option.some.injEq, Prod.mk.injEq] at H
                obtain ⟨rfl, rfl, rfl, rfl⟩ := H
                have hnb66 := NB543_540.out
                have hnc66 := NB540_543.out
                obtain ⟨hcz67_0, hcz67_1, hcz67_2, hfz67_0, hfz67_1, hfz67_2⟩ := cEc BK543.out
                go_wp2_with (first | ((with_reducible refine gate_store (t := 3) (p := 128) rfl ?_); refine store_event (t := 3) (p := 128) (v := ?vo_w68) (w1 := (wr.setCell ⟨gb543, 2, none⟩ (.int .i64 (wrap64 (x544002_2 + (wrap64 (-x11_4))))))) ?hg ?ho ?hn ?hr ?_; (case ho => rfl); (case hg => rfl); (case hn => rfl); (case hr => first | (go_simp; done) | (go_simp; rfl)); intro w68 hw; have n0_ : Aside0 (Kd.R (Kd.int .i64) 3 w68 w.heap.size (fun _ => True) u7 x7_2) := ⟨(by rw [hw]; exact (Kd.R_below (Kd.R_mono (Kd.R_far (p := ⟨gb543, 2, none⟩) (Kd.R_types HO_7.out BK543.out (by decide)) (fun _ hk => hk.2) (.int .i64 (wrap64 (x544002_2 + (wrap64 (-x11_4)))))) (fun _ hk => trivial)) pl))⟩; have n1_ : Aside0 (w68.heap[gb540]? = some (.cells #[.bool x541000_4, .slice none 0 0, .int .i64 x541002_4] 24 (0, 0))) := ⟨(by rw [hw]; exact (bf NB540_543.out BK540.out))⟩; have n2_ : Aside0 (w68.heap[gb543]? = some (.cells #[.bool ((bt a0 0) == 45), .slice none 0 0, .int .i64 (wrap64 (x544002_2 + (wrap64 (-x11_4))))] 30 (0, 0))) := ⟨(by rw [hw]; exact (by refine bp ?_; refine blk_put (cs := #[.bool ((bt a0 0) == 45), .slice none 0 0, .int .i64 x544002_2]) ?_ 2 _ rfl; exact bp BK543.out))⟩; have n3_ : Aside0 (Below w.heap.size w w68) := ⟨(by rw [hw]; exact pB)⟩; clear hw HO_7 BK540 BK543 HB; have HO_7 := n0_; have BK540 := n1_; have BK543 := n2_; have HB := n3_; clear n0_ n1_ n2_ n3_; obtain ⟨Ao69, co69, eo69⟩ := Kd.R_slice HO_7.out; subst eo69; obtain ⟨hcz70_0, hcz70_1, hcz70_2, hfz70_0, hfz70_1, hfz70_2⟩ := cEc BK543.out) | ((with_reducible refine gate_store (t := 28) (p := 130) rfl ?_); refine store_event (t := 28) (p := 130) (v := ?vo_w71) (w1 := (w68.setCell ⟨gb543, 1, none⟩ (.slice Ao69 x7_2.length co69))) ?hg ?ho ?hn ?hr ?_; (case ho => rfl); (case hg => rfl); (case hn => rfl); (case hr => first | (go_simp; done) | (go_simp; rfl)); intro w71 hw; have n0_ : Aside0 (Kd.R (Kd.int .i64) 3 w71 w.heap.size (fun _ => True) (.slice Ao69 x7_2.length co69) x7_2) := ⟨(by rw [hw]; exact (Kd.R_below (Kd.R_mono (Kd.R_far (p := ⟨gb543, 1, none⟩) (Kd.R_types HO_7.out BK543.out (by decide)) (fun _ hk => hk.2) (.slice Ao69 x7_2.length co69)) (fun _ hk => trivial)) pl))⟩; have n1_ : Aside0 (w71.heap[gb540]? = some (.cells #[.bool x541000_4, .slice none 0 0, .int .i64 x541002_4] 24 (0, 0))) := ⟨(by rw [hw]; exact (bf NB540_543.out BK540.out))⟩; have n2_ : Aside0 (w71.heap[gb543]? = some (.cells #[.bool ((bt a0 0) == 45), .slice Ao69 x7_2.length co69, .int .i64 (wrap64 (x544002_2 + (wrap64 (-x11_4))))] 30 (0, 0))) := ⟨(by rw [hw]; exact (by refine bp ?_; refine blk_put (cs := #[.bool ((bt a0 0) == 45), .slice none 0 0, .int .i64 (wrap64 (x544002_2 + (wrap64 (-x11_4))))]) ?_ 1 _ rfl; exact bp BK543.out))⟩; have n3_ : Aside0 (Below w.heap.size w w71) := ⟨(by rw [hw]; exact pB)⟩; clear hw HO_7 BK540 BK543 HB; have HO_7 := n0_; have BK540 := n1_; have BK543 := n2_; have HB := n3_; clear n0_ n1_ n2_ n3_; obtain ⟨hcz72_0, hcz72_1, hcz72_2, hfz72_0, hfz72_1, hfz72_2⟩ := cEc BK543.out) | (refine gL (some 132) Tryz.func23 #[.agg #[.bool ((bt a0 0) == 45), .slice Ao69 x7_2.length co69, .int .i64 (wrap64 (x544002_2 + (wrap64 (-x11_4))))]] (h := ?_); (with_reducible refine (bolterref02_Made.calls k4 ((bt a0 0) == 45) (fun k_ => some k_ = (.slice Ao69 x7_2.length co69 : Value).ownBlock) (.slice Ao69 x7_2.length co69) x7_2 (wrap64 (x544002_2 + (wrap64 (-x11_4)))) t550 t551 t554 t555 w _ ?side1 ?side2 A65.out).mono ?_); (case side1 => exact pB); (case side2 => exact Kd.R_tight rfl HO_7.out); rintro e w73 ⟨v552, rfl, ho0, hb, hkp⟩; refine ⟨_, rfl, ?_⟩; have n0_ := am (blk_kept (blk_below BK540.out pl) hkp (fun hs_ => (fun e_ => (Kd.R_ne HO_7.out BK540.out (by decide)) e_) hs_)); have n1_ := am (blk_kept (blk_below BK543.out pl) hkp (fun hs_ => (fun e_ => (Kd.R_ne HO_7.out BK543.out (by decide)) e_) hs_)); have n2_ := am (Kd.R_mono (ok' := fun k_ => True) ho0 (fun k_ hk_ => trivial)); have n3_ := am (hb); clear BK540 BK543 HB HO_7; have BK540 := n0_; have BK543 := n1_; have HO553 := n2_; have HB := n3_; clear n0_ n1_ n2_ n3_; (try clear hb); (try clear hkp); (try clear ho0); obtain ⟨hcz74_0, hcz74_1, hcz74_2, hfz74_0, hfz74_1, hfz74_2⟩ := cEc BK540.out; obtain ⟨Ao75, co75, eo75⟩ := Kd.R_slice HO553.out; subst eo75))
                refine bodyPost_ret (results_ct rfl _ _ gb540 24 #[.bool t550, .slice Ao75 t551.length co75, .int .i64 t554] (0, 0) _ rfl (by refine bp ?_; refine blk_put (cs := #[.bool t550, .slice Ao75 t551.length co75, .int .i64 x541002_4]) ?_ 2 _ rfl; refine bp ?_; refine blk_put (cs := #[.bool t550, .slice none 0 0, .int .i64 x541002_4]) ?_ 1 _ rfl; refine bp ?_; refine blk_put (cs := #[.bool x541000_4, .slice none 0 0, .int .i64 x541002_4]) ?_ 0 _ rfl; exact bp BK540.out) Tryz.underlying24 rfl (by kernel_rfl)) rfl ?_
                exact ⟨_, pE, by refine rp ?_; exact Kd.R_mono (Kd.R_far (p := ⟨gb540, 2, none⟩) (Kd.R_far (p := ⟨gb540, 1, none⟩) (Kd.R_far (p := ⟨gb540, 0, none⟩) (Kd.R_types HO553.out BK540.out (by decide)) (fun _ hk => hk.2) (.bool t550)) (fun _ hk => hk.2) (.slice Ao75 t551.length co75)) (fun _ hk => hk.2) (.int .i64 t554)) (fun _ hk => trivial), pB⟩
               ·replace c64 := Bool.eq_false_iff.mpr c64
                subst c64
                rw [if_neg (show ¬ (false = true) by decide)] at H
                obtain ⟨⟨t556, t557, t560, t561⟩, A76, H⟩ := ob H; (try dsimp only at H)
                simp only [Option.some.injEq, Prod.mk.injEq] at H
                obtain ⟨rfl, rfl, rfl, rfl⟩ := H
                have hnb77 := NB543_540.out
                have hnc77 := NB540_543.out
                obtain ⟨hcz78_0, hcz78_1, hcz78_2, hfz78_0, hfz78_1, hfz78_2⟩ := cEc BK543.out
                go_wp2_with (first | ((with_reducible refine gate_store (t := 3) (p := 128) rfl ?_); refine store_event (t := 3) (p := 128) (v := ?vo_w79) (w1 := (wr.setCell ⟨gb543, 2, none⟩ (.int .i64 (wrap64 (x544002_2 + x11_4))))) ?hg ?ho ?hn ?hr ?_; (case ho => rfl); (case hg => rfl); (case hn => rfl); (case hr => first | (go_simp; done) | (go_simp; rfl)); intro w79 hw; have n0_ : Aside0 (Kd.R (Kd.int .i64) 3 w79 w.heap.size (fun _ => True) u7 x7_2) := ⟨(by rw [hw]; exact (Kd.R_below (Kd.R_mono (Kd.R_far (p := ⟨gb543, 2, none⟩) (Kd.R_types HO_7.out BK543.out (by decide)) (fun _ hk => hk.2) (.int .i64 (wrap64 (x544002_2 + x11_4)))) (fun _ hk => trivial)) pl))⟩; have n1_ : Aside0 (w79.heap[gb540]? = some (.cells #[.bool x541000_4, .slice none 0 0, .int .i64 x541002_4] 24 (0, 0))) := ⟨(by rw [hw]; exact (bf NB540_543.out BK540.out))⟩; have n2_ : Aside0 (w79.heap[gb543]? = some (.cells #[.bool ((bt a0 0) == 45), .slice none 0 0, .int .i64 (wrap64 (x544002_2 + x11_4))] 30 (0, 0))) := ⟨(by rw [hw]; exact (by refine bp ?_; refine blk_put (cs := #[.bool ((bt a0 0) == 45), .slice none 0 0, .int .i64 x544002_2]) ?_ 2 _ rfl; exact bp BK543.out))⟩; have n3_ : Aside0 (Below w.heap.size w w79) := ⟨(by rw [hw]; exact pB)⟩; clear hw HO_7 BK540 BK543 HB; have HO_7 := n0_; have BK540 := n1_; have BK543 := n2_; have HB := n3_; clear n0_ n1_ n2_ n3_; obtain ⟨Ao80, co80, eo80⟩ := Kd.R_slice HO_7.out; subst eo80; obtain ⟨hcz81_0, hcz81_1, hcz81_2, hfz81_0, hfz81_1, hfz81_2⟩ := cEc BK543.out) | ((with_reducible refine gate_store (t := 28) (p := 130) rfl ?_); refine store_event (t := 28) (p := 130) (v := ?vo_w82) (w1 := (w79.setCell ⟨gb543, 1, none⟩ (.slice Ao80 x7_2.length co80))) ?hg ?ho ?hn ?hr ?_; (case ho => rfl); (case hg => rfl); (case hn => rfl); (case hr => first | (go_simp; done) | (go_simp; rfl)); intro w82 hw; have n0_ : Aside0 (Kd.R (Kd.int .i64) 3 w82 w.heap.size (fun _ => True) (.slice Ao80 x7_2.length co80) x7_2) := ⟨(by rw [hw]; exact (Kd.R_below (Kd.R_mono (Kd.R_far (p := ⟨gb543, 1, none⟩) (Kd.R_types HO_7.out BK543.out (by decide)) (fun _ hk => hk.2) (.slice Ao80 x7_2.length co80)) (fun _ hk => trivial)) pl))⟩; have n1_ : Aside0 (w82.heap[gb540]? = some (.cells #[.bool x541000_4, .slice none 0 0, .int .i64 x541002_4] 24 (0, 0))) := ⟨(by rw [hw]; exact (bf NB540_543.out BK540.out))⟩; have n2_ : Aside0 (w82.heap[gb543]? = some (.cells #[.bool ((bt a0 0) == 45), .slice Ao80 x7_2.length co80, .int .i64 (wrap64 (x544002_2 + x11_4))] 30 (0, 0))) := ⟨(by rw [hw]; exact (by refine bp ?_; refine blk_put (cs := #[.bool ((bt a0 0) == 45), .slice none 0 0, .int .i64 (wrap64 (x544002_2 + x11_4))]) ?_ 1 _ rfl; exact bp BK543.out))⟩; have n3_ : Aside0 (Below w.heap.size w w82) := ⟨(by rw [hw]; exact pB)⟩; clear hw HO_7 BK540 BK543 HB; have HO_7 := n0_; have BK540 := n1_; have BK543 := n2_; have HB := n3_; clear n0_ n1_ n2_ n3_; obtain ⟨hcz83_0, hcz83_1, hcz83_2, hfz83_0, hfz83_1, hfz83_2⟩ := cEc BK543.out) | (refine gL (some 132) Tryz.func23 #[.agg #[.bool ((bt a0 0) == 45), .slice Ao80 x7_2.length co80, .int .i64 (wrap64 (x544002_2 + x11_4))]] (h := ?_); (with_reducible refine (bolterref02_Made.calls k4 ((bt a0 0) == 45) (fun k_ => some k_ = (.slice Ao80 x7_2.length co80 : Value).ownBlock) (.slice Ao80 x7_2.length co80) x7_2 (wrap64 (x544002_2 + x11_4)) t556 t557 t560 t561 w _ ?side1 ?side2 A76.out).mono ?_); (case side1 => exact pB); (case side2 => exact Kd.R_tight rfl HO_7.out); rintro e w84 ⟨v558, rfl, ho0, hb, hkp⟩; refine ⟨_, rfl, ?_⟩; have n0_ := am (blk_kept (blk_below BK540.out pl) hkp (fun hs_ => (fun e_ => (Kd.R_ne HO_7.out BK540.out (by decide)) e_) hs_)); have n1_ := am (blk_kept (blk_below BK543.out pl) hkp (fun hs_ => (fun e_ => (Kd.R_ne HO_7.out BK543.out (by decide)) e_) hs_)); have n2_ := am (Kd.R_mono (ok' := fun k_ => True) ho0 (fun k_ hk_ => trivial)); have n3_ := am (hb); clear BK540 BK543 HB HO_7; have BK540 := n0_; have BK543 := n1_; have HO559 := n2_; have HB := n3_; clear n0_ n1_ n2_ n3_; (try clear hb); (try clear hkp); (try clear ho0); obtain ⟨hcz85_0, hcz85_1, hcz85_2, hfz85_0, hfz85_1, hfz85_2⟩ := cEc BK540.out; obtain ⟨Ao86, co86, eo86⟩ := Kd.R_slice HO559.out; subst eo86))
                refine bodyPost_ret (results_ct rfl _ _ gb540 24 #[.bool t556, .slice Ao86 t557.length co86, .int .i64 t560] (0, 0) _ rfl (by refine bp ?_; refine blk_put (cs := #[.bool t556, .slice Ao86 t557.length co86, .int .i64 x541002_4]) ?_ 2 _ rfl; refine bp ?_; refine blk_put (cs := #[.bool t556, .slice none 0 0, .int .i64 x541002_4]) ?_ 1 _ rfl; refine bp ?_; refine blk_put (cs := #[.bool x541000_4, .slice none 0 0, .int .i64 x541002_4]) ?_ 0 _ rfl; exact bp BK540.out) Tryz.underlying24 rfl (by kernel_rfl)) rfl ?_
                exact ⟨_, pE, by refine rp ?_; exact Kd.R_mono (Kd.R_far (p := ⟨gb540, 2, none⟩) (Kd.R_far (p := ⟨gb540, 1, none⟩) (Kd.R_far (p := ⟨gb540, 0, none⟩) (Kd.R_types HO559.out BK540.out (by decide)) (fun _ hk => hk.2) (.bool t556)) (fun _ hk => hk.2) (.slice Ao86 t557.length co86)) (fun _ hk => hk.2) (.int .i64 t560)) (fun _ hk => trivial), pB⟩
           ·rw [if_neg c41] at H
            have c41b0 : decide (x9_2 < (a0.size : Int)) = false := decide_eq_false c41
            clear c41
            obtain ⟨⟨t562, t563, t566, t567⟩, A87, H⟩ := ob H; (try dsimp only at H)
            simp only [Option.some.injEq, Prod.mk.injEq] at H
            obtain ⟨rfl, rfl, rfl, rfl⟩ := H
            obtain ⟨Ao88, co88, eo88⟩ := Kd.R_slice HO_7.out
            subst eo88
            have hnb89 := NB543_540.out
            have hnc89 := NB540_543.out
            obtain ⟨hcz90_0, hcz90_1, hcz90_2, hfz90_0, hfz90_1, hfz90_2⟩ := cEc BK543.out
            go_wp2_with (first | ((with_reducible refine gate_store (t := 28) (p := 130) rfl ?_); refine store_event (t := 28) (p := 130) (v := ?vo_w91) (w1 := (wc.setCell ⟨gb543, 1, none⟩ (.slice Ao88 x7_2.length co88))) ?hg ?ho ?hn ?hr ?_; (case ho => rfl); (case hg => rfl); (case hn => rfl); (case hr => first | (go_simp; done) | (go_simp; rfl)); intro w91 hw; have n0_ : Aside0 (Kd.R (Kd.int .i64) 3 w91 w.heap.size (fun _ => True) (.slice Ao88 x7_2.length co88) x7_2) := ⟨(by rw [hw]; exact (Kd.R_below (Kd.R_mono (Kd.R_far (p := ⟨gb543, 1, none⟩) (Kd.R_types HO_7.out BK543.out (by decide)) (fun _ hk => hk.2) (.slice Ao88 x7_2.length co88)) (fun _ hk => trivial)) pl))⟩; have n1_ : Aside0 (w91.heap[gb540]? = some (.cells #[.bool false, .slice none 0 0, .int .i64 0] 24 (0, 0))) := ⟨(by rw [hw]; exact (bf NB540_543.out BK540.out))⟩; have n2_ : Aside0 (w91.heap[gb543]? = some (.cells #[.bool ((bt a0 0) == 45), .slice Ao88 x7_2.length co88, .int .i64 x544002_2] 30 (0, 0))) := ⟨(by rw [hw]; exact (by refine bp ?_; refine blk_put (cs := #[.bool ((bt a0 0) == 45), .slice none 0 0, .int .i64 x544002_2]) ?_ 1 _ rfl; exact bp BK543.out))⟩; have n3_ : Aside0 (Below w.heap.size w w91) := ⟨(by rw [hw]; exact pB)⟩; clear hw HO_7 BK540 BK543 HB; have HO_7 := n0_; have BK540 := n1_; have BK543 := n2_; have HB := n3_; clear n0_ n1_ n2_ n3_; obtain ⟨hcz92_0, hcz92_1, hcz92_2, hfz92_0, hfz92_1, hfz92_2⟩ := cEc BK543.out) | (refine gL (some 132) Tryz.func23 #[.agg #[.bool ((bt a0 0) == 45), .slice Ao88 x7_2.length co88, .int .i64 x544002_2]] (h := ?_); (with_reducible refine (bolterref02_Made.calls kj14 ((bt a0 0) == 45) (fun k_ => some k_ = (.slice Ao88 x7_2.length co88 : Value).ownBlock) (.slice Ao88 x7_2.length co88) x7_2 x544002_2 t562 t563 t566 t567 w _ ?side1 ?side2 A87.out).mono ?_); (case side1 => exact pB); (case side2 => exact Kd.R_tight rfl HO_7.out); rintro e w93 ⟨v564, rfl, ho0, hb, hkp⟩; refine ⟨_, rfl, ?_⟩; have n0_ := am (blk_kept (blk_below BK540.out pl) hkp (fun hs_ => (fun e_ => (Kd.R_ne HO_7.out BK540.out (by decide)) e_) hs_)); have n1_ := am (blk_kept (blk_below BK543.out pl) hkp (fun hs_ => (fun e_ => (Kd.R_ne HO_7.out BK543.out (by decide)) e_) hs_)); have n2_ := am (Kd.R_mono (ok' := fun k_ => True) ho0 (fun k_ hk_ => trivial)); have n3_ := am (hb); clear BK540 BK543 HB HO_7; have BK540 := n0_; have BK543 := n1_; have HO565 := n2_; have HB := n3_; clear n0_ n1_ n2_ n3_; (try clear hb); (try clear hkp); (try clear ho0); obtain ⟨hcz94_0, hcz94_1, hcz94_2, hfz94_0, hfz94_1, hfz94_2⟩ := cEc BK540.out; obtain ⟨Ao95, co95, eo95⟩ := Kd.R_slice HO565.out; subst eo95))
            refine bodyPost_ret (results_ct rfl _ _ gb540 24 #[.bool t562, .slice Ao95 t563.length co95, .int .i64 t566] (0, 0) _ rfl (by refine bp ?_; refine blk_put (cs := #[.bool t562, .slice Ao95 t563.length co95, .int .i64 0]) ?_ 2 _ rfl; refine bp ?_; refine blk_put (cs := #[.bool t562, .slice none 0 0, .int .i64 0]) ?_ 1 _ rfl; refine bp ?_; refine blk_put (cs := #[.bool false, .slice none 0 0, .int .i64 0]) ?_ 0 _ rfl; exact bp BK540.out) Tryz.underlying24 rfl (by kernel_rfl)) rfl ?_
            exact ⟨_, pE, by refine rp ?_; exact Kd.R_mono (Kd.R_far (p := ⟨gb540, 2, none⟩) (Kd.R_far (p := ⟨gb540, 1, none⟩) (Kd.R_far (p := ⟨gb540, 0, none⟩) (Kd.R_types HO565.out BK540.out (by decide)) (fun _ hk => hk.2) (.bool t562)) (fun _ hk => hk.2) (.slice Ao95 t563.length co95)) (fun _ hk => hk.2) (.int .i64 t566)) (fun _ hk => trivial), pB⟩
     ·rw [if_neg c10] at H
      exact absurd H (by simp)
end YtjbjkmccfocikaaGreatDoor.B
end
end Go.Proofs
