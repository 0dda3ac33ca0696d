/- DecOwn: part 4 of 6: the texts B59 B66 B73 B85 B126 B74 B82 B84 HPair B77 B91 PR2 PAny B10 B14 B15 B16 HAsk B109 B19 B20 B110 of this claim, one behind the other. -/
import Derived.Test.YtjbjkmccfocikaaGreatDoorZDecOwn2
import Derived.WalkKit
import Derived.Lib.Hide
import Derived.Outline
import Derived.Deep.DeepFit
import Derived.Laws.Rows
set_option linter.unusedVariables false
set_option linter.unusedSimpArgs false
set_option maxRecDepth 100000
set_option maxHeartbeats 8000000
namespace Go.Proofs
section
namespace YtjbjkmccfocikaaGreatDoor.B
open Go.RowKit YtjbjkmccfocikaaGreatDoorW.PrintWords YtjbjkmccfocikaaGreatDoorW.PrintLast YtjbjkmccfocikaaGreatDoorW.PrintMore
attribute [local go_sem] max2_int min2_int max_two min_two max_three min_three max_four min_four
def bolterref02_Made.l0 : Nat->List Int->Bool->List Int->Int->Option (Bool × List Int × Int × Int)
 | 0,_,_,_,_=>none
 | k + 1,x4,x523000,x523001,x523002=>if 0 < (x4.length : Int) then (if (rd x4 0) = 0 then (if 1<=(x4.length : Int) then (bolterref02_Made.l0 k (x4.drop (1 : Int).toNat) x523000 x523001 (wrap64 (x523002 + 1))) else (none)) else (if (x4.length : Int) > 300 then (some (false,([] : List Int),0,51)) else (if x523002 < (-1000) then (some (false,([] : List Int),0,52)) else (if x523002 > 1000 then (some (false,([] : List Int),0,52)) else ((bolterref01_Limbs.f k x4).bind fun t531=>(some (x523000,t531,x523002,0))))))) else (none)
def bolterref02_Made.f (k : Nat) (a0_0 : Bool) (l0_1 : List Int) (a0_2 : Int) : Option (Bool × List Int × Int × Int):=(bolterref01_Trim.f k l0_1).bind fun t524=>(if (t524.length : Int) = 0 then (some (false,([] : List Int),0,0)) else (bolterref02_Made.l0 k t524 a0_0 ([] : List Int) a0_2))
def bolterref02_Made.T11 : Bool × List (List Nat × List Nat):=(true,[([],[]),([0],[0]),([],[]),([2],[2]),([],[]),([4],[4]),([1,3,5],[1,3,5]),([6,3,0,1,2,3,4,5,6],[6]),([7,0,1,2,3,4,5,6,7],[])])
def bolterref02_Made.B11 : List Nat:=[0,1,0,4,0,16,63,127,255]
theorem bolterref02_Made.tab11 : rtab .any (opsOf Tryz.f23 11) = bolterref02_Made.T11:=by kernel_rfl
theorem bolterref02_Made.bits11 : waitsOk bolterref02_Made.T11.2 bolterref02_Made.B11 = true:=by kernel_rfl
theorem bolterref02_Made.calls (k : Nat) (a0_0 : Bool) (P0_1_ : Nat->Prop) (u9000_ : Value) (l0_1 : List Int) (a0_2 : Int) (r1 : Bool) (r2 : List Int) (r3 : Int) (r4 : Int) (w0 w : World) (hB : Below w0.heap.size w0 w) (ho0_1 : Kd.R (Kd.int .i64) 3 w w0.heap.size P0_1_ u9000_ l0_1) (h : bolterref02_Made.f k a0_0 l0_1 a0_2 = some (r1,r2,r3,r4)) :
  Calls Tryz.prog 23 #[.agg #[.bool a0_0,u9000_,.int .i64 a0_2]] w fun e w' => ∃ v1_ : Value,e = .returned (.tuple #[.agg #[.bool r1,v1_,.int .i64 r3],.int .i64 r4])/\Kd.R (Kd.int .u32) 85 w' w0.heap.size (fun k_=>(P0_1_ k_\/w.heap.size<=k_)) v1_ r2/\Below w0.heap.size w0 w'/\Kept w w' (fun k_=>P0_1_ k_):=by
 have hu30:=Tryz.underlying30
 have hu24:=Tryz.underlying24
 have HO0_1:=am (show Kd.R (Kd.int .i64) 3 w w0.heap.size (fun k_=>(P0_1_ k_\/w.heap.size<=k_)) u9000_ l0_1 from Kd.R_mono ho0_1 (fun k_ hk=>(.inl hk)))
 have HK:=am (Kept.refl w (fun k_=>P0_1_ k_))
 have HW0:=am hB.size
 have HB:=am hB
 clear hB
 have H : ((bolterref01_Trim.f k l0_1).bind fun t524=>(if (t524.length : Int) = 0 then (some (false,([] : List Int),0,0)) else (bolterref02_Made.l0 k t524 a0_0 ([] : List Int) a0_2))) = some (r1,r2,r3,r4):=h
 clear h
 obtain ⟨t524,A2,H⟩:=ob H
 by_cases c3 : (t524.length : Int) = 0
 ·rw [if_pos c3] at H
  have c3b0 : ((t524.length : Int) == 0) = true:=beq_iff_eq.mpr c3
  have c3b1 : ((t524.length : Int) != 0) = false:=bne_eq_false_iff_eq.mpr c3
  clear c3
  simp only [Option.some.injEq,Prod.mk.injEq] at H
  obtain ⟨rfl,rfl,rfl,rfl⟩:=H
  obtain ⟨Ao4,co4,eo4⟩:=Kd.R_slice HO0_1.out
  subst eo4
  go_enter Tryz.func23,Tryz.ntmps23
  go_wp2_with (first | ((with_reducible refine gd 1 ?_); refine bx 1 #[.bool a0_0,.slice Ao4 l0_1.length co4,.int .i64 a0_2] 30 (h:=?_); intro gb522 hg w5 hbox hb; have BK522:=am hbox; have GW522:=am ((by rw [hg]; exact (by first | exact HK.out.1 | exact (show Kept w _ (fun k_=>P0_1_ k_) from by repeat (first | (with_reducible first | exact HK.out | apply Kept.alloc | apply Kept.drewN | apply Kept.drew) | exact HK.out)).1) : w.heap.size<=gb522)); have GE522:=am ((gw hg pB : w0.heap.size<=gb522)); replace HO0_1:=rbl HO0_1 hb; replace HK:=am (Kept.below (S:=(fun k_=>P0_1_ k_)) (by repeat (first | (with_reducible first | exact HK.out | apply Kept.alloc | apply Kept.drewN | apply Kept.drew) | exact HK.out)) hb); replace HB:=bS hb; clear hb hbox hg) | ((with_reducible refine gd 2 ?_); refine bx 2 #[.bool false,.slice none 0 0,.int .i64 0] 24 (h:=?_); intro gb523 hg w6 hbox hb; have BK523:=am hbox; have GW523:=am ((by rw [hg]; exact (by first | exact HK.out.1 | exact (show Kept w _ (fun k_=>P0_1_ k_) from by repeat (first | (with_reducible first | exact HK.out | apply Kept.alloc | apply Kept.drewN | apply Kept.drew | refine Kept.setCell ?_ (.inr GW522.out) _) | exact HK.out)).1) : w.heap.size<=gb523)); have GE523:=am ((gw hg pB : w0.heap.size<=gb523)); have NB522_523:=nL hg BK522; have NB523_522:=nG hg BK522; replace HO0_1:=rbl HO0_1 hb; replace BK522:=bb BK522 hb; replace HK:=am (Kept.below (S:=(fun k_=>P0_1_ k_)) (by repeat (first | (with_reducible first | exact HK.out | apply Kept.alloc | apply Kept.drewN | apply Kept.drew | refine Kept.setCell ?_ (.inr GW522.out) _) | exact HK.out)) hb); replace HB:=bS hb; clear hb hbox hg; have hnb7:=NB522_523.out; have hnc7:=NB523_522.out; obtain ⟨hcz8_0,hcz8_1,hcz8_2,hfz8_0,hfz8_1,hfz8_2⟩:=cEc BK522.out) | (refine gL (some 7) Tryz.func79 #[.slice Ao4 l0_1.length co4] (h:=?_); (with_reducible refine (bolterref01_Trim.calls k (fun k_=>some k_ = (.slice Ao4 l0_1.length co4 : Value).ownBlock) (.slice Ao4 l0_1.length co4) l0_1 t524 w0 _ ?side1 ?side2 A2.out).mono ?_); (case side1=>exact pB); (case side2=>exact Kd.R_tight rfl HO0_1.out); rintro e w9 ⟨v525,rfl,ho0,hb,hkp⟩; refine ⟨_,rfl,?_⟩; have HO526:=am (Kd.R_mono (ok':=fun k_=>(P0_1_ k_\/w.heap.size<=k_)) ho0 (fun k_ hk_=>Or.elim hk_ (fun hs_=>(HO0_1.out.1 k_ (hs_).symm)) (fun hn_=>(.inr (Nat.le_trans (by first | exact HK.out.1 | exact (show Kept w _ (fun k_=>P0_1_ k_) from by repeat (first | (with_reducible first | exact HK.out | apply Kept.alloc | apply Kept.drewN | apply Kept.drew | refine Kept.setCell ?_ (.inr GW522.out) _ | refine Kept.setCell ?_ (.inr GW523.out) _) | exact HK.out)).1) hn_))))); replace BK522:=am (blk_kept (blk_below BK522.out pl) hkp (fun e_=>Kd.R_ne HO0_1.out BK522.out (by decide) e_)); replace BK523:=am (blk_kept (blk_below BK523.out pl) hkp (fun e_=>Kd.R_ne HO0_1.out BK523.out (by decide) e_)); replace HK:=am (Kept.then_ (S:=(fun k_=>P0_1_ k_)) (by repeat (first | (with_reducible first | exact HK.out | apply Kept.alloc | apply Kept.drewN | apply Kept.drew | refine Kept.setCell ?_ (.inr GW522.out) _ | refine Kept.setCell ?_ (.inr GW523.out) _) | exact HK.out)) hkp (fun k_ hs_=>(fun e_=>(HO0_1.out.1 k_ e_.symm)) hs_)); replace HB:=am hb; clear HO0_1; obtain ⟨Ao10,co10,eo10⟩:=Kd.R_slice HO526.out; subst eo10; obtain ⟨hcz11_0,hcz11_1,hcz11_2,hfz11_0,hfz11_1,hfz11_2⟩:=cEc BK523.out))
  refine bodyPost_ret (results_ct rfl _ _ gb523 24 #[.bool false,.slice none 0 0,.int .i64 0] (0,0) _ rfl (by exact p3 BK523) Tryz.underlying24 rfl (by kernel_rfl)) rfl ?_
  exact ⟨_,pE,pN,pB,by repeat (first | (with_reducible first | exact HK.out | apply Kept.alloc | apply Kept.drewN | apply Kept.drew | refine Kept.setCell ?_ (.inr GW522.out) _ | refine Kept.setCell ?_ (.inr GW523.out) _) | exact HK.out)⟩
 ·rw [if_neg c3] at H
  have c3b0 : ((t524.length : Int) == 0) = false:=beq_eq_false_iff_ne.mpr c3
  have c3b1 : ((t524.length : Int) != 0) = true:=bne_iff_ne.mpr c3
  have c3b2 : ¬ (t524 = []):=fun h_=>c3 (by rw [h_]; rfl)
  have H':=am H
  clear H
  obtain ⟨Ao12,co12,eo12⟩:=Kd.R_slice HO0_1.out
  subst eo12
  go_enter Tryz.func23,Tryz.ntmps23
  go_wp2_with (first | ((with_reducible refine gd 1 ?_); refine bx 1 #[.bool a0_0,.slice Ao12 l0_1.length co12,.int .i64 a0_2] 30 (h:=?_); intro gb522 hg w13 hbox hb; have BK522:=am hbox; have GW522:=am ((by rw [hg]; exact (by first | exact HK.out.1 | exact (show Kept w _ (fun k_=>P0_1_ k_) from by repeat (first | (with_reducible first | exact HK.out | apply Kept.alloc | apply Kept.drewN | apply Kept.drew) | exact HK.out)).1) : w.heap.size<=gb522)); have GE522:=am ((gw hg pB : w0.heap.size<=gb522)); replace HO0_1:=rbl HO0_1 hb; replace HK:=am (Kept.below (S:=(fun k_=>P0_1_ k_)) (by repeat (first | (with_reducible first | exact HK.out | apply Kept.alloc | apply Kept.drewN | apply Kept.drew) | exact HK.out)) hb); replace HB:=bS hb; clear hb hbox hg) | ((with_reducible refine gd 2 ?_); refine bx 2 #[.bool false,.slice none 0 0,.int .i64 0] 24 (h:=?_); intro gb523 hg w14 hbox hb; have BK523:=am hbox; have GW523:=am ((by rw [hg]; exact (by first | exact HK.out.1 | exact (show Kept w _ (fun k_=>P0_1_ k_) from by repeat (first | (with_reducible first | exact HK.out | apply Kept.alloc | apply Kept.drewN | apply Kept.drew | refine Kept.setCell ?_ (.inr GW522.out) _) | exact HK.out)).1) : w.heap.size<=gb523)); have GE523:=am ((gw hg pB : w0.heap.size<=gb523)); have NB522_523:=nL hg BK522; have NB523_522:=nG hg BK522; replace HO0_1:=rbl HO0_1 hb; replace BK522:=bb BK522 hb; replace HK:=am (Kept.below (S:=(fun k_=>P0_1_ k_)) (by repeat (first | (with_reducible first | exact HK.out | apply Kept.alloc | apply Kept.drewN | apply Kept.drew | refine Kept.setCell ?_ (.inr GW522.out) _) | exact HK.out)) hb); replace HB:=bS hb; clear hb hbox hg; have hnb15:=NB522_523.out; have hnc15:=NB523_522.out; obtain ⟨hcz16_0,hcz16_1,hcz16_2,hfz16_0,hfz16_1,hfz16_2⟩:=cEc BK522.out) | (refine gL (some 7) Tryz.func79 #[.slice Ao12 l0_1.length co12] (h:=?_); (with_reducible refine (bolterref01_Trim.calls k (fun k_=>some k_ = (.slice Ao12 l0_1.length co12 : Value).ownBlock) (.slice Ao12 l0_1.length co12) l0_1 t524 w0 _ ?side1 ?side2 A2.out).mono ?_); (case side1=>exact pB); (case side2=>exact Kd.R_tight rfl HO0_1.out); rintro e w17 ⟨v525,rfl,ho0,hb,hkp⟩; refine ⟨_,rfl,?_⟩; have HO526:=am (Kd.R_mono (ok':=fun k_=>(P0_1_ k_\/w.heap.size<=k_)) ho0 (fun k_ hk_=>Or.elim hk_ (fun hs_=>(HO0_1.out.1 k_ (hs_).symm)) (fun hn_=>(.inr (Nat.le_trans (by first | exact HK.out.1 | exact (show Kept w _ (fun k_=>P0_1_ k_) from by repeat (first | (with_reducible first | exact HK.out | apply Kept.alloc | apply Kept.drewN | apply Kept.drew | refine Kept.setCell ?_ (.inr GW522.out) _ | refine Kept.setCell ?_ (.inr GW523.out) _) | exact HK.out)).1) hn_))))); replace BK522:=am (blk_kept (blk_below BK522.out pl) hkp (fun e_=>Kd.R_ne HO0_1.out BK522.out (by decide) e_)); replace BK523:=am (blk_kept (blk_below BK523.out pl) hkp (fun e_=>Kd.R_ne HO0_1.out BK523.out (by decide) e_)); replace HK:=am (Kept.then_ (S:=(fun k_=>P0_1_ k_)) (by repeat (first | (with_reducible first | exact HK.out | apply Kept.alloc | apply Kept.drewN | apply Kept.drew | refine Kept.setCell ?_ (.inr GW522.out) _ | refine Kept.setCell ?_ (.inr GW523.out) _) | exact HK.out)) hkp (fun k_ hs_=>(fun e_=>(HO0_1.out.1 k_ e_.symm)) hs_)); replace HB:=am hb; clear HO0_1; obtain ⟨Ao18,co18,eo18⟩:=Kd.R_slice HO526.out; subst eo18))
  go_loopg [4] k (fun kq v4 w' => ∃ (x4_1 : List Int) (x523002_1 : Int),Aside0 (bolterref02_Made.l0 kq x4_1 a0_0 ([] : List Int) x523002_1 = some (r1,r2,r3,r4))/\Aside0 (kq<=k)/\Aside0 (Kd.Q (Kd.int .i64) 3 w' w0.heap.size (fun k_=>(P0_1_ k_\/w.heap.size<=k_)) v4 x4_1)/\Aside0 (w'.heap[gb522]? = some (.cells #[.bool a0_0,(.slice Ao12 l0_1.length co12),.int .i64 x523002_1] 30 (0,0)))/\Aside0 (w'.heap[gb523]? = some (.cells #[.bool false,(.slice none 0 0),.int .i64 0] 24 (0,0)))/\Aside0 (Kept w w' (fun k_=>P0_1_ k_))/\Aside0 (Below w0.heap.size w0 w'))
  case atStart=>exact ⟨(t524),(a0_2),H',⟨Nat.le_refl _⟩,⟨Kd.Q_of_R (Kd.R_below HO526.out pl)⟩,⟨blk_below BK522.out pl⟩,⟨blk_below BK523.out pl⟩,⟨by repeat (first | (with_reducible first | exact HK.out | apply Kept.alloc | apply Kept.drewN | apply Kept.drew | refine Kept.setCell ?_ (.inr GW522.out) _ | refine Kept.setCell ?_ (.inr GW523.out) _) | exact HK.out)⟩,⟨pB⟩⟩
  case round =>
   clear H'
   obtain ⟨x4_1,x523002_1,HA,HK1,HO_4,BK522,BK523,HK,HB⟩:=hrel
   cases gk with
   | zero=>exact absurd HA.out (by simp [bolterref02_Made.l0])
   | succ k1 =>
    have H:=HA.out
    clear HA
    simp only [bolterref02_Made.l0] at H
    by_cases c19 : 0 < (x4_1.length : Int)
    ·rw [if_pos c19] at H
     have c19b0 : decide (0 < (x4_1.length : Int)) = true:=decide_eq_true c19
     have c19b1 : decide (0 < x4_1.length) = true:=decide_eq_true (by omega)
     clear c19
     by_cases c20 : (rd x4_1 0) = 0
     ·rw [if_pos c20] at H
      have c20b0 : ((rd x4_1 0) == 0) = true:=beq_iff_eq.mpr c20
      have c20b1 : ((rd x4_1 0) != 0) = false:=bne_eq_false_iff_eq.mpr c20
      clear c20
      by_cases c21 : 1<=(x4_1.length : Int)
      ·rw [if_pos c21] at H
       have c21b0:=eq_true c21
       have c21b1 : decide (1<=(x4_1.length : Int)) = true:=decide_eq_true c21
       clear c21
       obtain ⟨y528,hy528⟩ : ∃ y_ : List Int,y_ = (x4_1.drop (1 : Int).toNat):=⟨_,rfl⟩
       replace H : (bolterref02_Made.l0 k1 y528 a0_0 ([] : List Int) (wrap64 (x523002_1 + 1))) = some (r1,r2,r3,r4):=by have hy_:=hy528; exact pH
       have Ny528:=am hy528
       clear hy528
       have H':=am H
       clear H
       obtain ⟨Ao22,co22,eo22,_⟩:=Kd.Q_slice HO_4.out
       subst eo22
       have p527 : 0<=(0 : Int):=(by omega)
       have q527 : 0 < (x4_1.length : Int):=of_decide_eq_true pQ
       obtain ⟨ad527,e527,hx527_0⟩:=Kd.at_int (Kd.Q_reads' HO_4.out).2.2 0 p527 q527
       cases e527
       have qi527 : (0 < x4_1.length) = True:=eq_true (by omega)
       (try rw [show ((0 : Int)).toNat = 0 from rfl] at hx527_0)
       (try rw [Addr.add_zero'] at hx527_0)
       replace p527:=eq_true p527
       replace q527:=eq_true q527
       have q23 : (1 : Int)<=((x4_1.length : Int) : Int):=of_decide_eq_true pQ
       obtain ⟨i023,hi023,_,hsz23,_⟩:=info_parts info3
       have hcut23:=cut_from (P:=Tryz.prog) 28 3 .i64 Tryz.underlying28 hi023 1 hsz23 (some ad527) x4_1.length co22 1 (by omega) q23
       have hr23:=Kd.Q_drop (k:=(1 : Int).toNat) HO_4.out (by omega)
       obtain ⟨A23,hA23⟩ : ∃ A1,A1 = (if co22 = (1 : Int).toNat then (some ad527) else ((some ad527) : Option Addr).map (·.add ((1 : Int).toNat * 1))):=⟨_,rfl⟩
       obtain ⟨c23,hc23⟩ : ∃ c1,c1 = co22 - (1 : Int).toNat:=⟨_,rfl⟩
       have hy23 : y528.length = x4_1.length - (1 : Int).toNat:=(by rw [Ny528.out,List.length_drop])
       rw [<- Ny528.out] at hr23
       rw [<- hy23,<- hA23,<- hc23] at hcut23
       replace hr23 : Kd.Q (Kd.int .i64) 3 wr w0.heap.size (fun k_=>(P0_1_ k_\/w.heap.size<=k_)) (.slice A23 y528.length c23) y528:=(by rw [hA23,hc23,hy23]; exact hr23)
       have HE23 : Aside0 ((Value.slice A23 y528.length c23).ownBlock = (.slice (some ad527) x4_1.length co22 : Value).ownBlock):=⟨by rw [hA23]; split <;> (cases ((some ad527) : Option Addr) <;> rfl)⟩
       clear hy23 hi023 hsz23 HO_4 hA23 hc23
       have HO530:=am hr23
       clear hr23
       replace q23:=eq_true q23
       have hnb24:=NB522_523.out
       have hnc24:=NB523_522.out
       obtain ⟨hcz25_0,hcz25_1,hcz25_2,hfz25_0,hfz25_1,hfz25_2⟩:=cEc BK522.out
       go_wp2
       go_roundg k1
       case measure=>have := HK1.out; omega
       case rel=>exact ⟨(y528),(wrap64 (x523002_1 + 1)),H',⟨by have := HK1.out; omega⟩,⟨by (with_reducible repeat (first | apply Kd.Q_alloc | apply Kd.Q_drewN | apply Kd.Q_drew)); exact Kd.Q_mono (Kd.Q_far (p:=⟨gb522,2,none⟩) (Kd.Q_types HO530.out BK522.out (by decide)) (fun _ hk=>hk.2) (.int .i64 (wrap64 (x523002_1 + 1)))) (fun _ hk=>hk.1)⟩,⟨by refine bp ?_; refine blk_put (cs:=#[.bool a0_0,(.slice Ao12 l0_1.length co12),.int .i64 x523002_1]) ?_ 2 _ rfl; exact bp BK522.out⟩,⟨bf NB523_522.out BK523.out⟩,⟨by repeat (first | (with_reducible first | exact HK.out | apply Kept.alloc | apply Kept.drewN | apply Kept.drew | refine Kept.setCell ?_ (.inr GW522.out) _ | refine Kept.setCell ?_ (.inr GW523.out) _) | exact HK.out)⟩,⟨pB⟩⟩
      ·rw [if_neg c21] at H
       exact absurd H (by simp)
     ·rw [if_neg c20] at H
      have c20b0 : ((rd x4_1 0) == 0) = false:=beq_eq_false_iff_ne.mpr c20
      have c20b1 : ((rd x4_1 0) != 0) = true:=bne_iff_ne.mpr c20
      by_cases c26 : (x4_1.length : Int) > 300
      ·rw [if_pos c26] at H
       have c26b0 : decide (300 < (x4_1.length : Int)) = true:=decide_eq_true c26
       have c26b1 : decide (300 < x4_1.length) = true:=decide_eq_true (by omega)
       clear c26
       simp only [Option.some.injEq,Prod.mk.injEq] at H
       obtain ⟨rfl,rfl,rfl,rfl⟩:=H
       obtain ⟨Ao27,co27,eo27,_⟩:=Kd.Q_slice HO_4.out
       subst eo27
       have p527 : 0<=(0 : Int):=(by omega)
       have q527 : 0 < (x4_1.length : Int):=of_decide_eq_true pQ
       obtain ⟨ad527,e527,hx527_0⟩:=Kd.at_int (Kd.Q_reads' HO_4.out).2.2 0 p527 q527
       cases e527
       have qi527 : (0 < x4_1.length) = True:=eq_true (by omega)
       (try rw [show ((0 : Int)).toNat = 0 from rfl] at hx527_0)
       (try rw [Addr.add_zero'] at hx527_0)
       replace p527:=eq_true p527
       replace q527:=eq_true q527
       have hnb28:=NB523_522.out
       have hnc28:=NB522_523.out
       obtain ⟨hcz29_0,hcz29_1,hcz29_2,hfz29_0,hfz29_1,hfz29_2⟩:=cEc BK523.out
       go_wp2
       refine bodyPost_ret (results_ct rfl _ _ gb523 24 #[.bool false,.slice none 0 0,.int .i64 0] (0,0) _ rfl (by exact p3 BK523) Tryz.underlying24 rfl (by kernel_rfl)) rfl ?_
       exact ⟨_,pE,pN,pB,by repeat (first | (with_reducible first | exact HK.out | apply Kept.alloc | apply Kept.drewN | apply Kept.drew | refine Kept.setCell ?_ (.inr GW522.out) _ | refine Kept.setCell ?_ (.inr GW523.out) _) | exact HK.out)⟩
      ·rw [if_neg c26] at H
       have c26b0 : decide (300 < (x4_1.length : Int)) = false:=decide_eq_false c26
       have c26b1 : decide (300 < x4_1.length) = false:=decide_eq_false (by omega)
       clear c26
       by_cases c30 : x523002_1 < (-1000)
       ·rw [if_pos c30] at H
        have c30b0 : decide (x523002_1 < (-1000)) = true:=decide_eq_true c30
        clear c30
        simp only [Option.some.injEq,Prod.mk.injEq] at H
        obtain ⟨rfl,rfl,rfl,rfl⟩:=H
        obtain ⟨Ao31,co31,eo31,_⟩:=Kd.Q_slice HO_4.out
        subst eo31
        have p527 : 0<=(0 : Int):=(by omega)
        have q527 : 0 < (x4_1.length : Int):=of_decide_eq_true pQ
        obtain ⟨ad527,e527,hx527_0⟩:=Kd.at_int (Kd.Q_reads' HO_4.out).2.2 0 p527 q527
        cases e527
        have qi527 : (0 < x4_1.length) = True:=eq_true (by omega)
        (try rw [show ((0 : Int)).toNat = 0 from rfl] at hx527_0)
        (try rw [Addr.add_zero'] at hx527_0)
        replace p527:=eq_true p527
        replace q527:=eq_true q527
        have hnb32:=NB522_523.out
        have hnc32:=NB523_522.out
        obtain ⟨hcz33_0,hcz33_1,hcz33_2,hfz33_0,hfz33_1,hfz33_2⟩:=cEc BK522.out
        obtain ⟨hcz34_0,hcz34_1,hcz34_2,hfz34_0,hfz34_1,hfz34_2⟩:=cEc BK523.out
        go_wp2
        refine bodyPost_ret (results_ct rfl _ _ gb523 24 #[.bool false,.slice none 0 0,.int .i64 0] (0,0) _ rfl (by exact p3 BK523) Tryz.underlying24 rfl (by kernel_rfl)) rfl ?_
        exact ⟨_,pE,pN,pB,by repeat (first | (with_reducible first | exact HK.out | apply Kept.alloc | apply Kept.drewN | apply Kept.drew | refine Kept.setCell ?_ (.inr GW522.out) _ | refine Kept.setCell ?_ (.inr GW523.out) _) | exact HK.out)⟩
       ·rw [if_neg c30] at H
        have c30b0 : decide (x523002_1 < (-1000)) = false:=decide_eq_false c30
        clear c30
        by_cases c35 : x523002_1 > 1000
        ·rw [if_pos c35] at H
         have c35b0 : decide (1000 < x523002_1) = true:=decide_eq_true c35
         clear c35
         simp only [Option.some.injEq,Prod.mk.injEq] at H
         obtain ⟨rfl,rfl,rfl,rfl⟩:=H
         obtain ⟨Ao36,co36,eo36,_⟩:=Kd.Q_slice HO_4.out
         subst eo36
         have p527 : 0<=(0 : Int):=(by omega)
         have q527 : 0 < (x4_1.length : Int):=of_decide_eq_true pQ
         obtain ⟨ad527,e527,hx527_0⟩:=Kd.at_int (Kd.Q_reads' HO_4.out).2.2 0 p527 q527
         cases e527
         have qi527 : (0 < x4_1.length) = True:=eq_true (by omega)
         (try rw [show ((0 : Int)).toNat = 0 from rfl] at hx527_0)
         (try rw [Addr.add_zero'] at hx527_0)
         replace p527:=eq_true p527
         replace q527:=eq_true q527
         have hnb37:=NB522_523.out
         have hnc37:=NB523_522.out
         obtain ⟨hcz38_0,hcz38_1,hcz38_2,hfz38_0,hfz38_1,hfz38_2⟩:=cEc BK522.out
         obtain ⟨hcz39_0,hcz39_1,hcz39_2,hfz39_0,hfz39_1,hfz39_2⟩:=cEc BK523.out
         go_wp2
         refine bodyPost_ret (results_ct rfl _ _ gb523 24 #[.bool false,.slice none 0 0,.int .i64 0] (0,0) _ rfl (by exact p3 BK523) Tryz.underlying24 rfl (by kernel_rfl)) rfl ?_
         exact ⟨_,pE,pN,pB,by repeat (first | (with_reducible first | exact HK.out | apply Kept.alloc | apply Kept.drewN | apply Kept.drew | refine Kept.setCell ?_ (.inr GW522.out) _ | refine Kept.setCell ?_ (.inr GW523.out) _) | exact HK.out)⟩
        ·rw [if_neg c35] at H
         have c35b0 : decide (1000 < x523002_1) = false:=decide_eq_false c35
         clear c35
         obtain ⟨t531,A40,H⟩:=ob H
         simp only [Option.some.injEq,Prod.mk.injEq] at H
         obtain ⟨rfl,rfl,rfl,rfl⟩:=H
         obtain ⟨Ao41,co41,eo41,_⟩:=Kd.Q_slice HO_4.out
         subst eo41
         have p527 : 0<=(0 : Int):=(by omega)
         have q527 : 0 < (x4_1.length : Int):=of_decide_eq_true pQ
         obtain ⟨ad527,e527,hx527_0⟩:=Kd.at_int (Kd.Q_reads' HO_4.out).2.2 0 p527 q527
         cases e527
         have qi527 : (0 < x4_1.length) = True:=eq_true (by omega)
         (try rw [show ((0 : Int)).toNat = 0 from rfl] at hx527_0)
         (try rw [Addr.add_zero'] at hx527_0)
         replace p527:=eq_true p527
         replace q527:=eq_true q527
         have hnb42:=NB522_523.out
         have hnc42:=NB523_522.out
         obtain ⟨hcz43_0,hcz43_1,hcz43_2,hfz43_0,hfz43_1,hfz43_2⟩:=cEc BK522.out
         try go_wp2
         replace HO_4:=am (Kd.Q_drew HO_4.out)
         replace BK522:=am (blk_drew BK522.out)
         replace BK523:=am (blk_drew BK523.out)
         replace HK:=am (Kept.drew HK.out)
         replace HB:=am (below_drew1 HB.out)
         refine start_ (n:=9) (S:=fun w'=>w'.cell? ⟨gb522,0,none⟩ = some (.bool a0_0)/\w'.cell? ⟨gb522,1,none⟩ = some ((.slice Ao12 l0_1.length co12))/\w'.cell? ⟨gb522,2,none⟩ = some (.int .i64 x523002_1)) (ds:=[]) #[false,false,false,false,false,false,false,false,false] (by kernel_rfl) rfl rfl ⟨k0 BK522 0,k0 BK522 1,k0 BK522 2⟩ (fun hHeld=>?_); refine with_tabW bolterref02_Made.tab11 bolterref02_Made.bits11 (fun HT_ HW_=>?_)
         generalize wr.drew = w44 at HO_4 BK522 BK523 HK HB hHeld ⊢
         refine pu 0 (some 37) #[true,false,false,false,false,false,false,false,false] (h:=?_)
         refine pu 2 (some 39) #[true,false,true,false,false,false,false,false,false] (h:=?_)
         refine pu 4 (some 41) #[true,false,true,false,true,false,false,false,false] (h:=?_)
         refine take_ (i:=1) (N:=some 38) (v:=?_) (a':=?_) #[true,true,true,false,true,false,false,false,false] rfl rfl (take_ofW HT_.out HW_.out (by kernel_rfl)) (fun _ _ _ h=>h) (Or.inl ⟨by rfl,?_⟩) hHeld ?_ ?_
         rotate_left
         ·rintro w' ⟨s0,s1,s2⟩
          go_simp
          with_reducible rfl
         rotate_left
         ·exact pP
         refine take_ (i:=5) (N:=some 42) (v:=?_) (a':=?_) #[true,true,true,false,true,true,false,false,false] rfl rfl (take_ofW HT_.out HW_.out (by kernel_rfl)) (fun _ _ _ h=>h) (Or.inl ⟨by rfl,?_⟩) hHeld ?_ ?_
         rotate_left
         ·rintro w' ⟨s0,s1,s2⟩
          go_simp
          with_reducible rfl
         rotate_left
         ·exact pP
         refine one_ (i:=3) (N:=some 40) #[true,true,true,true,true,true,false,false,false] rfl rfl (one_of HT_.out (by kernel_rfl)) (by decide) (fun K hK=>?_)
         refine goes_ Tryz.func80 (by kernel_rfl) rfl #[.slice (some ad527) x4_1.length co41] (by rfl) rfl rfl pA ?_
         with_reducible refine (bolterref01_Limbs.calls k1 _ _ x4_1 t531 _ ?side1 ?side2 A40.out).mono ?_
         (case side1=>exact Kd.C_below (Kd.Q_reads' HO_4.out).2.2 pl)
         (case side2=>exact (Kd.Q_reads' HO_4.out).2.1)
         rintro e w45 ⟨v532,rfl,ho0,hb⟩
         refine ⟨_,rfl,?_⟩
         replace HO_4:=am (Kd.Q_below (by (with_reducible repeat (first | apply Kd.Q_alloc | apply Kd.Q_drewN | apply Kd.Q_drew)); exact HO_4.out) hb)
         have HO533:=am (Kd.R_lower (Kd.R_newM (M:=fun k_=>(P0_1_ k_\/w.heap.size<=k_)) ho0 (by first | exact HK.out.1 | exact (show Kept w _ (fun k_=>P0_1_ k_) from by repeat (first | (with_reducible first | exact HK.out | apply Kept.alloc | apply Kept.drewN | apply Kept.drew | refine Kept.setCell ?_ (.inr GW522.out) _ | refine Kept.setCell ?_ (.inr GW523.out) _) | exact HK.out)).1) (fun k_ h_=>.inr h_)) (below_size pB))
         replace BK522:=bb BK522 hb
         replace BK523:=bb BK523 hb
         replace HK:=am (Kept.below (S:=(fun k_=>P0_1_ k_)) (by repeat (first | (with_reducible first | exact HK.out | apply Kept.alloc | apply Kept.drewN | apply Kept.drew | refine Kept.setCell ?_ (.inr GW522.out) _ | refine Kept.setCell ?_ (.inr GW523.out) _) | exact HK.out)) hb)
         replace HB:=bS hb
         obtain ⟨Ao46,co46,eo46⟩:=Kd.R_slice HO533.out
         (first | subst eo46 | (injection eo46 with f1_ f2_ f3_; have f4_:=f1_.symm; have f5_:=f3_.symm; clear f1_ f2_ f3_; subst f4_; subst f5_))
         refine hK.out _ _ ⟨k0 BK522 0,k0 BK522 1,k0 BK522 2⟩ (fun hHeld=>?_)
         clear hK K
         refine norm_ (a':=?_) ?_ ?_
         rotate_left
         ·show Act.put _ (some 40) _ = _
          exact pP
         refine pu 6 (some 43) #[true,true,true,true,true,true,true,false,false] (h:=?_)
         refine one_ (i:=7) (N:=none) #[true,true,true,true,true,true,true,true,false] rfl rfl (one_of HT_.out (by kernel_rfl)) (by decide) (fun K hK=>?_)
         have hs47 : w45.cell? ⟨gb523,0,none⟩ = some (.bool false):=k0 BK523 0
         have hfs47:=blk_frozen BK523.out 0
         have hns47_0:=NB522_523.out
         have hms47_0:=NB523_522.out
         have hs48 : w45.cell? ⟨gb523,1,none⟩ = some (.slice none 0 0):=k0 BK523 1
         have hfs48:=blk_frozen BK523.out 1
         have hns48_0:=NB522_523.out
         have hms48_0:=NB523_522.out
         have hs49 : w45.cell? ⟨gb523,2,none⟩ = some (.int .i64 0):=k0 BK523 2
         have hfs49:=blk_frozen BK523.out 2
         have hns49_0:=NB522_523.out
         have hms49_0:=NB523_522.out
         refine skip_ (w1:=?_) (by rfl) rfl ?_ ?_
         rotate_left
         ·go_simp
          rfl
         refine hK.out _ _ ⟨((cell_far (p:=⟨gb523,_,none⟩) NB522_523.out _).trans (((cell_far (p:=⟨gb523,_,none⟩) NB522_523.out _).trans (((cell_far (p:=⟨gb523,_,none⟩) NB522_523.out _).trans (hHeld.1)))))),((cell_far (p:=⟨gb523,_,none⟩) NB522_523.out _).trans (((cell_far (p:=⟨gb523,_,none⟩) NB522_523.out _).trans (((cell_far (p:=⟨gb523,_,none⟩) NB522_523.out _).trans (hHeld.2.1)))))),((cell_far (p:=⟨gb523,_,none⟩) NB522_523.out _).trans (((cell_far (p:=⟨gb523,_,none⟩) NB522_523.out _).trans (((cell_far (p:=⟨gb523,_,none⟩) NB522_523.out _).trans (hHeld.2.2))))))⟩ (fun hHeld=>?_)
         clear hK K
         refine pu 8 (some 3) #[true,true,true,true,true,true,true,true,true] (h:=?_)
         refine done_ (done_of HT_.out (by kernel_rfl)) ?_
         try go_wp2
         refine bodyPost_ret (results_ct rfl _ _ gb523 24 #[.bool a0_0,.slice Ao46 t531.length co46,.int .i64 x523002_1] (0,0) _ rfl (by exact p3 BK523) Tryz.underlying24 rfl (by kernel_rfl)) rfl ?_
         exact ⟨_,pE,by refine rp ?_; exact Kd.R_mono (Kd.R_far (p:=⟨gb523,2,none⟩) (Kd.R_far (p:=⟨gb523,1,none⟩) (Kd.R_far (p:=⟨gb523,0,none⟩) (Kd.R_types HO533.out BK523.out (by decide)) (fun _ hk=>hk.2) (.bool a0_0)) (fun _ hk=>hk.2) (.slice Ao46 t531.length co46)) (fun _ hk=>hk.2) (.int .i64 x523002_1)) (fun _ hk=>hk.1.1),pB,by repeat (first | (with_reducible first | exact HK.out | apply Kept.alloc | apply Kept.drewN | apply Kept.drew | refine Kept.setCell ?_ (.inr GW522.out) _ | refine Kept.setCell ?_ (.inr GW523.out) _) | exact HK.out)⟩
    ·rw [if_neg c19] at H
     exact absurd H (by simp)
def bolterref02_Of.f (k : Nat) (a0_0 : Bool) (l0_1 : List Int) (a0_2 : Int) : Option (Bool × List Int × Int):=(bolterref01_Digits.f k l0_1).bind fun t589=>(some (a0_0,t589,a0_2))
def bolterref02_Of.T1 : Bool × List (List Nat × List Nat):=(true,[([],[]),([0],[0]),([],[]),([2],[2]),([3],[3]),([],[]),([5],[5]),([1,4,6],[1,4,6]),([7,4,0,1,2,3,4,5,6,7],[7])])
def bolterref02_Of.B1 : List Nat:=[0,1,0,4,12,0,32,127,255]
theorem bolterref02_Of.tab1 : rtab .any (opsOf Tryz.f18 1) = bolterref02_Of.T1:=by kernel_rfl
theorem bolterref02_Of.bits1 : waitsOk bolterref02_Of.T1.2 bolterref02_Of.B1 = true:=by kernel_rfl
theorem bolterref02_Of.calls (k : Nat) (a0_0 : Bool) (A0_1 : Option Addr) (c0_1 : Nat) (l0_1 : List Int) (a0_2 : Int) (r1 : Bool) (r2 : List Int) (r3 : Int) (w : World) (hr0_1 : Kd.C (Kd.int .u32) w A0_1 l0_1.length l0_1) (hc0_1 : l0_1.length<=c0_1) (h : bolterref02_Of.f k a0_0 l0_1 a0_2 = some (r1,r2,r3)) :
  Calls Tryz.prog 18 #[.agg #[.bool a0_0,.slice A0_1 l0_1.length c0_1,.int .i64 a0_2]] w fun e w' => ∃ v1_ : Value,e = .returned (.agg #[.bool r1,v1_,.int .i64 r3])/\Kd.R (Kd.int .i64) 3 w' w.heap.size (fun _=>True) v1_ r2/\Below w.heap.size w w':=by
 have hu24:=Tryz.underlying24
 have hu30:=Tryz.underlying30
 have HR0_1:=am hr0_1
 have HC0_1:=am hc0_1
 clear hr0_1 hc0_1
 have HB:=am (Below.refl w.heap.size w)
 have H : ((bolterref01_Digits.f k l0_1).bind fun t589=>(some (a0_0,t589,a0_2))) = some (r1,r2,r3):=h
 clear h
 obtain ⟨t589,A2,H⟩:=ob H
 simp only [Option.some.injEq,Prod.mk.injEq] at H
 obtain ⟨rfl,rfl,rfl⟩:=H
 go_enter Tryz.func18,Tryz.ntmps18
 try go_wp2_with (first | ((with_reducible refine gd 1 ?_); refine bx 1 #[.bool a0_0,.slice A0_1 l0_1.length c0_1,.int .i64 a0_2] 24 (h:=?_); intro gb587 hg w3 hbox hb; have BK587:=am hbox; have GW587:=gW hg; have GE587:=gW hg; replace HB:=bS hb; clear hb hbox hg) | ((with_reducible refine gd 2 ?_); refine bx 2 #[.bool false,.slice none 0 0,.int .i64 0] 30 (h:=?_); intro gb588 hg w4 hbox hb; have BK588:=am hbox; have GW588:=gW hg; have GE588:=gW hg; have NB587_588:=nL hg BK587; have NB588_587:=nG hg BK587; replace BK587:=bb BK587 hb; replace HB:=bS hb; clear hb hbox hg))
 replace BK587:=am (blk_drew BK587.out)
 replace BK588:=am (blk_drew BK588.out)
 replace HB:=am (below_drew1 HB.out)
 refine start_ (n:=9) (S:=fun w'=>w'.cell? ⟨gb587,0,none⟩ = some (.bool a0_0)/\w'.cell? ⟨gb587,1,none⟩ = some (.slice A0_1 l0_1.length c0_1)/\w'.cell? ⟨gb587,2,none⟩ = some (.int .i64 a0_2)) (ds:=[]) #[false,false,false,false,false,false,false,false,false] (by kernel_rfl) rfl rfl ⟨k0 BK587 0,k0 BK587 1,k0 BK587 2⟩ (fun hHeld=>?_); refine with_tabW bolterref02_Of.tab1 bolterref02_Of.bits1 (fun HT_ HW_=>?_)
 generalize w4.drew = w5 at BK587 BK588 HB hHeld ⊢
 refine pu 0 (some 3) #[true,false,false,false,false,false,false,false,false] (h:=?_)
 refine pu 2 (some 5) #[true,false,true,false,false,false,false,false,false] (h:=?_)
 refine pu 5 (some 8) #[true,false,true,false,false,true,false,false,false] (h:=?_)
 refine take_ (i:=1) (N:=some 4) (v:=?_) (a':=?_) #[true,true,true,false,false,true,false,false,false] rfl rfl (take_ofW HT_.out HW_.out (by kernel_rfl)) (fun _ _ _ h=>h) (Or.inl ⟨by rfl,?_⟩) hHeld ?_ ?_
 rotate_left
 ·rintro w' ⟨s0,s1,s2⟩
  go_simp
  with_reducible rfl
 rotate_left
 ·exact pP
 refine take_ (i:=3) (N:=some 6) (v:=?_) (a':=?_) #[true,true,true,true,false,true,false,false,false] rfl rfl (take_ofW HT_.out HW_.out (by kernel_rfl)) (fun _ _ _ h=>h) (Or.inl ⟨by rfl,?_⟩) hHeld ?_ ?_
 rotate_left
 ·rintro w' ⟨s0,s1,s2⟩
  go_simp
  with_reducible rfl
 rotate_left
 ·exact pP
 refine take_ (i:=6) (N:=some 9) (v:=?_) (a':=?_) #[true,true,true,true,false,true,true,false,false] rfl rfl (take_ofW HT_.out HW_.out (by kernel_rfl)) (fun _ _ _ h=>h) (Or.inl ⟨by rfl,?_⟩) hHeld ?_ ?_
 rotate_left
 ·rintro w' ⟨s0,s1,s2⟩
  go_simp
  with_reducible rfl
 rotate_left
 ·exact pP
 refine one_ (i:=4) (N:=some 7) #[true,true,true,true,true,true,true,false,false] rfl rfl (one_of HT_.out (by kernel_rfl)) (by decide) (fun K hK=>?_)
 refine goes_ Tryz.func66 (by kernel_rfl) rfl #[.slice A0_1 l0_1.length c0_1] (by rfl) rfl rfl pA ?_
 with_reducible refine (bolterref01_Digits.calls k _ _ l0_1 t589 _ ?side1 ?side2 A2.out).mono ?_
 (case side1=>refine cp ?_; exact (Kd.C_below HR0_1.out HB.out))
 (case side2=>exact HC0_1.out)
 rintro e w6 ⟨v590,rfl,ho0,hb⟩
 refine ⟨_,rfl,?_⟩
 have HO591:=am (Kd.R_lower ho0 (below_size pB))
 replace BK587:=bb BK587 hb
 replace BK588:=bb BK588 hb
 replace HB:=bS hb
 obtain ⟨Ao7,co7,eo7⟩:=Kd.R_slice HO591.out
 (first | subst eo7 | (injection eo7 with f1_ f2_ f3_; have f4_:=f1_.symm; have f5_:=f3_.symm; clear f1_ f2_ f3_; subst f4_; subst f5_))
 refine hK.out _ _ ⟨k0 BK587 0,k0 BK587 1,k0 BK587 2⟩ (fun hHeld=>?_)
 clear hK K
 refine norm_ (a':=?_) ?_ ?_
 rotate_left
 ·show Act.put _ (some 7) _ = _
  exact pP
 refine pu 7 (some 10) #[true,true,true,true,true,true,true,true,false] (h:=?_)
 refine one_ (i:=8) (N:=none) #[true,true,true,true,true,true,true,true,true] rfl rfl (one_of HT_.out (by kernel_rfl)) (by decide) (fun K hK=>?_)
 have hs8 : w6.cell? ⟨gb588,0,none⟩ = some (.bool false):=k0 BK588 0
 have hfs8:=blk_frozen BK588.out 0
 have hns8_0:=NB587_588.out
 have hms8_0:=NB588_587.out
 have hs9 : w6.cell? ⟨gb588,1,none⟩ = some (.slice none 0 0):=k0 BK588 1
 have hfs9:=blk_frozen BK588.out 1
 have hns9_0:=NB587_588.out
 have hms9_0:=NB588_587.out
 have hs10 : w6.cell? ⟨gb588,2,none⟩ = some (.int .i64 0):=k0 BK588 2
 have hfs10:=blk_frozen BK588.out 2
 have hns10_0:=NB587_588.out
 have hms10_0:=NB588_587.out
 refine skip_ (w1:=?_) (by rfl) rfl ?_ ?_
 rotate_left
 ·go_simp
  rfl
 refine hK.out _ _ ⟨((cell_far (p:=⟨gb588,_,none⟩) NB587_588.out _).trans (((cell_far (p:=⟨gb588,_,none⟩) NB587_588.out _).trans (((cell_far (p:=⟨gb588,_,none⟩) NB587_588.out _).trans (hHeld.1)))))),((cell_far (p:=⟨gb588,_,none⟩) NB587_588.out _).trans (((cell_far (p:=⟨gb588,_,none⟩) NB587_588.out _).trans (((cell_far (p:=⟨gb588,_,none⟩) NB587_588.out _).trans (hHeld.2.1)))))),((cell_far (p:=⟨gb588,_,none⟩) NB587_588.out _).trans (((cell_far (p:=⟨gb588,_,none⟩) NB587_588.out _).trans (((cell_far (p:=⟨gb588,_,none⟩) NB587_588.out _).trans (hHeld.2.2))))))⟩ (fun hHeld=>?_)
 clear hK K
 refine done_ (done_of HT_.out (by kernel_rfl)) ?_
 try go_wp2
 refine bodyPost_ret (results_cell_row rfl _ _ gb588 30 #[.bool a0_0,.slice Ao7 t589.length co7,.int .i64 a0_2] (0,0) _ rfl (by exact p3 BK588) Tryz.underlying30 rfl (by kernel_rfl)) rfl ?_
 exact ⟨_,pE,by refine rp ?_; exact Kd.R_mono (Kd.R_far (p:=⟨gb588,2,none⟩) (Kd.R_far (p:=⟨gb588,1,none⟩) (Kd.R_far (p:=⟨gb588,0,none⟩) (Kd.R_types HO591.out BK588.out (by decide)) (fun _ hk=>hk.2) (.bool a0_0)) (fun _ hk=>hk.2) (.slice Ao7 t589.length co7)) (fun _ hk=>hk.2) (.int .i64 a0_2)) (fun _ hk=>trivial),pB⟩
mutual
def bolterref02_Check.j0 : Nat->Bool->Bool->List Int->Int->Option (Int)
 | 0,_,_,_,_=>none
 | k + 1,x13,x648000,x648001,x648002=>if x13 = true then (some 9) else ((bolterref02_Of.f k x648000 x648001 x648002).bind fun bt649=>(if (bt649.2.1.length : Int) = 0 then (if x648000 = true then (bolterref02_Check.j1 k true) else (bolterref02_Check.j1 k (x648002 != 0))) else (if 0 < (bt649.2.1.length : Int) then (if (rd bt649.2.1 0) = 0 then (some 9) else (if (bt649.2.1.length : Int) > 300 then (some 9) else (if x648002 < (-1000) then (some 9) else (if x648002 > 1000 then (some 9) else (some 0))))) else (none))))
def bolterref02_Check.j1 : Nat->Bool->Option (Int)
 | 0,_=>none
 | k + 1,x26=>if x26 = true then (some 9) else (some 0)
end
def bolterref02_Check.f (k : Nat) (a0_0 : Bool) (l0_1 : List Int) (a0_2 : Int) : Option (Int):=(bolterref01_Check.f l0_1).bind fun t648=>(if t648 = 0 then (bolterref02_Check.j0 k (decide ((l0_1.length : Int) > 40)) a0_0 l0_1 a0_2) else (bolterref02_Check.j0 k true a0_0 l0_1 a0_2))
theorem bolterref02_Check.calls (k : Nat) (a0_0 : Bool) (A0_1 : Option Addr) (c0_1 : Nat) (l0_1 : List Int) (a0_2 : Int) (r : Int) (w : World) (hr0_1 : Kd.C (Kd.int .u32) w A0_1 l0_1.length l0_1) (hc0_1 : l0_1.length<=c0_1) (h : bolterref02_Check.f k a0_0 l0_1 a0_2 = some r) :
  Calls Tryz.prog 33 #[.agg #[.bool a0_0,.slice A0_1 l0_1.length c0_1,.int .i64 a0_2]] w fun e w'=>e = .returned (.int .i64 r)/\Below w.heap.size w w':=by
 have hu24:=Tryz.underlying24
 have hu30:=Tryz.underlying30
 have HR0_1:=am hr0_1
 have HC0_1:=am hc0_1
 clear hr0_1 hc0_1
 have HB:=am (Below.refl w.heap.size w)
 have H : ((bolterref01_Check.f l0_1).bind fun t648=>(if t648 = 0 then (bolterref02_Check.j0 k (decide ((l0_1.length : Int) > 40)) a0_0 l0_1 a0_2) else (bolterref02_Check.j0 k true a0_0 l0_1 a0_2))) = some r:=h
 clear h
 have HC2:=am H
 clear H
 go_enter Tryz.func33,Tryz.ntmps33
 go_upto_region 1 with (first | ((with_reducible refine gd 1 ?_); (try (refine gate_guard (by rfl) ?_; dsimp only)); refine bx 1 #[.bool a0_0,.slice A0_1 l0_1.length c0_1,.int .i64 a0_2] 24 (h:=?_); intro gb647 hg w3 hbox hb; have BK647:=am hbox; have GW647:=gW hg; have GE647:=gW hg; replace HB:=bS hb; clear hb hbox hg))
 (try simp only [Act.put,List.setIfInBounds_toArray,List.set_cons_zero,List.set_cons_succ])
 go_cut [13] (fun v13 wc => ∃ (kq : Nat) (x13_1 : Bool),v13 = .bool x13_1/\Aside0 (bolterref02_Check.j0 kq x13_1 a0_0 l0_1 a0_2 = some r)/\Aside0 (kq<=k)/\Aside0 (wc.heap[gb647]? = some (.cells #[.bool a0_0,(.slice A0_1 l0_1.length c0_1),.int .i64 a0_2] 24 (0,0)))/\Aside0 (Below w.heap.size w wc))
 case first =>
  have H:=HC2.out
  clear HC2
  obtain ⟨t648,A4,H⟩:=ob H
  by_cases c5 : t648 = 0
  ·rw [if_pos c5] at H
   have c5b0 : (t648 == 0) = true:=beq_iff_eq.mpr c5
   have c5b1 : (t648 != 0) = false:=bne_eq_false_iff_eq.mpr c5
   clear c5
   (first | rw [c5b0] | (simp only [i64_w,i32_w]; rw [c5b0]) | skip)
   have H':=am H
   clear H
   obtain ⟨hcz6_0,hcz6_1,hcz6_2,hfz6_0,hfz6_1,hfz6_2⟩:=cEc BK647.out
   go_wp2_with (first | (refine gL (some 6) Tryz.func91 #[.slice A0_1 l0_1.length c0_1] (h:=?_); (with_reducible refine (bolterref01_Check.calls _ _ l0_1 t648 _ ?side1 ?side2 A4.out).mono ?_); (case side1=>refine cp ?_; exact (Kd.C_below HR0_1.out HB.out)); (case side2=>exact HC0_1.out); rintro e w' ⟨rfl,⟨nd,rfl⟩⟩; refine ⟨_,rfl,?_⟩))
   go_meet
   case rel=>exact ⟨_,(decide ((l0_1.length : Int) > 40)),pR,H',⟨by first | omega | exact Nat.le_refl _⟩,⟨blk_below BK647.out pl⟩,⟨pB⟩⟩
  ·rw [if_neg c5] at H
   have c5b0 : (t648 == 0) = false:=beq_eq_false_iff_ne.mpr c5
   have c5b1 : (t648 != 0) = true:=bne_iff_ne.mpr c5
   (first | rw [c5b0] | (simp only [i64_w,i32_w]; rw [c5b0]) | skip)
   have H':=am H
   clear H
   obtain ⟨hcz7_0,hcz7_1,hcz7_2,hfz7_0,hfz7_1,hfz7_2⟩:=cEc BK647.out
   go_wp2_with (first | (refine gL (some 6) Tryz.func91 #[.slice A0_1 l0_1.length c0_1] (h:=?_); (with_reducible refine (bolterref01_Check.calls _ _ l0_1 t648 _ ?side1 ?side2 A4.out).mono ?_); (case side1=>refine cp ?_; exact (Kd.C_below HR0_1.out HB.out)); (case side2=>exact HC0_1.out); rintro e w' ⟨rfl,⟨nd,rfl⟩⟩; refine ⟨_,rfl,?_⟩))
   go_meet
   case rel=>exact ⟨_,(true),pR,H',⟨by first | omega | exact Nat.le_refl _⟩,⟨blk_below BK647.out pl⟩,⟨pB⟩⟩
 case rest =>
  clear HC2
  obtain ⟨kq,x13_1,rfl,HA,HJ1,BK647,HB⟩:=hcut
  cases kq with
  | zero=>exact absurd HA.out (by simp [bolterref02_Check.j0])
  | succ kj1 =>
   have H:=HA.out
   clear HA
   simp only [bolterref02_Check.j0] at H
   by_cases c8 : x13_1 = true
   ·subst c8
    rw [if_pos rfl] at H
    obtain rfl:=Option.some.inj H
    go_wp2
    go_ret
    exact ⟨pE,pB⟩
   ·replace c8:=Bool.eq_false_iff.mpr c8
    subst c8
    rw [if_neg (show ¬ (false = true) by decide)] at H
    obtain ⟨⟨t649,t650,t653⟩,A9,H⟩:=ob H; (try dsimp only at H)
    by_cases c10 : (t650.length : Int) = 0
    ·rw [if_pos c10] at H
     have c10b0 : ((t650.length : Int) == 0) = true:=beq_iff_eq.mpr c10
     have c10b1 : ((t650.length : Int) != 0) = false:=bne_eq_false_iff_eq.mpr c10
     clear c10
     have HC11:=am H
     clear H
     obtain ⟨hcz12_0,hcz12_1,hcz12_2,hfz12_0,hfz12_1,hfz12_2⟩:=cEc BK647.out
     go_upto_region 5 with (first | (refine gL (some 15) Tryz.func18 #[.agg #[.bool a0_0,.slice A0_1 l0_1.length c0_1,.int .i64 a0_2]] (h:=?_); (with_reducible refine (bolterref02_Of.calls kj1 a0_0 _ _ l0_1 a0_2 t649 t650 t653 _ ?side1 ?side2 A9.out).mono ?_); (case side1=>refine cp ?_; exact (Kd.C_below HR0_1.out HB.out)); (case side2=>exact HC0_1.out); rintro e w13 ⟨v651,rfl,ho0,hb⟩; refine ⟨_,rfl,?_⟩; have HO652:=am (Kd.R_lower ho0 (below_size pB)); replace BK647:=bb BK647 hb; replace HB:=bS hb) | ((with_reducible refine gd 3 ?_); (try (refine gate_guard (by rfl) ?_; dsimp only)); refine bx 3 #[.bool false,.slice none 0 0,.int .i64 0] 30 (h:=?_); intro gb654 hg w14 hbox hb; have BK654:=am hbox; have GW654:=gW hg; have GE654:=gW hg; have NB647_654:=nL hg BK647; have NB654_647:=nG hg BK647; replace HO652:=rbl HO652 hb; replace BK647:=bb BK647 hb; replace HB:=bS hb; clear hb hbox hg; have hnb15:=NB654_647.out; have hnc15:=NB647_654.out; obtain ⟨hcz16_0,hcz16_1,hcz16_2,hfz16_0,hfz16_1,hfz16_2⟩:=cEc BK654.out; obtain ⟨Ao17,co17,eo17⟩:=Kd.R_slice HO652.out; subst eo17))
     (try simp only [Act.put,List.setIfInBounds_toArray,List.set_cons_zero,List.set_cons_succ])
     go_cut [26] (fun v26 wc => ∃ (kq : Nat) (x26_10 : Bool),v26 = .bool x26_10/\Aside0 (bolterref02_Check.j1 kq x26_10 = some r)/\Aside0 (kq<=kj1)/\Aside0 (Kd.R (Kd.int .i64) 3 wc w.heap.size (fun _=>True) (.slice Ao17 t650.length co17) t650)/\Aside0 (wc.heap[gb647]? = some (.cells #[.bool a0_0,(.slice A0_1 l0_1.length c0_1),.int .i64 a0_2] 24 (0,0)))/\Aside0 (wc.heap[gb654]? = some (.cells #[.bool t649,(.slice Ao17 t650.length co17),.int .i64 t653] 30 (0,0)))/\Aside0 (Below w.heap.size w wc))
     case first =>
      have H:=HC11.out
      clear HC11
      by_cases c18 : a0_0 = true
      ·subst c18
       rw [if_pos rfl] at H
       have H':=am H
       clear H
       have hnb19:=NB647_654.out
       have hnc19:=NB654_647.out
       obtain ⟨hcz20_0,hcz20_1,hcz20_2,hfz20_0,hfz20_1,hfz20_2⟩:=cEc BK647.out
       go_wp2
       go_meet
       case rel=>exact ⟨_,(true),pR,H',⟨by have := HJ1.out; first | omega | exact Nat.le_refl _⟩,⟨by refine rp ?_; exact Kd.R_mono (Kd.R_far (p:=⟨gb654,2,none⟩) (Kd.R_far (p:=⟨gb654,1,none⟩) (Kd.R_far (p:=⟨gb654,0,none⟩) (Kd.R_types HO652.out BK654.out (by decide)) (fun _ hk=>hk.2) (.bool t649)) (fun _ hk=>hk.2) (.slice Ao17 t650.length co17)) (fun _ hk=>hk.2) (.int .i64 t653)) (fun _ hk=>trivial)⟩,⟨bf NB647_654.out BK647.out⟩,⟨by exact p3 BK654⟩,⟨pB⟩⟩
      ·replace c18:=Bool.eq_false_iff.mpr c18
       subst c18
       rw [if_neg (show ¬ (false = true) by decide)] at H
       have H':=am H
       clear H
       have hnb21:=NB647_654.out
       have hnc21:=NB654_647.out
       obtain ⟨hcz22_0,hcz22_1,hcz22_2,hfz22_0,hfz22_1,hfz22_2⟩:=cEc BK647.out
       go_wp2
       go_meet
       case rel=>exact ⟨_,((a0_2 != 0)),pR,H',⟨by have := HJ1.out; first | omega | exact Nat.le_refl _⟩,⟨by refine rp ?_; exact Kd.R_mono (Kd.R_far (p:=⟨gb654,2,none⟩) (Kd.R_far (p:=⟨gb654,1,none⟩) (Kd.R_far (p:=⟨gb654,0,none⟩) (Kd.R_types HO652.out BK654.out (by decide)) (fun _ hk=>hk.2) (.bool t649)) (fun _ hk=>hk.2) (.slice Ao17 t650.length co17)) (fun _ hk=>hk.2) (.int .i64 t653)) (fun _ hk=>trivial)⟩,⟨bf NB647_654.out BK647.out⟩,⟨by exact p3 BK654⟩,⟨pB⟩⟩
     case rest =>
      clear HC11
      obtain ⟨kq,x26_10,rfl,HA,HJ10,HO_655001,BK647,BK654,HB⟩:=hcut
      cases kq with
      | zero=>exact absurd HA.out (by simp [bolterref02_Check.j1])
      | succ kj10 =>
       have H:=HA.out
       clear HA
       simp only [bolterref02_Check.j1] at H
       by_cases c23 : x26_10 = true
       ·subst c23
        rw [if_pos rfl] at H
        obtain rfl:=Option.some.inj H
        go_wp2
        go_ret
        exact ⟨pE,pB⟩
       ·replace c23:=Bool.eq_false_iff.mpr c23
        subst c23
        rw [if_neg (show ¬ (false = true) by decide)] at H
        obtain rfl:=Option.some.inj H
        go_wp2
        go_ret
        exact ⟨pE,pB⟩
    ·rw [if_neg c10] at H
     have c10b0 : ((t650.length : Int) == 0) = false:=beq_eq_false_iff_ne.mpr c10
     have c10b1 : ((t650.length : Int) != 0) = true:=bne_iff_ne.mpr c10
     have c10b2 : ¬ (t650 = []):=fun h_=>c10 (by rw [h_]; rfl)
     by_cases c24 : 0 < (t650.length : Int)
     ·rw [if_pos c24] at H
      have c24b0 : decide (0 < (t650.length : Int)) = true:=decide_eq_true c24
      have c24b1 : decide (0 < t650.length) = true:=decide_eq_true (by omega)
      clear c24
      by_cases c25 : (rd t650 0) = 0
      ·rw [if_pos c25] at H
       have c25b0 : ((rd t650 0) == 0) = true:=beq_iff_eq.mpr c25
       have c25b1 : ((rd t650 0) != 0) = false:=bne_eq_false_iff_eq.mpr c25
       clear c25
       obtain rfl:=Option.some.inj H
       obtain ⟨hcz26_0,hcz26_1,hcz26_2,hfz26_0,hfz26_1,hfz26_2⟩:=cEc BK647.out
       go_wp2_with (first | (refine gL (some 15) Tryz.func18 #[.agg #[.bool a0_0,.slice A0_1 l0_1.length c0_1,.int .i64 a0_2]] (h:=?_); (with_reducible refine (bolterref02_Of.calls kj1 a0_0 _ _ l0_1 a0_2 t649 t650 t653 _ ?side1 ?side2 A9.out).mono ?_); (case side1=>refine cp ?_; exact (Kd.C_below HR0_1.out HB.out)); (case side2=>exact HC0_1.out); rintro e w27 ⟨v651,rfl,ho0,hb⟩; refine ⟨_,rfl,?_⟩; have HO652:=am (Kd.R_lower ho0 (below_size pB)); replace BK647:=bb BK647 hb; replace HB:=bS hb) | ((with_reducible refine gd 3 ?_); (try (refine gate_guard (by rfl) ?_; dsimp only)); refine bx 3 #[.bool false,.slice none 0 0,.int .i64 0] 30 (h:=?_); intro gb654 hg w28 hbox hb; have BK654:=am hbox; have GW654:=gW hg; have GE654:=gW hg; have NB647_654:=nL hg BK647; have NB654_647:=nG hg BK647; replace HO652:=rbl HO652 hb; replace BK647:=bb BK647 hb; replace HB:=bS hb; clear hb hbox hg; have hnb29:=NB654_647.out; have hnc29:=NB647_654.out; obtain ⟨hcz30_0,hcz30_1,hcz30_2,hfz30_0,hfz30_1,hfz30_2⟩:=cEc BK654.out; obtain ⟨Ao31,co31,eo31⟩:=Kd.R_slice HO652.out; subst eo31; have p655 : 0<=(0 : Int):=(by omega); have q655 : 0 < (t650.length : Int):=of_decide_eq_true pQ; obtain ⟨ad655,e655,hx655_0⟩:=Kd.at_int (Kd.R_reads' HO652.out).2.2 0 p655 q655; cases e655; have qi655 : (0 < t650.length) = True:=eq_true (by omega); (try rw [show ((0 : Int)).toNat = 0 from rfl] at hx655_0); (try rw [Addr.add_zero'] at hx655_0); have hn655_0 : ad655.block ≠ gb654:=Kd.own_blk (Kd.R_ne HO652.out BK654.out (by decide)); have hn655_1 : ad655.block ≠ gb654:=Kd.own_blk (Kd.R_ne HO652.out BK654.out (by decide)); have hn655_2 : ad655.block ≠ gb654:=Kd.own_blk (Kd.R_ne HO652.out BK654.out (by decide)); replace hx655_0:=(cell_far (p:=⟨gb654,0,none⟩) (by first | (rw [add_block]; exact hn655_0) | (show (Addr.add _ _).block ≠ _; rw [add_block]; exact hn655_0) | exact hn655_0) (.bool t649)).trans hx655_0; replace hx655_0:=(cell_far (p:=⟨gb654,1,none⟩) (by first | (rw [add_block]; exact hn655_1) | (show (Addr.add _ _).block ≠ _; rw [add_block]; exact hn655_1) | exact hn655_1) (.slice (some ad655) t650.length co31)).trans hx655_0; replace hx655_0:=(cell_far (p:=⟨gb654,2,none⟩) (by first | (rw [add_block]; exact hn655_2) | (show (Addr.add _ _).block ≠ _; rw [add_block]; exact hn655_2) | exact hn655_2) (.int .i64 t653)).trans hx655_0; clear hn655_0 hn655_1 hn655_2; replace p655:=eq_true p655; replace q655:=eq_true q655))
       go_ret
       exact ⟨pE,pB⟩
      ·rw [if_neg c25] at H
       have c25b0 : ((rd t650 0) == 0) = false:=beq_eq_false_iff_ne.mpr c25
       have c25b1 : ((rd t650 0) != 0) = true:=bne_iff_ne.mpr c25
       by_cases c32 : (t650.length : Int) > 300
       ·rw [if_pos c32] at H
        have c32b0 : decide (300 < (t650.length : Int)) = true:=decide_eq_true c32
        have c32b1 : decide (300 < t650.length) = true:=decide_eq_true (by omega)
        clear c32
        obtain rfl:=Option.some.inj H
        obtain ⟨hcz33_0,hcz33_1,hcz33_2,hfz33_0,hfz33_1,hfz33_2⟩:=cEc BK647.out
        go_wp2_with (first | (refine gL (some 15) Tryz.func18 #[.agg #[.bool a0_0,.slice A0_1 l0_1.length c0_1,.int .i64 a0_2]] (h:=?_); (with_reducible refine (bolterref02_Of.calls kj1 a0_0 _ _ l0_1 a0_2 t649 t650 t653 _ ?side1 ?side2 A9.out).mono ?_); (case side1=>refine cp ?_; exact (Kd.C_below HR0_1.out HB.out)); (case side2=>exact HC0_1.out); rintro e w34 ⟨v651,rfl,ho0,hb⟩; refine ⟨_,rfl,?_⟩; have HO652:=am (Kd.R_lower ho0 (below_size pB)); replace BK647:=bb BK647 hb; replace HB:=bS hb) | ((with_reducible refine gd 3 ?_); (try (refine gate_guard (by rfl) ?_; dsimp only)); refine bx 3 #[.bool false,.slice none 0 0,.int .i64 0] 30 (h:=?_); intro gb654 hg w35 hbox hb; have BK654:=am hbox; have GW654:=gW hg; have GE654:=gW hg; have NB647_654:=nL hg BK647; have NB654_647:=nG hg BK647; replace HO652:=rbl HO652 hb; replace BK647:=bb BK647 hb; replace HB:=bS hb; clear hb hbox hg; have hnb36:=NB654_647.out; have hnc36:=NB647_654.out; obtain ⟨hcz37_0,hcz37_1,hcz37_2,hfz37_0,hfz37_1,hfz37_2⟩:=cEc BK654.out; obtain ⟨Ao38,co38,eo38⟩:=Kd.R_slice HO652.out; subst eo38; have p655 : 0<=(0 : Int):=(by omega); have q655 : 0 < (t650.length : Int):=of_decide_eq_true pQ; obtain ⟨ad655,e655,hx655_0⟩:=Kd.at_int (Kd.R_reads' HO652.out).2.2 0 p655 q655; cases e655; have qi655 : (0 < t650.length) = True:=eq_true (by omega); (try rw [show ((0 : Int)).toNat = 0 from rfl] at hx655_0); (try rw [Addr.add_zero'] at hx655_0); have hn655_0 : ad655.block ≠ gb654:=Kd.own_blk (Kd.R_ne HO652.out BK654.out (by decide)); have hn655_1 : ad655.block ≠ gb654:=Kd.own_blk (Kd.R_ne HO652.out BK654.out (by decide)); have hn655_2 : ad655.block ≠ gb654:=Kd.own_blk (Kd.R_ne HO652.out BK654.out (by decide)); replace hx655_0:=(cell_far (p:=⟨gb654,0,none⟩) (by first | (rw [add_block]; exact hn655_0) | (show (Addr.add _ _).block ≠ _; rw [add_block]; exact hn655_0) | exact hn655_0) (.bool t649)).trans hx655_0; replace hx655_0:=(cell_far (p:=⟨gb654,1,none⟩) (by first | (rw [add_block]; exact hn655_1) | (show (Addr.add _ _).block ≠ _; rw [add_block]; exact hn655_1) | exact hn655_1) (.slice (some ad655) t650.length co38)).trans hx655_0; replace hx655_0:=(cell_far (p:=⟨gb654,2,none⟩) (by first | (rw [add_block]; exact hn655_2) | (show (Addr.add _ _).block ≠ _; rw [add_block]; exact hn655_2) | exact hn655_2) (.int .i64 t653)).trans hx655_0; clear hn655_0 hn655_1 hn655_2; replace p655:=eq_true p655; replace q655:=eq_true q655))
        go_ret
        exact ⟨pE,pB⟩
       ·rw [if_neg c32] at H
        have c32b0 : decide (300 < (t650.length : Int)) = false:=decide_eq_false c32
        have c32b1 : decide (300 < t650.length) = false:=decide_eq_false (by omega)
        clear c32
        by_cases c39 : a0_2 < (-1000)
        ·rw [if_pos c39] at H
         have c39b0 : decide (a0_2 < (-1000)) = true:=decide_eq_true c39
         clear c39
         obtain rfl:=Option.some.inj H
         obtain ⟨hcz40_0,hcz40_1,hcz40_2,hfz40_0,hfz40_1,hfz40_2⟩:=cEc BK647.out
         go_wp2_with (first | (refine gL (some 15) Tryz.func18 #[.agg #[.bool a0_0,.slice A0_1 l0_1.length c0_1,.int .i64 a0_2]] (h:=?_); (with_reducible refine (bolterref02_Of.calls kj1 a0_0 _ _ l0_1 a0_2 t649 t650 t653 _ ?side1 ?side2 A9.out).mono ?_); (case side1=>refine cp ?_; exact (Kd.C_below HR0_1.out HB.out)); (case side2=>exact HC0_1.out); rintro e w41 ⟨v651,rfl,ho0,hb⟩; refine ⟨_,rfl,?_⟩; have HO652:=am (Kd.R_lower ho0 (below_size pB)); replace BK647:=bb BK647 hb; replace HB:=bS hb) | ((with_reducible refine gd 3 ?_); (try (refine gate_guard (by rfl) ?_; dsimp only)); refine bx 3 #[.bool false,.slice none 0 0,.int .i64 0] 30 (h:=?_); intro gb654 hg w42 hbox hb; have BK654:=am hbox; have GW654:=gW hg; have GE654:=gW hg; have NB647_654:=nL hg BK647; have NB654_647:=nG hg BK647; replace HO652:=rbl HO652 hb; replace BK647:=bb BK647 hb; replace HB:=bS hb; clear hb hbox hg; have hnb43:=NB654_647.out; have hnc43:=NB647_654.out; obtain ⟨hcz44_0,hcz44_1,hcz44_2,hfz44_0,hfz44_1,hfz44_2⟩:=cEc BK654.out; obtain ⟨Ao45,co45,eo45⟩:=Kd.R_slice HO652.out; subst eo45; have p655 : 0<=(0 : Int):=(by omega); have q655 : 0 < (t650.length : Int):=of_decide_eq_true pQ; obtain ⟨ad655,e655,hx655_0⟩:=Kd.at_int (Kd.R_reads' HO652.out).2.2 0 p655 q655; cases e655; have qi655 : (0 < t650.length) = True:=eq_true (by omega); (try rw [show ((0 : Int)).toNat = 0 from rfl] at hx655_0); (try rw [Addr.add_zero'] at hx655_0); have hn655_0 : ad655.block ≠ gb654:=Kd.own_blk (Kd.R_ne HO652.out BK654.out (by decide)); have hn655_1 : ad655.block ≠ gb654:=Kd.own_blk (Kd.R_ne HO652.out BK654.out (by decide)); have hn655_2 : ad655.block ≠ gb654:=Kd.own_blk (Kd.R_ne HO652.out BK654.out (by decide)); replace hx655_0:=(cell_far (p:=⟨gb654,0,none⟩) (by first | (rw [add_block]; exact hn655_0) | (show (Addr.add _ _).block ≠ _; rw [add_block]; exact hn655_0) | exact hn655_0) (.bool t649)).trans hx655_0; replace hx655_0:=(cell_far (p:=⟨gb654,1,none⟩) (by first | (rw [add_block]; exact hn655_1) | (show (Addr.add _ _).block ≠ _; rw [add_block]; exact hn655_1) | exact hn655_1) (.slice (some ad655) t650.length co45)).trans hx655_0; replace hx655_0:=(cell_far (p:=⟨gb654,2,none⟩) (by first | (rw [add_block]; exact hn655_2) | (show (Addr.add _ _).block ≠ _; rw [add_block]; exact hn655_2) | exact hn655_2) (.int .i64 t653)).trans hx655_0; clear hn655_0 hn655_1 hn655_2; replace p655:=eq_true p655; replace q655:=eq_true q655; obtain ⟨hcz46_0,hcz46_1,hcz46_2,hfz46_0,hfz46_1,hfz46_2⟩:=cEc BK647.out))
         go_ret
         exact ⟨pE,pB⟩
        ·rw [if_neg c39] at H
         have c39b0 : decide (a0_2 < (-1000)) = false:=decide_eq_false c39
         clear c39
         by_cases c47 : a0_2 > 1000
         ·rw [if_pos c47] at H
          have c47b0 : decide (1000 < a0_2) = true:=decide_eq_true c47
          clear c47
          obtain rfl:=Option.some.inj H
          obtain ⟨hcz48_0,hcz48_1,hcz48_2,hfz48_0,hfz48_1,hfz48_2⟩:=cEc BK647.out
          go_wp2_with (first | (refine gL (some 15) Tryz.func18 #[.agg #[.bool a0_0,.slice A0_1 l0_1.length c0_1,.int .i64 a0_2]] (h:=?_); (with_reducible refine (bolterref02_Of.calls kj1 a0_0 _ _ l0_1 a0_2 t649 t650 t653 _ ?side1 ?side2 A9.out).mono ?_); (case side1=>refine cp ?_; exact (Kd.C_below HR0_1.out HB.out)); (case side2=>exact HC0_1.out); rintro e w49 ⟨v651,rfl,ho0,hb⟩; refine ⟨_,rfl,?_⟩; have HO652:=am (Kd.R_lower ho0 (below_size pB)); replace BK647:=bb BK647 hb; replace HB:=bS hb) | ((with_reducible refine gd 3 ?_); (try (refine gate_guard (by rfl) ?_; dsimp only)); refine bx 3 #[.bool false,.slice none 0 0,.int .i64 0] 30 (h:=?_); intro gb654 hg w50 hbox hb; have BK654:=am hbox; have GW654:=gW hg; have GE654:=gW hg; have NB647_654:=nL hg BK647; have NB654_647:=nG hg BK647; replace HO652:=rbl HO652 hb; replace BK647:=bb BK647 hb; replace HB:=bS hb; clear hb hbox hg; have hnb51:=NB654_647.out; have hnc51:=NB647_654.out; obtain ⟨hcz52_0,hcz52_1,hcz52_2,hfz52_0,hfz52_1,hfz52_2⟩:=cEc BK654.out; obtain ⟨Ao53,co53,eo53⟩:=Kd.R_slice HO652.out; subst eo53; have p655 : 0<=(0 : Int):=(by omega); have q655 : 0 < (t650.length : Int):=of_decide_eq_true pQ; obtain ⟨ad655,e655,hx655_0⟩:=Kd.at_int (Kd.R_reads' HO652.out).2.2 0 p655 q655; cases e655; have qi655 : (0 < t650.length) = True:=eq_true (by omega); (try rw [show ((0 : Int)).toNat = 0 from rfl] at hx655_0); (try rw [Addr.add_zero'] at hx655_0); have hn655_0 : ad655.block ≠ gb654:=Kd.own_blk (Kd.R_ne HO652.out BK654.out (by decide)); have hn655_1 : ad655.block ≠ gb654:=Kd.own_blk (Kd.R_ne HO652.out BK654.out (by decide)); have hn655_2 : ad655.block ≠ gb654:=Kd.own_blk (Kd.R_ne HO652.out BK654.out (by decide)); replace hx655_0:=(cell_far (p:=⟨gb654,0,none⟩) (by first | (rw [add_block]; exact hn655_0) | (show (Addr.add _ _).block ≠ _; rw [add_block]; exact hn655_0) | exact hn655_0) (.bool t649)).trans hx655_0; replace hx655_0:=(cell_far (p:=⟨gb654,1,none⟩) (by first | (rw [add_block]; exact hn655_1) | (show (Addr.add _ _).block ≠ _; rw [add_block]; exact hn655_1) | exact hn655_1) (.slice (some ad655) t650.length co53)).trans hx655_0; replace hx655_0:=(cell_far (p:=⟨gb654,2,none⟩) (by first | (rw [add_block]; exact hn655_2) | (show (Addr.add _ _).block ≠ _; rw [add_block]; exact hn655_2) | exact hn655_2) (.int .i64 t653)).trans hx655_0; clear hn655_0 hn655_1 hn655_2; replace p655:=eq_true p655; replace q655:=eq_true q655; obtain ⟨hcz54_0,hcz54_1,hcz54_2,hfz54_0,hfz54_1,hfz54_2⟩:=cEc BK647.out))
          go_ret
          exact ⟨pE,pB⟩
         ·rw [if_neg c47] at H
          have c47b0 : decide (1000 < a0_2) = false:=decide_eq_false c47
          clear c47
          obtain rfl:=Option.some.inj H
          obtain ⟨hcz55_0,hcz55_1,hcz55_2,hfz55_0,hfz55_1,hfz55_2⟩:=cEc BK647.out
          go_wp2_with (first | (refine gL (some 15) Tryz.func18 #[.agg #[.bool a0_0,.slice A0_1 l0_1.length c0_1,.int .i64 a0_2]] (h:=?_); (with_reducible refine (bolterref02_Of.calls kj1 a0_0 _ _ l0_1 a0_2 t649 t650 t653 _ ?side1 ?side2 A9.out).mono ?_); (case side1=>refine cp ?_; exact (Kd.C_below HR0_1.out HB.out)); (case side2=>exact HC0_1.out); rintro e w56 ⟨v651,rfl,ho0,hb⟩; refine ⟨_,rfl,?_⟩; have HO652:=am (Kd.R_lower ho0 (below_size pB)); replace BK647:=bb BK647 hb; replace HB:=bS hb) | ((with_reducible refine gd 3 ?_); (try (refine gate_guard (by rfl) ?_; dsimp only)); refine bx 3 #[.bool false,.slice none 0 0,.int .i64 0] 30 (h:=?_); intro gb654 hg w57 hbox hb; have BK654:=am hbox; have GW654:=gW hg; have GE654:=gW hg; have NB647_654:=nL hg BK647; have NB654_647:=nG hg BK647; replace HO652:=rbl HO652 hb; replace BK647:=bb BK647 hb; replace HB:=bS hb; clear hb hbox hg; have hnb58:=NB654_647.out; have hnc58:=NB647_654.out; obtain ⟨hcz59_0,hcz59_1,hcz59_2,hfz59_0,hfz59_1,hfz59_2⟩:=cEc BK654.out; obtain ⟨Ao60,co60,eo60⟩:=Kd.R_slice HO652.out; subst eo60; have p655 : 0<=(0 : Int):=(by omega); have q655 : 0 < (t650.length : Int):=of_decide_eq_true pQ; obtain ⟨ad655,e655,hx655_0⟩:=Kd.at_int (Kd.R_reads' HO652.out).2.2 0 p655 q655; cases e655; have qi655 : (0 < t650.length) = True:=eq_true (by omega); (try rw [show ((0 : Int)).toNat = 0 from rfl] at hx655_0); (try rw [Addr.add_zero'] at hx655_0); have hn655_0 : ad655.block ≠ gb654:=Kd.own_blk (Kd.R_ne HO652.out BK654.out (by decide)); have hn655_1 : ad655.block ≠ gb654:=Kd.own_blk (Kd.R_ne HO652.out BK654.out (by decide)); have hn655_2 : ad655.block ≠ gb654:=Kd.own_blk (Kd.R_ne HO652.out BK654.out (by decide)); replace hx655_0:=(cell_far (p:=⟨gb654,0,none⟩) (by first | (rw [add_block]; exact hn655_0) | (show (Addr.add _ _).block ≠ _; rw [add_block]; exact hn655_0) | exact hn655_0) (.bool t649)).trans hx655_0; replace hx655_0:=(cell_far (p:=⟨gb654,1,none⟩) (by first | (rw [add_block]; exact hn655_1) | (show (Addr.add _ _).block ≠ _; rw [add_block]; exact hn655_1) | exact hn655_1) (.slice (some ad655) t650.length co60)).trans hx655_0; replace hx655_0:=(cell_far (p:=⟨gb654,2,none⟩) (by first | (rw [add_block]; exact hn655_2) | (show (Addr.add _ _).block ≠ _; rw [add_block]; exact hn655_2) | exact hn655_2) (.int .i64 t653)).trans hx655_0; clear hn655_0 hn655_1 hn655_2; replace p655:=eq_true p655; replace q655:=eq_true q655; obtain ⟨hcz61_0,hcz61_1,hcz61_2,hfz61_0,hfz61_1,hfz61_2⟩:=cEc BK647.out))
          go_ret
          exact ⟨pE,pB⟩
     ·rw [if_neg c24] at H
      exact absurd H (by simp)
def bolterref02_opposite.f (a0_0 : Bool) (l0_1 : List Int) (a0_2 : Int) : Option (Bool × List Int × Int):=if a0_0 = true then (some (false,l0_1,a0_2)) else (some (decide ((l0_1.length : Int) > 0),l0_1,a0_2))
theorem bolterref02_opposite.calls (a0_0 : Bool) (P0_1_ : Nat->Prop) (u9000_ : Value) (l0_1 : List Int) (a0_2 : Int) (r1 : Bool) (r2 : List Int) (r3 : Int) (w0 w : World) (hB : Below w0.heap.size w0 w) (ho0_1 : Kd.R (Kd.int .i64) 3 w w0.heap.size P0_1_ u9000_ l0_1) (h : bolterref02_opposite.f a0_0 l0_1 a0_2 = some (r1,r2,r3)) :
  Calls Tryz.prog 78 #[.agg #[.bool a0_0,u9000_,.int .i64 a0_2]] w fun e w' => ∃ v1_ : Value,e = .returned (.agg #[.bool r1,v1_,.int .i64 r3])/\Kd.R (Kd.int .i64) 3 w' w0.heap.size (fun k_=>(P0_1_ k_\/w.heap.size<=k_)) v1_ r2/\Below w0.heap.size w0 w'/\Kept w w' (fun k_=>P0_1_ k_):=by
 have hu30:=Tryz.underlying30
 have HO0_1:=am (show Kd.R (Kd.int .i64) 3 w w0.heap.size (fun k_=>(P0_1_ k_\/w.heap.size<=k_)) u9000_ l0_1 from Kd.R_mono ho0_1 (fun k_ hk=>(.inl hk)))
 have HK:=am (Kept.refl w (fun k_=>P0_1_ k_))
 have HW0:=am hB.size
 have HB:=am hB
 clear hB
 have H : (if a0_0 = true then (some (false,l0_1,a0_2)) else (some (decide ((l0_1.length : Int) > 0),l0_1,a0_2))) = some (r1,r2,r3):=h
 clear h
 by_cases c2 : a0_0 = true
 ·subst c2
  rw [if_pos rfl] at H
  simp only [Option.some.injEq,Prod.mk.injEq] at H
  obtain ⟨rfl,rfl,rfl⟩:=H
  obtain ⟨Ao3,co3,eo3⟩:=Kd.R_slice HO0_1.out
  subst eo3
  go_enter Tryz.func78,Tryz.ntmps78
  go_wp2_with (first | ((with_reducible refine gd 1 ?_); (try (refine gate_guard (by rfl) ?_; dsimp only)); refine bx 1 #[.bool true,.slice Ao3 l0_1.length co3,.int .i64 a0_2] 30 (h:=?_); intro gb801 hg w4 hbox hb; have BK801:=am hbox; have GW801:=am ((by rw [hg]; exact (by first | exact HK.out.1 | exact (show Kept w _ (fun k_=>P0_1_ k_) from by repeat (first | (with_reducible first | exact HK.out | apply Kept.alloc | apply Kept.drewN | apply Kept.drew) | exact HK.out)).1) : w.heap.size<=gb801)); have GE801:=am ((gw hg pB : w0.heap.size<=gb801)); replace HO0_1:=rbl HO0_1 hb; replace HK:=am (Kept.below (S:=(fun k_=>P0_1_ k_)) (by repeat (first | (with_reducible first | exact HK.out | apply Kept.alloc | apply Kept.drewN | apply Kept.drew) | exact HK.out)) hb); replace HB:=bS hb; clear hb hbox hg) | ((with_reducible refine gd 2 ?_); (try (refine gate_guard (by rfl) ?_; dsimp only)); refine bx 2 #[.bool false,.slice none 0 0,.int .i64 0] 30 (h:=?_); intro gb802 hg w5 hbox hb; have BK802:=am hbox; have GW802:=am ((by rw [hg]; exact (by first | exact HK.out.1 | exact (show Kept w _ (fun k_=>P0_1_ k_) from by repeat (first | (with_reducible first | exact HK.out | apply Kept.alloc | apply Kept.drewN | apply Kept.drew | refine Kept.setCell ?_ (.inr GW801.out) _) | exact HK.out)).1) : w.heap.size<=gb802)); have GE802:=am ((gw hg pB : w0.heap.size<=gb802)); have NB801_802:=nL hg BK801; have NB802_801:=nG hg BK801; replace HO0_1:=rbl HO0_1 hb; replace BK801:=bb BK801 hb; replace HK:=am (Kept.below (S:=(fun k_=>P0_1_ k_)) (by repeat (first | (with_reducible first | exact HK.out | apply Kept.alloc | apply Kept.drewN | apply Kept.drew | refine Kept.setCell ?_ (.inr GW801.out) _) | exact HK.out)) hb); replace HB:=bS hb; clear hb hbox hg; have hnb6:=NB801_802.out; have hnc6:=NB802_801.out; obtain ⟨hcz7_0,hcz7_1,hcz7_2,hfz7_0,hfz7_1,hfz7_2⟩:=cEc BK801.out; obtain ⟨hcz8_0,hcz8_1,hcz8_2,hfz8_0,hfz8_1,hfz8_2⟩:=cEc BK802.out))
  refine bodyPost_ret (results_cell_row rfl _ _ gb802 30 #[.bool false,.slice Ao3 l0_1.length co3,.int .i64 a0_2] (0,0) _ rfl (by refine bp ?_; refine blk_put (cs:=#[.bool false,.slice Ao3 l0_1.length co3,.int .i64 0]) ?_ 2 _ rfl; refine bp ?_; refine blk_put (cs:=#[.bool false,.slice none 0 0,.int .i64 0]) ?_ 1 _ rfl; refine bp ?_; refine blk_put (cs:=#[.bool false,.slice none 0 0,.int .i64 0]) ?_ 0 _ rfl; refine bp ?_; refine blk_far ?_ NB802_801.out _; exact bp BK802.out) Tryz.underlying30 rfl (by kernel_rfl)) rfl ?_
  exact ⟨_,pE,by refine rp ?_; exact Kd.R_mono (Kd.R_far (p:=⟨gb802,2,none⟩) (Kd.R_far (p:=⟨gb802,1,none⟩) (Kd.R_far (p:=⟨gb802,0,none⟩) (Kd.R_far (p:=⟨gb801,0,none⟩) (Kd.R_types (Kd.R_types HO0_1.out BK801.out (by decide)) BK802.out (by decide)) (fun _ hk=>hk.1.2) (.bool false)) (fun _ hk=>hk.2) (.bool false)) (fun _ hk=>hk.2) (.slice Ao3 l0_1.length co3)) (fun _ hk=>hk.2) (.int .i64 a0_2)) (fun _ hk=>hk.1.1),pB,by repeat (first | (with_reducible first | exact HK.out | apply Kept.alloc | apply Kept.drewN | apply Kept.drew | refine Kept.setCell ?_ (.inr GW801.out) _ | refine Kept.setCell ?_ (.inr GW802.out) _) | exact HK.out)⟩
 ·replace c2:=Bool.eq_false_iff.mpr c2
  subst c2
  rw [if_neg (show ¬ (false = true) by decide)] at H
  simp only [Option.some.injEq,Prod.mk.injEq] at H
  obtain ⟨rfl,rfl,rfl⟩:=H
  obtain ⟨Ao9,co9,eo9⟩:=Kd.R_slice HO0_1.out
  subst eo9
  rw [show decide ((l0_1.length : Int) > 0) = decide (0 < l0_1.length) by simp]
  go_enter Tryz.func78,Tryz.ntmps78
  go_wp2_with (first | ((with_reducible refine gd 1 ?_); (try (refine gate_guard (by rfl) ?_; dsimp only)); refine bx 1 #[.bool false,.slice Ao9 l0_1.length co9,.int .i64 a0_2] 30 (h:=?_); intro gb801 hg w10 hbox hb; have BK801:=am hbox; have GW801:=am ((by rw [hg]; exact (by first | exact HK.out.1 | exact (show Kept w _ (fun k_=>P0_1_ k_) from by repeat (first | (with_reducible first | exact HK.out | apply Kept.alloc | apply Kept.drewN | apply Kept.drew) | exact HK.out)).1) : w.heap.size<=gb801)); have GE801:=am ((gw hg pB : w0.heap.size<=gb801)); replace HO0_1:=rbl HO0_1 hb; replace HK:=am (Kept.below (S:=(fun k_=>P0_1_ k_)) (by repeat (first | (with_reducible first | exact HK.out | apply Kept.alloc | apply Kept.drewN | apply Kept.drew) | exact HK.out)) hb); replace HB:=bS hb; clear hb hbox hg) | ((with_reducible refine gd 2 ?_); (try (refine gate_guard (by rfl) ?_; dsimp only)); refine bx 2 #[.bool false,.slice none 0 0,.int .i64 0] 30 (h:=?_); intro gb802 hg w11 hbox hb; have BK802:=am hbox; have GW802:=am ((by rw [hg]; exact (by first | exact HK.out.1 | exact (show Kept w _ (fun k_=>P0_1_ k_) from by repeat (first | (with_reducible first | exact HK.out | apply Kept.alloc | apply Kept.drewN | apply Kept.drew | refine Kept.setCell ?_ (.inr GW801.out) _) | exact HK.out)).1) : w.heap.size<=gb802)); have GE802:=am ((gw hg pB : w0.heap.size<=gb802)); have NB801_802:=nL hg BK801; have NB802_801:=nG hg BK801; replace HO0_1:=rbl HO0_1 hb; replace BK801:=bb BK801 hb; replace HK:=am (Kept.below (S:=(fun k_=>P0_1_ k_)) (by repeat (first | (with_reducible first | exact HK.out | apply Kept.alloc | apply Kept.drewN | apply Kept.drew | refine Kept.setCell ?_ (.inr GW801.out) _) | exact HK.out)) hb); replace HB:=bS hb; clear hb hbox hg; have hnb12:=NB801_802.out; have hnc12:=NB802_801.out; obtain ⟨hcz13_0,hcz13_1,hcz13_2,hfz13_0,hfz13_1,hfz13_2⟩:=cEc BK801.out; obtain ⟨hcz14_0,hcz14_1,hcz14_2,hfz14_0,hfz14_1,hfz14_2⟩:=cEc BK802.out))
  refine bodyPost_ret (results_cell_row rfl _ _ gb802 30 #[.bool (decide (0 < l0_1.length)),.slice Ao9 l0_1.length co9,.int .i64 a0_2] (0,0) _ rfl (by refine bp ?_; refine blk_put (cs:=#[.bool (decide (0 < l0_1.length)),.slice Ao9 l0_1.length co9,.int .i64 0]) ?_ 2 _ rfl; refine bp ?_; refine blk_put (cs:=#[.bool (decide (0 < l0_1.length)),.slice none 0 0,.int .i64 0]) ?_ 1 _ rfl; refine bp ?_; refine blk_put (cs:=#[.bool false,.slice none 0 0,.int .i64 0]) ?_ 0 _ rfl; refine bp ?_; refine blk_far ?_ NB802_801.out _; exact bp BK802.out) Tryz.underlying30 rfl (by kernel_rfl)) rfl ?_
  exact ⟨_,pE,by refine rp ?_; exact Kd.R_mono (Kd.R_far (p:=⟨gb802,2,none⟩) (Kd.R_far (p:=⟨gb802,1,none⟩) (Kd.R_far (p:=⟨gb802,0,none⟩) (Kd.R_far (p:=⟨gb801,0,none⟩) (Kd.R_types (Kd.R_types HO0_1.out BK801.out (by decide)) BK802.out (by decide)) (fun _ hk=>hk.1.2) (.bool (decide (0 < l0_1.length)))) (fun _ hk=>hk.2) (.bool (decide (0 < l0_1.length)))) (fun _ hk=>hk.2) (.slice Ao9 l0_1.length co9)) (fun _ hk=>hk.2) (.int .i64 a0_2)) (fun _ hk=>hk.1.1),pB,by repeat (first | (with_reducible first | exact HK.out | apply Kept.alloc | apply Kept.drewN | apply Kept.drew | refine Kept.setCell ?_ (.inr GW801.out) _ | refine Kept.setCell ?_ (.inr GW802.out) _) | exact HK.out)⟩
def bolterref02_Neg.f (k : Nat) (a0_0 : Bool) (l0_1 : List Int) (a0_2 : Int) : Option (Bool × List Int × Int × Int):=(bolterref02_Check.f k a0_0 l0_1 a0_2).bind fun t1631=>(if t1631 = 0 then ((bolterref02_Of.f k a0_0 l0_1 a0_2).bind fun bt1632=>((bolterref02_opposite.f bt1632.1 bt1632.2.1 bt1632.2.2).bind fun bt1637=>((bolterref02_Made.f k bt1637.1 bt1637.2.1 bt1637.2.2).bind fun bt1642=>(some (bt1642.1,bt1642.2.1,bt1642.2.2.1,bt1642.2.2.2))))) else (some (false,([] : List Int),0,9)))
theorem bolterref02_Neg.leaf {P : Prop} (h : P:=by
 go_enter Tryz.func46,Tryz.ntmps46
 go_wp2_with (first | ((with_reducible refine gd 1 ?_); refine bx 1 #[.bool a0_0,.slice A0_1 l0_1.length c0_1,.int .i64 a0_2] 24 (h:=?_); intro gb0z hg w1z hbox hb; have BK2z:=am hbox; have GW3z:=gW hg; have GE4z:=gW hg; replace HB:=bS hb; clear hb hbox hg) | ((with_reducible refine gd 2 ?_); refine bx 2 #[.bool false,.slice none 0 0,.int .i64 0] 24 (h:=?_); intro gb5z hg w6z hbox hb; have BK7z:=am hbox; have GW8z:=gW hg; have GE9z:=gW hg; have NB10z:=nL hg BK2z; have NB11z:=nG hg BK2z; replace BK2z:=bb BK2z hb; replace HB:=bS hb; clear hb hbox hg; have hnb12z:=NB10z.out; have hnc13z:=NB11z.out; obtain ⟨hcz14z,hcz15z,hcz16z,hfz17z,hfz18z,hfz19z⟩:=cEc BK2z.out) | ((have q_:=A6; clear q_); refine gL (some 5) Tryz.func33 #[.agg #[.bool a0_0,.slice A0_1 l0_1.length c0_1,.int .i64 a0_2]] (h:=?_); (with_reducible refine (bolterref02_Check.calls k a0_0 _ _ l0_1 a0_2 t1631 _ ?side1 ?side2 A2.out).mono ?_); (case side1=>refine cp ?_; exact (Kd.C_below HR0_1.out HB.out)); (case side2=>exact HC0_1.out); rintro e w20z ⟨rfl,hb⟩; refine ⟨_,rfl,?_⟩; replace BK2z:=bb BK2z hb; replace BK7z:=bb BK7z hb; replace HB:=bS hb; obtain ⟨hcz21z,hcz22z,hcz23z,hfz24z,hfz25z,hfz26z⟩:=cEc BK2z.out) | (refine gL (some 9) Tryz.func18 #[.agg #[.bool a0_0,.slice A0_1 l0_1.length c0_1,.int .i64 a0_2]] (h:=?_); (with_reducible refine (bolterref02_Of.calls k a0_0 _ _ l0_1 a0_2 t1632 t1633 t1636 _ ?side1 ?side2 A4.out).mono ?_); (case side1=>refine cp ?_; exact (Kd.C_below HR0_1.out HB.out)); (case side2=>exact HC0_1.out); rintro e w27z ⟨v28z,rfl,ho29z,hb⟩; refine ⟨_,rfl,?_⟩; have HO30z:=am (Kd.R_lower ho29z (below_size pB)); replace BK2z:=bb BK2z hb; replace BK7z:=bb BK7z hb; replace HB:=bS hb; obtain ⟨Ao31z,co32z,eo33z⟩:=Kd.R_slice HO30z.out; subst eo33z) | (refine gL (some 10) Tryz.func78 #[.agg #[.bool t1632,.slice Ao31z t1633.length co32z,.int .i64 t1636]] (h:=?_); (with_reducible refine (bolterref02_opposite.calls t1632 (fun k_=>some k_ = (.slice Ao31z t1633.length co32z : Value).ownBlock) (.slice Ao31z t1633.length co32z) t1633 t1636 t1637 t1638 t1641 w _ ?side1 ?side2 A5.out).mono ?_); (case side1=>exact pB); (case side2=>exact Kd.R_tight rfl HO30z.out); rintro e w34z ⟨v35z,rfl,ho29z,hb,hkp⟩; refine ⟨_,rfl,?_⟩; have HO36z:=am (Kd.R_mono (ok':=fun k_=>True) ho29z (fun k_ hk_=>trivial)); replace BK2z:=am (blk_kept (blk_below BK2z.out pl) hkp (fun e_=>Kd.R_ne HO30z.out BK2z.out (by decide) e_)); replace BK7z:=am (blk_kept (blk_below BK7z.out pl) hkp (fun e_=>Kd.R_ne HO30z.out BK7z.out (by decide) e_)); replace HB:=am hb; clear HO30z; obtain ⟨Ao37z,co38z,eo39z⟩:=Kd.R_slice HO36z.out; subst eo39z) | (refine gL (some 11) Tryz.func23 #[.agg #[.bool t1637,.slice Ao37z t1638.length co38z,.int .i64 t1641]] (h:=?_); (with_reducible refine (bolterref02_Made.calls k t1637 (fun k_=>some k_ = (.slice Ao37z t1638.length co38z : Value).ownBlock) (.slice Ao37z t1638.length co38z) t1638 t1641 t1642 t1643 t1646 t1647 w _ ?side1 ?side2 A6.out).mono ?_); (case side1=>exact pB); (case side2=>exact Kd.R_tight rfl HO36z.out); rintro e w40z ⟨v41z,rfl,ho29z,hb,hkp⟩; refine ⟨_,rfl,?_⟩; have HO42z:=am (Kd.R_mono (ok':=fun k_=>True) ho29z (fun k_ hk_=>trivial)); replace BK2z:=am (blk_kept (blk_below BK2z.out pl) hkp (fun e_=>Kd.R_ne HO36z.out BK2z.out (by decide) e_)); replace BK7z:=am (blk_kept (blk_below BK7z.out pl) hkp (fun e_=>Kd.R_ne HO36z.out BK7z.out (by decide) e_)); replace HB:=am hb; clear HO36z; obtain ⟨hcz43z,hcz44z,hcz45z,hfz46z,hfz47z,hfz48z⟩:=cEc BK7z.out; obtain ⟨Ao49z,co50z,eo51z⟩:=Kd.R_slice HO42z.out; subst eo51z) | ((have q_ : (t1631 != 0) = true:=c3b1; clear q_); refine gL (some 5) Tryz.func33 #[.agg #[.bool a0_0,.slice A0_1 l0_1.length c0_1,.int .i64 a0_2]] (h:=?_); (with_reducible refine (bolterref02_Check.calls k a0_0 _ _ l0_1 a0_2 t1631 _ ?side1 ?side2 A2.out).mono ?_); (case side1=>refine cp ?_; exact (Kd.C_below HR0_1.out HB.out)); (case side2=>exact HC0_1.out); rintro e w20z ⟨rfl,hb⟩; refine ⟨_,rfl,?_⟩; replace BK2z:=bb BK2z hb; replace BK7z:=bb BK7z hb; replace HB:=bS hb; obtain ⟨hcz21z,hcz22z,hcz23z,hfz24z,hfz25z,hfz26z⟩:=cEc BK7z.out))
 first
  | have q_:=A6
    refine bodyPost_ret (results_ct rfl _ _ gb5z 24 #[.bool t1642,.slice Ao49z t1643.length co50z,.int .i64 t1646] (0,0) _ rfl (by exact p3 BK7z) Tryz.underlying24 rfl (by kernel_rfl)) rfl ?_
    exact ⟨_,pE,by refine rp ?_; exact Kd.R_mono (Kd.R_far (p:=⟨gb5z,2,none⟩) (Kd.R_far (p:=⟨gb5z,1,none⟩) (Kd.R_far (p:=⟨gb5z,0,none⟩) (Kd.R_types HO42z.out BK7z.out (by decide)) (fun _ hk=>hk.2) (.bool t1642)) (fun _ hk=>hk.2) (.slice Ao49z t1643.length co50z)) (fun _ hk=>hk.2) (.int .i64 t1646)) (fun _ hk=>trivial),pB⟩
  | refine bodyPost_ret (results_ct rfl _ _ gb5z 24 #[.bool false,.slice none 0 0,.int .i64 0] (0,0) _ rfl (by exact p3 BK7z) Tryz.underlying24 rfl (by kernel_rfl)) rfl ?_
    exact ⟨_,pE,pN,pB⟩) : P:=h
theorem bolterref02_Neg.calls (k : Nat) (a0_0 : Bool) (A0_1 : Option Addr) (c0_1 : Nat) (l0_1 : List Int) (a0_2 : Int) (r1 : Bool) (r2 : List Int) (r3 : Int) (r4 : Int) (w : World) (hr0_1 : Kd.C (Kd.int .u32) w A0_1 l0_1.length l0_1) (hc0_1 : l0_1.length<=c0_1) (h : bolterref02_Neg.f k a0_0 l0_1 a0_2 = some (r1,r2,r3,r4)) :
  Calls Tryz.prog 46 #[.agg #[.bool a0_0,.slice A0_1 l0_1.length c0_1,.int .i64 a0_2]] w fun e w' => ∃ v1_ : Value,e = .returned (.tuple #[.agg #[.bool r1,v1_,.int .i64 r3],.int .i64 r4])/\Kd.R (Kd.int .u32) 85 w' w.heap.size (fun _=>True) v1_ r2/\Below w.heap.size w w':=by
 have hu24:=Tryz.underlying24
 have HR0_1:=am hr0_1
 have HC0_1:=am hc0_1
 clear hr0_1 hc0_1
 have HB:=am (Below.refl w.heap.size w)
 have H : ((bolterref02_Check.f k a0_0 l0_1 a0_2).bind fun t1631=>(if t1631 = 0 then ((bolterref02_Of.f k a0_0 l0_1 a0_2).bind fun bt1632=>((bolterref02_opposite.f bt1632.1 bt1632.2.1 bt1632.2.2).bind fun bt1637=>((bolterref02_Made.f k bt1637.1 bt1637.2.1 bt1637.2.2).bind fun bt1642=>(some (bt1642.1,bt1642.2.1,bt1642.2.2.1,bt1642.2.2.2))))) else (some (false,([] : List Int),0,9)))) = some (r1,r2,r3,r4):=h
 clear h
 obtain ⟨t1631,A2,H⟩:=ob H
 by_cases c3 : t1631 = 0
 ·rw [if_pos c3] at H
  have c3b0 : (t1631 == 0) = true:=beq_iff_eq.mpr c3
  have c3b1 : (t1631 != 0) = false:=bne_eq_false_iff_eq.mpr c3
  clear c3
  obtain ⟨⟨t1632,t1633,t1636⟩,A4,H⟩:=ob H; (try dsimp only at H)
  obtain ⟨⟨t1637,t1638,t1641⟩,A5,H⟩:=ob H; (try dsimp only at H)
  obtain ⟨⟨t1642,t1643,t1646,t1647⟩,A6,H⟩:=ob H; (try dsimp only at H)
  simp only [Option.some.injEq,Prod.mk.injEq] at H
  obtain ⟨rfl,rfl,rfl,rfl⟩:=H
  exact bolterref02_Neg.leaf
 ·rw [if_neg c3] at H
  have c3b0 : (t1631 == 0) = false:=beq_eq_false_iff_ne.mpr c3
  have c3b1 : (t1631 != 0) = true:=bne_iff_ne.mpr c3
  simp only [Option.some.injEq,Prod.mk.injEq] at H
  obtain ⟨rfl,rfl,rfl,rfl⟩:=H
  exact bolterref02_Neg.leaf
def bolterref02_checks.f (k : Nat) (a0_0 : Bool) (l0_1 : List Int) (a0_2 : Int) (a1_0 : Bool) (l1_1 : List Int) (a1_2 : Int) : Option (Int):=(bolterref02_Check.f k a0_0 l0_1 a0_2).bind fun t658=>(if t658 = 0 then ((bolterref02_Check.f k a1_0 l1_1 a1_2).bind fun t659=>(if t659 = 0 then (some 0) else (some 9))) else (some 9))
theorem bolterref02_checks.calls (k : Nat) (a0_0 : Bool) (A0_1 : Option Addr) (c0_1 : Nat) (l0_1 : List Int) (a0_2 : Int) (a1_0 : Bool) (A1_1 : Option Addr) (c1_1 : Nat) (l1_1 : List Int) (a1_2 : Int) (r : Int) (w : World) (hr0_1 : Kd.C (Kd.int .u32) w A0_1 l0_1.length l0_1) (hc0_1 : l0_1.length<=c0_1) (hr1_1 : Kd.C (Kd.int .u32) w A1_1 l1_1.length l1_1) (hc1_1 : l1_1.length<=c1_1) (h : bolterref02_checks.f k a0_0 l0_1 a0_2 a1_0 l1_1 a1_2 = some r) :
  Calls Tryz.prog 64 #[.agg #[.bool a0_0,.slice A0_1 l0_1.length c0_1,.int .i64 a0_2],.agg #[.bool a1_0,.slice A1_1 l1_1.length c1_1,.int .i64 a1_2]] w fun e w'=>e = .returned (.int .i64 r)/\Below w.heap.size w w':=by
 have hu24:=Tryz.underlying24
 have HR0_1:=am hr0_1
 have HC0_1:=am hc0_1
 clear hr0_1 hc0_1
 have HR1_1:=am hr1_1
 have HC1_1:=am hc1_1
 clear hr1_1 hc1_1
 have HB:=am (Below.refl w.heap.size w)
 have H : ((bolterref02_Check.f k a0_0 l0_1 a0_2).bind fun t658=>(if t658 = 0 then ((bolterref02_Check.f k a1_0 l1_1 a1_2).bind fun t659=>(if t659 = 0 then (some 0) else (some 9))) else (some 9))) = some r:=h
 clear h
 obtain ⟨t658,A3,H⟩:=ob H
 by_cases c4 : t658 = 0
 ·rw [if_pos c4] at H
  have c4b0 : (t658 == 0) = true:=beq_iff_eq.mpr c4
  have c4b1 : (t658 != 0) = false:=bne_eq_false_iff_eq.mpr c4
  clear c4
  obtain ⟨t659,A5,H⟩:=ob H
  by_cases c6 : t659 = 0
  ·rw [if_pos c6] at H
   have c6b0 : (t659 == 0) = true:=beq_iff_eq.mpr c6
   have c6b1 : (t659 != 0) = false:=bne_eq_false_iff_eq.mpr c6
   clear c6
   obtain rfl:=Option.some.inj H
   go_enter Tryz.func64,Tryz.ntmps64
   go_wp2_with (first | ((with_reducible refine gd 2 ?_); refine bx 2 #[.bool a0_0,.slice A0_1 l0_1.length c0_1,.int .i64 a0_2] 24 (h:=?_); intro gb656 hg w7 hbox hb; have BK656:=am hbox; have GW656:=gW hg; have GE656:=gW hg; replace HB:=bS hb; clear hb hbox hg) | ((with_reducible refine gd 3 ?_); refine bx 3 #[.bool a1_0,.slice A1_1 l1_1.length c1_1,.int .i64 a1_2] 24 (h:=?_); intro gb657 hg w8 hbox hb; have BK657:=am hbox; have GW657:=gW hg; have GE657:=gW hg; have NB656_657:=nL hg BK656; have NB657_656:=nG hg BK656; replace BK656:=bb BK656 hb; replace HB:=bS hb; clear hb hbox hg; have hnb9:=NB656_657.out; have hnc9:=NB657_656.out; obtain ⟨hcz10_0,hcz10_1,hcz10_2,hfz10_0,hfz10_1,hfz10_2⟩:=cEc BK656.out) | (refine gL (some 6) Tryz.func33 #[.agg #[.bool a0_0,.slice A0_1 l0_1.length c0_1,.int .i64 a0_2]] (h:=?_); (with_reducible refine (bolterref02_Check.calls k a0_0 _ _ l0_1 a0_2 t658 _ ?side1 ?side2 A3.out).mono ?_); (case side1=>refine cp ?_; exact (Kd.C_below HR0_1.out HB.out)); (case side2=>exact HC0_1.out); rintro e w11 ⟨rfl,hb⟩; refine ⟨_,rfl,?_⟩; replace BK656:=bb BK656 hb; replace BK657:=bb BK657 hb; replace HB:=bS hb; obtain ⟨hcz12_0,hcz12_1,hcz12_2,hfz12_0,hfz12_1,hfz12_2⟩:=cEc BK657.out) | (go_at_call 33; (with_reducible refine (bolterref02_Check.calls k a1_0 _ _ l1_1 a1_2 t659 _ ?side1 ?side2 A5.out).mono ?_); (case side1=>refine cp ?_; exact (Kd.C_below HR1_1.out HB.out)); (case side2=>exact HC1_1.out); rintro e w13 ⟨rfl,hb⟩; replace BK656:=bb BK656 hb; replace BK657:=bb BK657 hb; replace HB:=bS hb))
   go_ret
   exact ⟨pE,pB⟩
  ·rw [if_neg c6] at H
   have c6b0 : (t659 == 0) = false:=beq_eq_false_iff_ne.mpr c6
   have c6b1 : (t659 != 0) = true:=bne_iff_ne.mpr c6
   obtain rfl:=Option.some.inj H
   go_enter Tryz.func64,Tryz.ntmps64
   go_wp2_with (first | ((with_reducible refine gd 2 ?_); refine bx 2 #[.bool a0_0,.slice A0_1 l0_1.length c0_1,.int .i64 a0_2] 24 (h:=?_); intro gb656 hg w14 hbox hb; have BK656:=am hbox; have GW656:=gW hg; have GE656:=gW hg; replace HB:=bS hb; clear hb hbox hg) | ((with_reducible refine gd 3 ?_); refine bx 3 #[.bool a1_0,.slice A1_1 l1_1.length c1_1,.int .i64 a1_2] 24 (h:=?_); intro gb657 hg w15 hbox hb; have BK657:=am hbox; have GW657:=gW hg; have GE657:=gW hg; have NB656_657:=nL hg BK656; have NB657_656:=nG hg BK656; replace BK656:=bb BK656 hb; replace HB:=bS hb; clear hb hbox hg; have hnb16:=NB656_657.out; have hnc16:=NB657_656.out; obtain ⟨hcz17_0,hcz17_1,hcz17_2,hfz17_0,hfz17_1,hfz17_2⟩:=cEc BK656.out) | (refine gL (some 6) Tryz.func33 #[.agg #[.bool a0_0,.slice A0_1 l0_1.length c0_1,.int .i64 a0_2]] (h:=?_); (with_reducible refine (bolterref02_Check.calls k a0_0 _ _ l0_1 a0_2 t658 _ ?side1 ?side2 A3.out).mono ?_); (case side1=>refine cp ?_; exact (Kd.C_below HR0_1.out HB.out)); (case side2=>exact HC0_1.out); rintro e w18 ⟨rfl,hb⟩; refine ⟨_,rfl,?_⟩; replace BK656:=bb BK656 hb; replace BK657:=bb BK657 hb; replace HB:=bS hb; obtain ⟨hcz19_0,hcz19_1,hcz19_2,hfz19_0,hfz19_1,hfz19_2⟩:=cEc BK657.out) | (go_at_call 33; (with_reducible refine (bolterref02_Check.calls k a1_0 _ _ l1_1 a1_2 t659 _ ?side1 ?side2 A5.out).mono ?_); (case side1=>refine cp ?_; exact (Kd.C_below HR1_1.out HB.out)); (case side2=>exact HC1_1.out); rintro e w20 ⟨rfl,hb⟩; replace BK656:=bb BK656 hb; replace BK657:=bb BK657 hb; replace HB:=bS hb))
   go_ret
   exact ⟨pE,pB⟩
 ·rw [if_neg c4] at H
  have c4b0 : (t658 == 0) = false:=beq_eq_false_iff_ne.mpr c4
  have c4b1 : (t658 != 0) = true:=bne_iff_ne.mpr c4
  obtain rfl:=Option.some.inj H
  go_enter Tryz.func64,Tryz.ntmps64
  go_wp2_with (first | ((with_reducible refine gd 2 ?_); refine bx 2 #[.bool a0_0,.slice A0_1 l0_1.length c0_1,.int .i64 a0_2] 24 (h:=?_); intro gb656 hg w21 hbox hb; have BK656:=am hbox; have GW656:=gW hg; have GE656:=gW hg; replace HB:=bS hb; clear hb hbox hg) | ((with_reducible refine gd 3 ?_); refine bx 3 #[.bool a1_0,.slice A1_1 l1_1.length c1_1,.int .i64 a1_2] 24 (h:=?_); intro gb657 hg w22 hbox hb; have BK657:=am hbox; have GW657:=gW hg; have GE657:=gW hg; have NB656_657:=nL hg BK656; have NB657_656:=nG hg BK656; replace BK656:=bb BK656 hb; replace HB:=bS hb; clear hb hbox hg; have hnb23:=NB656_657.out; have hnc23:=NB657_656.out; obtain ⟨hcz24_0,hcz24_1,hcz24_2,hfz24_0,hfz24_1,hfz24_2⟩:=cEc BK656.out) | (refine gL (some 6) Tryz.func33 #[.agg #[.bool a0_0,.slice A0_1 l0_1.length c0_1,.int .i64 a0_2]] (h:=?_); (with_reducible refine (bolterref02_Check.calls k a0_0 _ _ l0_1 a0_2 t658 _ ?side1 ?side2 A3.out).mono ?_); (case side1=>refine cp ?_; exact (Kd.C_below HR0_1.out HB.out)); (case side2=>exact HC0_1.out); rintro e w25 ⟨rfl,hb⟩; refine ⟨_,rfl,?_⟩; replace BK656:=bb BK656 hb; replace BK657:=bb BK657 hb; replace HB:=bS hb))
  go_ret
  exact ⟨pE,pB⟩
def bolterref02_Align.f (a0_0 : Bool) (l0_1 : List Int) (a0_2 : Int) (a1_0 : Bool) (l1_1 : List Int) (a1_2 : Int) : Option (Bool × List Int × Int × Bool × List Int × Int):=(bolterref01_Shift.f l0_1 (wrap64 (a0_2 - (mn a0_2 a1_2)))).bind fun t755=>((bolterref01_Shift.f l1_1 (wrap64 (a1_2 - (mn a0_2 a1_2)))).bind fun t758=>(some (a0_0,t755,mn a0_2 a1_2,a1_0,t758,mn a0_2 a1_2)))
theorem bolterref02_Align.calls (a0_0 : Bool) (A0_1 : Option Addr) (c0_1 : Nat) (l0_1 : List Int) (a0_2 : Int) (a1_0 : Bool) (A1_1 : Option Addr) (c1_1 : Nat) (l1_1 : List Int) (a1_2 : Int) (r1 : Bool) (r2 : List Int) (r3 : Int) (r4 : Bool) (r5 : List Int) (r6 : Int) (w : World) (hr0_1 : Kd.C (Kd.int .i64) w A0_1 l0_1.length l0_1) (hc0_1 : l0_1.length<=c0_1) (hr1_1 : Kd.C (Kd.int .i64) w A1_1 l1_1.length l1_1) (hc1_1 : l1_1.length<=c1_1) (h : bolterref02_Align.f a0_0 l0_1 a0_2 a1_0 l1_1 a1_2 = some (r1,r2,r3,r4,r5,r6)) :
  Calls Tryz.prog 133 #[.agg #[.bool a0_0,.slice A0_1 l0_1.length c0_1,.int .i64 a0_2],.agg #[.bool a1_0,.slice A1_1 l1_1.length c1_1,.int .i64 a1_2]] w fun e w' => ∃ v1_ v4_ : Value,e = .returned (.tuple #[.agg #[.bool r1,v1_,.int .i64 r3],.agg #[.bool r4,v4_,.int .i64 r6]])/\Kd.R (Kd.int .i64) 3 w' w.heap.size (fun k_=>some k_ ≠ (v4_ : Value).ownBlock) v1_ r2/\Kd.R (Kd.int .i64) 3 w' w.heap.size (fun k_=>some k_ ≠ (v1_ : Value).ownBlock) v4_ r5/\Below w.heap.size w w':=by
 have hu30:=Tryz.underlying30
 have HR0_1:=am hr0_1
 have HC0_1:=am hc0_1
 clear hr0_1 hc0_1
 have HR1_1:=am hr1_1
 have HC1_1:=am hc1_1
 clear hr1_1 hc1_1
 have HB:=am (Below.refl w.heap.size w)
 have H : ((bolterref01_Shift.f l0_1 (wrap64 (a0_2 - (mn a0_2 a1_2)))).bind fun t755=>((bolterref01_Shift.f l1_1 (wrap64 (a1_2 - (mn a0_2 a1_2)))).bind fun t758=>(some (a0_0,t755,mn a0_2 a1_2,a1_0,t758,mn a0_2 a1_2)))) = some (r1,r2,r3,r4,r5,r6):=h
 clear h
 obtain ⟨ji3,hji3⟩ : ∃ j_ : Int,(mn a0_2 a1_2) = j_:=⟨_,rfl⟩
 replace H : ((bolterref01_Shift.f l0_1 (wrap64 (a0_2 - (ji3)))).bind fun t755=>((bolterref01_Shift.f l1_1 (wrap64 (a1_2 - (ji3)))).bind fun t758=>(some (a0_0,t755,ji3,a1_0,t758,ji3)))) = some (r1,r2,r3,r4,r5,r6):=by first | (rw [hji3] at H; exact H) | (simp only [hji3] at H ⊢; exact H)
 have hji3_ : (if a1_2 < a0_2 then a1_2 else a0_2) = ji3:=hji3
 obtain ⟨t755,A4,H⟩:=ob H
 obtain ⟨t758,A5,H⟩:=ob H
 simp only [Option.some.injEq,Prod.mk.injEq] at H
 obtain ⟨rfl,rfl,rfl,rfl,rfl,rfl⟩:=H
 go_enter Tryz.func133,Tryz.ntmps133
 try go_wp2_with (first | ((with_reducible refine gd 2 ?_); refine bx 2 #[.bool a0_0,.slice A0_1 l0_1.length c0_1,.int .i64 a0_2] 30 (h:=?_); intro gb751 hg w6 hbox hb; have BK751:=am hbox; have GW751:=gW hg; have GE751:=gW hg; replace HB:=bS hb; clear hb hbox hg) | ((with_reducible refine gd 3 ?_); refine bx 3 #[.bool a1_0,.slice A1_1 l1_1.length c1_1,.int .i64 a1_2] 30 (h:=?_); intro gb752 hg w7 hbox hb; have BK752:=am hbox; have GW752:=gW hg; have GE752:=gW hg; have NB751_752:=nL hg BK751; have NB752_751:=nG hg BK751; replace BK751:=bb BK751 hb; replace HB:=bS hb; clear hb hbox hg) | ((with_reducible refine gd 4 ?_); refine bx 4 #[.bool false,.slice none 0 0,.int .i64 0] 30 (h:=?_); intro gb753 hg w8 hbox hb; have BK753:=am hbox; have GW753:=gW hg; have GE753:=gW hg; have NB751_753:=nL hg BK751; have NB753_751:=nG hg BK751; have NB752_753:=nL hg BK752; have NB753_752:=nG hg BK752; replace BK751:=bb BK751 hb; replace BK752:=bb BK752 hb; replace HB:=bS hb; clear hb hbox hg) | ((with_reducible refine gd 5 ?_); refine bx 5 #[.bool false,.slice none 0 0,.int .i64 0] 30 (h:=?_); intro gb754 hg w9 hbox hb; have BK754:=am hbox; have GW754:=gW hg; have GE754:=gW hg; have NB751_754:=nL hg BK751; have NB754_751:=nG hg BK751; have NB752_754:=nL hg BK752; have NB754_752:=nG hg BK752; have NB753_754:=nL hg BK753; have NB754_753:=nG hg BK753; replace BK751:=bb BK751 hb; replace BK752:=bb BK752 hb; replace BK753:=bb BK753 hb; replace HB:=bS hb; clear hb hbox hg; have hnb10:=NB751_752.out; have hnc10:=NB752_751.out; have hnb11:=NB751_753.out; have hnc11:=NB753_751.out; have hnb12:=NB751_754.out; have hnc12:=NB754_751.out; obtain ⟨hcz13_0,hcz13_1,hcz13_2,hfz13_0,hfz13_1,hfz13_2⟩:=cEc BK751.out; have hnb14:=NB752_753.out; have hnc14:=NB753_752.out; have hnb15:=NB752_754.out; have hnc15:=NB754_752.out; obtain ⟨hcz16_0,hcz16_1,hcz16_2,hfz16_0,hfz16_1,hfz16_2⟩:=cEc BK752.out) | ((with_reducible refine gate_callee (f:=93) rfl ?_); refine goesL_ (some 18) rfl rfl Tryz.func93 (by kernel_rfl) rfl #[.slice A0_1 l0_1.length c0_1,.int .i64 (wrap64 (a0_2 - (ji3)))] rfl (by (try simp only [List.map_toArray,List.map_cons,List.map_nil]); first | done | (simp only [hji3]; rfl) | rfl | (simp only [List.length_drop,List.length_take]; rfl)) ?_; (with_reducible refine (bolterref01_Shift.calls _ _ l0_1 (wrap64 (a0_2 - (ji3))) t755 _ ?side1 ?side2 A4.out).mono ?_); (case side1=>refine cp ?_; exact (Kd.C_below HR0_1.out HB.out)); (case side2=>exact HC0_1.out); rintro e w17 ⟨v756,rfl,ho0,hb⟩; refine ⟨_,rfl,?_⟩; have HO757:=am (Kd.R_lower ho0 (below_size pB)); replace BK751:=bb BK751 hb; replace BK752:=bb BK752 hb; replace BK753:=bb BK753 hb; replace BK754:=bb BK754 hb; replace HB:=bS hb; obtain ⟨Ao18,co18,eo18⟩:=Kd.R_slice HO757.out; subst eo18; obtain ⟨hcz19_0,hcz19_1,hcz19_2,hfz19_0,hfz19_1,hfz19_2⟩:=cEc BK751.out; obtain ⟨hcz20_0,hcz20_1,hcz20_2,hfz20_0,hfz20_1,hfz20_2⟩:=cEc BK752.out) | ((with_reducible refine gate_callee (f:=93) rfl ?_); refine goesL_ (some 28) rfl rfl Tryz.func93 (by kernel_rfl) rfl #[.slice A1_1 l1_1.length c1_1,.int .i64 (wrap64 (a1_2 - (ji3)))] rfl (by (try simp only [List.map_toArray,List.map_cons,List.map_nil]); first | done | (simp only [hji3]; rfl) | rfl | (simp only [List.length_drop,List.length_take]; rfl)) ?_; (with_reducible refine (bolterref01_Shift.calls _ _ l1_1 (wrap64 (a1_2 - (ji3))) t758 _ ?side1 ?side2 A5.out).mono ?_); (case side1=>exact Kd.C_below HR1_1.out pB); (case side2=>exact HC1_1.out); rintro e w21 ⟨v759,rfl,ho0,hb⟩; refine ⟨_,rfl,?_⟩; have HO760:=am (Kd.R_lower (Kd.R_new' ho0 (Kd.R_lt (Kd.R_below (Kd.R_mono (Kd.R_far (p:=⟨gb751,2,none⟩) (Kd.R_far (p:=⟨gb751,1,none⟩) (Kd.R_types HO757.out BK751.out (by decide)) (fun _ hk=>hk.2) (.slice Ao18 t755.length co18)) (fun _ hk=>hk.2) (.int .i64 ji3)) (fun _ h_=>h_.1)) pl))) (below_size pB)); replace HO757:=am (Kd.R_elder' (Kd.R_below (Kd.R_mono (Kd.R_far (p:=⟨gb751,2,none⟩) (Kd.R_far (p:=⟨gb751,1,none⟩) (Kd.R_types HO757.out BK751.out (by decide)) (fun _ hk=>hk.2) (.slice Ao18 t755.length co18)) (fun _ hk=>hk.2) (.int .i64 ji3)) (fun _ h_=>h_.1)) pl) (Kd.R_base ho0) hb); replace BK751:=am (blk_below (g:=gb751) (o:=.cells #[.bool a0_0,.slice Ao18 t755.length co18,.int .i64 ji3] 30 (0,0)) (by refine bp ?_; refine blk_put (cs:=#[.bool a0_0,.slice Ao18 t755.length co18,.int .i64 a0_2]) ?_ 2 _ rfl; refine bp ?_; refine blk_put (cs:=#[.bool a0_0,.slice A0_1 l0_1.length c0_1,.int .i64 a0_2]) ?_ 1 _ rfl; exact bp BK751.out) hb); replace BK752:=bfb NB752_751 BK752 hb; replace BK753:=bfb NB753_751 BK753 hb; replace BK754:=bfb NB754_751 BK754 hb; replace HB:=bS hb; obtain ⟨Ao22,co22,eo22⟩:=Kd.R_slice HO760.out; subst eo22; obtain ⟨hcz23_0,hcz23_1,hcz23_2,hfz23_0,hfz23_1,hfz23_2⟩:=cEc BK752.out))
 have n0_ : Aside0 (Kd.R (Kd.int .i64) 3 ((w21.setCell ⟨gb752,1,none⟩ (.slice Ao22 t758.length co22)).setCell ⟨gb752,2,none⟩ (.int .i64 ji3)) w.heap.size (fun k_=>some k_ ≠ (.slice Ao22 t758.length co22 : Value).ownBlock) (.slice Ao18 t755.length co18) t755):=⟨by refine rp ?_; exact Kd.R_mono (Kd.R_far (p:=⟨gb752,2,none⟩) (Kd.R_far (p:=⟨gb752,1,none⟩) (Kd.R_types HO757.out BK752.out (by decide)) (fun _ hk=>hk.2) (.slice Ao22 t758.length co22)) (fun _ hk=>hk.2) (.int .i64 ji3)) (fun _ hk=>hk.1.2)⟩
 have n1_ : Aside0 (Kd.R (Kd.int .i64) 3 ((w21.setCell ⟨gb752,1,none⟩ (.slice Ao22 t758.length co22)).setCell ⟨gb752,2,none⟩ (.int .i64 ji3)) w.heap.size (fun k_=>some k_ ≠ (.slice Ao18 t755.length co18 : Value).ownBlock) (.slice Ao22 t758.length co22) t758):=⟨by refine rp ?_; exact Kd.R_mono (Kd.R_far (p:=⟨gb752,2,none⟩) (Kd.R_far (p:=⟨gb752,1,none⟩) (Kd.R_types HO760.out BK752.out (by decide)) (fun _ hk=>hk.2) (.slice Ao22 t758.length co22)) (fun _ hk=>hk.2) (.int .i64 ji3)) (fun _ hk=>hk.1.2)⟩
 have n2_ : Aside0 (((w21.setCell ⟨gb752,1,none⟩ (.slice Ao22 t758.length co22)).setCell ⟨gb752,2,none⟩ (.int .i64 ji3)).heap[gb751]? = some (.cells #[.bool a0_0,.slice Ao18 t755.length co18,.int .i64 ji3] 30 (0,0))):=⟨bf NB751_752.out BK751.out⟩
 have n3_ : Aside0 (((w21.setCell ⟨gb752,1,none⟩ (.slice Ao22 t758.length co22)).setCell ⟨gb752,2,none⟩ (.int .i64 ji3)).heap[gb752]? = some (.cells #[.bool a1_0,.slice Ao22 t758.length co22,.int .i64 ji3] 30 (0,0))):=⟨by refine bp ?_; refine blk_put (cs:=#[.bool a1_0,.slice Ao22 t758.length co22,.int .i64 a1_2]) ?_ 2 _ rfl; refine bp ?_; refine blk_put (cs:=#[.bool a1_0,.slice A1_1 l1_1.length c1_1,.int .i64 a1_2]) ?_ 1 _ rfl; exact bp BK752.out⟩
 have n4_ : Aside0 (((w21.setCell ⟨gb752,1,none⟩ (.slice Ao22 t758.length co22)).setCell ⟨gb752,2,none⟩ (.int .i64 ji3)).heap[gb753]? = some (.cells #[.bool false,.slice none 0 0,.int .i64 0] 30 (0,0))):=⟨bf NB753_752.out BK753.out⟩
 have n5_ : Aside0 (((w21.setCell ⟨gb752,1,none⟩ (.slice Ao22 t758.length co22)).setCell ⟨gb752,2,none⟩ (.int .i64 ji3)).heap[gb754]? = some (.cells #[.bool false,.slice none 0 0,.int .i64 0] 30 (0,0))):=⟨bf NB754_752.out BK754.out⟩
 have n6_ : Aside0 (Below w.heap.size w ((w21.setCell ⟨gb752,1,none⟩ (.slice Ao22 t758.length co22)).setCell ⟨gb752,2,none⟩ (.int .i64 ji3))):=⟨pB⟩
 generalize ((w21.setCell ⟨gb752,1,none⟩ (.slice Ao22 t758.length co22)).setCell ⟨gb752,2,none⟩ (.int .i64 ji3)) = w24 at n0_ n1_ n2_ n3_ n4_ n5_ n6_ ⊢
 have HO757:=n0_
 have HO760:=n1_
 have BK751:=n2_
 have BK752:=n3_
 have BK753:=n4_
 have BK754:=n5_
 have HB:=n6_
 clear n0_ n1_ n2_ n3_ n4_ n5_ n6_
 replace HO757:=am (Kd.R_drew HO757.out)
 replace HO760:=am (Kd.R_drew HO760.out)
 replace BK751:=am (blk_drew BK751.out)
 replace BK752:=am (blk_drew BK752.out)
 replace BK753:=am (blk_drew BK753.out)
 replace BK754:=am (blk_drew BK754.out)
 replace HB:=am (below_drew1 HB.out)
 refine start_ (n:=4) (S:=fun w'=>w'.cell? ⟨gb751,0,none⟩ = some (.bool a0_0)/\w'.cell? ⟨gb751,1,none⟩ = some (.slice Ao18 t755.length co18)/\w'.cell? ⟨gb751,2,none⟩ = some (.int .i64 ji3)/\w'.cell? ⟨gb752,0,none⟩ = some (.bool a1_0)/\w'.cell? ⟨gb752,1,none⟩ = some (.slice Ao22 t758.length co22)/\w'.cell? ⟨gb752,2,none⟩ = some (.int .i64 ji3)) (ds:=[]) #[false,false,false,false] (by kernel_rfl) rfl rfl ⟨k0 BK751 0,k0 BK751 1,k0 BK751 2,k0 BK752 0,k0 BK752 1,k0 BK752 2⟩ (fun hHeld=>?_)
 generalize w24.drew = w25 at HO757 HO760 BK751 BK752 BK753 BK754 HB hHeld ⊢
 refine take_ (i:=0) (N:=some 32) (v:=?_) (a':=?_) #[true,false,false,false] rfl rfl (by kernel_rfl) (fun _ _ _ h=>h) (Or.inl ⟨by rfl,?_⟩) hHeld ?_ ?_
 rotate_left
 ·rintro w' ⟨s0,s1,s2,s3,s4,s5⟩
  go_simp
  with_reducible rfl
 rotate_left
 ·exact pP
 refine take_ (i:=1) (N:=some 33) (v:=?_) (a':=?_) #[true,true,false,false] rfl rfl (by kernel_rfl) (fun _ _ _ h=>h) (Or.inl ⟨by rfl,?_⟩) hHeld ?_ ?_
 rotate_left
 ·rintro w' ⟨s0,s1,s2,s3,s4,s5⟩
  go_simp
  with_reducible rfl
 rotate_left
 ·exact pP
 refine one_ (i:=2) (N:=none) #[true,true,true,false] rfl rfl (by kernel_rfl) (by decide) (fun K hK=>?_)
 have hs26 : w25.cell? ⟨gb753,0,none⟩ = some (.bool false):=k0 BK753 0
 have hfs26:=blk_frozen BK753.out 0
 have hns26_0:=NB751_753.out
 have hns26_1:=NB752_753.out
 have hns26_3:=NB754_753.out
 have hms26_0:=NB753_751.out
 have hms26_1:=NB753_752.out
 have hms26_3:=NB753_754.out
 have hs27 : w25.cell? ⟨gb753,1,none⟩ = some (.slice none 0 0):=k0 BK753 1
 have hfs27:=blk_frozen BK753.out 1
 have hns27_0:=NB751_753.out
 have hns27_1:=NB752_753.out
 have hns27_3:=NB754_753.out
 have hms27_0:=NB753_751.out
 have hms27_1:=NB753_752.out
 have hms27_3:=NB753_754.out
 have hs28 : w25.cell? ⟨gb753,2,none⟩ = some (.int .i64 0):=k0 BK753 2
 have hfs28:=blk_frozen BK753.out 2
 have hns28_0:=NB751_753.out
 have hns28_1:=NB752_753.out
 have hns28_3:=NB754_753.out
 have hms28_0:=NB753_751.out
 have hms28_1:=NB753_752.out
 have hms28_3:=NB753_754.out
 refine skip_ (w1:=?_) (by rfl) rfl ?_ ?_
 rotate_left
 ·go_simp
  rfl
 refine hK.out _ _ ⟨((cell_far (p:=⟨gb753,_,none⟩) NB751_753.out _).trans (((cell_far (p:=⟨gb753,_,none⟩) NB751_753.out _).trans (((cell_far (p:=⟨gb753,_,none⟩) NB751_753.out _).trans (hHeld.1)))))),((cell_far (p:=⟨gb753,_,none⟩) NB751_753.out _).trans (((cell_far (p:=⟨gb753,_,none⟩) NB751_753.out _).trans (((cell_far (p:=⟨gb753,_,none⟩) NB751_753.out _).trans (hHeld.2.1)))))),((cell_far (p:=⟨gb753,_,none⟩) NB751_753.out _).trans (((cell_far (p:=⟨gb753,_,none⟩) NB751_753.out _).trans (((cell_far (p:=⟨gb753,_,none⟩) NB751_753.out _).trans (hHeld.2.2.1)))))),((cell_far (p:=⟨gb753,_,none⟩) NB752_753.out _).trans (((cell_far (p:=⟨gb753,_,none⟩) NB752_753.out _).trans (((cell_far (p:=⟨gb753,_,none⟩) NB752_753.out _).trans (hHeld.2.2.2.1)))))),((cell_far (p:=⟨gb753,_,none⟩) NB752_753.out _).trans (((cell_far (p:=⟨gb753,_,none⟩) NB752_753.out _).trans (((cell_far (p:=⟨gb753,_,none⟩) NB752_753.out _).trans (hHeld.2.2.2.2.1)))))),((cell_far (p:=⟨gb753,_,none⟩) NB752_753.out _).trans (((cell_far (p:=⟨gb753,_,none⟩) NB752_753.out _).trans (((cell_far (p:=⟨gb753,_,none⟩) NB752_753.out _).trans (hHeld.2.2.2.2.2))))))⟩ (fun hHeld=>?_)
 clear hK K
 refine one_ (i:=3) (N:=none) #[true,true,true,true] rfl rfl (by kernel_rfl) (by decide) (fun K hK=>?_)
 have hs29 : w25.cell? ⟨gb754,0,none⟩ = some (.bool false):=k0 BK754 0
 have hfs29:=blk_frozen BK754.out 0
 have hns29_0:=NB751_754.out
 have hns29_1:=NB752_754.out
 have hns29_2:=NB753_754.out
 have hms29_0:=NB754_751.out
 have hms29_1:=NB754_752.out
 have hms29_2:=NB754_753.out
 have hs30 : w25.cell? ⟨gb754,1,none⟩ = some (.slice none 0 0):=k0 BK754 1
 have hfs30:=blk_frozen BK754.out 1
 have hns30_0:=NB751_754.out
 have hns30_1:=NB752_754.out
 have hns30_2:=NB753_754.out
 have hms30_0:=NB754_751.out
 have hms30_1:=NB754_752.out
 have hms30_2:=NB754_753.out
 have hs31 : w25.cell? ⟨gb754,2,none⟩ = some (.int .i64 0):=k0 BK754 2
 have hfs31:=blk_frozen BK754.out 2
 have hns31_0:=NB751_754.out
 have hns31_1:=NB752_754.out
 have hns31_2:=NB753_754.out
 have hms31_0:=NB754_751.out
 have hms31_1:=NB754_752.out
 have hms31_2:=NB754_753.out
 refine skip_ (w1:=?_) (by rfl) rfl ?_ ?_
 rotate_left
 ·go_simp
  rfl
 refine hK.out _ _ ⟨((cell_far (p:=⟨gb754,_,none⟩) NB751_754.out _).trans (((cell_far (p:=⟨gb754,_,none⟩) NB751_754.out _).trans (((cell_far (p:=⟨gb754,_,none⟩) NB751_754.out _).trans (hHeld.1)))))),((cell_far (p:=⟨gb754,_,none⟩) NB751_754.out _).trans (((cell_far (p:=⟨gb754,_,none⟩) NB751_754.out _).trans (((cell_far (p:=⟨gb754,_,none⟩) NB751_754.out _).trans (hHeld.2.1)))))),((cell_far (p:=⟨gb754,_,none⟩) NB751_754.out _).trans (((cell_far (p:=⟨gb754,_,none⟩) NB751_754.out _).trans (((cell_far (p:=⟨gb754,_,none⟩) NB751_754.out _).trans (hHeld.2.2.1)))))),((cell_far (p:=⟨gb754,_,none⟩) NB752_754.out _).trans (((cell_far (p:=⟨gb754,_,none⟩) NB752_754.out _).trans (((cell_far (p:=⟨gb754,_,none⟩) NB752_754.out _).trans (hHeld.2.2.2.1)))))),((cell_far (p:=⟨gb754,_,none⟩) NB752_754.out _).trans (((cell_far (p:=⟨gb754,_,none⟩) NB752_754.out _).trans (((cell_far (p:=⟨gb754,_,none⟩) NB752_754.out _).trans (hHeld.2.2.2.2.1)))))),((cell_far (p:=⟨gb754,_,none⟩) NB752_754.out _).trans (((cell_far (p:=⟨gb754,_,none⟩) NB752_754.out _).trans (((cell_far (p:=⟨gb754,_,none⟩) NB752_754.out _).trans (hHeld.2.2.2.2.2))))))⟩ (fun hHeld=>?_)
 clear hK K
 refine done_ (by kernel_rfl) ?_
 try go_wp2
 refine bodyPost_ret (results_cc rfl _ _ gb753 gb754 30 30 #[.bool a0_0,.slice Ao18 t755.length co18,.int .i64 ji3] #[.bool a1_0,.slice Ao22 t758.length co22,.int .i64 ji3] (0,0) (0,0) _ _ rfl (by refine bp ?_; refine blk_far ?_ NB753_754.out _; refine bp ?_; refine blk_far ?_ NB753_754.out _; refine bp ?_; refine blk_far ?_ NB753_754.out _; exact p3 BK753) Tryz.underlying30 rfl (by kernel_rfl) rfl (by refine bp ?_; refine blk_put (cs:=#[.bool a1_0,.slice Ao22 t758.length co22,.int .i64 0]) ?_ 2 _ rfl; refine bp ?_; refine blk_put (cs:=#[.bool a1_0,.slice none 0 0,.int .i64 0]) ?_ 1 _ rfl; refine bp ?_; refine blk_put (cs:=#[.bool false,.slice none 0 0,.int .i64 0]) ?_ 0 _ rfl; refine bp ?_; refine blk_far ?_ NB754_753.out _; refine bp ?_; refine blk_far ?_ NB754_753.out _; refine bp ?_; refine blk_far ?_ NB754_753.out _; exact bp BK754.out) Tryz.underlying30 rfl (by kernel_rfl)) rfl ?_
 exact ⟨_,_,by first | rfl | (simp [errW_none,errW_some] <;> rfl) | (simp only [<- hji3]; first | rfl | (simp [errW_none,errW_some] <;> rfl)) | (simp [*,errW_none,errW_some] <;> rfl),by refine rp ?_; exact Kd.R_mono (Kd.R_far (p:=⟨gb754,2,none⟩) (Kd.R_far (p:=⟨gb754,1,none⟩) (Kd.R_far (p:=⟨gb754,0,none⟩) (Kd.R_far (p:=⟨gb753,2,none⟩) (Kd.R_far (p:=⟨gb753,1,none⟩) (Kd.R_far (p:=⟨gb753,0,none⟩) (Kd.R_types (Kd.R_types HO757.out BK753.out (by decide)) BK754.out (by decide)) (fun _ hk=>hk.1.2) (.bool a0_0)) (fun _ hk=>hk.1.2) (.slice Ao18 t755.length co18)) (fun _ hk=>hk.1.2) (.int .i64 ji3)) (fun _ hk=>hk.2) (.bool a1_0)) (fun _ hk=>hk.2) (.slice Ao22 t758.length co22)) (fun _ hk=>hk.2) (.int .i64 ji3)) (fun _ hk=>hk.1.1),by refine rp ?_; exact Kd.R_mono (Kd.R_far (p:=⟨gb754,2,none⟩) (Kd.R_far (p:=⟨gb754,1,none⟩) (Kd.R_far (p:=⟨gb754,0,none⟩) (Kd.R_far (p:=⟨gb753,2,none⟩) (Kd.R_far (p:=⟨gb753,1,none⟩) (Kd.R_far (p:=⟨gb753,0,none⟩) (Kd.R_types (Kd.R_types HO760.out BK753.out (by decide)) BK754.out (by decide)) (fun _ hk=>hk.1.2) (.bool a0_0)) (fun _ hk=>hk.1.2) (.slice Ao18 t755.length co18)) (fun _ hk=>hk.1.2) (.int .i64 ji3)) (fun _ hk=>hk.2) (.bool a1_0)) (fun _ hk=>hk.2) (.slice Ao22 t758.length co22)) (fun _ hk=>hk.2) (.int .i64 ji3)) (fun _ hk=>hk.1.1),pB⟩
def bolterref02_Sum.f (k : Nat) (a0_0 : Bool) (l0_1 : List Int) (a0_2 : Int) (a1_0 : Bool) (l1_1 : List Int) (a1_2 : Int) : Option (Bool × List Int × Int):=(bolterref02_Align.f a0_0 l0_1 a0_2 a1_0 l1_1 a1_2).bind fun bt781=>(if (bt781.1 == bt781.2.2.2.1) = true then ((bolterref01_Plus.f k bt781.2.1 bt781.2.2.2.2.1).bind fun t791=>(some (bt781.1,t791,bt781.2.2.1))) else ((bolterref01_Order.f k bt781.2.1 bt781.2.2.2.2.1).bind fun t794=>(if t794 >= 0 then ((bolterref01_Minus.f k bt781.2.1 bt781.2.2.2.2.1).bind fun t795=>(some (bt781.1,t795,bt781.2.2.1))) else ((bolterref01_Minus.f k bt781.2.2.2.2.1 bt781.2.1).bind fun t798=>(some (bt781.2.2.2.1,t798,bt781.2.2.1))))))
def bolterref02_Sum.T2 : Bool × List (List Nat × List Nat):=(true,[([],[]),([0],[0]),([],[]),([2],[2]),([],[]),([4],[4]),([3,5],[3,5]),([0,1,4,5],[]),([7,1,6,0,1,4,5],[1,7]),([0,1,2,3,4,5,6,7,8],[]),([9,6,8,0,1,2,3,4,5,6,7,8],[6,9])])
def bolterref02_Sum.B2 : List Nat:=[0,1,0,4,0,16,60,51,255,511,1023]
theorem bolterref02_Sum.tab2 : rtab .any (opsOf Tryz.f77 2) = bolterref02_Sum.T2:=by kernel_rfl
theorem bolterref02_Sum.bits2 : waitsOk bolterref02_Sum.T2.2 bolterref02_Sum.B2 = true:=by kernel_rfl
theorem bolterref02_Sum.leaf {P : Prop} (h : P:=by
 go_enter Tryz.func77,Tryz.ntmps77
 try go_wp2_with (first | ((with_reducible refine gd 2 ?_); refine bx 2 #[.bool a0_0,.slice A0_1 l0_1.length c0_1,.int .i64 a0_2] 30 (h:=?_); intro gb0z hg w1z hbox hb; have BK2z:=am hbox; have GW3z:=gW hg; have GE4z:=gW hg; replace HB:=bS hb; clear hb hbox hg) | ((with_reducible refine gd 3 ?_); refine bx 3 #[.bool a1_0,.slice A1_1 l1_1.length c1_1,.int .i64 a1_2] 30 (h:=?_); intro gb5z hg w6z hbox hb; have BK7z:=am hbox; have GW8z:=gW hg; have GE9z:=gW hg; have NB10z:=nL hg BK2z; have NB11z:=nG hg BK2z; replace BK2z:=bb BK2z hb; replace HB:=bS hb; clear hb hbox hg) | ((with_reducible refine gd 4 ?_); refine bx 4 #[.bool false,.slice none 0 0,.int .i64 0] 30 (h:=?_); intro gb12z hg w13z hbox hb; have BK14z:=am hbox; have GW15z:=gW hg; have GE16z:=gW hg; have NB17z:=nL hg BK2z; have NB18z:=nG hg BK2z; have NB19z:=nL hg BK7z; have NB20z:=nG hg BK7z; replace BK2z:=bb BK2z hb; replace BK7z:=bb BK7z hb; replace HB:=bS hb; clear hb hbox hg; have hnb21z:=NB10z.out; have hnc22z:=NB11z.out; have hnb23z:=NB17z.out; have hnc24z:=NB18z.out; obtain ⟨hcz25z,hcz26z,hcz27z,hfz28z,hfz29z,hfz30z⟩:=cEc BK2z.out; have hnb31z:=NB19z.out; have hnc32z:=NB20z.out; obtain ⟨hcz33z,hcz34z,hcz35z,hfz36z,hfz37z,hfz38z⟩:=cEc BK7z.out) | (refine gL (some 8) Tryz.func133 #[.agg #[.bool a0_0,.slice A0_1 l0_1.length c0_1,.int .i64 a0_2],.agg #[.bool a1_0,.slice A1_1 l1_1.length c1_1,.int .i64 a1_2]] (h:=?_); (with_reducible refine (bolterref02_Align.calls a0_0 _ _ l0_1 a0_2 a1_0 _ _ l1_1 a1_2 t781 t782 t785 t786 t787 t790 _ ?side1 ?side2 ?side3 ?side4 A3.out).mono ?_); (case side1=>refine cp ?_; exact (Kd.C_below HR0_1.out HB.out)); (case side2=>exact HC0_1.out); (case side3=>refine cp ?_; exact (Kd.C_below HR1_1.out HB.out)); (case side4=>exact HC1_1.out); rintro e w39z ⟨v40z,v41z,rfl,ho42z,ho43z,hb⟩; refine ⟨_,rfl,?_⟩; have HO44z:=am (Kd.R_lower ho42z (below_size pB)); have HO45z:=am (Kd.R_lower ho43z (below_size pB)); replace BK2z:=bb BK2z hb; replace BK7z:=bb BK7z hb; replace BK14z:=bb BK14z hb; replace HB:=bS hb; obtain ⟨hcz46z,hcz47z,hcz48z,hfz49z,hfz50z,hfz51z⟩:=cEc BK2z.out; obtain ⟨Ao52z,co53z,eo54z⟩:=Kd.R_slice HO44z.out; subst eo54z; obtain ⟨hcz55z,hcz56z,hcz57z,hfz58z,hfz59z,hfz60z⟩:=cEc BK7z.out; obtain ⟨Ao61z,co62z,eo63z⟩:=Kd.R_slice HO45z.out; subst eo63z) | (refine gL (some 37) Tryz.func94 #[.slice Ao52z t782.length co53z,.slice Ao61z t787.length co62z] (h:=?_); (with_reducible refine (bolterref01_Order.calls k _ _ t782 _ _ t787 t794 _ ?side1 ?side2 ?side3 ?side4 A23.out).mono ?_); (case side1=>refine (Kd.R_reads' (e:=3) (base:=w.heap.size) (ok:=fun k_=>some k_ ≠ (.slice Ao61z t787.length co62z : Value).ownBlock) (n:=t782.length) (c:=co53z) ?_).2.2; exact (Kd.R_below (Kd.R_mono (Kd.R_mono (Kd.R_far (p:=⟨gb5z,2,none⟩) (Kd.R_far (p:=⟨gb5z,1,none⟩) (Kd.R_far (p:=⟨gb5z,0,none⟩) (Kd.R_far (p:=⟨gb0z,2,none⟩) (Kd.R_far (p:=⟨gb0z,1,none⟩) (Kd.R_far (p:=⟨gb0z,0,none⟩) (Kd.R_types (Kd.R_types HO44z.out BK2z.out (by decide)) BK7z.out (by decide)) (fun _ hk=>hk.1.2) (.bool t781)) (fun _ hk=>hk.1.2) (.slice Ao52z t782.length co53z)) (fun _ hk=>hk.1.2) (.int .i64 t785)) (fun _ hk=>hk.2) (.bool t786)) (fun _ hk=>hk.2) (.slice Ao61z t787.length co62z)) (fun _ hk=>hk.2) (.int .i64 t790)) (fun _ h_=>h_.1)) (fun _ h_=>h_.1)) pl)); (case side2=>exact (Kd.R_reads' HO44z.out).2.1); (case side3=>refine (Kd.R_reads' (e:=3) (base:=w.heap.size) (ok:=fun k_=>some k_ ≠ (.slice Ao52z t782.length co53z : Value).ownBlock) (n:=t787.length) (c:=co62z) ?_).2.2; exact (Kd.R_below (Kd.R_mono (Kd.R_mono (Kd.R_far (p:=⟨gb5z,2,none⟩) (Kd.R_far (p:=⟨gb5z,1,none⟩) (Kd.R_far (p:=⟨gb5z,0,none⟩) (Kd.R_far (p:=⟨gb0z,2,none⟩) (Kd.R_far (p:=⟨gb0z,1,none⟩) (Kd.R_far (p:=⟨gb0z,0,none⟩) (Kd.R_types (Kd.R_types HO45z.out BK2z.out (by decide)) BK7z.out (by decide)) (fun _ hk=>hk.1.2) (.bool t781)) (fun _ hk=>hk.1.2) (.slice Ao52z t782.length co53z)) (fun _ hk=>hk.1.2) (.int .i64 t785)) (fun _ hk=>hk.2) (.bool t786)) (fun _ hk=>hk.2) (.slice Ao61z t787.length co62z)) (fun _ hk=>hk.2) (.int .i64 t790)) (fun _ h_=>h_.1)) (fun _ h_=>h_.1)) pl)); (case side4=>exact (Kd.R_reads' HO45z.out).2.1); rintro e w' ⟨rfl,⟨nd,rfl⟩⟩; refine ⟨_,rfl,?_⟩) | (refine gL (some 43) Tryz.func134 #[.slice Ao52z t782.length co53z,.slice Ao61z t787.length co62z] (h:=?_); (with_reducible refine (bolterref01_Minus.calls k _ _ t782 _ _ t787 t795 _ ?side1 ?side2 ?side3 ?side4 A25.out).mono ?_); (case side1=>refine (Kd.R_reads' (e:=3) (base:=w.heap.size) (ok:=fun k_=>some k_ ≠ (.slice Ao61z t787.length co62z : Value).ownBlock) (n:=t782.length) (c:=co53z) ?_).2.2; exact (Kd.R_below (Kd.R_mono (Kd.R_mono (Kd.R_far (p:=⟨gb5z,2,none⟩) (Kd.R_far (p:=⟨gb5z,1,none⟩) (Kd.R_far (p:=⟨gb5z,0,none⟩) (Kd.R_far (p:=⟨gb0z,2,none⟩) (Kd.R_far (p:=⟨gb0z,1,none⟩) (Kd.R_far (p:=⟨gb0z,0,none⟩) (Kd.R_types (Kd.R_types HO44z.out BK2z.out (by decide)) BK7z.out (by decide)) (fun _ hk=>hk.1.2) (.bool t781)) (fun _ hk=>hk.1.2) (.slice Ao52z t782.length co53z)) (fun _ hk=>hk.1.2) (.int .i64 t785)) (fun _ hk=>hk.2) (.bool t786)) (fun _ hk=>hk.2) (.slice Ao61z t787.length co62z)) (fun _ hk=>hk.2) (.int .i64 t790)) (fun _ h_=>h_.1)) (fun _ h_=>h_.1)) pl)); (case side2=>exact (Kd.R_reads' HO44z.out).2.1); (case side3=>refine (Kd.R_reads' (e:=3) (base:=w.heap.size) (ok:=fun k_=>some k_ ≠ (.slice Ao52z t782.length co53z : Value).ownBlock) (n:=t787.length) (c:=co62z) ?_).2.2; exact (Kd.R_below (Kd.R_mono (Kd.R_mono (Kd.R_far (p:=⟨gb5z,2,none⟩) (Kd.R_far (p:=⟨gb5z,1,none⟩) (Kd.R_far (p:=⟨gb5z,0,none⟩) (Kd.R_far (p:=⟨gb0z,2,none⟩) (Kd.R_far (p:=⟨gb0z,1,none⟩) (Kd.R_far (p:=⟨gb0z,0,none⟩) (Kd.R_types (Kd.R_types HO45z.out BK2z.out (by decide)) BK7z.out (by decide)) (fun _ hk=>hk.1.2) (.bool t781)) (fun _ hk=>hk.1.2) (.slice Ao52z t782.length co53z)) (fun _ hk=>hk.1.2) (.int .i64 t785)) (fun _ hk=>hk.2) (.bool t786)) (fun _ hk=>hk.2) (.slice Ao61z t787.length co62z)) (fun _ hk=>hk.2) (.int .i64 t790)) (fun _ h_=>h_.1)) (fun _ h_=>h_.1)) pl)); (case side4=>exact (Kd.R_reads' HO45z.out).2.1); rintro e w64z ⟨v65z,rfl,ho42z,hb⟩; refine ⟨_,rfl,?_⟩; have HO66z:=am (Kd.R_lower (Kd.R_new' (Kd.R_new' ho42z (Kd.R_lt (Kd.R_below (Kd.R_mono (Kd.R_mono (Kd.R_far (p:=⟨gb5z,2,none⟩) (Kd.R_far (p:=⟨gb5z,1,none⟩) (Kd.R_far (p:=⟨gb5z,0,none⟩) (Kd.R_far (p:=⟨gb0z,2,none⟩) (Kd.R_far (p:=⟨gb0z,1,none⟩) (Kd.R_far (p:=⟨gb0z,0,none⟩) (Kd.R_types (Kd.R_types HO44z.out BK2z.out (by decide)) BK7z.out (by decide)) (fun _ hk=>hk.1.2) (.bool t781)) (fun _ hk=>hk.1.2) (.slice Ao52z t782.length co53z)) (fun _ hk=>hk.1.2) (.int .i64 t785)) (fun _ hk=>hk.2) (.bool t786)) (fun _ hk=>hk.2) (.slice Ao61z t787.length co62z)) (fun _ hk=>hk.2) (.int .i64 t790)) (fun _ h_=>h_.1)) (fun _ h_=>h_.1)) pl))) (Kd.R_lt (Kd.R_below (Kd.R_mono (Kd.R_mono (Kd.R_far (p:=⟨gb5z,2,none⟩) (Kd.R_far (p:=⟨gb5z,1,none⟩) (Kd.R_far (p:=⟨gb5z,0,none⟩) (Kd.R_far (p:=⟨gb0z,2,none⟩) (Kd.R_far (p:=⟨gb0z,1,none⟩) (Kd.R_far (p:=⟨gb0z,0,none⟩) (Kd.R_types (Kd.R_types HO45z.out BK2z.out (by decide)) BK7z.out (by decide)) (fun _ hk=>hk.1.2) (.bool t781)) (fun _ hk=>hk.1.2) (.slice Ao52z t782.length co53z)) (fun _ hk=>hk.1.2) (.int .i64 t785)) (fun _ hk=>hk.2) (.bool t786)) (fun _ hk=>hk.2) (.slice Ao61z t787.length co62z)) (fun _ hk=>hk.2) (.int .i64 t790)) (fun _ h_=>h_.1)) (fun _ h_=>h_.1)) pl))) (below_size pB)); replace HO44z:=am (Kd.R_elder' (Kd.R_below (Kd.R_mono (Kd.R_mono (Kd.R_far (p:=⟨gb5z,2,none⟩) (Kd.R_far (p:=⟨gb5z,1,none⟩) (Kd.R_far (p:=⟨gb5z,0,none⟩) (Kd.R_far (p:=⟨gb0z,2,none⟩) (Kd.R_far (p:=⟨gb0z,1,none⟩) (Kd.R_far (p:=⟨gb0z,0,none⟩) (Kd.R_types (Kd.R_types HO44z.out BK2z.out (by decide)) BK7z.out (by decide)) (fun _ hk=>hk.1.2) (.bool t781)) (fun _ hk=>hk.1.2) (.slice Ao52z t782.length co53z)) (fun _ hk=>hk.1.2) (.int .i64 t785)) (fun _ hk=>hk.2) (.bool t786)) (fun _ hk=>hk.2) (.slice Ao61z t787.length co62z)) (fun _ hk=>hk.2) (.int .i64 t790)) (fun _ h_=>h_.1)) (fun _ h_=>h_.1)) pl) (Kd.R_base ho42z) hb); replace HO45z:=am (Kd.R_elder' (Kd.R_below (Kd.R_mono (Kd.R_mono (Kd.R_far (p:=⟨gb5z,2,none⟩) (Kd.R_far (p:=⟨gb5z,1,none⟩) (Kd.R_far (p:=⟨gb5z,0,none⟩) (Kd.R_far (p:=⟨gb0z,2,none⟩) (Kd.R_far (p:=⟨gb0z,1,none⟩) (Kd.R_far (p:=⟨gb0z,0,none⟩) (Kd.R_types (Kd.R_types HO45z.out BK2z.out (by decide)) BK7z.out (by decide)) (fun _ hk=>hk.1.2) (.bool t781)) (fun _ hk=>hk.1.2) (.slice Ao52z t782.length co53z)) (fun _ hk=>hk.1.2) (.int .i64 t785)) (fun _ hk=>hk.2) (.bool t786)) (fun _ hk=>hk.2) (.slice Ao61z t787.length co62z)) (fun _ hk=>hk.2) (.int .i64 t790)) (fun _ h_=>h_.1)) (fun _ h_=>h_.1)) pl) (Kd.R_base ho42z) hb); replace BK2z:=am (blk_below (g:=gb0z) (o:=.cells #[.bool t781,.slice Ao52z t782.length co53z,.int .i64 t785] 30 (0,0)) (by refine bp ?_; refine blk_far ?_ NB10z.out _; refine bp ?_; refine blk_far ?_ NB10z.out _; refine bp ?_; refine blk_far ?_ NB10z.out _; exact p3 BK2z) hb); replace BK7z:=am (blk_below (g:=gb5z) (o:=.cells #[.bool t786,.slice Ao61z t787.length co62z,.int .i64 t790] 30 (0,0)) (by refine bp ?_; refine blk_put (cs:=#[.bool t786,.slice Ao61z t787.length co62z,.int .i64 a1_2]) ?_ 2 _ rfl; refine bp ?_; refine blk_put (cs:=#[.bool t786,.slice A1_1 l1_1.length c1_1,.int .i64 a1_2]) ?_ 1 _ rfl; refine bp ?_; refine blk_put (cs:=#[.bool a1_0,.slice A1_1 l1_1.length c1_1,.int .i64 a1_2]) ?_ 0 _ rfl; refine bp ?_; refine blk_far ?_ NB11z.out _; refine bp ?_; refine blk_far ?_ NB11z.out _; refine bp ?_; refine blk_far ?_ NB11z.out _; exact bp BK7z.out) hb); replace BK14z:=am (blk_below (g:=gb12z) (o:=.cells #[.bool false,.slice none 0 0,.int .i64 0] 30 (0,0)) (by refine bp ?_; refine blk_far ?_ NB20z.out _; refine bp ?_; refine blk_far ?_ NB20z.out _; refine bp ?_; refine blk_far ?_ NB20z.out _; refine bp ?_; refine blk_far ?_ NB18z.out _; refine bp ?_; refine blk_far ?_ NB18z.out _; refine bp ?_; refine blk_far ?_ NB18z.out _; exact bp BK14z.out) hb); replace HB:=bS hb; obtain ⟨Ao67z,co68z,eo69z⟩:=Kd.R_slice HO66z.out; subst eo69z; obtain ⟨hcz70z,hcz71z,hcz72z,hfz73z,hfz74z,hfz75z⟩:=cEc BK2z.out; obtain ⟨hcz76z,hcz77z,hcz78z,hfz79z,hfz80z,hfz81z⟩:=cEc BK14z.out) | (refine gL (some 30) Tryz.func85 #[.slice Ao52z t782.length co53z,.slice Ao61z t787.length co62z] (h:=?_); (with_reducible refine (bolterref01_Plus.calls k _ _ t782 _ _ t787 t791 _ ?side1 ?side2 ?side3 ?side4 A5.out).mono ?_); (case side1=>refine (Kd.R_reads' (e:=3) (base:=w.heap.size) (ok:=fun k_=>some k_ ≠ (.slice Ao61z t787.length co62z : Value).ownBlock) (n:=t782.length) (c:=co53z) ?_).2.2; exact (Kd.R_below (Kd.R_mono (Kd.R_mono (Kd.R_far (p:=⟨gb5z,2,none⟩) (Kd.R_far (p:=⟨gb5z,1,none⟩) (Kd.R_far (p:=⟨gb5z,0,none⟩) (Kd.R_far (p:=⟨gb0z,2,none⟩) (Kd.R_far (p:=⟨gb0z,1,none⟩) (Kd.R_far (p:=⟨gb0z,0,none⟩) (Kd.R_types (Kd.R_types HO44z.out BK2z.out (by decide)) BK7z.out (by decide)) (fun _ hk=>hk.1.2) (.bool t781)) (fun _ hk=>hk.1.2) (.slice Ao52z t782.length co53z)) (fun _ hk=>hk.1.2) (.int .i64 t785)) (fun _ hk=>hk.2) (.bool t786)) (fun _ hk=>hk.2) (.slice Ao61z t787.length co62z)) (fun _ hk=>hk.2) (.int .i64 t790)) (fun _ h_=>h_.1)) (fun _ h_=>h_.1)) pl)); (case side2=>exact (Kd.R_reads' HO44z.out).2.1); (case side3=>refine (Kd.R_reads' (e:=3) (base:=w.heap.size) (ok:=fun k_=>some k_ ≠ (.slice Ao52z t782.length co53z : Value).ownBlock) (n:=t787.length) (c:=co62z) ?_).2.2; exact (Kd.R_below (Kd.R_mono (Kd.R_mono (Kd.R_far (p:=⟨gb5z,2,none⟩) (Kd.R_far (p:=⟨gb5z,1,none⟩) (Kd.R_far (p:=⟨gb5z,0,none⟩) (Kd.R_far (p:=⟨gb0z,2,none⟩) (Kd.R_far (p:=⟨gb0z,1,none⟩) (Kd.R_far (p:=⟨gb0z,0,none⟩) (Kd.R_types (Kd.R_types HO45z.out BK2z.out (by decide)) BK7z.out (by decide)) (fun _ hk=>hk.1.2) (.bool t781)) (fun _ hk=>hk.1.2) (.slice Ao52z t782.length co53z)) (fun _ hk=>hk.1.2) (.int .i64 t785)) (fun _ hk=>hk.2) (.bool t786)) (fun _ hk=>hk.2) (.slice Ao61z t787.length co62z)) (fun _ hk=>hk.2) (.int .i64 t790)) (fun _ h_=>h_.1)) (fun _ h_=>h_.1)) pl)); (case side4=>exact (Kd.R_reads' HO45z.out).2.1); rintro e w64z ⟨v65z,rfl,ho42z,hb⟩; refine ⟨_,rfl,?_⟩; have HO66z:=am (Kd.R_lower (Kd.R_new' (Kd.R_new' ho42z (Kd.R_lt (Kd.R_below (Kd.R_mono (Kd.R_mono (Kd.R_far (p:=⟨gb5z,2,none⟩) (Kd.R_far (p:=⟨gb5z,1,none⟩) (Kd.R_far (p:=⟨gb5z,0,none⟩) (Kd.R_far (p:=⟨gb0z,2,none⟩) (Kd.R_far (p:=⟨gb0z,1,none⟩) (Kd.R_far (p:=⟨gb0z,0,none⟩) (Kd.R_types (Kd.R_types HO44z.out BK2z.out (by decide)) BK7z.out (by decide)) (fun _ hk=>hk.1.2) (.bool t781)) (fun _ hk=>hk.1.2) (.slice Ao52z t782.length co53z)) (fun _ hk=>hk.1.2) (.int .i64 t785)) (fun _ hk=>hk.2) (.bool t786)) (fun _ hk=>hk.2) (.slice Ao61z t787.length co62z)) (fun _ hk=>hk.2) (.int .i64 t790)) (fun _ h_=>h_.1)) (fun _ h_=>h_.1)) pl))) (Kd.R_lt (Kd.R_below (Kd.R_mono (Kd.R_mono (Kd.R_far (p:=⟨gb5z,2,none⟩) (Kd.R_far (p:=⟨gb5z,1,none⟩) (Kd.R_far (p:=⟨gb5z,0,none⟩) (Kd.R_far (p:=⟨gb0z,2,none⟩) (Kd.R_far (p:=⟨gb0z,1,none⟩) (Kd.R_far (p:=⟨gb0z,0,none⟩) (Kd.R_types (Kd.R_types HO45z.out BK2z.out (by decide)) BK7z.out (by decide)) (fun _ hk=>hk.1.2) (.bool t781)) (fun _ hk=>hk.1.2) (.slice Ao52z t782.length co53z)) (fun _ hk=>hk.1.2) (.int .i64 t785)) (fun _ hk=>hk.2) (.bool t786)) (fun _ hk=>hk.2) (.slice Ao61z t787.length co62z)) (fun _ hk=>hk.2) (.int .i64 t790)) (fun _ h_=>h_.1)) (fun _ h_=>h_.1)) pl))) (below_size pB)); replace HO44z:=am (Kd.R_elder' (Kd.R_below (Kd.R_mono (Kd.R_mono (Kd.R_far (p:=⟨gb5z,2,none⟩) (Kd.R_far (p:=⟨gb5z,1,none⟩) (Kd.R_far (p:=⟨gb5z,0,none⟩) (Kd.R_far (p:=⟨gb0z,2,none⟩) (Kd.R_far (p:=⟨gb0z,1,none⟩) (Kd.R_far (p:=⟨gb0z,0,none⟩) (Kd.R_types (Kd.R_types HO44z.out BK2z.out (by decide)) BK7z.out (by decide)) (fun _ hk=>hk.1.2) (.bool t781)) (fun _ hk=>hk.1.2) (.slice Ao52z t782.length co53z)) (fun _ hk=>hk.1.2) (.int .i64 t785)) (fun _ hk=>hk.2) (.bool t786)) (fun _ hk=>hk.2) (.slice Ao61z t787.length co62z)) (fun _ hk=>hk.2) (.int .i64 t790)) (fun _ h_=>h_.1)) (fun _ h_=>h_.1)) pl) (Kd.R_base ho42z) hb); replace HO45z:=am (Kd.R_elder' (Kd.R_below (Kd.R_mono (Kd.R_mono (Kd.R_far (p:=⟨gb5z,2,none⟩) (Kd.R_far (p:=⟨gb5z,1,none⟩) (Kd.R_far (p:=⟨gb5z,0,none⟩) (Kd.R_far (p:=⟨gb0z,2,none⟩) (Kd.R_far (p:=⟨gb0z,1,none⟩) (Kd.R_far (p:=⟨gb0z,0,none⟩) (Kd.R_types (Kd.R_types HO45z.out BK2z.out (by decide)) BK7z.out (by decide)) (fun _ hk=>hk.1.2) (.bool t781)) (fun _ hk=>hk.1.2) (.slice Ao52z t782.length co53z)) (fun _ hk=>hk.1.2) (.int .i64 t785)) (fun _ hk=>hk.2) (.bool t786)) (fun _ hk=>hk.2) (.slice Ao61z t787.length co62z)) (fun _ hk=>hk.2) (.int .i64 t790)) (fun _ h_=>h_.1)) (fun _ h_=>h_.1)) pl) (Kd.R_base ho42z) hb); replace BK2z:=am (blk_below (g:=gb0z) (o:=.cells #[.bool t781,.slice Ao52z t782.length co53z,.int .i64 t785] 30 (0,0)) (by refine bp ?_; refine blk_far ?_ NB10z.out _; refine bp ?_; refine blk_far ?_ NB10z.out _; refine bp ?_; refine blk_far ?_ NB10z.out _; exact p3 BK2z) hb); replace BK7z:=am (blk_below (g:=gb5z) (o:=.cells #[.bool t786,.slice Ao61z t787.length co62z,.int .i64 t790] 30 (0,0)) (by refine bp ?_; refine blk_put (cs:=#[.bool t786,.slice Ao61z t787.length co62z,.int .i64 a1_2]) ?_ 2 _ rfl; refine bp ?_; refine blk_put (cs:=#[.bool t786,.slice A1_1 l1_1.length c1_1,.int .i64 a1_2]) ?_ 1 _ rfl; refine bp ?_; refine blk_put (cs:=#[.bool a1_0,.slice A1_1 l1_1.length c1_1,.int .i64 a1_2]) ?_ 0 _ rfl; refine bp ?_; refine blk_far ?_ NB11z.out _; refine bp ?_; refine blk_far ?_ NB11z.out _; refine bp ?_; refine blk_far ?_ NB11z.out _; exact bp BK7z.out) hb); replace BK14z:=am (blk_below (g:=gb12z) (o:=.cells #[.bool false,.slice none 0 0,.int .i64 0] 30 (0,0)) (by refine bp ?_; refine blk_far ?_ NB20z.out _; refine bp ?_; refine blk_far ?_ NB20z.out _; refine bp ?_; refine blk_far ?_ NB20z.out _; refine bp ?_; refine blk_far ?_ NB18z.out _; refine bp ?_; refine blk_far ?_ NB18z.out _; refine bp ?_; refine blk_far ?_ NB18z.out _; exact bp BK14z.out) hb); replace HB:=bS hb; obtain ⟨Ao67z,co68z,eo69z⟩:=Kd.R_slice HO66z.out; subst eo69z; obtain ⟨hcz70z,hcz71z,hcz72z,hfz73z,hfz74z,hfz75z⟩:=cEc BK2z.out; obtain ⟨hcz76z,hcz77z,hcz78z,hfz79z,hfz80z,hfz81z⟩:=cEc BK14z.out))
 first
  | have q_:=A25
    refine bodyPost_ret (results_cell_row rfl _ _ gb12z 30 #[.bool t781,.slice Ao67z t795.length co68z,.int .i64 t785] (0,0) _ rfl (by refine bp ?_; refine blk_put (cs:=#[.bool t781,.slice Ao67z t795.length co68z,.int .i64 0]) ?_ 2 _ rfl; refine bp ?_; refine blk_put (cs:=#[.bool t781,.slice none 0 0,.int .i64 0]) ?_ 1 _ rfl; refine bp ?_; refine blk_put (cs:=#[.bool false,.slice none 0 0,.int .i64 0]) ?_ 0 _ rfl; refine bp ?_; refine blk_far ?_ NB18z.out _; exact bp BK14z.out) Tryz.underlying30 rfl (by kernel_rfl)) rfl ?_
    exact ⟨_,pE,by refine rp ?_; exact Kd.R_mono (Kd.R_far (p:=⟨gb12z,2,none⟩) (Kd.R_far (p:=⟨gb12z,1,none⟩) (Kd.R_far (p:=⟨gb12z,0,none⟩) (Kd.R_far (p:=⟨gb0z,1,none⟩) (Kd.R_types (Kd.R_types HO66z.out BK2z.out (by decide)) BK14z.out (by decide)) (fun _ hk=>hk.1.2) (.slice Ao67z t795.length co68z)) (fun _ hk=>hk.2) (.bool t781)) (fun _ hk=>hk.2) (.slice Ao67z t795.length co68z)) (fun _ hk=>hk.2) (.int .i64 t785)) (fun _ hk=>trivial),pB⟩
  | have q_:=A43
    have n0_ : Aside0 (Kd.R (Kd.int .i64) 3 ((((((w39z.setCell ⟨gb0z,0,none⟩ (.bool t781)).setCell ⟨gb0z,1,none⟩ (.slice Ao52z t782.length co53z)).setCell ⟨gb0z,2,none⟩ (.int .i64 t785)).setCell ⟨gb5z,0,none⟩ (.bool t786)).setCell ⟨gb5z,1,none⟩ (.slice Ao61z t787.length co62z)).setCell ⟨gb5z,2,none⟩ (.int .i64 t790)) w.heap.size (fun k_=>some k_ ≠ (.slice Ao61z t787.length co62z : Value).ownBlock) (.slice Ao52z t782.length co53z) t782):=⟨by refine rp ?_; exact Kd.R_mono (Kd.R_far (p:=⟨gb5z,2,none⟩) (Kd.R_far (p:=⟨gb5z,1,none⟩) (Kd.R_far (p:=⟨gb5z,0,none⟩) (Kd.R_far (p:=⟨gb0z,2,none⟩) (Kd.R_far (p:=⟨gb0z,1,none⟩) (Kd.R_far (p:=⟨gb0z,0,none⟩) (Kd.R_types (Kd.R_types HO44z.out BK2z.out (by decide)) BK7z.out (by decide)) (fun _ hk=>hk.1.2) (.bool t781)) (fun _ hk=>hk.1.2) (.slice Ao52z t782.length co53z)) (fun _ hk=>hk.1.2) (.int .i64 t785)) (fun _ hk=>hk.2) (.bool t786)) (fun _ hk=>hk.2) (.slice Ao61z t787.length co62z)) (fun _ hk=>hk.2) (.int .i64 t790)) (fun _ hk=>hk.1.1)⟩
    have n1_ : Aside0 (Kd.R (Kd.int .i64) 3 ((((((w39z.setCell ⟨gb0z,0,none⟩ (.bool t781)).setCell ⟨gb0z,1,none⟩ (.slice Ao52z t782.length co53z)).setCell ⟨gb0z,2,none⟩ (.int .i64 t785)).setCell ⟨gb5z,0,none⟩ (.bool t786)).setCell ⟨gb5z,1,none⟩ (.slice Ao61z t787.length co62z)).setCell ⟨gb5z,2,none⟩ (.int .i64 t790)) w.heap.size (fun k_=>some k_ ≠ (.slice Ao52z t782.length co53z : Value).ownBlock) (.slice Ao61z t787.length co62z) t787):=⟨by refine rp ?_; exact Kd.R_mono (Kd.R_far (p:=⟨gb5z,2,none⟩) (Kd.R_far (p:=⟨gb5z,1,none⟩) (Kd.R_far (p:=⟨gb5z,0,none⟩) (Kd.R_far (p:=⟨gb0z,2,none⟩) (Kd.R_far (p:=⟨gb0z,1,none⟩) (Kd.R_far (p:=⟨gb0z,0,none⟩) (Kd.R_types (Kd.R_types HO45z.out BK2z.out (by decide)) BK7z.out (by decide)) (fun _ hk=>hk.1.2) (.bool t781)) (fun _ hk=>hk.1.2) (.slice Ao52z t782.length co53z)) (fun _ hk=>hk.1.2) (.int .i64 t785)) (fun _ hk=>hk.2) (.bool t786)) (fun _ hk=>hk.2) (.slice Ao61z t787.length co62z)) (fun _ hk=>hk.2) (.int .i64 t790)) (fun _ hk=>hk.1.1)⟩
    have n2_ : Aside0 (((((((w39z.setCell ⟨gb0z,0,none⟩ (.bool t781)).setCell ⟨gb0z,1,none⟩ (.slice Ao52z t782.length co53z)).setCell ⟨gb0z,2,none⟩ (.int .i64 t785)).setCell ⟨gb5z,0,none⟩ (.bool t786)).setCell ⟨gb5z,1,none⟩ (.slice Ao61z t787.length co62z)).setCell ⟨gb5z,2,none⟩ (.int .i64 t790)).heap[gb0z]? = some (.cells #[.bool t781,.slice Ao52z t782.length co53z,.int .i64 t785] 30 (0,0))):=⟨by refine bp ?_; refine blk_far ?_ NB10z.out _; refine bp ?_; refine blk_far ?_ NB10z.out _; refine bp ?_; refine blk_far ?_ NB10z.out _; exact p3 BK2z⟩
    have n3_ : Aside0 (((((((w39z.setCell ⟨gb0z,0,none⟩ (.bool t781)).setCell ⟨gb0z,1,none⟩ (.slice Ao52z t782.length co53z)).setCell ⟨gb0z,2,none⟩ (.int .i64 t785)).setCell ⟨gb5z,0,none⟩ (.bool t786)).setCell ⟨gb5z,1,none⟩ (.slice Ao61z t787.length co62z)).setCell ⟨gb5z,2,none⟩ (.int .i64 t790)).heap[gb5z]? = some (.cells #[.bool t786,.slice Ao61z t787.length co62z,.int .i64 t790] 30 (0,0))):=⟨by refine bp ?_; refine blk_put (cs:=#[.bool t786,.slice Ao61z t787.length co62z,.int .i64 a1_2]) ?_ 2 _ rfl; refine bp ?_; refine blk_put (cs:=#[.bool t786,.slice A1_1 l1_1.length c1_1,.int .i64 a1_2]) ?_ 1 _ rfl; refine bp ?_; refine blk_put (cs:=#[.bool a1_0,.slice A1_1 l1_1.length c1_1,.int .i64 a1_2]) ?_ 0 _ rfl; refine bp ?_; refine blk_far ?_ NB11z.out _; refine bp ?_; refine blk_far ?_ NB11z.out _; refine bp ?_; refine blk_far ?_ NB11z.out _; exact bp BK7z.out⟩
    have n4_ : Aside0 (((((((w39z.setCell ⟨gb0z,0,none⟩ (.bool t781)).setCell ⟨gb0z,1,none⟩ (.slice Ao52z t782.length co53z)).setCell ⟨gb0z,2,none⟩ (.int .i64 t785)).setCell ⟨gb5z,0,none⟩ (.bool t786)).setCell ⟨gb5z,1,none⟩ (.slice Ao61z t787.length co62z)).setCell ⟨gb5z,2,none⟩ (.int .i64 t790)).heap[gb12z]? = some (.cells #[.bool false,.slice none 0 0,.int .i64 0] 30 (0,0))):=⟨by refine bp ?_; refine blk_far ?_ NB20z.out _; refine bp ?_; refine blk_far ?_ NB20z.out _; refine bp ?_; refine blk_far ?_ NB20z.out _; refine bp ?_; refine blk_far ?_ NB18z.out _; refine bp ?_; refine blk_far ?_ NB18z.out _; refine bp ?_; refine blk_far ?_ NB18z.out _; exact bp BK14z.out⟩
    have n5_ : Aside0 (Below w.heap.size w ((((((w39z.setCell ⟨gb0z,0,none⟩ (.bool t781)).setCell ⟨gb0z,1,none⟩ (.slice Ao52z t782.length co53z)).setCell ⟨gb0z,2,none⟩ (.int .i64 t785)).setCell ⟨gb5z,0,none⟩ (.bool t786)).setCell ⟨gb5z,1,none⟩ (.slice Ao61z t787.length co62z)).setCell ⟨gb5z,2,none⟩ (.int .i64 t790))):=⟨pB⟩
    generalize ((((((w39z.setCell ⟨gb0z,0,none⟩ (.bool t781)).setCell ⟨gb0z,1,none⟩ (.slice Ao52z t782.length co53z)).setCell ⟨gb0z,2,none⟩ (.int .i64 t785)).setCell ⟨gb5z,0,none⟩ (.bool t786)).setCell ⟨gb5z,1,none⟩ (.slice Ao61z t787.length co62z)).setCell ⟨gb5z,2,none⟩ (.int .i64 t790)) = w64z at n0_ n1_ n2_ n3_ n4_ n5_ ⊢
    have HO44z:=n0_
    have HO45z:=n1_
    have BK2z:=n2_
    have BK7z:=n3_
    have BK14z:=n4_
    have HB:=n5_
    clear n0_ n1_ n2_ n3_ n4_ n5_
    (try (rw [drewN_self w64z]; generalize hq_ : World.drewN w64z _ = w64z; replace HO44z : Aside0 (Kd.R (Kd.int .i64) 3 w64z w.heap.size (fun k_=>some k_ ≠ (.slice Ao61z t787.length co62z : Value).ownBlock) (.slice Ao52z t782.length co53z) t782):=⟨by rw [<- hq_]; exact (Kd.R_below HO44z.out pl)⟩; replace HO45z : Aside0 (Kd.R (Kd.int .i64) 3 w64z w.heap.size (fun k_=>some k_ ≠ (.slice Ao52z t782.length co53z : Value).ownBlock) (.slice Ao61z t787.length co62z) t787):=⟨by rw [<- hq_]; exact (Kd.R_below HO45z.out pl)⟩; replace BK2z : Aside0 (w64z.heap[gb0z]? = some (.cells #[.bool t781,.slice Ao52z t782.length co53z,.int .i64 t785] 30 (0,0))):=⟨by rw [<- hq_]; exact (blk_below BK2z.out pl)⟩; replace BK7z : Aside0 (w64z.heap[gb5z]? = some (.cells #[.bool t786,.slice Ao61z t787.length co62z,.int .i64 t790] 30 (0,0))):=⟨by rw [<- hq_]; exact (blk_below BK7z.out pl)⟩; replace BK14z : Aside0 (w64z.heap[gb12z]? = some (.cells #[.bool false,.slice none 0 0,.int .i64 0] 30 (0,0))):=⟨by rw [<- hq_]; exact (blk_below BK14z.out pl)⟩; replace HB : Aside0 (Below w.heap.size w w64z):=⟨by rw [<- hq_]; exact pB⟩; clear hq_))
    replace HO44z:=am (Kd.R_drew HO44z.out)
    replace HO45z:=am (Kd.R_drew HO45z.out)
    replace BK2z:=am (blk_drew BK2z.out)
    replace BK7z:=am (blk_drew BK7z.out)
    replace BK14z:=am (blk_drew BK14z.out)
    replace HB:=am (below_drew1 HB.out)
    refine start_ (n:=11) (S:=fun w'=>w'.cell? ⟨gb5z,0,none⟩ = some (.bool t786)/\w'.cell? ⟨gb5z,1,none⟩ = some (.slice Ao61z t787.length co62z)/\w'.cell? ⟨gb5z,2,none⟩ = some (.int .i64 t790)/\w'.cell? ⟨gb0z,0,none⟩ = some (.bool t781)/\w'.cell? ⟨gb0z,1,none⟩ = some (.slice Ao52z t782.length co53z)/\w'.cell? ⟨gb0z,2,none⟩ = some (.int .i64 t785)) (ds:=[8,10]) #[false,false,false,false,false,false,false,false,false,false,false] (by kernel_rfl) rfl rfl ⟨k0 BK7z 0,k0 BK7z 1,k0 BK7z 2,k0 BK2z 0,k0 BK2z 1,k0 BK2z 2⟩ (fun hHeld=>?_); refine with_tabW bolterref02_Sum.tab2 bolterref02_Sum.bits2 (fun HT_ HW_=>?_)
    generalize w64z.drew = w65z at HO44z HO45z BK2z BK7z BK14z HB hHeld ⊢
    refine pu 0 (some 11) #[true,false,false,false,false,false,false,false,false,false,false] (h:=?_)
    refine pu 2 (some 13) #[true,false,true,false,false,false,false,false,false,false,false] (h:=?_)
    refine pu 4 (some 15) #[true,false,true,false,true,false,false,false,false,false,false] (h:=?_)
    refine take_ (i:=1) (N:=some 12) (v:=?_) (a':=?_) #[true,true,true,false,true,false,false,false,false,false,false] rfl rfl (take_ofW HT_.out HW_.out (by kernel_rfl)) (fun _ _ _ h=>h) (Or.inl ⟨by rfl,?_⟩) hHeld ?_ ?_
    rotate_left
    ·rintro w' ⟨s66z,s67z,s68z,s69z,s70z,s71z⟩
     go_simp
     with_reducible rfl
    rotate_left
    ·exact pP
    refine take_ (i:=3) (N:=some 14) (v:=?_) (a':=?_) #[true,true,true,true,true,false,false,false,false,false,false] rfl rfl (take_ofW HT_.out HW_.out (by kernel_rfl)) (fun _ _ _ h=>h) (Or.inl ⟨by rfl,?_⟩) hHeld ?_ ?_
    rotate_left
    ·rintro w' ⟨s66z,s67z,s68z,s69z,s70z,s71z⟩
     go_simp
     with_reducible rfl
    rotate_left
    ·exact pP
    refine take_ (i:=5) (N:=some 16) (v:=?_) (a':=?_) #[true,true,true,true,true,true,false,false,false,false,false] rfl rfl (take_ofW HT_.out HW_.out (by kernel_rfl)) (fun _ _ _ h=>h) (Or.inl ⟨by rfl,?_⟩) hHeld ?_ ?_
    rotate_left
    ·rintro w' ⟨s66z,s67z,s68z,s69z,s70z,s71z⟩
     go_simp
     with_reducible rfl
    rotate_left
    ·exact pP
    refine pu 7 (some 18) #[true,true,true,true,true,true,false,true,false,false,false] (h:=?_)
    refine one_ (i:=6) (N:=some 17) #[true,true,true,true,true,true,true,true,false,false,false] rfl rfl (one_of HT_.out (by kernel_rfl)) (by decide) (fun K hK=>?_)
    refine goes_ Tryz.func134 (by kernel_rfl) rfl #[.slice Ao61z t787.length co62z,.slice Ao52z t782.length co53z] (by rfl) rfl rfl pA ?_
    with_reducible refine (bolterref01_Minus.calls k _ _ t787 _ _ t782 t798 _ ?side1 ?side2 ?side3 ?side4 A43.out).mono ?_
    (case side1=>exact Kd.C_below (Kd.R_reads' HO45z.out).2.2 pl)
    (case side2=>exact (Kd.R_reads' HO45z.out).2.1)
    (case side3=>exact Kd.C_below (Kd.R_reads' HO44z.out).2.2 pl)
    (case side4=>exact (Kd.R_reads' HO44z.out).2.1)
    rintro e w72z ⟨v73z,rfl,ho42z,hb⟩
    refine ⟨_,rfl,?_⟩
    have HO74z:=am (Kd.R_lower (Kd.R_new' (Kd.R_new' ho42z (Kd.R_lt (Kd.R_below HO44z.out pl))) (Kd.R_lt (Kd.R_below HO45z.out pl))) (below_size pB))
    replace HO44z:=reR HO44z ho42z hb
    replace HO45z:=reR HO45z ho42z hb
    replace BK2z:=bb BK2z hb
    replace BK7z:=bb BK7z hb
    replace BK14z:=bb BK14z hb
    replace HB:=bS hb
    obtain ⟨Ao75z,co76z,eo77z⟩:=Kd.R_slice HO74z.out
    (first | subst eo77z | (injection eo77z with f1_ f2_ f3_; have f4_:=f1_.symm; have f5_:=f3_.symm; clear f1_ f2_ f3_; subst f4_; subst f5_))
    refine hK.out _ _ ⟨k0 BK7z 0,k0 BK7z 1,k0 BK7z 2,k0 BK2z 0,k0 BK2z 1,k0 BK2z 2⟩ (fun hHeld=>?_)
    clear hK K
    refine norm_ (a':=?_) ?_ ?_
    rotate_left
    ·show Act.put _ (some 17) _ = _
     exact pP
    refine last_ (i:=8) (N:=none) #[true,true,true,true,true,true,true,true,true,false,false] rfl rfl (one_of HT_.out (by kernel_rfl)) (by decide) (fun K hK=>?_)
    have hs78z : w72z.cell? ⟨gb0z,0,none⟩ = some (.bool t781):=k0 BK2z 0
    have hfs79z:=blk_frozen BK2z.out 0
    have hns80z:=NB11z.out
    have hns81z:=NB18z.out
    have hms82z:=NB10z.out
    have hms83z:=NB17z.out
    refine skip_ (w1:=?_) (by rfl) rfl ?_ ?_
    rotate_left
    ·go_simp
     rfl
    refine hK.out _ _ ?_
    clear hK K
    refine pu 9 (some 19) #[true,true,true,true,true,true,true,true,true,true,false] (h:=?_)
    refine last_ (i:=10) (N:=none) #[true,true,true,true,true,true,true,true,true,true,true] rfl rfl (one_of HT_.out (by kernel_rfl)) (by decide) (fun K hK=>?_)
    have hs84z : w72z.cell? ⟨gb0z,1,none⟩ = some (.slice Ao52z t782.length co53z):=k0 BK2z 1
    have hfs85z:=blk_frozen BK2z.out 1
    have hns86z:=NB11z.out
    have hns87z:=NB18z.out
    have hms88z:=NB10z.out
    have hms89z:=NB17z.out
    refine skip_ (w1:=?_) (by rfl) rfl ?_ ?_
    rotate_left
    ·go_simp
     rfl
    refine hK.out _ _ ?_
    clear hK K
    refine done_ (done_of HT_.out (by kernel_rfl)) ?_
    obtain ⟨hcz90z,hcz91z,hcz92z,hfz93z,hfz94z,hfz95z⟩:=cEc BK2z.out
    obtain ⟨hcz96z,hcz97z,hcz98z,hfz99z,hfz100z,hfz101z⟩:=cEc BK14z.out
    try go_wp2
    refine bodyPost_ret (results_cell_row rfl _ _ gb12z 30 #[.bool t786,.slice Ao75z t798.length co76z,.int .i64 t785] (0,0) _ rfl (by refine bp ?_; refine blk_put (cs:=#[.bool t786,.slice Ao75z t798.length co76z,.int .i64 0]) ?_ 2 _ rfl; refine bp ?_; refine blk_put (cs:=#[.bool t786,.slice none 0 0,.int .i64 0]) ?_ 1 _ rfl; refine bp ?_; refine blk_put (cs:=#[.bool false,.slice none 0 0,.int .i64 0]) ?_ 0 _ rfl; refine bp ?_; refine blk_far ?_ NB18z.out _; refine bp ?_; refine blk_far ?_ NB18z.out _; exact bp BK14z.out) Tryz.underlying30 rfl (by kernel_rfl)) rfl ?_
    exact ⟨_,pE,by refine rp ?_; exact Kd.R_mono (Kd.R_far (p:=⟨gb12z,2,none⟩) (Kd.R_far (p:=⟨gb12z,1,none⟩) (Kd.R_far (p:=⟨gb12z,0,none⟩) (Kd.R_far (p:=⟨gb0z,1,none⟩) (Kd.R_far (p:=⟨gb0z,0,none⟩) (Kd.R_types (Kd.R_types HO74z.out BK2z.out (by decide)) BK14z.out (by decide)) (fun _ hk=>hk.1.2) (.bool t786)) (fun _ hk=>hk.1.2) (.slice Ao75z t798.length co76z)) (fun _ hk=>hk.2) (.bool t786)) (fun _ hk=>hk.2) (.slice Ao75z t798.length co76z)) (fun _ hk=>hk.2) (.int .i64 t785)) (fun _ hk=>trivial),pB⟩
  | refine bodyPost_ret (results_cell_row rfl _ _ gb12z 30 #[.bool t781,.slice Ao67z t791.length co68z,.int .i64 t785] (0,0) _ rfl (by refine bp ?_; refine blk_put (cs:=#[.bool t781,.slice Ao67z t791.length co68z,.int .i64 0]) ?_ 2 _ rfl; refine bp ?_; refine blk_put (cs:=#[.bool t781,.slice none 0 0,.int .i64 0]) ?_ 1 _ rfl; refine bp ?_; refine blk_put (cs:=#[.bool false,.slice none 0 0,.int .i64 0]) ?_ 0 _ rfl; refine bp ?_; refine blk_far ?_ NB18z.out _; exact bp BK14z.out) Tryz.underlying30 rfl (by kernel_rfl)) rfl ?_
    exact ⟨_,pE,by refine rp ?_; exact Kd.R_mono (Kd.R_far (p:=⟨gb12z,2,none⟩) (Kd.R_far (p:=⟨gb12z,1,none⟩) (Kd.R_far (p:=⟨gb12z,0,none⟩) (Kd.R_far (p:=⟨gb0z,1,none⟩) (Kd.R_types (Kd.R_types HO66z.out BK2z.out (by decide)) BK14z.out (by decide)) (fun _ hk=>hk.1.2) (.slice Ao67z t791.length co68z)) (fun _ hk=>hk.2) (.bool t781)) (fun _ hk=>hk.2) (.slice Ao67z t791.length co68z)) (fun _ hk=>hk.2) (.int .i64 t785)) (fun _ hk=>trivial),pB⟩) : P:=h
theorem bolterref02_Sum.calls (k : Nat) (a0_0 : Bool) (A0_1 : Option Addr) (c0_1 : Nat) (l0_1 : List Int) (a0_2 : Int) (a1_0 : Bool) (A1_1 : Option Addr) (c1_1 : Nat) (l1_1 : List Int) (a1_2 : Int) (r1 : Bool) (r2 : List Int) (r3 : Int) (w : World) (hr0_1 : Kd.C (Kd.int .i64) w A0_1 l0_1.length l0_1) (hc0_1 : l0_1.length<=c0_1) (hr1_1 : Kd.C (Kd.int .i64) w A1_1 l1_1.length l1_1) (hc1_1 : l1_1.length<=c1_1) (h : bolterref02_Sum.f k a0_0 l0_1 a0_2 a1_0 l1_1 a1_2 = some (r1,r2,r3)) :
  Calls Tryz.prog 77 #[.agg #[.bool a0_0,.slice A0_1 l0_1.length c0_1,.int .i64 a0_2],.agg #[.bool a1_0,.slice A1_1 l1_1.length c1_1,.int .i64 a1_2]] w fun e w' => ∃ v1_ : Value,e = .returned (.agg #[.bool r1,v1_,.int .i64 r3])/\Kd.R (Kd.int .i64) 3 w' w.heap.size (fun _=>True) v1_ r2/\Below w.heap.size w w':=by
 have hu30:=Tryz.underlying30
 have HR0_1:=am hr0_1
 have HC0_1:=am hc0_1
 clear hr0_1 hc0_1
 have HR1_1:=am hr1_1
 have HC1_1:=am hc1_1
 clear hr1_1 hc1_1
 have HB:=am (Below.refl w.heap.size w)
 have H : ((bolterref02_Align.f a0_0 l0_1 a0_2 a1_0 l1_1 a1_2).bind fun bt781=>(if (bt781.1 == bt781.2.2.2.1) = true then ((bolterref01_Plus.f k bt781.2.1 bt781.2.2.2.2.1).bind fun t791=>(some (bt781.1,t791,bt781.2.2.1))) else ((bolterref01_Order.f k bt781.2.1 bt781.2.2.2.2.1).bind fun t794=>(if t794 >= 0 then ((bolterref01_Minus.f k bt781.2.1 bt781.2.2.2.2.1).bind fun t795=>(some (bt781.1,t795,bt781.2.2.1))) else ((bolterref01_Minus.f k bt781.2.2.2.2.1 bt781.2.1).bind fun t798=>(some (bt781.2.2.2.1,t798,bt781.2.2.1))))))) = some (r1,r2,r3):=h
 clear h
 obtain ⟨⟨t781,t782,t785,t786,t787,t790⟩,A3,H⟩:=ob H; (try dsimp only at H)
 by_cases c4 : (t781 == t786) = true
 ·rw [if_pos c4] at H
  have c4b0 : (t781 == t786) = true:=c4
  (try (have c4b1 : decide (t781 = t786) = true:=by simpa using c4))
  (try (have c4b2 : (t781 == t786) = true:=by simpa using c4))
  clear c4
  obtain ⟨t791,A5,H⟩:=ob H
  simp only [Option.some.injEq,Prod.mk.injEq] at H
  obtain ⟨rfl,rfl,rfl⟩:=H
  exact bolterref02_Sum.leaf
 ·rw [if_neg c4] at H
  have c4b0 : (t781 == t786) = false:=by simpa using c4
  (try (have c4b1 : decide (t781 = t786) = false:=by simpa using c4))
  (try (have c4b2 : (t781 == t786) = false:=by simpa using c4))
  (try (have c4b3 : ¬ (t781 = t786):=by simpa using c4))
  clear c4
  obtain ⟨t794,A23,H⟩:=ob H
  by_cases c24 : t794 >= 0
  ·rw [if_pos c24] at H
   have c24b0 : decide (0<=t794) = true:=decide_eq_true c24
   clear c24
   obtain ⟨t795,A25,H⟩:=ob H
   simp only [Option.some.injEq,Prod.mk.injEq] at H
   obtain ⟨rfl,rfl,rfl⟩:=H
   exact bolterref02_Sum.leaf
  ·rw [if_neg c24] at H
   have c24b0 : decide (0<=t794) = false:=decide_eq_false c24
   clear c24
   obtain ⟨t798,A43,H⟩:=ob H
   simp only [Option.some.injEq,Prod.mk.injEq] at H
   obtain ⟨rfl,rfl,rfl⟩:=H
   exact bolterref02_Sum.leaf
end YtjbjkmccfocikaaGreatDoor.B
end
section
namespace YtjbjkmccfocikaaGreatDoor.B
open Go.RowKit YtjbjkmccfocikaaGreatDoorW.PrintWords YtjbjkmccfocikaaGreatDoorW.PrintMore YtjbjkmccfocikaaGreatDoorW.PrintLast
section
variable {P : Program} {ops : Array Oper} {Q : Exit->Act->World->Prop} {md : Region.Mode} {S : World->Prop} {ds : List Nat}
def blkOf : Value->Option Nat
 | .pointer (some p)=>some p.block
 | .agg cs=>match cs[1]? with | some v=>v.ownBlock | none=>none
 | _=>none
structure Mk where
 i : Nat
 N : Tmp
 R : Value->World->Prop
def okM (md : Region.Mode) (ops : Array Oper) (ds is : List Nat) (lf : Array Bool) : Nat->Array Bool->Bool
 | 0,l=>l == lf && is.all (fun i=>l.getD i false)
 | n + 1,l=>(Region.ready md ops l != []) && (Region.ready md ops l).all fun i=>is.contains i && (!ds.contains i && (l.getD i true == false && okM md ops ds is lf n (l.setIfInBounds i true)))
def fillF (a : Act) : List Tmp->(Tmp->Value)->Act
 | [],_=>a
 | n :: ns,f=>fillF (a.put (some n) (f n)) ns f
def upd (f : Tmp->Value) (n : Tmp) (v : Value) : Tmp->Value:=fun m=>if m = n then v else f m
theorem put_comm (a : Act) {n m : Tmp} (h : n ≠ m) (x y : Value) : (a.put (some n) x).put (some m) y = (a.put (some m) y).put (some n) x:=by
 simp only [Act.put]
 rw [Array.setIfInBounds_comm _ _ h]
theorem put_twice (a : Act) (n : Tmp) (x y : Value) : (a.put (some n) x).put (some n) y = a.put (some n) y:=by
 simp only [Act.put,Array.setIfInBounds_setIfInBounds]
theorem fill_put : ∀ (ns : List Tmp) (a : Act) (f : Tmp->Value) (n : Tmp) (v : Value),n ∉ ns->(fillF a ns f).put (some n) v = fillF (a.put (some n) v) ns f
 | [],_,_,_,_,_=>rfl
 | m :: ns,a,f,n,v,h=>by
  have h1 : n ≠ m:=fun e=>h (e ▸ List.mem_cons_self)
  rw [fillF,fillF,fill_put ns _ f n v (fun e=>h (List.mem_cons_of_mem _ e)),put_comm a (Ne.symm h1)]
theorem fill_upd_no : ∀ (ns : List Tmp) (a : Act) (f : Tmp->Value) (n : Tmp) (v : Value),n ∉ ns->fillF a ns (upd f n v) = fillF a ns f
 | [],_,_,_,_,_=>rfl
 | m :: ns,a,f,n,v,h=>by
  have h1 : m ≠ n:=fun e=>h (e ▸ List.mem_cons_self)
  rw [fillF,fillF,fill_upd_no ns _ f n v (fun e=>h (List.mem_cons_of_mem _ e))]
  simp only [upd,if_neg h1]
theorem fill_upd : ∀ (ns : List Tmp) (a : Act) (f : Tmp->Value) (n : Tmp) (v : Value),ns.Nodup->n ∈ ns->(fillF a ns f).put (some n) v = fillF a ns (upd f n v)
 | [],_,_,_,_,_,h=>by cases h
 | m :: ns,a,f,n,v,hd,h=>by
  have hd':=List.nodup_cons.1 hd
  by_cases e : m = n
  ·subst e
   rw [fillF,fillF,fill_put ns _ f m v hd'.1,fill_upd_no ns _ f m v hd'.1,put_twice]
   simp only [upd,if_true]
  ·have hn : n ∈ ns:=(List.mem_cons.1 h).resolve_left (Ne.symm e)
   rw [fillF,fillF,fill_upd ns _ f n v hd'.2 hn]
   simp only [upd,if_neg e]
theorem pair_or {r : Mk->Mk->Prop} (hs : ∀ x y,r x y->r y x) : ∀ {l : List Mk},l.Pairwise r -> ∀ m ∈ l,∀ m' ∈ l,m = m'\/r m m'
 | [],_,m,h,_,_=>by cases h
 | x :: l,h,m,hm,m',hm'=>by
  obtain ⟨h1,h2⟩:=List.pairwise_cons.1 h
  rcases List.mem_cons.1 hm with rfl | q1 <;> rcases List.mem_cons.1 hm' with rfl | q2
  ·exact .inl rfl
  ·exact .inr (h1 _ q2)
  ·exact .inr (hs _ _ (h1 _ q1))
  ·exact pair_or hs h2 m q1 m' q2
theorem makers (ms : List Mk) (a : Act) (J : World->Prop) (lf : Array Bool) (fuel : Nat)
  (hp : ms.Pairwise (fun m m'=>m.N ≠ m'.N/\m.i ≠ m'.i))
  (hJ : ∀ w w',J w->Below w.heap.size w w'->J w') (hJS : ∀ w,J w->S w)
  (hR : ∀ m ∈ ms,∀ v w w',m.R v w->Below w.heap.size w w'->m.R v w')
  (hlt : ∀ m ∈ ms,∀ v w,m.R v w -> ∀ g,blkOf v = some g->g < w.heap.size)
  (hstep : ∀ m ∈ ms,∃ o,ops[m.i]? = some o /\ ∀ (f : Tmp->Value) w,J w -> ∀ K : Act->World->Prop,(∀ v w',m.R v w'->Below w.heap.size w w'->(∀ g,blkOf v = some g->w.heap.size<=g)->K ((fillF a (ms.map Mk.N) f).put (some m.N) v) w') ->
   if Region.wanted o (yielded ops (fillF a (ms.map Mk.N) f).tmps) = true then Oper.wp P o (fillF a (ms.map Mk.N) f) w K Q else K ((fillF a (ms.map Mk.N) f).put o.dst undef) w)
  (hcont : ∀ (f : Tmp->Value) w,J w->(∀ m ∈ ms,m.R (f m.N) w)->(∀ m ∈ ms,∀ m' ∈ ms,m.N ≠ m'.N -> ∀ g,blkOf (f m.N) = some g->blkOf (f m'.N) ≠ some g)->wpAnyLast P md ops Q S ds fuel lf (fillF a (ms.map Mk.N) f) w) :
  ∀ (n : Nat) (l : Array Bool) (f : Tmp->Value) (w : World),okM md ops ds (ms.map Mk.i) lf n l = true->J w->(∀ m ∈ ms,l.getD m.i true = true->m.R (f m.N) w) ->
   (∀ m ∈ ms,∀ m' ∈ ms,m.N ≠ m'.N->l.getD m.i true = true->l.getD m'.i true = true -> ∀ g,blkOf (f m.N) = some g->blkOf (f m'.N) ≠ some g)->wpAnyLast P md ops Q S ds (fuel + n) l (fillF a (ms.map Mk.N) f) w
 | 0,l,f,w,hk,hj,hr,hx=>by
  simp only [okM,Bool.and_eq_true,beq_iff_eq,List.all_eq_true] at hk
  obtain ⟨rfl,hk⟩:=hk
  have hd : ∀ m ∈ ms,l.getD m.i true = true:=fun m hm=>by
   have h1:=hk m.i (List.mem_map_of_mem hm)
   rcases Nat.lt_or_ge m.i l.size with h' | h'
   ·simp [h'] at h1 ⊢; exact h1
   ·simp [Array.getElem?_eq_none h'] at h1
  exact hcont f w hj (fun m hm=>hr m hm (hd m hm)) (fun m hm m' hm' hn=>hx m hm m' hm' hn (hd m hm) (hd m' hm'))
 | n + 1,l,f,w,hk,hj,hr,hx=>by
  simp only [okM,Bool.and_eq_true,bne_iff_ne,List.all_eq_true] at hk
  obtain ⟨hne,hk⟩:=hk
  refine wpAnyLast_all rfl hne (fun i hi=>?_)
  have h1:=hk i hi
  simp only [Bool.not_eq_true',List.contains_iff_mem,beq_iff_eq] at h1
  obtain ⟨h2,h3,h4,h5⟩:=h1
  obtain ⟨m,hm,rfl⟩:=List.mem_map.1 h2
  obtain ⟨o,ho,hst⟩:=hstep m hm
  have hnd : (ms.map Mk.N).Nodup:=by
   unfold List.Nodup
   rw [List.pairwise_map]
   exact hp.imp (fun h=>h.1)
  have hor:=pair_or (fun x y h=>⟨h.1.symm,h.2.symm⟩) hp
  refine wpOp_step ho (fun K' hK=>hst f w hj K' (fun v w' hv hb hf=>hK _ w' ⟨fun _ _=>hJS w' (hJ w w' hj hb),?_⟩))
  rw [fill_upd _ _ _ _ _ hnd (List.mem_map_of_mem hm)]
  have hold : ∀ m' ∈ ms,m' ≠ m->upd f m.N v m'.N = f m'.N /\ ∀ b,(l.setIfInBounds m.i true).getD m'.i b = l.getD m'.i b:=fun m' hm' hne=>by
   rcases hor m' hm' m hm with e | e
   ·exact absurd e hne
   ·exact ⟨by simp only [upd,if_neg e.1],fun b=>getD_set_ne b (Ne.symm e.2)⟩
  have hnew : upd f m.N v m.N = v:=by simp only [upd,if_true]
  refine makers ms a J lf fuel hp hJ hJS hR hlt hstep hcont n _ _ w' h5 (hJ w w' hj hb) (fun m' hm' hd=>?_) (fun m1 hm1 m2 hm2 hn hd1 hd2 g hg=>?_)
  ·by_cases e : m' = m
   ·subst e; rw [hnew]; exact hv
   ·obtain ⟨e1,e2⟩:=hold m' hm' e
    rw [e1]; rw [e2] at hd
    exact hR m' hm' _ w w' (hr m' hm' hd) hb
  ·by_cases e1 : m1 = m
   ·subst e1
    have e2 : m2 ≠ m1:=fun e=>hn (by rw [e])
    obtain ⟨f2,l2⟩:=hold m2 hm2 e2
    rw [hnew] at hg; rw [f2]; rw [l2] at hd2
    intro hg2
    have := hlt m2 hm2 _ w (hr m2 hm2 hd2) g hg2
    have := hf g hg
    omega
   ·obtain ⟨f1,l1⟩:=hold m1 hm1 e1
    rw [f1] at hg; rw [l1] at hd1
    by_cases e2 : m2 = m
    ·subst e2
     rw [hnew]
     intro hg2
     have := hlt m1 hm1 _ w (hr m1 hm1 hd1) g hg
     have := hf g hg2
     omega
    ·obtain ⟨f2,l2⟩:=hold m2 hm2 e2
     rw [f2]; rw [l2] at hd2
     exact hx m1 hm1 m2 hm2 hn hd1 hd2 g hg
theorem put_self (a : Act) (n : Tmp) : a.put (some n) (a.tmps.getD n undef) = a:=by
 obtain ⟨t,d⟩:=a
 simp only [Act.put]
 congr 1
 rcases Nat.lt_or_ge n t.size with h | h
 ·simp [Array.setIfInBounds,h]
 ·simp [Array.setIfInBounds,Nat.not_lt.2 h]
theorem fill_self : ∀ (ns : List Tmp) (a : Act),fillF a ns (fun n=>a.tmps.getD n undef) = a
 | [],_=>rfl
 | n :: ns,a=>by
  rw [fillF,put_self]
  exact fill_self ns a
theorem R_free {ik : IntKind} {e : Nat} {w : World} {base : Nat} {ok : Nat->Prop} {v : Value} {xs : List Int} (h : Kd.R (Kd.int ik) e w base ok v xs) : Kd.R (Kd.int ik) e w base (fun _=>True) v xs:=Kd.R_mono h (fun _ _=>trivial)
theorem R_ok {ik : IntKind} {e : Nat} {w : World} {base : Nat} {ok ok' : Nat->Prop} {v : Value} {xs : List Int} (h : Kd.R (Kd.int ik) e w base ok v xs) (ho : ∀ k,v.ownBlock = some k->ok' k) : Kd.R (Kd.int ik) e w base ok' v xs :=
 ⟨ho,h.2.imp_ (fun _ _ hp=>hp)⟩
theorem pair2 {a : Act} {w0 : World} {lf l : Array Bool} {fuel : Nat} (i1 i3 i4 i5 : Nat) (N1 N3 N4 N5 : Tmp) (base : Nat) {ik1 ik3 : IntKind} {e1 e3 : Nat} {xs1 xs3 : List Int} (b1 n1 b3 n3 : Value) (Z : Array Value) (t : TypeId)
  {o1 o3 o4 o5 : Oper} (hb0 : base<=w0.heap.size) (hS : ∀ w',Below w0.heap.size w0 w'->S w')
  (h1 : ∀ (f : Tmp->Value) w',Below w0.heap.size w0 w' -> ∀ K : Act->World->Prop,(∀ u w'' ok,Kd.R (Kd.int ik1) e1 w'' w'.heap.size ok u xs1->Below w'.heap.size w' w''->K ((fillF a [N1,N3,N4,N5] f).put (some N1) (.agg #[b1,u,n1])) w'') ->
   if Region.wanted o1 (yielded ops (fillF a [N1,N3,N4,N5] f).tmps) = true then Oper.wp P o1 (fillF a [N1,N3,N4,N5] f) w' K Q else K ((fillF a [N1,N3,N4,N5] f).put (some N1) undef) w')
  (h3 : ∀ (f : Tmp->Value) w',Below w0.heap.size w0 w' -> ∀ K : Act->World->Prop,(∀ u w'' ok,Kd.R (Kd.int ik3) e3 w'' w'.heap.size ok u xs3->Below w'.heap.size w' w''->K ((fillF a [N1,N3,N4,N5] f).put (some N3) (.agg #[b3,u,n3])) w'') ->
   if Region.wanted o3 (yielded ops (fillF a [N1,N3,N4,N5] f).tmps) = true then Oper.wp P o3 (fillF a [N1,N3,N4,N5] f) w' K Q else K ((fillF a [N1,N3,N4,N5] f).put (some N3) undef) w')
  (hcont : ∀ u1 u3 g4 g5 w',Below w0.heap.size w0 w'->Kd.R (Kd.int ik1) e1 w' base (fun k=>some k ≠ u3.ownBlock) u1 xs1->Kd.R (Kd.int ik3) e3 w' base (fun k=>some k ≠ u1.ownBlock) u3 xs3 ->
   w'.heap[g4]? = some (.cells Z t (0,0))->w'.heap[g5]? = some (.cells Z t (0,0))->w0.heap.size<=g4->w0.heap.size<=g5->g4 ≠ g5 ->
   wpAnyLast P md ops Q S ds fuel lf (putAll a [(N1,.agg #[b1,u1,n1]),(N3,.agg #[b3,u3,n3]),(N4,.pointer (some ⟨g4,0,none⟩)),(N5,.pointer (some ⟨g5,0,none⟩))]) w')
  (q1 : ops[i1]? = some o1:=by rfl) (q3 : ops[i3]? = some o3:=by rfl) (q4 : ops[i4]? = some o4:=by rfl) (q5 : ops[i5]? = some o5:=by rfl)
  (d1 : o1.dst = some N1:=by rfl) (d3 : o3.dst = some N3:=by rfl) (d4 : o4.dst = some N4:=by rfl) (d5 : o5.dst = some N5:=by rfl)
  (hw4 : ∀ y,Region.wanted o4 y = true:=by intro y; rfl) (hw5 : ∀ y,Region.wanted o5 y = true:=by intro y; rfl)
  (hr4 : ∀ (a : Act) (w : World),(execOp a.eval o4).run P w = .ok (.value (.pointer (some ⟨w.heap.size,0,none⟩))) (w.alloc (.cells Z t (0,0))):=by intro a w; first | (go_simp; done) | (go_simp; rfl))
  (hr5 : ∀ (a : Act) (w : World),(execOp a.eval o5).run P w = .ok (.value (.pointer (some ⟨w.heap.size,0,none⟩))) (w.alloc (.cells Z t (0,0))):=by intro a w; first | (go_simp; done) | (go_simp; rfl))
  (hn : ((N1 != N3 && N1 != N4 && N1 != N5 && N3 != N4 && N3 != N5 && N4 != N5) && (i1 != i3 && i1 != i4 && i1 != i5 && i3 != i4 && i3 != i5 && i4 != i5)) = true:=by rfl)
  (hck : (okM md ops ds [i1,i3,i4,i5] lf 4 l && (l.getD i1 true == false && (l.getD i3 true == false && (l.getD i4 true == false && l.getD i5 true == false)))) = true:=by kernel_rfl) :
  wpAnyLast P md ops Q S ds (fuel + 4) l a w0:=by
 simp only [Bool.and_eq_true,beq_iff_eq,bne_iff_ne,ne_eq] at hck hn
 obtain ⟨hck,c1,c3,c4,c5⟩:=hck
 obtain ⟨⟨⟨⟨⟨⟨m1,m2⟩,m3⟩,m4⟩,m5⟩,m6⟩,⟨⟨⟨⟨j1,j2⟩,j3⟩,j4⟩,j5⟩,j6⟩:=hn
 have bstep : ∀ (o : Oper) (N : Tmp),o.dst = some N->(∀ y,Region.wanted o y = true)->(∀ (a : Act) (w : World),(execOp a.eval o).run P w = .ok (.value (.pointer (some ⟨w.heap.size,0,none⟩))) (w.alloc (.cells Z t (0,0)))) ->
   ∀ (a' : Act) (w : World),Below w0.heap.size w0 w -> ∀ K : Act->World->Prop,(∀ v w',(∃ g,v = Value.pointer (some ⟨g,0,none⟩)/\w'.heap[g]? = some (.cells Z t (0,0))/\w0.heap.size<=g)->Below w.heap.size w w'->(∀ g,blkOf v = some g->w.heap.size<=g)->K (a'.put (some N) v) w') ->
   if Region.wanted o (yielded ops a'.tmps) = true then Oper.wp P o a' w K Q else K (a'.put o.dst undef) w:=by
  intro o N hd hw hr a' w hb K hK
  refine box_step (hw _) hd (hr a' w) (fun g hg w1 hbox hb1=>?_)
  rw [hd]
  subst hg
  exact hK _ w1 ⟨_,rfl,hbox,(below_size hb)⟩ hb1 (fun g hg=>by simp only [blkOf,Option.some.injEq] at hg; omega)
 have key:=makers (P:=P) (ops:=ops) (Q:=Q) (md:=md) (S:=S) (ds:=ds)
  [⟨i1,N1,fun v w' => ∃ u,v = .agg #[b1,u,n1]/\Kd.R (Kd.int ik1) e1 w' base (fun _=>True) u xs1⟩,⟨i3,N3,fun v w' => ∃ u,v = .agg #[b3,u,n3]/\Kd.R (Kd.int ik3) e3 w' base (fun _=>True) u xs3⟩,
   ⟨i4,N4,fun v w' => ∃ g,v = .pointer (some ⟨g,0,none⟩)/\w'.heap[g]? = some (.cells Z t (0,0))/\w0.heap.size<=g⟩,⟨i5,N5,fun v w' => ∃ g,v = .pointer (some ⟨g,0,none⟩)/\w'.heap[g]? = some (.cells Z t (0,0))/\w0.heap.size<=g⟩]
  a (fun w'=>Below w0.heap.size w0 w') lf fuel
  (by simp [m1,m2,m3,m4,m5,m6,j1,j2,j3,j4,j5,j6])
  (fun w w' h hb=>below_step h hb) hS
  (by
   intro m hm v w w' hv hb
   simp only [List.mem_cons,List.not_mem_nil,or_false] at hm
   rcases hm with rfl | rfl | rfl | rfl
   ·obtain ⟨u,rfl,h⟩:=hv; exact ⟨u,rfl,Kd.R_below h hb⟩
   ·obtain ⟨u,rfl,h⟩:=hv; exact ⟨u,rfl,Kd.R_below h hb⟩
   ·obtain ⟨g,rfl,h,h2⟩:=hv; exact ⟨g,rfl,blk_below h hb,h2⟩
   ·obtain ⟨g,rfl,h,h2⟩:=hv; exact ⟨g,rfl,blk_below h hb,h2⟩)
  (by
   intro m hm v w hv g hg
   simp only [List.mem_cons,List.not_mem_nil,or_false] at hm
   rcases hm with rfl | rfl | rfl | rfl
   ·obtain ⟨u,rfl,h⟩:=hv; exact Kd.R_lt h g (by simpa [blkOf] using hg)
   ·obtain ⟨u,rfl,h⟩:=hv; exact Kd.R_lt h g (by simpa [blkOf] using hg)
   ·obtain ⟨g',rfl,h,h2⟩:=hv
    obtain rfl : g' = g:=by simpa [blkOf] using hg
    exact blk_lt h
   ·obtain ⟨g',rfl,h,h2⟩:=hv
    obtain rfl : g' = g:=by simpa [blkOf] using hg
    exact blk_lt h)
  (by
   intro m hm
   simp only [List.mem_cons,List.not_mem_nil,or_false] at hm
   rcases hm with rfl | rfl | rfl | rfl
   ·refine ⟨o1,q1,fun f w hb K hK=>?_⟩
    rw [d1]
    exact h1 f w hb K (fun u w'' ok hr hb2=>hK _ w'' ⟨u,rfl,R_free (Kd.R_lower hr (Nat.le_trans hb0 (below_size hb)))⟩ hb2 (fun g hg=>Kd.R_base hr g (by simpa [blkOf] using hg)))
   ·refine ⟨o3,q3,fun f w hb K hK=>?_⟩
    rw [d3]
    exact h3 f w hb K (fun u w'' ok hr hb2=>hK _ w'' ⟨u,rfl,R_free (Kd.R_lower hr (Nat.le_trans hb0 (below_size hb)))⟩ hb2 (fun g hg=>Kd.R_base hr g (by simpa [blkOf] using hg)))
   ·exact ⟨o4,q4,fun f w hb K hK=>bstep o4 N4 d4 hw4 hr4 _ w hb K hK⟩
   ·exact ⟨o5,q5,fun f w hb K hK=>bstep o5 N5 d5 hw5 hr5 _ w hb K hK⟩)
  (by
   intro f w hb hR hX
   obtain ⟨u1,e1',r1⟩:=hR _ List.mem_cons_self
   obtain ⟨u3,e3',r3⟩:=hR _ (List.mem_cons_of_mem _ List.mem_cons_self)
   obtain ⟨g4,e4',b4,s4⟩:=hR _ (List.mem_cons_of_mem _ (List.mem_cons_of_mem _ List.mem_cons_self))
   obtain ⟨g5,e5',b5,s5⟩:=hR _ (List.mem_cons_of_mem _ (List.mem_cons_of_mem _ (List.mem_cons_of_mem _ List.mem_cons_self)))
   have x13:=hX _ List.mem_cons_self _ (List.mem_cons_of_mem _ List.mem_cons_self) m1
   have x45:=hX _ (List.mem_cons_of_mem _ (List.mem_cons_of_mem _ List.mem_cons_self)) _ (List.mem_cons_of_mem _ (List.mem_cons_of_mem _ (List.mem_cons_of_mem _ List.mem_cons_self))) m6
   dsimp only at e1' e3' e4' e5' x13 x45
   rw [e1',e3'] at x13
   rw [e4',e5'] at x45
   have := hcont u1 u3 g4 g5 w hb (R_ok r1 (fun k hk he=>x13 k (by simpa [blkOf] using hk) (by simpa [blkOf] using he.symm))) (R_ok r3 (fun k hk he=>x13 k (by simpa [blkOf] using he.symm) (by simpa [blkOf] using hk))) b4 b5 s4 s5
    (fun he=>x45 g4 (by simp [blkOf]) (by simp [blkOf,he]))
   simp only [List.map_cons,List.map_nil,fillF,e1',e3',e4',e5']
   exact this)
  4 l (fun n=>a.tmps.getD n undef) w0 hck (Below.refl _ _)
  (by
   intro m hm hd
   simp only [List.mem_cons,List.not_mem_nil,or_false] at hm
   rcases hm with rfl | rfl | rfl | rfl
   ·rw [c1] at hd; cases hd
   ·rw [c3] at hd; cases hd
   ·rw [c4] at hd; cases hd
   ·rw [c5] at hd; cases hd)
  (by
   intro m hm m' hm' hne hd
   simp only [List.mem_cons,List.not_mem_nil,or_false] at hm
   rcases hm with rfl | rfl | rfl | rfl
   ·rw [c1] at hd; cases hd
   ·rw [c3] at hd; cases hd
   ·rw [c4] at hd; cases hd
   ·rw [c5] at hd; cases hd)
 rw [fill_self] at key
 exact key
theorem nW {w0 : World} {k g : Nat} {o : Obj} (h : Aside0 (w0.heap[k]? = some o)) (m : w0.heap.size<=g) : k ≠ g:=Nat.ne_of_lt (Nat.lt_of_lt_of_le (blk_lt h.out) m)
theorem nV {w0 : World} {k g : Nat} {o : Obj} (h : Aside0 (w0.heap[k]? = some o)) (m : w0.heap.size<=g) : g ≠ k:=Ne.symm (nW h m)
end
end YtjbjkmccfocikaaGreatDoor.B
end
section
namespace YtjbjkmccfocikaaGreatDoor.B
open Go.RowKit YtjbjkmccfocikaaGreatDoorW.PrintWords YtjbjkmccfocikaaGreatDoorW.PrintLast YtjbjkmccfocikaaGreatDoorW.PrintMore
attribute [local go_sem] max2_int min2_int max_two min_two max_three min_three max_four min_four
mutual
def bolterref02_Same.j0 : Nat->Bool->Bool->List Int->Int->Bool->List Int->Int->Option (Bool)
 | 0,_,_,_,_,_,_,_=>none
 | k + 1,x26,x696000,x696001,x696002,x697000,x697001,x697002=>if x26 = true then (some false) else (bolterref02_Same.l0 k 0 x696000 x696001 x696002 x697000 x697001 x697002)
def bolterref02_Same.l0 : Nat->Int->Bool->List Int->Int->Bool->List Int->Int->Option (Bool)
 | 0,_,_,_,_,_,_,_=>none
 | k + 1,x5,x696000,x696001,x696002,x697000,x697001,x697002=>if x5 < (x696001.length : Int) then (if 0<=x5 then (if x5 < (x697001.length : Int) then (if (rd x696001 x5) = (rd x697001 x5) then (bolterref02_Same.l0 k (wrap64 (x5 + 1)) x696000 x696001 x696002 x697000 x697001 x697002) else (some false)) else (none)) else (none)) else (some true)
end
def bolterref02_Same.f (k : Nat) (a0_0 : Bool) (l0_1 : List Int) (a0_2 : Int) (a1_0 : Bool) (l1_1 : List Int) (a1_2 : Int) : Option (Bool):=if (a0_0 != a1_0) = true then (bolterref02_Same.j0 k true a0_0 l0_1 a0_2 a1_0 l1_1 a1_2) else (if a0_2 = a1_2 then (bolterref02_Same.j0 k ((l0_1.length : Int) != (l1_1.length : Int)) a0_0 l0_1 a0_2 a1_0 l1_1 a1_2) else (bolterref02_Same.j0 k true a0_0 l0_1 a0_2 a1_0 l1_1 a1_2))
theorem bolterref02_Same.calls (k : Nat) (a0_0 : Bool) (A0_1 : Option Addr) (c0_1 : Nat) (l0_1 : List Int) (a0_2 : Int) (a1_0 : Bool) (A1_1 : Option Addr) (c1_1 : Nat) (l1_1 : List Int) (a1_2 : Int) (r : Bool) (w : World) (hr0_1 : Kd.C (Kd.int .u32) w A0_1 l0_1.length l0_1) (hc0_1 : l0_1.length<=c0_1) (hr1_1 : Kd.C (Kd.int .u32) w A1_1 l1_1.length l1_1) (hc1_1 : l1_1.length<=c1_1) (h : bolterref02_Same.f k a0_0 l0_1 a0_2 a1_0 l1_1 a1_2 = some r) :
  Calls Tryz.prog 21 #[.agg #[.bool a0_0,.slice A0_1 l0_1.length c0_1,.int .i64 a0_2],.agg #[.bool a1_0,.slice A1_1 l1_1.length c1_1,.int .i64 a1_2]] w fun e w'=>e = .returned (.bool r)/\Below w.heap.size w w':=by
 have hu24:=Tryz.underlying24
 have HR0_1:=am hr0_1
 have HC0_1:=am hc0_1
 clear hr0_1 hc0_1
 have HR1_1:=am hr1_1
 have HC1_1:=am hc1_1
 clear hr1_1 hc1_1
 have HB:=am (Below.refl w.heap.size w)
 have H : (if (a0_0 != a1_0) = true then (bolterref02_Same.j0 k true a0_0 l0_1 a0_2 a1_0 l1_1 a1_2) else (if a0_2 = a1_2 then (bolterref02_Same.j0 k ((l0_1.length : Int) != (l1_1.length : Int)) a0_0 l0_1 a0_2 a1_0 l1_1 a1_2) else (bolterref02_Same.j0 k true a0_0 l0_1 a0_2 a1_0 l1_1 a1_2))) = some r:=h
 clear h
 have HC3:=am H
 clear H
 go_enter Tryz.func21,Tryz.ntmps21
 go_upto_region 1 with (first | ((with_reducible refine gd 2 ?_); (try (refine gate_guard (by rfl) ?_; dsimp only)); refine bx 2 #[.bool a0_0,.slice A0_1 l0_1.length c0_1,.int .i64 a0_2] 24 (h:=?_); intro gb695 hg w4 hbox hb; have BK695:=am hbox; have GW695:=gW hg; have GE695:=gW hg; replace HB:=bS hb; clear hb hbox hg) | ((with_reducible refine gd 3 ?_); (try (refine gate_guard (by rfl) ?_; dsimp only)); refine bx 3 #[.bool a1_0,.slice A1_1 l1_1.length c1_1,.int .i64 a1_2] 24 (h:=?_); intro gb696 hg w5 hbox hb; have BK696:=am hbox; have GW696:=gW hg; have GE696:=gW hg; have NB695_696:=nL hg BK695; have NB696_695:=nG hg BK695; replace BK695:=bb BK695 hb; replace HB:=bS hb; clear hb hbox hg))
 repeat (go_quiet (first | ((with_reducible refine gd 2 ?_); (try (refine gate_guard (by rfl) ?_; dsimp only)); refine bx 2 #[.bool a0_0,.slice A0_1 l0_1.length c0_1,.int .i64 a0_2] 24 (h:=?_); intro gb695 hg w4 hbox hb; have BK695:=am hbox; have GW695:=gW hg; have GE695:=gW hg; replace HB:=bS hb; clear hb hbox hg) | ((with_reducible refine gd 3 ?_); (try (refine gate_guard (by rfl) ?_; dsimp only)); refine bx 3 #[.bool a1_0,.slice A1_1 l1_1.length c1_1,.int .i64 a1_2] 24 (h:=?_); intro gb696 hg w5 hbox hb; have BK696:=am hbox; have GW696:=gW hg; have GE696:=gW hg; have NB695_696:=nL hg BK695; have NB696_695:=nG hg BK695; replace BK695:=bb BK695 hb; replace HB:=bS hb; clear hb hbox hg)); go_upto_region 1 with (first | ((with_reducible refine gd 2 ?_); (try (refine gate_guard (by rfl) ?_; dsimp only)); refine bx 2 #[.bool a0_0,.slice A0_1 l0_1.length c0_1,.int .i64 a0_2] 24 (h:=?_); intro gb695 hg w4 hbox hb; have BK695:=am hbox; have GW695:=gW hg; have GE695:=gW hg; replace HB:=bS hb; clear hb hbox hg) | ((with_reducible refine gd 3 ?_); (try (refine gate_guard (by rfl) ?_; dsimp only)); refine bx 3 #[.bool a1_0,.slice A1_1 l1_1.length c1_1,.int .i64 a1_2] 24 (h:=?_); intro gb696 hg w5 hbox hb; have BK696:=am hbox; have GW696:=gW hg; have GE696:=gW hg; have NB695_696:=nL hg BK695; have NB696_695:=nG hg BK695; replace BK695:=bb BK695 hb; replace HB:=bS hb; clear hb hbox hg)))
 (try simp only [Act.put,List.setIfInBounds_toArray,List.set_cons_zero,List.set_cons_succ])
 go_cut [26] (fun v26 wc => ∃ (kq : Nat) (x26_2 : Bool),v26 = .bool x26_2/\Aside0 (bolterref02_Same.j0 kq x26_2 a0_0 l0_1 a0_2 a1_0 l1_1 a1_2 = some r)/\Aside0 (kq<=k)/\Aside0 (wc.heap[gb695]? = some (.cells #[.bool a0_0,(.slice A0_1 l0_1.length c0_1),.int .i64 a0_2] 24 (0,0)))/\Aside0 (wc.heap[gb696]? = some (.cells #[.bool a1_0,(.slice A1_1 l1_1.length c1_1),.int .i64 a1_2] 24 (0,0)))/\Aside0 (Below w.heap.size w wc))
 case first =>
  have H:=HC3.out
  clear HC3
  by_cases c6 : (a0_0 != a1_0) = true
  ·rw [if_pos c6] at H
   have c6b0 : (a0_0 != a1_0) = true:=c6
   (try (have c6b1 : decide (a0_0 = a1_0) = false:=by simpa using c6))
   (try (have c6b2 : (a0_0 == a1_0) = false:=by simpa using c6))
   (try (have c6b3 : ¬ (a0_0 = a1_0):=by simpa using c6))
   clear c6
   (first | rw [c6b0] | (simp only [i64_w,i32_w]; rw [c6b0]) | skip)
   have H':=am H
   clear H
   have hnb7:=NB695_696.out
   have hnc7:=NB696_695.out
   obtain ⟨hcz8_0,hcz8_1,hcz8_2,hfz8_0,hfz8_1,hfz8_2⟩:=cEc BK695.out
   obtain ⟨hcz9_0,hcz9_1,hcz9_2,hfz9_0,hfz9_1,hfz9_2⟩:=cEc BK696.out
   go_wp2
   repeat (go_quiet (fail); try go_wp2)
   go_meet
   case rel=>exact ⟨_,(true),pR,H',⟨by first | omega | exact Nat.le_refl _⟩,⟨blk_below BK695.out pl⟩,⟨blk_below BK696.out pl⟩,⟨pB⟩⟩
  ·rw [if_neg c6] at H
   have c6b0 : (a0_0 != a1_0) = false:=by simpa using c6
   (try (have c6b1 : decide (a0_0 = a1_0) = true:=by simpa using c6))
   (try (have c6b2 : (a0_0 == a1_0) = true:=by simpa using c6))
   clear c6
   (first | rw [c6b0] | (simp only [i64_w,i32_w]; rw [c6b0]) | skip)
   by_cases c10 : a0_2 = a1_2
   ·rw [if_pos c10] at H
    have c10b0 : (a0_2 == a1_2) = true:=beq_iff_eq.mpr c10
    have c10b1 : (a0_2 != a1_2) = false:=bne_eq_false_iff_eq.mpr c10
    clear c10
    have H':=am H
    clear H
    have hnb11:=NB695_696.out
    have hnc11:=NB696_695.out
    obtain ⟨hcz12_0,hcz12_1,hcz12_2,hfz12_0,hfz12_1,hfz12_2⟩:=cEc BK695.out
    obtain ⟨hcz13_0,hcz13_1,hcz13_2,hfz13_0,hfz13_1,hfz13_2⟩:=cEc BK696.out
    go_wp2
    repeat (go_quiet (fail); try go_wp2)
    go_meet
    case rel=>exact ⟨_,(((l0_1.length : Int) != (l1_1.length : Int))),pR,H',⟨by first | omega | exact Nat.le_refl _⟩,⟨blk_below BK695.out pl⟩,⟨blk_below BK696.out pl⟩,⟨pB⟩⟩
   ·rw [if_neg c10] at H
    have c10b0 : (a0_2 == a1_2) = false:=beq_eq_false_iff_ne.mpr c10
    have c10b1 : (a0_2 != a1_2) = true:=bne_iff_ne.mpr c10
    have H':=am H
    clear H
    have hnb14:=NB695_696.out
    have hnc14:=NB696_695.out
    obtain ⟨hcz15_0,hcz15_1,hcz15_2,hfz15_0,hfz15_1,hfz15_2⟩:=cEc BK695.out
    obtain ⟨hcz16_0,hcz16_1,hcz16_2,hfz16_0,hfz16_1,hfz16_2⟩:=cEc BK696.out
    go_wp2
    repeat (go_quiet (fail); try go_wp2)
    go_meet
    case rel=>exact ⟨_,(true),pR,H',⟨by first | omega | exact Nat.le_refl _⟩,⟨blk_below BK695.out pl⟩,⟨blk_below BK696.out pl⟩,⟨pB⟩⟩
 case rest =>
  clear HC3
  obtain ⟨kq,x26_2,rfl,HA,HJ2,BK695,BK696,HB⟩:=hcut
  cases kq with
  | zero=>exact absurd HA.out (by simp [bolterref02_Same.j0])
  | succ kj2 =>
   have H:=HA.out
   clear HA
   simp only [bolterref02_Same.j0] at H
   by_cases c17 : x26_2 = true
   ·subst c17
    rw [if_pos rfl] at H
    obtain rfl:=Option.some.inj H
    go_wp2
    repeat (go_quiet (fail); try go_wp2)
    go_ret
    exact ⟨pE,pB⟩
   ·replace c17:=Bool.eq_false_iff.mpr c17
    subst c17
    rw [if_neg (show ¬ (false = true) by decide)] at H
    have H':=am H
    clear H
    go_wp2
    repeat (go_quiet (fail); try go_wp2)
    go_loopg [5] kj2 (fun kq v5 w' => ∃ (x5_2 : Int),v5 = .int .i64 x5_2/\Aside0 (bolterref02_Same.l0 kq x5_2 a0_0 l0_1 a0_2 a1_0 l1_1 a1_2 = some r)/\Aside0 (kq<=kj2)/\Aside0 (w'.heap[gb695]? = some (.cells #[.bool a0_0,(.slice A0_1 l0_1.length c0_1),.int .i64 a0_2] 24 (0,0)))/\Aside0 (w'.heap[gb696]? = some (.cells #[.bool a1_0,(.slice A1_1 l1_1.length c1_1),.int .i64 a1_2] 24 (0,0)))/\Aside0 (Below w.heap.size w w'))
    case atStart=>exact ⟨(0),pR,H',⟨Nat.le_refl _⟩,⟨blk_below BK695.out pl⟩,⟨blk_below BK696.out pl⟩,⟨pB⟩⟩
    case round =>
     clear H'
     obtain ⟨x5_2,rfl,HA,HK2,BK695,BK696,HB⟩:=hrel
     cases gk with
     | zero=>exact absurd HA.out (by simp [bolterref02_Same.l0])
     | succ k2 =>
      have H:=HA.out
      clear HA
      simp only [bolterref02_Same.l0] at H
      by_cases c18 : x5_2 < (l0_1.length : Int)
      ·rw [if_pos c18] at H
       have c18b0 : decide (x5_2 < (l0_1.length : Int)) = true:=decide_eq_true c18
       clear c18
       by_cases c19 : 0<=x5_2
       ·rw [if_pos c19] at H
        have c19b0 : decide (0<=x5_2) = true:=decide_eq_true c19
        clear c19
        by_cases c20 : x5_2 < (l1_1.length : Int)
        ·rw [if_pos c20] at H
         have c20b0 : decide (x5_2 < (l1_1.length : Int)) = true:=decide_eq_true c20
         clear c20
         by_cases c21 : (rd l0_1 x5_2) = (rd l1_1 x5_2)
         ·rw [if_pos c21] at H
          have c21b0 : ((rd l0_1 x5_2) == (rd l1_1 x5_2)) = true:=beq_iff_eq.mpr c21
          have c21b1 : ((rd l0_1 x5_2) != (rd l1_1 x5_2)) = false:=bne_eq_false_iff_eq.mpr c21
          clear c21
          have H':=am H
          clear H
          have hnb22:=NB695_696.out
          have hnc22:=NB696_695.out
          obtain ⟨hcz23_0,hcz23_1,hcz23_2,hfz23_0,hfz23_1,hfz23_2⟩:=cEc BK695.out
          have p697 : 0<=(x5_2 : Int):=of_decide_eq_true pQ
          have q697 : x5_2 < (l0_1.length : Int):=of_decide_eq_true pQ
          obtain ⟨ad697,e697,hx697_0⟩:=Kd.at_int HR0_1.out x5_2 p697 q697
          cases e697
          replace hx697_0:=(HB.out.cell (World.block_lt_of_cell? w _ hx697_0)).trans hx697_0
          replace p697:=eq_true p697
          replace q697:=eq_true q697
          obtain ⟨hcz24_0,hcz24_1,hcz24_2,hfz24_0,hfz24_1,hfz24_2⟩:=cEc BK696.out
          have p698 : 0<=(x5_2 : Int):=of_decide_eq_true pQ
          have q698 : x5_2 < (l1_1.length : Int):=of_decide_eq_true pQ
          obtain ⟨ad698,e698,hx698_0⟩:=Kd.at_int HR1_1.out x5_2 p698 q698
          cases e698
          replace hx698_0:=(HB.out.cell (World.block_lt_of_cell? w _ hx698_0)).trans hx698_0
          replace p698:=eq_true p698
          replace q698:=eq_true q698
          go_wp2
          repeat (go_quiet (fail); try go_wp2)
          go_roundg k2
          case measure=>have := HJ2.out; have := HK2.out; omega
          case rel=>exact ⟨(wrap64 (x5_2 + 1)),pR,H',⟨by have := HJ2.out; have := HK2.out; omega⟩,⟨blk_below BK695.out pl⟩,⟨blk_below BK696.out pl⟩,⟨pB⟩⟩
         ·rw [if_neg c21] at H
          have c21b0 : ((rd l0_1 x5_2) == (rd l1_1 x5_2)) = false:=beq_eq_false_iff_ne.mpr c21
          have c21b1 : ((rd l0_1 x5_2) != (rd l1_1 x5_2)) = true:=bne_iff_ne.mpr c21
          obtain rfl:=Option.some.inj H
          have hnb25:=NB695_696.out
          have hnc25:=NB696_695.out
          obtain ⟨hcz26_0,hcz26_1,hcz26_2,hfz26_0,hfz26_1,hfz26_2⟩:=cEc BK695.out
          have p697 : 0<=(x5_2 : Int):=of_decide_eq_true pQ
          have q697 : x5_2 < (l0_1.length : Int):=of_decide_eq_true pQ
          obtain ⟨ad697,e697,hx697_0⟩:=Kd.at_int HR0_1.out x5_2 p697 q697
          cases e697
          replace hx697_0:=(HB.out.cell (World.block_lt_of_cell? w _ hx697_0)).trans hx697_0
          replace p697:=eq_true p697
          replace q697:=eq_true q697
          obtain ⟨hcz27_0,hcz27_1,hcz27_2,hfz27_0,hfz27_1,hfz27_2⟩:=cEc BK696.out
          have p698 : 0<=(x5_2 : Int):=of_decide_eq_true pQ
          have q698 : x5_2 < (l1_1.length : Int):=of_decide_eq_true pQ
          obtain ⟨ad698,e698,hx698_0⟩:=Kd.at_int HR1_1.out x5_2 p698 q698
          cases e698
          replace hx698_0:=(HB.out.cell (World.block_lt_of_cell? w _ hx698_0)).trans hx698_0
          replace p698:=eq_true p698
          replace q698:=eq_true q698
          go_wp2
          repeat (go_quiet (fail); try go_wp2)
          go_ret
          exact ⟨pE,pB⟩
        ·rw [if_neg c20] at H
         exact absurd H (by simp)
       ·rw [if_neg c19] at H
        exact absurd H (by simp)
      ·rw [if_neg c18] at H
       have c18b0 : decide (x5_2 < (l0_1.length : Int)) = false:=decide_eq_false c18
       clear c18
       obtain rfl:=Option.some.inj H
       have hnb28:=NB695_696.out
       have hnc28:=NB696_695.out
       obtain ⟨hcz29_0,hcz29_1,hcz29_2,hfz29_0,hfz29_1,hfz29_2⟩:=cEc BK695.out
       go_wp2
       repeat (go_quiet (fail); try go_wp2)
       go_ret
       exact ⟨pE,pB⟩
def bolterref02_Add.f (k : Nat) (a0_0 : Bool) (l0_1 : List Int) (a0_2 : Int) (a1_0 : Bool) (l1_1 : List Int) (a1_2 : Int) : Option (Bool × List Int × Int × Int):=(bolterref02_checks.f k a0_0 l0_1 a0_2 a1_0 l1_1 a1_2).bind fun t940=>(if t940 = 0 then ((bolterref02_Of.f k a0_0 l0_1 a0_2).bind fun bt941=>((bolterref02_Of.f k a1_0 l1_1 a1_2).bind fun bt946=>((bolterref02_Sum.f k bt941.1 bt941.2.1 bt941.2.2 bt946.1 bt946.2.1 bt946.2.2).bind fun bt951=>((bolterref02_Made.f k bt951.1 bt951.2.1 bt951.2.2).bind fun bt956=>(some (bt956.1,bt956.2.1,bt956.2.2.1,bt956.2.2.2)))))) else (some (false,([] : List Int),0,9)))
def bolterref02_Add.T3 : Bool × List (List Nat × List Nat):=(true,[([],[]),([0],[0]),([],[]),([2,1],[2]),([1,3,3],[1,3]),([4,4],[4]),([5],[5]),([5],[5]),([6,5,0,1,2,3,4,5,6,7],[6]),([7,8,0,1,2,3,4,5,6,7,8],[7])])
def bolterref02_Add.B3 : List Nat:=[0,1,0,7,15,31,63,63,255,511]
theorem bolterref02_Add.tab3 : rtab .any (opsOf Tryz.f27 3) = bolterref02_Add.T3:=by kernel_rfl
theorem bolterref02_Add.bits3 : waitsOk bolterref02_Add.T3.2 bolterref02_Add.B3 = true:=by kernel_rfl
theorem bolterref02_Add.leaf {P : Prop} (h : P:=by
 go_enter Tryz.func27,Tryz.ntmps27
 try go_wp2_with (first | ((with_reducible refine gd 2 ?_); refine bx 2 #[.bool a0_0,.slice A0_1 l0_1.length c0_1,.int .i64 a0_2] 24 (h:=?_); intro gb0z hg w1z hbox hb; have BK2z:=am hbox; have GW3z:=gW hg; have GE4z:=gW hg; replace HB:=bS hb; clear hb hbox hg) | ((with_reducible refine gd 3 ?_); refine bx 3 #[.bool a1_0,.slice A1_1 l1_1.length c1_1,.int .i64 a1_2] 24 (h:=?_); intro gb5z hg w6z hbox hb; have BK7z:=am hbox; have GW8z:=gW hg; have GE9z:=gW hg; have NB10z:=nL hg BK2z; have NB11z:=nG hg BK2z; replace BK2z:=bb BK2z hb; replace HB:=bS hb; clear hb hbox hg) | ((with_reducible refine gd 4 ?_); refine bx 4 #[.bool false,.slice none 0 0,.int .i64 0] 24 (h:=?_); intro gb12z hg w13z hbox hb; have BK14z:=am hbox; have GW15z:=gW hg; have GE16z:=gW hg; have NB17z:=nL hg BK2z; have NB18z:=nG hg BK2z; have NB19z:=nL hg BK7z; have NB20z:=nG hg BK7z; replace BK2z:=bb BK2z hb; replace BK7z:=bb BK7z hb; replace HB:=bS hb; clear hb hbox hg; have hnb21z:=NB10z.out; have hnc22z:=NB11z.out; have hnb23z:=NB17z.out; have hnc24z:=NB18z.out; obtain ⟨hcz25z,hcz26z,hcz27z,hfz28z,hfz29z,hfz30z⟩:=cEc BK2z.out; have hnb31z:=NB19z.out; have hnc32z:=NB20z.out; obtain ⟨hcz33z,hcz34z,hcz35z,hfz36z,hfz37z,hfz38z⟩:=cEc BK7z.out) | ((have q_:=A8; clear q_); refine gL (some 8) Tryz.func64 #[.agg #[.bool a0_0,.slice A0_1 l0_1.length c0_1,.int .i64 a0_2],.agg #[.bool a1_0,.slice A1_1 l1_1.length c1_1,.int .i64 a1_2]] (h:=?_); (with_reducible refine (bolterref02_checks.calls k a0_0 _ _ l0_1 a0_2 a1_0 _ _ l1_1 a1_2 t940 _ ?side1 ?side2 ?side3 ?side4 A3.out).mono ?_); (case side1=>refine cp ?_; exact (Kd.C_below HR0_1.out HB.out)); (case side2=>exact HC0_1.out); (case side3=>refine cp ?_; exact (Kd.C_below HR1_1.out HB.out)); (case side4=>exact HC1_1.out); rintro e w39z ⟨rfl,hb⟩; refine ⟨_,rfl,?_⟩; replace BK2z:=bb BK2z hb; replace BK7z:=bb BK7z hb; replace BK14z:=bb BK14z hb; replace HB:=bS hb) | ((have q_ : (t940 != 0) = true:=c4b1; clear q_); refine gL (some 8) Tryz.func64 #[.agg #[.bool a0_0,.slice A0_1 l0_1.length c0_1,.int .i64 a0_2],.agg #[.bool a1_0,.slice A1_1 l1_1.length c1_1,.int .i64 a1_2]] (h:=?_); (with_reducible refine (bolterref02_checks.calls k a0_0 _ _ l0_1 a0_2 a1_0 _ _ l1_1 a1_2 t940 _ ?side1 ?side2 ?side3 ?side4 A3.out).mono ?_); (case side1=>refine cp ?_; exact (Kd.C_below HR0_1.out HB.out)); (case side2=>exact HC0_1.out); (case side3=>refine cp ?_; exact (Kd.C_below HR1_1.out HB.out)); (case side4=>exact HC1_1.out); rintro e w39z ⟨rfl,hb⟩; refine ⟨_,rfl,?_⟩; replace BK2z:=bb BK2z hb; replace BK7z:=bb BK7z hb; replace BK14z:=bb BK14z hb; replace HB:=bS hb; obtain ⟨hcz40z,hcz41z,hcz42z,hfz43z,hfz44z,hfz45z⟩:=cEc BK14z.out))
 first
  | have q_:=A8
    replace BK2z:=am (blk_drew BK2z.out)
    replace BK7z:=am (blk_drew BK7z.out)
    replace BK14z:=am (blk_drew BK14z.out)
    replace HB:=am (below_drew1 HB.out)
    refine start_ (n:=10) (S:=fun w'=>w'.cell? ⟨gb0z,0,none⟩ = some (.bool a0_0)/\w'.cell? ⟨gb0z,1,none⟩ = some (.slice A0_1 l0_1.length c0_1)/\w'.cell? ⟨gb0z,2,none⟩ = some (.int .i64 a0_2)/\w'.cell? ⟨gb5z,0,none⟩ = some (.bool a1_0)/\w'.cell? ⟨gb5z,1,none⟩ = some (.slice A1_1 l1_1.length c1_1)/\w'.cell? ⟨gb5z,2,none⟩ = some (.int .i64 a1_2)) (ds:=[]) #[false,false,false,false,false,false,false,false,false,false] (by kernel_rfl) rfl rfl ⟨k0 BK2z 0,k0 BK2z 1,k0 BK2z 2,k0 BK7z 0,k0 BK7z 1,k0 BK7z 2⟩ (fun hHeld=>?_); refine with_tabW bolterref02_Add.tab3 bolterref02_Add.bits3 (fun HT_ HW_=>?_)
    generalize w39z.drew = w40z at BK2z BK7z BK14z HB hHeld ⊢
    refine take_ (i:=0) (N:=some 11) (v:=?_) (a':=?_) #[true,false,false,false,false,false,false,false,false,false] rfl rfl (take_ofW HT_.out HW_.out (by kernel_rfl)) (fun _ _ _ h=>h) (Or.inl ⟨by rfl,?_⟩) hHeld ?_ ?_
    rotate_left
    ·rintro w' ⟨s41z,s42z,s43z,s44z,s45z,s46z⟩
     go_simp
     with_reducible rfl
    rotate_left
    ·exact pP
    refine take_ (i:=2) (N:=some 13) (v:=?_) (a':=?_) #[true,false,true,false,false,false,false,false,false,false] rfl rfl (take_ofW HT_.out HW_.out (by kernel_rfl)) (fun _ _ _ h=>h) (Or.inl ⟨by rfl,?_⟩) hHeld ?_ ?_
    rotate_left
    ·rintro w' ⟨s41z,s42z,s43z,s44z,s45z,s46z⟩
     go_simp
     with_reducible rfl
    rotate_left
    ·exact pP
    refine one_ (i:=1) (N:=some 12) #[true,true,true,false,false,false,false,false,false,false] rfl rfl (one_of HT_.out (by kernel_rfl)) (by decide) (fun K hK=>?_)
    refine goes_ Tryz.func18 (by kernel_rfl) rfl #[.agg #[.bool a0_0,.slice A0_1 l0_1.length c0_1,.int .i64 a0_2]] (by rfl) rfl rfl pA ?_
    with_reducible refine (bolterref02_Of.calls k a0_0 _ _ l0_1 a0_2 t941 t942 t945 _ ?side1 ?side2 A5.out).mono ?_
    (case side1=>refine cp ?_; exact (Kd.C_below HR0_1.out HB.out))
    (case side2=>exact HC0_1.out)
    rintro e w47z ⟨v48z,rfl,ho49z,hb⟩
    refine ⟨_,rfl,?_⟩
    have HO50z:=am (Kd.R_lower ho49z (below_size pB))
    replace BK2z:=bb BK2z hb
    replace BK7z:=bb BK7z hb
    replace BK14z:=bb BK14z hb
    replace HB:=bS hb
    refine hK.out _ _ ⟨k0 BK2z 0,k0 BK2z 1,k0 BK2z 2,k0 BK7z 0,k0 BK7z 1,k0 BK7z 2⟩ (fun hHeld=>?_)
    clear hK K
    refine norm_ (a':=?_) ?_ ?_
    rotate_left
    ·show Act.put _ (some 12) _ = _
     exact pP
    refine one_ (i:=3) (N:=some 14) #[true,true,true,true,false,false,false,false,false,false] rfl rfl (one_of HT_.out (by kernel_rfl)) (by decide) (fun K hK=>?_)
    refine goes_ Tryz.func18 (by kernel_rfl) rfl #[.agg #[.bool a1_0,.slice A1_1 l1_1.length c1_1,.int .i64 a1_2]] (by rfl) rfl rfl pA ?_
    with_reducible refine (bolterref02_Of.calls k a1_0 _ _ l1_1 a1_2 t946 t947 t950 _ ?side1 ?side2 A6.out).mono ?_
    (case side1=>refine cp ?_; exact (Kd.C_below HR1_1.out HB.out))
    (case side2=>exact HC1_1.out)
    rintro e w51z ⟨v52z,rfl,ho49z,hb⟩
    refine ⟨_,rfl,?_⟩
    have HO53z:=am (Kd.R_lower (Kd.R_new' ho49z (Kd.R_lt (Kd.R_below HO50z.out pl))) (below_size pB))
    replace HO50z:=reR HO50z ho49z hb
    replace BK2z:=bb BK2z hb
    replace BK7z:=bb BK7z hb
    replace BK14z:=bb BK14z hb
    replace HB:=bS hb
    obtain ⟨Ao54z,co55z,eo56z⟩:=Kd.R_slice HO50z.out
    (first | subst eo56z | (injection eo56z with f1_ f2_ f3_; have f4_:=f1_.symm; have f5_:=f3_.symm; clear f1_ f2_ f3_; subst f4_; subst f5_))
    obtain ⟨Ao57z,co58z,eo59z⟩:=Kd.R_slice HO53z.out
    (first | subst eo59z | (injection eo59z with f1_ f2_ f3_; have f4_:=f1_.symm; have f5_:=f3_.symm; clear f1_ f2_ f3_; subst f4_; subst f5_))
    refine hK.out _ _ ⟨k0 BK2z 0,k0 BK2z 1,k0 BK2z 2,k0 BK7z 0,k0 BK7z 1,k0 BK7z 2⟩ (fun hHeld=>?_)
    clear hK K
    refine norm_ (a':=?_) ?_ ?_
    rotate_left
    ·show Act.put _ (some 14) _ = _
     exact pP
    refine one_ (i:=4) (N:=some 15) #[true,true,true,true,true,false,false,false,false,false] rfl rfl (one_of HT_.out (by kernel_rfl)) (by decide) (fun K hK=>?_)
    refine goes_ Tryz.func77 (by kernel_rfl) rfl #[.agg #[.bool t941,.slice Ao54z t942.length co55z,.int .i64 t945],.agg #[.bool t946,.slice Ao57z t947.length co58z,.int .i64 t950]] (by rfl) rfl rfl pA ?_
    with_reducible refine (bolterref02_Sum.calls k t941 _ _ t942 t945 t946 _ _ t947 t950 t951 t952 t955 _ ?side1 ?side2 ?side3 ?side4 A7.out).mono ?_
    (case side1=>exact Kd.C_below (Kd.R_reads' HO50z.out).2.2 pl)
    (case side2=>exact (Kd.R_reads' HO50z.out).2.1)
    (case side3=>exact Kd.C_below (Kd.R_reads' HO53z.out).2.2 pl)
    (case side4=>exact (Kd.R_reads' HO53z.out).2.1)
    rintro e w60z ⟨v61z,rfl,ho49z,hb⟩
    refine ⟨_,rfl,?_⟩
    have HO62z:=am (Kd.R_lower (Kd.R_new' (Kd.R_new' ho49z (Kd.R_lt (Kd.R_below HO50z.out pl))) (Kd.R_lt (Kd.R_below HO53z.out pl))) (below_size pB))
    replace HO50z:=reR HO50z ho49z hb
    replace HO53z:=reR HO53z ho49z hb
    replace BK2z:=bb BK2z hb
    replace BK7z:=bb BK7z hb
    replace BK14z:=bb BK14z hb
    replace HB:=bS hb
    obtain ⟨Ao63z,co64z,eo65z⟩:=Kd.R_slice HO62z.out
    (first | subst eo65z | (injection eo65z with f1_ f2_ f3_; have f4_:=f1_.symm; have f5_:=f3_.symm; clear f1_ f2_ f3_; subst f4_; subst f5_))
    refine hK.out _ _ ⟨k0 BK2z 0,k0 BK2z 1,k0 BK2z 2,k0 BK7z 0,k0 BK7z 1,k0 BK7z 2⟩ (fun hHeld=>?_)
    clear hK K
    refine norm_ (a':=?_) ?_ ?_
    rotate_left
    ·show Act.put _ (some 15) _ = _
     exact pP
    refine one_ (i:=5) (N:=some 16) #[true,true,true,true,true,true,false,false,false,false] rfl rfl (one_of HT_.out (by kernel_rfl)) (by decide) (fun K hK=>?_)
    refine goes_ Tryz.func23 (by kernel_rfl) rfl #[.agg #[.bool t951,.slice Ao63z t952.length co64z,.int .i64 t955]] (by rfl) rfl rfl pA ?_
    with_reducible refine (bolterref02_Made.calls k t951 (fun k_=>some k_ = (.slice Ao63z t952.length co64z : Value).ownBlock) (.slice Ao63z t952.length co64z) t952 t955 t956 t957 t960 t961 w _ ?side1 ?side2 A8.out).mono ?_
    (case side1=>exact pB)
    (case side2=>exact Kd.R_tight rfl HO62z.out)
    rintro e w66z ⟨v67z,rfl,ho49z,hb,hkp⟩
    refine ⟨_,rfl,?_⟩
    have HO68z:=am (Kd.R_mono (ok':=fun k_=>True) ho49z (fun k_ hk_=>trivial))
    replace BK2z:=am (blk_kept (blk_below BK2z.out pl) hkp (fun e_=>Kd.R_ne HO62z.out BK2z.out (by decide) e_))
    replace BK7z:=am (blk_kept (blk_below BK7z.out pl) hkp (fun e_=>Kd.R_ne HO62z.out BK7z.out (by decide) e_))
    replace BK14z:=am (blk_kept (blk_below BK14z.out pl) hkp (fun e_=>Kd.R_ne HO62z.out BK14z.out (by decide) e_))
    replace HO50z:=am (Kd.R_mono (ok':=fun k_=>some k_ ≠ (.slice Ao57z t947.length co58z : Value).ownBlock) (Kd.R_keptB (HO50z.out) hkp (fun k_ hk_ hs_=>(hk_.2) hs_)) (fun k_ hk_=>hk_.1.1.2))
    replace HO53z:=am (Kd.R_mono (ok':=fun k_=>some k_ ≠ (.slice Ao54z t942.length co55z : Value).ownBlock) (Kd.R_keptB (HO53z.out) hkp (fun k_ hk_ hs_=>(hk_.2) hs_)) (fun k_ hk_=>hk_.1.1.2))
    replace HB:=am hb
    clear HO62z
    obtain ⟨Ao69z,co70z,eo71z⟩:=Kd.R_slice HO68z.out
    (first | subst eo71z | (injection eo71z with f1_ f2_ f3_; have f4_:=f1_.symm; have f5_:=f3_.symm; clear f1_ f2_ f3_; subst f4_; subst f5_))
    refine hK.out _ _ ⟨k0 BK2z 0,k0 BK2z 1,k0 BK2z 2,k0 BK7z 0,k0 BK7z 1,k0 BK7z 2⟩ (fun hHeld=>?_)
    clear hK K
    refine norm_ (a':=?_) ?_ ?_
    rotate_left
    ·show Act.put _ (some 16) _ = _
     exact pP
    refine pu 6 (some 17) #[true,true,true,true,true,true,true,false,false,false] (h:=?_)
    refine pu 7 (some 18) #[true,true,true,true,true,true,true,true,false,false] (h:=?_)
    refine one_ (i:=8) (N:=none) #[true,true,true,true,true,true,true,true,true,false] rfl rfl (one_of HT_.out (by kernel_rfl)) (by decide) (fun K hK=>?_)
    have hs72z : w66z.cell? ⟨gb12z,0,none⟩ = some (.bool false):=k0 BK14z 0
    have hfs73z:=blk_frozen BK14z.out 0
    have hns74z:=NB17z.out
    have hns75z:=NB19z.out
    have hms76z:=NB18z.out
    have hms77z:=NB20z.out
    have hs78z : w66z.cell? ⟨gb12z,1,none⟩ = some (.slice none 0 0):=k0 BK14z 1
    have hfs79z:=blk_frozen BK14z.out 1
    have hns80z:=NB17z.out
    have hns81z:=NB19z.out
    have hms82z:=NB18z.out
    have hms83z:=NB20z.out
    have hs84z : w66z.cell? ⟨gb12z,2,none⟩ = some (.int .i64 0):=k0 BK14z 2
    have hfs85z:=blk_frozen BK14z.out 2
    have hns86z:=NB17z.out
    have hns87z:=NB19z.out
    have hms88z:=NB18z.out
    have hms89z:=NB20z.out
    refine skip_ (w1:=?_) (by rfl) rfl ?_ ?_
    rotate_left
    ·go_simp
     rfl
    refine hK.out _ _ ⟨((cell_far (p:=⟨gb12z,_,none⟩) NB17z.out _).trans (((cell_far (p:=⟨gb12z,_,none⟩) NB17z.out _).trans (((cell_far (p:=⟨gb12z,_,none⟩) NB17z.out _).trans (hHeld.1)))))),((cell_far (p:=⟨gb12z,_,none⟩) NB17z.out _).trans (((cell_far (p:=⟨gb12z,_,none⟩) NB17z.out _).trans (((cell_far (p:=⟨gb12z,_,none⟩) NB17z.out _).trans (hHeld.2.1)))))),((cell_far (p:=⟨gb12z,_,none⟩) NB17z.out _).trans (((cell_far (p:=⟨gb12z,_,none⟩) NB17z.out _).trans (((cell_far (p:=⟨gb12z,_,none⟩) NB17z.out _).trans (hHeld.2.2.1)))))),((cell_far (p:=⟨gb12z,_,none⟩) NB19z.out _).trans (((cell_far (p:=⟨gb12z,_,none⟩) NB19z.out _).trans (((cell_far (p:=⟨gb12z,_,none⟩) NB19z.out _).trans (hHeld.2.2.2.1)))))),((cell_far (p:=⟨gb12z,_,none⟩) NB19z.out _).trans (((cell_far (p:=⟨gb12z,_,none⟩) NB19z.out _).trans (((cell_far (p:=⟨gb12z,_,none⟩) NB19z.out _).trans (hHeld.2.2.2.2.1)))))),((cell_far (p:=⟨gb12z,_,none⟩) NB19z.out _).trans (((cell_far (p:=⟨gb12z,_,none⟩) NB19z.out _).trans (((cell_far (p:=⟨gb12z,_,none⟩) NB19z.out _).trans (hHeld.2.2.2.2.2))))))⟩ (fun hHeld=>?_)
    clear hK K
    refine pu 9 (some 5) #[true,true,true,true,true,true,true,true,true,true] (h:=?_)
    refine done_ (done_of HT_.out (by kernel_rfl)) ?_
    try go_wp2
    refine bodyPost_ret (results_ct rfl _ _ gb12z 24 #[.bool t956,.slice Ao69z t957.length co70z,.int .i64 t960] (0,0) _ rfl (by exact p3 BK14z) Tryz.underlying24 rfl (by kernel_rfl)) rfl ?_
    exact ⟨_,pE,by refine rp ?_; exact Kd.R_mono (Kd.R_far (p:=⟨gb12z,2,none⟩) (Kd.R_far (p:=⟨gb12z,1,none⟩) (Kd.R_far (p:=⟨gb12z,0,none⟩) (Kd.R_types HO68z.out BK14z.out (by decide)) (fun _ hk=>hk.2) (.bool t956)) (fun _ hk=>hk.2) (.slice Ao69z t957.length co70z)) (fun _ hk=>hk.2) (.int .i64 t960)) (fun _ hk=>trivial),pB⟩
  | refine bodyPost_ret (results_ct rfl _ _ gb12z 24 #[.bool false,.slice none 0 0,.int .i64 0] (0,0) _ rfl (by exact p3 BK14z) Tryz.underlying24 rfl (by kernel_rfl)) rfl ?_
    exact ⟨_,pE,pN,pB⟩) : P:=h
theorem bolterref02_Add.calls (k : Nat) (a0_0 : Bool) (A0_1 : Option Addr) (c0_1 : Nat) (l0_1 : List Int) (a0_2 : Int) (a1_0 : Bool) (A1_1 : Option Addr) (c1_1 : Nat) (l1_1 : List Int) (a1_2 : Int) (r1 : Bool) (r2 : List Int) (r3 : Int) (r4 : Int) (w : World) (hr0_1 : Kd.C (Kd.int .u32) w A0_1 l0_1.length l0_1) (hc0_1 : l0_1.length<=c0_1) (hr1_1 : Kd.C (Kd.int .u32) w A1_1 l1_1.length l1_1) (hc1_1 : l1_1.length<=c1_1) (h : bolterref02_Add.f k a0_0 l0_1 a0_2 a1_0 l1_1 a1_2 = some (r1,r2,r3,r4)) :
  Calls Tryz.prog 27 #[.agg #[.bool a0_0,.slice A0_1 l0_1.length c0_1,.int .i64 a0_2],.agg #[.bool a1_0,.slice A1_1 l1_1.length c1_1,.int .i64 a1_2]] w fun e w' => ∃ v1_ : Value,e = .returned (.tuple #[.agg #[.bool r1,v1_,.int .i64 r3],.int .i64 r4])/\Kd.R (Kd.int .u32) 85 w' w.heap.size (fun _=>True) v1_ r2/\Below w.heap.size w w':=by
 have hu24:=Tryz.underlying24
 have HR0_1:=am hr0_1
 have HC0_1:=am hc0_1
 clear hr0_1 hc0_1
 have HR1_1:=am hr1_1
 have HC1_1:=am hc1_1
 clear hr1_1 hc1_1
 have HB:=am (Below.refl w.heap.size w)
 have H : ((bolterref02_checks.f k a0_0 l0_1 a0_2 a1_0 l1_1 a1_2).bind fun t940=>(if t940 = 0 then ((bolterref02_Of.f k a0_0 l0_1 a0_2).bind fun bt941=>((bolterref02_Of.f k a1_0 l1_1 a1_2).bind fun bt946=>((bolterref02_Sum.f k bt941.1 bt941.2.1 bt941.2.2 bt946.1 bt946.2.1 bt946.2.2).bind fun bt951=>((bolterref02_Made.f k bt951.1 bt951.2.1 bt951.2.2).bind fun bt956=>(some (bt956.1,bt956.2.1,bt956.2.2.1,bt956.2.2.2)))))) else (some (false,([] : List Int),0,9)))) = some (r1,r2,r3,r4):=h
 clear h
 obtain ⟨t940,A3,H⟩:=ob H
 by_cases c4 : t940 = 0
 ·rw [if_pos c4] at H
  have c4b0 : (t940 == 0) = true:=beq_iff_eq.mpr c4
  have c4b1 : (t940 != 0) = false:=bne_eq_false_iff_eq.mpr c4
  clear c4
  obtain ⟨⟨t941,t942,t945⟩,A5,H⟩:=ob H; (try dsimp only at H)
  obtain ⟨⟨t946,t947,t950⟩,A6,H⟩:=ob H; (try dsimp only at H)
  obtain ⟨⟨t951,t952,t955⟩,A7,H⟩:=ob H; (try dsimp only at H)
  obtain ⟨⟨t956,t957,t960,t961⟩,A8,H⟩:=ob H; (try dsimp only at H)
  simp only [Option.some.injEq,Prod.mk.injEq] at H
  obtain ⟨rfl,rfl,rfl,rfl⟩:=H
  exact bolterref02_Add.leaf
 ·rw [if_neg c4] at H
  have c4b0 : (t940 == 0) = false:=beq_eq_false_iff_ne.mpr c4
  have c4b1 : (t940 != 0) = true:=bne_iff_ne.mpr c4
  simp only [Option.some.injEq,Prod.mk.injEq] at H
  obtain ⟨rfl,rfl,rfl,rfl⟩:=H
  exact bolterref02_Add.leaf
end YtjbjkmccfocikaaGreatDoor.B
end
section
namespace YtjbjkmccfocikaaGreatDoor.P
open Go.RowKit YtjbjkmccfocikaaGreatDoor.B YtjbjkmccfocikaaGreatDoorW.PrintWords YtjbjkmccfocikaaGreatDoorW.PrintLast YtjbjkmccfocikaaGreatDoorW.PrintMore YtjbjkmccfocikaaGreatDoor.P.Nm
def okB (a : Dm) : Bool:=if a.n = 0 then (!a.neg && decide (a.e = 0)) else (decide (a.n % 10 ≠ 0) && (decide (nd a.n<=300) && (decide (-1000<=a.e) && decide (a.e<=1000))))
theorem okB_iff {a : Dm} : okB a = true ↔ OkD a:=by
 obtain ⟨s,n,e⟩:=a
 unfold okB
 by_cases h : n = 0
 ·subst h
  simp only [if_true]
  constructor
  ·intro h
   simp only [Bool.and_eq_true,Bool.not_eq_true',decide_eq_true_eq] at h
   obtain ⟨rfl,rfl⟩:=h
   exact OkD.zeroD
  ·intro h
   have := h.zero rfl
   unfold zeroD at this
   injection this with h1 h2 h3
   simp [h1,h3]
 ·simp only [if_neg h,Bool.and_eq_true,decide_eq_true_eq]
  constructor
  ·intro ⟨h1,h2,h3,h4⟩
   exact ⟨fun e=>absurd e h,fun _=>h1,h2,h3,h4⟩
  ·intro h1
   exact ⟨h1.last h,h1.len,h1.low,h1.high⟩
def chk (a : Bool) (l : List Int) (e : Int) : Int:=if chkL l = 0/\l.length<=40/\okB ⟨a,num l,e⟩ = true then 0 else 9
theorem limbs_len9 {n k : Nat} (h : nd n<=9 * k) : (limbs n).length<=k:=by
 refine limbs_len_of (Nat.lt_of_lt_of_le (nd_lt n) ?_)
 refine Nat.le_trans (Nat.pow_le_pow_right (by omega) h) ?_
 rw [Nat.pow_mul]
 exact Nat.pow_le_pow_left (by decide) _
theorem okd_limbs {a : Dm} (h : OkD a) : (limbs a.n).length<=34:=limbs_len9 (by have := h.len; omega)
theorem chk_of {a : Dm} (h : OkD a) : chk a.neg (limbs a.n) a.e = 0:=by
 have h1:=okd_limbs h
 unfold chk
 rw [if_pos ⟨chk_limbs (by omega),by omega,by rw [num_limbs]; exact okB_iff.2 h⟩]
theorem of_chk {a : Bool} {l : List Int} {e : Int} (hd : Dg 4294967296 l) (h : chk a l e = 0) : ∃ D : Dm,OkD D/\a = D.neg/\l = limbs D.n/\e = D.e:=by
 unfold chk at h
 by_cases hc : chkL l = 0/\l.length<=40/\okB ⟨a,num l,e⟩ = true
 ·obtain ⟨h1,h2,h3⟩:=hc
  exact ⟨⟨a,num l,e⟩,okB_iff.1 h3,rfl,(limbs_num ((chkL_ok hd).1 h1)).symm,rfl⟩
 ·rw [if_neg hc] at h; cases h
theorem chk_01 (a : Bool) (l : List Int) (e : Int) : chk a l e = 0\/chk a l e = 9:=by unfold chk; split <;> simp
abbrev outD (p : Dm × Int) : Bool × List Int × Int × Int:=(p.1.neg,limbs p.1.n,p.1.e,p.2)
theorem ROf_tells (a : Bool) (l : List Int) (e : Int) (hd : Dg 4294967296 l) (hl : l.length<=90000) : Tells (fun k=>bolterref02_Of.f k a l e) (a,digs (num l),e):=by
 unfold bolterref02_Of.f
 exact (Digits_tells l hd hl).bind (Tells.pure _)
theorem ROf (D : Dm) (h : nd D.n<=90000) : Tells (fun k=>bolterref02_Of.f k D.neg (limbs D.n) D.e) (D.neg,digs D.n,D.e):=by
 have := ROf_tells D.neg (limbs D.n) D.e (limbs_dg _) (Nat.le_trans (limbs_len _) h)
 rw [num_limbs] at this
 exact this
theorem digs_low {n : Nat} (h : n ≠ 0) : (digs n).getD 0 0 = ((n % 10 : Nat) : Int):=by rw [digs_step h]; rfl
theorem Made_l0 (s : Bool) : ∀ (f n : Nat) (e : Int),n<=f->n ≠ 0->nd n<=100000 -> -1000000000<=e->e + nd n<=1000000000->Tells (fun k=>bolterref02_Made.l0 k (digs n) s [] e) (outD (settleD ⟨s,n,e⟩))
 | 0,n,e,hf,h0,hn,he1,he2=>by omega
 | f + 1,n,e,hf,h0,hn,he1,he2=>by
  have hpos:=nd_pos h0
  have hlen : (digs n).length = nd n:=rfl
  refine Tells.succ ?_
  simp only [bolterref02_Made.l0]
  rw [show (0 : Int) = ((0 : Nat) : Int) from rfl,rd_n,digs_low h0]
  refine Tells.ifp (by omega) ?_
  by_cases hz : n % 10 = 0
  ·have hne : n / 10 ≠ 0:=by omega
   have hnd : nd n = nd (n / 10) + 1:=by
    show (digs n).length = _
    rw [digs_step h0]; rfl
   have ih:=Made_l0 s f (n / 10) (e + 1) (by omega) hne (by omega) (by omega) (by omega)
   have hs:=settle_shift s (n / 10) (e + 1) 1
   rw [show n / 10 * 10 ^ 1 = n by omega,show e + 1 - ((1 : Nat) : Int) = e by omega] at hs
   rw [hs]
   refine Tells.ifp (by omega) (Tells.ifp (by omega) ?_)
   rw [w64n (by omega) (by omega),digs_step h0]
   exact ih
  ·obtain ⟨hc,ht⟩:=core_self hz
   unfold settleD
   simp only [hc,ht]
   rw [if_neg h0,show e + ((0 : Nat) : Int) = e by omega]
   refine Tells.ifn (by omega) ?_
   by_cases h3 : 300 < nd n
   ·rw [if_pos h3]
    exact Tells.ifp (by omega) (Tells.pure _)
   ·rw [if_neg h3]
    refine Tells.ifn (by omega) ?_
    by_cases h4 : e < -1000
    ·rw [if_pos (.inl h4)]
     exact Tells.ifp h4 (Tells.pure _)
    ·refine Tells.ifn h4 ?_
     by_cases h5 : 1000 < e
     ·rw [if_pos (.inr h5)]
      exact Tells.ifp h5 (Tells.pure _)
     ·rw [if_neg (by omega)]
      exact Tells.ifn h5 ((Limbs_tells n (by omega)).bind (Tells.pure _))
theorem Made_tells (s : Bool) (L : List Int) (n : Nat) (e : Int) (hd : Dg 10 L) (hv : val 10 L = n) (hl : L.length<=100000) (he1 : -1000000000<=e) (he2 : e<=900000000) : Tells (fun k=>bolterref02_Made.f k s L e) (outD (settleD ⟨s,n,e⟩)):=by
 have ht:=Trim_tells L (by omega)
 rw [digs_trim hd hv] at ht
 have hnd : nd n<=100000:=by
  have := trim_len L
  rw [digs_trim hd hv] at this
  exact Nat.le_trans this hl
 unfold bolterref02_Made.f
 refine ht.bind ?_
 by_cases h0 : n = 0
 ·subst h0
  exact Tells.ifp rfl (Tells.pure _)
 ·have hpos : 0 < (digs n).length:=nd_pos h0
  exact Tells.ifn (by omega) (Made_l0 s n n e (Nat.le_refl _) h0 hnd he1 (by omega))
theorem Made (s : Bool) (n : Nat) (e : Int) (hn : nd n<=100000) (he1 : -1000000000<=e) (he2 : e<=900000000) : Tells (fun k=>bolterref02_Made.f k s (digs n) e) (outD (settleD ⟨s,n,e⟩)) :=
 Made_tells s _ n e (digs_dg n) (digs_val n) hn he1 he2
theorem RCheck_tells (a : Bool) (l : List Int) (e : Int) (hd : Dg 4294967296 l) (hl : l.length<=9223372036854775807) : Tells (fun k=>bolterref02_Check.f k a l e) (chk a l e):=by
 unfold bolterref02_Check.f
 rw [Check01_tells l hl]
 refine (Tells.pure _).bind ?_
 have bad : chk a l e = 9->Tells (fun k=>bolterref02_Check.j0 k true a l e) (chk a l e):=fun h=>by
  rw [h]
  refine Tells.succ ?_
  simp only [bolterref02_Check.j0]
  exact Tells.ifp trivial (Tells.pure _)
 by_cases hc : chkL l = 0
 ·refine Tells.ifp hc ?_
  by_cases h40 : l.length<=40
  ·rw [decide_eq_false (show ¬ ((l.length : Int) > 40) by omega)]
   have hof:=ROf_tells a l e hd (by omega)
   obtain ⟨n,hn⟩ : ∃ n,num l = n:=⟨_,rfl⟩
   have hchk : chk a l e = if okB ⟨a,n,e⟩ = true then 0 else 9:=by
    unfold chk
    rw [hn]
    by_cases h : okB ⟨a,n,e⟩ = true
    ·rw [if_pos ⟨hc,h40,h⟩,if_pos h]
    ·rw [if_neg (fun q=>h q.2.2),if_neg h]
   rw [hchk]
   rw [hn] at hof
   unfold okB
   simp only
   have hlen : (digs n).length = nd n:=rfl
   refine Tells.succ ?_
   simp only [bolterref02_Check.j0]
   refine Tells.ifn (by simp) (hof.bind ?_)
   dsimp only
   by_cases h0 : n = 0
   ·subst h0
    rw [if_pos rfl]
    refine Tells.ifp rfl ?_
    have j1 : ∀ b : Bool,Tells (fun k=>bolterref02_Check.j1 k b) (if b = true then 9 else 0):=fun b=>by
     refine Tells.succ ?_
     simp only [bolterref02_Check.j1]
     cases b
     ·exact Tells.ifn (by simp) (Tells.pure _)
     ·exact Tells.ifp rfl (Tells.pure _)
    cases a
    ·refine Tells.ifn (by simp) ((j1 _).val ?_)
     by_cases he : e = 0
     ·subst he; rfl
     ·simp [he]
    ·exact Tells.ifp rfl ((j1 true).val rfl)
   ·have hpos:=nd_pos h0
    rw [if_neg h0]
    refine Tells.ifn (by omega) (Tells.ifp (by omega) ?_)
    rw [show (0 : Int) = ((0 : Nat) : Int) from rfl,rd_n,digs_low h0]
    by_cases hz : n % 10 = 0
    ·rw [decide_eq_false (not_not_intro hz)]
     exact Tells.ifp (by omega) (Tells.pure _)
    ·rw [decide_eq_true hz]
     refine Tells.ifn (by omega) ?_
     by_cases h3 : nd n<=300
     ·rw [decide_eq_true h3]
      refine Tells.ifn (by omega) ?_
      by_cases h4 : e < -1000
      ·rw [decide_eq_false (show ¬ (-1000<=e) by omega)]
       exact Tells.ifp h4 (Tells.pure _)
      ·rw [decide_eq_true (show -1000<=e by omega)]
       refine Tells.ifn h4 ?_
       by_cases h5 : 1000 < e
       ·rw [decide_eq_false (show ¬ (e<=1000) by omega)]
        exact Tells.ifp h5 (Tells.pure _)
       ·rw [decide_eq_true (show e<=1000 by omega)]
        exact Tells.ifn h5 (Tells.pure _)
     ·rw [decide_eq_false h3]
      exact Tells.ifp (by omega) (Tells.pure _)
  ·rw [decide_eq_true (show ((l.length : Int) > 40) by omega)]
   exact bad (by unfold chk; rw [if_neg (fun q=>h40 q.2.1)])
 ·exact Tells.ifn hc (bad (by unfold chk; rw [if_neg (fun q=>hc q.1)]))
theorem RCheck (D : Dm) (h : OkD D) : Tells (fun k=>bolterref02_Check.f k D.neg (limbs D.n) D.e) 0:=by
 have h1:=okd_limbs h
 have := RCheck_tells D.neg (limbs D.n) D.e (limbs_dg _) (by omega)
 rw [chk_of h] at this
 exact this
theorem Rchecks_tells (a : Bool) (l : List Int) (e : Int) (b : Bool) (m : List Int) (g : Int) (hd : Dg 4294967296 l) (hl : l.length<=9223372036854775807) (hd2 : Dg 4294967296 m) (hl2 : m.length<=9223372036854775807) : Tells (fun k=>bolterref02_checks.f k a l e b m g) (if chk a l e = 0/\chk b m g = 0 then 0 else 9):=by
 unfold bolterref02_checks.f
 refine (RCheck_tells a l e hd hl).bind ?_
 by_cases h : chk a l e = 0
 ·refine Tells.ifp h ((RCheck_tells b m g hd2 hl2).bind ?_)
  by_cases h2 : chk b m g = 0
  ·exact Tells.ifp h2 ((Tells.pure _).val (by rw [if_pos ⟨h,h2⟩]))
  ·exact Tells.ifn h2 ((Tells.pure _).val (by rw [if_neg (fun q=>h2 q.2)]))
 ·exact Tells.ifn h ((Tells.pure _).val (by rw [if_neg (fun q=>h q.1)]))
theorem Rchecks (D E : Dm) (hD : OkD D) (hE : OkD E) : Tells (fun k=>bolterref02_checks.f k D.neg (limbs D.n) D.e E.neg (limbs E.n) E.e) 0:=by
 have h1:=okd_limbs hD
 have h2:=okd_limbs hE
 have := Rchecks_tells D.neg (limbs D.n) D.e E.neg (limbs E.n) E.e (limbs_dg _) (by omega) (limbs_dg _) (by omega)
 rw [if_pos ⟨chk_of hD,chk_of hE⟩] at this
 exact this
theorem Same_l0 (a : Bool) (l : List Int) (e : Int) (b : Bool) (m : List Int) (g : Int) (hl : l.length = m.length) (hz : l.length < 9223372036854775807) : ∀ (d i : Nat),l.length - i = d->i<=l.length->l.take i = m.take i->Tells (fun k=>bolterref02_Same.l0 k (i : Int) a l e b m g) (decide (l = m))
 | 0,i,hd,hi,h=>by
  obtain rfl : i = l.length:=by omega
  refine Tells.succ ?_
  simp only [bolterref02_Same.l0]
  refine Tells.ifn (by omega) ((Tells.pure _).val ?_)
  rw [List.take_length,hl,List.take_length] at h
  rw [decide_eq_true h]
 | d + 1,i,hd,hi,h=>by
  have hil : i < l.length:=by omega
  refine Tells.succ ?_
  simp only [bolterref02_Same.l0]
  rw [rd_n,rd_n,w64s (by omega)]
  refine Tells.ifp (by omega) (Tells.ifp (by omega) (Tells.ifp (by omega) ?_))
  by_cases hx : l.getD i 0 = m.getD i 0
  ·exact Tells.ifp hx (Same_l0 a l e b m g hl hz d (i + 1) (by omega) (by omega) (by rw [take_s hil,take_s (by omega),h,hx]))
  ·exact Tells.ifn hx ((Tells.pure _).val (by rw [decide_eq_false (fun q=>hx (by rw [q]))]))
def sameB (a : Bool) (l : List Int) (e : Int) (b : Bool) (m : List Int) (g : Int) : Bool:=decide (a = b) && (decide (e = g) && decide (l = m))
theorem sameB_iff {a : Bool} {l : List Int} {e : Int} {b : Bool} {m : List Int} {g : Int} : sameB a l e b m g = true ↔ a = b/\l = m/\e = g:=by
 unfold sameB
 simp only [Bool.and_eq_true,decide_eq_true_eq]
 exact ⟨fun ⟨h1,h2,h3⟩=>⟨h1,h3,h2⟩,fun ⟨h1,h2,h3⟩=>⟨h1,h3,h2⟩⟩
theorem Same_tells (a : Bool) (l : List Int) (e : Int) (b : Bool) (m : List Int) (g : Int) (hz : l.length < 9223372036854775807) : Tells (fun k=>bolterref02_Same.f k a l e b m g) (sameB a l e b m g):=by
 have no : Tells (fun k=>bolterref02_Same.j0 k true a l e b m g) false:=by
  refine Tells.succ ?_
  simp only [bolterref02_Same.j0]
  exact Tells.ifp trivial (Tells.pure _)
 unfold bolterref02_Same.f sameB
 by_cases h1 : a = b
 ·subst h1
  rw [decide_eq_true rfl]
  refine Tells.ifn (by simp) ?_
  by_cases h2 : e = g
  ·subst h2
   rw [decide_eq_true rfl]
   refine Tells.ifp rfl ?_
   by_cases h3 : l.length = m.length
   ·refine Tells.succ ?_
    simp only [bolterref02_Same.j0]
    have h:=Same_l0 a l e a m e h3 hz l.length 0 (by omega) (by omega) rfl
    exact Tells.ifn (by rw [h3]; simp) (h.val (by simp))
   ·have e1 : ((l.length : Int) != (m.length : Int)) = true:=bne_iff_ne.2 (by omega)
    rw [e1]
    refine no.val ?_
    rw [decide_eq_false (fun q : l = m=>h3 (by rw [q]))]; rfl
  ·exact Tells.ifn h2 (no.val (by rw [decide_eq_false h2]; rfl))
 ·exact Tells.ifp (by simpa using h1) (no.val (by rw [decide_eq_false h1]; rfl))
theorem limbs_inj {m n : Nat} (h : limbs m = limbs n) : m = n:=by rw [<- num_limbs m,h,num_limbs]
theorem Same_D (D E : Dm) (h : nd D.n<=1000000) : Tells (fun k=>bolterref02_Same.f k D.neg (limbs D.n) D.e E.neg (limbs E.n) E.e) (decide (D = E)):=by
 have hl:=limbs_len D.n
 refine (Same_tells D.neg (limbs D.n) D.e E.neg (limbs E.n) E.e (by omega)).val ?_
 rw [Bool.eq_iff_iff,sameB_iff,decide_eq_true_eq]
 constructor
 ·intro ⟨h1,h2,h3⟩
  obtain ⟨s,n,e⟩:=D
  obtain ⟨s',n',e'⟩:=E
  have := limbs_inj h2
  simp only at *
  subst h1 h3 this; rfl
 ·intro h; rw [h]; exact ⟨rfl,rfl,rfl⟩
theorem mn_eq (a b : Int) : mn a b = min a b:=by unfold mn; omega
theorem Align_f (a b : Bool) (m n : Nat) (e g : Int) (hm : nd m<=100000) (hn : nd n<=100000) (he : -100000<=e/\e<=100000) (hg : -100000<=g/\g<=100000) :
  bolterref02_Align.f a (digs m) e b (digs n) g = some (a,digs (m * 10 ^ (e - min e g).toNat),min e g,b,digs (n * 10 ^ (g - min e g).toNat),min e g):=by
 unfold bolterref02_Align.f
 rw [mn_eq]
 obtain ⟨x,hx⟩ : ∃ x : Nat,e - min e g = x:=⟨(e - min e g).toNat,by omega⟩
 obtain ⟨y,hy⟩ : ∃ y : Nat,g - min e g = y:=⟨(g - min e g).toNat,by omega⟩
 rw [hx,hy,w64c (by omega),w64c (by omega),Shift_tells m x (by omega) (by omega),Option.bind_some,Shift_tells n y (by omega) (by omega),Option.bind_some,Int.toNat_natCast,Int.toNat_natCast]
theorem nd_shift_le (n k : Nat) : nd (n * 10 ^ k)<=nd n + k:=by
 by_cases h : n = 0
 ·subst h; rw [Nat.zero_mul,nd_zero]; omega
 ·rw [nd_shift h]; exact Nat.le_refl _
theorem nd_zero_iff {n : Nat} : (digs n).length = 0 ↔ n = 0:=⟨fun h=>digs_nil (List.eq_nil_of_length_eq_zero h),fun h=>by rw [h]; rfl⟩
theorem Sum_tells (A B : Dm) (hm : nd A.n<=10000) (hn : nd B.n<=10000) (he : -10000<=A.e/\A.e<=10000) (hg : -10000<=B.e/\B.e<=10000) :
  Tells (fun k=>bolterref02_Sum.f k A.neg (digs A.n) A.e B.neg (digs B.n) B.e) ((plusD A B).neg,digs (plusD A B).n,(plusD A B).e):=by
 unfold bolterref02_Sum.f
 rw [Align_f A.neg B.neg A.n B.n A.e B.e (by omega) (by omega) (by omega) (by omega)]
 refine (Tells.pure _).bind ?_
 have hx:=nd_shift_le A.n (A.e - min A.e B.e).toNat
 have hy:=nd_shift_le B.n (B.e - min A.e B.e).toNat
 unfold plusD sumS
 simp only
 generalize A.n * 10 ^ (A.e - min A.e B.e).toNat = x at *
 generalize B.n * 10 ^ (B.e - min A.e B.e).toNat = y at *
 have hx' : nd x<=100000:=by omega
 have hy' : nd y<=100000:=by omega
 by_cases h : A.neg = B.neg
 ·rw [if_pos h]
  exact Tells.ifp (by rw [h]; simp) ((Plus_tells x y (by omega) (by omega)).bind (Tells.pure _))
 ·rw [if_neg h]
  refine Tells.ifn (by simpa using h) ((Order_tells x y (by omega)).bind ?_)
  by_cases hlt : x < y
  ·rw [if_pos hlt]
   exact Tells.ifn (by unfold cmpN; rw [if_pos hlt]; omega) ((Minus_tells y x (by omega) (by omega)).bind (Tells.pure _))
  ·rw [if_neg hlt]
   exact Tells.ifp (by unfold cmpN; rw [if_neg hlt]; split <;> omega) ((Minus_tells x y (by omega) (by omega)).bind (Tells.pure _))
theorem opp_f (A : Dm) : bolterref02_opposite.f A.neg (digs A.n) A.e = some ((negD A).neg,digs A.n,A.e):=by
 unfold bolterref02_opposite.f negD
 have hl : (digs A.n).length = 0 ↔ A.n = 0:=nd_zero_iff
 cases A.neg
 ·rw [if_neg (by simp)]
  congr 2
  simp only [Bool.not_false,Bool.true_and]
  by_cases h : A.n = 0
  ·rw [decide_eq_false (not_not_intro h),decide_eq_false (by have := hl.2 h; omega)]
  ·rw [decide_eq_true h,decide_eq_true (by have : (digs A.n).length ≠ 0:=fun q=>h (hl.1 q); omega)]
 ·rw [if_pos rfl]; rfl
theorem nd_sumS (s t : Bool) (x y k : Nat) (hx : nd x<=k) (hy : nd y<=k) : nd (sumS s t x y).2<=k + 1:=by
 have h1:=nd_add x y
 have h2:=nd_mono (Nat.sub_le x y)
 have h3:=nd_mono (Nat.sub_le y x)
 unfold sumS
 split
 ·show nd (x + y)<=_; omega
 ·split
  ·show nd (y - x)<=_; omega
  ·show nd (x - y)<=_; omega
theorem plusD_nd {A B : Dm} (hA : OkD A) (hB : OkD B) : nd (plusD A B).n<=2301:=by
 have d1:=hA.len; have d2:=hA.low; have d3:=hA.high
 have e1:=hB.len; have e2:=hB.low; have e3:=hB.high
 have hx:=nd_shift_le A.n (A.e - min A.e B.e).toNat
 have hy:=nd_shift_le B.n (B.e - min A.e B.e).toNat
 exact nd_sumS _ _ _ _ 2300 (by omega) (by omega)
theorem plusD_lo {A B : Dm} (hA : OkD A) (hB : OkD B) : -1000<=(plusD A B).e/\(plusD A B).e<=1000:=by
 have d2:=hA.low; have d3:=hA.high
 have e2:=hB.low; have e3:=hB.high
 rw [plusD_e]; omega
theorem RAdd (D E : Dm) (hD : OkD D) (hE : OkD E) : Tells (fun k=>bolterref02_Add.f k D.neg (limbs D.n) D.e E.neg (limbs E.n) E.e) (outD (addD D E)):=by
 have d1:=hD.len; have d2:=hD.low; have d3:=hD.high
 have e1:=hE.len; have e2:=hE.low; have e3:=hE.high
 have p1:=plusD_nd hD hE
 have p2:=plusD_lo hD hE
 unfold bolterref02_Add.f
 refine (Rchecks D E hD hE).bind (Tells.ifp rfl ((ROf D (by omega)).bind ((ROf E (by omega)).bind ?_)))
 dsimp only
 refine (Sum_tells D E (by omega) (by omega) (by omega) (by omega)).bind ?_
 exact (Made (plusD D E).neg (plusD D E).n (plusD D E).e (by omega) (by omega) (by omega)).bind (Tells.pure _)
theorem RNeg (D : Dm) (hD : OkD D) : Tells (fun k=>bolterref02_Neg.f k D.neg (limbs D.n) D.e) (outD (negD D,0)):=by
 have d1:=hD.len; have d2:=hD.low; have d3:=hD.high
 unfold bolterref02_Neg.f
 refine (RCheck D hD).bind (Tells.ifp rfl ((ROf D (by omega)).bind ?_))
 dsimp only
 rw [opp_f D]
 refine (Tells.pure _).bind ?_
 have h:=Made (negD D).neg D.n D.e (by omega) (by omega) (by omega)
 have e : settleD ⟨(negD D).neg,D.n,D.e⟩ = (negD D,0):=settle_of (negD_ok hD)
 rw [e] at h
 exact h.bind (Tells.pure _)
end YtjbjkmccfocikaaGreatDoor.P
end
section
namespace YtjbjkmccfocikaaGreatDoor.P
open Go.RowKit YtjbjkmccfocikaaGreatDoorW.PrintWords
def anyO {α : Type} (f : α->Option Bool) : List α->Option Bool
 | []=>some false
 | x :: r=>(f x).bind fun t=>if t = true then some true else anyO f r
theorem anyO_cons {α : Type} {f : α->Option Bool} {x : α} {r : List α} {b : Bool} (h : anyO f (x :: r) = some b) : ∃ t,f x = some t/\((t = true->b = true)/\(t = false->anyO f r = some b)):=by
 simp only [anyO] at h
 obtain ⟨t,ht,h2⟩:=Option.bind_eq_some_iff.1 h
 refine ⟨t,ht,fun e=>?_,fun e=>?_⟩
 ·rw [if_pos e] at h2; exact (Option.some.inj h2).symm
 ·rw [if_neg (by simp [e])] at h2; exact h2
theorem anyO_nil {α : Type} {f : α->Option Bool} {b : Bool} (h : anyO f [] = some b) : b = false:=(Option.some.inj h).symm
theorem anyO_some {α : Type} {f : α->Option Bool} (p : α->Bool) : ∀ l : List α,(∀ x ∈ l,f x = some (p x))->anyO f l = some (l.any p)
 | [],_=>rfl
 | x :: r,h=>by
  simp only [anyO]
  rw [h x List.mem_cons_self,Option.bind_some,List.any_cons]
  cases p x
  ·rw [if_neg (by simp),Bool.false_or]; exact anyO_some p r (fun y hy=>h y (List.mem_cons_of_mem _ hy))
  ·rw [if_pos rfl,Bool.true_or]
def IdxR (b : Bool) (e : Ending) : Prop:=∃ i : Int,e = .returned (.int .i64 i)/\decide (0<=i) = b
theorem idxR_at {b : Bool} (h : b = true) (q : Nat) : IdxR b (.returned (.int .i64 (q : Int))):=⟨q,rfl,by rw [h]; simp⟩
theorem idxR_none {b : Bool} (h : b = false) : IdxR b (.returned (.int .i64 (-1))):=⟨-1,rfl,by rw [h]; rfl⟩
theorem drop_any {α : Type} {l : List α} {q : Nat} {z : α} (h : q < l.length) : l.drop q = l.getD q z :: l.drop (q + 1):=by
 rw [List.getD,List.getElem?_eq_getElem h]; exact List.drop_eq_getElem_cons h
theorem addr_any {w : World} {a : Addr} {v : Value} (h : w.cell? a = some v) : ∃ b o,a = ⟨b,o,none⟩:=by
 obtain ⟨b,o,s⟩:=a
 cases s with
 | none=>exact ⟨b,o,rfl⟩
 | some s =>
  unfold World.cell? at h
  split at h
  ·simp at h
  ·cases h
theorem add_any (b o j : Nat) : (⟨b,o,none⟩ : Addr).add j = ⟨b,o + j,none⟩:=by unfold Addr.add; split <;> simp_all
end YtjbjkmccfocikaaGreatDoor.P
end
section
namespace YtjbjkmccfocikaaGreatDoor.B
open Go.RowKit YtjbjkmccfocikaaGreatDoorW.PrintWords YtjbjkmccfocikaaGreatDoorW.PrintLast YtjbjkmccfocikaaGreatDoorW.PrintMore
attribute [local go_sem] max2_int min2_int max_two min_two max_three min_three max_four min_four
def dec_ten.f (k : Nat) (l0 : List Int) : Option (List Int × Bool):=(nat_From.f k 10).bind fun t147=>((nat_Div.f k l0 t147).bind fun bt150=>(some (bt150.1,((bt150.2.1.length : Int) == 0))))
theorem dec_ten.calls (k : Nat) (A0 : Option Addr) (c0 : Nat) (l0 : List Int) (r1 : List Int) (r2 : Bool) (w : World) (hr0 : Kd.C (Kd.int .u32) w A0 l0.length l0) (hc0 : l0.length<=c0) (h : dec_ten.f k l0 = some (r1,r2)) :
  Calls Tryz.prog 109 #[.slice A0 l0.length c0] w fun e w' => ∃ v0_ : Value,e = .returned (.tuple #[v0_,.bool r2])/\Kd.R (Kd.int .u32) 85 w' w.heap.size (fun _=>True) v0_ r1/\Below w.heap.size w w':=by
 have HR0:=am hr0
 have HC0:=am hc0
 clear hr0 hc0
 have HB:=am (Below.refl w.heap.size w)
 have H : ((nat_From.f k 10).bind fun t147=>((nat_Div.f k l0 t147).bind fun bt150=>(some (bt150.1,((bt150.2.1.length : Int) == 0))))) = some (r1,r2):=h
 clear h
 obtain ⟨t147,A2,H⟩:=ob H
 obtain ⟨⟨t150,t151,t152⟩,A3,H⟩:=ob H; (try dsimp only at H)
 simp only [Option.some.injEq,Prod.mk.injEq] at H
 obtain ⟨rfl,rfl⟩:=H
 go_enter Tryz.func109,Tryz.ntmps109
 go_wp2_with (first | (refine gL (some 9) Tryz.func76 #[.int .u64 10] (h:=?_); (with_reducible refine (nat_From.calls k 10 t147 _ A2.out).mono ?_); rintro e w4 ⟨v148,rfl,ho0,hb⟩; refine ⟨_,rfl,?_⟩; have HO149:=am (Kd.R_lower ho0 (below_size pB)); replace HB:=bS hb; obtain ⟨Ao5,co5,eo5⟩:=Kd.R_slice HO149.out; subst eo5) | (refine gL (some 10) Tryz.func69 #[.slice A0 l0.length c0,.slice Ao5 t147.length co5] (h:=?_); (with_reducible refine (nat_Div.calls k _ _ l0 _ _ t147 t150 t151 t152 _ ?side1 ?side2 ?side3 ?side4 A3.out).mono ?_); (case side1=>refine cp ?_; exact (Kd.C_below HR0.out HB.out)); (case side2=>exact HC0.out); (case side3=>exact Kd.C_below (Kd.R_reads' HO149.out).2.2 pl); (case side4=>exact (Kd.R_reads' HO149.out).2.1); rintro e w6 ⟨v153,v155,rfl,ho0,ho1,hb⟩; refine ⟨_,rfl,?_⟩; have HO154:=am (Kd.R_lower (Kd.R_new' ho0 (Kd.R_lt (Kd.R_below HO149.out pl))) (below_size pB)); have HO156:=am (Kd.R_lower (Kd.R_new' ho1 (Kd.R_lt (Kd.R_below HO149.out pl))) (below_size pB)); replace HO149:=am (Kd.R_mono (Kd.R_told (Kd.R_told (Kd.R_old (Kd.R_below HO149.out pl) hb) (Kd.R_base ho0)) (Kd.R_base ho1)) (fun _ h_=>h_.1)); replace HB:=bS hb; obtain ⟨Ao7,co7,eo7⟩:=Kd.R_slice HO156.out; subst eo7))
 go_ret2
 exact ⟨_,pE,by refine rp ?_; exact Kd.R_mono HO154.out (fun _ hk=>trivial),pB⟩
def dec_digits.f (k : Nat) (l0 : List Int) : Option (Int):=(nat_Print.f k l0).bind fun bt173=>(if (l0.length : Int) = 0 then (some 0) else (some (bt173.1.size : Int)))
theorem dec_digits.calls (k : Nat) (A0 : Option Addr) (c0 : Nat) (l0 : List Int) (r : Int) (w : World) (hr0 : Kd.C (Kd.int .u32) w A0 l0.length l0) (hc0 : l0.length<=c0) (h : dec_digits.f k l0 = some r) :
  Calls Tryz.prog 110 #[.slice A0 l0.length c0] w fun e w'=>e = .returned (.int .i64 r)/\Below w.heap.size w w':=by
 have HR0:=am hr0
 have HC0:=am hc0
 clear hr0 hc0
 have HB:=am (Below.refl w.heap.size w)
 have H : ((nat_Print.f k l0).bind fun bt173=>(if (l0.length : Int) = 0 then (some 0) else (some (bt173.1.size : Int)))) = some r:=h
 clear h
 obtain ⟨⟨t173,t174⟩,A2,H⟩:=ob H; (try dsimp only at H)
 by_cases c3 : (l0.length : Int) = 0
 ·rw [if_pos c3] at H
  have c3b0 : ((l0.length : Int) == 0) = true:=beq_iff_eq.mpr c3
  have c3b1 : ((l0.length : Int) != 0) = false:=bne_eq_false_iff_eq.mpr c3
  clear c3
  obtain rfl:=Option.some.inj H
  go_enter Tryz.func110,Tryz.ntmps110
  go_wp2_with (first | (refine gL (some 7) Tryz.func112 #[.slice A0 l0.length c0] (h:=?_); (with_reducible refine (nat_Print.calls k (fun k_=>k_ < w.heap.size) _ _ l0 t173 t174 _ ?side1 A2.out).mono ?_); (case side1=>exact Kd.V_mk HC0.out (Kd.F_below (Kd.C_F (Kd.heap_int .u32) HR0.out) pB)); rintro e w4 ⟨rfl,hb⟩; refine ⟨_,rfl,?_⟩; replace HB:=bS hb))
  go_ret
  exact ⟨pE,pB⟩
 ·rw [if_neg c3] at H
  have c3b0 : ((l0.length : Int) == 0) = false:=beq_eq_false_iff_ne.mpr c3
  have c3b1 : ((l0.length : Int) != 0) = true:=bne_iff_ne.mpr c3
  have c3b2 : ¬ (l0 = []):=fun h_=>c3 (by rw [h_]; rfl)
  obtain rfl:=Option.some.inj H
  go_enter Tryz.func110,Tryz.ntmps110
  go_wp2_with (first | (refine gL (some 7) Tryz.func112 #[.slice A0 l0.length c0] (h:=?_); (with_reducible refine (nat_Print.calls k (fun k_=>k_ < w.heap.size) _ _ l0 t173 t174 _ ?side1 A2.out).mono ?_); (case side1=>exact Kd.V_mk HC0.out (Kd.F_below (Kd.C_F (Kd.heap_int .u32) HR0.out) pB)); rintro e w5 ⟨rfl,hb⟩; refine ⟨_,rfl,?_⟩; replace HB:=bS hb))
  go_ret
  exact ⟨pE,pB⟩
def dec_Check.j0 : Nat->Bool->Bool->List Int->Int->Option (Int)
 | 0,_,_,_,_=>none
 | k + 1,x14,x176000,x176001,x176002=>if x14 = true then (some 9) else (if (x176001.length : Int) = 0 then (if x176000 = true then (some 9) else (if x176002 = 0 then (some 0) else (some 9))) else ((dec_ten.f k x176001).bind fun bt177=>(if bt177.2 = true then (some 9) else ((dec_digits.f k x176001).bind fun t181=>(if t181 > 300 then (some 9) else (if x176002 < (-1000) then (some 9) else (if x176002 > 1000 then (some 9) else (some 0))))))))
def dec_Check.f (k : Nat) (a0_0 : Bool) (l0_1 : List Int) (a0_2 : Int) : Option (Int):=(nat_Check.f l0_1).bind fun t176=>(if t176 = 0 then (dec_Check.j0 k (decide ((l0_1.length : Int) > 40)) a0_0 l0_1 a0_2) else (dec_Check.j0 k true a0_0 l0_1 a0_2))
theorem dec_Check.calls (k : Nat) (a0_0 : Bool) (A0_1 : Option Addr) (c0_1 : Nat) (l0_1 : List Int) (a0_2 : Int) (r : Int) (w : World) (hr0_1 : Kd.C (Kd.int .u32) w A0_1 l0_1.length l0_1) (hc0_1 : l0_1.length<=c0_1) (h : dec_Check.f k a0_0 l0_1 a0_2 = some r) :
  Calls Tryz.prog 55 #[.agg #[.bool a0_0,.slice A0_1 l0_1.length c0_1,.int .i64 a0_2]] w fun e w'=>e = .returned (.int .i64 r)/\Below w.heap.size w w':=by
 have hu24:=Tryz.underlying24
 have HR0_1:=am hr0_1
 have HC0_1:=am hc0_1
 clear hr0_1 hc0_1
 have HB:=am (Below.refl w.heap.size w)
 have H : ((nat_Check.f l0_1).bind fun t176=>(if t176 = 0 then (dec_Check.j0 k (decide ((l0_1.length : Int) > 40)) a0_0 l0_1 a0_2) else (dec_Check.j0 k true a0_0 l0_1 a0_2))) = some r:=h
 clear h
 have HC2:=am H
 clear H
 go_enter Tryz.func55,Tryz.ntmps55
 go_upto_region 1 with (first | ((with_reducible refine gd 1 ?_); (try (refine gate_guard (by rfl) ?_; dsimp only)); refine bx 1 #[.bool a0_0,.slice A0_1 l0_1.length c0_1,.int .i64 a0_2] 24 (h:=?_); intro gb175 hg w3 hbox hb; have BK175:=am hbox; have GW175:=gW hg; have GE175:=gW hg; replace HB:=bS hb; clear hb hbox hg))
 (try simp only [Act.put,List.setIfInBounds_toArray,List.set_cons_zero,List.set_cons_succ])
 go_cut [14] (fun v14 wc => ∃ (kq : Nat) (x14_1 : Bool),v14 = .bool x14_1/\Aside0 (dec_Check.j0 kq x14_1 a0_0 l0_1 a0_2 = some r)/\Aside0 (kq<=k)/\Aside0 (wc.heap[gb175]? = some (.cells #[.bool a0_0,(.slice A0_1 l0_1.length c0_1),.int .i64 a0_2] 24 (0,0)))/\Aside0 (Below w.heap.size w wc))
 case first =>
  have H:=HC2.out
  clear HC2
  obtain ⟨t176,A4,H⟩:=ob H
  by_cases c5 : t176 = 0
  ·rw [if_pos c5] at H
   have c5b0 : (t176 == 0) = true:=beq_iff_eq.mpr c5
   have c5b1 : (t176 != 0) = false:=bne_eq_false_iff_eq.mpr c5
   clear c5
   (first | rw [c5b0] | (simp only [i64_w,i32_w]; rw [c5b0]) | skip)
   have H':=am H
   clear H
   obtain ⟨hcz6_0,hcz6_1,hcz6_2,hfz6_0,hfz6_1,hfz6_2⟩:=cEc BK175.out
   go_wp2_with (first | (refine gL (some 7) Tryz.func108 #[.slice A0_1 l0_1.length c0_1] (h:=?_); (with_reducible refine (nat_Check.calls _ _ l0_1 t176 _ ?side1 ?side2 A4.out).mono ?_); (case side1=>refine cp ?_; exact (Kd.C_below HR0_1.out HB.out)); (case side2=>exact HC0_1.out); rintro e w' ⟨rfl,⟨nd,rfl⟩⟩; refine ⟨_,rfl,?_⟩))
   go_meet
   case rel=>exact ⟨_,(decide ((l0_1.length : Int) > 40)),pR,H',⟨by first | omega | exact Nat.le_refl _⟩,⟨blk_below BK175.out pl⟩,⟨pB⟩⟩
  ·rw [if_neg c5] at H
   have c5b0 : (t176 == 0) = false:=beq_eq_false_iff_ne.mpr c5
   have c5b1 : (t176 != 0) = true:=bne_iff_ne.mpr c5
   (first | rw [c5b0] | (simp only [i64_w,i32_w]; rw [c5b0]) | skip)
   have H':=am H
   clear H
   obtain ⟨hcz7_0,hcz7_1,hcz7_2,hfz7_0,hfz7_1,hfz7_2⟩:=cEc BK175.out
   go_wp2_with (first | (refine gL (some 7) Tryz.func108 #[.slice A0_1 l0_1.length c0_1] (h:=?_); (with_reducible refine (nat_Check.calls _ _ l0_1 t176 _ ?side1 ?side2 A4.out).mono ?_); (case side1=>refine cp ?_; exact (Kd.C_below HR0_1.out HB.out)); (case side2=>exact HC0_1.out); rintro e w' ⟨rfl,⟨nd,rfl⟩⟩; refine ⟨_,rfl,?_⟩))
   go_meet
   case rel=>exact ⟨_,(true),pR,H',⟨by first | omega | exact Nat.le_refl _⟩,⟨blk_below BK175.out pl⟩,⟨pB⟩⟩
 case rest =>
  clear HC2
  obtain ⟨kq,x14_1,rfl,HA,HJ1,BK175,HB⟩:=hcut
  cases kq with
  | zero=>exact absurd HA.out (by simp [dec_Check.j0])
  | succ kj1 =>
   have H:=HA.out
   clear HA
   simp only [dec_Check.j0] at H
   by_cases c8 : x14_1 = true
   ·subst c8
    rw [if_pos rfl] at H
    obtain rfl:=Option.some.inj H
    go_wp2
    go_ret
    exact ⟨pE,pB⟩
   ·replace c8:=Bool.eq_false_iff.mpr c8
    subst c8
    rw [if_neg (show ¬ (false = true) by decide)] at H
    by_cases c9 : (l0_1.length : Int) = 0
    ·rw [if_pos c9] at H
     have c9b0 : ((l0_1.length : Int) == 0) = true:=beq_iff_eq.mpr c9
     have c9b1 : ((l0_1.length : Int) != 0) = false:=bne_eq_false_iff_eq.mpr c9
     clear c9
     by_cases c10 : a0_0 = true
     ·subst c10
      rw [if_pos rfl] at H
      obtain rfl:=Option.some.inj H
      obtain ⟨hcz11_0,hcz11_1,hcz11_2,hfz11_0,hfz11_1,hfz11_2⟩:=cEc BK175.out
      go_wp2
      go_ret
      exact ⟨pE,pB⟩
     ·replace c10:=Bool.eq_false_iff.mpr c10
      subst c10
      rw [if_neg (show ¬ (false = true) by decide)] at H
      by_cases c12 : a0_2 = 0
      ·rw [if_pos c12] at H
       have c12b0 : (a0_2 == 0) = true:=beq_iff_eq.mpr c12
       have c12b1 : (a0_2 != 0) = false:=bne_eq_false_iff_eq.mpr c12
       clear c12
       obtain rfl:=Option.some.inj H
       obtain ⟨hcz13_0,hcz13_1,hcz13_2,hfz13_0,hfz13_1,hfz13_2⟩:=cEc BK175.out
       go_wp2
       go_ret
       exact ⟨pE,pB⟩
      ·rw [if_neg c12] at H
       have c12b0 : (a0_2 == 0) = false:=beq_eq_false_iff_ne.mpr c12
       have c12b1 : (a0_2 != 0) = true:=bne_iff_ne.mpr c12
       obtain rfl:=Option.some.inj H
       obtain ⟨hcz14_0,hcz14_1,hcz14_2,hfz14_0,hfz14_1,hfz14_2⟩:=cEc BK175.out
       go_wp2
       go_ret
       exact ⟨pE,pB⟩
    ·rw [if_neg c9] at H
     have c9b0 : ((l0_1.length : Int) == 0) = false:=beq_eq_false_iff_ne.mpr c9
     have c9b1 : ((l0_1.length : Int) != 0) = true:=bne_iff_ne.mpr c9
     have c9b2 : ¬ (l0_1 = []):=fun h_=>c9 (by rw [h_]; rfl)
     obtain ⟨⟨t177,t178⟩,A15,H⟩:=ob H; (try dsimp only at H)
     by_cases c16 : t178 = true
     ·subst c16
      rw [if_pos rfl] at H
      obtain rfl:=Option.some.inj H
      obtain ⟨hcz17_0,hcz17_1,hcz17_2,hfz17_0,hfz17_1,hfz17_2⟩:=cEc BK175.out
      go_wp2_with (first | (refine gL (some 29) Tryz.func109 #[.slice A0_1 l0_1.length c0_1] (h:=?_); (with_reducible refine (dec_ten.calls kj1 _ _ l0_1 t177 true _ ?side1 ?side2 A15.out).mono ?_); (case side1=>refine cp ?_; exact (Kd.C_below HR0_1.out HB.out)); (case side2=>exact HC0_1.out); rintro e w18 ⟨v179,rfl,ho0,hb⟩; refine ⟨_,rfl,?_⟩; have HO180:=am (Kd.R_lower ho0 (below_size pB)); replace BK175:=bb BK175 hb; replace HB:=bS hb))
      go_ret
      exact ⟨pE,pB⟩
     ·replace c16:=Bool.eq_false_iff.mpr c16
      subst c16
      rw [if_neg (show ¬ (false = true) by decide)] at H
      obtain ⟨t181,A19,H⟩:=ob H
      by_cases c20 : t181 > 300
      ·rw [if_pos c20] at H
       have c20b0 : decide (300 < t181) = true:=decide_eq_true c20
       clear c20
       obtain rfl:=Option.some.inj H
       obtain ⟨hcz21_0,hcz21_1,hcz21_2,hfz21_0,hfz21_1,hfz21_2⟩:=cEc BK175.out
       go_wp2_with (first | (refine gL (some 29) Tryz.func109 #[.slice A0_1 l0_1.length c0_1] (h:=?_); (with_reducible refine (dec_ten.calls kj1 _ _ l0_1 t177 false _ ?side1 ?side2 A15.out).mono ?_); (case side1=>refine cp ?_; exact (Kd.C_below HR0_1.out HB.out)); (case side2=>exact HC0_1.out); rintro e w22 ⟨v179,rfl,ho0,hb⟩; refine ⟨_,rfl,?_⟩; have HO180:=am (Kd.R_lower ho0 (below_size pB)); replace BK175:=bb BK175 hb; replace HB:=bS hb; obtain ⟨hcz23_0,hcz23_1,hcz23_2,hfz23_0,hfz23_1,hfz23_2⟩:=cEc BK175.out) | (go_at_call 110; (with_reducible refine (dec_digits.calls kj1 _ _ l0_1 t181 _ ?side1 ?side2 A19.out).mono ?_); (case side1=>refine cp ?_; exact (Kd.C_below HR0_1.out HB.out)); (case side2=>exact HC0_1.out); rintro e w24 ⟨rfl,hb⟩; replace HO180:=rbl HO180 hb; replace BK175:=bb BK175 hb; replace HB:=bS hb))
       go_ret
       exact ⟨pE,pB⟩
      ·rw [if_neg c20] at H
       have c20b0 : decide (300 < t181) = false:=decide_eq_false c20
       clear c20
       by_cases c25 : a0_2 < (-1000)
       ·rw [if_pos c25] at H
        have c25b0 : decide (a0_2 < (-1000)) = true:=decide_eq_true c25
        clear c25
        obtain rfl:=Option.some.inj H
        obtain ⟨hcz26_0,hcz26_1,hcz26_2,hfz26_0,hfz26_1,hfz26_2⟩:=cEc BK175.out
        go_wp2_with (first | (refine gL (some 29) Tryz.func109 #[.slice A0_1 l0_1.length c0_1] (h:=?_); (with_reducible refine (dec_ten.calls kj1 _ _ l0_1 t177 false _ ?side1 ?side2 A15.out).mono ?_); (case side1=>refine cp ?_; exact (Kd.C_below HR0_1.out HB.out)); (case side2=>exact HC0_1.out); rintro e w27 ⟨v179,rfl,ho0,hb⟩; refine ⟨_,rfl,?_⟩; have HO180:=am (Kd.R_lower ho0 (below_size pB)); replace BK175:=bb BK175 hb; replace HB:=bS hb; obtain ⟨hcz28_0,hcz28_1,hcz28_2,hfz28_0,hfz28_1,hfz28_2⟩:=cEc BK175.out) | (go_at_call 110; (with_reducible refine (dec_digits.calls kj1 _ _ l0_1 t181 _ ?side1 ?side2 A19.out).mono ?_); (case side1=>refine cp ?_; exact (Kd.C_below HR0_1.out HB.out)); (case side2=>exact HC0_1.out); rintro e w29 ⟨rfl,hb⟩; replace HO180:=rbl HO180 hb; replace BK175:=bb BK175 hb; replace HB:=bS hb; obtain ⟨hcz30_0,hcz30_1,hcz30_2,hfz30_0,hfz30_1,hfz30_2⟩:=cEc BK175.out))
        go_ret
        exact ⟨pE,pB⟩
       ·rw [if_neg c25] at H
        have c25b0 : decide (a0_2 < (-1000)) = false:=decide_eq_false c25
        clear c25
        by_cases c31 : a0_2 > 1000
        ·rw [if_pos c31] at H
         have c31b0 : decide (1000 < a0_2) = true:=decide_eq_true c31
         clear c31
         obtain rfl:=Option.some.inj H
         obtain ⟨hcz32_0,hcz32_1,hcz32_2,hfz32_0,hfz32_1,hfz32_2⟩:=cEc BK175.out
         go_wp2_with (first | (refine gL (some 29) Tryz.func109 #[.slice A0_1 l0_1.length c0_1] (h:=?_); (with_reducible refine (dec_ten.calls kj1 _ _ l0_1 t177 false _ ?side1 ?side2 A15.out).mono ?_); (case side1=>refine cp ?_; exact (Kd.C_below HR0_1.out HB.out)); (case side2=>exact HC0_1.out); rintro e w33 ⟨v179,rfl,ho0,hb⟩; refine ⟨_,rfl,?_⟩; have HO180:=am (Kd.R_lower ho0 (below_size pB)); replace BK175:=bb BK175 hb; replace HB:=bS hb; obtain ⟨hcz34_0,hcz34_1,hcz34_2,hfz34_0,hfz34_1,hfz34_2⟩:=cEc BK175.out) | (go_at_call 110; (with_reducible refine (dec_digits.calls kj1 _ _ l0_1 t181 _ ?side1 ?side2 A19.out).mono ?_); (case side1=>refine cp ?_; exact (Kd.C_below HR0_1.out HB.out)); (case side2=>exact HC0_1.out); rintro e w35 ⟨rfl,hb⟩; replace HO180:=rbl HO180 hb; replace BK175:=bb BK175 hb; replace HB:=bS hb; obtain ⟨hcz36_0,hcz36_1,hcz36_2,hfz36_0,hfz36_1,hfz36_2⟩:=cEc BK175.out))
         go_ret
         exact ⟨pE,pB⟩
        ·rw [if_neg c31] at H
         have c31b0 : decide (1000 < a0_2) = false:=decide_eq_false c31
         clear c31
         obtain rfl:=Option.some.inj H
         obtain ⟨hcz37_0,hcz37_1,hcz37_2,hfz37_0,hfz37_1,hfz37_2⟩:=cEc BK175.out
         go_wp2_with (first | (refine gL (some 29) Tryz.func109 #[.slice A0_1 l0_1.length c0_1] (h:=?_); (with_reducible refine (dec_ten.calls kj1 _ _ l0_1 t177 false _ ?side1 ?side2 A15.out).mono ?_); (case side1=>refine cp ?_; exact (Kd.C_below HR0_1.out HB.out)); (case side2=>exact HC0_1.out); rintro e w38 ⟨v179,rfl,ho0,hb⟩; refine ⟨_,rfl,?_⟩; have HO180:=am (Kd.R_lower ho0 (below_size pB)); replace BK175:=bb BK175 hb; replace HB:=bS hb; obtain ⟨hcz39_0,hcz39_1,hcz39_2,hfz39_0,hfz39_1,hfz39_2⟩:=cEc BK175.out) | (go_at_call 110; (with_reducible refine (dec_digits.calls kj1 _ _ l0_1 t181 _ ?side1 ?side2 A19.out).mono ?_); (case side1=>refine cp ?_; exact (Kd.C_below HR0_1.out HB.out)); (case side2=>exact HC0_1.out); rintro e w40 ⟨rfl,hb⟩; replace HO180:=rbl HO180 hb; replace BK175:=bb BK175 hb; replace HB:=bS hb; obtain ⟨hcz41_0,hcz41_1,hcz41_2,hfz41_0,hfz41_1,hfz41_2⟩:=cEc BK175.out))
         go_ret
         exact ⟨pE,pB⟩
def dec_ask_1.f (k : Nat) (a0_0 : Bool) (l0_1 : List Int) (a0_2 : Int) : Option (Bool):=(dec_Check.f k a0_0 l0_1 a0_2).bind fun t183=>(some (t183 != 0))
theorem dec_ask_1.calls (k : Nat) (a0_0 : Bool) (A0_1 : Option Addr) (c0_1 : Nat) (l0_1 : List Int) (a0_2 : Int) (r : Bool) (w : World) (hr0_1 : Kd.C (Kd.int .u32) w A0_1 l0_1.length l0_1) (hc0_1 : l0_1.length<=c0_1) (h : dec_ask_1.f k a0_0 l0_1 a0_2 = some r) :
  Calls Tryz.prog 139 #[.agg #[.bool a0_0,.slice A0_1 l0_1.length c0_1,.int .i64 a0_2]] w fun e w'=>e = .returned (.bool r)/\Below w.heap.size w w':=by
 have hu24:=Tryz.underlying24
 have HR0_1:=am hr0_1
 have HC0_1:=am hc0_1
 clear hr0_1 hc0_1
 have HB:=am (Below.refl w.heap.size w)
 have H : ((dec_Check.f k a0_0 l0_1 a0_2).bind fun t183=>(some (t183 != 0))) = some r:=h
 clear h
 obtain ⟨t183,A2,H⟩:=ob H
 obtain rfl:=Option.some.inj H
 go_enter Tryz.func139,Tryz.ntmps139
 go_wp2_with (first | ((with_reducible refine gd 1 ?_); refine bx 1 #[.bool a0_0,.slice A0_1 l0_1.length c0_1,.int .i64 a0_2] 24 (h:=?_); intro gb182 hg w3 hbox hb; have BK182:=am hbox; have GW182:=gW hg; have GE182:=gW hg; replace HB:=bS hb; clear hb hbox hg; obtain ⟨hcz4_0,hcz4_1,hcz4_2,hfz4_0,hfz4_1,hfz4_2⟩:=cEc BK182.out) | (refine gL (some 4) Tryz.func55 #[.agg #[.bool a0_0,.slice A0_1 l0_1.length c0_1,.int .i64 a0_2]] (h:=?_); (with_reducible refine (dec_Check.calls k a0_0 _ _ l0_1 a0_2 t183 _ ?side1 ?side2 A2.out).mono ?_); (case side1=>refine cp ?_; exact (Kd.C_below HR0_1.out HB.out)); (case side2=>exact HC0_1.out); rintro e w5 ⟨rfl,hb⟩; refine ⟨_,rfl,?_⟩; replace BK182:=bb BK182 hb; replace HB:=bS hb))
 go_ret
 exact ⟨pE,pB⟩
end YtjbjkmccfocikaaGreatDoor.B
end
section
namespace YtjbjkmccfocikaaGreatDoor.B
open Go.RowKit YtjbjkmccfocikaaGreatDoorW.PrintWords YtjbjkmccfocikaaGreatDoor.P
def dec_ask_any.f (k : Nat) (l : List S24) : Option Bool:=anyO (fun x=>dec_ask_1.f k x.f0 x.f1 x.f2) l
theorem dec_ask_any.index (k : Nat) (A0 : Option Addr) (c0 : Nat) (l0 : List S24) (b : Bool) (w : World) (hr0 : Kd.C k24 w A0 l0.length l0) (hc0 : l0.length<=c0) (h : dec_ask_any.f k l0 = some b) :
  Calls Tryz.prog 154 #[.slice A0 l0.length c0,.func (.func 139) #[] #[]] w fun e w'=>IdxR b e/\Below w.heap.size w w':=by
 have hm : l0.length<=9223372036854775807:=Kd.C_max hr0
 have HR:=Aside0.mk hr0
 have HC:=Aside0.mk hc0
 unfold dec_ask_any.f at h
 have H0:=Aside0.mk h
 obtain ⟨n,hn⟩ : ∃ n,l0.length = n:=⟨_,rfl⟩
 rw [hn] at hm
 have HN:=Aside0.mk hn
 clear h hr0 hc0
 rw [hn]
 clear hn
 go_enter Tryz.func154,Tryz.ntmps154
 go_wp2
 go_loopw [8] (fun i wr => ∃ k_ : Nat,k_<=n/\i = .int .i64 k_/\Aside0 (anyO (fun x=>dec_ask_1.f k x.f0 x.f1 x.f2) (l0.drop k_) = some b)/\Below w.heap.size w wr) (fun i _=>n - (intOf i).toNat)
 case atStart=>exact ⟨0,Nat.zero_le _,rfl,⟨H0.out⟩,Below.refl _ _⟩
 case round =>
  obtain ⟨q,hq,rfl,HP,hb⟩:=hrel
  by_cases hlt : q < n
  ·have hlt' : (q : Int) < (n : Int):=by omega
   have hdrop : l0.drop q = (l0.getD q z24) :: l0.drop (q + 1):=drop_any (by have := HN.out; omega)
   obtain ⟨x,hx⟩ : ∃ x,l0.getD q z24 = x:=⟨_,rfl⟩
   have h1:=HP.out
   rw [hdrop,hx] at h1
   obtain ⟨t,ht,h2⟩:=anyO_cons h1
   obtain ⟨ad,c,hA,_,hK,hcc⟩:=Kd.C_get HR.out z24 (q : Int) (by omega) (by have := HN.out; omega)
   have hx' : l0.getD (q : Int).toNat z24 = x:=by rw [Int.toNat_natCast]; exact hx
   rw [hx'] at hK
   obtain ⟨A1,c1,rfl,hl1,hg1⟩:=k24_open hK
   have hcell0:=hcc 0 _ rfl
   have hcell1:=hcc 1 _ rfl
   have hcell2:=hcc 2 _ rfl
   obtain ⟨ad',c',hA',_,hK',hcc'⟩:=Kd.C_get HR.out z24 (0 : Int) (by omega) (by have := HN.out; omega)
   obtain ⟨_,_,rfl,_⟩:=k24_open hK'
   have hfirst:=hcc' 0 _ rfl
   obtain rfl : ad = ad':=Option.some.inj (hA.symm.trans hA')
   subst hA
   obtain ⟨b_,o_,rfl⟩:=addr_any (show w.cell? ad = _ from hfirst)
   have hck0 : wr.cell? ⟨b_,o_ + q * 3,none⟩ = some (.bool x.f0):=by
    have h3:=pw_cell_below hb hcell0
    rw [add_any] at h3
    simpa [show k24.sz = 3 from rfl,Nat.add_assoc] using h3
   have hck1 : wr.cell? ⟨b_,o_ + q * 3 + 1,none⟩ = some (.slice A1 x.f1.length c1):=by
    have h3:=pw_cell_below hb hcell1
    rw [add_any] at h3
    simpa [show k24.sz = 3 from rfl,Nat.add_assoc] using h3
   have hck2 : wr.cell? ⟨b_,o_ + q * 3 + 2,none⟩ = some (.int .i64 x.f2):=by
    have h3:=pw_cell_below hb hcell2
    rw [add_any] at h3
    simpa [show k24.sz = 3 from rfl,Nat.add_assoc] using h3
   have hgw : Kd.C (Kd.int .u32) wr A1 x.f1.length x.f1:=Kd.C_below hg1 hb
   have cF:=dec_ask_1.calls k x.f0 A1 c1 x.f1 x.f2 t wr hgw hl1 ht
   obtain ⟨y0,hy0⟩ : ∃ y,x.f0 = y:=⟨_,rfl⟩
   obtain ⟨y1,hy1⟩ : ∃ y,x.f1.length = y:=⟨_,rfl⟩
   obtain ⟨y2,hy2⟩ : ∃ y,x.f2 = y:=⟨_,rfl⟩
   rw [hy0] at hck0 cF
   rw [hy1] at hck1 cF
   rw [hy2] at hck2 cF
   have HF:=Aside0.mk h2
   clear h1 hdrop hx hx' ht hcc hcell0 hcell1 hcell2 HP h2 hK hl1 hg1 hgw hy0 hy1 hy2 hfirst hcc' hA' hK'
   cases t with
   | true =>
    have HF1:=Aside0.mk (HF.out.1 rfl)
    clear HF
    go_wp2_with (go_at_call 139; refine (cF).mono ?_; rintro e w1 ⟨rfl,hb1⟩)
    go_ret
    exact ⟨idxR_at HF1.out q,hb.trans (hb1.mono hb.size)⟩
   | false =>
    have HF1:=Aside0.mk (HF.out.2 rfl)
    clear HF
    go_wp2_with (go_at_call 139; refine (cF).mono ?_; rintro e w1 ⟨rfl,hb1⟩)
    go_roundw
    case rel=>exact ⟨q + 1,by omega,by go_num,HF1,hb.trans (hb1.mono hb.size)⟩
    case measure=>simp [intOf]; omega
  ·obtain rfl : q = n:=by omega
   have h1:=HP.out
   rw [List.drop_of_length_le (by have := HN.out; omega)] at h1
   have h2:=Aside0.mk (anyO_nil h1)
   clear h1
   go_wp2
   go_ret
   exact ⟨idxR_none h2.out,hb⟩
theorem dec_ask_any.calls (k : Nat) (A0 : Option Addr) (c0 : Nat) (l0 : List S24) (r : Bool) (w : World) (hr0 : Kd.C k24 w A0 l0.length l0) (hc0 : l0.length<=c0) (h : dec_ask_any.f k l0 = some r) :
  Calls Tryz.prog 123 #[.slice A0 l0.length c0,.func (.func 139) #[] #[]] w fun e w'=>e = .returned (.bool r)/\Below w.heap.size w w':=by
 have cI:=dec_ask_any.index k A0 c0 l0 r w hr0 hc0 h
 clear h hr0 hc0
 go_enter Tryz.func123,Tryz.ntmps123
 go_wp2_with (go_at_call 154; refine cI.mono ?_; rintro e w1 ⟨⟨i,rfl,hi⟩,hb1⟩)
 go_ret
 exact ⟨by rw [<- hi]; first | rfl | simp,hb1⟩
end YtjbjkmccfocikaaGreatDoor.B
end
section
namespace YtjbjkmccfocikaaGreatDoor.B
open Go.RowKit YtjbjkmccfocikaaGreatDoorW.PrintWords YtjbjkmccfocikaaGreatDoorW.PrintLast YtjbjkmccfocikaaGreatDoorW.PrintMore
attribute [local go_sem] max2_int min2_int max_two min_two max_three min_three max_four min_four
def dec_ask.f (k : Nat) (l0 : List (S24)) : Option (Int):=(dec_ask_any.f k l0).bind fun t1464=>(if t1464 = true then (some 9) else (some 0))
theorem dec_ask.calls (k : Nat) (A0 : Option Addr) (c0 : Nat) (l0 : List (S24)) (r : Int) (w : World) (hr0 : Kd.C k24 w A0 l0.length l0) (hc0 : l0.length<=c0) (h : dec_ask.f k l0 = some r) :
  Calls Tryz.prog 99 #[.slice A0 l0.length c0] w fun e w'=>e = .returned (.int .i64 r)/\Below w.heap.size w w':=by
 have HR0:=am hr0
 have HC0:=am hc0
 clear hr0 hc0
 have HB:=am (Below.refl w.heap.size w)
 have H : ((dec_ask_any.f k l0).bind fun t1464=>(if t1464 = true then (some 9) else (some 0))) = some r:=h
 clear h
 obtain ⟨t1464,A2,H⟩:=ob H
 by_cases c3 : t1464 = true
 ·subst c3
  rw [if_pos rfl] at H
  obtain rfl:=Option.some.inj H
  go_enter Tryz.func99,Tryz.ntmps99
  go_wp2_with (first | (refine gL (some 4) Tryz.func123 #[.slice A0 l0.length c0,.func (.func 139) #[] #[]] (h:=?_); (with_reducible refine (dec_ask_any.calls k _ _ l0 true _ ?side1 ?side2 A2.out).mono ?_); (case side1=>refine cp ?_; exact HR0.out); (case side2=>exact HC0.out); rintro e w4 ⟨rfl,hb⟩; refine ⟨_,rfl,?_⟩; replace HB:=bS hb))
  go_ret
  exact ⟨pE,pB⟩
 ·replace c3:=Bool.eq_false_iff.mpr c3
  subst c3
  rw [if_neg (show ¬ (false = true) by decide)] at H
  obtain rfl:=Option.some.inj H
  go_enter Tryz.func99,Tryz.ntmps99
  go_wp2_with (first | (refine gL (some 4) Tryz.func123 #[.slice A0 l0.length c0,.func (.func 139) #[] #[]] (h:=?_); (with_reducible refine (dec_ask_any.calls k _ _ l0 false _ ?side1 ?side2 A2.out).mono ?_); (case side1=>refine cp ?_; exact HR0.out); (case side2=>exact HC0.out); rintro e w5 ⟨rfl,hb⟩; refine ⟨_,rfl,?_⟩; replace HB:=bS hb))
  go_ret
  exact ⟨pE,pB⟩
def dec_number_zero.f (a0_0 : Bool) (l0_1 : List Int) (a0_2 : Int) : Option (Bool):=some ((l0_1.length : Int) == 0)
theorem dec_number_zero.calls (a0_0 : Bool) (A0_1 : Option Addr) (c0_1 : Nat) (l0_1 : List Int) (a0_2 : Int) (r : Bool) (w : World) (hr0_1 : Kd.C (Kd.int .u32) w A0_1 l0_1.length l0_1) (hc0_1 : l0_1.length<=c0_1) (h : dec_number_zero.f a0_0 l0_1 a0_2 = some r) :
  Calls Tryz.prog 104 #[.agg #[.bool a0_0,.slice A0_1 l0_1.length c0_1,.int .i64 a0_2]] w fun e w'=>e = .returned (.bool r)/\Below w.heap.size w w':=by
 have hu106:=Tryz.underlying106
 have HR0_1:=am hr0_1
 have HC0_1:=am hc0_1
 clear hr0_1 hc0_1
 have HB:=am (Below.refl w.heap.size w)
 have H : (some ((l0_1.length : Int) == 0)) = some r:=h
 clear h
 obtain rfl:=Option.some.inj H
 go_enter Tryz.func104,Tryz.ntmps104
 go_wp2_with (first | ((with_reducible refine gd 1 ?_); refine bx 1 #[.bool a0_0,.slice A0_1 l0_1.length c0_1,.int .i64 a0_2] 106 (h:=?_); intro gb186 hg w2 hbox hb; have BK186:=am hbox; have GW186:=gW hg; have GE186:=gW hg; replace HB:=bS hb; clear hb hbox hg; obtain ⟨hcz3_0,hcz3_1,hcz3_2,hfz3_0,hfz3_1,hfz3_2⟩:=cEc BK186.out))
 go_ret
 exact ⟨pE,pB⟩
def dec_must.f (l0 : List Int) (a1 : Int) : Option (List Int):=some l0
theorem dec_must.calls (P0_ : Nat->Prop) (u9000_ : Value) (l0 : List Int) (a1 : Int) (r : List Int) (w0 w : World) (hB : Below w0.heap.size w0 w) (ho0 : Kd.R (Kd.int .u32) 85 w w0.heap.size P0_ u9000_ l0) (h : dec_must.f l0 a1 = some r) :
  Calls Tryz.prog 105 #[u9000_,.int .i64 a1] w fun e w' => ∃ v0_ : Value,e = .returned (v0_)/\Kd.R (Kd.int .u32) 85 w' w0.heap.size (fun k_=>(P0_ k_\/w.heap.size<=k_)) v0_ r/\Below w0.heap.size w0 w'/\Kept w w' (fun k_=>P0_ k_):=by
 have HO0:=am (show Kd.R (Kd.int .u32) 85 w w0.heap.size (fun k_=>(P0_ k_\/w.heap.size<=k_)) u9000_ l0 from Kd.R_mono ho0 (fun k_ hk=>(.inl hk)))
 have HK:=am (Kept.refl w (fun k_=>P0_ k_))
 have HW0:=am hB.size
 have HB:=am hB
 clear hB
 have H : (some l0) = some r:=h
 clear h
 obtain rfl:=Option.some.inj H
 go_enter Tryz.func105,Tryz.ntmps105
 go_wp2
 go_ret
 exact ⟨_,pE,by refine rp ?_; exact HO0.out,pB,by repeat (first | (with_reducible first | exact HK.out | apply Kept.alloc | apply Kept.drewN | apply Kept.drew) | exact HK.out)⟩
def dec_number_down.j0 : Nat->Int->Bool->Bool->List Int->Int->Option (Bool × List Int × Int)
 | 0,_,_,_,_,_=>none
 | k + 1,x1,x13,x1466000,x1466001,x1466002=>if x13 = true then (some (x1466000,x1466001,x1)) else ((nat_Pow.f k (wrap64 (x1466002 - x1))).bind fun bt1468=>((dec_must.f bt1468.1 bt1468.2).bind fun t1472=>((nat_Mul.f k x1466001 t1472).bind fun bt1475=>((dec_must.f bt1475.1 bt1475.2).bind fun t1479=>(some (x1466000,t1479,x1))))))
def dec_number_down.f (k : Nat) (a0_0 : Bool) (l0_1 : List Int) (a0_2 : Int) (a1 : Int) : Option (Bool × List Int × Int):=(dec_number_zero.f a0_0 l0_1 a0_2).bind fun t1467=>(if t1467 = true then (dec_number_down.j0 k a1 true a0_0 l0_1 a0_2) else (dec_number_down.j0 k a1 (a0_2 == a1) a0_0 l0_1 a0_2))
def dec_number_down.T4 : Bool × List (List Nat × List Nat):=(true,[([],[]),([0],[0]),([1],[1]),([],[]),([3],[3]),([4],[4]),([],[]),([5,6],[5,6]),([7],[7]),([8],[8]),([8],[8]),([9,10,8],[9,10]),([2,11,11],[2,11]),([12],[12]),([12],[12]),([13,14,12],[13,14]),([],[]),([0,1,2,3,4,5,6,7,8,9,10,11,12,13,14,15],[]),([17,0,1,2,3,4,5,6,7,8,9,10,11,12,13,14,15],[17]),([18,15,15,0,1,2,3,4,5,6,7,8,9,10,11,12,13,14,15],[15,18]),([0,1,2,3,4,5,6,7,8,9,10,11,12,13,14,15,16,17,18,19],[]),([20,0,1,2,3,4,5,6,7,8,9,10,11,12,13,14,15,16,17,18,19],[20]),([21,16,19,0,1,2,3,4,5,6,7,8,9,10,11,12,13,14,15,16,17,18,19],[16,21])])
def dec_number_down.B4 : List Nat:=[0,1,3,0,8,24,0,120,248,504,504,2040,4095,8191,8191,32767,0,65535,196607,458751,1048575,2097151,4194303]
theorem dec_number_down.tab4 : rtab .any (opsOf Tryz.f106 4) = dec_number_down.T4:=by kernel_rfl
theorem dec_number_down.bits4 : waitsOk dec_number_down.T4.2 dec_number_down.B4 = true:=by kernel_rfl
theorem dec_number_down.calls (k : Nat) (a0_0 : Bool) (P0_1_ : Nat->Prop) (A0_1 : Option Addr) (c0_1 : Nat) (l0_1 : List Int) (a0_2 : Int) (a1 : Int) (r1 : Bool) (r2 : List Int) (r3 : Int) (w : World) (hs0_1 : Kd.V (Kd.int .u32) 85 w w.heap.size (fun k_=>P0_1_ k_) (.slice A0_1 l0_1.length c0_1) l0_1) (h : dec_number_down.f k a0_0 l0_1 a0_2 a1 = some (r1,r2,r3)) :
  Calls Tryz.prog 106 #[.agg #[.bool a0_0,.slice A0_1 l0_1.length c0_1,.int .i64 a0_2],.int .i64 a1] w fun e w' => ∃ v1_ : Value,e = .returned (.agg #[.bool r1,v1_,.int .i64 r3])/\Kd.V (Kd.int .u32) 85 w' w.heap.size (fun k_=>(P0_1_ k_\/w.heap.size<=k_)) v1_ r2/\Below w.heap.size w w':=by
 have hu106:=Tryz.underlying106
 have HO0_1:=am (show Kd.V (Kd.int .u32) 85 w w.heap.size (fun k_=>(P0_1_ k_\/w.heap.size<=k_)) (.slice A0_1 l0_1.length c0_1) l0_1 from Kd.V_mono hs0_1 (fun k_ hk=>.inl hk))
 have HB:=am (Below.refl w.heap.size w)
 have H : ((dec_number_zero.f a0_0 l0_1 a0_2).bind fun t1467=>(if t1467 = true then (dec_number_down.j0 k a1 true a0_0 l0_1 a0_2) else (dec_number_down.j0 k a1 (a0_2 == a1) a0_0 l0_1 a0_2))) = some (r1,r2,r3):=h
 clear h
 have HC3:=am H
 clear H
 go_enter Tryz.func106,Tryz.ntmps106
 go_upto_region 1 with (first | ((with_reducible refine gd 2 ?_); refine bx 2 #[.bool a0_0,.slice A0_1 l0_1.length c0_1,.int .i64 a0_2] 106 (h:=?_); intro gb1465 hg w4 hbox hb; have BK1465:=am hbox; have GW1465:=gW hg; have GE1465:=gW hg; replace HO0_1:=vE HO0_1 gb1465 hg hb; replace HB:=bS hb; clear hb hbox hg) | ((with_reducible refine gd 4 ?_); refine bx 4 #[.bool false,.slice none 0 0,.int .i64 0] 106 (h:=?_); intro gb1466 hg w5 hbox hb; have BK1466:=am hbox; have GW1466:=gW hg; have GE1466:=gW hg; have NB1465_1466:=nL hg BK1465; have NB1466_1465:=nG hg BK1465; replace HO0_1:=vE HO0_1 gb1466 hg hb; replace BK1465:=bb BK1465 hb; replace HB:=bS hb; clear hb hbox hg))
 (try simp only [Act.put,List.setIfInBounds_toArray,List.set_cons_zero,List.set_cons_succ])
 go_cut [13] (fun v13 wc => ∃ (kq : Nat) (x13_2 : Bool),v13 = .bool x13_2/\Aside0 (dec_number_down.j0 kq a1 x13_2 a0_0 l0_1 a0_2 = some (r1,r2,r3))/\Aside0 (kq<=k)/\Aside0 (Kd.V (Kd.int .u32) 85 wc w.heap.size (fun k_=>(P0_1_ k_\/w.heap.size<=k_)/\k_ ≠ gb1465/\k_ ≠ gb1466) (.slice A0_1 l0_1.length c0_1) l0_1)/\Aside0 (wc.heap[gb1465]? = some (.cells #[.bool a0_0,(.slice A0_1 l0_1.length c0_1),.int .i64 a0_2] 106 (0,0)))/\Aside0 (wc.heap[gb1466]? = some (.cells #[.bool false,(.slice none 0 0),.int .i64 0] 106 (0,0)))/\Aside0 (Below w.heap.size w wc))
 case first =>
  have H:=HC3.out
  clear HC3
  obtain ⟨t1467,A6,H⟩:=ob H
  by_cases c7 : t1467 = true
  ·subst c7
   rw [if_pos rfl] at H
   have H':=am H
   clear H
   have hnb8:=NB1465_1466.out
   have hnc8:=NB1466_1465.out
   obtain ⟨hcz9_0,hcz9_1,hcz9_2,hfz9_0,hfz9_1,hfz9_2⟩:=cEc BK1465.out
   go_wp2_with (first | (refine gL (some 6) Tryz.func104 #[.agg #[.bool a0_0,.slice A0_1 l0_1.length c0_1,.int .i64 a0_2]] (h:=?_); (with_reducible refine (dec_number_zero.calls a0_0 _ _ l0_1 a0_2 true _ ?side1 ?side2 A6.out).mono ?_); (case side1=>exact Kd.C_below (Kd.V_reads' HO0_1.out).2.2 pl); (case side2=>exact (Kd.V_reads' HO0_1.out).2.1); rintro e w10 ⟨rfl,hb⟩; refine ⟨_,rfl,?_⟩; replace HO0_1:=vbl HO0_1 hb; replace BK1465:=bb BK1465 hb; replace BK1466:=bb BK1466 hb; replace HB:=bS hb))
   go_meet
   case rel=>exact ⟨_,(true),pR,H',⟨by first | omega | exact Nat.le_refl _⟩,⟨by refine vp ?_; exact Kd.V_mono HO0_1.out (fun _ hk=>⟨hk.1.1,⟨hk.1.2,hk.2⟩⟩)⟩,⟨blk_below BK1465.out pl⟩,⟨blk_below BK1466.out pl⟩,⟨pB⟩⟩
  ·replace c7:=Bool.eq_false_iff.mpr c7
   subst c7
   rw [if_neg (show ¬ (false = true) by decide)] at H
   have H':=am H
   clear H
   have hnb11:=NB1465_1466.out
   have hnc11:=NB1466_1465.out
   obtain ⟨hcz12_0,hcz12_1,hcz12_2,hfz12_0,hfz12_1,hfz12_2⟩:=cEc BK1465.out
   go_wp2_with (first | (refine gL (some 6) Tryz.func104 #[.agg #[.bool a0_0,.slice A0_1 l0_1.length c0_1,.int .i64 a0_2]] (h:=?_); (with_reducible refine (dec_number_zero.calls a0_0 _ _ l0_1 a0_2 false _ ?side1 ?side2 A6.out).mono ?_); (case side1=>exact Kd.C_below (Kd.V_reads' HO0_1.out).2.2 pl); (case side2=>exact (Kd.V_reads' HO0_1.out).2.1); rintro e w13 ⟨rfl,hb⟩; refine ⟨_,rfl,?_⟩; replace HO0_1:=vbl HO0_1 hb; replace BK1465:=bb BK1465 hb; replace BK1466:=bb BK1466 hb; replace HB:=bS hb; obtain ⟨hcz14_0,hcz14_1,hcz14_2,hfz14_0,hfz14_1,hfz14_2⟩:=cEc BK1465.out))
   go_meet
   case rel=>exact ⟨_,((a0_2 == a1)),pR,H',⟨by first | omega | exact Nat.le_refl _⟩,⟨by refine vp ?_; exact Kd.V_mono HO0_1.out (fun _ hk=>⟨hk.1.1,⟨hk.1.2,hk.2⟩⟩)⟩,⟨blk_below BK1465.out pl⟩,⟨blk_below BK1466.out pl⟩,⟨pB⟩⟩
 case rest =>
  clear HC3
  obtain ⟨kq,x13_2,rfl,HA,HJ2,HO_1466001,BK1465,BK1466,HB⟩:=hcut
  cases kq with
  | zero=>exact absurd HA.out (by simp [dec_number_down.j0])
  | succ kj2 =>
   have H:=HA.out
   clear HA
   simp only [dec_number_down.j0] at H
   by_cases c15 : x13_2 = true
   ·subst c15
    rw [if_pos rfl] at H
    simp only [Option.some.injEq,Prod.mk.injEq] at H
    obtain ⟨rfl,rfl,rfl⟩:=H
    have hnb16:=NB1465_1466.out
    have hnc16:=NB1466_1465.out
    obtain ⟨hcz17_0,hcz17_1,hcz17_2,hfz17_0,hfz17_1,hfz17_2⟩:=cEc BK1465.out
    obtain ⟨hcz18_0,hcz18_1,hcz18_2,hfz18_0,hfz18_1,hfz18_2⟩:=cEc BK1466.out
    go_wp2
    refine bodyPost_ret (results_cell_row rfl _ _ gb1466 106 #[.bool a0_0,.slice A0_1 l0_1.length c0_1,.int .i64 a1] (0,0) _ rfl (by refine bp ?_; refine blk_put (cs:=#[.bool a0_0,.slice A0_1 l0_1.length c0_1,.int .i64 0]) ?_ 2 _ rfl; refine bp ?_; refine blk_put (cs:=#[.bool a0_0,.slice none 0 0,.int .i64 0]) ?_ 1 _ rfl; refine bp ?_; refine blk_put (cs:=#[.bool false,.slice none 0 0,.int .i64 0]) ?_ 0 _ rfl; refine bp ?_; refine blk_far ?_ NB1466_1465.out _; exact bp BK1466.out) Tryz.underlying106 rfl (by kernel_rfl)) rfl ?_
    exact ⟨_,pE,by refine vp ?_; exact Kd.V_mono (Kd.V_far (p:=⟨gb1466,2,none⟩) (Kd.V_far (p:=⟨gb1466,1,none⟩) (Kd.V_far (p:=⟨gb1466,0,none⟩) (Kd.V_far (p:=⟨gb1465,2,none⟩) (Kd.V_mono (Kd.V_mono HO_1466001.out (fun k_ hk=>(⟨hk,hk.2.1⟩ : _/\k_ ≠ gb1465))) (fun k_ hk=>(⟨hk,hk.1.2.2⟩ : _/\k_ ≠ gb1466))) (fun _ hk=>hk.1.2) (.int .i64 a1)) (fun _ hk=>hk.2) (.bool a0_0)) (fun _ hk=>hk.2) (.slice A0_1 l0_1.length c0_1)) (fun _ hk=>hk.2) (.int .i64 a1)) (fun _ hk=>hk.1.1.1),pB⟩
   ·replace c15:=Bool.eq_false_iff.mpr c15
    subst c15
    rw [if_neg (show ¬ (false = true) by decide)] at H
    obtain ⟨⟨t1468,t1469⟩,A19,H⟩:=ob H; (try dsimp only at H)
    obtain ⟨t1472,A20,H⟩:=ob H
    obtain ⟨⟨t1475,t1476⟩,A21,H⟩:=ob H; (try dsimp only at H)
    obtain ⟨t1479,A22,H⟩:=ob H
    simp only [Option.some.injEq,Prod.mk.injEq] at H
    obtain ⟨rfl,rfl,rfl⟩:=H
    try go_wp2
    replace HO_1466001:=am (Kd.V_drew HO_1466001.out)
    replace BK1465:=am (blk_drew BK1465.out)
    replace BK1466:=am (blk_drew BK1466.out)
    replace HB:=am (below_drew1 HB.out)
    refine start_ (n:=23) (S:=fun w'=>w'.cell? ⟨gb1465,0,none⟩ = some (.bool a0_0)/\w'.cell? ⟨gb1465,1,none⟩ = some (.slice A0_1 l0_1.length c0_1)/\w'.cell? ⟨gb1465,2,none⟩ = some (.int .i64 a0_2)) (ds:=[19,22]) #[false,false,false,false,false,false,false,false,false,false,false,false,false,false,false,false,false,false,false,false,false,false,false] (by kernel_rfl) rfl rfl ⟨k0 BK1465 0,k0 BK1465 1,k0 BK1465 2⟩ (fun hHeld=>?_); refine with_tabW dec_number_down.tab4 dec_number_down.bits4 (fun HT_ HW_=>?_)
    generalize wc.drew = w23 at HO_1466001 BK1465 BK1466 HB hHeld ⊢
    refine pu 0 (some 18) #[true,false,false,false,false,false,false,false,false,false,false,false,false,false,false,false,false,false,false,false,false,false,false] (h:=?_)
    refine pu 1 (some 19) #[true,true,false,false,false,false,false,false,false,false,false,false,false,false,false,false,false,false,false,false,false,false,false] (h:=?_)
    refine pu 3 (some 21) #[true,true,false,true,false,false,false,false,false,false,false,false,false,false,false,false,false,false,false,false,false,false,false] (h:=?_)
    refine pu 4 (some 22) #[true,true,false,true,true,false,false,false,false,false,false,false,false,false,false,false,false,false,false,false,false,false,false] (h:=?_)
    refine pu 6 (some 24) #[true,true,false,true,true,false,true,false,false,false,false,false,false,false,false,false,false,false,false,false,false,false,false] (h:=?_)
    refine pu 16 (some 34) #[true,true,false,true,true,false,true,false,false,false,false,false,false,false,false,false,true,false,false,false,false,false,false] (h:=?_)
    refine take_ (i:=2) (N:=some 20) (v:=?_) (a':=?_) #[true,true,true,true,true,false,true,false,false,false,false,false,false,false,false,false,true,false,false,false,false,false,false] rfl rfl (take_ofW HT_.out HW_.out (by kernel_rfl)) (fun _ _ _ h=>h) (Or.inl ⟨by rfl,?_⟩) hHeld ?_ ?_
    rotate_left
    ·rintro w' ⟨s0,s1,s2⟩
     go_simp
     with_reducible rfl
    rotate_left
    ·exact pP
    refine take_ (i:=5) (N:=some 23) (v:=?_) (a':=?_) #[true,true,true,true,true,true,true,false,false,false,false,false,false,false,false,false,true,false,false,false,false,false,false] rfl rfl (take_ofW HT_.out HW_.out (by kernel_rfl)) (fun _ _ _ h=>h) (Or.inl ⟨by rfl,?_⟩) hHeld ?_ ?_
    rotate_left
    ·rintro w' ⟨s0,s1,s2⟩
     go_simp
     with_reducible rfl
    rotate_left
    ·exact pP
    refine pu 7 (some 25) #[true,true,true,true,true,true,true,true,false,false,false,false,false,false,false,false,true,false,false,false,false,false,false] (h:=?_)
    refine one_ (i:=8) (N:=some 26) #[true,true,true,true,true,true,true,true,true,false,false,false,false,false,false,false,true,false,false,false,false,false,false] rfl rfl (one_of HT_.out (by kernel_rfl)) (by decide) (fun K hK=>?_)
    refine goes_ Tryz.func130 (by kernel_rfl) rfl #[.int .i64 (wrap64 (a0_2 - a1))] (by rfl) rfl rfl pA ?_
    with_reducible refine (nat_Pow.calls kj2 (wrap64 (a0_2 - a1)) t1468 t1469 _ A19.out).mono ?_
    rintro e w24 ⟨v1470,rfl,ho0,hb⟩
    refine ⟨_,rfl,?_⟩
    replace HO_1466001:=am (Kd.V_elder' (Kd.V_below HO_1466001.out pl) (Kd.R_base ho0) hb)
    have HO1471:=am (Kd.R_lower (Kd.R_newM (M:=fun k_=>(w.heap.size<=k_)) ho0 (below_size pB) (fun k_ h_=>h_)) (below_size pB))
    replace BK1465:=bb BK1465 hb
    replace BK1466:=bb BK1466 hb
    replace HB:=bS hb
    obtain ⟨Ao25,co25,eo25⟩:=Kd.R_slice HO1471.out
    (first | subst eo25 | (injection eo25 with f1_ f2_ f3_; have f4_:=f1_.symm; have f5_:=f3_.symm; clear f1_ f2_ f3_; subst f4_; subst f5_))
    refine hK.out _ _ ⟨k0 BK1465 0,k0 BK1465 1,k0 BK1465 2⟩ (fun hHeld=>?_)
    clear hK K
    refine norm_ (a':=?_) ?_ ?_
    rotate_left
    ·show Act.put _ (some 26) _ = _
     exact pP
    refine pu 9 (some 27) #[true,true,true,true,true,true,true,true,true,true,false,false,false,false,false,false,true,false,false,false,false,false,false] (h:=?_)
    refine pu 10 (some 28) #[true,true,true,true,true,true,true,true,true,true,true,false,false,false,false,false,true,false,false,false,false,false,false] (h:=?_)
    refine one_ (i:=11) (N:=some 29) #[true,true,true,true,true,true,true,true,true,true,true,true,false,false,false,false,true,false,false,false,false,false,false] rfl rfl (one_of HT_.out (by kernel_rfl)) (by decide) (fun K hK=>?_)
    refine goes_ Tryz.func105 (by kernel_rfl) rfl #[.slice Ao25 t1468.length co25,.int .i64 t1469] (by rfl) rfl rfl pA ?_
    with_reducible refine (dec_must.calls (fun k_=>some k_ = (.slice Ao25 t1468.length co25 : Value).ownBlock) (.slice Ao25 t1468.length co25) t1468 t1469 t1472 w _ ?side1 ?side2 A20.out).mono ?_
    (case side1=>exact pB)
    (case side2=>exact Kd.R_tight rfl HO1471.out)
    rintro e w26 ⟨v1473,rfl,ho0,hb,hkp⟩
    refine ⟨_,rfl,?_⟩
    have HO1474:=am (Kd.R_mono (ok':=fun k_=>(w.heap.size<=k_)) ho0 (fun k_ hk_=>Or.elim hk_ (fun hs_=>(HO1471.out.1 k_ (hs_).symm).1) (fun hn_=>(Nat.le_trans (below_size pB) hn_))))
    replace HO_1466001:=am (Kd.V_mono (ok':=fun k_=>(P0_1_ k_\/w.heap.size<=k_)/\k_ ≠ gb1465/\k_ ≠ gb1466/\some k_ ≠ (v1473 : Value).ownBlock) (Kd.V_keptB (HO_1466001.out) hkp (fun k_ hk_ hs_=>(hk_.2) hs_)) (fun k_ hk_=>⟨hk_.1.1.1,hk_.1.1.2.1,hk_.1.1.2.2,fun e_=>Or.elim (ho0.1 k_ e_.symm) (fun hs_=>hk_.2.1 hs_) (fun hn_=>Nat.not_le.2 hk_.2.2 hn_)⟩))
    replace BK1465:=am (blk_kept (blk_below BK1465.out pl) hkp (fun e_=>Kd.R_ne HO1471.out BK1465.out (by decide) e_))
    replace BK1466:=am (blk_kept (blk_below BK1466.out pl) hkp (fun e_=>Kd.R_ne HO1471.out BK1466.out (by decide) e_))
    replace HB:=am hb
    clear HO1471
    obtain ⟨Ao27,co27,eo27⟩:=Kd.R_slice HO1474.out
    (first | subst eo27 | (injection eo27 with f1_ f2_ f3_; have f4_:=f1_.symm; have f5_:=f3_.symm; clear f1_ f2_ f3_; subst f4_; subst f5_))
    refine hK.out _ _ ⟨k0 BK1465 0,k0 BK1465 1,k0 BK1465 2⟩ (fun hHeld=>?_)
    clear hK K
    refine norm_ (a':=?_) ?_ ?_
    rotate_left
    ·show Act.put _ (some 29) _ = _
     exact pP
    refine one_ (i:=12) (N:=some 30) #[true,true,true,true,true,true,true,true,true,true,true,true,true,false,false,false,true,false,false,false,false,false,false] rfl rfl (one_of HT_.out (by kernel_rfl)) (by decide) (fun K hK=>?_)
    refine goes_ Tryz.func71 (by kernel_rfl) rfl #[.slice A0_1 l0_1.length c0_1,.slice Ao27 t1472.length co27] (by rfl) rfl rfl pA ?_
    with_reducible refine (nat_Mul.calls kj2 _ _ l0_1 _ _ t1472 t1475 t1476 _ ?side1 ?side2 ?side3 ?side4 A21.out).mono ?_
    (case side1=>exact Kd.C_below (Kd.V_reads' HO_1466001.out).2.2 pl)
    (case side2=>exact (Kd.V_reads' HO_1466001.out).2.1)
    (case side3=>exact Kd.C_below (Kd.R_reads' HO1474.out).2.2 pl)
    (case side4=>exact (Kd.R_reads' HO1474.out).2.1)
    rintro e w28 ⟨v1477,rfl,ho0,hb⟩
    refine ⟨_,rfl,?_⟩
    have HO1478:=am (Kd.R_lower (Kd.R_new' (Kd.R_newM (M:=fun k_=>(w.heap.size<=k_)) ho0 (below_size pB) (fun k_ h_=>h_)) (Kd.R_lt (Kd.R_below HO1474.out pl))) (below_size pB))
    replace HO_1466001:=am (Kd.V_elder' (Kd.V_below HO_1466001.out pl) (Kd.R_base ho0) hb)
    replace HO1474:=reR HO1474 ho0 hb
    replace BK1465:=bb BK1465 hb
    replace BK1466:=bb BK1466 hb
    replace HB:=bS hb
    obtain ⟨Ao29,co29,eo29⟩:=Kd.R_slice HO1478.out
    (first | subst eo29 | (injection eo29 with f1_ f2_ f3_; have f4_:=f1_.symm; have f5_:=f3_.symm; clear f1_ f2_ f3_; subst f4_; subst f5_))
    refine hK.out _ _ ⟨k0 BK1465 0,k0 BK1465 1,k0 BK1465 2⟩ (fun hHeld=>?_)
    clear hK K
    refine norm_ (a':=?_) ?_ ?_
    rotate_left
    ·show Act.put _ (some 30) _ = _
     exact pP
    refine pu 13 (some 31) #[true,true,true,true,true,true,true,true,true,true,true,true,true,true,false,false,true,false,false,false,false,false,false] (h:=?_)
    refine pu 14 (some 32) #[true,true,true,true,true,true,true,true,true,true,true,true,true,true,true,false,true,false,false,false,false,false,false] (h:=?_)
    refine one_ (i:=15) (N:=some 33) #[true,true,true,true,true,true,true,true,true,true,true,true,true,true,true,true,true,false,false,false,false,false,false] rfl rfl (one_of HT_.out (by kernel_rfl)) (by decide) (fun K hK=>?_)
    refine goes_ Tryz.func105 (by kernel_rfl) rfl #[.slice Ao29 t1475.length co29,.int .i64 t1476] (by rfl) rfl rfl pA ?_
    with_reducible refine (dec_must.calls (fun k_=>some k_ = (.slice Ao29 t1475.length co29 : Value).ownBlock) (.slice Ao29 t1475.length co29) t1475 t1476 t1479 w _ ?side1 ?side2 A22.out).mono ?_
    (case side1=>exact pB)
    (case side2=>exact Kd.R_tight rfl HO1478.out)
    rintro e w30 ⟨v1480,rfl,ho0,hb,hkp⟩
    refine ⟨_,rfl,?_⟩
    have HO1481:=am (Kd.R_mono (ok':=fun k_=>(w.heap.size<=k_)/\some k_ ≠ (.slice Ao27 t1472.length co27 : Value).ownBlock) ho0 (fun k_ hk_=>⟨Or.elim hk_ (fun hs_=>(HO1478.out.1 k_ (hs_).symm).1.1) (fun hn_=>(Nat.le_trans (below_size pB) hn_)),Or.elim hk_ (fun hs_=>fun e_=>(((HO1474.out).1 k_ e_.symm).2) hs_) (fun hn_=>(Kd.fresh' (Kd.R_lt (Kd.R_below HO1474.out pl)) k_ hn_))⟩))
    replace HO_1466001:=am (Kd.V_mono (ok':=fun k_=>(P0_1_ k_\/w.heap.size<=k_)/\some k_ ≠ (.slice Ao27 t1472.length co27 : Value).ownBlock/\k_ ≠ gb1465/\k_ ≠ gb1466/\some k_ ≠ (v1480 : Value).ownBlock) (Kd.V_keptB (HO_1466001.out) hkp (fun k_ hk_ hs_=>(hk_.2) hs_)) (fun k_ hk_=>⟨hk_.1.1.1,hk_.1.1.2.2.2,hk_.1.1.2.1,hk_.1.1.2.2.1,fun e_=>Or.elim (ho0.1 k_ e_.symm) (fun hs_=>hk_.2.1 hs_) (fun hn_=>Nat.not_le.2 hk_.2.2 hn_)⟩))
    replace BK1465:=am (blk_kept (blk_below BK1465.out pl) hkp (fun e_=>Kd.R_ne HO1478.out BK1465.out (by decide) e_))
    replace BK1466:=am (blk_kept (blk_below BK1466.out pl) hkp (fun e_=>Kd.R_ne HO1478.out BK1466.out (by decide) e_))
    replace HO1474:=am (Kd.R_mono (ok':=fun k_=>(w.heap.size<=k_)/\some k_ ≠ (v1480 : Value).ownBlock) (Kd.R_keptB (HO1474.out) hkp (fun k_ hk_ hs_=>(hk_.2) hs_)) (fun k_ hk_=>⟨hk_.1.1,fun e_=>Or.elim (ho0.1 k_ e_.symm) (fun hs_=>hk_.2.1 hs_) (fun hn_=>Nat.not_le.2 hk_.2.2 hn_)⟩))
    replace HB:=am hb
    clear HO1478
    obtain ⟨Ao31,co31,eo31⟩:=Kd.R_slice HO1481.out
    (first | subst eo31 | (injection eo31 with f1_ f2_ f3_; have f4_:=f1_.symm; have f5_:=f3_.symm; clear f1_ f2_ f3_; subst f4_; subst f5_))
    refine hK.out _ _ ⟨k0 BK1465 0,k0 BK1465 1,k0 BK1465 2⟩ (fun hHeld=>?_)
    clear hK K
    refine norm_ (a':=?_) ?_ ?_
    rotate_left
    ·show Act.put _ (some 33) _ = _
     exact pP
    refine pu 17 (some 35) #[true,true,true,true,true,true,true,true,true,true,true,true,true,true,true,true,true,true,false,false,false,false,false] (h:=?_)
    refine pu 18 (some 36) #[true,true,true,true,true,true,true,true,true,true,true,true,true,true,true,true,true,true,true,false,false,false,false] (h:=?_)
    refine last_ (i:=19) (N:=none) #[true,true,true,true,true,true,true,true,true,true,true,true,true,true,true,true,true,true,true,true,false,false,false] rfl rfl (one_of HT_.out (by kernel_rfl)) (by decide) (fun K hK=>?_)
    have hs32 : w30.cell? ⟨gb1465,1,none⟩ = some (.slice A0_1 l0_1.length c0_1):=k0 BK1465 1
    have hfs32:=blk_frozen BK1465.out 1
    have hns32_1:=NB1466_1465.out
    have hms32_1:=NB1465_1466.out
    refine skip_ (w1:=?_) (by rfl) rfl ?_ ?_
    rotate_left
    ·go_simp
     rfl
    refine hK.out _ _ ?_
    clear hK K
    refine pu 20 (some 37) #[true,true,true,true,true,true,true,true,true,true,true,true,true,true,true,true,true,true,true,true,true,false,false] (h:=?_)
    refine pu 21 (some 38) #[true,true,true,true,true,true,true,true,true,true,true,true,true,true,true,true,true,true,true,true,true,true,false] (h:=?_)
    refine last_ (i:=22) (N:=none) #[true,true,true,true,true,true,true,true,true,true,true,true,true,true,true,true,true,true,true,true,true,true,true] rfl rfl (one_of HT_.out (by kernel_rfl)) (by decide) (fun K hK=>?_)
    have hs33 : w30.cell? ⟨gb1465,2,none⟩ = some (.int .i64 a0_2):=k0 BK1465 2
    have hfs33:=blk_frozen BK1465.out 2
    have hns33_1:=NB1466_1465.out
    have hms33_1:=NB1465_1466.out
    refine skip_ (w1:=?_) (by rfl) rfl ?_ ?_
    rotate_left
    ·go_simp
     rfl
    refine hK.out _ _ ?_
    clear hK K
    refine done_ (done_of HT_.out (by kernel_rfl)) ?_
    have hnb34:=NB1465_1466.out
    have hnc34:=NB1466_1465.out
    obtain ⟨hcz35_0,hcz35_1,hcz35_2,hfz35_0,hfz35_1,hfz35_2⟩:=cEc BK1465.out
    obtain ⟨hcz36_0,hcz36_1,hcz36_2,hfz36_0,hfz36_1,hfz36_2⟩:=cEc BK1466.out
    try go_wp2
    refine bodyPost_ret (results_cell_row rfl _ _ gb1466 106 #[.bool a0_0,.slice Ao31 t1479.length co31,.int .i64 a1] (0,0) _ rfl (by refine bp ?_; refine blk_put (cs:=#[.bool a0_0,.slice Ao31 t1479.length co31,.int .i64 0]) ?_ 2 _ rfl; refine bp ?_; refine blk_put (cs:=#[.bool a0_0,.slice none 0 0,.int .i64 0]) ?_ 1 _ rfl; refine bp ?_; refine blk_put (cs:=#[.bool false,.slice none 0 0,.int .i64 0]) ?_ 0 _ rfl; refine bp ?_; refine blk_far ?_ NB1466_1465.out _; refine bp ?_; refine blk_far ?_ NB1466_1465.out _; exact bp BK1466.out) Tryz.underlying106 rfl (by kernel_rfl)) rfl ?_
    exact ⟨_,pE,Kd.V_mono (Kd.R_V (Kd.R_below (Kd.R_mono (Kd.R_far (p:=⟨gb1466,2,none⟩) (Kd.R_far (p:=⟨gb1466,1,none⟩) (Kd.R_far (p:=⟨gb1466,0,none⟩) (Kd.R_far (p:=⟨gb1465,2,none⟩) (Kd.R_far (p:=⟨gb1465,1,none⟩) (Kd.R_types (Kd.R_types HO1481.out BK1465.out (by decide)) BK1466.out (by decide)) (fun _ hk=>hk.1.2) (.slice Ao31 t1479.length co31)) (fun _ hk=>hk.1.2) (.int .i64 a1)) (fun _ hk=>hk.2) (.bool a0_0)) (fun _ hk=>hk.2) (.slice Ao31 t1479.length co31)) (fun _ hk=>hk.2) (.int .i64 a1)) (fun _ hk=>hk.1.1.1)) pl)) (fun k_ hk=>by first | exact ⟨(.inr (hk.1)),hk.2⟩ | exact (.inr (hk))),pB⟩
end YtjbjkmccfocikaaGreatDoor.B
end
end Go.Proofs
