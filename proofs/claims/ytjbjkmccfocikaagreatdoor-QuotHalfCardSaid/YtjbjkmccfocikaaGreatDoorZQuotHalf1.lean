/- QuotHalf, part 2 of 7 of its proof (no condition); names with a low line are shortened throughout. -/
import Derived.Test.YtjbjkmccfocikaaGreatDoorZQuotHalf0
import Derived.RangeFuncWrites
import Derived.RangeFuncBox
import Derived.Test.YtjbjkmccfocikaaGreatDoorProg
import Derived.OrdersIn
import Derived.StillTail
import Derived.StillTactics
import Derived.Deep.Quiet
import Derived.Deep.QuietTactic
import Derived.BigQuiet
import Derived.OwnWalkIn
import Derived.RangeFuncCalls
import Derived.OrdersHeld
import Derived.Deep.RegionHeld3
import Derived.RangeFuncNested
import Derived.RangeFuncBound
import Derived.RangeFuncLeaves
import Derived.Shelf.Abstract
import Derived.Shelf.RegionOpen
import Derived.WalkKit
import Derived.TacticsInMore
import Derived.LoopNIn
import Derived.LoopIn
import Derived.Outline
import Derived.Deep.RegionHeld
import Derived.Lib.Hide
import Derived.Laws.BitsAllLaws
import Derived.WalkSpells
set_option linter.unusedVariables false
set_option linter.unusedSimpArgs false
set_option maxRecDepth 100000
set_option maxHeartbeats 8000000
namespace Go.Proofs
section
namespace YtjbjkmccfocikaaGreatDoor.B
open Go.RowKit YtjbjkmccfocikaaGreatDoorW.PrintWords YtjbjkmccfocikaaGreatDoorW.PrintLast YtjbjkmccfocikaaGreatDoorW.PrintMore
attribute [local go_sem] Zb5 Zb7 Zcs Zct Zbn Zbo Zb6 Zb8
mutual
def Zh.l0:Nat->List Int->List Int->List Int->Int->Option (List Int)
 | 0,_,_,_,_=>none
 | k+1,x0,x1,x5,x6=>if x6 < (x0.length:Int) then (Zh.l1 k x0 x1 x5 x6 0) else ((Zs.f k x5).bind fun t663=>(some t663))
def Zh.l1:Nat->List Int->List Int->List Int->Int->Int->Option (List Int)
 | 0,_,_,_,_,_=>none
 | k+1,x0,x1,x5,x6,x7=>if x7 < (x1.length:Int) then (if 0<=(wrap64 (x6+x7)) then (if (wrap64 (x6+x7)) < (x5.length:Int) then (if 0<=x6 then (if x6 < (x0.length:Int) then (if 0<=x7 then (Zh.l1 k x0 x1 (x5.set ((wrap64 (x6+x7)):Int).toNat (wrap64 ((rd x5 (wrap64 (x6+x7)))+(wrap64 ((rd x0 x6)*(rd x1 x7)))))) x6 (wrap64 (x7+1))) else (none)) else (none)) else (none)) else (none)) else (none)) else (Zh.l0 k x0 x1 x5 (wrap64 (x6+1)))
end
def Zh.f (k:Nat) (l0:List Int) (l1:List Int):Option (List Int):=if 0<=(wrap64 ((l0.length:Int)+(l1.length:Int))) then (if (wrap64 ((l0.length:Int)+(l1.length:Int)):Int).toNat<=35184372088832 then (Zh.l0 k l0 l1 (List.replicate (wrap64 ((l0.length:Int)+(l1.length:Int)):Int).toNat 0) 0) else (none)) else (none)
def Zh.T8:Bool × List (List Nat × List Nat):=(true,[([],[]),([],[]),([],[]),([1,2],[1,2]),([],[]),([],[]),([],[]),([5,6],[5,6]),([4,7],[4,7]),([8],[8]),([],[]),([],[]),([10,11],[10,11]),([12],[12]),([],[]),([],[]),([14,15],[14,15]),([16],[16]),([13,17],[13,17]),([9,18],[9,18]),([0,3,0,1,2,3,4,5,6,7,8,9,10,11,12,13,14,15,16,17,18,19],[0,3]),([20,19,0,1,2,3,4,5,6,7,8,9,10,11,12,13,14,15,16,17,18,19],[19,20])])
def Zh.B8:List Nat:=[0,0,0,6,0,0,0,96,240,496,0,0,3072,7168,0,0,49152,114688,261120,524272,1048575,2097151]
theorem Zh.tab8:rtab .any (opsOf Tryz.f65 8)=Zh.T8:=by kernel_rfl
theorem Zh.bits8:waitsOk Zh.T8.2 Zh.B8=true:=by kernel_rfl
theorem Zh.calls (k:Nat) (A0:Option Addr) (c0:Nat) (l0:List Int) (A1:Option Addr) (c1:Nat) (l1:List Int) (r:List Int) (w:World) (hr0:Kd.C (Kd.int .i64) w A0 l0.length l0) (hc0:l0.length<=c0) (hr1:Kd.C (Kd.int .i64) w A1 l1.length l1) (hc1:l1.length<=c1) (h:Zh.f k l0 l1=some r) :
  Calls Tryz.prog 65 #[.slice A0 l0.length c0,.slice A1 l1.length c1] w fun e w' => ∃ v0_:Value,e=.returned (v0_)/\Kd.R (Kd.int .i64) 3 w' w.heap.size (fun _=>True) v0_ r/\Below w.heap.size w w':=by
 have HR0:=am hr0
 have HC0:=am hc0
 clear hr0 hc0
 have HR1:=am hr1
 have HC1:=am hc1
 clear hr1 hc1
 have HB:=am (Below.refl w.heap.size w)
 have H:(if 0<=(wrap64 ((l0.length:Int)+(l1.length:Int))) then (if (wrap64 ((l0.length:Int)+(l1.length:Int)):Int).toNat<=35184372088832 then (Zh.l0 k l0 l1 (List.replicate (wrap64 ((l0.length:Int)+(l1.length:Int)):Int).toNat 0) 0) else (none)) else (none))=some r:=h
 clear h
 obtain ⟨ji3,hji3⟩:∃ j_:Int,(wrap64 ((l0.length:Int)+(l1.length:Int)))=j_:=⟨_,rfl⟩
 replace H:(if 0<=(ji3) then (if (ji3:Int).toNat<=35184372088832 then (Zh.l0 k l0 l1 (List.replicate (ji3:Int).toNat 0) 0) else (none)) else (none))=some r:=by first|(rw [hji3] at H;exact H)|(simp only [hji3] at H ⊢;exact H)
 have hji3w:(IntKind.i64.wrap ((l0.length:Int)+(l1.length:Int)))=ji3:=(Zcd _).trans hji3
 by_cases c4:0<=(ji3)
 ·rw [if_pos c4] at H
  have c4b0:=eq_true c4
  have c4b1:decide (0<=(ji3))=true:=decide_eq_true c4
  clear c4
  by_cases c5:(ji3:Int).toNat<=35184372088832
  ·rw [if_pos c5] at H
   have c5b0:=eq_true c5
   have c5b1:decide ((ji3:Int).toNat<=35184372088832)=true:=decide_eq_true c5
   clear c5
   obtain ⟨y660,hy660⟩:∃ y_:List Int,y_=(List.replicate (ji3:Int).toNat 0):=⟨_,rfl⟩
   replace H:(Zh.l0 k l0 l1 y660 0)=some r:=by have hy_:=hy660;exact pH
   have Ny660:=am hy660
   clear hy660
   have H':=am H
   clear H
   go_enter Tryz.func65,Tryz.ntmps65
   go_wp2_with (first|((with_reducible refine gd 13 ?_);refine Kd.Zji (Kd.int .i64) _ 3 rfl (N:=13) rfl 28 _ _ rfl ji3 rfl rfl Tryz.underlying28 (.int .i64 0) 8 info3 rfl (by decide) (by omega) 0 (ok:=fun _=>True) (okp:=fun _=>True) rfl (fun _ hk=>hk) trivial (of_decide_eq_true pQ) (Nat.le_trans (Nat.mul_le_mul_right _ (of_decide_eq_true pQ:ji3.toNat<=35184372088832)) (by omega)) (Below.refl _ _) (Nat.le_refl _) ?_;intro v661 w6 ho7 hb hg_ hnew_;clear hg_ hnew_;(first|rw [<- Ny660.out] at ho7|(simp only [Int.reduceToNat] at ho7;rw [<- Ny660.out] at ho7));have HO662:=am (Kd.Zq ho7 (Zb pB));replace HB:=bS hb;clear hb ho7))
   go_loopg [6] k (fun kq v6 w' => ∃ (x5_1:List Int) (x6_1:Int),v6=.int .i64 x6_1/\Aside0 (Zh.l0 kq l0 l1 x5_1 x6_1=some r)/\Aside0 (kq<=k)/\Aside0 (Kd.R (Kd.int .i64) 3 w' w.heap.size (fun _=>True) v661 x5_1)/\Aside0 (Below w.heap.size w w'))
   case atStart=>exact ⟨(y660),(0),pR,H',⟨Nat.le_refl _⟩,⟨by refine rp ?_;exact HO662.o⟩,⟨pB⟩⟩
   case round =>
    clear H'
    obtain ⟨x5_1,x6_1,rfl,HA,HK1,HO_5,HB⟩:=hrel
    cases gk with
    | zero=>exact absurd HA.out (by simp [Zh.l0])
    | succ k1 =>
     have H:=HA.out
     clear HA
     simp only [Zh.l0] at H
     by_cases c8:x6_1 < (l0.length:Int)
     ·rw [if_pos c8] at H
      have c8b0:decide (x6_1 < (l0.length:Int))=true:=decide_eq_true c8
      clear c8
      have H':=am H
      clear H
      go_wp2
      go_loopg [7] k1 (fun kq v7 w' => ∃ (x5_2:List Int) (x7_2:Int),v7=.int .i64 x7_2/\Aside0 (Zh.l1 kq l0 l1 x5_2 x6_1 x7_2=some r)/\Aside0 (kq<=k1)/\Aside0 (Kd.R (Kd.int .i64) 3 w' w.heap.size (fun _=>True) v661 x5_2)/\Aside0 (Below w.heap.size w w'))
      case atStart=>exact ⟨(x5_1),(0),pR,H',⟨Nat.le_refl _⟩,⟨by refine rp ?_;exact HO_5.o⟩,⟨pB⟩⟩
      case round =>
       clear H'
       obtain ⟨x5_2,x7_2,rfl,HA,HK2,HO_5,HB⟩:=hrel
       cases gk with
       | zero=>exact absurd HA.out (by simp [Zh.l1])
       | succ k2 =>
        have H:=HA.out
        clear HA
        simp only [Zh.l1] at H
        by_cases c9:x7_2 < (l1.length:Int)
        ·rw [if_pos c9] at H
         have c9b0:decide (x7_2 < (l1.length:Int))=true:=decide_eq_true c9
         clear c9
         obtain ⟨ji10,hji10⟩:∃ j_:Int,(wrap64 (x6_1+x7_2))=j_:=⟨_,rfl⟩
         replace H:(if 0<=(ji10) then (if (ji10) < (x5_2.length:Int) then (if 0<=x6_1 then (if x6_1 < (l0.length:Int) then (if 0<=x7_2 then (Zh.l1 k2 l0 l1 (x5_2.set ((ji10):Int).toNat (wrap64 ((rd x5_2 (ji10))+(wrap64 ((rd l0 x6_1)*(rd l1 x7_2)))))) x6_1 (wrap64 (x7_2+1))) else (none)) else (none)) else (none)) else (none)) else (none))=some r:=by first|(rw [hji10] at H;exact H)|(simp only [hji10] at H ⊢;exact H)
         have hji10w:(IntKind.i64.wrap (x6_1+x7_2))=ji10:=(Zcd _).trans hji10
         by_cases c11:0<=(ji10)
         ·rw [if_pos c11] at H
          have c11b0:decide (0<=(ji10))=true:=decide_eq_true c11
          clear c11
          by_cases c12:(ji10) < (x5_2.length:Int)
          ·rw [if_pos c12] at H
           have c12b0:decide ((ji10) < (x5_2.length:Int))=true:=decide_eq_true c12
           clear c12
           by_cases c13:0<=x6_1
           ·rw [if_pos c13] at H
            have c13b0:decide (0<=x6_1)=true:=decide_eq_true c13
            clear c13
            by_cases c14:x6_1 < (l0.length:Int)
            ·rw [if_pos c14] at H
             have c14b0:decide (x6_1 < (l0.length:Int))=true:=decide_eq_true c14
             clear c14
             by_cases c15:0<=x7_2
             ·rw [if_pos c15] at H
              have c15b0:decide (0<=x7_2)=true:=decide_eq_true c15
              clear c15
              obtain ⟨y669,hy669⟩:∃ y_:List Int,y_=(x5_2.set ((ji10):Int).toNat (wrap64 ((rd x5_2 (ji10))+(wrap64 ((rd l0 x6_1)*(rd l1 x7_2)))))):=⟨_,rfl⟩
              replace H:(Zh.l1 k2 l0 l1 y669 x6_1 (wrap64 (x7_2+1)))=some r:=by have hy_:=hy669;exact pH
              have Ny669:=am hy669
              clear hy669
              have H':=am H
              clear H
              try go_wp2
              replace HO_5:=am (Kd.Zem HO_5.o)
              replace HB:=am (Zaz HB.o)
              obtain ⟨Ao18,co18,eo18⟩:=Kd.Zj HO_5.o
              (first|subst eo18|(injection eo18 with f1_ f2_ f3_;have f4_:=f1_.symm;have f5_:=f3_.symm;clear f1_ f2_ f3_;subst f4_;subst f5_))
              have p666:0<=((ji10):Int):=of_decide_eq_true pQ
              have q666:(ji10) < (x5_2.length:Int):=of_decide_eq_true pQ
              obtain ⟨ad666,e666,hx666_0⟩:=Kd.Za4 (Kd.Zd HO_5.o).2.2 (ji10) p666 q666
              cases e666
              replace p666:=eq_true p666
              replace q666:=eq_true q666
              have p667:0<=(x6_1:Int):=of_decide_eq_true pQ
              have q667:x6_1 < (l0.length:Int):=of_decide_eq_true pQ
              obtain ⟨ad667,e667,hx667_0⟩:=Kd.Za4 HR0.o x6_1 p667 q667
              have hw667_0:=hx667_0
              cases e667
              replace hx667_0:=(HB.o.cell (World.block_lt_of_cell? w _ hx667_0)).trans hx667_0
              replace p667:=eq_true p667
              replace q667:=eq_true q667
              have p668:0<=(x7_2:Int):=of_decide_eq_true pQ
              have q668:x7_2 < (l1.length:Int):=of_decide_eq_true pQ
              obtain ⟨ad668,e668,hx668_0⟩:=Kd.Za4 HR1.o x7_2 p668 q668
              have hw668_0:=hx668_0
              cases e668
              replace hx668_0:=(HB.o.cell (World.block_lt_of_cell? w _ hx668_0)).trans hx668_0
              replace p668:=eq_true p668
              replace q668:=eq_true q668
              have p16:0<=((ji10):Int):=of_decide_eq_true pQ
              have q16:((ji10):Int) < ((x5_2.length:Int):Int):=of_decide_eq_true pQ
              obtain ⟨go16,co16,eo16,gb16,gl16,cl16,HG16⟩:=Kd.Zhh HO_5.o (by omega)
              (first|cases eo16|(injection eo16 with ea_ en_ ec_;(first|subst ea_|(injection ea_ with ea_;subst ea_));subst ec_;clear en_))
              have GB16:=am gb16
              have GG16:=am HG16
              clear gb16 gl16 HG16
              (first|simp only [add_plain] at hx666_0|skip)
              obtain ⟨hx16_0,hf16_0⟩:=Kd.Ze1 0 HO_5.o ((ji10):Int) p16 q16
              replace p16:=eq_true p16
              replace q16:=eq_true q16
              have HP19:=Kd.Zlo HO_5.o ((ji10):Int) (wrap64 ((rd x5_2 (ji10))+(wrap64 ((rd l0 x6_1)*(rd l1 x7_2)))))
              rw [<- Ny669.out] at HP19
              have HQ19:=am HP19
              clear HP19
              refine start_ (n:=22) (S:=fun w'=>w'.cell? ⟨go16,((ji10)).toNat,none⟩=some (.int .i64 (rd x5_2 (ji10)))/\w'.cell? (ad667.add (x6_1).toNat)=some (.int .i64 (rd l0 x6_1))/\w'.cell? (ad668.add (x7_2).toNat)=some (.int .i64 (rd l1 x7_2))) (ds:=[21]) #[false,false,false,false,false,false,false,false,false,false,false,false,false,false,false,false,false,false,false,false,false,false] (by kernel_rfl) rfl rfl ⟨hx666_0,((HB.o.cell (World.block_lt_of_cell? w _ hw667_0)).trans hw667_0),((HB.o.cell (World.block_lt_of_cell? w _ hw668_0)).trans hw668_0)⟩ (fun hHeld=>?_);refine Zcq Zh.tab8 Zh.bits8 (fun HT_ HW_=>?_)
              generalize wr.drew=w17 at HO_5 HB GG16 HQ19 hf16_0 hx16_0 hx666_0 hx667_0 hx668_0 hHeld ⊢
              refine pu 0 (some 26) #[true,false,false,false,false,false,false,false,false,false,false,false,false,false,false,false,false,false,false,false,false,false] (h:=?_)
              refine pu 1 (some 27) #[true,true,false,false,false,false,false,false,false,false,false,false,false,false,false,false,false,false,false,false,false,false] (h:=?_)
              refine pu 2 (some 28) #[true,true,true,false,false,false,false,false,false,false,false,false,false,false,false,false,false,false,false,false,false,false] (h:=?_)
              refine pu 3 (some 29) #[true,true,true,true,false,false,false,false,false,false,false,false,false,false,false,false,false,false,false,false,false,false] (h:=?_)
              refine pu 4 (some 30) #[true,true,true,true,true,false,false,false,false,false,false,false,false,false,false,false,false,false,false,false,false,false] (h:=?_)
              refine pu 5 (some 31) #[true,true,true,true,true,true,false,false,false,false,false,false,false,false,false,false,false,false,false,false,false,false] (h:=?_)
              refine pu 6 (some 32) #[true,true,true,true,true,true,true,false,false,false,false,false,false,false,false,false,false,false,false,false,false,false] (h:=?_)
              refine pu 7 (some 33) #[true,true,true,true,true,true,true,true,false,false,false,false,false,false,false,false,false,false,false,false,false,false] (h:=?_)
              refine pu 8 (some 34) #[true,true,true,true,true,true,true,true,true,false,false,false,false,false,false,false,false,false,false,false,false,false] (h:=?_)
              refine pu 10 (some 36) #[true,true,true,true,true,true,true,true,true,false,true,false,false,false,false,false,false,false,false,false,false,false] (h:=?_)
              refine pu 11 (some 37) #[true,true,true,true,true,true,true,true,true,false,true,true,false,false,false,false,false,false,false,false,false,false] (h:=?_)
              refine pu 12 (some 38) #[true,true,true,true,true,true,true,true,true,false,true,true,true,false,false,false,false,false,false,false,false,false] (h:=?_)
              refine pu 14 (some 40) #[true,true,true,true,true,true,true,true,true,false,true,true,true,false,true,false,false,false,false,false,false,false] (h:=?_)
              refine pu 15 (some 41) #[true,true,true,true,true,true,true,true,true,false,true,true,true,false,true,true,false,false,false,false,false,false] (h:=?_)
              refine pu 16 (some 42) #[true,true,true,true,true,true,true,true,true,false,true,true,true,false,true,true,true,false,false,false,false,false] (h:=?_)
              refine take_ (i:=9) (N:=some 35) (v:=?_) (a':=?_) #[true,true,true,true,true,true,true,true,true,true,true,true,true,false,true,true,true,false,false,false,false,false] rfl rfl (Zbi HT_.out HW_.out (by kernel_rfl)) (fun _ _ _ h=>h) (Or.inl ⟨by rfl,?_⟩) hHeld ?_ ?_
              rotate_left
              ·rintro w' ⟨s0,s1,s2⟩
               go_simp
               with_reducible rfl
              rotate_left
              ·exact pP
              refine take_ (i:=13) (N:=some 39) (v:=?_) (a':=?_) #[true,true,true,true,true,true,true,true,true,true,true,true,true,true,true,true,true,false,false,false,false,false] rfl rfl (Zbi HT_.out HW_.out (by kernel_rfl)) (fun _ _ _ h=>h) (Or.inl ⟨by rfl,?_⟩) hHeld ?_ ?_
              rotate_left
              ·rintro w' ⟨s0,s1,s2⟩
               go_simp
               with_reducible rfl
              rotate_left
              ·exact pP
              refine take_ (i:=17) (N:=some 43) (v:=?_) (a':=?_) #[true,true,true,true,true,true,true,true,true,true,true,true,true,true,true,true,true,true,false,false,false,false] rfl rfl (Zbi HT_.out HW_.out (by kernel_rfl)) (fun _ _ _ h=>h) (Or.inl ⟨by rfl,?_⟩) hHeld ?_ ?_
              rotate_left
              ·rintro w' ⟨s0,s1,s2⟩
               go_simp
               with_reducible rfl
              rotate_left
              ·exact pP
              refine pu 18 (some 44) #[true,true,true,true,true,true,true,true,true,true,true,true,true,true,true,true,true,true,true,false,false,false] (h:=?_)
              refine pu 19 (some 45) #[true,true,true,true,true,true,true,true,true,true,true,true,true,true,true,true,true,true,true,true,false,false] (h:=?_)
              refine pu 20 (some 46) #[true,true,true,true,true,true,true,true,true,true,true,true,true,true,true,true,true,true,true,true,true,false] (h:=?_)
              refine last_ (i:=21) (N:=none) #[true,true,true,true,true,true,true,true,true,true,true,true,true,true,true,true,true,true,true,true,true,true] rfl rfl (Zbw HT_.out (by kernel_rfl)) (by decide) (fun K hK=>?_)
              refine skip_ (w1:=?_) (by rfl) rfl ?_ ?_
              rotate_left
              ·go_simp
               rfl
              refine hK.out _ _ ?_
              clear hK K
              refine done_ (Zdl HT_.out (by kernel_rfl)) ?_
              try go_wp2
              go_roundg k2
              case measure=>have := HK1.out;have := HK2.out;omega
              case rel=>exact ⟨(y669),(wrap64 (x7_2+1)),pR,(by first|exact H'|(have H_:=H'.out;simp only [<- hji3] at H_;exact ⟨H_⟩)|(refine ⟨?_⟩;have H_:=H'.out;simp only [<- hji3] at H_ ⊢;exact H_)|(have H_:=H'.out;simp only [<- hji10] at H_;exact ⟨H_⟩)|(refine ⟨?_⟩;have H_:=H'.out;simp only [<- hji10] at H_ ⊢;exact H_)),⟨by have := HK1.out;have := HK2.out;omega⟩,⟨by refine rp ?_;exact HQ19.out⟩,⟨by repeat (first|(with_reducible first|exact HB.o|apply Zco|apply Zay|apply Zaz|refine Zda ?_ GB16.out)|exact HB.o)⟩⟩
             ·rw [if_neg c15] at H
              exact absurd H (by simp)
            ·rw [if_neg c14] at H
             exact absurd H (by simp)
           ·rw [if_neg c13] at H
            exact absurd H (by simp)
          ·rw [if_neg c12] at H
           exact absurd H (by simp)
         ·rw [if_neg c11] at H
          exact absurd H (by simp)
        ·rw [if_neg c9] at H
         have c9b0:decide (x7_2 < (l1.length:Int))=false:=decide_eq_false c9
         clear c9
         have H':=am H
         clear H
         go_wp2
         go_roundg k2
         case measure=>have := HK1.out;have := HK2.out;omega
         case rel=>exact ⟨(x5_2),(wrap64 (x6_1+1)),pR,(by first|exact H'|(have H_:=H'.out;simp only [<- hji3] at H_;exact ⟨H_⟩)|(refine ⟨?_⟩;have H_:=H'.out;simp only [<- hji3] at H_ ⊢;exact H_)),⟨by have := HK1.out;have := HK2.out;omega⟩,⟨by refine rp ?_;exact HO_5.o⟩,⟨pB⟩⟩
     ·rw [if_neg c8] at H
      have c8b0:decide (x6_1 < (l0.length:Int))=false:=decide_eq_false c8
      clear c8
      obtain ⟨t663,A20,H⟩:=ob H
      obtain rfl:=Option.some.inj H
      obtain ⟨Ao21,co21,eo21⟩:=Kd.Zj HO_5.o
      subst eo21
      go_wp2_with (first|(refine gL (some 48) Tryz.func121 #[.slice Ao21 x5_1.length co21] (h:=?_);(with_reducible refine (Zs.calls k1 _ _ x5_1 t663 _ ?side1 ?side2 A20.o).mono ?_);(case side1=>exact Kd.Zx (Kd.Zd HO_5.o).2.2 pl);(case side2=>exact (Kd.Zd HO_5.o).2.1);rintro e w22 ⟨v664,rfl,ho0,hb⟩;refine ⟨_,rfl,?_⟩;have HO665:=am (Kd.Zq (Kd.Zr ho0 (Kd.R_lt (Kd.Za HO_5.o pl))) (Zb pB));replace HO_5:=reR HO_5 ho0 hb;replace HB:=bS hb))
      go_ret
      exact ⟨_,by first|rfl|(simp [Zak,Zal] <;> rfl)|(simp only [<- hji3];first|rfl|(simp [Zak,Zal] <;> rfl))|(simp [*,Zak,Zal] <;> rfl),by refine rp ?_;exact Kd.Zi HO665.o (fun _ hk=>trivial),pB⟩
  ·rw [if_neg c5] at H
   exact absurd H (by simp)
 ·rw [if_neg c4] at H
  exact absurd H (by simp)
mutual
def Zt.l0:Nat->List Int->List Int->List Int->Int->Option (List Int)
 | 0,_,_,_,_=>none
 | k+1,x0,x1,x5,x6=>if x6 < (x0.length:Int) then (Zt.j1 k x0 x1 x5 x6 true) else (Zt.j1 k x0 x1 x5 x6 (decide (x6 < (x1.length:Int))))
def Zt.j1:Nat->List Int->List Int->List Int->Int->Bool->Option (List Int)
 | 0,_,_,_,_,_=>none
 | k+1,x0,x1,x5,x6,x17=>if x17=true then (if x6 < (x0.length:Int) then (if 0<=x6 then (if x6 < (x1.length:Int) then (if x5.length < 17592186044416 then (Zt.l0 k x0 x1 (x5 ++ [wrap64 ((wrap64 (rd x0 x6))+(rd x1 x6))]) (wrap64 (x6+1))) else (none)) else (if x5.length < 17592186044416 then (Zt.l0 k x0 x1 (x5 ++ [wrap64 (rd x0 x6)]) (wrap64 (x6+1))) else (none))) else (none)) else (if x6 < (x1.length:Int) then (if 0<=x6 then (if x5.length < 17592186044416 then (Zt.l0 k x0 x1 (x5 ++ [wrap64 (rd x1 x6)]) (wrap64 (x6+1))) else (none)) else (none)) else (if x5.length < 17592186044416 then (Zt.l0 k x0 x1 (x5 ++ [0]) (wrap64 (x6+1))) else (none)))) else ((Zs.f k x5).bind fun t723=>(some t723))
end
def Zt.f (k:Nat) (l0:List Int) (l1:List Int):Option (List Int):=Zt.l0 k l0 l1 ([]:List Int) 0
theorem Zt.calls (k:Nat) (A0:Option Addr) (c0:Nat) (l0:List Int) (A1:Option Addr) (c1:Nat) (l1:List Int) (r:List Int) (w:World) (hr0:Kd.C (Kd.int .i64) w A0 l0.length l0) (hc0:l0.length<=c0) (hr1:Kd.C (Kd.int .i64) w A1 l1.length l1) (hc1:l1.length<=c1) (h:Zt.f k l0 l1=some r) :
  Calls Tryz.prog 85 #[.slice A0 l0.length c0,.slice A1 l1.length c1] w fun e w' => ∃ v0_:Value,e=.returned (v0_)/\Kd.R (Kd.int .i64) 3 w' w.heap.size (fun _=>True) v0_ r/\Below w.heap.size w w':=by
 have HR0:=am hr0
 have HC0:=am hc0
 clear hr0 hc0
 have HR1:=am hr1
 have HC1:=am hc1
 clear hr1 hc1
 have HB:=am (Below.refl w.heap.size w)
 have H:(Zt.l0 k l0 l1 ([]:List Int) 0)=some r:=h
 clear h
 have H':=am H
 clear H
 go_enter Tryz.func85,Tryz.ntmps85
 go_wp2
 go_loopg [5,6] k (fun kq v5 v6 w' => ∃ (x5_1:List Int) (x6_1:Int),v6=.int .i64 x6_1/\Aside0 (Zt.l0 kq l0 l1 x5_1 x6_1=some r)/\Aside0 (kq<=k)/\Aside0 (Kd.R (Kd.int .i64) 3 w' w.heap.size (fun _=>True) v5 x5_1)/\Aside0 (Below w.heap.size w w'))
 case atStart=>exact ⟨(([]:List Int)),(0),pR,H',⟨Nat.le_refl _⟩,⟨pN⟩,⟨pB⟩⟩
 case round =>
  clear H'
  obtain ⟨x5_1,x6_1,rfl,HA,HK1,HO_5,HB⟩:=hrel
  cases gk with
  | zero=>exact absurd HA.out (by simp [Zt.l0])
  | succ k1 =>
   have H:=HA.out
   clear HA
   simp only [Zt.l0] at H
   have HC3:=am H
   clear H
   go_upto_region 3 with (fail)
   go_cut [17] (fun v17 wc => ∃ (kq:Nat) (x17_2:Bool),v17=.bool x17_2/\Aside0 (Zt.j1 kq l0 l1 x5_1 x6_1 x17_2=some r)/\Aside0 (kq<=k1)/\Aside0 (Kd.R (Kd.int .i64) 3 wc w.heap.size (fun _=>True) u5 x5_1)/\Aside0 (Below w.heap.size w wc))
   case first =>
    have H:=HC3.o
    clear HC3
    by_cases c4:x6_1 < (l0.length:Int)
    ·rw [if_pos c4] at H
     have c4b0:decide (x6_1 < (l0.length:Int))=true:=decide_eq_true c4
     clear c4
     (first|rw [c4b0]|(simp only [Zcd,Zdb];rw [c4b0])|skip)
     have H':=am H
     clear H
     go_wp2
     go_meet
     case rel=>exact ⟨_,(true),pR,H',⟨by have := HK1.out;first|omega|exact Nat.le_refl _⟩,⟨by refine rp ?_;exact HO_5.o⟩,⟨pB⟩⟩
    ·rw [if_neg c4] at H
     have c4b0:decide (x6_1 < (l0.length:Int))=false:=decide_eq_false c4
     clear c4
     (first|rw [c4b0]|(simp only [Zcd,Zdb];rw [c4b0])|skip)
     have H':=am H
     clear H
     go_wp2
     go_meet
     case rel=>exact ⟨_,(decide (x6_1 < (l1.length:Int))),pR,H',⟨by have := HK1.out;first|omega|exact Nat.le_refl _⟩,⟨by refine rp ?_;exact HO_5.o⟩,⟨pB⟩⟩
   case rest =>
    clear HC3
    obtain ⟨kq,x17_2,rfl,HA,HJ2,HO_5,HB⟩:=hcut
    cases kq with
    | zero=>exact absurd HA.out (by simp [Zt.j1])
    | succ kj2 =>
     have H:=HA.out
     clear HA
     simp only [Zt.j1] at H
     by_cases c5:x17_2=true
     ·subst c5
      rw [if_pos rfl] at H
      by_cases c6:x6_1 < (l0.length:Int)
      ·rw [if_pos c6] at H
       have c6b0:decide (x6_1 < (l0.length:Int))=true:=decide_eq_true c6
       clear c6
       by_cases c7:0<=x6_1
       ·rw [if_pos c7] at H
        have c7b0:decide (0<=x6_1)=true:=decide_eq_true c7
        clear c7
        by_cases c8:x6_1 < (l1.length:Int)
        ·rw [if_pos c8] at H
         have c8b0:decide (x6_1 < (l1.length:Int))=true:=decide_eq_true c8
         clear c8
         by_cases c9:x5_1.length < 17592186044416
         ·rw [if_pos c9] at H
          have LMc9:=am c9
          clear c9
          obtain ⟨y728,hy728⟩:∃ y_:List Int,y_=(x5_1 ++ [wrap64 ((wrap64 (rd l0 x6_1))+(rd l1 x6_1))]):=⟨_,rfl⟩
          replace H:(Zt.l0 kj2 l0 l1 y728 (wrap64 (x6_1+1)))=some r:=by have hy_:=hy728;exact pH
          have Ny728:=am hy728
          clear hy728
          have H':=am H
          clear H
          have p726:0<=(x6_1:Int):=of_decide_eq_true pQ
          have q726:x6_1 < (l0.length:Int):=of_decide_eq_true pQ
          obtain ⟨ad726,e726,hx726_0⟩:=Kd.Za4 HR0.o x6_1 p726 q726
          cases e726
          replace hx726_0:=(HB.o.cell (World.block_lt_of_cell? w _ hx726_0)).trans hx726_0
          replace p726:=eq_true p726
          replace q726:=eq_true q726
          have p727:0<=(x6_1:Int):=of_decide_eq_true pQ
          have q727:x6_1 < (l1.length:Int):=of_decide_eq_true pQ
          obtain ⟨ad727,e727,hx727_0⟩:=Kd.Za4 HR1.o x6_1 p727 q727
          cases e727
          replace hx727_0:=(HB.o.cell (World.block_lt_of_cell? w _ hx727_0)).trans hx727_0
          replace p727:=eq_true p727
          replace q727:=eq_true q727
          go_wp2_with (first|((with_reducible refine Zan (b:=.append) (xs:=#[.tmp 40,.tmp 42]) rfl ?_);(try (refine Zao (by rfl) ?_;dsimp only));at_builtin;refine Kd.Zbz (Kd.int .i64) (w0:=w) w.heap.size rfl (.tmp 40) (.tmp 42) 28 3 (.int .i64 0) 8 rfl Tryz.underlying28 info3 rfl (by decide) (by omega) u5 x5_1 (wrap64 ((wrap64 (rd l0 x6_1))+(rd l1 x6_1))) [.int .i64 (wrap64 ((wrap64 (rd l0 x6_1))+(rd l1 x6_1)))] (fun _=>True) (fun _=>False) rfl rfl ?aP (fun _ hk=>hk.elim) ?aF ?aO ?aB ?aS ?aL ?_;(case aP=>exact rfl);(case aB=>exact pB);(case aF=>exact (fun _ _=>trivial));(case aO=>exact (Kd.Za HO_5.o pl));(case aS=>exact (Zb pB));(case aL=>have := LMc9.o;omega);intro v729 w10 ho hb hg hat;rw [<- Ny728.out] at ho;have HO730:=am ho;replace HB:=am hb;clear HO_5 ho hb hg hat))
          go_roundg kj2
          case measure=>have := HK1.out;have := HJ2.o;omega
          case rel=>exact ⟨(y728),(wrap64 (x6_1+1)),pR,H',⟨by have := HK1.out;have := HJ2.o;omega⟩,⟨by refine rp ?_;exact HO730.o⟩,⟨pB⟩⟩
         ·rw [if_neg c9] at H
          exact absurd H (by simp)
        ·rw [if_neg c8] at H
         have c8b0:decide (x6_1 < (l1.length:Int))=false:=decide_eq_false c8
         clear c8
         by_cases c11:x5_1.length < 17592186044416
         ·rw [if_pos c11] at H
          have LMc11:=am c11
          clear c11
          obtain ⟨y731,hy731⟩:∃ y_:List Int,y_=(x5_1 ++ [wrap64 (rd l0 x6_1)]):=⟨_,rfl⟩
          replace H:(Zt.l0 kj2 l0 l1 y731 (wrap64 (x6_1+1)))=some r:=by have hy_:=hy731;exact pH
          have Ny731:=am hy731
          clear hy731
          have H':=am H
          clear H
          have p726:0<=(x6_1:Int):=of_decide_eq_true pQ
          have q726:x6_1 < (l0.length:Int):=of_decide_eq_true pQ
          obtain ⟨ad726,e726,hx726_0⟩:=Kd.Za4 HR0.o x6_1 p726 q726
          cases e726
          replace hx726_0:=(HB.o.cell (World.block_lt_of_cell? w _ hx726_0)).trans hx726_0
          replace p726:=eq_true p726
          replace q726:=eq_true q726
          go_wp2_with (first|((with_reducible refine Zan (b:=.append) (xs:=#[.tmp 40,.tmp 42]) rfl ?_);(try (refine Zao (by rfl) ?_;dsimp only));at_builtin;refine Kd.Zbz (Kd.int .i64) (w0:=w) w.heap.size rfl (.tmp 40) (.tmp 42) 28 3 (.int .i64 0) 8 rfl Tryz.underlying28 info3 rfl (by decide) (by omega) u5 x5_1 (wrap64 (rd l0 x6_1)) [.int .i64 (wrap64 (rd l0 x6_1))] (fun _=>True) (fun _=>False) rfl rfl ?aP (fun _ hk=>hk.elim) ?aF ?aO ?aB ?aS ?aL ?_;(case aP=>exact rfl);(case aB=>exact pB);(case aF=>exact (fun _ _=>trivial));(case aO=>exact (Kd.Za HO_5.o pl));(case aS=>exact (Zb pB));(case aL=>have := LMc11.o;omega);intro v732 w12 ho hb hg hat;rw [<- Ny731.out] at ho;have HO733:=am ho;replace HB:=am hb;clear HO_5 ho hb hg hat))
          go_roundg kj2
          case measure=>have := HK1.out;have := HJ2.o;omega
          case rel=>exact ⟨(y731),(wrap64 (x6_1+1)),pR,H',⟨by have := HK1.out;have := HJ2.o;omega⟩,⟨by refine rp ?_;exact HO733.o⟩,⟨pB⟩⟩
         ·rw [if_neg c11] at H
          exact absurd H (by simp)
       ·rw [if_neg c7] at H
        exact absurd H (by simp)
      ·rw [if_neg c6] at H
       have c6b0:decide (x6_1 < (l0.length:Int))=false:=decide_eq_false c6
       clear c6
       by_cases c13:x6_1 < (l1.length:Int)
       ·rw [if_pos c13] at H
        have c13b0:decide (x6_1 < (l1.length:Int))=true:=decide_eq_true c13
        clear c13
        by_cases c14:0<=x6_1
        ·rw [if_pos c14] at H
         have c14b0:decide (0<=x6_1)=true:=decide_eq_true c14
         clear c14
         by_cases c15:x5_1.length < 17592186044416
         ·rw [if_pos c15] at H
          have LMc15:=am c15
          clear c15
          obtain ⟨y735,hy735⟩:∃ y_:List Int,y_=(x5_1 ++ [wrap64 (rd l1 x6_1)]):=⟨_,rfl⟩
          replace H:(Zt.l0 kj2 l0 l1 y735 (wrap64 (x6_1+1)))=some r:=by have hy_:=hy735;exact pH
          have Ny735:=am hy735
          clear hy735
          have H':=am H
          clear H
          have p734:0<=(x6_1:Int):=of_decide_eq_true pQ
          have q734:x6_1 < (l1.length:Int):=of_decide_eq_true pQ
          obtain ⟨ad734,e734,hx734_0⟩:=Kd.Za4 HR1.o x6_1 p734 q734
          cases e734
          replace hx734_0:=(HB.o.cell (World.block_lt_of_cell? w _ hx734_0)).trans hx734_0
          replace p734:=eq_true p734
          replace q734:=eq_true q734
          go_wp2_with (first|((with_reducible refine Zan (b:=.append) (xs:=#[.tmp 40,.tmp 42]) rfl ?_);(try (refine Zao (by rfl) ?_;dsimp only));at_builtin;refine Kd.Zbz (Kd.int .i64) (w0:=w) w.heap.size rfl (.tmp 40) (.tmp 42) 28 3 (.int .i64 0) 8 rfl Tryz.underlying28 info3 rfl (by decide) (by omega) u5 x5_1 (wrap64 (rd l1 x6_1)) [.int .i64 (wrap64 (rd l1 x6_1))] (fun _=>True) (fun _=>False) rfl rfl ?aP (fun _ hk=>hk.elim) ?aF ?aO ?aB ?aS ?aL ?_;(case aP=>exact rfl);(case aB=>exact pB);(case aF=>exact (fun _ _=>trivial));(case aO=>exact (Kd.Za HO_5.o pl));(case aS=>exact (Zb pB));(case aL=>have := LMc15.o;omega);intro v736 w16 ho hb hg hat;rw [<- Ny735.out] at ho;have HO737:=am ho;replace HB:=am hb;clear HO_5 ho hb hg hat))
          go_roundg kj2
          case measure=>have := HK1.out;have := HJ2.o;omega
          case rel=>exact ⟨(y735),(wrap64 (x6_1+1)),pR,H',⟨by have := HK1.out;have := HJ2.o;omega⟩,⟨by refine rp ?_;exact HO737.o⟩,⟨pB⟩⟩
         ·rw [if_neg c15] at H
          exact absurd H (by simp)
        ·rw [if_neg c14] at H
         exact absurd H (by simp)
       ·rw [if_neg c13] at H
        have c13b0:decide (x6_1 < (l1.length:Int))=false:=decide_eq_false c13
        clear c13
        by_cases c17:x5_1.length < 17592186044416
        ·rw [if_pos c17] at H
         have LMc17:=am c17
         clear c17
         obtain ⟨y738,hy738⟩:∃ y_:List Int,y_=(x5_1 ++ [0]):=⟨_,rfl⟩
         replace H:(Zt.l0 kj2 l0 l1 y738 (wrap64 (x6_1+1)))=some r:=by have hy_:=hy738;exact pH
         have Ny738:=am hy738
         clear hy738
         have H':=am H
         clear H
         go_wp2_with (first|((with_reducible refine Zan (b:=.append) (xs:=#[.tmp 40,.tmp 42]) rfl ?_);(try (refine Zao (by rfl) ?_;dsimp only));at_builtin;refine Kd.Zbz (Kd.int .i64) (w0:=w) w.heap.size rfl (.tmp 40) (.tmp 42) 28 3 (.int .i64 0) 8 rfl Tryz.underlying28 info3 rfl (by decide) (by omega) u5 x5_1 0 [.int .i64 0] (fun _=>True) (fun _=>False) rfl rfl ?aP (fun _ hk=>hk.elim) ?aF ?aO ?aB ?aS ?aL ?_;(case aP=>exact rfl);(case aB=>exact pB);(case aF=>exact (fun _ _=>trivial));(case aO=>exact (Kd.Za HO_5.o pl));(case aS=>exact (Zb pB));(case aL=>have := LMc17.o;omega);intro v739 w18 ho hb hg hat;rw [<- Ny738.out] at ho;have HO740:=am ho;replace HB:=am hb;clear HO_5 ho hb hg hat))
         go_roundg kj2
         case measure=>have := HK1.out;have := HJ2.o;omega
         case rel=>exact ⟨(y738),(wrap64 (x6_1+1)),pR,H',⟨by have := HK1.out;have := HJ2.o;omega⟩,⟨by refine rp ?_;exact HO740.o⟩,⟨pB⟩⟩
        ·rw [if_neg c17] at H
         exact absurd H (by simp)
     ·replace c5:=Bool.eq_false_iff.mpr c5
      subst c5
      rw [if_neg (show ¬ (false=true) by decide)] at H
      obtain ⟨t723,A19,H⟩:=ob H
      obtain rfl:=Option.some.inj H
      obtain ⟨Ao20,co20,eo20⟩:=Kd.Zj HO_5.o
      subst eo20
      go_wp2_with (first|(refine gL (some 45) Tryz.func121 #[.slice Ao20 x5_1.length co20] (h:=?_);(with_reducible refine (Zs.calls kj2 _ _ x5_1 t723 _ ?side1 ?side2 A19.o).mono ?_);(case side1=>exact Kd.Zx (Kd.Zd HO_5.o).2.2 pl);(case side2=>exact (Kd.Zd HO_5.o).2.1);rintro e w21 ⟨v724,rfl,ho0,hb⟩;refine ⟨_,rfl,?_⟩;have HO725:=am (Kd.Zq (Kd.Zr ho0 (Kd.R_lt (Kd.Za HO_5.o pl))) (Zb pB));replace HO_5:=reR HO_5 ho0 hb;replace HB:=bS hb))
      go_ret
      exact ⟨_,pE,by refine rp ?_;exact Kd.Zi HO725.o (fun _ hk=>trivial),pB⟩
def Zas.l0:Nat->List Int->List Int->Int->Option (Int)
 | 0,_,_,_=>none
 | k+1,x0,x1,x5=>if x5 >= 0 then (if 0<=x5 then (if x5 < (x0.length:Int) then (if x5 < (x1.length:Int) then (if (rd x0 x5) < (rd x1 x5) then (some (-1)) else (if (rd x0 x5) > (rd x1 x5) then (some 1) else (Zas.l0 k x0 x1 (wrap64 (x5 - 1))))) else (none)) else (none)) else (none)) else (some 0)
def Zas.f (k:Nat) (l0:List Int) (l1:List Int):Option (Int):=if (l0.length:Int) < (l1.length:Int) then (some (-1)) else (if (l0.length:Int) > (l1.length:Int) then (some 1) else (Zas.l0 k l0 l1 (wrap64 ((l0.length:Int) - 1))))
theorem Zas.calls (k:Nat) (A0:Option Addr) (c0:Nat) (l0:List Int) (A1:Option Addr) (c1:Nat) (l1:List Int) (r:Int) (w:World) (hr0:Kd.C (Kd.int .i64) w A0 l0.length l0) (hc0:l0.length<=c0) (hr1:Kd.C (Kd.int .i64) w A1 l1.length l1) (hc1:l1.length<=c1) (h:Zas.f k l0 l1=some r) :
  Calls Tryz.prog 94 #[.slice A0 l0.length c0,.slice A1 l1.length c1] w fun e w'=>e=.returned (.int .i64 r)/\Drawn0 w w':=by
 have HR0:=am hr0
 have HC0:=am hc0
 clear hr0 hc0
 have HR1:=am hr1
 have HC1:=am hc1
 clear hr1 hc1
 have H:(if (l0.length:Int) < (l1.length:Int) then (some (-1)) else (if (l0.length:Int) > (l1.length:Int) then (some 1) else (Zas.l0 k l0 l1 (wrap64 ((l0.length:Int) - 1)))))=some r:=h
 clear h
 by_cases c3:(l0.length:Int) < (l1.length:Int)
 ·rw [if_pos c3] at H
  have c3b0:decide ((l0.length:Int) < (l1.length:Int))=true:=decide_eq_true c3
  have c3b1:decide (l0.length < l1.length)=true:=decide_eq_true (Int.ofNat_lt.mp c3)
  clear c3
  obtain rfl:=Option.some.inj H
  go_enter Tryz.func94,Tryz.ntmps94
  go_wp2
  repeat (go_quiet (fail);try go_wp2)
  go_ret
  exact ⟨pR,pD⟩
 ·rw [if_neg c3] at H
  have c3b0:decide ((l0.length:Int) < (l1.length:Int))=false:=decide_eq_false c3
  have c3b1:decide (l0.length < l1.length)=false:=decide_eq_false (fun h=>c3 (Int.ofNat_lt.mpr h))
  clear c3
  by_cases c4:(l0.length:Int) > (l1.length:Int)
  ·rw [if_pos c4] at H
   have c4b0:decide ((l1.length:Int) < (l0.length:Int))=true:=decide_eq_true c4
   have c4b1:decide (l1.length < l0.length)=true:=decide_eq_true (Int.ofNat_lt.mp c4)
   clear c4
   obtain rfl:=Option.some.inj H
   go_enter Tryz.func94,Tryz.ntmps94
   go_wp2
   repeat (go_quiet (fail);try go_wp2)
   go_ret
   exact ⟨pR,pD⟩
  ·rw [if_neg c4] at H
   have c4b0:decide ((l1.length:Int) < (l0.length:Int))=false:=decide_eq_false c4
   have c4b1:decide (l1.length < l0.length)=false:=decide_eq_false (fun h=>c4 (Int.ofNat_lt.mpr h))
   clear c4
   have H':=am H
   clear H
   go_enter Tryz.func94,Tryz.ntmps94
   go_wp2
   repeat (go_quiet (fail);try go_wp2)
   go_loopg [5] k (fun kq v5 w' => ∃ (x5_1:Int),v5=.int .i64 x5_1/\Aside0 (Zas.l0 kq l0 l1 x5_1=some r)/\Aside0 (kq<=k)/\Drawn0 w w')
   case atStart=>exact ⟨(wrap64 ((l0.length:Int) - 1)),pR,H',⟨Nat.le_refl _⟩,pD⟩
   case round =>
    clear H'
    obtain ⟨x5_1,rfl,HA,HK1,⟨m1,rfl⟩⟩:=hrel
    cases gk with
    | zero=>exact absurd HA.out (by simp [Zas.l0])
    | succ k1 =>
     have H:=HA.out
     clear HA
     simp only [Zas.l0] at H
     by_cases c5:x5_1 >= 0
     ·rw [if_pos c5] at H
      have c5b0:decide (0<=x5_1)=true:=decide_eq_true c5
      clear c5
      by_cases c6:0<=x5_1
      ·rw [if_pos c6] at H
       have c6b0:decide (0<=x5_1)=true:=decide_eq_true c6
       clear c6
       by_cases c7:x5_1 < (l0.length:Int)
       ·rw [if_pos c7] at H
        have c7b0:decide (x5_1 < (l0.length:Int))=true:=decide_eq_true c7
        clear c7
        by_cases c8:x5_1 < (l1.length:Int)
        ·rw [if_pos c8] at H
         have c8b0:decide (x5_1 < (l1.length:Int))=true:=decide_eq_true c8
         clear c8
         by_cases c9:(rd l0 x5_1) < (rd l1 x5_1)
         ·rw [if_pos c9] at H
          have c9b0:decide ((rd l0 x5_1) < (rd l1 x5_1))=true:=decide_eq_true c9
          clear c9
          obtain rfl:=Option.some.inj H
          have p741:0<=(x5_1:Int):=of_decide_eq_true pQ
          have q741:x5_1 < (l0.length:Int):=of_decide_eq_true pQ
          obtain ⟨ad741,e741,hx741_0⟩:=Kd.Za4 HR0.o x5_1 p741 q741
          cases e741
          replace p741:=eq_true p741
          replace q741:=eq_true q741
          have p742:0<=(x5_1:Int):=of_decide_eq_true pQ
          have q742:x5_1 < (l1.length:Int):=of_decide_eq_true pQ
          obtain ⟨ad742,e742,hx742_0⟩:=Kd.Za4 HR1.o x5_1 p742 q742
          cases e742
          replace p742:=eq_true p742
          replace q742:=eq_true q742
          go_wp2
          repeat (go_quiet (fail);try go_wp2)
          go_ret
          exact ⟨pR,pD⟩
         ·rw [if_neg c9] at H
          have c9b0:decide ((rd l0 x5_1) < (rd l1 x5_1))=false:=decide_eq_false c9
          clear c9
          by_cases c10:(rd l0 x5_1) > (rd l1 x5_1)
          ·rw [if_pos c10] at H
           have c10b0:decide ((rd l1 x5_1) < (rd l0 x5_1))=true:=decide_eq_true c10
           clear c10
           obtain rfl:=Option.some.inj H
           have p741:0<=(x5_1:Int):=of_decide_eq_true pQ
           have q741:x5_1 < (l0.length:Int):=of_decide_eq_true pQ
           obtain ⟨ad741,e741,hx741_0⟩:=Kd.Za4 HR0.o x5_1 p741 q741
           cases e741
           replace p741:=eq_true p741
           replace q741:=eq_true q741
           have p742:0<=(x5_1:Int):=of_decide_eq_true pQ
           have q742:x5_1 < (l1.length:Int):=of_decide_eq_true pQ
           obtain ⟨ad742,e742,hx742_0⟩:=Kd.Za4 HR1.o x5_1 p742 q742
           cases e742
           replace p742:=eq_true p742
           replace q742:=eq_true q742
           have p743:0<=(x5_1:Int):=of_decide_eq_true pQ
           have q743:x5_1 < (l0.length:Int):=of_decide_eq_true pQ
           obtain ⟨ad743,e743,hx743_0⟩:=Kd.Za4 HR0.o x5_1 p743 q743
           obtain rfl:ad741=ad743:=(by injection e743)
           replace p743:=eq_true p743
           replace q743:=eq_true q743
           have p744:0<=(x5_1:Int):=of_decide_eq_true pQ
           have q744:x5_1 < (l1.length:Int):=of_decide_eq_true pQ
           obtain ⟨ad744,e744,hx744_0⟩:=Kd.Za4 HR1.o x5_1 p744 q744
           obtain rfl:ad742=ad744:=(by injection e744)
           replace p744:=eq_true p744
           replace q744:=eq_true q744
           go_wp2
           repeat (go_quiet (fail);try go_wp2)
           go_ret
           exact ⟨pR,pD⟩
          ·rw [if_neg c10] at H
           have c10b0:decide ((rd l1 x5_1) < (rd l0 x5_1))=false:=decide_eq_false c10
           clear c10
           have H':=am H
           clear H
           have p741:0<=(x5_1:Int):=of_decide_eq_true pQ
           have q741:x5_1 < (l0.length:Int):=of_decide_eq_true pQ
           obtain ⟨ad741,e741,hx741_0⟩:=Kd.Za4 HR0.o x5_1 p741 q741
           cases e741
           replace p741:=eq_true p741
           replace q741:=eq_true q741
           have p742:0<=(x5_1:Int):=of_decide_eq_true pQ
           have q742:x5_1 < (l1.length:Int):=of_decide_eq_true pQ
           obtain ⟨ad742,e742,hx742_0⟩:=Kd.Za4 HR1.o x5_1 p742 q742
           cases e742
           replace p742:=eq_true p742
           replace q742:=eq_true q742
           have p743:0<=(x5_1:Int):=of_decide_eq_true pQ
           have q743:x5_1 < (l0.length:Int):=of_decide_eq_true pQ
           obtain ⟨ad743,e743,hx743_0⟩:=Kd.Za4 HR0.o x5_1 p743 q743
           obtain rfl:ad741=ad743:=(by injection e743)
           replace p743:=eq_true p743
           replace q743:=eq_true q743
           have p744:0<=(x5_1:Int):=of_decide_eq_true pQ
           have q744:x5_1 < (l1.length:Int):=of_decide_eq_true pQ
           obtain ⟨ad744,e744,hx744_0⟩:=Kd.Za4 HR1.o x5_1 p744 q744
           obtain rfl:ad742=ad744:=(by injection e744)
           replace p744:=eq_true p744
           replace q744:=eq_true q744
           go_wp2
           repeat (go_quiet (fail);try go_wp2)
           go_roundg k1
           case measure=>have := HK1.out;omega
           case rel=>exact ⟨(wrap64 (x5_1 - 1)),pR,H',⟨by have := HK1.out;omega⟩,pD⟩
        ·rw [if_neg c8] at H
         exact absurd H (by simp)
       ·rw [if_neg c7] at H
        exact absurd H (by simp)
      ·rw [if_neg c6] at H
       exact absurd H (by simp)
     ·rw [if_neg c5] at H
      have c5b0:decide (0<=x5_1)=false:=decide_eq_false c5
      clear c5
      obtain rfl:=Option.some.inj H
      go_wp2
      repeat (go_quiet (fail);try go_wp2)
      go_ret
      exact ⟨pR,pD⟩
def Zbc.f (l0:List Int) (a1:Int):Option (List Int):=if (l0.length:Int)=0 then (some ([]:List Int)) else (if 0<=a1 then (if (a1:Int).toNat<=35184372088832 then ((some (List.replicate (a1:Int).toNat 0:List Int)).bind fun y745=>(if y745.length+l0.length < 17592186044416 then (some (y745++l0)) else (none))) else (none)) else (none))
theorem Zbc.calls (A0:Option Addr) (c0:Nat) (l0:List Int) (a1:Int) (r:List Int) (w:World) (hr0:Kd.C (Kd.int .i64) w A0 l0.length l0) (hc0:l0.length<=c0) (h:Zbc.f l0 a1=some r) :
  Calls Tryz.prog 93 #[.slice A0 l0.length c0,.int .i64 a1] w fun e w' => ∃ v0_:Value,e=.returned (v0_)/\Kd.R (Kd.int .i64) 3 w' w.heap.size (fun _=>True) v0_ r/\Below w.heap.size w w':=by
 have HR0:=am hr0
 have HC0:=am hc0
 clear hr0 hc0
 have HB:=am (Below.refl w.heap.size w)
 have H:(if (l0.length:Int)=0 then (some ([]:List Int)) else (if 0<=a1 then (if (a1:Int).toNat<=35184372088832 then ((some (List.replicate (a1:Int).toNat 0:List Int)).bind fun y745=>(if y745.length+l0.length < 17592186044416 then (some (y745++l0)) else (none))) else (none)) else (none)))=some r:=h
 clear h
 by_cases c3:(l0.length:Int)=0
 ·rw [if_pos c3] at H
  have c3b0:((l0.length:Int) == 0)=true:=beq_iff_eq.mpr c3
  have c3b1:((l0.length:Int) != 0)=false:=bne_eq_false_iff_eq.mpr c3
  clear c3
  obtain rfl:=Option.some.inj H
  go_enter Tryz.func93,Tryz.ntmps93
  go_wp2
  go_ret
  exact ⟨_,pE,pN,pB⟩
 ·rw [if_neg c3] at H
  have c3b0:((l0.length:Int) == 0)=false:=beq_eq_false_iff_ne.mpr c3
  have c3b1:((l0.length:Int) != 0)=true:=bne_iff_ne.mpr c3
  have c3b2:¬ (l0=[]):=fun h_=>c3 (by rw [h_];rfl)
  by_cases c4:0<=a1
  ·rw [if_pos c4] at H
   have c4b0:=eq_true c4
   have c4b1:decide (0<=a1)=true:=decide_eq_true c4
   clear c4
   by_cases c5:(a1:Int).toNat<=35184372088832
   ·rw [if_pos c5] at H
    have c5b0:=eq_true c5
    have c5b1:decide ((a1:Int).toNat<=35184372088832)=true:=decide_eq_true c5
    clear c5
    obtain ⟨y745,hy745⟩:∃ y_:List Int,y_=(List.replicate (a1:Int).toNat 0):=⟨_,rfl⟩
    replace H:(if y745.length+l0.length < 17592186044416 then (some (y745++l0)) else (none))=some r:=by have hy_:=hy745;exact pH
    have Ny745:=am hy745
    clear hy745
    by_cases c6:y745.length+l0.length < 17592186044416
    ·rw [if_pos c6] at H
     have LMc6:=am c6
     clear c6
     obtain ⟨y748,hy748⟩:∃ y_:List Int,y_=(y745++l0):=⟨_,rfl⟩
     replace H:(some y748)=some r:=by have hy_:=hy748;exact pH
     have Ny748:=am hy748
     clear hy748
     obtain rfl:=Option.some.inj H
     go_enter Tryz.func93,Tryz.ntmps93
     go_wp2_with (first|((with_reducible refine gd 10 ?_);refine Kd.Zji (Kd.int .i64) _ 3 rfl (N:=10) rfl 28 _ _ rfl a1 rfl rfl Tryz.underlying28 (.int .i64 0) 8 info3 rfl (by decide) (by omega) 0 (ok:=fun _=>True) (okp:=fun _=>True) rfl (fun _ hk=>hk) trivial (of_decide_eq_true pQ) (Nat.le_trans (Nat.mul_le_mul_right _ (of_decide_eq_true pQ:a1.toNat<=35184372088832)) (by omega)) (Below.refl _ _) (Nat.le_refl _) ?_;intro v746 w7 ho8 hb hg_ hnew_;clear hg_ hnew_;(first|rw [<- Ny745.out] at ho8|(simp only [Int.reduceToNat] at ho8;rw [<- Ny745.out] at ho8));have HO747:=am (Kd.Zq ho8 (Zb pB));replace HB:=bS hb;clear hb ho8)|((with_reducible refine Zan (b:=.append) (xs:=#[.tmp 11,.tmp 12]) rfl ?_);at_builtin;refine Kd.Zeb (Kd.int .i64) (w0:=w) w.heap.size rfl (.tmp 11) (.tmp 12) 28 3 (.int .i64 0) 8 rfl Tryz.underlying28 info3 rfl (by decide) (by omega) v746 y745 l0 _ _ _ (fun _=>True) (fun _=>False) rfl rfl ?aO ?aR (fun _ _ h=>h) (fun _ h=>h.elim) ?aF ?aB ?aS ?aL ?_;(case aR=>exact cB HR0 HB);(case aB=>exact pB);(case aF=>exact (fun _ _=>trivial));(case aO=>exact (Kd.Za HO747.o pl));(case aS=>exact (Zb pB));(case aL=>have := LMc6.o;omega);intro v749 w9 ho hb hg hat;rw [<- Ny748.out] at ho;have HO750:=am ho;replace HB:=am hb;clear HO747 ho hb hg hat))
     go_ret
     exact ⟨_,pE,by refine rp ?_;exact HO750.o,pB⟩
    ·rw [if_neg c6] at H
     exact absurd H (by simp)
   ·rw [if_neg c5] at H
    exact absurd H (by simp)
  ·rw [if_neg c4] at H
   exact absurd H (by simp)
def Zy.l0:Nat->List Int->List Int->List Int->Int->Int->Option (List Int)
 | 0,_,_,_,_,_=>none
 | k+1,x0,x1,x5,x6,x7=>if x7 < (x0.length:Int) then (if 0<=x7 then (if x7 < (x1.length:Int) then (if (wrap64 ((wrap64 ((rd x0 x7) - x6)) - (rd x1 x7))) < 0 then (if x5.length < 17592186044416 then (Zy.l0 k x0 x1 (x5 ++ [wrap64 ((wrap64 ((wrap64 ((rd x0 x7) - x6)) - (rd x1 x7)))+10)]) 1 (wrap64 (x7+1))) else (none)) else (if x5.length < 17592186044416 then (Zy.l0 k x0 x1 (x5 ++ [wrap64 ((wrap64 ((rd x0 x7) - x6)) - (rd x1 x7))]) 0 (wrap64 (x7+1))) else (none))) else (if (wrap64 ((rd x0 x7) - x6)) < 0 then (if x5.length < 17592186044416 then (Zy.l0 k x0 x1 (x5 ++ [wrap64 ((wrap64 ((rd x0 x7) - x6))+10)]) 1 (wrap64 (x7+1))) else (none)) else (if x5.length < 17592186044416 then (Zy.l0 k x0 x1 (x5 ++ [wrap64 ((rd x0 x7) - x6)]) 0 (wrap64 (x7+1))) else (none)))) else (none)) else ((Zah.f k x5).bind fun t761=>(some t761))
def Zy.f (k:Nat) (l0:List Int) (l1:List Int):Option (List Int):=Zy.l0 k l0 l1 ([]:List Int) 0 0
theorem Zy.calls (k:Nat) (A0:Option Addr) (c0:Nat) (l0:List Int) (A1:Option Addr) (c1:Nat) (l1:List Int) (r:List Int) (w:World) (hr0:Kd.C (Kd.int .i64) w A0 l0.length l0) (hc0:l0.length<=c0) (hr1:Kd.C (Kd.int .i64) w A1 l1.length l1) (hc1:l1.length<=c1) (h:Zy.f k l0 l1=some r) :
  Calls Tryz.prog 134 #[.slice A0 l0.length c0,.slice A1 l1.length c1] w fun e w' => ∃ v0_:Value,e=.returned (v0_)/\Kd.R (Kd.int .i64) 3 w' w.heap.size (fun _=>True) v0_ r/\Below w.heap.size w w':=by
 have HR0:=am hr0
 have HC0:=am hc0
 clear hr0 hc0
 have HR1:=am hr1
 have HC1:=am hc1
 clear hr1 hc1
 have HB:=am (Below.refl w.heap.size w)
 have H:(Zy.l0 k l0 l1 ([]:List Int) 0 0)=some r:=h
 clear h
 have H':=am H
 clear H
 go_enter Tryz.func134,Tryz.ntmps134
 go_wp2
 go_loopg [5,6,7] k (fun kq v5 v6 v7 w' => ∃ (x5_1:List Int) (x6_1:Int) (x7_1:Int),v6=.int .i64 x6_1/\v7=.int .i64 x7_1/\Aside0 (Zy.l0 kq l0 l1 x5_1 x6_1 x7_1=some r)/\Aside0 (kq<=k)/\Aside0 (Kd.R (Kd.int .i64) 3 w' w.heap.size (fun _=>True) v5 x5_1)/\Aside0 (Below w.heap.size w w'))
 case atStart=>exact ⟨(([]:List Int)),(0),(0),pR,pR,H',⟨Nat.le_refl _⟩,⟨pN⟩,⟨pB⟩⟩
 case round =>
  clear H'
  obtain ⟨x5_1,x6_1,x7_1,rfl,rfl,HA,HK1,HO_5,HB⟩:=hrel
  cases gk with
  | zero=>exact absurd HA.out (by simp [Zy.l0])
  | succ k1 =>
   have H:=HA.out
   clear HA
   simp only [Zy.l0] at H
   by_cases c3:x7_1 < (l0.length:Int)
   ·rw [if_pos c3] at H
    have c3b0:decide (x7_1 < (l0.length:Int))=true:=decide_eq_true c3
    clear c3
    by_cases c4:0<=x7_1
    ·rw [if_pos c4] at H
     have c4b0:decide (0<=x7_1)=true:=decide_eq_true c4
     clear c4
     by_cases c5:x7_1 < (l1.length:Int)
     ·rw [if_pos c5] at H
      have c5b0:decide (x7_1 < (l1.length:Int))=true:=decide_eq_true c5
      clear c5
      by_cases c6:(wrap64 ((wrap64 ((rd l0 x7_1) - x6_1)) - (rd l1 x7_1))) < 0
      ·rw [if_pos c6] at H
       have c6b0:decide ((wrap64 ((wrap64 ((rd l0 x7_1) - x6_1)) - (rd l1 x7_1))) < 0)=true:=decide_eq_true c6
       clear c6
       by_cases c7:x5_1.length < 17592186044416
       ·rw [if_pos c7] at H
        have LMc7:=am c7
        clear c7
        obtain ⟨y766,hy766⟩:∃ y_:List Int,y_=(x5_1 ++ [wrap64 ((wrap64 ((wrap64 ((rd l0 x7_1) - x6_1)) - (rd l1 x7_1)))+10)]):=⟨_,rfl⟩
        replace H:(Zy.l0 k1 l0 l1 y766 1 (wrap64 (x7_1+1)))=some r:=by have hy_:=hy766;exact pH
        have Ny766:=am hy766
        clear hy766
        have H':=am H
        clear H
        have p764:0<=(x7_1:Int):=of_decide_eq_true pQ
        have q764:x7_1 < (l0.length:Int):=of_decide_eq_true pQ
        obtain ⟨ad764,e764,hx764_0⟩:=Kd.Za4 HR0.o x7_1 p764 q764
        cases e764
        replace hx764_0:=(HB.o.cell (World.block_lt_of_cell? w _ hx764_0)).trans hx764_0
        replace p764:=eq_true p764
        replace q764:=eq_true q764
        have p765:0<=(x7_1:Int):=of_decide_eq_true pQ
        have q765:x7_1 < (l1.length:Int):=of_decide_eq_true pQ
        obtain ⟨ad765,e765,hx765_0⟩:=Kd.Za4 HR1.o x7_1 p765 q765
        cases e765
        replace hx765_0:=(HB.o.cell (World.block_lt_of_cell? w _ hx765_0)).trans hx765_0
        replace p765:=eq_true p765
        replace q765:=eq_true q765
        go_wp2_with (first|((with_reducible refine Zan (b:=.append) (xs:=#[.tmp 35,.tmp 37]) rfl ?_);at_builtin;refine Kd.Zbz (Kd.int .i64) (w0:=w) w.heap.size rfl (.tmp 35) (.tmp 37) 28 3 (.int .i64 0) 8 rfl Tryz.underlying28 info3 rfl (by decide) (by omega) u5 x5_1 (wrap64 ((wrap64 ((wrap64 ((rd l0 x7_1) - x6_1)) - (rd l1 x7_1)))+10)) [.int .i64 (wrap64 ((wrap64 ((wrap64 ((rd l0 x7_1) - x6_1)) - (rd l1 x7_1)))+10))] (fun _=>True) (fun _=>False) rfl rfl ?aP (fun _ hk=>hk.elim) ?aF ?aO ?aB ?aS ?aL ?_;(case aP=>exact rfl);(case aB=>exact pB);(case aF=>exact (fun _ _=>trivial));(case aO=>exact (Kd.Za HO_5.o pl));(case aS=>exact (Zb pB));(case aL=>have := LMc7.o;omega);intro v767 w8 ho hb hg hat;rw [<- Ny766.out] at ho;have HO768:=am ho;replace HB:=am hb;clear HO_5 ho hb hg hat))
        go_roundg k1
        case measure=>have := HK1.out;omega
        case rel=>exact ⟨(y766),(1),(wrap64 (x7_1+1)),pR,pR,H',⟨by have := HK1.out;omega⟩,⟨by refine rp ?_;exact HO768.o⟩,⟨pB⟩⟩
       ·rw [if_neg c7] at H
        exact absurd H (by simp)
      ·rw [if_neg c6] at H
       have c6b0:decide ((wrap64 ((wrap64 ((rd l0 x7_1) - x6_1)) - (rd l1 x7_1))) < 0)=false:=decide_eq_false c6
       clear c6
       by_cases c9:x5_1.length < 17592186044416
       ·rw [if_pos c9] at H
        have LMc9:=am c9
        clear c9
        obtain ⟨y769,hy769⟩:∃ y_:List Int,y_=(x5_1 ++ [wrap64 ((wrap64 ((rd l0 x7_1) - x6_1)) - (rd l1 x7_1))]):=⟨_,rfl⟩
        replace H:(Zy.l0 k1 l0 l1 y769 0 (wrap64 (x7_1+1)))=some r:=by have hy_:=hy769;exact pH
        have Ny769:=am hy769
        clear hy769
        have H':=am H
        clear H
        have p764:0<=(x7_1:Int):=of_decide_eq_true pQ
        have q764:x7_1 < (l0.length:Int):=of_decide_eq_true pQ
        obtain ⟨ad764,e764,hx764_0⟩:=Kd.Za4 HR0.o x7_1 p764 q764
        cases e764
        replace hx764_0:=(HB.o.cell (World.block_lt_of_cell? w _ hx764_0)).trans hx764_0
        replace p764:=eq_true p764
        replace q764:=eq_true q764
        have p765:0<=(x7_1:Int):=of_decide_eq_true pQ
        have q765:x7_1 < (l1.length:Int):=of_decide_eq_true pQ
        obtain ⟨ad765,e765,hx765_0⟩:=Kd.Za4 HR1.o x7_1 p765 q765
        cases e765
        replace hx765_0:=(HB.o.cell (World.block_lt_of_cell? w _ hx765_0)).trans hx765_0
        replace p765:=eq_true p765
        replace q765:=eq_true q765
        go_wp2_with (first|((with_reducible refine Zan (b:=.append) (xs:=#[.tmp 35,.tmp 37]) rfl ?_);at_builtin;refine Kd.Zbz (Kd.int .i64) (w0:=w) w.heap.size rfl (.tmp 35) (.tmp 37) 28 3 (.int .i64 0) 8 rfl Tryz.underlying28 info3 rfl (by decide) (by omega) u5 x5_1 (wrap64 ((wrap64 ((rd l0 x7_1) - x6_1)) - (rd l1 x7_1))) [.int .i64 (wrap64 ((wrap64 ((rd l0 x7_1) - x6_1)) - (rd l1 x7_1)))] (fun _=>True) (fun _=>False) rfl rfl ?aP (fun _ hk=>hk.elim) ?aF ?aO ?aB ?aS ?aL ?_;(case aP=>exact rfl);(case aB=>exact pB);(case aF=>exact (fun _ _=>trivial));(case aO=>exact (Kd.Za HO_5.o pl));(case aS=>exact (Zb pB));(case aL=>have := LMc9.o;omega);intro v770 w10 ho hb hg hat;rw [<- Ny769.out] at ho;have HO771:=am ho;replace HB:=am hb;clear HO_5 ho hb hg hat))
        go_roundg k1
        case measure=>have := HK1.out;omega
        case rel=>exact ⟨(y769),(0),(wrap64 (x7_1+1)),pR,pR,H',⟨by have := HK1.out;omega⟩,⟨by refine rp ?_;exact HO771.o⟩,⟨pB⟩⟩
       ·rw [if_neg c9] at H
        exact absurd H (by simp)
     ·rw [if_neg c5] at H
      have c5b0:decide (x7_1 < (l1.length:Int))=false:=decide_eq_false c5
      clear c5
      by_cases c11:(wrap64 ((rd l0 x7_1) - x6_1)) < 0
      ·rw [if_pos c11] at H
       have c11b0:decide ((wrap64 ((rd l0 x7_1) - x6_1)) < 0)=true:=decide_eq_true c11
       clear c11
       by_cases c12:x5_1.length < 17592186044416
       ·rw [if_pos c12] at H
        have LMc12:=am c12
        clear c12
        obtain ⟨y772,hy772⟩:∃ y_:List Int,y_=(x5_1 ++ [wrap64 ((wrap64 ((rd l0 x7_1) - x6_1))+10)]):=⟨_,rfl⟩
        replace H:(Zy.l0 k1 l0 l1 y772 1 (wrap64 (x7_1+1)))=some r:=by have hy_:=hy772;exact pH
        have Ny772:=am hy772
        clear hy772
        have H':=am H
        clear H
        have p764:0<=(x7_1:Int):=of_decide_eq_true pQ
        have q764:x7_1 < (l0.length:Int):=of_decide_eq_true pQ
        obtain ⟨ad764,e764,hx764_0⟩:=Kd.Za4 HR0.o x7_1 p764 q764
        cases e764
        replace hx764_0:=(HB.o.cell (World.block_lt_of_cell? w _ hx764_0)).trans hx764_0
        replace p764:=eq_true p764
        replace q764:=eq_true q764
        go_wp2_with (first|((with_reducible refine Zan (b:=.append) (xs:=#[.tmp 35,.tmp 37]) rfl ?_);at_builtin;refine Kd.Zbz (Kd.int .i64) (w0:=w) w.heap.size rfl (.tmp 35) (.tmp 37) 28 3 (.int .i64 0) 8 rfl Tryz.underlying28 info3 rfl (by decide) (by omega) u5 x5_1 (wrap64 ((wrap64 ((rd l0 x7_1) - x6_1))+10)) [.int .i64 (wrap64 ((wrap64 ((rd l0 x7_1) - x6_1))+10))] (fun _=>True) (fun _=>False) rfl rfl ?aP (fun _ hk=>hk.elim) ?aF ?aO ?aB ?aS ?aL ?_;(case aP=>exact rfl);(case aB=>exact pB);(case aF=>exact (fun _ _=>trivial));(case aO=>exact (Kd.Za HO_5.o pl));(case aS=>exact (Zb pB));(case aL=>have := LMc12.o;omega);intro v773 w13 ho hb hg hat;rw [<- Ny772.out] at ho;have HO774:=am ho;replace HB:=am hb;clear HO_5 ho hb hg hat))
        go_roundg k1
        case measure=>have := HK1.out;omega
        case rel=>exact ⟨(y772),(1),(wrap64 (x7_1+1)),pR,pR,H',⟨by have := HK1.out;omega⟩,⟨by refine rp ?_;exact HO774.o⟩,⟨pB⟩⟩
       ·rw [if_neg c12] at H
        exact absurd H (by simp)
      ·rw [if_neg c11] at H
       have c11b0:decide ((wrap64 ((rd l0 x7_1) - x6_1)) < 0)=false:=decide_eq_false c11
       clear c11
       by_cases c14:x5_1.length < 17592186044416
       ·rw [if_pos c14] at H
        have LMc14:=am c14
        clear c14
        obtain ⟨y775,hy775⟩:∃ y_:List Int,y_=(x5_1 ++ [wrap64 ((rd l0 x7_1) - x6_1)]):=⟨_,rfl⟩
        replace H:(Zy.l0 k1 l0 l1 y775 0 (wrap64 (x7_1+1)))=some r:=by have hy_:=hy775;exact pH
        have Ny775:=am hy775
        clear hy775
        have H':=am H
        clear H
        have p764:0<=(x7_1:Int):=of_decide_eq_true pQ
        have q764:x7_1 < (l0.length:Int):=of_decide_eq_true pQ
        obtain ⟨ad764,e764,hx764_0⟩:=Kd.Za4 HR0.o x7_1 p764 q764
        cases e764
        replace hx764_0:=(HB.o.cell (World.block_lt_of_cell? w _ hx764_0)).trans hx764_0
        replace p764:=eq_true p764
        replace q764:=eq_true q764
        go_wp2_with (first|((with_reducible refine Zan (b:=.append) (xs:=#[.tmp 35,.tmp 37]) rfl ?_);at_builtin;refine Kd.Zbz (Kd.int .i64) (w0:=w) w.heap.size rfl (.tmp 35) (.tmp 37) 28 3 (.int .i64 0) 8 rfl Tryz.underlying28 info3 rfl (by decide) (by omega) u5 x5_1 (wrap64 ((rd l0 x7_1) - x6_1)) [.int .i64 (wrap64 ((rd l0 x7_1) - x6_1))] (fun _=>True) (fun _=>False) rfl rfl ?aP (fun _ hk=>hk.elim) ?aF ?aO ?aB ?aS ?aL ?_;(case aP=>exact rfl);(case aB=>exact pB);(case aF=>exact (fun _ _=>trivial));(case aO=>exact (Kd.Za HO_5.o pl));(case aS=>exact (Zb pB));(case aL=>have := LMc14.o;omega);intro v776 w15 ho hb hg hat;rw [<- Ny775.out] at ho;have HO777:=am ho;replace HB:=am hb;clear HO_5 ho hb hg hat))
        go_roundg k1
        case measure=>have := HK1.out;omega
        case rel=>exact ⟨(y775),(0),(wrap64 (x7_1+1)),pR,pR,H',⟨by have := HK1.out;omega⟩,⟨by refine rp ?_;exact HO777.o⟩,⟨pB⟩⟩
       ·rw [if_neg c14] at H
        exact absurd H (by simp)
    ·rw [if_neg c4] at H
     exact absurd H (by simp)
   ·rw [if_neg c3] at H
    have c3b0:decide (x7_1 < (l0.length:Int))=false:=decide_eq_false c3
    clear c3
    obtain ⟨t761,A16,H⟩:=ob H
    obtain rfl:=Option.some.inj H
    obtain ⟨Ao17,co17,eo17⟩:=Kd.Zj HO_5.o
    subst eo17
    go_wp2_with (first|(refine gL (some 40) Tryz.func79 #[.slice Ao17 x5_1.length co17] (h:=?_);(with_reducible refine (Zah.calls k1 (fun k_=>some k_=(.slice Ao17 x5_1.length co17:Value).ownBlock) (.slice Ao17 x5_1.length co17) x5_1 t761 w _ ?side1 ?side2 A16.o).mono ?_);(case side1=>exact pB);(case side2=>exact Kd.Zbl rfl HO_5.o);rintro e w18 ⟨v762,rfl,ho0,hb,hkp⟩;refine ⟨_,rfl,?_⟩;have HO763:=am (Kd.Zi (ok':=fun k_=>True) ho0 (fun k_ hk_=>trivial));replace HB:=am hb;clear HO_5))
    go_ret
    exact ⟨_,pE,by refine rp ?_;exact HO763.o,pB⟩
end YtjbjkmccfocikaaGreatDoor.B
end
section
namespace YtjbjkmccfocikaaGreatDoor.P
open Go.RowKit YtjbjkmccfocikaaGreatDoor.B YtjbjkmccfocikaaGreatDoorW.PrintWords YtjbjkmccfocikaaGreatDoor.P.Nm
def cmpN (a b:Nat):Int:=if a < b then -1 else if b < a then 1 else 0
theorem Zh4 {b:Int} (l:List Int) (j:Nat) (h:j<=l.length):val b l=val b (l.take j)+pw b j*val b (l.drop j):=by
 conv=>lhs;rw [<- List.take_append_drop j l]
 rw [Zf5,List.length_take,Nat.min_eq_left h]
theorem Zlw {a b:List Int} (ha:Dg 10 a) (hb:Dg 10 b) (hl:a.length=b.length) {j:Nat} (hj:j < a.length) (hd:a.drop (j+1)=b.drop (j+1)) (h:a.getD j 0 < b.getD j 0):val 10 a < val 10 b:=by
 rw [Zh4 a j (by omega),Zh4 b j (by omega),Zga hj,Zga (show j < b.length by omega),hd,Zb1,Zb1]
 have h1:=Zds (b:=10) (by omega) (ha.take j)
 have h2:=Zbq (b:=10) (by omega) (hb.take j)
 rw [List.length_take,Nat.min_eq_left (by omega)] at h1
 have hp:=Zen (b:=10) (by omega) j
 have h3:=Int.mul_le_mul_of_nonneg_left (show a.getD j 0+10*val 10 (b.drop (j+1))+1<=b.getD j 0+10*val 10 (b.drop (j+1)) by omega) (Int.le_of_lt hp)
 rw [Int.mul_add (pw 10 j) (_+_) 1] at h3
 omega
theorem Zll (x y:List Int) (hx:Dg 10 x) (hy:Dg 10 y) (hl:x.length=y.length) (hb:x.length<=1000000) (m n:Nat) (hm:val 10 x=m) (hn:val 10 y=n):∀ j:Nat,j<=x.length->x.drop j=y.drop j->Tells (fun k=>Zas.l0 k x y ((j:Int) - 1)) (cmpN m n)
 | 0,h,hd=>by
  refine Tells.succ ?_
  simp only [Zas.l0]
  refine Tells.ifn (by omega) ((Tells.pure _).val ?_)
  rw [List.drop_zero,List.drop_zero] at hd
  rw [hd] at hm
  unfold cmpN
  rw [if_neg (by omega),if_neg (by omega)]
 | j+1,h,hd=>by
  have hj:j < x.length:=by omega
  have hj2:j < y.length:=by omega
  have c0:(j:Int) >= 0:=by omega
  have c1:(0:Int)<=(j:Int):=by omega
  have c2:(j:Int) < (x.length:Int):=by omega
  have c3:(j:Int) < (y.length:Int):=by omega
  refine Tells.succ ?_
  simp only [Zas.l0]
  rw [Zho,rd_n,rd_n,w64d (by omega)]
  refine Tells.ifp c0 (Tells.ifp c1 (Tells.ifp c2 (Tells.ifp c3 ?_)))
  by_cases h1:x.getD j 0 < y.getD j 0
  ·refine Tells.ifp h1 ((Tells.pure _).val ?_)
   have := Zlw hx hy hl hj hd h1
   unfold cmpN;rw [if_pos (by omega)]
  ·refine Tells.ifn h1 ?_
   by_cases h2:y.getD j 0 < x.getD j 0
   ·refine Tells.ifp h2 ((Tells.pure _).val ?_)
    have := Zlw hy hx hl.symm hj2 hd.symm h2
    unfold cmpN;rw [if_neg (by omega),if_pos (by omega)]
   ·refine Tells.ifn h2 (Zll x y hx hy hl hb m n hm hn j (by omega) ?_)
    rw [Zga hj,Zga hj2,hd]
    congr 1
    omega
theorem Zkn (m n:Nat) (hm:nd m<=1000000):Tells (fun k=>Zas.f k (digs m) (digs n)) (cmpN m n):=by
 unfold Zas.f
 have hm':(digs m).length<=1000000:=hm
 by_cases h1:(digs m).length < (digs n).length
 ·refine Tells.ifp (by omega) ((Tells.pure _).val ?_)
  have := Zef (b:=10) (by omega) (Zc6 m) (Zc6 n) (Zi2 n) h1
  rw [Zcy,Zcy] at this
  unfold cmpN;rw [if_pos (by omega)]
 ·refine Tells.ifn (by omega) ?_
  by_cases h2:(digs n).length < (digs m).length
  ·refine Tells.ifp (by omega) ((Tells.pure _).val ?_)
   have := Zef (b:=10) (by omega) (Zc6 n) (Zc6 m) (Zi2 m) h2
   rw [Zcy,Zcy] at this
   unfold cmpN;rw [if_neg (by omega),if_pos (by omega)]
  ·refine Tells.ifn (by omega) ?_
   have h3:(digs m).length=(digs n).length:=by omega
   have := Zll (digs m) (digs n) (Zc6 m) (Zc6 n) h3 hm m n (Zcy m) (Zcy n) (digs m).length (Nat.le_refl _) (by rw [List.drop_length,h3,List.drop_length])
   rw [w64d (by omega)]
   exact this
theorem Zb2 {b:Int} (l:List Int) (k:Nat):val b (l.take (k+1))=val b (l.take k)+pw b k*l.getD k 0:=by
 by_cases h:k < l.length
 ·rw [Zkh h,Zde,List.length_take,Nat.min_eq_left (by omega)]
 ·rw [List.take_of_length_le (by omega),List.take_of_length_le (by omega),List.getD,List.getElem?_eq_none (by omega)]
  simp
theorem Zi1 {b:Int} (hb:0 < b) {l:List Int} (h:Dg b l) (i:Nat):0<=l.getD i 0/\l.getD i 0 < b:=by
 by_cases hk:i < l.length
 ·exact Zi0 h hk
 ·rw [List.getD,List.getElem?_eq_none (by omega)];exact ⟨Int.le_refl _,hb⟩
theorem Ze2 {l:List Int} {i:Nat} (h:l.length<=i):l.getD i 0=0:=by rw [List.getD,List.getElem?_eq_none h];rfl
theorem Znk (x y:List Int) (hx:Dg 10 x) (hy:Dg 10 y) (hxl:x.length<=500000) (hyl:y.length<=500000):∀ (d i:Nat) (o:List Int),max x.length y.length - i=d->i<=max x.length y.length->o.length=i->(∀ z ∈ o,0<=z/\z<=18)->val 10 o=val 10 (x.take i)+val 10 (y.take i) ->
  Tells (fun k=>Zt.l0 k x y o (i:Int)) (digs (val 10 x+val 10 y).toNat)
 | 0,i,o,hd,hi,ho,hz,hv=>by
  have c1:¬ ((i:Int) < (x.length:Int)):=by omega
  have c2:¬ ((i:Int) < (y.length:Int)):=by omega
  have hc:=Zf2 o (fun z h=>by have := hz z h;omega) (by omega)
  rw [hv,List.take_of_length_le (by omega),List.take_of_length_le (by omega)] at hc
  refine Tells.succ ?_
  simp only [Zt.l0]
  refine Tells.ifn c1 (Tells.succ ?_)
  simp only [Zt.j1]
  refine Tells.ifn (by rw [decide_eq_false c2];simp) (hc.bind (Tells.pure _))
 | d+1,i,o,hd,hi,ho,hz,hv=>by
  have hxi:=Zi1 (by omega) hx i
  have hyi:=Zi1 (by omega) hy i
  obtain ⟨u,hu⟩:∃ u:Nat,x.getD i 0=(u:Int):=⟨(x.getD i 0).toNat,by omega⟩
  obtain ⟨v,hvv⟩:∃ v:Nat,y.getD i 0=(v:Int):=⟨(y.getD i 0).toNat,by omega⟩
  have ih:=Znk x y hx hy hxl hyl d (i+1) (o ++ [((u+v:Nat):Int)]) (by omega) (by omega) (by simp [ho]) (fun z h=>by
   rcases List.mem_append.1 h with h|h
   ·exact hz z h
   ·rw [List.mem_singleton.1 h];omega) (by rw [Zb2,Zb2,Zde,ho,hv,hu,hvv,Int.natCast_add,Int.mul_add];omega)
  have c4:o.length < 17592186044416:=by omega
  have c3:(0:Int)<=(i:Int):=by omega
  have c5:i < 9223372036854775807:=by omega
  have b1:u+v<=9223372036854775807:=by omega
  have b2:u<=9223372036854775807:=by omega
  have b3:v<=9223372036854775807:=by omega
  by_cases h1:i < x.length
  ·have c1:(i:Int) < (x.length:Int):=by omega
   refine Tells.succ ?_
   simp only [Zt.l0]
   refine Tells.ifp c1 (Tells.succ ?_)
   simp only [Zt.j1]
   refine Tells.ifp trivial (Tells.ifp c1 (Tells.ifp c3 ?_))
   rw [rd_n,rd_n,hu,hvv,w64c b2,w64p b1,w64s c5]
   by_cases h2:i < y.length
   ·refine Tells.ifp (by omega) (Tells.ifp c4 ih)
   ·have h0:v=0:=by have := Ze2 (l:=y) (i:=i) (by omega);omega
    rw [h0,Nat.add_zero] at ih
    refine Tells.ifn (by omega) (Tells.ifp c4 ih)
  ·have c1:¬ ((i:Int) < (x.length:Int)):=by omega
   have c2:(i:Int) < (y.length:Int):=by omega
   have h0:u=0:=by have := Ze2 (l:=x) (i:=i) (by omega);omega
   rw [h0,Nat.zero_add] at ih
   refine Tells.succ ?_
   simp only [Zt.l0]
   refine Tells.ifn c1 (Tells.succ ?_)
   simp only [Zt.j1]
   refine Tells.ifp (by rw [decide_eq_true c2]) (Tells.ifn c1 (Tells.ifp c2 (Tells.ifp c3 ?_)))
   rw [rd_n,hvv,w64c b3,w64s c5]
   exact Tells.ifp c4 ih
theorem Zmt (m n:Nat) (hm:nd m<=500000) (hn:nd n<=500000):Tells (fun k=>Zt.f k (digs m) (digs n)) (digs (m+n)):=by
 have := Znk (digs m) (digs n) (Zc6 m) (Zc6 n) hm hn _ 0 [] rfl (by omega) rfl (fun z h=>by cases h) (by simp [val])
 refine this.val ?_
 rw [Zcy,Zcy]
 congr 1
theorem Zlj (x y:List Int) (hx:Dg 10 x) (hy:Dg 10 y) (hxl:x.length<=1000000) (hyx:y.length<=x.length) (n:Nat) (hn:val 10 x - val 10 y=n):∀ (d i:Nat) (o:List Int) (c:Nat),x.length - i=d->i<=x.length->o.length=i->Dg 10 o->c<=1->val 10 o=val 10 (x.take i) - val 10 (y.take i)+pw 10 i*c ->
  Tells (fun k=>Zy.l0 k x y o (c:Int) (i:Int)) (digs n)
 | 0,i,o,c,hd,hi,ho,hD,hc,hv=>by
  obtain rfl:i=x.length:=by omega
  have c1:¬ ((x.length:Int) < (x.length:Int)):=by omega
  refine Tells.succ ?_
  simp only [Zy.l0]
  refine Tells.ifn c1 ((Zgp o (by omega)).bind ((Tells.pure _).val ?_))
  rw [List.take_length,List.take_of_length_le hyx,hn] at hv
  have h2:=Zds (b:=10) (by omega) hD
  rw [ho] at h2
  have hp:=Zen (b:=10) (by omega) x.length
  have hc0:c=0:=by
   rcases Nat.eq_zero_or_pos c with h|h
   ·exact h
   ·obtain rfl:c=1:=by omega
    omega
  rw [hc0] at hv
  exact Zf9 hD (by omega)
 | d+1,i,o,c,hd,hi,ho,hD,hc,hv=>by
  have hil:i < x.length:=by omega
  have hxi:=Zi0 hx hil
  have hyi:=Zi1 (by omega) hy i
  obtain ⟨u,hu⟩:∃ u:Nat,x.getD i 0=(u:Int):=⟨(x.getD i 0).toNat,by omega⟩
  obtain ⟨v,hvv⟩:∃ v:Nat,y.getD i 0=(v:Int):=⟨(y.getD i 0).toNat,by omega⟩
  have c1:(i:Int) < (x.length:Int):=by omega
  have c3:(0:Int)<=(i:Int):=by omega
  have c4:o.length < 17592186044416:=by omega
  have c5:i < 9223372036854775807:=by omega
  rw [hu] at hxi
  rw [hvv] at hyi
  have step:∀ (z:Int) (c':Nat),0<=z->z < 10->c'<=1->z=(u:Int) - c - v+10*c'->Tells (fun k=>Zy.l0 k x y (o ++ [z]) (c':Int) ((i+1:Nat):Int)) (digs n):=fun z c' z0 z1 hc' hz =>
   Zlj x y hx hy hxl hyx n hn d (i+1) (o ++ [z]) c' (by omega) (by omega) (by simp [ho]) (hD.app (Dg.one z0 z1)) hc' (by
    rw [Zb2,Zb2,Zde,ho,hv,hu,hvv,hz,Zd1]
    generalize pw 10 i=M
    have e:M*((u:Int) - c - v+10*c')=M*u - M*c - M*v+10*(M*c'):=by rw [Int.mul_add,Int.mul_sub,Int.mul_sub,Int.mul_left_comm M 10]
    have e2:10*M*(c':Int)=10*(M*c'):=Int.mul_assoc _ _ _
    omega)
  have b1 : -9223372036854775808<=(u:Int) - c:=by omega
  have b2:(u:Int) - c<=9223372036854775807:=by omega
  have b3 : -9223372036854775808<=(u:Int) - c - v:=by omega
  have b4:(u:Int) - c - v<=9223372036854775807:=by omega
  have b5 : -9223372036854775808<=(u:Int) - c - v+10:=by omega
  have b6:(u:Int) - c - v+10<=9223372036854775807:=by omega
  have b7 : -9223372036854775808<=(u:Int) - c+10:=by omega
  have b8:(u:Int) - c+10<=9223372036854775807:=by omega
  refine Tells.succ ?_
  simp only [Zy.l0]
  rw [rd_n,rd_n,hu,hvv,w64n b1 b2,w64n b3 b4,w64n b5 b6,w64n b7 b8,w64s c5]
  refine Tells.ifp c1 (Tells.ifp c3 ?_)
  by_cases h2:i < y.length
  ·refine Tells.ifp (by omega) ?_
   by_cases h3:(u:Int) - c - v < 0
   ·exact Tells.ifp h3 (Tells.ifp c4 (step _ 1 (by omega) (by omega) (by omega) (by omega)))
   ·exact Tells.ifn h3 (Tells.ifp c4 (step _ 0 (by omega) (by omega) (by omega) (by omega)))
  ·have h0:v=0:=by have := Ze2 (l:=y) (i:=i) (by omega);omega
   refine Tells.ifn (by omega) ?_
   by_cases h3:(u:Int) - c < 0
   ·exact Tells.ifp h3 (Tells.ifp c4 (step _ 1 (by omega) (by omega) (by omega) (by omega)))
   ·exact Tells.ifn h3 (Tells.ifp c4 (step _ 0 (by omega) (by omega) (by omega) (by omega)))
theorem Zhe (m n:Nat) (h:n<=m) (hm:nd m<=1000000):Tells (fun k=>Zy.f k (digs m) (digs n)) (digs (m - n)):=by
 have hl:(digs n).length<=(digs m).length:=Zer h
 have := Zlj (digs m) (digs n) (Zc6 m) (Zc6 n) hm hl (m - n) (by rw [Zcy,Zcy];omega) _ 0 [] 0 rfl (by omega) rfl (Dg.nil _) (by omega) (by simp [val])
 exact this
theorem Zhk (n:Nat) (k:Nat) (hn:nd n<=1000000) (hk:k<=1000000):Zbc.f (digs n) (k:Int)=some (digs (n*10 ^ k)):=by
 have hl:(digs n).length<=1000000:=hn
 unfold Zbc.f
 by_cases h:n=0
 ·subst h;rw [Nat.zero_mul];rfl
 ·have h1:(digs n).length ≠ 0:=fun e=>Zku h (List.eq_nil_of_length_eq_zero e)
  rw [if_neg (by omega),if_pos (by omega),if_pos (by omega),Option.bind_some,if_pos (by rw [List.length_replicate,Int.toNat_natCast];omega),Int.toNat_natCast,Zgs h]
theorem getD_set_ne {l:List Int} {i j:Nat} (x:Int) (h:i ≠ j):(l.set i x).getD j 0=l.getD j 0:=by
 simp [List.getD,List.getElem?_set_ne h]
theorem Zei {b:Int}:∀ {l:List Int} {j:Nat} (x:Int),j < l.length->val b (l.set j x)=val b l+pw b j*(x - l.getD j 0)
 | y :: l,0,x,h=>by simp [val,pw];omega
 | y :: l,j+1,x,h=>by
  have ih:=Zei (b:=b) (l:=l) (j:=j) x (by simpa using h)
  simp only [List.set_cons_succ,val,List.getD_cons_succ,pw]
  rw [ih,Int.mul_add,Int.mul_assoc,Int.add_assoc]
structure ProdAt (a b:List Int) (i k:Nat) (ds:List Int):Prop where
 len:ds.length=a.length+b.length
 bd:∀ z ∈ ds,0<=z/\z<=81*((i*b.length+k:Nat):Int)
 law:val 10 ds=val 10 (a.take i)*val 10 b+pw 10 i*(a.getD i 0*val 10 (b.take k))
theorem ProdAt.start (a b:List Int):ProdAt a b 0 0 (List.replicate (a.length+b.length) 0) :=
 ⟨by simp,fun z h=>by rw [(List.mem_replicate.1 h).2];simp,by simp [val,Zfi]⟩
theorem ProdAt.step {a b ds:List Int} {i k:Nat} (h:ProdAt a b i k ds) (ha:Dg 10 a) (hb:Dg 10 b) (hi:i < a.length) (hk:k < b.length) :
  ProdAt a b i (k+1) (ds.set (i+k) (ds.getD (i+k) 0+a.getD i 0*b.getD k 0)):=by
 have hx:=Zi0 ha hi
 have hy:=Zi0 hb hk
 have hlt:i+k < ds.length:=by rw [h.len];omega
 have hu:0<=ds.getD (i+k) 0/\ds.getD (i+k) 0<=81*((i*b.length+k:Nat):Int):=by rw [getD_in hlt];exact h.bd _ (List.getElem_mem hlt)
 have p0:=Int.mul_nonneg hx.1 hy.1
 have p1:a.getD i 0*b.getD k 0<=9*9:=Int.mul_le_mul (by omega) (by omega) hy.1 (by omega)
 obtain ⟨p,hp⟩:∃ p,a.getD i 0*b.getD k 0=p:=⟨_,rfl⟩
 rw [hp] at p0 p1 ⊢
 refine ⟨by rw [List.length_set];exact h.len,fun z hz=>?_,?_⟩
 ·rcases List.mem_or_eq_of_mem_set hz with hz|rfl
  ·have := h.bd z hz;omega
  ·omega
 ·rw [Zei _ hlt,Zb2,h.law,Zfx]
  have e1:pw 10 i*(a.getD i 0*(pw 10 k*b.getD k 0))=pw 10 i*pw 10 k*p:=by
   rw [Int.mul_left_comm (a.getD i 0),hp,Int.mul_assoc]
  rw [Int.mul_add (a.getD i 0),Int.mul_add (pw 10 i),e1]
  have e2:ds.getD (i+k) 0+p - ds.getD (i+k) 0=p:=by omega
  rw [e2];omega
theorem ProdAt.next {a b ds:List Int} {i:Nat} (h:ProdAt a b i b.length ds) (hi:i < a.length):ProdAt a b (i+1) 0 ds:=by
 refine ⟨h.len,fun z hz=>?_,?_⟩
 ·have := h.bd z hz
  rw [Nat.succ_mul];omega
 ·have hl:=h.law
  rw [List.take_length] at hl
  rw [hl,Zb2,Int.add_mul,Int.mul_assoc]
  simp [val]
theorem Zib {a b:List Int} {i:Nat} (ha:Dg 10 a) (hb:Dg 10 b) (la:a.length<=10000) (lb:b.length<=10000) (hi:i < a.length) (V:List Int)
  (hcont:∀ ds,ProdAt a b (i+1) 0 ds->Tells (fun k=>Zh.l0 k a b ds ((i+1:Nat):Int)) V) :
  ∀ (e k:Nat) (ds:List Int),b.length - k=e->k<=b.length->ProdAt a b i k ds->Tells (fun kf=>Zh.l1 kf a b ds (i:Int) (k:Int)) V
 | 0,k,ds,he,hk,h=>by
  obtain rfl:k=b.length:=by omega
  have c1:¬ ((b.length:Int) < (b.length:Int)):=by omega
  refine Tells.succ ?_
  simp only [Zh.l1]
  rw [w64s (i:=i) (by omega)]
  exact Tells.ifn c1 (hcont ds (h.next hi))
 | e+1,k,ds,he,hk,h=>by
  have hkl:k < b.length:=by omega
  have hst:=h.step ha hb hi hkl
  have ih:=Zib ha hb la lb hi V hcont e (k+1) _ (by omega) (by omega) hst
  have hlen:=h.len
  have hx:=Zi0 ha hi
  have hy:=Zi0 hb hkl
  have hlt:i+k < ds.length:=by rw [h.len];omega
  have hu:0<=ds.getD (i+k) 0/\ds.getD (i+k) 0<=81*((i*b.length+k:Nat):Int):=by rw [getD_in hlt];exact h.bd _ (List.getElem_mem hlt)
  have hik:i*b.length+k<=10000*10000+10000:=by
   have := Nat.mul_le_mul (show i<=10000 by omega) lb
   omega
  obtain ⟨xa,hxa⟩:∃ u:Nat,a.getD i 0=(u:Int):=⟨(a.getD i 0).toNat,by omega⟩
  obtain ⟨xb,hxb⟩:∃ u:Nat,b.getD k 0=(u:Int):=⟨(b.getD k 0).toNat,by omega⟩
  obtain ⟨xu,hxu⟩:∃ u:Nat,ds.getD (i+k) 0=(u:Int):=⟨(ds.getD (i+k) 0).toNat,by omega⟩
  rw [hxa] at hx
  rw [hxb] at hy
  rw [hxu] at hu
  rw [hxa,hxb,hxu] at ih
  have hp:xa*xb<=9*9:=Nat.mul_le_mul (by omega) (by omega)
  obtain ⟨p,hpp⟩:∃ p,xa*xb=p:=⟨_,rfl⟩
  rw [hpp] at hp
  have ep:(xu:Int)+(xa:Int)*(xb:Int)=((xu+p:Nat):Int):=by rw [<- Int.natCast_mul,hpp];omega
  rw [ep] at ih
  have c1:(k:Int) < (b.length:Int):=by omega
  have c2:(0:Int)<=((i+k:Nat):Int):=by omega
  have c3:((i+k:Nat):Int) < (ds.length:Int):=by omega
  have c4:(0:Int)<=(i:Int):=by omega
  have c5:(i:Int) < (a.length:Int):=by omega
  have c6:(0:Int)<=(k:Int):=by omega
  have b1:i+k<=9223372036854775807:=by omega
  have b2:p<=9223372036854775807:=by omega
  have b3:xu+p<=9223372036854775807:=by omega
  have b4:k < 9223372036854775807:=by omega
  refine Tells.succ ?_
  simp only [Zh.l1]
  rw [w64p b1,rd_n,rd_n,rd_n,hxa,hxb,hxu,w64k hpp b2,w64p b3,w64s b4,Int.toNat_natCast]
  exact Tells.ifp c1 (Tells.ifp c2 (Tells.ifp c3 (Tells.ifp c4 (Tells.ifp c5 (Tells.ifp c6 ih)))))
theorem Zia {a b:List Int} (ha:Dg 10 a) (hb:Dg 10 b) (la:a.length<=10000) (lb:b.length<=10000) (n:Nat) (hn:val 10 a*val 10 b=n) :
  ∀ (d i:Nat) (ds:List Int),a.length - i=d->i<=a.length->ProdAt a b i 0 ds->Tells (fun k=>Zh.l0 k a b ds (i:Int)) (digs n)
 | 0,i,ds,hd,hi,h=>by
  obtain rfl:i=a.length:=by omega
  have c1:¬ ((a.length:Int) < (a.length:Int)):=by omega
  have hl:=h.law
  rw [List.take_length,hn] at hl
  simp only [List.take_zero,Zes,Int.mul_zero,Int.add_zero] at hl
  have hab:a.length*b.length+0<=10000*10000:=by rw [Nat.add_zero];exact Nat.mul_le_mul la lb
  have hc:=Zf2 ds (fun z hz=>by have := h.bd z hz;omega) (by rw [h.len];omega)
  rw [hl,Int.toNat_natCast] at hc
  refine Tells.succ ?_
  simp only [Zh.l0]
  exact Tells.ifn c1 (hc.bind (Tells.pure _))
 | d+1,i,ds,hd,hi,h=>by
  have hil:i < a.length:=by omega
  have c1:(i:Int) < (a.length:Int):=by omega
  refine Tells.succ ?_
  simp only [Zh.l0]
  exact Tells.ifp c1 (Zib ha hb la lb hil _ (fun ds' h'=>Zia ha hb la lb n hn d (i+1) ds' (by omega) (by omega) h') _ 0 ds rfl (by omega) h)
theorem Zir (m n:Nat) (hm:nd m<=10000) (hn:nd n<=10000):Tells (fun k=>Zh.f k (digs m) (digs n)) (digs (m*n)):=by
 have h:=Zia (Zc6 m) (Zc6 n) hm hn (m*n) (by rw [Zcy,Zcy];exact (Int.natCast_mul m n).symm) _ 0 _ rfl (by omega) (ProdAt.start _ _)
 have hm':(digs m).length<=10000:=hm
 have hn':(digs n).length<=10000:=hn
 unfold Zh.f
 rw [w64p (by omega),Int.toNat_natCast]
 exact Tells.ifp (by omega) (Tells.ifp (by omega) h)
end YtjbjkmccfocikaaGreatDoor.P
end
section
namespace YtjbjkmccfocikaaGreatDoor.B
open Go.RowKit YtjbjkmccfocikaaGreatDoorW.PrintWords YtjbjkmccfocikaaGreatDoorW.PrintLast YtjbjkmccfocikaaGreatDoorW.PrintMore
attribute [local go_sem] Zb5 Zb7 Zcs Zct Zbn Zbo Zb6 Zb8
def Zbd.l0:Nat->List Int->List Int->Int->Option (ByteArray)
 | 0,_,_,_=>none
 | k+1,x0,x3,x4=>if x4 >= 0 then (if 0<=x4 then (if x4 < (x0.length:Int) then (if x3.length < 140737488355328 then (Zbd.l0 k x0 (x3 ++ [(wrap64 (48+(rd x0 x4))) % 256]) (wrap64 (x4 - 1))) else (none)) else (none)) else (none)) else (if (x3.length:Int)=0 then (some (⟨#[48]⟩:ByteArray)) else (some (strOfNums x3)))
def Zbd.f (k:Nat) (l0:List Int):Option (ByteArray):=Zbd.l0 k l0 ([]:List Int) (wrap64 ((l0.length:Int) - 1))
theorem Zbd.calls (k:Nat) (A0:Option Addr) (c0:Nat) (l0:List Int) (r:ByteArray) (w:World) (hr0:Kd.C (Kd.int .i64) w A0 l0.length l0) (hc0:l0.length<=c0) (h:Zbd.f k l0=some r) :
  Calls Tryz.prog 118 #[.slice A0 l0.length c0] w fun e w'=>e=.returned (.string r)/\Below w.heap.size w w':=by
 have HR0:=am hr0
 have HC0:=am hc0
 clear hr0 hc0
 have HB:=am (Below.refl w.heap.size w)
 have H:(Zbd.l0 k l0 ([]:List Int) (wrap64 ((l0.length:Int) - 1)))=some r:=h
 clear h
 have H':=am H
 clear H
 go_enter Tryz.func118,Tryz.ntmps118
 go_wp2
 go_loopg [3,4] k (fun kq v3 v4 w' => ∃ (x3_1:List Int) (x4_1:Int),v4=.int .i64 x4_1/\Aside0 (Zbd.l0 kq l0 x3_1 x4_1=some r)/\Aside0 (kq<=k)/\Aside0 (Kd.R (Kd.int .u8) 5 w' w.heap.size (fun _=>True) v3 x3_1)/\Aside0 (Below w.heap.size w w'))
 case atStart=>exact ⟨(([]:List Int)),(wrap64 ((l0.length:Int) - 1)),pR,H',⟨Nat.le_refl _⟩,⟨pN⟩,⟨pB⟩⟩
 case round =>
  clear H'
  obtain ⟨x3_1,x4_1,rfl,HA,HK1,HO_3,HB⟩:=hrel
  cases gk with
  | zero=>exact absurd HA.out (by simp [Zbd.l0])
  | succ k1 =>
   have H:=HA.out
   clear HA
   simp only [Zbd.l0] at H
   by_cases c2:x4_1 >= 0
   ·rw [if_pos c2] at H
    have c2b0:decide (0<=x4_1)=true:=decide_eq_true c2
    clear c2
    by_cases c3:0<=x4_1
    ·rw [if_pos c3] at H
     have c3b0:decide (0<=x4_1)=true:=decide_eq_true c3
     clear c3
     by_cases c4:x4_1 < (l0.length:Int)
     ·rw [if_pos c4] at H
      have c4b0:decide (x4_1 < (l0.length:Int))=true:=decide_eq_true c4
      clear c4
      by_cases c5:x3_1.length < 140737488355328
      ·rw [if_pos c5] at H
       have LMc5:=am c5
       clear c5
       obtain ⟨y593,hy593⟩:∃ y_:List Int,y_=(x3_1 ++ [(wrap64 (48+(rd l0 x4_1))) % 256]):=⟨_,rfl⟩
       replace H:(Zbd.l0 k1 l0 y593 (wrap64 (x4_1 - 1)))=some r:=by have hy_:=hy593;exact pH
       have Ny593:=am hy593
       clear hy593
       have H':=am H
       clear H
       have p592:0<=(x4_1:Int):=of_decide_eq_true pQ
       have q592:x4_1 < (l0.length:Int):=of_decide_eq_true pQ
       obtain ⟨ad592,e592,hx592_0⟩:=Kd.Za4 HR0.o x4_1 p592 q592
       cases e592
       replace hx592_0:=(HB.o.cell (World.block_lt_of_cell? w _ hx592_0)).trans hx592_0
       replace p592:=eq_true p592
       replace q592:=eq_true q592
       go_wp2_with (first|((with_reducible refine Zan (b:=.append) (xs:=#[.tmp 12,.tmp 19]) rfl ?_);at_builtin;refine Kd.Zbz (Kd.int .u8) (w0:=w) w.heap.size rfl (.tmp 12) (.tmp 19) 146 5 (.int .u8 0) 1 rfl Tryz.underlying146 info5 rfl (by decide) (by omega) u3 x3_1 ((wrap64 (48+(rd l0 x4_1))) % 256) [.int .u8 ((wrap64 (48+(rd l0 x4_1))) % 256)] (fun _=>True) (fun _=>False) rfl rfl ?aP (fun _ hk=>hk.elim) ?aF ?aO ?aB ?aS ?aL ?_;(case aP=>exact rfl);(case aB=>exact pB);(case aF=>exact (fun _ _=>trivial));(case aO=>exact (Kd.Za HO_3.o pl));(case aS=>exact (Zb pB));(case aL=>have := LMc5.o;omega);intro v594 w6 ho hb hg hat;rw [<- Ny593.out] at ho;have HO595:=am ho;replace HB:=am hb;clear HO_3 ho hb hg hat))
       go_roundg k1
       case measure=>have := HK1.out;omega
       case rel=>exact ⟨(y593),(wrap64 (x4_1 - 1)),pR,H',⟨by have := HK1.out;omega⟩,⟨by refine rp ?_;exact HO595.o⟩,⟨pB⟩⟩
      ·rw [if_neg c5] at H
       exact absurd H (by simp)
     ·rw [if_neg c4] at H
      exact absurd H (by simp)
    ·rw [if_neg c3] at H
     exact absurd H (by simp)
   ·rw [if_neg c2] at H
    have c2b0:decide (0<=x4_1)=false:=decide_eq_false c2
    clear c2
    by_cases c7:(x3_1.length:Int)=0
    ·rw [if_pos c7] at H
     have c7b0:((x3_1.length:Int) == 0)=true:=beq_iff_eq.mpr c7
     have c7b1:((x3_1.length:Int) != 0)=false:=bne_eq_false_iff_eq.mpr c7
     clear c7
     obtain rfl:=Option.some.inj H
     obtain ⟨Ao8,co8,eo8⟩:=Kd.Zj HO_3.o
     subst eo8
     go_wp2
     go_ret
     exact ⟨pE,pB⟩
    ·rw [if_neg c7] at H
     have c7b0:((x3_1.length:Int) == 0)=false:=beq_eq_false_iff_ne.mpr c7
     have c7b1:((x3_1.length:Int) != 0)=true:=bne_iff_ne.mpr c7
     have c7b2:¬ (x3_1=[]):=fun h_=>c7 (by rw [h_];rfl)
     obtain rfl:=Option.some.inj H
     obtain ⟨Ao9,co9,eo9⟩:=Kd.Zj HO_3.o
     subst eo9
     have hcv10:=Zgy (P:=Tryz.prog) Tryz.underlying146 Tryz.underlying5 Tryz.underlying9 (Kd.Zdq HO_3.o)
     go_wp2
     go_ret
     exact ⟨pE,pB⟩
def Zb3.f (l0:List Int):Option (Int):=if (l0.length:Int) > 256 then (some 5) else (if (l0.length:Int) > 0 then (if 0<=(wrap64 ((l0.length:Int) - 1)) then (if (wrap64 ((l0.length:Int) - 1)) < (l0.length:Int) then (if (rd l0 (wrap64 ((l0.length:Int) - 1)))=0 then (some 9) else (some 0)) else (none)) else (none)) else (some 0))
theorem Zb3.calls (A0:Option Addr) (c0:Nat) (l0:List Int) (r:Int) (w:World) (hr0:Kd.C (Kd.int .u32) w A0 l0.length l0) (hc0:l0.length<=c0) (h:Zb3.f l0=some r) :
  Calls Tryz.prog 91 #[.slice A0 l0.length c0] w fun e w'=>e=.returned (.int .i64 r)/\Drawn0 w w':=by
 have HR0:=am hr0
 have HC0:=am hc0
 clear hr0 hc0
 have H:(if (l0.length:Int) > 256 then (some 5) else (if (l0.length:Int) > 0 then (if 0<=(wrap64 ((l0.length:Int) - 1)) then (if (wrap64 ((l0.length:Int) - 1)) < (l0.length:Int) then (if (rd l0 (wrap64 ((l0.length:Int) - 1)))=0 then (some 9) else (some 0)) else (none)) else (none)) else (some 0)))=some r:=h
 clear h
 by_cases c2:(l0.length:Int) > 256
 ·rw [if_pos c2] at H
  have c2b0:decide (256 < (l0.length:Int))=true:=decide_eq_true c2
  have c2b1:decide (256 < l0.length)=true:=decide_eq_true (by omega)
  clear c2
  obtain rfl:=Option.some.inj H
  go_enter Tryz.func91,Tryz.ntmps91
  go_wp2
  go_ret
  exact ⟨pR,pD⟩
 ·rw [if_neg c2] at H
  have c2b0:decide (256 < (l0.length:Int))=false:=decide_eq_false c2
  have c2b1:decide (256 < l0.length)=false:=decide_eq_false (by omega)
  clear c2
  by_cases c3:(l0.length:Int) > 0
  ·rw [if_pos c3] at H
   have c3b0:decide (0 < (l0.length:Int))=true:=decide_eq_true c3
   have c3b1:decide (0 < l0.length)=true:=decide_eq_true (by omega)
   clear c3
   obtain ⟨ji4,hji4⟩:∃ j_:Int,(wrap64 ((l0.length:Int) - 1))=j_:=⟨_,rfl⟩
   replace H:(if 0<=(ji4) then (if (ji4) < (l0.length:Int) then (if (rd l0 (ji4))=0 then (some 9) else (some 0)) else (none)) else (none))=some r:=by first|(rw [hji4] at H;exact H)|(simp only [hji4] at H ⊢;exact H)
   have hji4w:(IntKind.i64.wrap ((l0.length:Int) - 1))=ji4:=(Zcd _).trans hji4
   by_cases c5:0<=(ji4)
   ·rw [if_pos c5] at H
    have c5b0:decide (0<=(ji4))=true:=decide_eq_true c5
    clear c5
    by_cases c6:(ji4) < (l0.length:Int)
    ·rw [if_pos c6] at H
     have c6b0:decide ((ji4) < (l0.length:Int))=true:=decide_eq_true c6
     clear c6
     by_cases c7:(rd l0 (ji4))=0
     ·rw [if_pos c7] at H
      have c7b0:((rd l0 (ji4)) == 0)=true:=beq_iff_eq.mpr c7
      have c7b1:((rd l0 (ji4)) != 0)=false:=bne_eq_false_iff_eq.mpr c7
      clear c7
      obtain rfl:=Option.some.inj H
      have p646:0<=((ji4):Int):=of_decide_eq_true pQ
      have q646:(ji4) < (l0.length:Int):=of_decide_eq_true pQ
      obtain ⟨ad646,e646,hx646_0⟩:=Kd.Za4 HR0.o (ji4) p646 q646
      cases e646
      replace p646:=eq_true p646
      replace q646:=eq_true q646
      go_enter Tryz.func91,Tryz.ntmps91
      go_wp2
      go_ret
      exact ⟨by first|rfl|(simp;done)|(simp only [<- hji4] <;> (first|rfl|simp))|(simp [*];done),pD⟩
     ·rw [if_neg c7] at H
      have c7b0:((rd l0 (ji4)) == 0)=false:=beq_eq_false_iff_ne.mpr c7
      have c7b1:((rd l0 (ji4)) != 0)=true:=bne_iff_ne.mpr c7
      obtain rfl:=Option.some.inj H
      have p646:0<=((ji4):Int):=of_decide_eq_true pQ
      have q646:(ji4) < (l0.length:Int):=of_decide_eq_true pQ
      obtain ⟨ad646,e646,hx646_0⟩:=Kd.Za4 HR0.o (ji4) p646 q646
      cases e646
      replace p646:=eq_true p646
      replace q646:=eq_true q646
      go_enter Tryz.func91,Tryz.ntmps91
      go_wp2
      go_ret
      exact ⟨by first|rfl|(simp;done)|(simp only [<- hji4] <;> (first|rfl|simp))|(simp [*];done),pD⟩
    ·rw [if_neg c6] at H
     exact absurd H (by simp)
   ·rw [if_neg c5] at H
    exact absurd H (by simp)
  ·rw [if_neg c3] at H
   have c3b0:decide (0 < (l0.length:Int))=false:=decide_eq_false c3
   have c3b1:decide (0 < l0.length)=false:=decide_eq_false (by omega)
   clear c3
   obtain rfl:=Option.some.inj H
   go_enter Tryz.func91,Tryz.ntmps91
   go_wp2
   go_ret
   exact ⟨pR,pD⟩
end YtjbjkmccfocikaaGreatDoor.B
end
section
namespace YtjbjkmccfocikaaGreatDoor.P
open Go.RowKit YtjbjkmccfocikaaGreatDoor.B YtjbjkmccfocikaaGreatDoorW.PrintWords YtjbjkmccfocikaaGreatDoor.P.Nm
theorem Zm9 (n:Nat) (h:n ≠ 0):strOfNums ((digs n).reverse.map fun d=>48+d)=decT n:=by
 unfold decT strOfNums
 rw [if_neg h,List.map_map]
 congr 2
 refine List.map_congr_left (fun d hd=>?_)
 have := Zc6 n d (List.mem_reverse.1 hd)
 show UInt8.ofNat ((48+d).toNat)=UInt8.ofNat (48+d.toNat)
 congr 1;omega
theorem Zfp:limbs 0=[]:=rfl
def chkL (l:List Int):Int:=if 256 < l.length then 5 else if l.getLast? = some 0 then 9 else 0
theorem Zr1 {l:List Int} (h:0 < l.length):l.getLast? = some (l.getD (l.length - 1) 0):=by
 rw [List.getLast?_eq_getElem?,getD_in (by omega),List.getElem?_eq_getElem (by omega)]
theorem Zjt (l:List Int) (hl:l.length<=9223372036854775807):(if (l.length:Int) > 256 then (some 5) else (if (l.length:Int) > 0 then (if 0<=(wrap64 ((l.length:Int) - 1)) then (if (wrap64 ((l.length:Int) - 1)) < (l.length:Int) then (if (rd l (wrap64 ((l.length:Int) - 1)))=0 then (some 9) else (some 0)) else (none)) else (none)) else (some 0)):Option Int)=some (chkL l):=by
 unfold chkL
 by_cases h:256 < l.length
 ·rw [if_pos (by omega),if_pos h]
 ·rw [if_neg (by omega),if_neg h]
  by_cases h0:0 < l.length
  ·have e:(l.length:Int) - 1=((l.length - 1:Nat):Int):=by omega
   rw [if_pos (by omega),w64d hl,e,if_pos (by omega),if_pos (by omega),rd_n,Zr1 h0]
   by_cases h1:l.getD (l.length - 1) 0=0
   ·rw [if_pos h1,if_pos (by rw [h1])]
   ·rw [if_neg h1,if_neg (by simpa using h1)]
  ·rw [if_neg (by omega)]
   obtain rfl:l=[]:=List.eq_nil_of_length_eq_zero (by omega)
   rfl
theorem Zio (l:List Int) (hl:l.length<=9223372036854775807):Zb3.f l=some (chkL l):=by
 unfold Zb3.f;exact Zjt l hl
theorem Zkr {l:List Int} (hd:Dg 4294967296 l):chkL l=0 ↔ Ok l:=by
 unfold chkL
 constructor
 ·intro h
  by_cases h1:256 < l.length
  ·rw [if_pos h1] at h;cases h
  ·rw [if_neg h1] at h
   by_cases h2:l.getLast? = some 0
   ·rw [if_pos h2] at h;cases h
   ·exact ⟨by omega,hd,h2⟩
 ·intro h
  rw [if_neg (by have := h.len;omega),if_neg h.nz]
end YtjbjkmccfocikaaGreatDoor.P
end
section
namespace YtjbjkmccfocikaaGreatDoor.P.Nm
theorem Zoe {U V P u3 v2 q:Int} (hP:0 < P) (hU:U < (u3+1)*P) (hV:v2*P<=V) (hq0:0<=q) (hq:q*V<=U):q*v2<=u3:=by
 have h1:q*(v2*P)<=q*V:=Int.mul_le_mul_of_nonneg_left hV hq0
 have h2:(q*v2)*P < (u3+1)*P:=by rw [Int.mul_assoc];omega
 have := Int.lt_of_mul_lt_mul_right h2 (by omega)
 omega
theorem Zm1 {U V P u3 v2 q g:Int} (hP:0 < P) (hU:u3*P<=U) (hV:V < (v2+1)*P) (hg:g*v2<=u3) (hq:U < (q+1)*V) (hq0:0<=q) (hv:q+1<=v2):g<=q+1:=by
 refine Int.not_lt.1 (fun h=>?_)
 have h1:(q+2)*v2<=g*v2:=Int.mul_le_mul_of_nonneg_right (by omega) (by omega)
 have h2:(q+2)*v2*P<=u3*P:=Int.mul_le_mul_of_nonneg_right (by omega) (by omega)
 have h3:(q+1)*V<=(q+1)*((v2+1)*P):=Int.mul_le_mul_of_nonneg_left (by omega) (by omega)
 have h4:(q+2)*v2*P < (q+1)*(v2+1)*P:=by rw [Int.mul_assoc (q+1)];omega
 have h5:=Int.lt_of_mul_lt_mul_right h4 (by omega)
 have e1:(q+2)*v2=q*v2+2*v2:=Int.add_mul _ _ _
 have e2:(q+1)*(v2+1)=q*v2+q+v2+1:=by rw [Int.add_mul,Int.mul_add];omega
 omega
end YtjbjkmccfocikaaGreatDoor.P.Nm
end
section
namespace YtjbjkmccfocikaaGreatDoor.B
open Go.RowKit YtjbjkmccfocikaaGreatDoorW.PrintWords YtjbjkmccfocikaaGreatDoorW.PrintLast YtjbjkmccfocikaaGreatDoorW.PrintMore
attribute [local go_sem] Zb5 Zb7 Zcs Zct Zbn Zbo Zb6 Zb8
def Zv.l0:Nat->List Int->Option (List Int)
 | 0,_=>none
 | k+1,x0=>if (x0.length:Int) > 0 then (if 0<=(wrap64 ((x0.length:Int) - 1)) then (if (wrap64 ((x0.length:Int) - 1)) < (x0.length:Int) then (if (rd x0 (wrap64 ((x0.length:Int) - 1)))=0 then (if (wrap64 ((x0.length:Int) - 1))<=(x0.length:Int) then (Zv.l0 k (x0.take ((wrap64 ((x0.length:Int) - 1)):Int).toNat)) else (none)) else (if (x0.length:Int)=0 then (some ([]:List Int)) else (some x0))) else (none)) else (none)) else (if (x0.length:Int)=0 then (some ([]:List Int)) else (some x0))
def Zv.f (k:Nat) (l0:List Int):Option (List Int):=Zv.l0 k l0
theorem Zv.calls (k:Nat) (P0_:Nat->Prop) (u9000_:Value) (l0:List Int) (r:List Int) (w0 w:World) (hB:Below w0.heap.size w0 w) (ho0:Kd.R (Kd.int .u32) 85 w w0.heap.size P0_ u9000_ l0) (h:Zv.f k l0=some r) :
  Calls Tryz.prog 132 #[u9000_] w fun e w' => ∃ v0_:Value,e=.returned (v0_)/\Kd.R (Kd.int .u32) 85 w' w0.heap.size (fun k_=>(P0_ k_\/w.heap.size<=k_)) v0_ r/\Below w0.heap.size w0 w'/\Kept w w' (fun k_=>P0_ k_):=by
 have HO0:=am (show Kd.R (Kd.int .u32) 85 w w0.heap.size (fun k_=>(P0_ k_\/w.heap.size<=k_)) u9000_ l0 from Kd.Zi ho0 (fun k_ hk=>(.inl hk)))
 have HK:=am (Kept.refl w (fun k_=>P0_ k_))
 have HW0:=am hB.size
 have HB:=am hB
 clear hB
 have H:(Zv.l0 k l0)=some r:=h
 clear h
 have H':=am H
 clear H
 go_enter Tryz.func132,Tryz.ntmps132
 go_wp2
 go_loopg [0] k (fun kq v0 w' => ∃ (x0_1:List Int),Aside0 (Zv.l0 kq x0_1=some r)/\Aside0 (kq<=k)/\Aside0 (Kd.R (Kd.int .u32) 85 w' w0.heap.size (fun k_=>(P0_ k_\/w.heap.size<=k_)) v0 x0_1)/\Aside0 (Kept w w' (fun k_=>P0_ k_))/\Aside0 (Below w0.heap.size w0 w'))
 case atStart=>exact ⟨(l0),H',⟨Nat.le_refl _⟩,⟨by refine rp ?_;exact HO0.o⟩,⟨by repeat (first|(with_reducible first|exact HK.out|apply Kept.alloc|apply Kept.drewN|apply Kept.drew)|exact HK.out)⟩,⟨pB⟩⟩
 case round =>
  clear H'
  obtain ⟨x0_1,HA,HK1,HO_0,HK,HB⟩:=hrel
  cases gk with
  | zero=>exact absurd HA.out (by simp [Zv.l0])
  | succ k1 =>
   have H:=HA.out
   clear HA
   simp only [Zv.l0] at H
   by_cases c2:(x0_1.length:Int) > 0
   ·rw [if_pos c2] at H
    have c2b0:decide (0 < (x0_1.length:Int))=true:=decide_eq_true c2
    have c2b1:decide (0 < x0_1.length)=true:=decide_eq_true (by omega)
    clear c2
    obtain ⟨ji3,hji3⟩:∃ j_:Int,(wrap64 ((x0_1.length:Int) - 1))=j_:=⟨_,rfl⟩
    replace H:(if 0<=(ji3) then (if (ji3) < (x0_1.length:Int) then (if (rd x0_1 (ji3))=0 then (if (ji3)<=(x0_1.length:Int) then (Zv.l0 k1 (x0_1.take ((ji3):Int).toNat)) else (none)) else (if (x0_1.length:Int)=0 then (some ([]:List Int)) else (some x0_1))) else (none)) else (none))=some r:=by first|(rw [hji3] at H;exact H)|(simp only [hji3] at H ⊢;exact H)
    have hji3w:(IntKind.i64.wrap ((x0_1.length:Int) - 1))=ji3:=(Zcd _).trans hji3
    by_cases c4:0<=(ji3)
    ·rw [if_pos c4] at H
     have c4b0:decide (0<=(ji3))=true:=decide_eq_true c4
     clear c4
     by_cases c5:(ji3) < (x0_1.length:Int)
     ·rw [if_pos c5] at H
      have c5b0:decide ((ji3) < (x0_1.length:Int))=true:=decide_eq_true c5
      clear c5
      by_cases c6:(rd x0_1 (ji3))=0
      ·rw [if_pos c6] at H
       have c6b0:((rd x0_1 (ji3)) == 0)=true:=beq_iff_eq.mpr c6
       have c6b1:((rd x0_1 (ji3)) != 0)=false:=bne_eq_false_iff_eq.mpr c6
       clear c6
       by_cases c7:(ji3)<=(x0_1.length:Int)
       ·rw [if_pos c7] at H
        have c7b0:=eq_true c7
        have c7b1:decide ((ji3)<=(x0_1.length:Int))=true:=decide_eq_true c7
        clear c7
        obtain ⟨y110,hy110⟩:∃ y_:List Int,y_=(x0_1.take ((ji3):Int).toNat):=⟨_,rfl⟩
        replace H:(Zv.l0 k1 y110)=some r:=by have hy_:=hy110;exact pH
        have Ny110:=am hy110
        clear hy110
        have H':=am H
        clear H
        obtain ⟨Ao8,co8,eo8⟩:=Kd.Zj HO_0.o
        subst eo8
        have p109:0<=((ji3):Int):=of_decide_eq_true pQ
        have q109:(ji3) < (x0_1.length:Int):=of_decide_eq_true pQ
        obtain ⟨ad109,e109,hx109_0⟩:=Kd.Za4 (Kd.Zd HO_0.o).2.2 (ji3) p109 q109
        cases e109
        replace p109:=eq_true p109
        replace q109:=eq_true q109
        have q9:((ji3):Int)<=((x0_1.length:Int):Int):=of_decide_eq_true pQ
        obtain ⟨i09,hi09,_,hsz9,_⟩:=info_parts info85
        have hcut9:=Zn8 (P:=Tryz.prog) 134 85 .i64 Tryz.underlying134 hi09 (some ad109) x0_1.length co8 (ji3) (of_decide_eq_true pQ) q9 (Kd.Zd HO_0.o).2.1
        have hr9:=Kd.Znu (m:=((ji3):Int).toNat) HO_0.o (by omega)
        have hy9:y110.length=((ji3):Int).toNat:=(by rw [Ny110.out,List.length_take];omega)
        rw [<- Ny110.out] at hr9
        rw [<- hy9] at hr9 hcut9
        clear hy9 hi09 hsz9 HO_0
        have HO112:=am hr9
        clear hr9
        replace q9:=eq_true q9
        go_wp2
        go_roundg k1
        case measure=>have := HK1.out;omega
        case rel=>exact ⟨(y110),(by first|exact H'|(have H_:=H'.out;simp only [<- hji3] at H_;exact ⟨H_⟩)|(refine ⟨?_⟩;have H_:=H'.out;simp only [<- hji3] at H_ ⊢;exact H_)),⟨by have := HK1.out;omega⟩,⟨by refine rp ?_;exact HO112.o⟩,⟨by repeat (first|(with_reducible first|exact HK.out|apply Kept.alloc|apply Kept.drewN|apply Kept.drew)|exact HK.out)⟩,⟨pB⟩⟩
       ·rw [if_neg c7] at H
        exact absurd H (by simp)
      ·rw [if_neg c6] at H
       have c6b0:((rd x0_1 (ji3)) == 0)=false:=beq_eq_false_iff_ne.mpr c6
       have c6b1:((rd x0_1 (ji3)) != 0)=true:=bne_iff_ne.mpr c6
       by_cases c10:(x0_1.length:Int)=0
       ·rw [if_pos c10] at H
        have c10b0:((x0_1.length:Int) == 0)=true:=beq_iff_eq.mpr c10
        have c10b1:((x0_1.length:Int) != 0)=false:=bne_eq_false_iff_eq.mpr c10
        clear c10
        obtain rfl:=Option.some.inj H
        obtain ⟨Ao11,co11,eo11⟩:=Kd.Zj HO_0.o
        subst eo11
        have p109:0<=((ji3):Int):=of_decide_eq_true pQ
        have q109:(ji3) < (x0_1.length:Int):=of_decide_eq_true pQ
        obtain ⟨ad109,e109,hx109_0⟩:=Kd.Za4 (Kd.Zd HO_0.o).2.2 (ji3) p109 q109
        cases e109
        replace p109:=eq_true p109
        replace q109:=eq_true q109
        go_wp2
        go_ret
        exact ⟨_,by first|rfl|(simp [Zak,Zal] <;> rfl)|(simp only [<- hji3];first|rfl|(simp [Zak,Zal] <;> rfl))|(simp [*,Zak,Zal] <;> rfl),pN,pB,by repeat (first|(with_reducible first|exact HK.out|apply Kept.alloc|apply Kept.drewN|apply Kept.drew)|exact HK.out)⟩
       ·rw [if_neg c10] at H
        have c10b0:((x0_1.length:Int) == 0)=false:=beq_eq_false_iff_ne.mpr c10
        have c10b1:((x0_1.length:Int) != 0)=true:=bne_iff_ne.mpr c10
        have c10b2:¬ (x0_1=[]):=fun h_=>c10 (by rw [h_];rfl)
        obtain rfl:=Option.some.inj H
        obtain ⟨Ao12,co12,eo12⟩:=Kd.Zj HO_0.o
        subst eo12
        have p109:0<=((ji3):Int):=of_decide_eq_true pQ
        have q109:(ji3) < (x0_1.length:Int):=of_decide_eq_true pQ
        obtain ⟨ad109,e109,hx109_0⟩:=Kd.Za4 (Kd.Zd HO_0.o).2.2 (ji3) p109 q109
        cases e109
        replace p109:=eq_true p109
        replace q109:=eq_true q109
        go_wp2
        go_ret
        exact ⟨_,by first|rfl|(simp [Zak,Zal] <;> rfl)|(simp only [<- hji3];first|rfl|(simp [Zak,Zal] <;> rfl))|(simp [*,Zak,Zal] <;> rfl),by refine rp ?_;exact HO_0.o,pB,by repeat (first|(with_reducible first|exact HK.out|apply Kept.alloc|apply Kept.drewN|apply Kept.drew)|exact HK.out)⟩
     ·rw [if_neg c5] at H
      exact absurd H (by simp)
    ·rw [if_neg c4] at H
     exact absurd H (by simp)
   ·rw [if_neg c2] at H
    have c2b0:decide (0 < (x0_1.length:Int))=false:=decide_eq_false c2
    have c2b1:decide (0 < x0_1.length)=false:=decide_eq_false (by omega)
    clear c2
    by_cases c13:(x0_1.length:Int)=0
    ·rw [if_pos c13] at H
     have c13b0:((x0_1.length:Int) == 0)=true:=beq_iff_eq.mpr c13
     have c13b1:((x0_1.length:Int) != 0)=false:=bne_eq_false_iff_eq.mpr c13
     clear c13
     obtain rfl:=Option.some.inj H
     obtain ⟨Ao14,co14,eo14⟩:=Kd.Zj HO_0.o
     subst eo14
     go_wp2
     go_ret
     exact ⟨_,pE,pN,pB,by repeat (first|(with_reducible first|exact HK.out|apply Kept.alloc|apply Kept.drewN|apply Kept.drew)|exact HK.out)⟩
    ·rw [if_neg c13] at H
     have c13b0:((x0_1.length:Int) == 0)=false:=beq_eq_false_iff_ne.mpr c13
     have c13b1:((x0_1.length:Int) != 0)=true:=bne_iff_ne.mpr c13
     have c13b2:¬ (x0_1=[]):=fun h_=>c13 (by rw [h_];rfl)
     obtain rfl:=Option.some.inj H
     obtain ⟨Ao15,co15,eo15⟩:=Kd.Zj HO_0.o
     subst eo15
     go_wp2
     go_ret
     exact ⟨_,pE,by refine rp ?_;exact HO_0.o,pB,by repeat (first|(with_reducible first|exact HK.out|apply Kept.alloc|apply Kept.drewN|apply Kept.drew)|exact HK.out)⟩
end YtjbjkmccfocikaaGreatDoor.B
end
section
namespace YtjbjkmccfocikaaGreatDoor.B
open Go.RowKit
def Minds {β:Type} (b:Nat) (J:β->World->Prop):Prop:=∀ s W v,J s W->J s (W.setCell ⟨b,0,none⟩ v)
def SeqCell {α:Type} (F:Fence) (n:Nat) (P:Program) (g:Nat) (lb:Array Value) (encs:α->Array Value) (Kp:World->World->Prop) (S Sp:List α->Prop) (N b:Nat) (w:World):Prop :=
 ∀ (l:Nat) (J Jx:List α->World->Prop) (W:World),Below w.heap.size w W->AbidesFrom W.heap.size J->AbidesFrom W.heap.size Jx->Minds b J ->
  (∀ pre x W1,J pre W1->pre.length < N->Sp (pre ++ [x])->YieldAt F (n - 1) P l (encs x) W1 fun e W' =>
   (e=.returned (.bool true)/\J (pre ++ [x]) W'/\Kp W1 W')\/(e=.returned (.bool false)/\Jx (pre ++ [x]) W')) ->
  J [] W ->
  CallsIn F n P g (#[.func (.yield l) #[] #[]]++lb) W fun e W'=>(∃ v,e=.returned v)/\((∃ xs,S xs/\J xs W')\/(∃ pre,Sp pre/\Jx pre W'))
theorem Zbk (w:World) (b:Nat) (v:Value) (k:Nat) (h:k ≠ b):(w.setCell ⟨b,0,none⟩ v).heap[k]? = w.heap[k]?:=Below.heap_setCell _ _ _ _ h
def Recs (at_:Nat) (L:Loop) (W:World):Prop:=W.heap[at_+1]? = some (.loop L)/\W.heap[at_]? = some (.deferred (some []))
theorem Recs.grown {at_:Nat} {L:Loop} {A B:World} {row:Option Nat} (h:Recs at_ L A) (hg:A.grownBy B row) (hr:∀ r,row=some r -> ∃ o:Obj,A.heap[r]? = some o/\o.isWalk=true):Recs at_ L B :=
 ⟨(grownBy_keeps hg hr h.1 rfl).trans h.1,(grownBy_keeps hg hr h.2 rfl).trans h.2⟩
theorem Recs.set {at_ b:Nat} {L:Loop} {W:World} (h:Recs at_ L W) (hb:b < at_) (v:Value):Recs at_ L (W.setCell ⟨b,0,none⟩ v) :=
 ⟨(Zbk W b v _ (by omega)).trans h.1,(Zbk W b v _ (by omega)).trans h.2⟩
theorem Recs.lt {at_:Nat} {L:Loop} {W:World} (h:Recs at_ L W):at_+1 < W.heap.size:=(Array.getElem?_eq_some_iff.1 h.1).1
theorem Recs.put {at_:Nat} {L:Loop} {W:World} (h:Recs at_ L W) (L':Loop):Recs at_ L' (W.putObj (at_+1) (.loop L')) :=
 ⟨World.putObj_heap_same h.lt,(World.putObj_heap_other (by omega)).trans h.2⟩
theorem Recs.keeps {at_:Nat} {L:Loop} {A B:World} (h:Recs at_ L A) (k:KeepsFrom at_ A B):Recs at_ L B :=
 ⟨k.same _ _ (by omega) h.1 rfl,k.same _ _ (Nat.le_refl _) h.2 rfl⟩
variable {F:Fence} {n:Nat} {P:Program}
theorem Zdr {α:Type} {g:Operand} {ps:Array Tmp} {assign body:Code} {Q:Exit->Act->World->Prop} {a:Act} {w:World}
  (hro:F.round=none) (h1:1<=n) {gf:Nat} {lb:Array Value} (hg:a.eval g=.func (.func gf) #[] lb) (hFg:F.fn gf) (eg:∀ args w,(callFunc gf args).run P w=.ok (.enter gf args) w)
  {encs:α->Array Value} {Kp:World->World->Prop} {S Sp:List α->Prop} {N b:Nat} {w0:World} (hseq:SeqCell F (n - 1) P gf lb encs Kp S Sp N b w0) (hb:b < w.heap.size)
  (hKt:∀ {A B C:World},Kp A B->Kp B C->Kp A C) (hKb:∀ (W:World) (l:Nat) (o o':Obj),w.heap.size<=l->W.heap[l]? = some o->o.isCells=false->o.isWalk=false->Kp W (W.putObj l o')) (hb0:Below w0.heap.size w0 w) (hps:∀ x,(encs x).size=ps.size)
  (I:List α->World->Prop) (Ix:Code->List α->World->Prop) (hI:OwnFrom w.heap.size I) (hIx:∀ c,OwnFrom w.heap.size (Ix c)) (hIm:Minds b I) (h0:I [] w) (a₁:α->Act)
  (hassign:∀ (l:Nat) (x:α) (W:World) (K:Act->World->Prop),K (a₁ x) W ->
   assign.wpIn (F.inRound l) (n - 1 - 1) P (Exit.then K (fun _ _ _=>False)) { tmps:=(ps.zip (encs x)).foldl (fun t (p,v)=>t.setIfInBounds p v) a.tmps,defers:=[] } W)
  (hbody:∀ (l:Nat) (pre:List α) (x:α) (W:World),I pre W->pre.length < N->Sp (pre ++ [x])->body.wpIn (F.inRound l) (n - 1 - 1) P (ownPostG w.heap.size Kp I Ix (pre ++ [x]) W) (a₁ x) W)
  (hdone:∀ (D:Nat) (xs:List α) (W:World),w.heap.size<=D->S xs->I xs W->W.heap[D]? = some (.deferred (some []))->Q .normal { a with defers:={ target:=.collected D,args:=#[] } :: a.defers } W)
  (hstop:∀ (D:Nat) (c:Code) (pre:List α) (W:World),w.heap.size<=D->Sp pre->Ix c pre W->W.heap[D]? = some (.deferred (some []))->c.wpIn F n P Q { a with defers:={ target:=.collected D,args:=#[] } :: a.defers } W) :
  (Code.rangeFunc g ps assign body).wpIn F n P Q a w:=by
 refine wpIn_rangeFunc fun fn hfn=>?_
 rw [hro]
 let R:LoopState->Option Code->Loop:=fun st pe=>{ state:=st,pending:=pe,fn,tmps:=a.tmps,params:=ps,assign,body,defers:=w.heap.size }
 have key:∃ W1,(w.alloc (.deferred (some []))).alloc (.loop (R .ready none))=W1/\Recs w.heap.size (R .ready none) W1/\I [] W1/\Below w0.heap.size w0 W1/\w.heap.size<=W1.heap.size:=by
  refine ⟨_,rfl,⟨?_,?_⟩,hI.alloc _ (hI.alloc _ h0),?_,by simp;omega⟩
  ·have := World.alloc_heap_new (w.alloc (.deferred (some []))) (.loop (R .ready none))
   rwa [World.size_alloc] at this
  ·exact (Below.heap_alloc _ _ _ (by simp)).trans (World.alloc_heap_new w _)
  ·exact hb0.trans ((((Below.refl _ w).alloc (Nat.le_refl _) _).alloc (by simp) _).mono hb0.size)
 obtain ⟨W1,e1,r1,i1,b1,z1⟩:=key
 have walks:∀ {A:World} {row:Option Nat},(∀ r,row=some r->W1.heap.size<=r /\ ∃ o:Obj,A.heap[r]? = some o/\o.isWalk=true) -> ∀ r,row=some r->w.heap.size<=r /\ ∃ o:Obj,A.heap[r]? = some o/\o.isCells=false :=
  fun hr r e=>by obtain ⟨h,o,ho,hw⟩:=hr r e;exact ⟨Nat.le_trans z1 h,o,ho,Obj.not_cells_of_walk hw⟩
 refine ⟨w.heap.size+1,[{ target:=.collected w.heap.size,args:=#[] }],W1,{ target:=.fn (.func gf) lb,args:=#[.func (.yield (w.heap.size+1)) #[] #[]] },W1,gf,
  #[.func (.yield (w.heap.size+1)) #[] #[]]++lb,W1,by rw [<- e1];exact run_enterLoop_outer _ _ _ _ _,by simp only [resolve,hg];simp [go_sem],fun f' hf'=>by simp [Target.leads] at hf';subst hf';exact hFg,by simp [invoke,go_sem,eg],fun _=>h1,?_⟩
 refine (hseq (w.heap.size+1) (fun pre W=>I pre W/\Recs w.heap.size (R .ready none) W) (fun pre W => ∃ c,Ix c pre W/\Recs w.heap.size (R .done (some c)) W) W1 b1
  (fun s A B row hs hg' hr=>⟨hI s A B row hs.1 hg' (walks hr),hs.2.grown hg' (fun r e=>(hr r e).2)⟩)
  (fun s A B row hs hg' hr=>by obtain ⟨c,hc,hl⟩:=hs;exact ⟨c,hIx c s A B row hc hg' (walks hr),hl.grown hg' (fun r e=>(hr r e).2)⟩)
  (fun s W v hs=>⟨hIm s W v hs.1,hs.2.set hb v⟩) ?round ⟨i1,r1⟩).mono ?behind
 case round =>
  rintro pre x W ⟨hi,hr⟩ hlen hsp
  refine ⟨fn,_,assign,body,run_yield (P:=P) (args:=encs x) hr.1 (hps x),roundIn_of_wpIn hfn (hassign _ x W _ ⟨_,run_beginRound hr.1 rfl,?_⟩)⟩
  have hr2:Recs w.heap.size { R .ready none with state:=.busy } (W.putObj (w.heap.size+1) (.loop { R .ready none with state:=.busy })):=hr.put _
  have hw2:Kp W (W.putObj (w.heap.size+1) (.loop { R .ready none with state:=.busy })):=hKb _ _ _ _ (by omega) hr.1 rfl rfl
  refine wpIn_mono (hbody _ pre x _ (hI.putObj _ hi (by omega) hr.1 rfl) hlen hsp) ?_
  rintro e a3 W3 hp
  have left:∀ (c:Code),KeepsFrom w.heap.size (W.putObj (w.heap.size+1) (.loop { R .ready none with state:=.busy })) W3->Ix c (pre ++ [x]) W3 ->
    ∃ v W',(Instr.endRound (w.heap.size+1) (some c)).run P W3=.ok v W'/\(v=.bool false /\ ∃ c',Ix c' (pre ++ [x]) W'/\Recs w.heap.size (R .done (some c')) W'):=fun c hk hx =>
   ⟨_,_,run_endRound (P:=P) (some c) (hr2.keeps hk).1,rfl,c,(hIx c).putObj _ hx (by omega) (hr2.keeps hk).1 rfl,(hr2.keeps hk).put _⟩
  cases e with
  | normal =>
   obtain ⟨hk,hkp,hi3⟩:=hp
   exact ⟨_,_,run_endRound (P:=P) none (hr2.keeps hk).1,.inl ⟨rfl,⟨hI.putObj _ hi3 (by omega) (hr2.keeps hk).1 rfl,(hr2.keeps hk).put _⟩,hKt (hKt hw2 hkp) (hKb _ _ _ _ (by omega) (hr2.keeps hk).1 rfl rfl)⟩⟩
  | ret=>obtain ⟨v,W',q,rfl,h⟩:=left .ret hp.1 hp.2;exact ⟨_,_,q,.inr ⟨rfl,h⟩⟩
  | exit id=>obtain ⟨v,W',q,rfl,h⟩:=left (.exit id) hp.1 hp.2;exact ⟨_,_,q,.inr ⟨rfl,h⟩⟩
  | goto t=>obtain ⟨v,W',q,rfl,h⟩:=left (.goto t) hp.1 hp.2;exact ⟨_,_,q,.inr ⟨rfl,h⟩⟩
  | panic ch=>exact hp.elim
  | outgrown=>exact hp.elim
 case behind =>
  rintro e W2 ⟨⟨v,rfl⟩,(⟨xs,hS,hi,hr⟩|⟨pre,hSp,c,hi,hr⟩)⟩
  ·exact ⟨none,_,run_endLoop (P:=P) hr.1 (by simp [R]),hdone _ xs _ (Nat.le_refl _) hS (hI.putObj _ hi (by omega) hr.1 rfl) (hr.put _).2⟩
  ·exact ⟨some c,_,run_endLoop (P:=P) hr.1 (by simp [R]),hstop _ c pre _ (Nat.le_refl _) hSp ((hIx c).putObj _ hi (by omega) hr.1 rfl) (hr.put _).2⟩
def noDefer (ops:Array Oper):Bool:=ops.all fun o=>match o.op with | .defer _=>false|_=>true
theorem Zj5 {ops:Array Oper} (h:noDefer ops=true) {i:Nat} {o:Oper} (ho:ops[i]? = some o):∀ c,o.op ≠ .defer c:=by
 intro c hc
 unfold noDefer at h
 rw [Array.all_eq_true_iff_forall_mem] at h
 have := h o (Array.mem_of_getElem? ho)
 rw [hc] at this
 cases this
variable {P:Program} {ops:Array Oper} {Q:Exit->Act->World->Prop} {md:Region.Mode}
theorem Zkj {r n i:Nat} {K K':Act->World->Prop} {a:Act} {w:World} (hd:noDefer ops=true) (hL:¬ LetsOut Q) (hK:∀ a w,K a w->K' a w) (h:wpOp P ops Q i K a w) :
  wpOpIn (Fence.wide.inRound r) n P ops Q i K' a w:=by
 unfold wpOp at h
 unfold wpOpIn
 cases ho:ops[i]? with
 | none=>simp only [ho] at h ⊢;exact hK _ _ h
 | some o =>
  simp only [ho] at h ⊢
  split
  ·rename_i hw
   simp only [hw,if_true] at h
   have h:=h.resolve_right (fun hx=>hL hx.2)
   refine ⟨fun _ _=>trivial,?_⟩
   rw [Oper.semAt_plain _ _ _ (Zj5 hd ho)]
   unfold Oper.wp at h
   generalize (execOp a.eval o).run P w=x at *
   cases x with
   | ok v w' =>
    cases v <;> simp only [Oper.upon] at h <;> simp only [Oper.uponIn]
    case value u=>exact hK _ _ h
    case skip=>exact hK _ _ h
    case defer d=>exact hK _ _ h
    case enter f args =>
     refine ⟨fun e=>(by cases e),?_⟩
     refine CallsIn.inRound r (callsIn_wide.2 (h.mono fun e w'' he=>?_))
     cases e with
     | returned v=>exact hK _ _ he
     | panicked c=>exact he
     | outgrown=>exact he
    case row row args =>
     refine ⟨fun e=>(by cases e),fun c cs _=>?_⟩
     obtain ⟨v,w'',hr,hs⟩:=h c cs
     exact ⟨v,w'',hK _ _ hr,stepsIn_wide.2 hs⟩
   | halt x w'=>cases x <;> simp only [Oper.upon] at h <;> simp only [Oper.uponIn] <;> exact h
  ·rename_i hw
   simp only [hw] at h
   exact ⟨fun _ _=>trivial,hK _ _ h⟩
theorem Zed {r n:Nat} (hd:noDefer ops=true) (hL:¬ LetsOut Q):∀ (fuel:Nat) (listed:Array Bool) (a:Act) (w:World),wpAny P md ops Q fuel listed a w->wpAnyIn (Fence.wide.inRound r) n P md ops Q fuel listed a w
 | 0,_,_,_,h=>h
 | fuel+1,_,_,_,h=>⟨h.1,fun i hi=>Zkj hd hL (fun a w=>Zed hd hL fuel _ a w) (h.2 i hi)⟩
theorem Zfj {r m id:Nat} {a:Act} {w:World} {l:List Oper} (n:Nat) (hm:P.follows .mixedOrders=true) (hd:noDefer l.toArray=true) (hL:¬ LetsOut Q) (hB:Region.lexTailB .any l.toArray n=true)
  (h:wpStill P l.toArray { w with drawn:=w.drawn+1 } (fun a'=>wpList P l.toArray Q (l.drop n) a' { w with drawn:=w.drawn+1 }) (l.take n) a):(Code.region id l.toArray true).wpIn (Fence.wide.inRound r) m P Q a w:=by
 simp only [Region.lexTailB,Bool.and_eq_true,decide_eq_true_eq] at hB
 obtain ⟨⟨⟨⟨hsel,hn⟩,hs⟩,hc⟩,hlex⟩:=hB
 have hn':n < l.length:=by simpa using hn
 have htl:(l.take n).length=n:=by simp;omega
 have hdl:(l.drop n).length=l.toArray.size - n:=by simp
 have inv0:HeadInv .any l.toArray n (Array.replicate l.toArray.size false) :=
  ⟨by simp,fun j oj _ hl=>(by rw [getD_replicate_false] at hl;cases hl),fun t _ ht=>getD_in (by simpa using ht) (getD_replicate_false _ _)⟩
 have H:=wpAnyL_lex (md:=.any) (g:=l.toArray.size - n) hsel hs hc hn (l.take n) 0 _ a (fun j hj=>by
  have hj':j < n:=by rw [htl] at hj;exact hj
  simp [hj']) (by simpa using htl) inv0 (by rw [htl];exact hlex) h
 refine wpIn_region_any hm (Zed hd hL _ _ _ _ ?_)
 have := wpAny_of_head (Q':=Q) (g:=l.toArray.size - n) (fun listed a' hL=>by
  have := wpAny_of_seq (md:=.any) (Q':=Q) (l.drop n) n listed a' { w with drawn:=w.drawn+1 } (fun j=>by simp [List.getElem?_drop]) (by rw [hdl];exact hL.1) hL.2
  rwa [hdl] at this) _ _ _ H
 rw [htl,show n+(l.toArray.size - n)=l.toArray.size by omega] at this
 exact this
theorem Zea {r m id:Nat} {a:Act} {w:World} {l:List Oper} (hm:P.follows .mixedOrders=true) (hd:noDefer l.toArray=true) (hL:¬ LetsOut Q) (hB:Region.lexB .any l.toArray=true)
  (h:wpQuiet P l.toArray (fun w' => ∃ n,w'=w.drewN n) (fun a' => ∀ w',(∃ n,w'=w.drewN n)->Q .normal a' w') l a):(Code.region id l.toArray true).wpIn (Fence.wide.inRound r) m P Q a w:=by
 simp only [Region.lexB,Bool.and_eq_true] at hB
 refine wpIn_region_any hm (Zed hd hL _ _ _ _ (wpAny_of_quiet (C:=fun w' => ∃ n,w'=w.drewN n) (Q:=fun a' => ∀ w',(∃ n,w'=w.drewN n)->Q .normal a' w') (fun _ w' hw' h=>h w' hw') _ _ _ _ ⟨1,rfl⟩ ?_))
 have := wpAnyQ_lex (C:=fun w' => ∃ n,w'=w.drewN n) (md:=.any) hB.1 l 0 (Array.replicate l.length false) a (by simp) (by simpa using hB.2) h
 simpa using this
section
variable {C:World->Prop}
end
section
variable {S:World->Prop}
theorem Zow {i fuel:Nat} {o:Oper} {v:Value} {listed:Array Bool} {a:Act} {w w':World} (hr:Region.ready md ops listed=[i]) (ho:ops[i]? = some o) (hw:Region.wanted o (yielded ops a.tmps)=true)
  (hrun:(execOp a.eval o).run P w=.ok (.value v) w') (hS:S w') (h:wpAnyH P md ops Q S fuel (listed.setIfInBounds i true) (a.put o.dst v) w'):wpAnyH P md ops Q S (fuel+1) listed a w :=
 wpAnyH_all hr (by simp) fun j hj=>by
  obtain rfl:=List.mem_singleton.1 hj
  unfold wpOp
  simp only [ho,hw,if_true]
  refine .inl ?_
  unfold Oper.wp
  rw [hrun]
  exact ⟨hS,h⟩
theorem Zma {i fuel:Nat} {o:Oper} {listed:Array Bool} {a:Act} {w w':World} (hr:Region.ready md ops listed=[i]) (ho:ops[i]? = some o) (hw:Region.wanted o (yielded ops a.tmps)=true)
  (hrun:(execOp a.eval o).run P w=.ok .skip w') (hS:S w') (h:wpAnyH P md ops Q S fuel (listed.setIfInBounds i true) (a.put o.dst undef) w'):wpAnyH P md ops Q S (fuel+1) listed a w :=
 wpAnyH_all hr (by simp) fun j hj=>by
  obtain rfl:=List.mem_singleton.1 hj
  unfold wpOp
  simp only [ho,hw,if_true]
  refine .inl ?_
  unfold Oper.wp
  rw [hrun]
  exact ⟨hS,h⟩
theorem Zgf {i fuel:Nat} {o:Oper} {f:FuncId} {args:Array Value} {listed:Array Bool} {a:Act} {w:World} (hr:Region.ready md ops listed=[i]) (ho:ops[i]? = some o) (hw:Region.wanted o (yielded ops a.tmps)=true)
  (hrun:(execOp a.eval o).run P w=.ok (.enter f args) w) {R:Ending->World->Prop} (hc:Calls P f args w R) (h:∀ e w',R e w' -> ∃ v,e=.returned v/\S w'/\wpAnyH P md ops Q S fuel (listed.setIfInBounds i true) (a.put o.dst v) w'):wpAnyH P md ops Q S (fuel+1) listed a w :=
 wpAnyH_all hr (by simp) fun j hj=>by
  obtain rfl:=List.mem_singleton.1 hj
  unfold wpOp
  simp only [ho,hw,if_true]
  refine .inl ?_
  unfold Oper.wp
  rw [hrun]
  exact hc.mono fun e w' he=>by obtain ⟨v,rfl,hh⟩:=h e w' he;exact hh
theorem Zfy {m id:Nat} {a:Act} {w:World} {l:List Oper} (S:World->Prop) (hm:P.follows .mixedOrders=true)
  (h:wpAnyH P .any l.toArray (NoPanic Q) S l.length (Array.replicate l.length false) a { w with drawn:=w.drawn+1 }):(Code.region id l.toArray true).wpIn Fence.wide m P Q a w :=
 wpIn_wide.2 (wp_region_noPanic (wp_region_any hm (wpAny_of_held (S:=S) _ _ _ _ (by simpa using h))))
end
end YtjbjkmccfocikaaGreatDoor.B
end
section
namespace YtjbjkmccfocikaaGreatDoor.B
open Go.RowKit Go.Shelf YtjbjkmccfocikaaGreatDoorW.PrintWords
attribute [local go_sem] Oper.semAt_some
theorem Zf3 {P:Program} {f:FuncId} {args:Array Value} {w:World} {n:Nat} {v:Value} (h:Calls P f args (w.drewN n) fun e w'=>e=.returned v/\Drawn0 (w.drewN n) w'):Calls P f args (w.drewN n) fun e w''=>e=.returned v /\ ∃ m,w''=w.drewN m :=
 h.mono fun _ _ ⟨he,hd⟩=>⟨he,by obtain ⟨m,hm⟩:=hd.out;exact ⟨n+m,by rw [hm,World.drewN_drewN]⟩⟩
theorem Zps {W:World} {b t:Nat} {v:Value} (h:Boxed W b t v) (n:Nat):Boxed (W.drewN n) b t v:=h
theorem Zlc (W:World) (n:Nat):(W.drewN n).heap.size=W.heap.size:=rfl
theorem Zs0 (b o j:Nat):(⟨b,o,none⟩:Addr).add j=⟨b,o+j,none⟩:=by unfold Addr.add;split <;> simp_all
theorem Zix {w:World} {ad:Addr} {v:Value} (h:w.cell? ad=some v):∃ b o,ad=⟨b,o,none⟩:=by
 obtain ⟨b,o,s⟩:=ad
 cases s with
 | none=>exact ⟨b,o,rfl⟩
 | some s =>
  unfold World.cell? at h
  split at h
  ·simp at h
  ·cases h
abbrev bkEnc (p:Nat × Int):Array Value:=#[.int .i64 p.1,.int .u32 p.2]
def RdW (A:Option Addr) (m:Nat) (Rd:Nat->Int->Prop) (W:World):Prop:=m=0 \/ ∃ b o,A=some ⟨b,o,none⟩ /\ ∀ j,j < m -> ∃ x,W.cell? ⟨b,o+j,none⟩=some (.int .u32 x)/\Rd j x
def BkP (Rd:Nat->Int->Prop) (m:Nat) (ys:List (Nat × Int)):Prop:=ys.length<=m /\ ∀ k x,ys[k]? = some x->x.1=m - 1 - k/\Rd x.1 x.2
def KpB (Bs:Nat) (A:Option Addr) (m:Nat) (Rd:Nat->Int->Prop) (W W':World):Prop:=W'.heap[Bs]? = W.heap[Bs]? /\ (RdW A m Rd W->RdW A m Rd W')
theorem RdW.below {A:Option Addr} {m:Nat} {Rd:Nat->Int->Prop} {W W':World} (h:RdW A m Rd W) (hb:Below W.heap.size W W'):RdW A m Rd W':=by
 rcases h with h|⟨b,o,hA,h⟩
 ·exact .inl h
 ·refine .inr ⟨b,o,hA,fun j hj=>?_⟩
  obtain ⟨x,hx,hr⟩:=h j hj
  exact ⟨x,Zc4 hb hx,hr⟩
theorem RdW.at {A:Option Addr} {m:Nat} {Rd:Nat->Int->Prop} {W:World} (h:RdW A m Rd W) {j:Nat} (hj:j < m):∃ b o x,A=some ⟨b,o,none⟩/\W.cell? ⟨b,o+j,none⟩=some (.int .u32 x)/\Rd j x:=by
 obtain ⟨b,o,hA,h⟩:=h.resolve_left (by omega)
 obtain ⟨x,hx,hr⟩:=h j hj
 exact ⟨b,o,x,hA,hx,hr⟩
theorem RdW.grown {A:Option Addr} {m:Nat} {Rd:Nat->Int->Prop} {W W':World} {row:Option Nat} (h:RdW A m Rd W) (hg:W.grownBy W' row) (hr:∀ r,row=some r -> ∃ o:Obj,W.heap[r]? = some o/\o.isCells=false):RdW A m Rd W':=by
 rcases h with h|⟨b,o,hA,h⟩
 ·exact .inl h
 ·refine .inr ⟨b,o,hA,fun j hj=>?_⟩
  obtain ⟨x,hx,hrd⟩:=h j hj
  exact ⟨x,cell_kept hx hg hr,hrd⟩
theorem KpB.trans {Bs:Nat} {A:Option Addr} {m:Nat} {Rd:Nat->Int->Prop} {X Y Z:World} (h:KpB Bs A m Rd X Y) (k:KpB Bs A m Rd Y Z):KpB Bs A m Rd X Z:=⟨k.1.trans h.1,fun x=>k.2 (h.2 x)⟩
theorem KpB.put {Bs:Nat} {A:Option Addr} {m:Nat} {Rd:Nat->Int->Prop} {W:World} {l:Nat} {o o':Obj} (hl:Bs ≠ l) (ho:W.heap[l]? = some o) (hc:o.isCells=false):KpB Bs A m Rd W (W.putObj l o') :=
 ⟨World.putObj_heap_other hl,fun h=>h.grown (grownBy_putObj' W l o') (fun r e=>by cases e;exact ⟨o,ho,hc⟩)⟩
theorem BkP.snoc {Rd:Nat->Int->Prop} {m:Nat} {pre:List (Nat × Int)} {x:Int} (h:BkP Rd m pre) (hl:pre.length < m) (hx:Rd (m - 1 - pre.length) x):BkP Rd m (pre ++ [(m - 1 - pre.length,x)]):=by
 refine ⟨by simp;omega,fun k y hy=>?_⟩
 rcases Nat.lt_trichotomy k pre.length with h1|h1|h1
 ·rw [List.getElem?_append_left h1] at hy;exact h.2 k y hy
 ·subst h1
  rw [List.getElem?_append_right (Nat.le_refl _),Nat.sub_self] at hy
  obtain rfl:=Option.some.inj hy
  exact ⟨rfl,hx⟩
 ·rw [List.getElem?_eq_none (by simp;omega)] at hy;cases hy
theorem Zkq (w:World) (A:Option Addr) (m c:Nat) (n:Nat) :
  CallsIn Fence.wide n Tryz.prog 158 #[.slice A m c] w fun e w'=>e=.returned (.func (.func 184) #[] #[.pointer (some ⟨w.heap.size,0,none⟩)])/\w'=w.alloc (.cells #[.slice A m c] 134):=by
 refine callsIn_of_wp Tryz.func158 rfl trivial ?_ rfl
 simp only [Tryz.ntmps158,List.size_toArray,List.length_cons,List.length_nil,Nat.reduceAdd,Nat.reduceSub,Array.replicate_succ,Array.replicate_zero,List.push_toArray,List.append_toArray,List.nil_append,List.cons_append]
 gi_wp2
 go_ret
 exact ⟨rfl,rfl⟩
theorem Zpr (n:Nat) (hn:1<=n) (l Bs:Nat) (A:Option Addr) (m c:Nat) (Rd:Nat->Int->Prop) (hm:m<=9223372036854775807) (J Jx:List (Nat × Int)->World->Prop)
  (W:World) (hJ:AbidesFrom W.heap.size J)
  (hY:∀ pre x W1,J pre W1->pre.length < m->BkP Rd m (pre ++ [x])->YieldAt Fence.wide (n - 1) Tryz.prog l (bkEnc x) W1 fun e W' =>
   (e=.returned (.bool true)/\J (pre ++ [x]) W'/\KpB Bs A m Rd W1 W')\/(e=.returned (.bool false)/\Jx (pre ++ [x]) W'))
  (hBs:Boxed W Bs 134 (.slice A m c)) (hR:RdW A m Rd W) (h0:J [] W) :
  CallsIn Fence.wide n Tryz.prog 184 #[.func (.yield l) #[] #[],.pointer (some ⟨Bs,0,none⟩)] W fun e W'=>(∃ v,e=.returned v) /\
   ((∃ ys,(BkP Rd m ys/\ys.length=m)/\J ys W')\/(∃ pre,BkP Rd m pre/\Jx pre W')):=by
 have hc0:=hBs.cell
 have HBs:=Lib.hid hBs
 have HJ:=Lib.hid hJ
 have HY:=Lib.hid hY
 clear hBs hJ hY
 refine callsIn_of_wp Tryz.func184 rfl trivial ?_ rfl
 simp only [Tryz.ntmps184,List.size_toArray,List.length_cons,List.length_nil,Nat.reduceAdd,Nat.reduceSub,Array.replicate_succ,Array.replicate_zero,List.push_toArray,List.append_toArray,List.nil_append,List.cons_append]
 gi_wp2
 gi_loopw [3] (fun i wr => ∃ pre:List (Nat × Int),i=.int .i64 ((m:Int) - 1 - (pre.length:Int))/\BkP Rd m pre/\Boxed wr Bs 134 (.slice A m c)/\RdW A m Rd wr/\J pre wr)
  (fun i _=>(intOf i+1).toNat)
 case atStart=>exact ⟨[],by simp,⟨Nat.zero_le _,fun k x h=>by simp at h⟩,HBs.out,hR,h0⟩
 case round =>
  obtain ⟨pre,rfl,hp,hb,hr,hj⟩:=hrel
  have hle:=hp.1
  have hc1:=hb.cell
  have HP:=Lib.hid hp
  have HB:=Lib.hid hb
  clear hp hb hc0 hR
  obtain ⟨k,hk⟩:∃ k,pre.length=k:=⟨_,rfl⟩
  rw [hk] at hle ⊢
  by_cases hlt:k < m
  ·have hlt':(0:Int)<=(m:Int) - 1 - (k:Int):=by omega
   obtain ⟨b,o,rfl,hcs⟩:∃ b o,A=some ⟨b,o,none⟩ /\ ∀ j,j < m -> ∃ x,wr.cell? ⟨b,o+j,none⟩=some (.int .u32 x)/\Rd j x:=hr.resolve_left (by omega)
   obtain ⟨x,hx,hrd⟩:=hcs (m - 1 - k) (by omega)
   have hsn:=HP.out.snoc (by omega) (by rw [hk];exact hrd)
   rw [hk] at hsn
   obtain ⟨fn,tmps,assign,body,hy,hRr⟩:=HY.out pre (m - 1 - k,x) wr hj (by omega) hsn
   obtain ⟨i,hi⟩:∃ i:Nat,m - 1 - k=i:=⟨_,rfl⟩
   have hi':(m:Int) - 1 - (k:Int)=(i:Int):=by omega
   rw [hi] at hx hy hsn hRr
   rw [hi']
   have hx0:(0:Int)<=(i:Int):=by omega
   have hx1:(i:Int) < (m:Int):=by omega
   have HI:=Lib.hid hi'
   have HK:=Lib.hid hk
   have HSn:=Lib.hid hsn
   have HRr:=Lib.hid hr
   clear hi' hi hk hlt' hsn hr hcs hrd
   dsimp only [bkEnc] at hy
   gi_wp2
   refine hRr.mono ?_
   rintro e W3 (⟨rfl,hJ3,hk1,hk2⟩|⟨rfl,hJx3⟩)
   ·have hb3:Boxed W3 Bs 134 (.slice (some ⟨b,o,none⟩) m c):=hk1.trans HB.out
    have hr3:=hk2 HRr.out
    gi_wp2
    go_roundw
    case rel=>exact ⟨pre ++ [(i,x)],by have := HI.out;have := HK.out;rw [List.length_append];simp only [List.length_cons,List.length_nil];exact congrArg (Value.int .i64) (by omega),HSn.out,hb3,hr3,hJ3⟩
    case measure=>simp [intOf]
   ·gi_wp2
    refine bodyPost_ret (results_none rfl _ _ _) rfl ?_
    exact ⟨⟨_,rfl⟩,.inr ⟨_,HSn.out,hJx3⟩⟩
  ·have hge:¬ (0:Int)<=(m:Int) - 1 - (k:Int):=by omega
   have HK:=Lib.hid hk
   clear hk
   gi_wp2
   go_end0
   exact ⟨⟨_,rfl⟩,.inl ⟨pre,⟨HP.out,by have := HK.out;omega⟩,hj⟩⟩
theorem Zgq (n:Nat) (hn:1<=n) (Bs:Nat) (A:Option Addr) (m c:Nat) (Rd:Nat->Int->Prop) (hm:m<=9223372036854775807) (w:World)
  (hBs:Boxed w Bs 134 (.slice A m c)) (hR:RdW A m Rd w) :
  SeqCell Fence.wide n Tryz.prog 184 #[.pointer (some ⟨Bs,0,none⟩)] bkEnc (KpB Bs A m Rd) (fun ys=>BkP Rd m ys/\ys.length=m) (BkP Rd m) m Bs w :=
 fun l J Jx W hW hJ _ _ hY h0=>Zpr n hn l Bs A m c Rd hm J Jx W hJ hY ((hW.block Bs hBs.lt).trans hBs) (hR.below hW) h0
end YtjbjkmccfocikaaGreatDoor.B
end
section
namespace YtjbjkmccfocikaaGreatDoor.B
open Go.RowKit YtjbjkmccfocikaaGreatDoorW.PrintWords YtjbjkmccfocikaaGreatDoor.P.Nm
theorem Zmx (A B C D:Nat) (hA:A < 4294967296) (hB:B < 4294967296) (hC:C<=1) (hD:D < 4294967296) (h:(D:Int)=((A:Int) - B - C) % 4294967296) :
  (((4294967295 ^^^ A) &&& B) ||| ((4294967295 ^^^ (A ^^^ B)) &&& D)) / 2147483648=if A < B+C then 1 else 0:=by
 rw [show (2147483648:Nat)=2 ^ 31 by rfl,<- Nat.shiftRight_eq_div_pow,Nat.shiftRight_or_distrib,Nat.shiftRight_and_distrib,Nat.shiftRight_and_distrib,Nat.shiftRight_xor_distrib,Nat.shiftRight_xor_distrib,Nat.shiftRight_xor_distrib]
 rw [show (4294967295 >>> 31:Nat)=1 by rfl]
 simp only [Nat.shiftRight_eq_div_pow]
 rw [show (2 ^ 31:Nat)=2147483648 by rfl]
 obtain ⟨a,ha⟩:∃ a,A / 2147483648=a:=⟨_,rfl⟩
 obtain ⟨b,hb⟩:∃ b,B / 2147483648=b:=⟨_,rfl⟩
 obtain ⟨d,hd⟩:∃ d,D / 2147483648=d:=⟨_,rfl⟩
 rw [ha,hb,hd]
 have ha1:a=0\/a=1:=by omega
 have hb1:b=0\/b=1:=by omega
 have hd1:d=0\/d=1:=by omega
 obtain rfl|rfl:=ha1 <;> obtain rfl|rfl:=hb1 <;> obtain rfl|rfl:=hd1 <;> (split <;> first|rfl|(exfalso;omega))
theorem Zmy (a0 a1 a2:Int) (h1:0<=a0) (h2:a0 < 4294967296) (h3:0<=a1) (h4:a1 < 4294967296) (h5:0<=a2) (h6:a2<=1) :
  bits .or .u32 (bits .and .u32 (bits .xor .u32 IntKind.u32.max a0) a1) (bits .and .u32 (bits .xor .u32 IntKind.u32.max (bits .xor .u32 a0 a1)) ((a0 - a1 - a2) % 4294967296)) / 2147483648=if a0 < a1+a2 then 1 else 0:=by
 obtain ⟨D,hD⟩:=Int.eq_ofNat_of_zero_le (show 0<=(a0 - a1 - a2) % 4294967296 by omega)
 obtain ⟨A,rfl⟩:=Int.eq_ofNat_of_zero_le h1
 obtain ⟨B,rfl⟩:=Int.eq_ofNat_of_zero_le h3
 obtain ⟨C,rfl⟩:=Int.eq_ofNat_of_zero_le h5
 have key:=Zmx A B C D (by omega) (by omega) (by omega) (by omega) hD.symm
 have e1:bits .xor .u32 IntKind.u32.max (A:Int)=((4294967295 ^^^ A:Nat):Int):=u32_xor_nat 4294967295 A (by omega) (by omega)
 have e2:bits .xor .u32 (A:Int) (B:Int)=((A ^^^ B:Nat):Int):=u32_xor_nat A B (by omega) (by omega)
 have x2:A ^^^ B < 2 ^ 32:=Nat.xor_lt_two_pow (by omega) (by omega)
 have e3:bits .xor .u32 IntKind.u32.max ((A ^^^ B:Nat):Int)=((4294967295 ^^^ (A ^^^ B):Nat):Int):=u32_xor_nat 4294967295 _ (by omega) (by omega)
 have x1:4294967295 ^^^ A < 2 ^ 32:=Nat.xor_lt_two_pow (by omega) (by omega)
 have x3:4294967295 ^^^ (A ^^^ B) < 2 ^ 32:=Nat.xor_lt_two_pow (by omega) (by omega)
 have e4:bits .and .u32 ((4294967295 ^^^ A:Nat):Int) (B:Int)=(((4294967295 ^^^ A) &&& B:Nat):Int):=u32_and_nat _ B (by omega) (by omega)
 have e5:bits .and .u32 ((4294967295 ^^^ (A ^^^ B):Nat):Int) (D:Int)=(((4294967295 ^^^ (A ^^^ B)) &&& D:Nat):Int):=u32_and_nat _ D (by omega) (by omega)
 have x4:(4294967295 ^^^ A) &&& B < 2 ^ 32:=Nat.and_lt_two_pow _ (by omega)
 have x5:(4294967295 ^^^ (A ^^^ B)) &&& D < 2 ^ 32:=Nat.and_lt_two_pow _ (by omega)
 have e6:bits .or .u32 (((4294967295 ^^^ A) &&& B:Nat):Int) (((4294967295 ^^^ (A ^^^ B)) &&& D:Nat):Int)=((((4294967295 ^^^ A) &&& B) ||| ((4294967295 ^^^ (A ^^^ B)) &&& D):Nat):Int):=u32_or_nat _ _ (by omega) (by omega)
 rw [hD,e1,e2,e3,e4,e5,e6]
 have := congrArg (Nat.cast:Nat->Int) key
 rw [Int.natCast_ediv] at this
 refine this.trans ?_
 by_cases hlt:A < B+C
 ·rw [if_pos hlt,if_pos (by omega)];rfl
 ·rw [if_neg hlt,if_neg (by omega)];rfl
def Zdy.f (x y b:Int):Option (Int × Int) :=
 if 0<=x/\x < 4294967296/\0<=y/\y < 4294967296/\0<=b/\b<=1 then some ((x - y - b) % 4294967296,if x < y+b then 1 else 0) else none
theorem Zdy.calls (a0 a1 a2 r1 r2:Int) (w:World) (h:Zdy.f a0 a1 a2=some (r1,r2)) :
  Calls Tryz.prog 185 #[.int .u32 a0,.int .u32 a1,.int .u32 a2] w fun e w'=>e=.returned (.tuple #[.int .u32 r1,.int .u32 r2])/\Drawn0 w w':=by
 unfold Zdy.f at h
 split at h
 case isFalse=>cases h
 case isTrue hk =>
 obtain ⟨h1,h2,h3,h4,h5,h6⟩:=hk
 obtain ⟨rfl,hr2⟩:=Prod.mk.inj (Option.some.inj h)
 have HF:=Aside0.mk ((Zmy a0 a1 a2 h1 h2 h3 h4 h5 h6).trans hr2)
 clear h h1 h2 h3 h4 h5 h6 hr2
 go_enter Tryz.func185,Tryz.ntmps185
 go_wp2
 go_ret2
 refine ⟨?_,Drawn0.refl _⟩
 exact congrArg (fun z=>Ending.returned (Value.tuple #[Value.int .u32 ((a0 - a1 - a2) % 4294967296),Value.int .u32 z])) HF.out
def bits_LeadingZeros32.f (x:Int):Option Int:=if 0<=x/\x<=4294967295 then some (32 - (Lib.bitLen x.toNat:Int)) else none
theorem bits_LeadingZeros32.calls (a0 r:Int) (w:World) (h:bits_LeadingZeros32.f a0=some r) :
  Calls Tryz.prog 156 #[.int .u32 a0] w fun e w'=>e=.returned (.int .i64 r)/\Drawn0 w w':=by
 unfold bits_LeadingZeros32.f at h
 split at h
 case isFalse=>cases h
 case isTrue hk =>
 obtain rfl:=Option.some.inj h
 refine (Tryz.bits_LeadingZeros32 a0 w hk.1 hk.2).mono ?_
 rintro e w' ⟨rfl,rfl⟩
 exact ⟨rfl,Drawn0.refl _⟩
def Zag.f (l0:List Int):Option (List Int):=if l0.length*4<=140737488355328 then some l0 else none
theorem Zag.zer (a:Addr) (c:Nat) (w:World) :
  Calls Tryz.prog 102 #[.slice (some a) 0 c] w fun e w' => ∃ v',e=.returned v'/\w'.ownsRow w.heap.size 85 1 v' 0 []/\Below w.heap.size w w':=by
 obtain ⟨i0,hi,hz0,hz1,hz2⟩:=info_parts info85
 have q22:∀ (w:World) (a:Option Addr) (n c n' c':Nat),(binOp .eql 22 (.slice a n c) (.slice none n' c')).run Tryz.prog w=.ok (.bool a.isNone) w:=fun w a n c n' c'=>Lib.run_eql_slice_nil w _ _ a n c n' c' Tryz.underlying22
 go_enter Tryz.func102,Tryz.ntmps102
 go_wp2_with (at_builtin;refine wpList_append_own _ rfl _ _ 22 rfl w.heap.size 85 i0 (.int .u32 0) 1 4 Tryz.underlying22 hi hz0 hz1 hz2 rfl (by decide) _ _ _ rfl (World.ownsRow_made w #[] 0 (Nat.le_refl _) (Nat.zero_le _) rfl) a 0 c [] rfl rfl (by intro j u hj;simp at hj) (by intro u hu;cases hu) (by unfold maxLen;omega) (by omega) (by simp) ?_)
 intro v' w1 hown hgrow hnil
 go_wp2
 go_ret
 exact ⟨v',rfl,by simpa using hown,((Below.refl _ w).alloc (Nat.le_refl _) _).grown hgrow (by simp) (by intro k hk;simp [Value.ownBlock] at hk;omega)⟩
theorem Zag.many (b off n c:Nat) (news:List Value) (w:World) (hl:news.length=n*1) (hn:n<=maxLen) (hbig:n*4<=140737488355328) (hc:∀ j u,news[j]? = some u->w.cell? ⟨b,off+j,none⟩=some u) (h1:∀ u ∈ news,u.oneCell'=true) :
  Calls Tryz.prog 102 #[.slice (some ⟨b,off,none⟩) n c] w fun e w' => ∃ v',e=.returned v'/\w'.ownsRow w.heap.size 85 1 v' n news/\Below w.heap.size w w':=by
 obtain ⟨i0,hi,hz0,hz1,hz2⟩:=info_parts info85
 have q22:∀ (w:World) (a:Option Addr) (n c n' c':Nat),(binOp .eql 22 (.slice a n c) (.slice none n' c')).run Tryz.prog w=.ok (.bool a.isNone) w:=fun w a n c n' c'=>Lib.run_eql_slice_nil w _ _ a n c n' c' Tryz.underlying22
 have AA:=Aside0.mk hc
 clear hc
 go_enter Tryz.func102,Tryz.ntmps102
 go_wp2_with (at_builtin;refine wpList_append_own _ rfl _ _ 22 rfl w.heap.size 85 i0 (.int .u32 0) 1 4 Tryz.underlying22 hi hz0 hz1 hz2 rfl (by decide) _ _ _ rfl (World.ownsRow_made w #[] 0 (Nat.le_refl _) (Nat.zero_le _) rfl) ⟨b,off,none⟩ n c news rfl ?qc1 ?qc2 ?qc3 ?qc4 ?qc5 ?qc6 ?_)
 case qc1=>exact hl
 case qc2 =>
  intro j u hj
  rw [Zf7]
  exact Lib.cell?_alloc_some _ (AA.out j u hj)
 case qc3=>exact h1
 case qc4=>rw [Nat.zero_add];exact hn
 case qc5=>rw [Nat.zero_add];exact hbig
 case qc6=>simp
 intro v' w1 hown hgrow hnil
 go_wp2
 go_ret
 exact ⟨v',rfl,by simpa using hown,((Below.refl _ w).alloc (Nat.le_refl _) _).grown hgrow (by simp) (by intro k hk;simp [Value.ownBlock] at hk;omega)⟩
theorem Zag.nul (n c:Nat) (w:World):Calls Tryz.prog 102 #[.slice none n c] w fun e w'=>e=.returned (.slice none 0 0)/\w'=w:=by
 have q22:∀ (w:World) (a:Option Addr) (n c n' c':Nat),(binOp .eql 22 (.slice a n c) (.slice none n' c')).run Tryz.prog w=.ok (.bool a.isNone) w:=fun w a n c n' c'=>Lib.run_eql_slice_nil w _ _ a n c n' c' Tryz.underlying22
 go_enter Tryz.func102,Tryz.ntmps102
 go_wp2
 go_ret
 exact ⟨rfl,rfl⟩
theorem Zag.calls (A0:Option Addr) (c0:Nat) (l0:List Int) (r:List Int) (w:World) (hr0:Kd.C (Kd.int .u32) w A0 l0.length l0) (hc0:l0.length<=c0) (h:Zag.f l0=some r) :
  Calls Tryz.prog 102 #[.slice A0 l0.length c0] w fun e w' => ∃ v0_:Value,e=.returned v0_/\Kd.R (Kd.int .u32) 85 w' w.heap.size (fun _=>True) v0_ r/\Below w.heap.size w w':=by
 unfold Zag.f at h
 split at h
 case isFalse=>cases h
 case isTrue hb =>
 obtain rfl:=Option.some.inj h
 have hR:ReadsOf (Value.int .u32) 0 w A0 l0.length l0:=Kd.Zfu hr0
 rcases Nat.eq_zero_or_pos l0.length with h0|h0
 ·obtain rfl:l0=[]:=List.eq_nil_of_length_eq_zero h0
  cases A0 with
  | none =>
   refine (Zag.nul _ _ w).mono ?_
   rintro e w' ⟨rfl,rfl⟩
   exact ⟨_,rfl,Kd.Zjj _ _ _ _ _,Below.refl _ _⟩
  | some a =>
   refine (Zag.zer a c0 w).mono ?_
   rintro e w' ⟨v,rfl,ho,hb⟩
   exact ⟨v,rfl,Kd.Zdd (enc:=Value.int .u32) (xs:=[]) ho (fun _ _=>trivial),hb⟩
 ·obtain ⟨ad,rfl,hc⟩:=hR.2.2 h0
  obtain ⟨b,o,rfl⟩:=Zix (show w.cell? ad=_ from hc 0 h0)
  refine (Zag.many b o l0.length c0 (encs (Value.int .u32) l0) w (by simp [encs]) (by simp [maxLen];omega) hb (fun j u hj=>?_) (fun u hu=>?_)).mono ?_
  ·have hjl:j < l0.length:=by have := (List.getElem?_eq_some_iff.1 hj).1;simpa [encs] using this
   have := hc j hjl
   rw [Zf7] at this
   rw [this,<- hj]
   simp [encs,List.getD,List.getElem?_eq_getElem hjl]
  ·obtain ⟨x,_,rfl⟩:=List.mem_map.1 (show u ∈ l0.map (Value.int .u32) from hu)
   rfl
  ·rintro e w' ⟨v,rfl,ho,hb⟩
   exact ⟨v,rfl,Kd.Zdd (enc:=Value.int .u32) ho (fun _ _=>trivial),hb⟩
def Zdf.f (l0:List Int):Option (List Int):=if l0.length*4<=140737488355328 then some l0 else none
theorem Zdf.zer (a:Addr) (c:Nat) (w:World) :
  Calls Tryz.prog 155 #[.slice (some a) 0 c] w fun e w' => ∃ v',e=.returned v'/\w'.ownsRow w.heap.size 85 1 v' 0 []/\Below w.heap.size w w':=by
 obtain ⟨i0,hi,hz0,hz1,hz2⟩:=info_parts info85
 have q22:∀ (w:World) (a:Option Addr) (n c n' c':Nat),(binOp .eql 134 (.slice a n c) (.slice none n' c')).run Tryz.prog w=.ok (.bool a.isNone) w:=fun w a n c n' c'=>Lib.run_eql_slice_nil w _ _ a n c n' c' Tryz.underlying134
 go_enter Tryz.func155,Tryz.ntmps155
 go_wp2_with (at_builtin;refine wpList_append_own _ rfl _ _ 134 rfl w.heap.size 85 i0 (.int .u32 0) 1 4 Tryz.underlying134 hi hz0 hz1 hz2 rfl (by decide) _ _ _ rfl (World.ownsRow_made w #[] 0 (Nat.le_refl _) (Nat.zero_le _) rfl) a 0 c [] rfl rfl (by intro j u hj;simp at hj) (by intro u hu;cases hu) (by unfold maxLen;omega) (by omega) (by simp) ?_)
 intro v' w1 hown hgrow hnil
 go_wp2
 go_ret
 exact ⟨v',rfl,by simpa using hown,((Below.refl _ w).alloc (Nat.le_refl _) _).grown hgrow (by simp) (by intro k hk;simp [Value.ownBlock] at hk;omega)⟩
theorem Zdf.many (b off n c:Nat) (news:List Value) (w:World) (hl:news.length=n*1) (hn:n<=maxLen) (hbig:n*4<=140737488355328) (hc:∀ j u,news[j]? = some u->w.cell? ⟨b,off+j,none⟩=some u) (h1:∀ u ∈ news,u.oneCell'=true) :
  Calls Tryz.prog 155 #[.slice (some ⟨b,off,none⟩) n c] w fun e w' => ∃ v',e=.returned v'/\w'.ownsRow w.heap.size 85 1 v' n news/\Below w.heap.size w w':=by
 obtain ⟨i0,hi,hz0,hz1,hz2⟩:=info_parts info85
 have q22:∀ (w:World) (a:Option Addr) (n c n' c':Nat),(binOp .eql 134 (.slice a n c) (.slice none n' c')).run Tryz.prog w=.ok (.bool a.isNone) w:=fun w a n c n' c'=>Lib.run_eql_slice_nil w _ _ a n c n' c' Tryz.underlying134
 have AA:=Aside0.mk hc
 clear hc
 go_enter Tryz.func155,Tryz.ntmps155
 go_wp2_with (at_builtin;refine wpList_append_own _ rfl _ _ 134 rfl w.heap.size 85 i0 (.int .u32 0) 1 4 Tryz.underlying134 hi hz0 hz1 hz2 rfl (by decide) _ _ _ rfl (World.ownsRow_made w #[] 0 (Nat.le_refl _) (Nat.zero_le _) rfl) ⟨b,off,none⟩ n c news rfl ?qc1 ?qc2 ?qc3 ?qc4 ?qc5 ?qc6 ?_)
 case qc1=>exact hl
 case qc2 =>
  intro j u hj
  rw [Zf7]
  exact Lib.cell?_alloc_some _ (AA.out j u hj)
 case qc3=>exact h1
 case qc4=>rw [Nat.zero_add];exact hn
 case qc5=>rw [Nat.zero_add];exact hbig
 case qc6=>simp
 intro v' w1 hown hgrow hnil
 go_wp2
 go_ret
 exact ⟨v',rfl,by simpa using hown,((Below.refl _ w).alloc (Nat.le_refl _) _).grown hgrow (by simp) (by intro k hk;simp [Value.ownBlock] at hk;omega)⟩
theorem Zdf.nul (n c:Nat) (w:World):Calls Tryz.prog 155 #[.slice none n c] w fun e w'=>e=.returned (.slice none 0 0)/\w'=w:=by
 have q22:∀ (w:World) (a:Option Addr) (n c n' c':Nat),(binOp .eql 134 (.slice a n c) (.slice none n' c')).run Tryz.prog w=.ok (.bool a.isNone) w:=fun w a n c n' c'=>Lib.run_eql_slice_nil w _ _ a n c n' c' Tryz.underlying134
 go_enter Tryz.func155,Tryz.ntmps155
 go_wp2
 go_ret
 exact ⟨rfl,rfl⟩
theorem Zdf.calls (A0:Option Addr) (c0:Nat) (l0:List Int) (r:List Int) (w:World) (hr0:Kd.C (Kd.int .u32) w A0 l0.length l0) (hc0:l0.length<=c0) (h:Zdf.f l0=some r) :
  Calls Tryz.prog 155 #[.slice A0 l0.length c0] w fun e w' => ∃ v0_:Value,e=.returned v0_/\Kd.R (Kd.int .u32) 85 w' w.heap.size (fun _=>True) v0_ r/\Below w.heap.size w w':=by
 unfold Zdf.f at h
 split at h
 case isFalse=>cases h
 case isTrue hb =>
 obtain rfl:=Option.some.inj h
 have hR:ReadsOf (Value.int .u32) 0 w A0 l0.length l0:=Kd.Zfu hr0
 rcases Nat.eq_zero_or_pos l0.length with h0|h0
 ·obtain rfl:l0=[]:=List.eq_nil_of_length_eq_zero h0
  cases A0 with
  | none =>
   refine (Zdf.nul _ _ w).mono ?_
   rintro e w' ⟨rfl,rfl⟩
   exact ⟨_,rfl,Kd.Zjj _ _ _ _ _,Below.refl _ _⟩
  | some a =>
   refine (Zdf.zer a c0 w).mono ?_
   rintro e w' ⟨v,rfl,ho,hb⟩
   exact ⟨v,rfl,Kd.Zdd (enc:=Value.int .u32) (xs:=[]) ho (fun _ _=>trivial),hb⟩
 ·obtain ⟨ad,rfl,hc⟩:=hR.2.2 h0
  obtain ⟨b,o,rfl⟩:=Zix (show w.cell? ad=_ from hc 0 h0)
  refine (Zdf.many b o l0.length c0 (encs (Value.int .u32) l0) w (by simp [encs]) (by simp [maxLen];omega) hb (fun j u hj=>?_) (fun u hu=>?_)).mono ?_
  ·have hjl:j < l0.length:=by have := (List.getElem?_eq_some_iff.1 hj).1;simpa [encs] using this
   have := hc j hjl
   rw [Zf7] at this
   rw [this,<- hj]
   simp [encs,List.getD,List.getElem?_eq_getElem hjl]
  ·obtain ⟨x,_,rfl⟩:=List.mem_map.1 (show u ∈ l0.map (Value.int .u32) from hu)
   rfl
  ·rintro e w' ⟨v,rfl,ho,hb⟩
   exact ⟨v,rfl,Kd.Zdd (enc:=Value.int .u32) ho (fun _ _=>trivial),hb⟩
end YtjbjkmccfocikaaGreatDoor.B
end
section
namespace YtjbjkmccfocikaaGreatDoor.B
open Go.RowKit YtjbjkmccfocikaaGreatDoorW.PrintWords YtjbjkmccfocikaaGreatDoorW.PrintLast YtjbjkmccfocikaaGreatDoorW.PrintMore
attribute [local go_sem] Zb5 Zb7 Zcs Zct Zbn Zbo Zb6 Zb8
mutual
def Zae.l0:Nat->List Int->List Int->List Int->Int->Int->Option (List Int)
 | 0,_,_,_,_,_=>none
 | k+1,x1,x5,x18,x19,x20=>if x20 < x19 then (if 0<=x20 then (if x20 < (x18.length:Int) then (Zae.l1 k x1 x5 x20 (rd x18 x20) 0 x18 x19 x20 x1 (x1.length:Int) 0) else (none)) else (none)) else ((Zv.f k x5).bind fun t190=>(some t190))
def Zae.l1:Nat->List Int->List Int->Int->Int->Int->List Int->Int->Int->List Int->Int->Int->Option (List Int)
 | 0,_,_,_,_,_,_,_,_,_,_,_=>none
 | k+1,x1,x5,x6,x7,x8,x18,x19,x20,x25,x26,x27=>if x27 < x26 then (if 0<=x27 then (if x27 < (x25.length:Int) then (if 0<=(wrap64 (x6+x27)) then (if (wrap64 (x6+x27)) < (x5.length:Int) then (Zae.l1 k x1 (x5.set ((wrap64 (x6+x27)):Int).toNat ((IntKind.u64.wrap ((IntKind.u64.wrap ((IntKind.u64.wrap ((IntKind.u64.wrap (x7))*(IntKind.u64.wrap (rd x25 x27))))+(IntKind.u64.wrap (rd x5 (wrap64 (x6+x27))))))+x8)) % 4294967296)) x6 x7 ((IntKind.u64.wrap ((IntKind.u64.wrap ((IntKind.u64.wrap ((IntKind.u64.wrap (x7))*(IntKind.u64.wrap (rd x25 x27))))+(IntKind.u64.wrap (rd x5 (wrap64 (x6+x27))))))+x8)) / 4294967296) x18 x19 x20 x25 x26 (wrap64 (x27+1))) else (none)) else (none)) else (none)) else (none)) else (if 0<=(wrap64 (x6+(x1.length:Int))) then (if (wrap64 (x6+(x1.length:Int))) < (x5.length:Int) then (Zae.l0 k x1 (x5.set ((wrap64 (x6+(x1.length:Int))):Int).toNat ((x8) % 4294967296)) x18 x19 (wrap64 (x20+1))) else (none)) else (none))
end
def Zae.f (k:Nat) (l0:List Int) (l1:List Int):Option (List Int):=if 0<=(wrap64 ((l0.length:Int)+(l1.length:Int))) then (if (wrap64 ((l0.length:Int)+(l1.length:Int)):Int).toNat<=70368744177664 then (Zae.l0 k l1 (List.replicate (wrap64 ((l0.length:Int)+(l1.length:Int)):Int).toNat 0) l0 (l0.length:Int) 0) else (none)) else (none)
theorem Zae.calls (k:Nat) (A0:Option Addr) (c0:Nat) (l0:List Int) (A1:Option Addr) (c1:Nat) (l1:List Int) (r:List Int) (w:World) (hr0:Kd.C (Kd.int .u32) w A0 l0.length l0) (hc0:l0.length<=c0) (hr1:Kd.C (Kd.int .u32) w A1 l1.length l1) (hc1:l1.length<=c1) (h:Zae.f k l0 l1=some r) :
  Calls Tryz.prog 129 #[.slice A0 l0.length c0,.slice A1 l1.length c1] w fun e w' => ∃ v0_:Value,e=.returned (v0_)/\Kd.R (Kd.int .u32) 85 w' w.heap.size (fun _=>True) v0_ r/\Below w.heap.size w w':=by
 have HR0:=am hr0
 have HC0:=am hc0
 clear hr0 hc0
 have HR1:=am hr1
 have HC1:=am hc1
 clear hr1 hc1
 have HB:=am (Below.refl w.heap.size w)
 have H:(if 0<=(wrap64 ((l0.length:Int)+(l1.length:Int))) then (if (wrap64 ((l0.length:Int)+(l1.length:Int)):Int).toNat<=70368744177664 then (Zae.l0 k l1 (List.replicate (wrap64 ((l0.length:Int)+(l1.length:Int)):Int).toNat 0) l0 (l0.length:Int) 0) else (none)) else (none))=some r:=h
 clear h
 obtain ⟨ji3,hji3⟩:∃ j_:Int,(wrap64 ((l0.length:Int)+(l1.length:Int)))=j_:=⟨_,rfl⟩
 replace H:(if 0<=(ji3) then (if (ji3:Int).toNat<=70368744177664 then (Zae.l0 k l1 (List.replicate (ji3:Int).toNat 0) l0 (l0.length:Int) 0) else (none)) else (none))=some r:=by first|(rw [hji3] at H;exact H)|(simp only [hji3] at H ⊢;exact H)
 have hji3w:(IntKind.i64.wrap ((l0.length:Int)+(l1.length:Int)))=ji3:=(Zcd _).trans hji3
 by_cases c4:0<=(ji3)
 ·rw [if_pos c4] at H
  have c4b0:=eq_true c4
  have c4b1:decide (0<=(ji3))=true:=decide_eq_true c4
  clear c4
  by_cases c5:(ji3:Int).toNat<=70368744177664
  ·rw [if_pos c5] at H
   have c5b0:=eq_true c5
   have c5b1:decide ((ji3:Int).toNat<=70368744177664)=true:=decide_eq_true c5
   clear c5
   obtain ⟨y187,hy187⟩:∃ y_:List Int,y_=(List.replicate (ji3:Int).toNat 0):=⟨_,rfl⟩
   replace H:(Zae.l0 k l1 y187 l0 (l0.length:Int) 0)=some r:=by have hy_:=hy187;exact pH
   have Ny187:=am hy187
   clear hy187
   have H':=am H
   clear H
   go_enter Tryz.func129,Tryz.ntmps129
   go_wp2_with (first|((with_reducible refine gd 17 ?_);refine Kd.Zji (Kd.int .u32) _ 85 rfl (N:=17) rfl 134 _ _ rfl ji3 rfl rfl Tryz.underlying134 (.int .u32 0) 4 info85 rfl (by decide) (by omega) 0 (ok:=fun _=>True) (okp:=fun _=>True) rfl (fun _ hk=>hk) trivial (of_decide_eq_true pQ) (Nat.le_trans (Nat.mul_le_mul_right _ (of_decide_eq_true pQ:ji3.toNat<=70368744177664)) (by omega)) (Below.refl _ _) (Nat.le_refl _) ?_;intro v188 w6 ho7 hb hg_ hnew_;clear hg_ hnew_;(first|rw [<- Ny187.out] at ho7|(simp only [Int.reduceToNat] at ho7;rw [<- Ny187.out] at ho7));have HO189:=am (Kd.Zq ho7 (Zb pB));replace HB:=bS hb;clear hb ho7))
   go_loopg [20] k (fun kq v20 w' => ∃ (x5_1:List Int) (x20_1:Int),v20=.int .i64 x20_1/\Aside0 (Zae.l0 kq l1 x5_1 l0 (l0.length:Int) x20_1=some r)/\Aside0 (kq<=k)/\Aside0 (Kd.R (Kd.int .u32) 85 w' w.heap.size (fun _=>True) v188 x5_1)/\Aside0 (Below w.heap.size w w'))
   case atStart=>exact ⟨(y187),(0),pR,H',⟨Nat.le_refl _⟩,⟨by refine rp ?_;exact HO189.o⟩,⟨pB⟩⟩
   case round =>
    clear H'
    obtain ⟨x5_1,x20_1,rfl,HA,HK1,HO_5,HB⟩:=hrel
    cases gk with
    | zero=>exact absurd HA.out (by simp [Zae.l0])
    | succ k1 =>
     have H:=HA.out
     clear HA
     simp only [Zae.l0] at H
     by_cases c8:x20_1 < (l0.length:Int)
     ·rw [if_pos c8] at H
      have c8b0:decide (x20_1 < (l0.length:Int))=true:=decide_eq_true c8
      clear c8
      by_cases c9:0<=x20_1
      ·rw [if_pos c9] at H
       have c9b0:decide (0<=x20_1)=true:=decide_eq_true c9
       clear c9
       by_cases c10:x20_1 < (l0.length:Int)
       ·rw [if_pos c10] at H
        have c10b0:decide (x20_1 < (l0.length:Int))=true:=decide_eq_true c10
        clear c10
        have H':=am H
        clear H
        have p193:0<=(x20_1:Int):=of_decide_eq_true pQ
        have q193:x20_1 < (l0.length:Int):=of_decide_eq_true pQ
        obtain ⟨ad193,e193,hx193_0⟩:=Kd.Za4 HR0.o x20_1 p193 q193
        cases e193
        replace hx193_0:=(HB.o.cell (World.block_lt_of_cell? w _ hx193_0)).trans hx193_0
        replace p193:=eq_true p193
        replace q193:=eq_true q193
        go_wp2
        go_loopg [8,27] k1 (fun kq v8 v27 w' => ∃ (x5_2:List Int) (x8_2:Int) (x27_2:Int),v8=.int .u64 x8_2/\v27=.int .i64 x27_2/\Aside0 (Zae.l1 kq l1 x5_2 x20_1 (rd l0 x20_1) x8_2 l0 (l0.length:Int) x20_1 l1 (l1.length:Int) x27_2=some r)/\Aside0 (kq<=k1)/\Aside0 (Kd.R (Kd.int .u32) 85 w' w.heap.size (fun _=>True) v188 x5_2)/\Aside0 (Below w.heap.size w w'))
        case atStart=>exact ⟨(x5_1),(0),(0),pR,pR,H',⟨Nat.le_refl _⟩,⟨by refine rp ?_;exact HO_5.o⟩,⟨pB⟩⟩
        case round =>
         clear H'
         obtain ⟨x5_2,x8_2,x27_2,rfl,rfl,HA,HK2,HO_5,HB⟩:=hrel
         cases gk with
         | zero=>exact absurd HA.out (by simp [Zae.l1])
         | succ k2 =>
          have H:=HA.out
          clear HA
          simp only [Zae.l1] at H
          by_cases c11:x27_2 < (l1.length:Int)
          ·rw [if_pos c11] at H
           have c11b0:decide (x27_2 < (l1.length:Int))=true:=decide_eq_true c11
           clear c11
           by_cases c12:0<=x27_2
           ·rw [if_pos c12] at H
            have c12b0:decide (0<=x27_2)=true:=decide_eq_true c12
            clear c12
            by_cases c13:x27_2 < (l1.length:Int)
            ·rw [if_pos c13] at H
             have c13b0:decide (x27_2 < (l1.length:Int))=true:=decide_eq_true c13
             clear c13
             obtain ⟨ji14,hji14⟩:∃ j_:Int,(wrap64 (x20_1+x27_2))=j_:=⟨_,rfl⟩
             replace H:(if 0<=(ji14) then (if (ji14) < (x5_2.length:Int) then (Zae.l1 k2 l1 (x5_2.set ((ji14):Int).toNat ((IntKind.u64.wrap ((IntKind.u64.wrap ((IntKind.u64.wrap ((IntKind.u64.wrap ((rd l0 x20_1)))*(IntKind.u64.wrap (rd l1 x27_2))))+(IntKind.u64.wrap (rd x5_2 (ji14)))))+x8_2)) % 4294967296)) x20_1 (rd l0 x20_1) ((IntKind.u64.wrap ((IntKind.u64.wrap ((IntKind.u64.wrap ((IntKind.u64.wrap ((rd l0 x20_1)))*(IntKind.u64.wrap (rd l1 x27_2))))+(IntKind.u64.wrap (rd x5_2 (ji14)))))+x8_2)) / 4294967296) l0 (l0.length:Int) x20_1 l1 (l1.length:Int) (wrap64 (x27_2+1))) else (none)) else (none))=some r:=by first|(rw [hji14] at H;exact H)|(simp only [hji14] at H ⊢;exact H)
             have hji14w:(IntKind.i64.wrap (x20_1+x27_2))=ji14:=(Zcd _).trans hji14
             by_cases c15:0<=(ji14)
             ·rw [if_pos c15] at H
              have c15b0:decide (0<=(ji14))=true:=decide_eq_true c15
              clear c15
              by_cases c16:(ji14) < (x5_2.length:Int)
              ·rw [if_pos c16] at H
               have c16b0:decide ((ji14) < (x5_2.length:Int))=true:=decide_eq_true c16
               clear c16
               obtain ⟨y196,hy196⟩:∃ y_:List Int,y_=(x5_2.set ((ji14):Int).toNat ((IntKind.u64.wrap ((IntKind.u64.wrap ((IntKind.u64.wrap ((IntKind.u64.wrap ((rd l0 x20_1)))*(IntKind.u64.wrap (rd l1 x27_2))))+(IntKind.u64.wrap (rd x5_2 (ji14)))))+x8_2)) % 4294967296)):=⟨_,rfl⟩
               replace H:(Zae.l1 k2 l1 y196 x20_1 (rd l0 x20_1) ((IntKind.u64.wrap ((IntKind.u64.wrap ((IntKind.u64.wrap ((IntKind.u64.wrap ((rd l0 x20_1)))*(IntKind.u64.wrap (rd l1 x27_2))))+(IntKind.u64.wrap (rd x5_2 (ji14)))))+x8_2)) / 4294967296) l0 (l0.length:Int) x20_1 l1 (l1.length:Int) (wrap64 (x27_2+1)))=some r:=by have hy_:=hy196;exact pH
               have Ny196:=am hy196
               clear hy196
               have H':=am H
               clear H
               have p194:0<=(x27_2:Int):=of_decide_eq_true pQ
               have q194:x27_2 < (l1.length:Int):=of_decide_eq_true pQ
               obtain ⟨ad194,e194,hx194_0⟩:=Kd.Za4 HR1.o x27_2 p194 q194
               cases e194
               replace hx194_0:=(HB.o.cell (World.block_lt_of_cell? w _ hx194_0)).trans hx194_0
               replace p194:=eq_true p194
               replace q194:=eq_true q194
               obtain ⟨Ao18,co18,eo18⟩:=Kd.Zj HO_5.o
               subst eo18
               have p195:0<=((ji14):Int):=of_decide_eq_true pQ
               have q195:(ji14) < (x5_2.length:Int):=of_decide_eq_true pQ
               obtain ⟨ad195,e195,hx195_0⟩:=Kd.Za4 (Kd.Zd HO_5.o).2.2 (ji14) p195 q195
               cases e195
               replace p195:=eq_true p195
               replace q195:=eq_true q195
               have p17:0<=((ji14):Int):=of_decide_eq_true pQ
               have q17:((ji14):Int) < ((x5_2.length:Int):Int):=of_decide_eq_true pQ
               obtain ⟨go17,co17,eo17,gb17,gl17,cl17,HG17⟩:=Kd.Zhh HO_5.o (by omega)
               (first|cases eo17|(injection eo17 with ea_ en_ ec_;(first|subst ea_|(injection ea_ with ea_;subst ea_));subst ec_;clear en_))
               have GB17:=am gb17
               have GG17:=am HG17
               clear gb17 gl17 HG17
               (first|simp only [add_plain] at hx195_0|skip)
               obtain ⟨hx17_0,hf17_0⟩:=Kd.Ze1 0 HO_5.o ((ji14):Int) p17 q17
               replace p17:=eq_true p17
               replace q17:=eq_true q17
               have HP19:=Kd.Zjk HO_5.o ((ji14):Int) ((IntKind.u64.wrap ((IntKind.u64.wrap ((IntKind.u64.wrap ((IntKind.u64.wrap ((rd l0 x20_1)))*(IntKind.u64.wrap (rd l1 x27_2))))+(IntKind.u64.wrap (rd x5_2 (ji14)))))+x8_2)) % 4294967296)
               go_wp2_with (first|((with_reducible refine Zc0 (t:=85) (p:=55) rfl ?_);refine Zcp (t:=85) (p:=55) (v:=?vo_w20) (w1:=(wr.setCell ⟨go17,((ji14):Int).toNat,none⟩ (.int .u32 ((IntKind.u64.wrap ((IntKind.u64.wrap ((IntKind.u64.wrap ((IntKind.u64.wrap ((rd l0 x20_1)))*(IntKind.u64.wrap (rd l1 x27_2))))+(IntKind.u64.wrap (rd x5_2 (ji14)))))+x8_2)) % 4294967296)))) ?hg ?ho ?hn ?hr ?_;(case ho=>rfl);(case hg=>rfl);(case hn=>rfl);(case hr=>first|(go_simp;done)|(go_simp;rfl));intro w20 hw;have hg:wr.grownBy w20 (some go17):=(by rw [hw];exact HP19.2);have hp_:Kd.R (Kd.int .u32) 85 w20 w.heap.size (fun _=>True) (.slice (some ⟨go17,0,none⟩) x5_2.length co18) y196:=(by rw [hw,Ny196.out];exact HP19.1);clear HP19;replace HO_5:=am (hp_);replace HB:=am ((by rw [hw];exact Zda (HB.o) GB17.out:Below w.heap.size w w20));clear hg hw hp_))
               go_roundg k2
               case measure=>have := HK1.out;have := HK2.out;omega
               case rel=>exact ⟨(y196),((IntKind.u64.wrap ((IntKind.u64.wrap ((IntKind.u64.wrap ((IntKind.u64.wrap ((rd l0 x20_1)))*(IntKind.u64.wrap (rd l1 x27_2))))+(IntKind.u64.wrap (rd x5_2 (ji14)))))+x8_2)) / 4294967296),(wrap64 (x27_2+1)),(by first|rfl|(simp;done)|(simp only [<- hji14] <;> (first|rfl|simp))|(simp [*];done)),pR,(by first|exact H'|(have H_:=H'.out;simp only [<- hji3] at H_;exact ⟨H_⟩)|(refine ⟨?_⟩;have H_:=H'.out;simp only [<- hji3] at H_ ⊢;exact H_)|(have H_:=H'.out;simp only [<- hji14] at H_;exact ⟨H_⟩)|(refine ⟨?_⟩;have H_:=H'.out;simp only [<- hji14] at H_ ⊢;exact H_)),⟨by have := HK1.out;have := HK2.out;omega⟩,⟨by refine rp ?_;exact HO_5.o⟩,⟨pB⟩⟩
              ·rw [if_neg c16] at H
               exact absurd H (by simp)
             ·rw [if_neg c15] at H
              exact absurd H (by simp)
            ·rw [if_neg c13] at H
             exact absurd H (by simp)
           ·rw [if_neg c12] at H
            exact absurd H (by simp)
          ·rw [if_neg c11] at H
           have c11b0:decide (x27_2 < (l1.length:Int))=false:=decide_eq_false c11
           clear c11
           obtain ⟨ji21,hji21⟩:∃ j_:Int,(wrap64 (x20_1+(l1.length:Int)))=j_:=⟨_,rfl⟩
           replace H:(if 0<=(ji21) then (if (ji21) < (x5_2.length:Int) then (Zae.l0 k2 l1 (x5_2.set ((ji21):Int).toNat ((x8_2) % 4294967296)) l0 (l0.length:Int) (wrap64 (x20_1+1))) else (none)) else (none))=some r:=by first|(rw [hji21] at H;exact H)|(simp only [hji21] at H ⊢;exact H)
           have hji21w:(IntKind.i64.wrap (x20_1+(l1.length:Int)))=ji21:=(Zcd _).trans hji21
           by_cases c22:0<=(ji21)
           ·rw [if_pos c22] at H
            have c22b0:decide (0<=(ji21))=true:=decide_eq_true c22
            clear c22
            by_cases c23:(ji21) < (x5_2.length:Int)
            ·rw [if_pos c23] at H
             have c23b0:decide ((ji21) < (x5_2.length:Int))=true:=decide_eq_true c23
             clear c23
             obtain ⟨y197,hy197⟩:∃ y_:List Int,y_=(x5_2.set ((ji21):Int).toNat ((x8_2) % 4294967296)):=⟨_,rfl⟩
             replace H:(Zae.l0 k2 l1 y197 l0 (l0.length:Int) (wrap64 (x20_1+1)))=some r:=by have hy_:=hy197;exact pH
             have Ny197:=am hy197
             clear hy197
             have H':=am H
             clear H
             have p24:0<=((ji21):Int):=of_decide_eq_true pQ
             have q24:((ji21):Int) < ((x5_2.length:Int):Int):=of_decide_eq_true pQ
             obtain ⟨go24,co24,eo24,gb24,gl24,cl24,HG24⟩:=Kd.Zhh HO_5.o (by omega)
             (first|cases eo24|(injection eo24 with ea_ en_ ec_;(first|subst ea_|(injection ea_ with ea_;subst ea_));subst ec_;clear en_))
             have GB24:=am gb24
             have GG24:=am HG24
             clear gb24 gl24 HG24
             obtain ⟨hx24_0,hf24_0⟩:=Kd.Ze1 0 HO_5.o ((ji21):Int) p24 q24
             replace p24:=eq_true p24
             replace q24:=eq_true q24
             have HP25:=Kd.Zjk HO_5.o ((ji21):Int) ((x8_2) % 4294967296)
             go_wp2_with (first|((with_reducible refine Zc0 (t:=85) (p:=64) rfl ?_);refine Zcp (t:=85) (p:=64) (v:=?vo_w26) (w1:=(wr.setCell ⟨go24,((ji21):Int).toNat,none⟩ (.int .u32 ((x8_2) % 4294967296)))) ?hg ?ho ?hn ?hr ?_;(case ho=>rfl);(case hg=>rfl);(case hn=>rfl);(case hr=>first|(go_simp;done)|(go_simp;rfl));intro w26 hw;have hg:wr.grownBy w26 (some go24):=(by rw [hw];exact HP25.2);have hp_:Kd.R (Kd.int .u32) 85 w26 w.heap.size (fun _=>True) (.slice (some ⟨go24,0,none⟩) x5_2.length co24) y197:=(by rw [hw,Ny197.out];exact HP25.1);clear HP25;replace HO_5:=am (hp_);replace HB:=am ((by rw [hw];exact Zda (HB.o) GB24.out:Below w.heap.size w w26));clear hg hw hp_))
             go_roundg k2
             case measure=>have := HK1.out;have := HK2.out;omega
             case rel=>exact ⟨(y197),(wrap64 (x20_1+1)),pR,(by first|exact H'|(have H_:=H'.out;simp only [<- hji3] at H_;exact ⟨H_⟩)|(refine ⟨?_⟩;have H_:=H'.out;simp only [<- hji3] at H_ ⊢;exact H_)|(have H_:=H'.out;simp only [<- hji21] at H_;exact ⟨H_⟩)|(refine ⟨?_⟩;have H_:=H'.out;simp only [<- hji21] at H_ ⊢;exact H_)),⟨by have := HK1.out;have := HK2.out;omega⟩,⟨by refine rp ?_;exact HO_5.o⟩,⟨pB⟩⟩
            ·rw [if_neg c23] at H
             exact absurd H (by simp)
           ·rw [if_neg c22] at H
            exact absurd H (by simp)
       ·rw [if_neg c10] at H
        exact absurd H (by simp)
      ·rw [if_neg c9] at H
       exact absurd H (by simp)
     ·rw [if_neg c8] at H
      have c8b0:decide (x20_1 < (l0.length:Int))=false:=decide_eq_false c8
      clear c8
      obtain ⟨t190,A27,H⟩:=ob H
      obtain rfl:=Option.some.inj H
      obtain ⟨Ao28,co28,eo28⟩:=Kd.Zj HO_5.o
      subst eo28
      go_wp2_with (first|(refine gL (some 67) Tryz.func132 #[.slice Ao28 x5_1.length co28] (h:=?_);(with_reducible refine (Zv.calls k1 (fun k_=>some k_=(.slice Ao28 x5_1.length co28:Value).ownBlock) (.slice Ao28 x5_1.length co28) x5_1 t190 w _ ?side1 ?side2 A27.o).mono ?_);(case side1=>exact pB);(case side2=>exact Kd.Zbl rfl HO_5.o);rintro e w29 ⟨v191,rfl,ho0,hb,hkp⟩;refine ⟨_,rfl,?_⟩;have HO192:=am (Kd.Zi (ok':=fun k_=>True) ho0 (fun k_ hk_=>trivial));replace HB:=am hb;clear HO_5))
      go_ret
      exact ⟨_,by first|rfl|(simp [Zak,Zal] <;> rfl)|(simp only [<- hji3];first|rfl|(simp [Zak,Zal] <;> rfl))|(simp [*,Zak,Zal] <;> rfl),by refine rp ?_;exact HO192.o,pB⟩
  ·rw [if_neg c5] at H
   exact absurd H (by simp)
 ·rw [if_neg c4] at H
  exact absurd H (by simp)
def Zch.f (a0:Int) (a1:Int) (a2:Int):Option (Int × Int):=some ((IntKind.u64.wrap ((IntKind.u64.wrap ((IntKind.u64.wrap (a0))+(IntKind.u64.wrap (a1))))+(IntKind.u64.wrap (a2)))) % 4294967296,((IntKind.u64.wrap ((IntKind.u64.wrap ((IntKind.u64.wrap (a0))+(IntKind.u64.wrap (a1))))+(IntKind.u64.wrap (a2)))) / 4294967296) % 4294967296)
theorem Zch.calls (a0:Int) (a1:Int) (a2:Int) (r1:Int) (r2:Int) (w:World) (h:Zch.f a0 a1 a2=some (r1,r2)) :
  Calls Tryz.prog 164 #[.int .u32 a0,.int .u32 a1,.int .u32 a2] w fun e w'=>e=.returned (.tuple #[.int .u32 r1,.int .u32 r2])/\Drawn0 w w':=by
 have H:(some ((IntKind.u64.wrap ((IntKind.u64.wrap ((IntKind.u64.wrap (a0))+(IntKind.u64.wrap (a1))))+(IntKind.u64.wrap (a2)))) % 4294967296,((IntKind.u64.wrap ((IntKind.u64.wrap ((IntKind.u64.wrap (a0))+(IntKind.u64.wrap (a1))))+(IntKind.u64.wrap (a2)))) / 4294967296) % 4294967296))=some (r1,r2):=h
 clear h
 simp only [Option.some.injEq,Prod.mk.injEq] at H
 obtain ⟨rfl,rfl⟩:=H
 go_enter Tryz.func164,Tryz.ntmps164
 go_wp2
 go_ret2
 exact ⟨pR,pD⟩
mutual
def Zac.l0:Nat->List Int->List Int->Int->List Int->Int->Int->Option (List Int)
 | 0,_,_,_,_,_,_=>none
 | k+1,x1,x5,x6,x23,x24,x25=>if x25 < x24 then (if 0<=x25 then (if x25 < (x23.length:Int) then (if x25 < (x1.length:Int) then ((Zch.f (rd x23 x25) (rd x1 x25) x6).bind fun bt203=>(if x5.length < 35184372088832 then (Zac.l0 k x1 (x5 ++ [bt203.1]) bt203.2 x23 x24 (wrap64 (x25+1))) else (none))) else ((Zch.f (rd x23 x25) 0 x6).bind fun bt208=>(if x5.length < 35184372088832 then (Zac.l0 k x1 (x5 ++ [bt208.1]) bt208.2 x23 x24 (wrap64 (x25+1))) else (none)))) else (none)) else (none)) else (if x5.length < 35184372088832 then ((Zv.f k (x5 ++ [x6])).bind fun t216=>(some t216)) else (none))
def Zac.l2:Nat->List Int->List Int->Int->List Int->Int->Int->Option (List Int)
 | 0,_,_,_,_,_,_=>none
 | k+1,x1,x5,x6,x23,x24,x25=>if x25 < x24 then (if 0<=x25 then (if x25 < (x23.length:Int) then (if x25 < (x1.length:Int) then ((Zch.f (rd x23 x25) (rd x1 x25) x6).bind fun bt224=>(if x5.length < 35184372088832 then (Zac.l2 k x1 (x5 ++ [bt224.1]) bt224.2 x23 x24 (wrap64 (x25+1))) else (none))) else ((Zch.f (rd x23 x25) 0 x6).bind fun bt229=>(if x5.length < 35184372088832 then (Zac.l2 k x1 (x5 ++ [bt229.1]) bt229.2 x23 x24 (wrap64 (x25+1))) else (none)))) else (none)) else (none)) else (if x5.length < 35184372088832 then ((Zv.f k (x5 ++ [x6])).bind fun t237=>(some t237)) else (none))
end
def Zac.f (k:Nat) (l0:List Int) (l1:List Int):Option (List Int):=if (l0.length:Int) < (l1.length:Int) then (if 0<=(wrap64 ((l1.length:Int)+1)) then (if (wrap64 ((l1.length:Int)+1):Int).toNat<=70368744177664 then (Zac.l0 k l0 (List.replicate 0 0) 0 l1 (l1.length:Int) 0) else (none)) else (none)) else (if 0<=(wrap64 ((l0.length:Int)+1)) then (if (wrap64 ((l0.length:Int)+1):Int).toNat<=70368744177664 then (Zac.l2 k l1 (List.replicate 0 0) 0 l0 (l0.length:Int) 0) else (none)) else (none))
theorem Zac.calls (k:Nat) (A0:Option Addr) (c0:Nat) (l0:List Int) (A1:Option Addr) (c1:Nat) (l1:List Int) (r:List Int) (w:World) (hr0:Kd.C (Kd.int .u32) w A0 l0.length l0) (hc0:l0.length<=c0) (hr1:Kd.C (Kd.int .u32) w A1 l1.length l1) (hc1:l1.length<=c1) (h:Zac.f k l0 l1=some r) :
  Calls Tryz.prog 131 #[.slice A0 l0.length c0,.slice A1 l1.length c1] w fun e w' => ∃ v0_:Value,e=.returned (v0_)/\Kd.R (Kd.int .u32) 85 w' w.heap.size (fun _=>True) v0_ r/\Below w.heap.size w w':=by
 have HR0:=am hr0
 have HC0:=am hc0
 clear hr0 hc0
 have HR1:=am hr1
 have HC1:=am hc1
 clear hr1 hc1
 have HB:=am (Below.refl w.heap.size w)
 have H:(if (l0.length:Int) < (l1.length:Int) then (if 0<=(wrap64 ((l1.length:Int)+1)) then (if (wrap64 ((l1.length:Int)+1):Int).toNat<=70368744177664 then (Zac.l0 k l0 (List.replicate 0 0) 0 l1 (l1.length:Int) 0) else (none)) else (none)) else (if 0<=(wrap64 ((l0.length:Int)+1)) then (if (wrap64 ((l0.length:Int)+1):Int).toNat<=70368744177664 then (Zac.l2 k l1 (List.replicate 0 0) 0 l0 (l0.length:Int) 0) else (none)) else (none)))=some r:=h
 clear h
 by_cases c3:(l0.length:Int) < (l1.length:Int)
 ·rw [if_pos c3] at H
  have c3b0:decide ((l0.length:Int) < (l1.length:Int))=true:=decide_eq_true c3
  have c3b1:decide (l0.length < l1.length)=true:=decide_eq_true (Int.ofNat_lt.mp c3)
  clear c3
  obtain ⟨ji4,hji4⟩:∃ j_:Int,(wrap64 ((l1.length:Int)+1))=j_:=⟨_,rfl⟩
  replace H:(if 0<=(ji4) then (if (ji4:Int).toNat<=70368744177664 then (Zac.l0 k l0 (List.replicate 0 0) 0 l1 (l1.length:Int) 0) else (none)) else (none))=some r:=by first|(rw [hji4] at H;exact H)|(simp only [hji4] at H ⊢;exact H)
  have hji4w:(IntKind.i64.wrap ((l1.length:Int)+1))=ji4:=(Zcd _).trans hji4
  by_cases c5:0<=(ji4)
  ·rw [if_pos c5] at H
   have c5b0:=eq_true c5
   have c5b1:decide (0<=(ji4))=true:=decide_eq_true c5
   clear c5
   by_cases c6:(ji4:Int).toNat<=70368744177664
   ·rw [if_pos c6] at H
    have c6b0:=eq_true c6
    have c6b1:decide ((ji4:Int).toNat<=70368744177664)=true:=decide_eq_true c6
    clear c6
    obtain ⟨y198,hy198⟩:∃ y_:List Int,y_=(List.replicate 0 0):=⟨_,rfl⟩
    replace H:(Zac.l0 k l0 y198 0 l1 (l1.length:Int) 0)=some r:=by have hy_:=hy198;exact pH
    have Ny198:=am hy198
    clear hy198
    have H':=am H
    clear H
    go_enter Tryz.func131,Tryz.ntmps131
    go_wp2_with (first|((with_reducible refine gd 22 ?_);refine Zhi (Kd.int .u32) _ 85 rfl (N:=22) rfl 134 _ _ rfl ji4 rfl rfl Tryz.underlying134 (.int .u32 0) 4 info85 (by omega) 0 (ok:=fun _=>True) (okp:=fun _=>True) (fun _ hk=>hk) trivial (of_decide_eq_true pQ) (Nat.le_trans (Nat.mul_le_mul_right _ (of_decide_eq_true pQ:(ji4:Int).toNat<=70368744177664)) (by omega)) (Below.refl _ _) (Nat.le_refl _) ?_;intro v199 w7 ho8 hb hg_ hnew_;clear hg_ hnew_;(first|rw [<- Ny198.out] at ho8|(simp only [Int.reduceToNat] at ho8;rw [<- Ny198.out] at ho8));have HO200:=am (Kd.Zq ho8 (Zb pB));replace HB:=bS hb;clear hb ho8))
    go_loopg [5,6,25] k (fun kq v5 v6 v25 w' => ∃ (x5_1:List Int) (x6_1:Int) (x25_1:Int),v6=.int .u32 x6_1/\v25=.int .i64 x25_1/\Aside0 (Zac.l0 kq l0 x5_1 x6_1 l1 (l1.length:Int) x25_1=some r)/\Aside0 (kq<=k)/\Aside0 (Kd.R (Kd.int .u32) 85 w' w.heap.size (fun _=>True) v5 x5_1)/\Aside0 (Below w.heap.size w w'))
    case atStart=>exact ⟨(y198),(0),(0),pR,pR,H',⟨Nat.le_refl _⟩,⟨by refine rp ?_;exact HO200.o⟩,⟨pB⟩⟩
    case round =>
     clear H'
     obtain ⟨x5_1,x6_1,x25_1,rfl,rfl,HA,HK1,HO_5,HB⟩:=hrel
     cases gk with
     | zero=>exact absurd HA.out (by simp [Zac.l0])
     | succ k1 =>
      have H:=HA.out
      clear HA
      simp only [Zac.l0] at H
      by_cases c9:x25_1 < (l1.length:Int)
      ·rw [if_pos c9] at H
       have c9b0:decide (x25_1 < (l1.length:Int))=true:=decide_eq_true c9
       clear c9
       by_cases c10:0<=x25_1
       ·rw [if_pos c10] at H
        have c10b0:decide (0<=x25_1)=true:=decide_eq_true c10
        clear c10
        by_cases c11:x25_1 < (l1.length:Int)
        ·rw [if_pos c11] at H
         have c11b0:decide (x25_1 < (l1.length:Int))=true:=decide_eq_true c11
         clear c11
         by_cases c12:x25_1 < (l0.length:Int)
         ·rw [if_pos c12] at H
          have c12b0:decide (x25_1 < (l0.length:Int))=true:=decide_eq_true c12
          clear c12
          obtain ⟨⟨t203,t204⟩,A13,H⟩:=ob H;(try dsimp only at H)
          by_cases c14:x5_1.length < 35184372088832
          ·rw [if_pos c14] at H
           have LMc14:=am c14
           clear c14
           obtain ⟨y205,hy205⟩:∃ y_:List Int,y_=(x5_1 ++ [t203]):=⟨_,rfl⟩
           replace H:(Zac.l0 k1 l0 y205 t204 l1 (l1.length:Int) (wrap64 (x25_1+1)))=some r:=by have hy_:=hy205;exact pH
           have Ny205:=am hy205
           clear hy205
           have H':=am H
           clear H
           have p201:0<=(x25_1:Int):=of_decide_eq_true pQ
           have q201:x25_1 < (l1.length:Int):=of_decide_eq_true pQ
           obtain ⟨ad201,e201,hx201_0⟩:=Kd.Za4 HR1.o x25_1 p201 q201
           cases e201
           replace hx201_0:=(HB.o.cell (World.block_lt_of_cell? w _ hx201_0)).trans hx201_0
           replace p201:=eq_true p201
           replace q201:=eq_true q201
           have p202:0<=(x25_1:Int):=of_decide_eq_true pQ
           have q202:x25_1 < (l0.length:Int):=of_decide_eq_true pQ
           obtain ⟨ad202,e202,hx202_0⟩:=Kd.Za4 HR0.o x25_1 p202 q202
           cases e202
           replace hx202_0:=(HB.o.cell (World.block_lt_of_cell? w _ hx202_0)).trans hx202_0
           replace p202:=eq_true p202
           replace q202:=eq_true q202
           go_wp2_with (first|(refine gL (some 42) Tryz.func164 #[.int .u32 (rd l1 x25_1),.int .u32 (rd l0 x25_1),.int .u32 x6_1] (h:=?_);(with_reducible refine (Zch.calls (rd l1 x25_1) (rd l0 x25_1) x6_1 t203 t204 _ A13.o).mono ?_);rintro e w' ⟨rfl,⟨nd,rfl⟩⟩;refine ⟨_,rfl,?_⟩)|((with_reducible refine Zan (b:=.append) (xs:=#[.tmp 45,.tmp 47]) rfl ?_);at_builtin;refine Kd.Zbz (Kd.int .u32) (w0:=w) w.heap.size rfl (.tmp 45) (.tmp 47) 134 85 (.int .u32 0) 4 rfl Tryz.underlying134 info85 rfl (by decide) (by omega) u5 x5_1 t203 [.int .u32 t203] (fun _=>True) (fun _=>False) rfl rfl ?aP (fun _ hk=>hk.elim) ?aF ?aO ?aB ?aS ?aL ?_;(case aP=>exact rfl);(case aB=>exact pB);(case aF=>exact (fun _ _=>trivial));(case aO=>exact (Kd.Za HO_5.o pl));(case aS=>exact (Zb pB));(case aL=>have := LMc14.o;omega);intro v206 w15 ho hb hg hat;rw [<- Ny205.out] at ho;have HO207:=am ho;replace HB:=am hb;clear HO_5 ho hb hg hat))
           go_roundg k1
           case measure=>have := HK1.out;omega
           case rel=>exact ⟨(y205),(t204),(wrap64 (x25_1+1)),pR,pR,(by first|exact H'|(have H_:=H'.out;simp only [<- hji4] at H_;exact ⟨H_⟩)|(refine ⟨?_⟩;have H_:=H'.out;simp only [<- hji4] at H_ ⊢;exact H_)),⟨by have := HK1.out;omega⟩,⟨by refine rp ?_;exact HO207.o⟩,⟨pB⟩⟩
          ·rw [if_neg c14] at H
           exact absurd H (by simp)
         ·rw [if_neg c12] at H
          have c12b0:decide (x25_1 < (l0.length:Int))=false:=decide_eq_false c12
          clear c12
          obtain ⟨⟨t208,t209⟩,A16,H⟩:=ob H;(try dsimp only at H)
          by_cases c17:x5_1.length < 35184372088832
          ·rw [if_pos c17] at H
           have LMc17:=am c17
           clear c17
           obtain ⟨y210,hy210⟩:∃ y_:List Int,y_=(x5_1 ++ [t208]):=⟨_,rfl⟩
           replace H:(Zac.l0 k1 l0 y210 t209 l1 (l1.length:Int) (wrap64 (x25_1+1)))=some r:=by have hy_:=hy210;exact pH
           have Ny210:=am hy210
           clear hy210
           have H':=am H
           clear H
           have p201:0<=(x25_1:Int):=of_decide_eq_true pQ
           have q201:x25_1 < (l1.length:Int):=of_decide_eq_true pQ
           obtain ⟨ad201,e201,hx201_0⟩:=Kd.Za4 HR1.o x25_1 p201 q201
           cases e201
           replace hx201_0:=(HB.o.cell (World.block_lt_of_cell? w _ hx201_0)).trans hx201_0
           replace p201:=eq_true p201
           replace q201:=eq_true q201
           go_wp2_with (first|(refine gL (some 42) Tryz.func164 #[.int .u32 (rd l1 x25_1),.int .u32 0,.int .u32 x6_1] (h:=?_);(with_reducible refine (Zch.calls (rd l1 x25_1) 0 x6_1 t208 t209 _ A16.o).mono ?_);rintro e w' ⟨rfl,⟨nd,rfl⟩⟩;refine ⟨_,rfl,?_⟩)|((with_reducible refine Zan (b:=.append) (xs:=#[.tmp 45,.tmp 47]) rfl ?_);at_builtin;refine Kd.Zbz (Kd.int .u32) (w0:=w) w.heap.size rfl (.tmp 45) (.tmp 47) 134 85 (.int .u32 0) 4 rfl Tryz.underlying134 info85 rfl (by decide) (by omega) u5 x5_1 t208 [.int .u32 t208] (fun _=>True) (fun _=>False) rfl rfl ?aP (fun _ hk=>hk.elim) ?aF ?aO ?aB ?aS ?aL ?_;(case aP=>exact rfl);(case aB=>exact pB);(case aF=>exact (fun _ _=>trivial));(case aO=>exact (Kd.Za HO_5.o pl));(case aS=>exact (Zb pB));(case aL=>have := LMc17.o;omega);intro v211 w18 ho hb hg hat;rw [<- Ny210.out] at ho;have HO212:=am ho;replace HB:=am hb;clear HO_5 ho hb hg hat))
           go_roundg k1
           case measure=>have := HK1.out;omega
           case rel=>exact ⟨(y210),(t209),(wrap64 (x25_1+1)),pR,pR,(by first|exact H'|(have H_:=H'.out;simp only [<- hji4] at H_;exact ⟨H_⟩)|(refine ⟨?_⟩;have H_:=H'.out;simp only [<- hji4] at H_ ⊢;exact H_)),⟨by have := HK1.out;omega⟩,⟨by refine rp ?_;exact HO212.o⟩,⟨pB⟩⟩
          ·rw [if_neg c17] at H
           exact absurd H (by simp)
        ·rw [if_neg c11] at H
         exact absurd H (by simp)
       ·rw [if_neg c10] at H
        exact absurd H (by simp)
      ·rw [if_neg c9] at H
       have c9b0:decide (x25_1 < (l1.length:Int))=false:=decide_eq_false c9
       clear c9
       by_cases c19:x5_1.length < 35184372088832
       ·rw [if_pos c19] at H
        have LMc19:=am c19
        clear c19
        obtain ⟨y213,hy213⟩:∃ y_:List Int,y_=(x5_1 ++ [x6_1]):=⟨_,rfl⟩
        replace H:((Zv.f k1 y213).bind fun t216=>(some t216))=some r:=by have hy_:=hy213;exact pH
        have Ny213:=am hy213
        clear hy213
        obtain ⟨t216,A20,H⟩:=ob H
        obtain rfl:=Option.some.inj H
        go_wp2_with (first|((with_reducible refine Zan (b:=.append) (xs:=#[.tmp 51,.tmp 53]) rfl ?_);at_builtin;refine Kd.Zbz (Kd.int .u32) (w0:=w) w.heap.size rfl (.tmp 51) (.tmp 53) 134 85 (.int .u32 0) 4 rfl Tryz.underlying134 info85 rfl (by decide) (by omega) u5 x5_1 x6_1 [.int .u32 x6_1] (fun _=>True) (fun _=>False) rfl rfl ?aP (fun _ hk=>hk.elim) ?aF ?aO ?aB ?aS ?aL ?_;(case aP=>exact rfl);(case aB=>exact pB);(case aF=>exact (fun _ _=>trivial));(case aO=>exact (Kd.Za HO_5.o pl));(case aS=>exact (Zb pB));(case aL=>have := LMc19.o;omega);intro v214 w21 ho hb hg hat;rw [<- Ny213.out] at ho;have HO215:=am ho;replace HB:=am hb;clear HO_5 ho hb hg hat;obtain ⟨Ao22,co22,eo22⟩:=Kd.Zj HO215.o;subst eo22)|(refine gL (some 55) Tryz.func132 #[.slice Ao22 y213.length co22] (h:=?_);(with_reducible refine (Zv.calls k1 (fun k_=>some k_=(.slice Ao22 y213.length co22:Value).ownBlock) (.slice Ao22 y213.length co22) y213 t216 w _ ?side1 ?side2 A20.o).mono ?_);(case side1=>exact pB);(case side2=>exact Kd.Zbl rfl HO215.o);rintro e w23 ⟨v217,rfl,ho0,hb,hkp⟩;refine ⟨_,rfl,?_⟩;have HO218:=am (Kd.Zi (ok':=fun k_=>True) ho0 (fun k_ hk_=>trivial));replace HB:=am hb;clear HO215))
        go_ret
        exact ⟨_,by first|rfl|(simp [Zak,Zal] <;> rfl)|(simp only [<- hji4];first|rfl|(simp [Zak,Zal] <;> rfl))|(simp [*,Zak,Zal] <;> rfl),by refine rp ?_;exact HO218.o,pB⟩
       ·rw [if_neg c19] at H
        exact absurd H (by simp)
   ·rw [if_neg c6] at H
    exact absurd H (by simp)
  ·rw [if_neg c5] at H
   exact absurd H (by simp)
 ·rw [if_neg c3] at H
  have c3b0:decide ((l0.length:Int) < (l1.length:Int))=false:=decide_eq_false c3
  have c3b1:decide (l0.length < l1.length)=false:=decide_eq_false (fun h=>c3 (Int.ofNat_lt.mpr h))
  clear c3
  obtain ⟨ji24,hji24⟩:∃ j_:Int,(wrap64 ((l0.length:Int)+1))=j_:=⟨_,rfl⟩
  replace H:(if 0<=(ji24) then (if (ji24:Int).toNat<=70368744177664 then (Zac.l2 k l1 (List.replicate 0 0) 0 l0 (l0.length:Int) 0) else (none)) else (none))=some r:=by first|(rw [hji24] at H;exact H)|(simp only [hji24] at H ⊢;exact H)
  have hji24w:(IntKind.i64.wrap ((l0.length:Int)+1))=ji24:=(Zcd _).trans hji24
  by_cases c25:0<=(ji24)
  ·rw [if_pos c25] at H
   have c25b0:=eq_true c25
   have c25b1:decide (0<=(ji24))=true:=decide_eq_true c25
   clear c25
   by_cases c26:(ji24:Int).toNat<=70368744177664
   ·rw [if_pos c26] at H
    have c26b0:=eq_true c26
    have c26b1:decide ((ji24:Int).toNat<=70368744177664)=true:=decide_eq_true c26
    clear c26
    obtain ⟨y219,hy219⟩:∃ y_:List Int,y_=(List.replicate 0 0):=⟨_,rfl⟩
    replace H:(Zac.l2 k l1 y219 0 l0 (l0.length:Int) 0)=some r:=by have hy_:=hy219;exact pH
    have Ny219:=am hy219
    clear hy219
    have H':=am H
    clear H
    go_enter Tryz.func131,Tryz.ntmps131
    go_wp2_with (first|((with_reducible refine gd 22 ?_);refine Zhi (Kd.int .u32) _ 85 rfl (N:=22) rfl 134 _ _ rfl ji24 rfl rfl Tryz.underlying134 (.int .u32 0) 4 info85 (by omega) 0 (ok:=fun _=>True) (okp:=fun _=>True) (fun _ hk=>hk) trivial (of_decide_eq_true pQ) (Nat.le_trans (Nat.mul_le_mul_right _ (of_decide_eq_true pQ:(ji24:Int).toNat<=70368744177664)) (by omega)) (Below.refl _ _) (Nat.le_refl _) ?_;intro v220 w27 ho28 hb hg_ hnew_;clear hg_ hnew_;(first|rw [<- Ny219.out] at ho28|(simp only [Int.reduceToNat] at ho28;rw [<- Ny219.out] at ho28));have HO221:=am (Kd.Zq ho28 (Zb pB));replace HB:=bS hb;clear hb ho28))
    go_loopg [5,6,25] k (fun kq v5 v6 v25 w' => ∃ (x5_1:List Int) (x6_1:Int) (x25_1:Int),v6=.int .u32 x6_1/\v25=.int .i64 x25_1/\Aside0 (Zac.l2 kq l1 x5_1 x6_1 l0 (l0.length:Int) x25_1=some r)/\Aside0 (kq<=k)/\Aside0 (Kd.R (Kd.int .u32) 85 w' w.heap.size (fun _=>True) v5 x5_1)/\Aside0 (Below w.heap.size w w'))
    case atStart=>exact ⟨(y219),(0),(0),pR,pR,H',⟨Nat.le_refl _⟩,⟨by refine rp ?_;exact HO221.o⟩,⟨pB⟩⟩
    case round =>
     clear H'
     obtain ⟨x5_1,x6_1,x25_1,rfl,rfl,HA,HK1,HO_5,HB⟩:=hrel
     cases gk with
     | zero=>exact absurd HA.out (by simp [Zac.l2])
     | succ k1 =>
      have H:=HA.out
      clear HA
      simp only [Zac.l2] at H
      by_cases c29:x25_1 < (l0.length:Int)
      ·rw [if_pos c29] at H
       have c29b0:decide (x25_1 < (l0.length:Int))=true:=decide_eq_true c29
       clear c29
       by_cases c30:0<=x25_1
       ·rw [if_pos c30] at H
        have c30b0:decide (0<=x25_1)=true:=decide_eq_true c30
        clear c30
        by_cases c31:x25_1 < (l0.length:Int)
        ·rw [if_pos c31] at H
         have c31b0:decide (x25_1 < (l0.length:Int))=true:=decide_eq_true c31
         clear c31
         by_cases c32:x25_1 < (l1.length:Int)
         ·rw [if_pos c32] at H
          have c32b0:decide (x25_1 < (l1.length:Int))=true:=decide_eq_true c32
          clear c32
          obtain ⟨⟨t224,t225⟩,A33,H⟩:=ob H;(try dsimp only at H)
          by_cases c34:x5_1.length < 35184372088832
          ·rw [if_pos c34] at H
           have LMc34:=am c34
           clear c34
           obtain ⟨y226,hy226⟩:∃ y_:List Int,y_=(x5_1 ++ [t224]):=⟨_,rfl⟩
           replace H:(Zac.l2 k1 l1 y226 t225 l0 (l0.length:Int) (wrap64 (x25_1+1)))=some r:=by have hy_:=hy226;exact pH
           have Ny226:=am hy226
           clear hy226
           have H':=am H
           clear H
           have p222:0<=(x25_1:Int):=of_decide_eq_true pQ
           have q222:x25_1 < (l0.length:Int):=of_decide_eq_true pQ
           obtain ⟨ad222,e222,hx222_0⟩:=Kd.Za4 HR0.o x25_1 p222 q222
           cases e222
           replace hx222_0:=(HB.o.cell (World.block_lt_of_cell? w _ hx222_0)).trans hx222_0
           replace p222:=eq_true p222
           replace q222:=eq_true q222
           have p223:0<=(x25_1:Int):=of_decide_eq_true pQ
           have q223:x25_1 < (l1.length:Int):=of_decide_eq_true pQ
           obtain ⟨ad223,e223,hx223_0⟩:=Kd.Za4 HR1.o x25_1 p223 q223
           cases e223
           replace hx223_0:=(HB.o.cell (World.block_lt_of_cell? w _ hx223_0)).trans hx223_0
           replace p223:=eq_true p223
           replace q223:=eq_true q223
           go_wp2_with (first|(refine gL (some 42) Tryz.func164 #[.int .u32 (rd l0 x25_1),.int .u32 (rd l1 x25_1),.int .u32 x6_1] (h:=?_);(with_reducible refine (Zch.calls (rd l0 x25_1) (rd l1 x25_1) x6_1 t224 t225 _ A33.o).mono ?_);rintro e w' ⟨rfl,⟨nd,rfl⟩⟩;refine ⟨_,rfl,?_⟩)|((with_reducible refine Zan (b:=.append) (xs:=#[.tmp 45,.tmp 47]) rfl ?_);at_builtin;refine Kd.Zbz (Kd.int .u32) (w0:=w) w.heap.size rfl (.tmp 45) (.tmp 47) 134 85 (.int .u32 0) 4 rfl Tryz.underlying134 info85 rfl (by decide) (by omega) u5 x5_1 t224 [.int .u32 t224] (fun _=>True) (fun _=>False) rfl rfl ?aP (fun _ hk=>hk.elim) ?aF ?aO ?aB ?aS ?aL ?_;(case aP=>exact rfl);(case aB=>exact pB);(case aF=>exact (fun _ _=>trivial));(case aO=>exact (Kd.Za HO_5.o pl));(case aS=>exact (Zb pB));(case aL=>have := LMc34.o;omega);intro v227 w35 ho hb hg hat;rw [<- Ny226.out] at ho;have HO228:=am ho;replace HB:=am hb;clear HO_5 ho hb hg hat))
           go_roundg k1
           case measure=>have := HK1.out;omega
           case rel=>exact ⟨(y226),(t225),(wrap64 (x25_1+1)),pR,pR,(by first|exact H'|(have H_:=H'.out;simp only [<- hji24] at H_;exact ⟨H_⟩)|(refine ⟨?_⟩;have H_:=H'.out;simp only [<- hji24] at H_ ⊢;exact H_)),⟨by have := HK1.out;omega⟩,⟨by refine rp ?_;exact HO228.o⟩,⟨pB⟩⟩
          ·rw [if_neg c34] at H
           exact absurd H (by simp)
         ·rw [if_neg c32] at H
          have c32b0:decide (x25_1 < (l1.length:Int))=false:=decide_eq_false c32
          clear c32
          obtain ⟨⟨t229,t230⟩,A36,H⟩:=ob H;(try dsimp only at H)
          by_cases c37:x5_1.length < 35184372088832
          ·rw [if_pos c37] at H
           have LMc37:=am c37
           clear c37
           obtain ⟨y231,hy231⟩:∃ y_:List Int,y_=(x5_1 ++ [t229]):=⟨_,rfl⟩
           replace H:(Zac.l2 k1 l1 y231 t230 l0 (l0.length:Int) (wrap64 (x25_1+1)))=some r:=by have hy_:=hy231;exact pH
           have Ny231:=am hy231
           clear hy231
           have H':=am H
           clear H
           have p222:0<=(x25_1:Int):=of_decide_eq_true pQ
           have q222:x25_1 < (l0.length:Int):=of_decide_eq_true pQ
           obtain ⟨ad222,e222,hx222_0⟩:=Kd.Za4 HR0.o x25_1 p222 q222
           cases e222
           replace hx222_0:=(HB.o.cell (World.block_lt_of_cell? w _ hx222_0)).trans hx222_0
           replace p222:=eq_true p222
           replace q222:=eq_true q222
           go_wp2_with (first|(refine gL (some 42) Tryz.func164 #[.int .u32 (rd l0 x25_1),.int .u32 0,.int .u32 x6_1] (h:=?_);(with_reducible refine (Zch.calls (rd l0 x25_1) 0 x6_1 t229 t230 _ A36.o).mono ?_);rintro e w' ⟨rfl,⟨nd,rfl⟩⟩;refine ⟨_,rfl,?_⟩)|((with_reducible refine Zan (b:=.append) (xs:=#[.tmp 45,.tmp 47]) rfl ?_);at_builtin;refine Kd.Zbz (Kd.int .u32) (w0:=w) w.heap.size rfl (.tmp 45) (.tmp 47) 134 85 (.int .u32 0) 4 rfl Tryz.underlying134 info85 rfl (by decide) (by omega) u5 x5_1 t229 [.int .u32 t229] (fun _=>True) (fun _=>False) rfl rfl ?aP (fun _ hk=>hk.elim) ?aF ?aO ?aB ?aS ?aL ?_;(case aP=>exact rfl);(case aB=>exact pB);(case aF=>exact (fun _ _=>trivial));(case aO=>exact (Kd.Za HO_5.o pl));(case aS=>exact (Zb pB));(case aL=>have := LMc37.o;omega);intro v232 w38 ho hb hg hat;rw [<- Ny231.out] at ho;have HO233:=am ho;replace HB:=am hb;clear HO_5 ho hb hg hat))
           go_roundg k1
           case measure=>have := HK1.out;omega
           case rel=>exact ⟨(y231),(t230),(wrap64 (x25_1+1)),pR,pR,(by first|exact H'|(have H_:=H'.out;simp only [<- hji24] at H_;exact ⟨H_⟩)|(refine ⟨?_⟩;have H_:=H'.out;simp only [<- hji24] at H_ ⊢;exact H_)),⟨by have := HK1.out;omega⟩,⟨by refine rp ?_;exact HO233.o⟩,⟨pB⟩⟩
          ·rw [if_neg c37] at H
           exact absurd H (by simp)
        ·rw [if_neg c31] at H
         exact absurd H (by simp)
       ·rw [if_neg c30] at H
        exact absurd H (by simp)
      ·rw [if_neg c29] at H
       have c29b0:decide (x25_1 < (l0.length:Int))=false:=decide_eq_false c29
       clear c29
       by_cases c39:x5_1.length < 35184372088832
       ·rw [if_pos c39] at H
        have LMc39:=am c39
        clear c39
        obtain ⟨y234,hy234⟩:∃ y_:List Int,y_=(x5_1 ++ [x6_1]):=⟨_,rfl⟩
        replace H:((Zv.f k1 y234).bind fun t237=>(some t237))=some r:=by have hy_:=hy234;exact pH
        have Ny234:=am hy234
        clear hy234
        obtain ⟨t237,A40,H⟩:=ob H
        obtain rfl:=Option.some.inj H
        go_wp2_with (first|((with_reducible refine Zan (b:=.append) (xs:=#[.tmp 51,.tmp 53]) rfl ?_);at_builtin;refine Kd.Zbz (Kd.int .u32) (w0:=w) w.heap.size rfl (.tmp 51) (.tmp 53) 134 85 (.int .u32 0) 4 rfl Tryz.underlying134 info85 rfl (by decide) (by omega) u5 x5_1 x6_1 [.int .u32 x6_1] (fun _=>True) (fun _=>False) rfl rfl ?aP (fun _ hk=>hk.elim) ?aF ?aO ?aB ?aS ?aL ?_;(case aP=>exact rfl);(case aB=>exact pB);(case aF=>exact (fun _ _=>trivial));(case aO=>exact (Kd.Za HO_5.o pl));(case aS=>exact (Zb pB));(case aL=>have := LMc39.o;omega);intro v235 w41 ho hb hg hat;rw [<- Ny234.out] at ho;have HO236:=am ho;replace HB:=am hb;clear HO_5 ho hb hg hat;obtain ⟨Ao42,co42,eo42⟩:=Kd.Zj HO236.o;subst eo42)|(refine gL (some 55) Tryz.func132 #[.slice Ao42 y234.length co42] (h:=?_);(with_reducible refine (Zv.calls k1 (fun k_=>some k_=(.slice Ao42 y234.length co42:Value).ownBlock) (.slice Ao42 y234.length co42) y234 t237 w _ ?side1 ?side2 A40.o).mono ?_);(case side1=>exact pB);(case side2=>exact Kd.Zbl rfl HO236.o);rintro e w43 ⟨v238,rfl,ho0,hb,hkp⟩;refine ⟨_,rfl,?_⟩;have HO239:=am (Kd.Zi (ok':=fun k_=>True) ho0 (fun k_ hk_=>trivial));replace HB:=am hb;clear HO236))
        go_ret
        exact ⟨_,by first|rfl|(simp [Zak,Zal] <;> rfl)|(simp only [<- hji24];first|rfl|(simp [Zak,Zal] <;> rfl))|(simp [*,Zak,Zal] <;> rfl),by refine rp ?_;exact HO239.o,pB⟩
       ·rw [if_neg c39] at H
        exact absurd H (by simp)
   ·rw [if_neg c26] at H
    exact absurd H (by simp)
  ·rw [if_neg c25] at H
   exact absurd H (by simp)
end YtjbjkmccfocikaaGreatDoor.B
end
section
namespace YtjbjkmccfocikaaGreatDoor.P
open Go.RowKit YtjbjkmccfocikaaGreatDoor.B YtjbjkmccfocikaaGreatDoorW.PrintWords YtjbjkmccfocikaaGreatDoorW.PrintLast YtjbjkmccfocikaaGreatDoorW.PrintMore YtjbjkmccfocikaaGreatDoor.P.Nm
theorem Zev (n:Nat):(limbs n).length<=nd n:=by
 refine Zgw (b:=4294967296) (by omega) ?_
 rw [Zff]
 have h1:=Zhu n
 have h2:10 ^ nd n<=4294967296 ^ nd n:=Nat.pow_le_pow_left (by decide) _
 exact_mod_cast (Nat.lt_of_lt_of_le h1 h2)
theorem Zj0 {n:Nat} (h:limbs n=[]):n=0:=Zk2 (b:=4294967296) (by omega) h
theorem Zdt {n:Nat} (h:n ≠ 0):limbs n ≠ []:=fun e=>h (Zj0 e)
theorem Zfc {n k:Nat} (h:n < 4294967296 ^ k):(limbs n).length<=k :=
 Zgw (b:=4294967296) (by omega) (by rw [Zff];exact_mod_cast h)
theorem Zl5 (n:Nat):n < 4294967296 ^ (limbs n).length:=Zgx (b:=4294967296) (by omega) n
theorem pwL (k:Nat):pw 4294967296 k=((4294967296 ^ k:Nat):Int):=Zff 4294967296 k
theorem Zfd {n:Nat} (h:nd n<=1000000):okW (limbs n)=true:=Zd9.2 ⟨Nat.le_trans (Zev n) h,Zc3 n,Zi5 n⟩
theorem dgL {l:List Int} (h:Dg 4294967296 l) (i:Nat):∃ x:Nat,l.getD i 0=(x:Int)/\x < 4294967296:=by
 have := Zi1 (by omega) h i
 exact ⟨(l.getD i 0).toNat,by omega,by omega⟩
theorem u64n {m:Nat} (h:m < 18446744073709551616):IntKind.u64.wrap (m:Int)=(m:Int):=by simp [IntKind.wrap,IntKind.bits,IntKind.signed];omega
theorem u64p {a b:Nat} (h:a+b < 18446744073709551616):IntKind.u64.wrap ((a:Int)+(b:Int))=((a+b:Nat):Int):=by rw [<- Int.natCast_add,u64n h]
theorem u64k {a b c:Nat} (hc:a*b=c) (h:c < 18446744073709551616):IntKind.u64.wrap ((a:Int)*(b:Int))=(c:Int):=by rw [<- Int.natCast_mul,hc,u64n h]
theorem ediv32 (m:Nat):(m:Int) / 4294967296=((m / 4294967296:Nat):Int):=by omega
theorem emod32 (m:Nat):(m:Int) % 4294967296=((m % 4294967296:Nat):Int):=by omega
theorem Zh2:∀ (n:Nat) (l:List Int),l.length=n->n<=4611686018427387904->Tells (fun k=>Zv.l0 k l) (trimL l)
 | 0,l,hn,_=>by
  obtain rfl:=List.eq_nil_of_length_eq_zero hn
  refine Tells.succ ?_
  exact Tells.pure _
 | n+1,l,hn,hb=>by
  obtain ⟨l',x,rfl⟩:=Ze7 (l:=l) (by intro e;subst e;simp at hn)
  have hl':l'.length=n:=by simpa using hn
  have ih:=Zh2 n l' hl' (by omega)
  have hlen:((l' ++ [x]).length:Int) - 1=(l'.length:Int):=by rw [hn,hl'];omega
  have c1:((l' ++ [x]).length:Int) > 0:=by rw [hn];omega
  have c2:(0:Int)<=(l'.length:Int):=by omega
  have c3:(l'.length:Int) < ((l' ++ [x]).length:Int):=by rw [hn];omega
  have hrd:(l' ++ [x]).getD l'.length 0=x:=by rw [List.getD,List.getElem?_append_right (Nat.le_refl _),Nat.sub_self];rfl
  refine Tells.succ ?_
  simp only [Zv.l0]
  rw [hlen,w64c (by omega),rd_n,hrd,Int.toNat_natCast,List.take_left]
  refine Tells.ifp c1 (Tells.ifp c2 (Tells.ifp c3 ?_))
  by_cases hx:x=0
  ·refine Tells.ifp hx (Tells.ifp (Int.le_of_lt c3) ?_)
   rw [hx,Zee];exact ih
  ·refine Tells.ifn hx (Tells.ifn (by omega) ?_)
   rw [Ze0 _ hx];exact Tells.pure _
theorem Zna (l:List Int) (h:l.length<=4611686018427387904):Tells (fun k=>Zv.f k l) (trimL l):=Zh2 _ l rfl h
theorem Zdi {l:List Int} {n:Nat} (hd:Dg 4294967296 l) (hv:val 4294967296 l=n) (h:l.length<=4611686018427387904):Tells (fun k=>Zv.f k l) (limbs n):=(Zna l h).val (Zik hd hv)
theorem Add32 (x y c:Nat) (hx:x < 4294967296) (hy:y < 4294967296) (hc:c<=1):Zch.f (x:Int) (y:Int) (c:Int)=some ((((x+y+c) % 4294967296:Nat):Int),(((x+y+c) / 4294967296:Nat):Int)):=by
 unfold Zch.f
 rw [u64n (by omega),u64n (by omega),u64n (m:=c) (by omega),u64p (by omega),u64p (by omega)]
 congr 2
 omega
structure AddAt (a b:List Int) (i c:Nat) (o:List Int):Prop where
 len:o.length=i
 dg:Dg 4294967296 o
 c1:c<=1
 law:val 4294967296 o+pw 4294967296 i*c=val 4294967296 (a.take i)+val 4294967296 (b.take i)
theorem AddAt.start (a b:List Int):AddAt a b 0 0 []:=⟨rfl,Dg.nil _,by omega,by simp [val]⟩
theorem AddAt.step {a b:List Int} {i c:Nat} {o:List Int} (h:AddAt a b i c o) {x y:Nat} (hx:a.getD i 0=x) (hy:b.getD i 0=y) (hx1:x < 4294967296) (hy1:y < 4294967296) :
  AddAt a b (i+1) ((x+y+c) / 4294967296) (o ++ [(((x+y+c) % 4294967296:Nat):Int)]):=by
 have hc:=h.c1
 refine ⟨by simp [h.len],h.dg.app (Dg.one (by omega) (by omega)),by omega,?_⟩
 rw [Zb2,Zb2,Zde,h.len,Zd1,hx,hy]
 have hl:=h.law
 generalize pw 4294967296 i=M at *
 have e:M*(((x+y+c) % 4294967296:Nat):Int)+4294967296*M*(((x+y+c) / 4294967296:Nat):Int)=M*x+M*y+M*c:=by
  rw [Int.mul_comm 4294967296 M,Int.mul_assoc,<- Int.mul_add,<- Int.mul_add,<- Int.mul_add]
  congr 1;omega
 omega
theorem AddAt.done {a b:List Int} {c:Nat} {o:List Int} (h:AddAt a b a.length c o) (ha:Dg 4294967296 a) (hb:Dg 4294967296 b) (hl:b.length<=a.length) (hz:a.length<=1000000):Tells (fun k=>Zv.f k (o ++ [(c:Int)])) (limbs (num a+num b)):=by
 have hc:=h.c1
 have hlen:=h.len
 refine Zdi (h.dg.app (Dg.one (by omega) (by omega))) ?_ (by simp;omega)
 have hlaw:=h.law
 rw [List.take_length,List.take_of_length_le hl] at hlaw
 rw [Zde,h.len,hlaw,<- Zc9 ha,<- Zc9 hb]
 omega
theorem Zq0 {a b:List Int} (ha:Dg 4294967296 a) (hb:Dg 4294967296 b) (la:a.length<=1000000) (lb:b.length<=a.length):∀ (d i c:Nat) (o:List Int),a.length - i=d->i<=a.length->AddAt a b i c o ->
  Tells (fun k=>Zac.l0 k b o (c:Int) a (a.length:Int) (i:Int)) (limbs (num a+num b))
 | 0,i,c,o,hd,hi,h=>by
  obtain rfl:i=a.length:=by omega
  have hlen:=h.len
  have c3:o.length < 35184372088832:=by omega
  refine Tells.succ ?_
  simp only [Zac.l0]
  exact Tells.ifn (Int.lt_irrefl _) (Tells.ifp c3 ((h.done ha hb lb la).bind (Tells.pure _)))
 | d+1,i,c,o,hd,hi,h=>by
  obtain ⟨x,hx,hx1⟩:=dgL ha i
  obtain ⟨y,hy,hy1⟩:=dgL hb i
  have ih:=Zq0 ha hb la lb d (i+1) _ _ (by omega) (by omega) (h.step hx hy hx1 hy1)
  have hlen:=h.len
  have c1:(i:Int) < (a.length:Int):=by omega
  have c2:(0:Int)<=(i:Int):=by omega
  have c3:o.length < 35184372088832:=by omega
  refine Tells.succ ?_
  simp only [Zac.l0]
  rw [rd_n,rd_n,hx,hy,w64s (by omega),Add32 x y c hx1 hy1 h.c1]
  refine Tells.ifp c1 (Tells.ifp c2 (Tells.ifp c1 ?_))
  by_cases hb2:i < b.length
  ·exact Tells.ifp (by omega) ((Tells.pure _).bind (Tells.ifp c3 ih))
  ·have e3:y=0:=by have := Ze2 (l:=b) (i:=i) (by omega);omega
   rw [e3] at ih
   have e4:=Add32 x 0 c hx1 (by omega) h.c1
   refine Tells.ifn (by omega) ?_
   rw [show (0:Int)=((0:Nat):Int) from rfl,e4]
   exact (Tells.pure _).bind (Tells.ifp c3 ih)
theorem Zq1 {a b:List Int} (ha:Dg 4294967296 a) (hb:Dg 4294967296 b) (la:a.length<=1000000) (lb:b.length<=a.length):∀ (d i c:Nat) (o:List Int),a.length - i=d->i<=a.length->AddAt a b i c o ->
  Tells (fun k=>Zac.l2 k b o (c:Int) a (a.length:Int) (i:Int)) (limbs (num a+num b))
 | 0,i,c,o,hd,hi,h=>by
  obtain rfl:i=a.length:=by omega
  have hlen:=h.len
  have c3:o.length < 35184372088832:=by omega
  refine Tells.succ ?_
  simp only [Zac.l2]
  exact Tells.ifn (Int.lt_irrefl _) (Tells.ifp c3 ((h.done ha hb lb la).bind (Tells.pure _)))
 | d+1,i,c,o,hd,hi,h=>by
  obtain ⟨x,hx,hx1⟩:=dgL ha i
  obtain ⟨y,hy,hy1⟩:=dgL hb i
  have ih:=Zq1 ha hb la lb d (i+1) _ _ (by omega) (by omega) (h.step hx hy hx1 hy1)
  have hlen:=h.len
  have c1:(i:Int) < (a.length:Int):=by omega
  have c2:(0:Int)<=(i:Int):=by omega
  have c3:o.length < 35184372088832:=by omega
  refine Tells.succ ?_
  simp only [Zac.l2]
  rw [rd_n,rd_n,hx,hy,w64s (by omega),Add32 x y c hx1 hy1 h.c1]
  refine Tells.ifp c1 (Tells.ifp c2 (Tells.ifp c1 ?_))
  by_cases hb2:i < b.length
  ·exact Tells.ifp (by omega) ((Tells.pure _).bind (Tells.ifp c3 ih))
  ·have e3:y=0:=by have := Ze2 (l:=b) (i:=i) (by omega);omega
   rw [e3] at ih
   have e4:=Add32 x 0 c hx1 (by omega) h.c1
   refine Tells.ifn (by omega) ?_
   rw [show (0:Int)=((0:Nat):Int) from rfl,e4]
   exact (Tells.pure _).bind (Tells.ifp c3 ih)
theorem Znz {a b:List Int} (ha:Dg 4294967296 a) (hb:Dg 4294967296 b) (la:a.length<=1000000) (lb:b.length<=1000000):Tells (fun k=>Zac.f k a b) (limbs (num a+num b)):=by
 unfold Zac.f
 by_cases h:a.length < b.length
 ·have h1:=Zq0 hb ha lb (by omega) b.length 0 0 [] (by omega) (by omega) (AddAt.start b a)
  rw [Nat.add_comm] at h1
  refine Tells.ifp (by omega) ?_
  rw [w64s (by omega)]
  exact Tells.ifp (by omega) (Tells.ifp (by omega) h1)
 ·have h1:=Zq1 ha hb la (by omega) a.length 0 0 [] (by omega) (by omega) (AddAt.start a b)
  refine Tells.ifn (by omega) ?_
  rw [w64s (by omega)]
  exact Tells.ifp (by omega) (Tells.ifp (by omega) h1)
theorem Zm3 {a b:List Int} (ha:Dg 4294967296 a) (hb:Dg 4294967296 b) (hn:Nz b) (h:num b<=num a):b.length<=a.length:=by
 refine Nat.not_lt.1 (fun hlt=>?_)
 have := Zef (b:=4294967296) (by omega) ha hb hn hlt
 rw [<- Zc9 ha,<- Zc9 hb] at this
 omega
structure MulAt (a b:List Int) (i k c:Nat) (ds:List Int):Prop where
 len:ds.length=a.length+b.length
 dg:Dg 4294967296 ds
 c1:c < 4294967296
 hi:∀ j,i+b.length<=j->ds.getD j 0=0
 law:val 4294967296 ds+pw 4294967296 (i+k)*c=val 4294967296 (a.take i)*val 4294967296 b+pw 4294967296 i*(a.getD i 0*val 4294967296 (b.take k))
theorem MulAt.start (a b:List Int):MulAt a b 0 0 0 (List.replicate (a.length+b.length) 0) :=
 ⟨by simp,Dg.zeros (by omega) _,by omega,fun j _=>by simp [List.getD,List.getElem?_replicate];split <;> rfl,by simp [val,Zfi]⟩
theorem Zg3 {b:Int} {l:List Int} (h:Dg b l) (j:Nat) {x:Int} (h0:0<=x) (h1:x < b):Dg b (l.set j x):=fun y hy=>by
 rcases List.mem_or_eq_of_mem_set hy with hy|rfl
 ·exact h y hy
 ·exact ⟨h0,h1⟩
theorem Zo3 {x y u c:Nat} (hx:x < 4294967296) (hy:y < 4294967296) (hu:u < 4294967296) (hc:c < 4294967296):x*y+u+c < 18446744073709551616:=by
 have := Nat.mul_le_mul (show x<=4294967295 by omega) (show y<=4294967295 by omega)
 omega
theorem MulAt.step {a b ds:List Int} {i k c:Nat} (h:MulAt a b i k c ds) {x y u:Nat} (hx:a.getD i 0=x) (hy:b.getD k 0=y) (hu:ds.getD (i+k) 0=u) (hx1:x < 4294967296) (hy1:y < 4294967296) (hu1:u < 4294967296) (hi:i < a.length) (hk:k < b.length) :
  MulAt a b i (k+1) ((x*y+u+c) / 4294967296) (ds.set (i+k) (((x*y+u+c) % 4294967296:Nat):Int)):=by
 have hs:=Zo3 hx1 hy1 hu1 h.c1
 have hlt:i+k < ds.length:=by rw [h.len];omega
 refine ⟨by rw [List.length_set];exact h.len,Zg3 h.dg _ (by omega) (by omega),by omega,fun j hj=>?_,?_⟩
 ·rw [getD_set_ne _ (by omega)];exact h.hi j hj
 ·rw [Zei _ hlt,Zb2,<- Nat.add_assoc,Zd1,hu,hy]
  have hl:=h.law
  rw [Int.mul_add (a.getD i 0),Int.mul_add (pw 4294967296 i),<- Int.add_assoc,<- hl,Zfx,hx]
  have e1:pw 4294967296 i*((x:Int)*(pw 4294967296 k*(y:Int)))=pw 4294967296 i*pw 4294967296 k*((x:Int)*y):=by
   rw [Int.mul_left_comm (x:Int),Int.mul_assoc]
  rw [e1]
  generalize pw 4294967296 i*pw 4294967296 k=M
  obtain ⟨p,hp⟩:∃ p,x*y=p:=⟨_,rfl⟩
  have hp':(x:Int)*(y:Int)=(p:Int):=by rw [<- hp];exact (Int.natCast_mul x y).symm
  rw [hp,hp']
  have e2:M*((((p+u+c) % 4294967296:Nat):Int) - u)+4294967296*M*(((p+u+c) / 4294967296:Nat):Int)=M*c+M*p:=by
   rw [Int.mul_comm 4294967296 M,Int.mul_assoc,<- Int.mul_add,<- Int.mul_add]
   congr 1;omega
  omega
theorem MulAt.next {a b ds:List Int} {i c:Nat} (h:MulAt a b i b.length c ds) (hi:i < a.length):MulAt a b (i+1) 0 0 (ds.set (i+b.length) (c:Int)):=by
 have hc:=h.c1
 have hlt:i+b.length < ds.length:=by rw [h.len];omega
 refine ⟨by rw [List.length_set];exact h.len,Zg3 h.dg _ (by omega) (by omega),by omega,fun j hj=>?_,?_⟩
 ·rw [getD_set_ne _ (by omega)];exact h.hi j (by omega)
 ·have hl:=h.law
  rw [List.take_length] at hl
  rw [Zei _ hlt,h.hi _ (Nat.le_refl _),Zb2,Int.add_mul,Int.mul_assoc]
  have e0:((0:Nat):Int)=0:=rfl
  simp only [e0,Int.sub_zero,List.take_zero,Zes,Int.mul_zero,Int.add_zero]
  exact hl
theorem Zq7 {a b:List Int} {i:Nat} {V:List Int} (ha:Dg 4294967296 a) (hb:Dg 4294967296 b) (la:a.length<=1000000) (lb:b.length<=1000000) (hi:i < a.length)
  (hcont:∀ ds,MulAt a b (i+1) 0 0 ds->Tells (fun k=>Zae.l0 k b ds a (a.length:Int) ((i+1:Nat):Int)) V) :
  ∀ (e kk c:Nat) (ds:List Int),b.length - kk=e->kk<=b.length->MulAt a b i kk c ds->Tells (fun kf=>Zae.l1 kf b ds (i:Int) (a.getD i 0) (c:Int) a (a.length:Int) (i:Int) b (b.length:Int) (kk:Int)) V
 | 0,kk,c,ds,he,hkk,h=>by
  obtain rfl:kk=b.length:=by omega
  have hc:=h.c1
  have hlen:=h.len
  have c1:((i+b.length:Nat):Int) < (ds.length:Int):=by omega
  have c0:(0:Int)<=((i+b.length:Nat):Int):=by omega
  have e3:(c:Int) % 4294967296=(c:Int):=by omega
  refine Tells.succ ?_
  simp only [Zae.l1]
  rw [w64p (by omega),w64s (i:=i) (by omega),e3,Int.toNat_natCast]
  exact Tells.ifn (Int.lt_irrefl _) (Tells.ifp c0 (Tells.ifp c1 (hcont _ (h.next hi))))
 | e+1,kk,c,ds,he,hkk,h=>by
  have hkl:kk < b.length:=by omega
  obtain ⟨x,hx,hx1⟩:=dgL ha i
  obtain ⟨y,hy,hy1⟩:=dgL hb kk
  obtain ⟨u,hu,hu1⟩:=dgL h.dg (i+kk)
  have hs:=Zo3 hx1 hy1 hu1 h.c1
  have hc:=h.c1
  have hlen:=h.len
  have ih:=Zq7 ha hb la lb hi hcont e (kk+1) _ _ (by omega) (by omega) (h.step hx hy hu hx1 hy1 hu1 hi hkl)
  rw [hx] at ih ⊢
  obtain ⟨p,hp⟩:∃ p,x*y=p:=⟨_,rfl⟩
  rw [hp] at hs ih
  have c0:(kk:Int) < (b.length:Int):=by omega
  have c1:(0:Int)<=(kk:Int):=by omega
  have c2:(0:Int)<=((i+kk:Nat):Int):=by omega
  have c3:((i+kk:Nat):Int) < (ds.length:Int):=by omega
  refine Tells.succ ?_
  simp only [Zae.l1]
  rw [w64p (by omega),w64s (by omega),Int.toNat_natCast,rd_n,rd_n,hy,hu,u64n (m:=x) (by omega),u64n (m:=y) (by omega),u64n (m:=u) (by omega),u64k hp (by omega),u64p (by omega),u64p (by omega),emod32,ediv32]
  exact Tells.ifp c0 (Tells.ifp c1 (Tells.ifp c0 (Tells.ifp c2 (Tells.ifp c3 ih))))
theorem Zq6 {a b:List Int} (ha:Dg 4294967296 a) (hb:Dg 4294967296 b) (la:a.length<=1000000) (lb:b.length<=1000000) :
  ∀ (d i:Nat) (ds:List Int),a.length - i=d->i<=a.length->MulAt a b i 0 0 ds->Tells (fun k=>Zae.l0 k b ds a (a.length:Int) (i:Int)) (limbs (num a*num b))
 | 0,i,ds,hd,hi,h=>by
  obtain rfl:i=a.length:=by omega
  have hlen:=h.len
  have hl:=h.law
  rw [List.take_length] at hl
  simp only [List.take_zero,Zes,Int.mul_zero,Int.add_zero] at hl
  have hT:=Zdi (n:=num a*num b) h.dg (by
   rw [Int.natCast_mul,Zc9 ha,Zc9 hb,<- hl];simp) (by omega)
  refine Tells.succ ?_
  simp only [Zae.l0]
  exact Tells.ifn (Int.lt_irrefl _) (hT.bind (Tells.pure _))
 | d+1,i,ds,hd,hi,h=>by
  have hil:i < a.length:=by omega
  have c0:(i:Int) < (a.length:Int):=by omega
  have c1:(0:Int)<=(i:Int):=by omega
  have hh:=Zq7 ha hb la lb hil (fun ds' h2=>Zq6 ha hb la lb d (i+1) ds' (by omega) (by omega) h2) b.length 0 0 ds (by omega) (by omega) h
  refine Tells.succ ?_
  simp only [Zae.l0]
  rw [rd_n]
  exact Tells.ifp c0 (Tells.ifp c1 (Tells.ifp c0 hh))
theorem Zok {a b:List Int} (ha:Dg 4294967296 a) (hb:Dg 4294967296 b) (la:a.length<=1000000) (lb:b.length<=1000000):Tells (fun k=>Zae.f k a b) (limbs (num a*num b)):=by
 have h:=Zq6 ha hb la lb a.length 0 _ (by omega) (by omega) (MulAt.start a b)
 unfold Zae.f
 rw [w64p (by omega),Int.toNat_natCast]
 exact Tells.ifp (by omega) (Tells.ifp (by omega) h)
end YtjbjkmccfocikaaGreatDoor.P
end
section
namespace YtjbjkmccfocikaaGreatDoor.B
open Go.RowKit YtjbjkmccfocikaaGreatDoorW.PrintWords YtjbjkmccfocikaaGreatDoorW.PrintLast YtjbjkmccfocikaaGreatDoorW.PrintMore
attribute [local go_sem] Zb5 Zb7 Zcs Zct Zbn Zbo Zb6 Zb8
def Za5.l0:Nat->Int->List Int->Int->List Int->Int->Int->Option (List Int)
 | 0,_,_,_,_,_,_=>none
 | k+1,x1,x5,x6,x13,x14,x15=>if x15 < x14 then (if 0<=x15 then (if x15 < (x13.length:Int) then (if 0<=x1 then (if x5.length < 35184372088832 then (if 0<=(wrap64 (32 - x1)) then (Za5.l0 k x1 (x5 ++ [Go.bits .or .u32 (shl .u32 (rd x13 x15) x1) x6]) ((shr .u64 (IntKind.u64.wrap (rd x13 x15)) (wrap64 (32 - x1))) % 4294967296) x13 x14 (wrap64 (x15+1))) else (none)) else (none)) else (none)) else (none)) else (none)) else (if x5.length < 35184372088832 then (some (x5 ++ [x6])) else (none))
def Za5.f (k:Nat) (l0:List Int) (a1:Int):Option (List Int):=if 0<=(wrap64 ((l0.length:Int)+1)) then (if (wrap64 ((l0.length:Int)+1):Int).toNat<=70368744177664 then (Za5.l0 k a1 (List.replicate 0 0) 0 l0 (l0.length:Int) 0) else (none)) else (none)
theorem Za5.calls (k:Nat) (A0:Option Addr) (c0:Nat) (l0:List Int) (a1:Int) (r:List Int) (w:World) (hr0:Kd.C (Kd.int .u32) w A0 l0.length l0) (hc0:l0.length<=c0) (h:Za5.f k l0 a1=some r) :
  Calls Tryz.prog 157 #[.slice A0 l0.length c0,.int .i64 a1] w fun e w' => ∃ v0_:Value,e=.returned (v0_)/\Kd.R (Kd.int .u32) 85 w' w.heap.size (fun _=>True) v0_ r/\Below w.heap.size w w':=by
 have HR0:=am hr0
 have HC0:=am hc0
 clear hr0 hc0
 have HB:=am (Below.refl w.heap.size w)
 have H:(if 0<=(wrap64 ((l0.length:Int)+1)) then (if (wrap64 ((l0.length:Int)+1):Int).toNat<=70368744177664 then (Za5.l0 k a1 (List.replicate 0 0) 0 l0 (l0.length:Int) 0) else (none)) else (none))=some r:=h
 clear h
 obtain ⟨ji3,hji3⟩:∃ j_:Int,(wrap64 ((l0.length:Int)+1))=j_:=⟨_,rfl⟩
 replace H:(if 0<=(ji3) then (if (ji3:Int).toNat<=70368744177664 then (Za5.l0 k a1 (List.replicate 0 0) 0 l0 (l0.length:Int) 0) else (none)) else (none))=some r:=by first|(rw [hji3] at H;exact H)|(simp only [hji3] at H ⊢;exact H)
 have hji3w:(IntKind.i64.wrap ((l0.length:Int)+1))=ji3:=(Zcd _).trans hji3
 by_cases c4:0<=(ji3)
 ·rw [if_pos c4] at H
  have c4b0:=eq_true c4
  have c4b1:decide (0<=(ji3))=true:=decide_eq_true c4
  clear c4
  by_cases c5:(ji3:Int).toNat<=70368744177664
  ·rw [if_pos c5] at H
   have c5b0:=eq_true c5
   have c5b1:decide ((ji3:Int).toNat<=70368744177664)=true:=decide_eq_true c5
   clear c5
   obtain ⟨y113,hy113⟩:∃ y_:List Int,y_=(List.replicate 0 0):=⟨_,rfl⟩
   replace H:(Za5.l0 k a1 y113 0 l0 (l0.length:Int) 0)=some r:=by have hy_:=hy113;exact pH
   have Ny113:=am hy113
   clear hy113
   have H':=am H
   clear H
   go_enter Tryz.func157,Tryz.ntmps157
   go_wp2_with (first|((with_reducible refine gd 12 ?_);refine Zhi (Kd.int .u32) _ 85 rfl (N:=12) rfl 134 _ _ rfl ji3 rfl rfl Tryz.underlying134 (.int .u32 0) 4 info85 (by omega) 0 (ok:=fun _=>True) (okp:=fun _=>True) (fun _ hk=>hk) trivial (of_decide_eq_true pQ) (Nat.le_trans (Nat.mul_le_mul_right _ (of_decide_eq_true pQ:(ji3:Int).toNat<=70368744177664)) (by omega)) (Below.refl _ _) (Nat.le_refl _) ?_;intro v114 w6 ho7 hb hg_ hnew_;clear hg_ hnew_;(first|rw [<- Ny113.out] at ho7|(simp only [Int.reduceToNat] at ho7;rw [<- Ny113.out] at ho7));have HO115:=am (Kd.Zq ho7 (Zb pB));replace HB:=bS hb;clear hb ho7))
   go_loopg [5,6,15] k (fun kq v5 v6 v15 w' => ∃ (x5_1:List Int) (x6_1:Int) (x15_1:Int),v6=.int .u32 x6_1/\v15=.int .i64 x15_1/\Aside0 (Za5.l0 kq a1 x5_1 x6_1 l0 (l0.length:Int) x15_1=some r)/\Aside0 (kq<=k)/\Aside0 (Kd.R (Kd.int .u32) 85 w' w.heap.size (fun _=>True) v5 x5_1)/\Aside0 (Below w.heap.size w w'))
   case atStart=>exact ⟨(y113),(0),(0),pR,pR,H',⟨Nat.le_refl _⟩,⟨by refine rp ?_;exact HO115.o⟩,⟨pB⟩⟩
   case round =>
    clear H'
    obtain ⟨x5_1,x6_1,x15_1,rfl,rfl,HA,HK1,HO_5,HB⟩:=hrel
    cases gk with
    | zero=>exact absurd HA.out (by simp [Za5.l0])
    | succ k1 =>
     have H:=HA.out
     clear HA
     simp only [Za5.l0] at H
     by_cases c8:x15_1 < (l0.length:Int)
     ·rw [if_pos c8] at H
      have c8b0:decide (x15_1 < (l0.length:Int))=true:=decide_eq_true c8
      clear c8
      by_cases c9:0<=x15_1
      ·rw [if_pos c9] at H
       have c9b0:decide (0<=x15_1)=true:=decide_eq_true c9
       clear c9
       by_cases c10:x15_1 < (l0.length:Int)
       ·rw [if_pos c10] at H
        have c10b0:decide (x15_1 < (l0.length:Int))=true:=decide_eq_true c10
        clear c10
        by_cases c11:0<=a1
        ·rw [if_pos c11] at H
         have c11b0:=eq_true c11
         have c11b1:decide (0<=a1)=true:=decide_eq_true c11
         clear c11
         obtain ⟨ji12,hji12⟩:∃ j_:Int,(shl .u32 (rd l0 x15_1) a1)=j_:=⟨_,rfl⟩
         replace H:(if x5_1.length < 35184372088832 then (if 0<=(wrap64 (32 - a1)) then (Za5.l0 k1 a1 (x5_1 ++ [Go.bits .or .u32 (ji12) x6_1]) ((shr .u64 (IntKind.u64.wrap (rd l0 x15_1)) (wrap64 (32 - a1))) % 4294967296) l0 (l0.length:Int) (wrap64 (x15_1+1))) else (none)) else (none))=some r:=by first|(rw [hji12] at H;exact H)|(simp only [hji12] at H ⊢;exact H)
         have hji12_:(IntKind.u32.wrap ((rd l0 x15_1)*2 ^ min a1.toNat 32))=ji12:=hji12
         have hji12z:a1<=32->(IntKind.u32.wrap ((rd l0 x15_1)*2 ^ a1.toNat))=ji12:=Zkf hji12
         by_cases c13:x5_1.length < 35184372088832
         ·rw [if_pos c13] at H
          have LMc13:=am c13
          clear c13
          obtain ⟨y117,hy117⟩:∃ y_:List Int,y_=(x5_1 ++ [Go.bits .or .u32 (ji12) x6_1]):=⟨_,rfl⟩
          replace H:(if 0<=(wrap64 (32 - a1)) then (Za5.l0 k1 a1 y117 ((shr .u64 (IntKind.u64.wrap (rd l0 x15_1)) (wrap64 (32 - a1))) % 4294967296) l0 (l0.length:Int) (wrap64 (x15_1+1))) else (none))=some r:=by have hy_:=hy117;exact pH
          have Ny117:=am hy117
          clear hy117
          obtain ⟨ji14,hji14⟩:∃ j_:Int,(wrap64 (32 - a1))=j_:=⟨_,rfl⟩
          replace H:(if 0<=(ji14) then (Za5.l0 k1 a1 y117 ((shr .u64 (IntKind.u64.wrap (rd l0 x15_1)) (ji14)) % 4294967296) l0 (l0.length:Int) (wrap64 (x15_1+1))) else (none))=some r:=by first|(rw [hji14] at H;exact H)|(simp only [hji14] at H ⊢;exact H)
          have hji14w:(IntKind.i64.wrap (32 - a1))=ji14:=(Zcd _).trans hji14
          by_cases c15:0<=(ji14)
          ·rw [if_pos c15] at H
           have c15b0:=eq_true c15
           have c15b1:decide (0<=(ji14))=true:=decide_eq_true c15
           clear c15
           obtain ⟨ji16,hji16⟩:∃ j_:Int,(shr .u64 (IntKind.u64.wrap (rd l0 x15_1)) (ji14))=j_:=⟨_,rfl⟩
           replace H:(Za5.l0 k1 a1 y117 ((ji16) % 4294967296) l0 (l0.length:Int) (wrap64 (x15_1+1)))=some r:=by first|(rw [hji16] at H;exact H)|(simp only [hji16] at H ⊢;exact H)
           have hji16_:((IntKind.u64.wrap (rd l0 x15_1)) / 2 ^ min (ji14).toNat 64)=ji16:=hji16
           have hji16z:(ji14)<=64->((IntKind.u64.wrap (rd l0 x15_1)) / 2 ^ (ji14).toNat)=ji16:=Zkg hji16
           have H':=am H
           clear H
           have p116:0<=(x15_1:Int):=of_decide_eq_true pQ
           have q116:x15_1 < (l0.length:Int):=of_decide_eq_true pQ
           obtain ⟨ad116,e116,hx116_0⟩:=Kd.Za4 HR0.o x15_1 p116 q116
           cases e116
           replace hx116_0:=(HB.o.cell (World.block_lt_of_cell? w _ hx116_0)).trans hx116_0
           replace p116:=eq_true p116
           replace q116:=eq_true q116
           go_wp2_with (first|((with_reducible refine Zan (b:=.append) (xs:=#[.tmp 19,.tmp 25]) rfl ?_);at_builtin;refine Kd.Zbz (Kd.int .u32) (w0:=w) w.heap.size rfl (.tmp 19) (.tmp 25) 134 85 (.int .u32 0) 4 rfl Tryz.underlying134 info85 rfl (by decide) (by omega) u5 x5_1 (Go.bits .or .u32 (ji12) x6_1) [.int .u32 (Go.bits .or .u32 (ji12) x6_1)] (fun _=>True) (fun _=>False) rfl rfl ?aP (fun _ hk=>hk.elim) ?aF ?aO ?aB ?aS ?aL ?_;(case aP=>exact rfl);(case aB=>exact pB);(case aF=>exact (fun _ _=>trivial));(case aO=>exact (Kd.Za HO_5.o pl));(case aS=>exact (Zb pB));(case aL=>have := LMc13.o;omega);intro v118 w17 ho hb hg hat;rw [<- Ny117.out] at ho;have HO119:=am ho;replace HB:=am hb;clear HO_5 ho hb hg hat))
           go_roundg k1
           case measure=>have := HK1.out;omega
           case rel=>exact ⟨(y117),((ji16) % 4294967296),(wrap64 (x15_1+1)),(by first|rfl|(simp;done)|(simp only [<- hji16] <;> (first|rfl|simp))|(simp [*];done)),pR,(by first|exact H'|(have H_:=H'.out;simp only [<- hji3] at H_;exact ⟨H_⟩)|(refine ⟨?_⟩;have H_:=H'.out;simp only [<- hji3] at H_ ⊢;exact H_)|(have H_:=H'.out;simp only [<- hji14] at H_;exact ⟨H_⟩)|(refine ⟨?_⟩;have H_:=H'.out;simp only [<- hji14] at H_ ⊢;exact H_)),⟨by have := HK1.out;omega⟩,⟨by refine rp ?_;exact HO119.o⟩,⟨pB⟩⟩
          ·rw [if_neg c15] at H
           exact absurd H (by simp)
         ·rw [if_neg c13] at H
          exact absurd H (by simp)
        ·rw [if_neg c11] at H
         exact absurd H (by simp)
       ·rw [if_neg c10] at H
        exact absurd H (by simp)
      ·rw [if_neg c9] at H
       exact absurd H (by simp)
     ·rw [if_neg c8] at H
      have c8b0:decide (x15_1 < (l0.length:Int))=false:=decide_eq_false c8
      clear c8
      by_cases c18:x5_1.length < 35184372088832
      ·rw [if_pos c18] at H
       have LMc18:=am c18
       clear c18
       obtain ⟨y120,hy120⟩:∃ y_:List Int,y_=(x5_1 ++ [x6_1]):=⟨_,rfl⟩
       replace H:(some y120)=some r:=by have hy_:=hy120;exact pH
       have Ny120:=am hy120
       clear hy120
       obtain rfl:=Option.some.inj H
       go_wp2_with (first|((with_reducible refine Zan (b:=.append) (xs:=#[.tmp 34,.tmp 36]) rfl ?_);at_builtin;refine Kd.Zbz (Kd.int .u32) (w0:=w) w.heap.size rfl (.tmp 34) (.tmp 36) 134 85 (.int .u32 0) 4 rfl Tryz.underlying134 info85 rfl (by decide) (by omega) u5 x5_1 x6_1 [.int .u32 x6_1] (fun _=>True) (fun _=>False) rfl rfl ?aP (fun _ hk=>hk.elim) ?aF ?aO ?aB ?aS ?aL ?_;(case aP=>exact rfl);(case aB=>exact pB);(case aF=>exact (fun _ _=>trivial));(case aO=>exact (Kd.Za HO_5.o pl));(case aS=>exact (Zb pB));(case aL=>have := LMc18.o;omega);intro v121 w19 ho hb hg hat;rw [<- Ny120.out] at ho;have HO122:=am ho;replace HB:=am hb;clear HO_5 ho hb hg hat))
       go_ret
       exact ⟨_,by first|rfl|(simp [Zak,Zal] <;> rfl)|(simp only [<- hji3];first|rfl|(simp [Zak,Zal] <;> rfl))|(simp [*,Zak,Zal] <;> rfl),by refine rp ?_;exact HO122.o,pB⟩
      ·rw [if_neg c18] at H
       exact absurd H (by simp)
  ·rw [if_neg c5] at H
   exact absurd H (by simp)
 ·rw [if_neg c4] at H
  exact absurd H (by simp)
mutual
def Zbp.l0:Nat->Int->Int->Int->Int->Int->Option (Int)
 | 0,_,_,_,_,_=>none
 | k+1,x2,x3,x4,x12,x13=>if (x12 / 4294967296) > 0 then (Zbp.j1 k x2 x3 x4 x12 x13 true) else (Zbp.j1 k x2 x3 x4 x12 x13 (decide ((IntKind.u64.wrap (x12*(IntKind.u64.wrap (x4)))) > (Go.bits .or .u64 (IntKind.u64.wrap (x13*4294967296)) (IntKind.u64.wrap (x2))))))
def Zbp.j1:Nat->Int->Int->Int->Int->Int->Bool->Option (Int)
 | 0,_,_,_,_,_,_=>none
 | k+1,x2,x3,x4,x12,x13,x42=>if x42=true then (if ((IntKind.u64.wrap (x13+(IntKind.u64.wrap (x3)))) / 4294967296) > 0 then (some (IntKind.u64.wrap (x12 - 1))) else (Zbp.l0 k x2 x3 x4 (IntKind.u64.wrap (x12 - 1)) (IntKind.u64.wrap (x13+(IntKind.u64.wrap (x3)))))) else (some x12)
end
def Zbp.f (k:Nat) (a0:Int) (a1:Int) (a2:Int) (a3:Int) (a4:Int):Option (Int):=if (IntKind.u64.wrap (a3))=0 then (none) else (Zbp.l0 k a2 a3 a4 (IntKind.u64.wrap (Int.tdiv (Go.bits .or .u64 (IntKind.u64.wrap ((IntKind.u64.wrap (a0))*4294967296)) (IntKind.u64.wrap (a1))) (IntKind.u64.wrap (a3)))) (Int.tmod (Go.bits .or .u64 (IntKind.u64.wrap ((IntKind.u64.wrap (a0))*4294967296)) (IntKind.u64.wrap (a1))) (IntKind.u64.wrap (a3))))
theorem Zbp.calls (k:Nat) (a0:Int) (a1:Int) (a2:Int) (a3:Int) (a4:Int) (r:Int) (w:World) (h:Zbp.f k a0 a1 a2 a3 a4=some r) :
  Calls Tryz.prog 159 #[.int .u32 a0,.int .u32 a1,.int .u32 a2,.int .u32 a3,.int .u32 a4] w fun e w'=>e=.returned (.int .u64 r)/\Drawn0 w w':=by
 have H:(if (IntKind.u64.wrap (a3))=0 then (none) else (Zbp.l0 k a2 a3 a4 (IntKind.u64.wrap (Int.tdiv (Go.bits .or .u64 (IntKind.u64.wrap ((IntKind.u64.wrap (a0))*4294967296)) (IntKind.u64.wrap (a1))) (IntKind.u64.wrap (a3)))) (Int.tmod (Go.bits .or .u64 (IntKind.u64.wrap ((IntKind.u64.wrap (a0))*4294967296)) (IntKind.u64.wrap (a1))) (IntKind.u64.wrap (a3)))))=some r:=h
 clear h
 by_cases c6:(IntKind.u64.wrap (a3))=0
 ·rw [if_pos c6] at H
  exact absurd H (by simp)
 ·rw [if_neg c6] at H
  have c6b0:((IntKind.u64.wrap (a3)) == 0)=false:=beq_eq_false_iff_ne.mpr c6
  have c6b1:((IntKind.u64.wrap (a3)) != 0)=true:=bne_iff_ne.mpr c6
  have H':=am H
  clear H
  go_enter Tryz.func159,Tryz.ntmps159
  go_wp2
  repeat (go_quiet (fail);try go_wp2)
  go_loopg [12,13] k (fun kq v12 v13 w' => ∃ (x12_1:Int) (x13_1:Int),v12=.int .u64 x12_1/\v13=.int .u64 x13_1/\Aside0 (Zbp.l0 kq a2 a3 a4 x12_1 x13_1=some r)/\Aside0 (kq<=k)/\Drawn0 w w')
  case atStart=>exact ⟨(IntKind.u64.wrap (Int.tdiv (Go.bits .or .u64 (IntKind.u64.wrap ((IntKind.u64.wrap (a0))*4294967296)) (IntKind.u64.wrap (a1))) (IntKind.u64.wrap (a3)))),(Int.tmod (Go.bits .or .u64 (IntKind.u64.wrap ((IntKind.u64.wrap (a0))*4294967296)) (IntKind.u64.wrap (a1))) (IntKind.u64.wrap (a3))),pR,pR,H',⟨Nat.le_refl _⟩,pD⟩
  case round =>
   clear H'
   obtain ⟨x12_1,x13_1,rfl,rfl,HA,HK1,⟨m1,rfl⟩⟩:=hrel
   cases gk with
   | zero=>exact absurd HA.out (by simp [Zbp.l0])
   | succ k1 =>
    have H:=HA.out
    clear HA
    simp only [Zbp.l0] at H
    have HC7:=am H
    clear H
    go_upto_region 3 with (fail)
    repeat (go_quiet (fail);go_upto_region 3 with (fail))
    go_cut [42] (fun v42 wc => ∃ (kq:Nat) (x42_6:Bool),v42=.bool x42_6/\Aside0 (Zbp.j1 kq a2 a3 a4 x12_1 x13_1 x42_6=some r)/\Aside0 (kq<=k1)/\Drawn0 w wc)
    case first =>
     have H:=HC7.o
     clear HC7
     by_cases c8:(x12_1 / 4294967296) > 0
     ·rw [if_pos c8] at H
      have c8b0:decide (0 < (x12_1 / 4294967296))=true:=decide_eq_true c8
      clear c8
      (first|rw [c8b0]|(simp only [Zcd,Zdb];rw [c8b0])|skip)
      have H':=am H
      clear H
      go_wp2
      repeat (go_quiet (fail);try go_wp2)
      go_meet
      case rel=>exact ⟨_,(true),pR,H',⟨by have := HK1.out;first|omega|exact Nat.le_refl _⟩,pD⟩
     ·rw [if_neg c8] at H
      have c8b0:decide (0 < (x12_1 / 4294967296))=false:=decide_eq_false c8
      clear c8
      (first|rw [c8b0]|(simp only [Zcd,Zdb];rw [c8b0])|skip)
      have H':=am H
      clear H
      go_wp2
      repeat (go_quiet (fail);try go_wp2)
      go_meet
      case rel=>exact ⟨_,(decide ((IntKind.u64.wrap (x12_1*(IntKind.u64.wrap (a4)))) > (Go.bits .or .u64 (IntKind.u64.wrap (x13_1*4294967296)) (IntKind.u64.wrap (a2))))),pR,H',⟨by have := HK1.out;first|omega|exact Nat.le_refl _⟩,pD⟩
    case rest =>
     clear HC7
     obtain ⟨kq,x42_6,rfl,HA,HJ6,⟨mc6,rfl⟩⟩:=hcut
     cases kq with
     | zero=>exact absurd HA.out (by simp [Zbp.j1])
     | succ kj6 =>
      have H:=HA.out
      clear HA
      simp only [Zbp.j1] at H
      by_cases c9:x42_6=true
      ·subst c9
       rw [if_pos rfl] at H
       by_cases c10:((IntKind.u64.wrap (x13_1+(IntKind.u64.wrap (a3)))) / 4294967296) > 0
       ·rw [if_pos c10] at H
        have c10b0:decide (0 < ((IntKind.u64.wrap (x13_1+(IntKind.u64.wrap (a3)))) / 4294967296))=true:=decide_eq_true c10
        clear c10
        obtain rfl:=Option.some.inj H
        go_wp2
        repeat (go_quiet (fail);try go_wp2)
        go_ret
        exact ⟨pR,pD⟩
       ·rw [if_neg c10] at H
        have c10b0:decide (0 < ((IntKind.u64.wrap (x13_1+(IntKind.u64.wrap (a3)))) / 4294967296))=false:=decide_eq_false c10
        clear c10
        have H':=am H
        clear H
        go_wp2
        repeat (go_quiet (fail);try go_wp2)
        go_roundg kj6
        case measure=>have := HK1.out;have := HJ6.o;omega
        case rel=>exact ⟨(IntKind.u64.wrap (x12_1 - 1)),(IntKind.u64.wrap (x13_1+(IntKind.u64.wrap (a3)))),pR,pR,H',⟨by have := HK1.out;have := HJ6.o;omega⟩,pD⟩
      ·replace c9:=Bool.eq_false_iff.mpr c9
       subst c9
       rw [if_neg (show ¬ (false=true) by decide)] at H
       obtain rfl:=Option.some.inj H
       go_wp2
       repeat (go_quiet (fail);try go_wp2)
       go_ret
       exact ⟨pR,pD⟩
def Zz.l0:Nat->List Int->Int->List Int->List Int->Int->Int->Option (List Int)
 | 0,_,_,_,_,_,_=>none
 | k+1,x0,x1,x5,x11,x12,x13=>if x13 < x12 then (if 0<=x13 then (if x13 < (x11.length:Int) then (if 0<=x1 then (if x13 < (x5.length:Int) then ((some (x5.set (x13:Int).toNat (shr .u32 (rd x11 x13) x1):List Int)).bind fun y127=>(if (wrap64 (x13+1)) < (x0.length:Int) then (if 0<=(wrap64 (x13+1)) then (if 0<=(wrap64 (32 - x1)) then (Zz.l0 k x0 x1 (y127.set (x13:Int).toNat (Go.bits .or .u32 (rd y127 x13) ((shl .u64 (IntKind.u64.wrap (rd x0 (wrap64 (x13+1)))) (wrap64 (32 - x1))) % 4294967296))) x11 x12 (wrap64 (x13+1))) else (none)) else (none)) else (Zz.l0 k x0 x1 y127 x11 x12 (wrap64 (x13+1))))) else (none)) else (none)) else (none)) else (none)) else ((Zv.f k x5).bind fun t131=>(some t131))
def Zz.f (k:Nat) (l0:List Int) (a1:Int):Option (List Int):=if 0<=(l0.length:Int) then (if ((l0.length:Int):Int).toNat<=70368744177664 then (Zz.l0 k l0 a1 (List.replicate ((l0.length:Int):Int).toNat 0) l0 (l0.length:Int) 0) else (none)) else (none)
def Zz.T7:Bool × List (List Nat × List Nat):=(true,[([],[]),([],[]),([0,1],[0,1]),([2],[2]),([],[]),([],[]),([5],[5]),([4,6],[4,6]),([7],[7]),([8],[8]),([],[]),([10],[10]),([9,11],[9,11]),([12],[12]),([3,13],[3,13]),([0,1,0,1,2,3,4,5,6,7,8,9,10,11,12,13,14],[0,1]),([15,14,0,1,2,3,4,5,6,7,8,9,10,11,12,13,14],[14,15])])
def Zz.B7:List Nat:=[0,0,3,7,0,0,32,112,240,496,0,1024,4080,8176,16383,32767,65535]
theorem Zz.tab7:rtab .any (opsOf Tryz.f162 7)=Zz.T7:=by kernel_rfl
theorem Zz.bits7:waitsOk Zz.T7.2 Zz.B7=true:=by kernel_rfl
theorem Zz.calls (k:Nat) (A0:Option Addr) (c0:Nat) (l0:List Int) (a1:Int) (r:List Int) (w:World) (hr0:Kd.C (Kd.int .u32) w A0 l0.length l0) (hc0:l0.length<=c0) (h:Zz.f k l0 a1=some r) :
  Calls Tryz.prog 162 #[.slice A0 l0.length c0,.int .i64 a1] w fun e w' => ∃ v0_:Value,e=.returned (v0_)/\Kd.R (Kd.int .u32) 85 w' w.heap.size (fun _=>True) v0_ r/\Below w.heap.size w w':=by
 have HR0:=am hr0
 have HC0:=am hc0
 clear hr0 hc0
 have HB:=am (Below.refl w.heap.size w)
 have H:(if 0<=(l0.length:Int) then (if ((l0.length:Int):Int).toNat<=70368744177664 then (Zz.l0 k l0 a1 (List.replicate ((l0.length:Int):Int).toNat 0) l0 (l0.length:Int) 0) else (none)) else (none))=some r:=h
 clear h
 by_cases c3:0<=(l0.length:Int)
 ·rw [if_pos c3] at H
  have c3b0:=eq_true c3
  have c3b1:decide (0<=(l0.length:Int))=true:=decide_eq_true c3
  clear c3
  by_cases c4:((l0.length:Int):Int).toNat<=70368744177664
  ·rw [if_pos c4] at H
   have c4b0:=eq_true c4
   have c4b1:decide (((l0.length:Int):Int).toNat<=70368744177664)=true:=decide_eq_true c4
   clear c4
   obtain ⟨y123,hy123⟩:∃ y_:List Int,y_=(List.replicate ((l0.length:Int):Int).toNat 0):=⟨_,rfl⟩
   replace H:(Zz.l0 k l0 a1 y123 l0 (l0.length:Int) 0)=some r:=by have hy_:=hy123;exact pH
   have Ny123:=am hy123
   clear hy123
   have H':=am H
   clear H
   go_enter Tryz.func162,Tryz.ntmps162
   go_wp2_with (first|((with_reducible refine gd 10 ?_);refine Kd.Zji (Kd.int .u32) _ 85 rfl (N:=10) rfl 134 _ _ rfl (l0.length:Int) rfl rfl Tryz.underlying134 (.int .u32 0) 4 info85 rfl (by decide) (by omega) 0 (ok:=fun _=>True) (okp:=fun _=>True) rfl (fun _ hk=>hk) trivial (of_decide_eq_true pQ) (Nat.le_trans (Nat.mul_le_mul_right _ (of_decide_eq_true pQ:(l0.length:Int).toNat<=70368744177664)) (by omega)) (Below.refl _ _) (Nat.le_refl _) ?_;intro v124 w5 ho6 hb hg_ hnew_;clear hg_ hnew_;(first|rw [<- Ny123.out] at ho6|(simp only [Int.reduceToNat] at ho6;rw [<- Ny123.out] at ho6));have HO125:=am (Kd.Zq ho6 (Zb pB));replace HB:=bS hb;clear hb ho6))
   go_loopg [13] k (fun kq v13 w' => ∃ (x5_1:List Int) (x13_1:Int),v13=.int .i64 x13_1/\Aside0 (Zz.l0 kq l0 a1 x5_1 l0 (l0.length:Int) x13_1=some r)/\Aside0 (kq<=k)/\Aside0 (Kd.R (Kd.int .u32) 85 w' w.heap.size (fun _=>True) v124 x5_1)/\Aside0 (Below w.heap.size w w'))
   case atStart=>exact ⟨(y123),(0),pR,H',⟨Nat.le_refl _⟩,⟨by refine rp ?_;exact HO125.o⟩,⟨pB⟩⟩
   case round =>
    clear H'
    obtain ⟨x5_1,x13_1,rfl,HA,HK1,HO_5,HB⟩:=hrel
    cases gk with
    | zero=>exact absurd HA.out (by simp [Zz.l0])
    | succ k1 =>
     have H:=HA.out
     clear HA
     simp only [Zz.l0] at H
     by_cases c7:x13_1 < (l0.length:Int)
     ·rw [if_pos c7] at H
      have c7b0:decide (x13_1 < (l0.length:Int))=true:=decide_eq_true c7
      clear c7
      by_cases c8:0<=x13_1
      ·rw [if_pos c8] at H
       have c8b0:decide (0<=x13_1)=true:=decide_eq_true c8
       clear c8
       by_cases c9:x13_1 < (l0.length:Int)
       ·rw [if_pos c9] at H
        have c9b0:decide (x13_1 < (l0.length:Int))=true:=decide_eq_true c9
        clear c9
        by_cases c10:0<=a1
        ·rw [if_pos c10] at H
         have c10b0:=eq_true c10
         have c10b1:decide (0<=a1)=true:=decide_eq_true c10
         clear c10
         obtain ⟨ji11,hji11⟩:∃ j_:Int,(shr .u32 (rd l0 x13_1) a1)=j_:=⟨_,rfl⟩
         replace H:(if x13_1 < (x5_1.length:Int) then ((some (x5_1.set (x13_1:Int).toNat (ji11):List Int)).bind fun y127=>(if (wrap64 (x13_1+1)) < (l0.length:Int) then (if 0<=(wrap64 (x13_1+1)) then (if 0<=(wrap64 (32 - a1)) then (Zz.l0 k1 l0 a1 (y127.set (x13_1:Int).toNat (Go.bits .or .u32 (rd y127 x13_1) ((shl .u64 (IntKind.u64.wrap (rd l0 (wrap64 (x13_1+1)))) (wrap64 (32 - a1))) % 4294967296))) l0 (l0.length:Int) (wrap64 (x13_1+1))) else (none)) else (none)) else (Zz.l0 k1 l0 a1 y127 l0 (l0.length:Int) (wrap64 (x13_1+1))))) else (none))=some r:=by first|(rw [hji11] at H;exact H)|(simp only [hji11] at H ⊢;exact H)
         have hji11_:((rd l0 x13_1) / 2 ^ min a1.toNat 32)=ji11:=hji11
         have hji11z:a1<=32->((rd l0 x13_1) / 2 ^ a1.toNat)=ji11:=Zkg hji11
         by_cases c12:x13_1 < (x5_1.length:Int)
         ·rw [if_pos c12] at H
          have c12b0:decide (x13_1 < (x5_1.length:Int))=true:=decide_eq_true c12
          clear c12
          obtain ⟨y127,hy127⟩:∃ y_:List Int,y_=(x5_1.set (x13_1:Int).toNat (ji11)):=⟨_,rfl⟩
          replace H:(if (wrap64 (x13_1+1)) < (l0.length:Int) then (if 0<=(wrap64 (x13_1+1)) then (if 0<=(wrap64 (32 - a1)) then (Zz.l0 k1 l0 a1 (y127.set (x13_1:Int).toNat (Go.bits .or .u32 (rd y127 x13_1) ((shl .u64 (IntKind.u64.wrap (rd l0 (wrap64 (x13_1+1)))) (wrap64 (32 - a1))) % 4294967296))) l0 (l0.length:Int) (wrap64 (x13_1+1))) else (none)) else (none)) else (Zz.l0 k1 l0 a1 y127 l0 (l0.length:Int) (wrap64 (x13_1+1))))=some r:=by have hy_:=hy127;exact pH
          have Ny127:=am hy127
          clear hy127
          by_cases c14:(wrap64 (x13_1+1)) < (l0.length:Int)
          ·rw [if_pos c14] at H
           have c14b0:decide ((wrap64 (x13_1+1)) < (l0.length:Int))=true:=decide_eq_true c14
           clear c14
           obtain ⟨ji15,hji15⟩:∃ j_:Int,(wrap64 (x13_1+1))=j_:=⟨_,rfl⟩
           replace H:(if 0<=(ji15) then (if 0<=(wrap64 (32 - a1)) then (Zz.l0 k1 l0 a1 (y127.set (x13_1:Int).toNat (Go.bits .or .u32 (rd y127 x13_1) ((shl .u64 (IntKind.u64.wrap (rd l0 (ji15))) (wrap64 (32 - a1))) % 4294967296))) l0 (l0.length:Int) ji15) else (none)) else (none))=some r:=by first|(rw [hji15] at H;exact H)|(simp only [hji15] at H ⊢;exact H)
           (try rw [hji15] at c14b0)
           have hji15w:(IntKind.i64.wrap (x13_1+1))=ji15:=(Zcd _).trans hji15
           by_cases c16:0<=(ji15)
           ·rw [if_pos c16] at H
            have c16b0:decide (0<=(ji15))=true:=decide_eq_true c16
            clear c16
            obtain ⟨ji17,hji17⟩:∃ j_:Int,(wrap64 (32 - a1))=j_:=⟨_,rfl⟩
            replace H:(if 0<=(ji17) then (Zz.l0 k1 l0 a1 (y127.set (x13_1:Int).toNat (Go.bits .or .u32 (rd y127 x13_1) ((shl .u64 (IntKind.u64.wrap (rd l0 (ji15))) (ji17)) % 4294967296))) l0 (l0.length:Int) ji15) else (none))=some r:=by first|(rw [hji17] at H;exact H)|(simp only [hji17] at H ⊢;exact H)
            have hji17w:(IntKind.i64.wrap (32 - a1))=ji17:=(Zcd _).trans hji17
            by_cases c18:0<=(ji17)
            ·rw [if_pos c18] at H
             have c18b0:=eq_true c18
             have c18b1:decide (0<=(ji17))=true:=decide_eq_true c18
             clear c18
             obtain ⟨ji19,hji19⟩:∃ j_:Int,(shl .u64 (IntKind.u64.wrap (rd l0 (ji15))) (ji17))=j_:=⟨_,rfl⟩
             replace H:(Zz.l0 k1 l0 a1 (y127.set (x13_1:Int).toNat (Go.bits .or .u32 (rd y127 x13_1) ((ji19) % 4294967296))) l0 (l0.length:Int) ji15)=some r:=by first|(rw [hji19] at H;exact H)|(simp only [hji19] at H ⊢;exact H)
             have hji19_:(IntKind.u64.wrap ((IntKind.u64.wrap (rd l0 (ji15)))*2 ^ min (ji17).toNat 64))=ji19:=hji19
             have hji19z:(ji17)<=64->(IntKind.u64.wrap ((IntKind.u64.wrap (rd l0 (ji15)))*2 ^ (ji17).toNat))=ji19:=Zkf hji19
             obtain ⟨y130,hy130⟩:∃ y_:List Int,y_=(y127.set (x13_1:Int).toNat (Go.bits .or .u32 (rd y127 x13_1) ((ji19) % 4294967296))):=⟨_,rfl⟩
             replace H:(Zz.l0 k1 l0 a1 y130 l0 (l0.length:Int) ji15)=some r:=by have hy_:=hy130;exact pH
             have Ny130:=am hy130
             clear hy130
             have H':=am H
             clear H
             have p126:0<=(x13_1:Int):=of_decide_eq_true pQ
             have q126:x13_1 < (l0.length:Int):=of_decide_eq_true pQ
             obtain ⟨ad126,e126,hx126_0⟩:=Kd.Za4 HR0.o x13_1 p126 q126
             cases e126
             replace hx126_0:=(HB.o.cell (World.block_lt_of_cell? w _ hx126_0)).trans hx126_0
             replace p126:=eq_true p126
             replace q126:=eq_true q126
             have p13:0<=(x13_1:Int):=of_decide_eq_true pQ
             have q13:(x13_1:Int) < ((x5_1.length:Int):Int):=of_decide_eq_true pQ
             obtain ⟨go13,co13,eo13,gb13,gl13,cl13,HG13⟩:=Kd.Zhh HO_5.o (by omega)
             (first|cases eo13|(injection eo13 with ea_ en_ ec_;(first|subst ea_|(injection ea_ with ea_;subst ea_));subst ec_;clear en_))
             have GB13:=am gb13
             have GG13:=am HG13
             clear gb13 gl13 HG13
             obtain ⟨hx13_0,hf13_0⟩:=Kd.Ze1 0 HO_5.o (x13_1:Int) p13 q13
             replace p13:=eq_true p13
             replace q13:=eq_true q13
             have HP21:=Kd.Zjk HO_5.o (x13_1:Int) ji11
             try go_wp2_with (first|((with_reducible refine Zc0 (t:=85) (p:=23) rfl ?_);refine Zcp (t:=85) (p:=23) (v:=?vo_w22) (w1:=(wr.setCell ⟨go13,(x13_1:Int).toNat,none⟩ (.int .u32 ji11))) ?hg ?ho ?hn ?hr ?_;(case ho=>rfl);(case hg=>rfl);(case hn=>rfl);(case hr=>first|(go_simp;done)|(go_simp;rfl));intro w22 hw;have hg:wr.grownBy w22 (some go13):=(by rw [hw];exact HP21.2);have hp_:Kd.R (Kd.int .u32) 85 w22 w.heap.size (fun _=>True) (.slice (some ⟨go13,0,none⟩) x5_1.length co13) y127:=(by rw [hw,Ny127.out];exact HP21.1);clear HP21;replace HO_5:=am (hp_);replace HB:=am ((by rw [hw];exact Zda (HB.o) GB13.out:Below w.heap.size w w22));clear hg hw hp_))
             replace HO_5:=am (Kd.Zem HO_5.o)
             replace HB:=am (Zaz HB.o)
             have p128:0<=(x13_1:Int):=of_decide_eq_true pQ
             have q128:x13_1 < (y127.length:Int):=(by have h_:(x13_1:Int) < ((x5_1.length:Int):Int):=of_decide_eq_true pQ;first|(have e_:=(Kd.Zd HO_5.o).1;omega)|simpa only [Ny127.out,List.length_set] using h_)
             have ql128:((x13_1:Int) < ((x5_1.length:Int):Int))=True:=eq_true (of_decide_eq_true pQ)
             obtain ⟨ad128,e128,hx128_0⟩:=Kd.Za4 (Kd.Zd HO_5.o).2.2 x13_1 p128 q128
             obtain rfl:(⟨go13,0,none⟩:Addr)=ad128:=(by injection e128)
             (first|simp only [add_plain] at hx128_0|simp only [Zf7] at hx128_0|simp only [Addr.add,Nat.zero_add] at hx128_0|skip)
             replace p128:=eq_true p128
             replace q128:=eq_true q128
             have p129:0<=((ji15):Int):=of_decide_eq_true pQ
             have q129:(ji15) < (l0.length:Int):=of_decide_eq_true pQ
             obtain ⟨ad129,e129,hx129_0⟩:=Kd.Za4 HR0.o (ji15) p129 q129
             have hw129_0:=hx129_0
             obtain rfl:ad126=ad129:=(by injection e129)
             replace hx129_0:=(HB.o.cell (World.block_lt_of_cell? w _ hx129_0)).trans hx129_0
             replace p129:=eq_true p129
             replace q129:=eq_true q129
             have p20:0<=(x13_1:Int):=of_decide_eq_true pQ
             have q20:(x13_1:Int) < ((x5_1.length:Int):Int):=of_decide_eq_true pQ
             obtain ⟨hx20_0,hf20_0⟩:=Kd.Ze1 0 HO_5.o (x13_1:Int) p20 q20
             replace p20:=eq_true p20
             replace q20:=eq_true q20
             have HP24:=Kd.Zlo HO_5.o (x13_1:Int) (Go.bits .or .u32 (rd y127 x13_1) ((ji19) % 4294967296))
             rw [<- Ny130.out] at HP24
             have HQ24:=am HP24
             clear HP24
             refine start_ (n:=17) (S:=fun w'=>w'.cell? ⟨go13,(x13_1).toNat,none⟩=some (.int .u32 (rd y127 x13_1))/\w'.cell? (ad126.add ((ji15)).toNat)=some (.int .u32 (rd l0 (ji15)))) (ds:=[16]) #[false,false,false,false,false,false,false,false,false,false,false,false,false,false,false,false,false] (by kernel_rfl) rfl rfl ⟨hx128_0,((HB.o.cell (World.block_lt_of_cell? w _ hw129_0)).trans hw129_0)⟩ (fun hHeld=>?_);refine Zcq Zz.tab7 Zz.bits7 (fun HT_ HW_=>?_)
             generalize w22.drew=w23 at HO_5 HB HQ24 hf20_0 hx128_0 hx129_0 hx20_0 hHeld ⊢
             refine pu 0 (some 29) #[true,false,false,false,false,false,false,false,false,false,false,false,false,false,false,false,false] (h:=?_)
             refine pu 1 (some 30) #[true,true,false,false,false,false,false,false,false,false,false,false,false,false,false,false,false] (h:=?_)
             refine pu 2 (some 31) #[true,true,true,false,false,false,false,false,false,false,false,false,false,false,false,false,false] (h:=?_)
             refine pu 4 (some 33) #[true,true,true,false,true,false,false,false,false,false,false,false,false,false,false,false,false] (h:=?_)
             refine pu 5 (some 34) #[true,true,true,false,true,true,false,false,false,false,false,false,false,false,false,false,false] (h:=?_)
             refine pu 6 (some 35) #[true,true,true,false,true,true,true,false,false,false,false,false,false,false,false,false,false] (h:=?_)
             refine pu 7 (some 36) #[true,true,true,false,true,true,true,true,false,false,false,false,false,false,false,false,false] (h:=?_)
             refine pu 10 (some 39) #[true,true,true,false,true,true,true,true,false,false,true,false,false,false,false,false,false] (h:=?_)
             refine pu 11 (some 40) #[true,true,true,false,true,true,true,true,false,false,true,true,false,false,false,false,false] (h:=?_)
             refine take_ (i:=3) (N:=some 32) (v:=?_) (a':=?_) #[true,true,true,true,true,true,true,true,false,false,true,true,false,false,false,false,false] rfl rfl (Zbi HT_.out HW_.out (by kernel_rfl)) (fun _ _ _ h=>h) (Or.inl ⟨by rfl,?_⟩) hHeld ?_ ?_
             rotate_left
             ·rintro w' ⟨s0,s1⟩
              go_simp
              with_reducible rfl
             rotate_left
             ·exact pP
             refine take_ (i:=8) (N:=some 37) (v:=?_) (a':=?_) #[true,true,true,true,true,true,true,true,true,false,true,true,false,false,false,false,false] rfl rfl (Zbi HT_.out HW_.out (by kernel_rfl)) (fun _ _ _ h=>h) (Or.inl ⟨by rfl,?_⟩) hHeld ?_ ?_
             rotate_left
             ·rintro w' ⟨s0,s1⟩
              go_simp
              with_reducible rfl
             rotate_left
             ·exact pP
             refine pu 9 (some 38) #[true,true,true,true,true,true,true,true,true,true,true,true,false,false,false,false,false] (h:=?_)
             refine pu 12 (some 41) #[true,true,true,true,true,true,true,true,true,true,true,true,true,false,false,false,false] (h:=?_)
             refine pu 13 (some 42) #[true,true,true,true,true,true,true,true,true,true,true,true,true,true,false,false,false] (h:=?_)
             refine pu 14 (some 43) #[true,true,true,true,true,true,true,true,true,true,true,true,true,true,true,false,false] (h:=?_)
             refine pu 15 (some 44) #[true,true,true,true,true,true,true,true,true,true,true,true,true,true,true,true,false] (h:=?_)
             refine last_ (i:=16) (N:=none) #[true,true,true,true,true,true,true,true,true,true,true,true,true,true,true,true,true] rfl rfl (Zbw HT_.out (by kernel_rfl)) (by decide) (fun K hK=>?_)
             refine skip_ (w1:=?_) (by rfl) rfl ?_ ?_
             rotate_left
             ·go_simp
              rfl
             refine hK.out _ _ ?_
             clear hK K
             refine done_ (Zdl HT_.out (by kernel_rfl)) ?_
             try go_wp2
             go_roundg k1
             case measure=>have := HK1.out;omega
             case rel=>exact ⟨(y130),(ji15),(by first|rfl|(simp;done)|(simp only [<- hji15] <;> (first|rfl|simp))|(simp [*];done)),(by first|exact H'|(have H_:=H'.out;simp only [<- hji15] at H_;exact ⟨H_⟩)|(refine ⟨?_⟩;have H_:=H'.out;simp only [<- hji15] at H_ ⊢;exact H_)|(have H_:=H'.out;simp only [<- hji17] at H_;exact ⟨H_⟩)|(refine ⟨?_⟩;have H_:=H'.out;simp only [<- hji17] at H_ ⊢;exact H_)),⟨by have := HK1.out;omega⟩,⟨by refine rp ?_;exact HQ24.out⟩,⟨by repeat (first|(with_reducible first|exact HB.o|apply Zco|apply Zay|apply Zaz|refine Zda ?_ GB13.out)|exact HB.o)⟩⟩
            ·rw [if_neg c18] at H
             exact absurd H (by simp)
           ·rw [if_neg c16] at H
            exact absurd H (by simp)
          ·rw [if_neg c14] at H
           have c14b0:decide ((wrap64 (x13_1+1)) < (l0.length:Int))=false:=decide_eq_false c14
           clear c14
           have H':=am H
           clear H
           have p126:0<=(x13_1:Int):=of_decide_eq_true pQ
           have q126:x13_1 < (l0.length:Int):=of_decide_eq_true pQ
           obtain ⟨ad126,e126,hx126_0⟩:=Kd.Za4 HR0.o x13_1 p126 q126
           cases e126
           replace hx126_0:=(HB.o.cell (World.block_lt_of_cell? w _ hx126_0)).trans hx126_0
           replace p126:=eq_true p126
           replace q126:=eq_true q126
           have p13:0<=(x13_1:Int):=of_decide_eq_true pQ
           have q13:(x13_1:Int) < ((x5_1.length:Int):Int):=of_decide_eq_true pQ
           obtain ⟨go13,co13,eo13,gb13,gl13,cl13,HG13⟩:=Kd.Zhh HO_5.o (by omega)
           (first|cases eo13|(injection eo13 with ea_ en_ ec_;(first|subst ea_|(injection ea_ with ea_;subst ea_));subst ec_;clear en_))
           have GB13:=am gb13
           have GG13:=am HG13
           clear gb13 gl13 HG13
           obtain ⟨hx13_0,hf13_0⟩:=Kd.Ze1 0 HO_5.o (x13_1:Int) p13 q13
           replace p13:=eq_true p13
           replace q13:=eq_true q13
           have HP25:=Kd.Zjk HO_5.o (x13_1:Int) ji11
           go_wp2_with (first|((with_reducible refine Zc0 (t:=85) (p:=23) rfl ?_);refine Zcp (t:=85) (p:=23) (v:=?vo_w26) (w1:=(wr.setCell ⟨go13,(x13_1:Int).toNat,none⟩ (.int .u32 ji11))) ?hg ?ho ?hn ?hr ?_;(case ho=>rfl);(case hg=>rfl);(case hn=>rfl);(case hr=>first|(go_simp;done)|(go_simp;rfl));intro w26 hw;have hg:wr.grownBy w26 (some go13):=(by rw [hw];exact HP25.2);have hp_:Kd.R (Kd.int .u32) 85 w26 w.heap.size (fun _=>True) (.slice (some ⟨go13,0,none⟩) x5_1.length co13) y127:=(by rw [hw,Ny127.out];exact HP25.1);clear HP25;replace HO_5:=am (hp_);replace HB:=am ((by rw [hw];exact Zda (HB.o) GB13.out:Below w.heap.size w w26));clear hg hw hp_))
           go_roundg k1
           case measure=>have := HK1.out;omega
           case rel=>exact ⟨(y127),(wrap64 (x13_1+1)),pR,H',⟨by have := HK1.out;omega⟩,⟨by refine rp ?_;exact HO_5.o⟩,⟨pB⟩⟩
         ·rw [if_neg c12] at H
          exact absurd H (by simp)
        ·rw [if_neg c10] at H
         exact absurd H (by simp)
       ·rw [if_neg c9] at H
        exact absurd H (by simp)
      ·rw [if_neg c8] at H
       exact absurd H (by simp)
     ·rw [if_neg c7] at H
      have c7b0:decide (x13_1 < (l0.length:Int))=false:=decide_eq_false c7
      clear c7
      obtain ⟨t131,A27,H⟩:=ob H
      obtain rfl:=Option.some.inj H
      obtain ⟨Ao28,co28,eo28⟩:=Kd.Zj HO_5.o
      subst eo28
      go_wp2_with (first|(refine gL (some 47) Tryz.func132 #[.slice Ao28 x5_1.length co28] (h:=?_);(with_reducible refine (Zv.calls k1 (fun k_=>some k_=(.slice Ao28 x5_1.length co28:Value).ownBlock) (.slice Ao28 x5_1.length co28) x5_1 t131 w _ ?side1 ?side2 A27.o).mono ?_);(case side1=>exact pB);(case side2=>exact Kd.Zbl rfl HO_5.o);rintro e w29 ⟨v132,rfl,ho0,hb,hkp⟩;refine ⟨_,rfl,?_⟩;have HO133:=am (Kd.Zi (ok':=fun k_=>True) ho0 (fun k_ hk_=>trivial));replace HB:=am hb;clear HO_5))
      go_ret
      exact ⟨_,pE,by refine rp ?_;exact HO133.o,pB⟩
  ·rw [if_neg c4] at H
   exact absurd H (by simp)
 ·rw [if_neg c3] at H
  exact absurd H (by simp)
end YtjbjkmccfocikaaGreatDoor.B
end
end Go.Proofs
