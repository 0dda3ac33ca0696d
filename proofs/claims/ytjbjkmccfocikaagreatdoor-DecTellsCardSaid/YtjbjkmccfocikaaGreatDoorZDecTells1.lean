/- DecTells, part 2 of 8 of its proof (no condition); names with a low line are shortened throughout. -/
import Derived.Test.YtjbjkmccfocikaaGreatDoorZDecTells0
import Derived.RangeFuncWrites
import Derived.RangeFuncBox
import Derived.Test.YtjbjkmccfocikaaGreatDoorProg
import Derived.OrdersIn
import Derived.StillTail
import Derived.StillTactics
import Derived.Deep.Quiet
import Derived.Deep.QuietTactic
import Derived.BigQuiet
import Derived.OwnWalkIn
import Derived.RangeFuncCalls
import Derived.OrdersHeld
import Derived.Deep.RegionHeld3
import Derived.RangeFuncNested
import Derived.RangeFuncBound
import Derived.RangeFuncLeaves
import Derived.Shelf.Abstract
import Derived.Shelf.RegionOpen
import Derived.WalkKit
import Derived.TacticsInMore
import Derived.LoopNIn
import Derived.LoopIn
import Derived.Outline
import Derived.Deep.RegionHeld
import Derived.Lib.Hide
import Derived.Laws.BitsAllLaws
import Derived.WalkSpells
set_option linter.unusedVariables false
set_option linter.unusedSimpArgs false
set_option maxRecDepth 100000
set_option maxHeartbeats 8000000
namespace Go.Proofs
section
namespace YtjbjkmccfocikaaGreatDoor.B
open Go.RowKit YtjbjkmccfocikaaGreatDoorW.PrintWords YtjbjkmccfocikaaGreatDoorW.PrintLast YtjbjkmccfocikaaGreatDoorW.PrintMore
attribute [local go_sem] Zb3 Zb5 Zcp Zcq Zbs Zbt Zb4 Zb6
mutual
def Zk.l0:Nat->List Int->List Int->List Int->Int->Option (List Int)
 | 0,_,_,_,_=>none
 | k+1,x0,x1,x5,x6=>if x6 < (x0.length:Int) then (Zk.l1 k x0 x1 x5 x6 0) else ((Zw.f k x5).bind fun qo=>(some qo))
def Zk.l1:Nat->List Int->List Int->List Int->Int->Int->Option (List Int)
 | 0,_,_,_,_,_=>none
 | k+1,x0,x1,x5,x6,x7=>if x7 < (x1.length:Int) then (if 0<=(wrap64 (x6+x7)) then (if (wrap64 (x6+x7)) < (x5.length:Int) then (if 0<=x6 then (if x6 < (x0.length:Int) then (if 0<=x7 then (Zk.l1 k x0 x1 (x5.set ((wrap64 (x6+x7)):Int).toNat (wrap64 ((rd x5 (wrap64 (x6+x7)))+(wrap64 ((rd x0 x6)*(rd x1 x7)))))) x6 (wrap64 (x7+1))) else (none)) else (none)) else (none)) else (none)) else (none)) else (Zk.l0 k x0 x1 x5 (wrap64 (x6+1)))
end
def Zk.f (k:Nat) (l0:List Int) (l1:List Int):Option (List Int):=if 0<=(wrap64 ((l0.length:Int)+(l1.length:Int))) then (if (wrap64 ((l0.length:Int)+(l1.length:Int)):Int).toNat<=35184372088832 then (Zk.l0 k l0 l1 (List.replicate (wrap64 ((l0.length:Int)+(l1.length:Int)):Int).toNat 0) 0) else (none)) else (none)
def Zk.T8:Bool × List (List Nat × List Nat):=(true,[([],[]),([],[]),([],[]),([1,2],[1,2]),([],[]),([],[]),([],[]),([5,6],[5,6]),([4,7],[4,7]),([8],[8]),([],[]),([],[]),([10,11],[10,11]),([12],[12]),([],[]),([],[]),([14,15],[14,15]),([16],[16]),([13,17],[13,17]),([9,18],[9,18]),([0,3,0,1,2,3,4,5,6,7,8,9,10,11,12,13,14,15,16,17,18,19],[0,3]),([20,19,0,1,2,3,4,5,6,7,8,9,10,11,12,13,14,15,16,17,18,19],[19,20])])
def Zk.B8:List Nat:=[0,0,0,6,0,0,0,96,240,496,0,0,3072,7168,0,0,49152,114688,261120,524272,1048575,2097151]
theorem Zk.tab8:rtab .any (opsOf Tryz.f65 8)=Zk.T8:=by kernel_rfl
theorem Zk.bits8:waitsOk Zk.T8.2 Zk.B8=true:=by kernel_rfl
theorem Zk.calls (k:Nat) (A0:Option Addr) (c0:Nat) (l0:List Int) (A1:Option Addr) (c1:Nat) (l1:List Int) (r:List Int) (w:World) (hr0:Kd.C (Kd.int .i64) w A0 l0.length l0) (hc0:l0.length<=c0) (hr1:Kd.C (Kd.int .i64) w A1 l1.length l1) (hc1:l1.length<=c1) (h:Zk.f k l0 l1=some r) :
  Calls Tryz.prog 65 #[.slice A0 l0.length c0,.slice A1 l1.length c1] w fun e w' => ∃ v0_:Value,e=.returned (v0_)/\Kd.R (Kd.int .i64) 3 w' w.heap.size (fun _=>True) v0_ r/\Below w.heap.size w w':=by
 have HR0:=am hr0
 have HC0:=am hc0
 clear hr0 hc0
 have HR1:=am hr1
 have HC1:=am hc1
 clear hr1 hc1
 have HB:=am (Below.refl w.heap.size w)
 have H:(if 0<=(wrap64 ((l0.length:Int)+(l1.length:Int))) then (if (wrap64 ((l0.length:Int)+(l1.length:Int)):Int).toNat<=35184372088832 then (Zk.l0 k l0 l1 (List.replicate (wrap64 ((l0.length:Int)+(l1.length:Int)):Int).toNat 0) 0) else (none)) else (none))=some r:=h
 clear h
 obtain ⟨ji3,hji3⟩:∃ j_:Int,(wrap64 ((l0.length:Int)+(l1.length:Int)))=j_:=⟨_,rfl⟩
 replace H:(if 0<=(ji3) then (if (ji3:Int).toNat<=35184372088832 then (Zk.l0 k l0 l1 (List.replicate (ji3:Int).toNat 0) 0) else (none)) else (none))=some r:=by first|(rw [hji3] at H;exact H)|(simp only [hji3] at H ⊢;exact H)
 have hji3w:(IntKind.i64.wrap ((l0.length:Int)+(l1.length:Int)))=ji3:=(Zc5 _).trans hji3
 replace H:=iI H
 rcases H with ⟨c4b0,c4b1,H⟩|⟨_,_,H⟩
 ·replace H:=iI H
  rcases H with ⟨c5b0,c5b1,H⟩|⟨_,_,H⟩
  ·obtain ⟨qy,qf⟩:∃ y_:List Int,y_=(List.replicate (ji3:Int).toNat 0):=⟨_,rfl⟩
   replace H:(Zk.l0 k l0 l1 qy 0)=some r:=by have hy_:=qf;exact pH
   have qh:=am qf
   clear qf
   have H':=am H
   clear H
   go_enter Tryz.func65,Tryz.ntmps65
   go_wp2_with (first|((with_reducible refine gd 13 ?_);refine Kd.Znc (Kd.int .i64) _ 3 rfl (N:=13) rfl 28 _ _ rfl ji3 rfl rfl Tryz.underlying28 (.int .i64 0) 8 info3 rfl (by decide) (by omega) 0 (ok:=fun _=>True) (okp:=fun _=>True) rfl (fun _ hk=>hk) trivial (of_decide_eq_true pQ) (Nat.le_trans (Nat.mul_le_mul_right _ (of_decide_eq_true pQ:ji3.toNat<=35184372088832)) (by omega)) (Below.refl _ _) (Nat.le_refl _) ?_;intro qx w6 ho7 hb hg_ hnew_;clear hg_ hnew_;(first|rw [<- qh.out] at ho7|(simp only [Int.reduceToNat] at ho7;rw [<- qh.out] at ho7));have qp:=am (Kd.Zt ho7 (Zb pB));replace HB:=bS hb;clear hb ho7))
   go_loopg [6] k (fun kq v6 w' => ∃ (x5_1:List Int) (x6_1:Int),v6=.int .i64 x6_1/\Aside0 (Zk.l0 kq l0 l1 x5_1 x6_1=some r)/\Aside0 (kq<=k)/\Aside0 (Kd.R (Kd.int .i64) 3 w' w.heap.size (fun _=>True) qx x5_1)/\Aside0 (Below w.heap.size w w'))
   case atStart=>exact ⟨(qy),(0),pR,H',⟨Nat.le_refl _⟩,⟨by refine rp ?_;exact qp.o⟩,⟨pB⟩⟩
   case round =>
    clear H'
    obtain ⟨x5_1,x6_1,rfl,HA,HK1,HO_5,HB⟩:=hrel
    cases gk with
    | zero=>exact absurd HA.out (by simp [Zk.l0])
    | succ k1 =>
     have H:=HA.out
     clear HA
     simp only [Zk.l0] at H
     replace H:=dI H
     rcases H with ⟨c8b0,H⟩|⟨c8b0,H⟩
     ·have H':=am H
      clear H
      go_wp2
      go_loopg [7] k1 (fun kq v7 w' => ∃ (x5_2:List Int) (x7_2:Int),v7=.int .i64 x7_2/\Aside0 (Zk.l1 kq l0 l1 x5_2 x6_1 x7_2=some r)/\Aside0 (kq<=k1)/\Aside0 (Kd.R (Kd.int .i64) 3 w' w.heap.size (fun _=>True) qx x5_2)/\Aside0 (Below w.heap.size w w'))
      case atStart=>exact ⟨(x5_1),(0),pR,H',⟨Nat.le_refl _⟩,⟨by refine rp ?_;exact HO_5.o⟩,⟨pB⟩⟩
      case round =>
       clear H'
       obtain ⟨x5_2,x7_2,rfl,HA,HK2,HO_5,HB⟩:=hrel
       cases gk with
       | zero=>exact absurd HA.out (by simp [Zk.l1])
       | succ k2 =>
        have H:=HA.out
        clear HA
        simp only [Zk.l1] at H
        replace H:=dI H
        rcases H with ⟨c9b0,H⟩|⟨c9b0,H⟩
        ·obtain ⟨ji10,hji10⟩:∃ j_:Int,(wrap64 (x6_1+x7_2))=j_:=⟨_,rfl⟩
         replace H:(if 0<=(ji10) then (if (ji10) < (x5_2.length:Int) then (if 0<=x6_1 then (if x6_1 < (l0.length:Int) then (if 0<=x7_2 then (Zk.l1 k2 l0 l1 (x5_2.set ((ji10):Int).toNat (wrap64 ((rd x5_2 (ji10))+(wrap64 ((rd l0 x6_1)*(rd l1 x7_2)))))) x6_1 (wrap64 (x7_2+1))) else (none)) else (none)) else (none)) else (none)) else (none))=some r:=by first|(rw [hji10] at H;exact H)|(simp only [hji10] at H ⊢;exact H)
         have hji10w:(IntKind.i64.wrap (x6_1+x7_2))=ji10:=(Zc5 _).trans hji10
         replace H:=dI H
         rcases H with ⟨c11b0,H⟩|⟨_,H⟩
         ·replace H:=dI H
          rcases H with ⟨c12b0,H⟩|⟨_,H⟩
          ·replace H:=dI H
           rcases H with ⟨c13b0,H⟩|⟨_,H⟩
           ·replace H:=dI H
            rcases H with ⟨c14b0,H⟩|⟨_,H⟩
            ·replace H:=dI H
             rcases H with ⟨c15b0,H⟩|⟨_,H⟩
             ·obtain ⟨qz,qg⟩:∃ y_:List Int,y_=(x5_2.set ((ji10):Int).toNat (wrap64 ((rd x5_2 (ji10))+(wrap64 ((rd l0 x6_1)*(rd l1 x7_2)))))):=⟨_,rfl⟩
              replace H:(Zk.l1 k2 l0 l1 qz x6_1 (wrap64 (x7_2+1)))=some r:=by have hy_:=qg;exact pH
              have qr:=am qg
              clear qg
              have H':=am H
              clear H
              try go_wp2
              replace HO_5:=am (Kd.Zdz HO_5.o)
              replace HB:=am (Zbe HB.o)
              obtain ⟨q7,q9,qv⟩:=Kd.Zm HO_5.o
              (first|subst qv|(injection qv with f1_ f2_ f3_;have f4_:=f1_.symm;have f5_:=f3_.symm;clear f1_ f2_ f3_;subst f4_;subst f5_))
              have qi:0<=((ji10):Int):=of_decide_eq_true pQ
              have ql:(ji10) < (x5_2.length:Int):=of_decide_eq_true pQ
              obtain ⟨q6,q2,qc⟩:=Kd.Zbi (Kd.Zf HO_5.o).2.2 (ji10) qi ql
              cases q2
              replace qi:=eq_true qi
              replace ql:=eq_true ql
              have qj:0<=(x6_1:Int):=of_decide_eq_true pQ
              have qm:x6_1 < (l0.length:Int):=of_decide_eq_true pQ
              obtain ⟨qs,q3,qa⟩:=Kd.Zbi HR0.o x6_1 qj qm
              have qd:=qa
              cases q3
              replace qa:=(HB.o.cell (World.block_lt_of_cell? w _ qa)).trans qa
              replace qj:=eq_true qj
              replace qm:=eq_true qm
              have qk:0<=(x7_2:Int):=of_decide_eq_true pQ
              have qn:x7_2 < (l1.length:Int):=of_decide_eq_true pQ
              obtain ⟨qt,q4,qb⟩:=Kd.Zbi HR1.o x7_2 qk qn
              have qe:=qb
              cases q4
              replace qb:=(HB.o.cell (World.block_lt_of_cell? w _ qb)).trans qb
              replace qk:=eq_true qk
              replace qn:=eq_true qn
              have p16:0<=((ji10):Int):=of_decide_eq_true pQ
              have q16:((ji10):Int) < ((x5_2.length:Int):Int):=of_decide_eq_true pQ
              obtain ⟨go16,q8,qu,qw,gl16,cl16,HG16⟩:=Kd.Zjj HO_5.o (by omega)
              (first|cases qu|(injection qu with ea_ en_ ec_;(first|subst ea_|(injection ea_ with ea_;subst ea_));subst ec_;clear en_))
              have GB16:=am qw
              have GG16:=am HG16
              clear qw gl16 HG16
              (first|simp only [add_plain] at qc|skip)
              obtain ⟨hx16_0,hf16_0⟩:=Kd.Zgh 0 HO_5.o ((ji10):Int) p16 q16
              replace p16:=eq_true p16
              replace q16:=eq_true q16
              have HP19:=Kd.Zne HO_5.o ((ji10):Int) (wrap64 ((rd x5_2 (ji10))+(wrap64 ((rd l0 x6_1)*(rd l1 x7_2)))))
              rw [<- qr.out] at HP19
              have HQ19:=am HP19
              clear HP19
              refine start_ (n:=22) (S:=fun w'=>w'.cell? ⟨go16,((ji10)).toNat,none⟩=some (.int .i64 (rd x5_2 (ji10)))/\w'.cell? (qs.add (x6_1).toNat)=some (.int .i64 (rd l0 x6_1))/\w'.cell? (qt.add (x7_2).toNat)=some (.int .i64 (rd l1 x7_2))) (ds:=[21]) #[false,false,false,false,false,false,false,false,false,false,false,false,false,false,false,false,false,false,false,false,false,false] (by kernel_rfl) rfl rfl ⟨qc,((HB.o.cell (World.block_lt_of_cell? w _ qd)).trans qd),((HB.o.cell (World.block_lt_of_cell? w _ qe)).trans qe)⟩ (fun hHeld=>?_);refine Zch Zk.tab8 Zk.bits8 (fun HT_ HW_=>?_)
              generalize wr.drew=w17 at HO_5 HB GG16 HQ19 hf16_0 hx16_0 qc qa qb hHeld ⊢
              refine pu 0 (some 26) #[true,false,false,false,false,false,false,false,false,false,false,false,false,false,false,false,false,false,false,false,false,false] (h:=?_)
              refine pu 1 (some 27) #[true,true,false,false,false,false,false,false,false,false,false,false,false,false,false,false,false,false,false,false,false,false] (h:=?_)
              refine pu 2 (some 28) #[true,true,true,false,false,false,false,false,false,false,false,false,false,false,false,false,false,false,false,false,false,false] (h:=?_)
              refine pu 3 (some 29) #[true,true,true,true,false,false,false,false,false,false,false,false,false,false,false,false,false,false,false,false,false,false] (h:=?_)
              refine pu 4 (some 30) #[true,true,true,true,true,false,false,false,false,false,false,false,false,false,false,false,false,false,false,false,false,false] (h:=?_)
              refine pu 5 (some 31) #[true,true,true,true,true,true,false,false,false,false,false,false,false,false,false,false,false,false,false,false,false,false] (h:=?_)
              refine pu 6 (some 32) #[true,true,true,true,true,true,true,false,false,false,false,false,false,false,false,false,false,false,false,false,false,false] (h:=?_)
              refine pu 7 (some 33) #[true,true,true,true,true,true,true,true,false,false,false,false,false,false,false,false,false,false,false,false,false,false] (h:=?_)
              refine pu 8 (some 34) #[true,true,true,true,true,true,true,true,true,false,false,false,false,false,false,false,false,false,false,false,false,false] (h:=?_)
              refine pu 10 (some 36) #[true,true,true,true,true,true,true,true,true,false,true,false,false,false,false,false,false,false,false,false,false,false] (h:=?_)
              refine pu 11 (some 37) #[true,true,true,true,true,true,true,true,true,false,true,true,false,false,false,false,false,false,false,false,false,false] (h:=?_)
              refine pu 12 (some 38) #[true,true,true,true,true,true,true,true,true,false,true,true,true,false,false,false,false,false,false,false,false,false] (h:=?_)
              refine pu 14 (some 40) #[true,true,true,true,true,true,true,true,true,false,true,true,true,false,true,false,false,false,false,false,false,false] (h:=?_)
              refine pu 15 (some 41) #[true,true,true,true,true,true,true,true,true,false,true,true,true,false,true,true,false,false,false,false,false,false] (h:=?_)
              refine pu 16 (some 42) #[true,true,true,true,true,true,true,true,true,false,true,true,true,false,true,true,true,false,false,false,false,false] (h:=?_)
              refine take_ (i:=9) (N:=some 35) (v:=?_) (a':=?_) #[true,true,true,true,true,true,true,true,true,true,true,true,true,false,true,true,true,false,false,false,false,false] rfl rfl (Za3 HT_.out HW_.out (by kernel_rfl)) (fun _ _ _ h=>h) (Or.inl ⟨by rfl,?_⟩) hHeld ?_ ?_
              rotate_left
              ·rintro w' ⟨s0,s1,s2⟩
               go_simp
               with_reducible rfl
              rotate_left
              ·exact pP
              refine take_ (i:=13) (N:=some 39) (v:=?_) (a':=?_) #[true,true,true,true,true,true,true,true,true,true,true,true,true,true,true,true,true,false,false,false,false,false] rfl rfl (Za3 HT_.out HW_.out (by kernel_rfl)) (fun _ _ _ h=>h) (Or.inl ⟨by rfl,?_⟩) hHeld ?_ ?_
              rotate_left
              ·rintro w' ⟨s0,s1,s2⟩
               go_simp
               with_reducible rfl
              rotate_left
              ·exact pP
              refine take_ (i:=17) (N:=some 43) (v:=?_) (a':=?_) #[true,true,true,true,true,true,true,true,true,true,true,true,true,true,true,true,true,true,false,false,false,false] rfl rfl (Za3 HT_.out HW_.out (by kernel_rfl)) (fun _ _ _ h=>h) (Or.inl ⟨by rfl,?_⟩) hHeld ?_ ?_
              rotate_left
              ·rintro w' ⟨s0,s1,s2⟩
               go_simp
               with_reducible rfl
              rotate_left
              ·exact pP
              refine pu 18 (some 44) #[true,true,true,true,true,true,true,true,true,true,true,true,true,true,true,true,true,true,true,false,false,false] (h:=?_)
              refine pu 19 (some 45) #[true,true,true,true,true,true,true,true,true,true,true,true,true,true,true,true,true,true,true,true,false,false] (h:=?_)
              refine pu 20 (some 46) #[true,true,true,true,true,true,true,true,true,true,true,true,true,true,true,true,true,true,true,true,true,false] (h:=?_)
              refine last_ (i:=21) (N:=none) #[true,true,true,true,true,true,true,true,true,true,true,true,true,true,true,true,true,true,true,true,true,true] rfl rfl (Za8 HT_.out (by kernel_rfl)) (by decide) (fun K hK=>?_)
              refine skip_ (w1:=?_) (by rfl) rfl ?_ ?_
              rotate_left
              ·go_simp
               rfl
              refine hK.out _ _ ?_
              clear hK K
              refine done_ (Zdg HT_.out (by kernel_rfl)) ?_
              try go_wp2
              go_roundg k2
              case measure=>exact pM
              case rel=>exact ⟨(qz),(wrap64 (x7_2+1)),pR,(by first|exact H'|(have H_:=H'.out;simp only [<- hji3] at H_;exact ⟨H_⟩)|(refine ⟨?_⟩;have H_:=H'.out;simp only [<- hji3] at H_ ⊢;exact H_)|(have H_:=H'.out;simp only [<- hji10] at H_;exact ⟨H_⟩)|(refine ⟨?_⟩;have H_:=H'.out;simp only [<- hji10] at H_ ⊢;exact H_)),pJ,⟨by refine rp ?_;exact HQ19.out⟩,⟨by repeat (first|(with_reducible first|exact HB.o|apply Zcm|apply Zbv|apply Zbe|refine Zd1 ?_ GB16.out)|exact HB.o)⟩⟩
             ·cases H
            ·cases H
           ·cases H
          ·cases H
         ·cases H
        ·have H':=am H
         clear H
         go_wp2
         go_roundg k2
         case measure=>exact pM
         case rel=>exact ⟨(x5_2),(wrap64 (x6_1+1)),pR,(by first|exact H'|(have H_:=H'.out;simp only [<- hji3] at H_;exact ⟨H_⟩)|(refine ⟨?_⟩;have H_:=H'.out;simp only [<- hji3] at H_ ⊢;exact H_)),pJ,⟨by refine rp ?_;exact HO_5.o⟩,⟨pB⟩⟩
     ·replace H:=ob H
      obtain ⟨qo,A20,H⟩:=H
      obtain rfl:=Option.some.inj H
      obtain ⟨q0,q1,q5⟩:=Kd.Zm HO_5.o
      subst q5
      go_wp2_with (first|(refine gL (some 48) Tryz.func121 #[.slice q0 x5_1.length q1] (h:=?_);(with_reducible refine (Zw.calls k1 _ _ x5_1 qo _ ?side1 ?side2 A20.o).mono ?_);(case side1=>exact Kd.Zv (Kd.Zf HO_5.o).2.2 pl);(case side2=>exact (Kd.Zf HO_5.o).2.1);rintro e w22 ⟨ja,rfl,ho0,hb⟩;refine ⟨_,rfl,?_⟩;have qq:=am (Kd.Zt (Kd.Zaj ho0 (Kd.R_lt (Kd.Zc HO_5.o pl))) (Zb pB));replace HO_5:=reR HO_5 ho0 hb;replace HB:=bS hb))
      go_ret
      exact ⟨_,by first|rfl|(simp [Za6,Za7] <;> rfl)|(simp only [<- hji3];first|rfl|(simp [Za6,Za7] <;> rfl))|(simp [*,Za6,Za7] <;> rfl),by refine rp ?_;exact Kd.Zi qq.o (fun _ hk=>trivial),pB⟩
  ·cases H
 ·cases H
mutual
def Zs.l0:Nat->List Int->List Int->List Int->Int->Option (List Int)
 | 0,_,_,_,_=>none
 | k+1,x0,x1,x5,x6=>if x6 < (x0.length:Int) then (Zs.j1 k x0 x1 x5 x6 true) else (Zs.j1 k x0 x1 x5 x6 (decide (x6 < (x1.length:Int))))
def Zs.j1:Nat->List Int->List Int->List Int->Int->Bool->Option (List Int)
 | 0,_,_,_,_,_=>none
 | k+1,x0,x1,x5,x6,x17=>if x17=true then (if x6 < (x0.length:Int) then (if 0<=x6 then (if x6 < (x1.length:Int) then (if x5.length < 17592186044416 then (Zs.l0 k x0 x1 (x5 ++ [wrap64 ((wrap64 (rd x0 x6))+(rd x1 x6))]) (wrap64 (x6+1))) else (none)) else (if x5.length < 17592186044416 then (Zs.l0 k x0 x1 (x5 ++ [wrap64 (rd x0 x6)]) (wrap64 (x6+1))) else (none))) else (none)) else (if x6 < (x1.length:Int) then (if 0<=x6 then (if x5.length < 17592186044416 then (Zs.l0 k x0 x1 (x5 ++ [wrap64 (rd x1 x6)]) (wrap64 (x6+1))) else (none)) else (none)) else (if x5.length < 17592186044416 then (Zs.l0 k x0 x1 (x5 ++ [0]) (wrap64 (x6+1))) else (none)))) else ((Zw.f k x5).bind fun qo=>(some qo))
end
def Zs.f (k:Nat) (l0:List Int) (l1:List Int):Option (List Int):=Zs.l0 k l0 l1 ([]:List Int) 0
theorem Zs.calls (k:Nat) (A0:Option Addr) (c0:Nat) (l0:List Int) (A1:Option Addr) (c1:Nat) (l1:List Int) (r:List Int) (w:World) (hr0:Kd.C (Kd.int .i64) w A0 l0.length l0) (hc0:l0.length<=c0) (hr1:Kd.C (Kd.int .i64) w A1 l1.length l1) (hc1:l1.length<=c1) (h:Zs.f k l0 l1=some r) :
  Calls Tryz.prog 85 #[.slice A0 l0.length c0,.slice A1 l1.length c1] w fun e w' => ∃ v0_:Value,e=.returned (v0_)/\Kd.R (Kd.int .i64) 3 w' w.heap.size (fun _=>True) v0_ r/\Below w.heap.size w w':=by
 have HR0:=am hr0
 have HC0:=am hc0
 clear hr0 hc0
 have HR1:=am hr1
 have HC1:=am hc1
 clear hr1 hc1
 have HB:=am (Below.refl w.heap.size w)
 have H:(Zs.l0 k l0 l1 ([]:List Int) 0)=some r:=h
 clear h
 have H':=am H
 clear H
 go_enter Tryz.func85,Tryz.ntmps85
 go_wp2
 go_loopg [5,6] k (fun kq v5 v6 w' => ∃ (x5_1:List Int) (x6_1:Int),v6=.int .i64 x6_1/\Aside0 (Zs.l0 kq l0 l1 x5_1 x6_1=some r)/\Aside0 (kq<=k)/\Aside0 (Kd.R (Kd.int .i64) 3 w' w.heap.size (fun _=>True) v5 x5_1)/\Aside0 (Below w.heap.size w w'))
 case atStart=>exact ⟨(([]:List Int)),(0),pR,H',⟨Nat.le_refl _⟩,⟨pN⟩,⟨pB⟩⟩
 case round =>
  clear H'
  obtain ⟨x5_1,x6_1,rfl,HA,HK1,HO_5,HB⟩:=hrel
  cases gk with
  | zero=>exact absurd HA.out (by simp [Zs.l0])
  | succ k1 =>
   have H:=HA.out
   clear HA
   simp only [Zs.l0] at H
   have HC3:=am H
   clear H
   go_upto_region 3 with (fail)
   go_cut [17] (fun v17 wc => ∃ (kq:Nat) (x17_2:Bool),v17=.bool x17_2/\Aside0 (Zs.j1 kq l0 l1 x5_1 x6_1 x17_2=some r)/\Aside0 (kq<=k1)/\Aside0 (Kd.R (Kd.int .i64) 3 wc w.heap.size (fun _=>True) u5 x5_1)/\Aside0 (Below w.heap.size w wc))
   case first =>
    have H:=HC3.o
    clear HC3
    replace H:=dI H
    rcases H with ⟨c4b0,H⟩|⟨c4b0,H⟩
    ·(first|rw [c4b0]|(simp only [Zc5,Zdv];rw [c4b0])|skip)
     have H':=am H
     clear H
     go_wp2
     go_meet
     case rel=>exact ⟨_,(true),pR,H',pJ,⟨by refine rp ?_;exact HO_5.o⟩,⟨pB⟩⟩
    ·(first|rw [c4b0]|(simp only [Zc5,Zdv];rw [c4b0])|skip)
     have H':=am H
     clear H
     go_wp2
     go_meet
     case rel=>exact ⟨_,(decide (x6_1 < (l1.length:Int))),pR,H',pJ,⟨by refine rp ?_;exact HO_5.o⟩,⟨pB⟩⟩
   case rest =>
    clear HC3
    obtain ⟨kq,x17_2,rfl,HA,HJ2,HO_5,HB⟩:=hcut
    cases kq with
    | zero=>exact absurd HA.out (by simp [Zs.j1])
    | succ kj2 =>
     have H:=HA.out
     clear HA
     simp only [Zs.j1] at H
     replace H:=tI (t:=x17_2) H
     rcases H with ⟨rfl,H⟩|⟨rfl,H⟩
     ·replace H:=dI H
      rcases H with ⟨c6b0,H⟩|⟨c6b0,H⟩
      ·replace H:=dI H
       rcases H with ⟨c7b0,H⟩|⟨_,H⟩
       ·replace H:=dI H
        rcases H with ⟨c8b0,H⟩|⟨c8b0,H⟩
        ·by_cases c9:x5_1.length < 17592186044416
         ·rw [if_pos c9] at H
          have LMc9:=am c9
          clear c9
          obtain ⟨qz,qf⟩:∃ y_:List Int,y_=(x5_1 ++ [wrap64 ((wrap64 (rd l0 x6_1))+(rd l1 x6_1))]):=⟨_,rfl⟩
          replace H:(Zs.l0 kj2 l0 l1 qz (wrap64 (x6_1+1)))=some r:=by have hy_:=qf;exact pH
          have qu:=am qf
          clear qf
          have H':=am H
          clear H
          have qd:0<=(x6_1:Int):=of_decide_eq_true pQ
          have qe:x6_1 < (l0.length:Int):=of_decide_eq_true pQ
          obtain ⟨qy,qj,qa⟩:=Kd.Zbi HR0.o x6_1 qd qe
          cases qj
          replace qa:=(HB.o.cell (World.block_lt_of_cell? w _ qa)).trans qa
          replace qd:=eq_true qd
          replace qe:=eq_true qe
          have qk:0<=(x6_1:Int):=of_decide_eq_true pQ
          have qm:x6_1 < (l1.length:Int):=of_decide_eq_true pQ
          obtain ⟨q8,q5,qb⟩:=Kd.Zbi HR1.o x6_1 qk qm
          cases q5
          replace qb:=(HB.o.cell (World.block_lt_of_cell? w _ qb)).trans qb
          replace qk:=eq_true qk
          replace qm:=eq_true qm
          go_wp2_with (first|((with_reducible refine Za1 (b:=.append) (xs:=#[.tmp 40,.tmp 42]) rfl ?_);(try (refine Za5 (by rfl) ?_;dsimp only));at_builtin;refine Kd.Zcb (Kd.int .i64) (w0:=w) w.heap.size rfl (.tmp 40) (.tmp 42) 28 3 (.int .i64 0) 8 rfl Tryz.underlying28 info3 rfl (by decide) (by omega) u5 x5_1 (wrap64 ((wrap64 (rd l0 x6_1))+(rd l1 x6_1))) [.int .i64 (wrap64 ((wrap64 (rd l0 x6_1))+(rd l1 x6_1)))] (fun _=>True) (fun _=>False) rfl rfl ?aP (fun _ hk=>hk.elim) ?aF ?aO ?aB ?aS ?aL ?_;(case aP=>exact rfl);(case aB=>exact pB);(case aF=>exact (fun _ _=>trivial));(case aO=>exact (Kd.Zc HO_5.o pl));(case aS=>exact (Zb pB));(case aL=>have := LMc9.o;omega);intro jb w10 ho hb hg hat;rw [<- qu.out] at ho;have qq:=am ho;replace HB:=am hb;clear HO_5 ho hb hg hat))
          go_roundg kj2
          case measure=>exact pM
          case rel=>exact ⟨(qz),(wrap64 (x6_1+1)),pR,H',pJ,⟨by refine rp ?_;exact qq.o⟩,⟨pB⟩⟩
         ·rw [if_neg c9] at H
          cases H
        ·by_cases c11:x5_1.length < 17592186044416
         ·rw [if_pos c11] at H
          have LMc11:=am c11
          clear c11
          obtain ⟨q0,qg⟩:∃ y_:List Int,y_=(x5_1 ++ [wrap64 (rd l0 x6_1)]):=⟨_,rfl⟩
          replace H:(Zs.l0 kj2 l0 l1 q0 (wrap64 (x6_1+1)))=some r:=by have hy_:=qg;exact pH
          have qv:=am qg
          clear qg
          have H':=am H
          clear H
          have qd:0<=(x6_1:Int):=of_decide_eq_true pQ
          have qe:x6_1 < (l0.length:Int):=of_decide_eq_true pQ
          obtain ⟨qy,qj,qa⟩:=Kd.Zbi HR0.o x6_1 qd qe
          cases qj
          replace qa:=(HB.o.cell (World.block_lt_of_cell? w _ qa)).trans qa
          replace qd:=eq_true qd
          replace qe:=eq_true qe
          go_wp2_with (first|((with_reducible refine Za1 (b:=.append) (xs:=#[.tmp 40,.tmp 42]) rfl ?_);(try (refine Za5 (by rfl) ?_;dsimp only));at_builtin;refine Kd.Zcb (Kd.int .i64) (w0:=w) w.heap.size rfl (.tmp 40) (.tmp 42) 28 3 (.int .i64 0) 8 rfl Tryz.underlying28 info3 rfl (by decide) (by omega) u5 x5_1 (wrap64 (rd l0 x6_1)) [.int .i64 (wrap64 (rd l0 x6_1))] (fun _=>True) (fun _=>False) rfl rfl ?aP (fun _ hk=>hk.elim) ?aF ?aO ?aB ?aS ?aL ?_;(case aP=>exact rfl);(case aB=>exact pB);(case aF=>exact (fun _ _=>trivial));(case aO=>exact (Kd.Zc HO_5.o pl));(case aS=>exact (Zb pB));(case aL=>have := LMc11.o;omega);intro jc w12 ho hb hg hat;rw [<- qv.out] at ho;have qr:=am ho;replace HB:=am hb;clear HO_5 ho hb hg hat))
          go_roundg kj2
          case measure=>exact pM
          case rel=>exact ⟨(q0),(wrap64 (x6_1+1)),pR,H',pJ,⟨by refine rp ?_;exact qr.o⟩,⟨pB⟩⟩
         ·rw [if_neg c11] at H
          cases H
       ·cases H
      ·replace H:=dI H
       rcases H with ⟨c13b0,H⟩|⟨c13b0,H⟩
       ·replace H:=dI H
        rcases H with ⟨c14b0,H⟩|⟨_,H⟩
        ·by_cases c15:x5_1.length < 17592186044416
         ·rw [if_pos c15] at H
          have LMc15:=am c15
          clear c15
          obtain ⟨q1,qh⟩:∃ y_:List Int,y_=(x5_1 ++ [wrap64 (rd l1 x6_1)]):=⟨_,rfl⟩
          replace H:(Zs.l0 kj2 l0 l1 q1 (wrap64 (x6_1+1)))=some r:=by have hy_:=qh;exact pH
          have qw:=am qh
          clear qh
          have H':=am H
          clear H
          have ql:0<=(x6_1:Int):=of_decide_eq_true pQ
          have qn:x6_1 < (l1.length:Int):=of_decide_eq_true pQ
          obtain ⟨q9,q6,qc⟩:=Kd.Zbi HR1.o x6_1 ql qn
          cases q6
          replace qc:=(HB.o.cell (World.block_lt_of_cell? w _ qc)).trans qc
          replace ql:=eq_true ql
          replace qn:=eq_true qn
          go_wp2_with (first|((with_reducible refine Za1 (b:=.append) (xs:=#[.tmp 40,.tmp 42]) rfl ?_);(try (refine Za5 (by rfl) ?_;dsimp only));at_builtin;refine Kd.Zcb (Kd.int .i64) (w0:=w) w.heap.size rfl (.tmp 40) (.tmp 42) 28 3 (.int .i64 0) 8 rfl Tryz.underlying28 info3 rfl (by decide) (by omega) u5 x5_1 (wrap64 (rd l1 x6_1)) [.int .i64 (wrap64 (rd l1 x6_1))] (fun _=>True) (fun _=>False) rfl rfl ?aP (fun _ hk=>hk.elim) ?aF ?aO ?aB ?aS ?aL ?_;(case aP=>exact rfl);(case aB=>exact pB);(case aF=>exact (fun _ _=>trivial));(case aO=>exact (Kd.Zc HO_5.o pl));(case aS=>exact (Zb pB));(case aL=>have := LMc15.o;omega);intro jd w16 ho hb hg hat;rw [<- qw.out] at ho;have qs:=am ho;replace HB:=am hb;clear HO_5 ho hb hg hat))
          go_roundg kj2
          case measure=>exact pM
          case rel=>exact ⟨(q1),(wrap64 (x6_1+1)),pR,H',pJ,⟨by refine rp ?_;exact qs.o⟩,⟨pB⟩⟩
         ·rw [if_neg c15] at H
          cases H
        ·cases H
       ·by_cases c17:x5_1.length < 17592186044416
        ·rw [if_pos c17] at H
         have LMc17:=am c17
         clear c17
         obtain ⟨q2,qi⟩:∃ y_:List Int,y_=(x5_1 ++ [0]):=⟨_,rfl⟩
         replace H:(Zs.l0 kj2 l0 l1 q2 (wrap64 (x6_1+1)))=some r:=by have hy_:=qi;exact pH
         have qx:=am qi
         clear qi
         have H':=am H
         clear H
         go_wp2_with (first|((with_reducible refine Za1 (b:=.append) (xs:=#[.tmp 40,.tmp 42]) rfl ?_);(try (refine Za5 (by rfl) ?_;dsimp only));at_builtin;refine Kd.Zcb (Kd.int .i64) (w0:=w) w.heap.size rfl (.tmp 40) (.tmp 42) 28 3 (.int .i64 0) 8 rfl Tryz.underlying28 info3 rfl (by decide) (by omega) u5 x5_1 0 [.int .i64 0] (fun _=>True) (fun _=>False) rfl rfl ?aP (fun _ hk=>hk.elim) ?aF ?aO ?aB ?aS ?aL ?_;(case aP=>exact rfl);(case aB=>exact pB);(case aF=>exact (fun _ _=>trivial));(case aO=>exact (Kd.Zc HO_5.o pl));(case aS=>exact (Zb pB));(case aL=>have := LMc17.o;omega);intro je w18 ho hb hg hat;rw [<- qx.out] at ho;have qt:=am ho;replace HB:=am hb;clear HO_5 ho hb hg hat))
         go_roundg kj2
         case measure=>exact pM
         case rel=>exact ⟨(q2),(wrap64 (x6_1+1)),pR,H',pJ,⟨by refine rp ?_;exact qt.o⟩,⟨pB⟩⟩
        ·rw [if_neg c17] at H
         cases H
     ·replace H:=ob H
      obtain ⟨qo,A19,H⟩:=H
      obtain rfl:=Option.some.inj H
      obtain ⟨q3,q4,q7⟩:=Kd.Zm HO_5.o
      subst q7
      go_wp2_with (first|(refine gL (some 45) Tryz.func121 #[.slice q3 x5_1.length q4] (h:=?_);(with_reducible refine (Zw.calls kj2 _ _ x5_1 qo _ ?side1 ?side2 A19.o).mono ?_);(case side1=>exact Kd.Zv (Kd.Zf HO_5.o).2.2 pl);(case side2=>exact (Kd.Zf HO_5.o).2.1);rintro e w21 ⟨ja,rfl,ho0,hb⟩;refine ⟨_,rfl,?_⟩;have qp:=am (Kd.Zt (Kd.Zaj ho0 (Kd.R_lt (Kd.Zc HO_5.o pl))) (Zb pB));replace HO_5:=reR HO_5 ho0 hb;replace HB:=bS hb))
      go_ret
      exact ⟨_,pE,by refine rp ?_;exact Kd.Zi qp.o (fun _ hk=>trivial),pB⟩
def Zas.l0:Nat->List Int->List Int->Int->Option (Int)
 | 0,_,_,_=>none
 | k+1,x0,x1,x5=>if x5 >= 0 then (if 0<=x5 then (if x5 < (x0.length:Int) then (if x5 < (x1.length:Int) then (if (rd x0 x5) < (rd x1 x5) then (some (-1)) else (if (rd x0 x5) > (rd x1 x5) then (some 1) else (Zas.l0 k x0 x1 (wrap64 (x5 - 1))))) else (none)) else (none)) else (none)) else (some 0)
def Zas.f (k:Nat) (l0:List Int) (l1:List Int):Option (Int):=if (l0.length:Int) < (l1.length:Int) then (some (-1)) else (if (l0.length:Int) > (l1.length:Int) then (some 1) else (Zas.l0 k l0 l1 (wrap64 ((l0.length:Int) - 1))))
theorem Zas.calls (k:Nat) (A0:Option Addr) (c0:Nat) (l0:List Int) (A1:Option Addr) (c1:Nat) (l1:List Int) (r:Int) (w:World) (hr0:Kd.C (Kd.int .i64) w A0 l0.length l0) (hc0:l0.length<=c0) (hr1:Kd.C (Kd.int .i64) w A1 l1.length l1) (hc1:l1.length<=c1) (h:Zas.f k l0 l1=some r) :
  Calls Tryz.prog 94 #[.slice A0 l0.length c0,.slice A1 l1.length c1] w fun e w'=>e=.returned (.int .i64 r)/\Drawn0 w w':=by
 have HR0:=am hr0
 have HC0:=am hc0
 clear hr0 hc0
 have HR1:=am hr1
 have HC1:=am hc1
 clear hr1 hc1
 have H:(if (l0.length:Int) < (l1.length:Int) then (some (-1)) else (if (l0.length:Int) > (l1.length:Int) then (some 1) else (Zas.l0 k l0 l1 (wrap64 ((l0.length:Int) - 1)))))=some r:=h
 clear h
 by_cases c3:(l0.length:Int) < (l1.length:Int)
 ·rw [if_pos c3] at H
  have c3b0:decide ((l0.length:Int) < (l1.length:Int))=true:=decide_eq_true c3
  have c3b1:decide (l0.length < l1.length)=true:=decide_eq_true (Int.ofNat_lt.mp c3)
  clear c3
  obtain rfl:=Option.some.inj H
  go_enter Tryz.func94,Tryz.ntmps94
  go_wp2
  repeat (go_quiet (fail);try go_wp2)
  go_ret
  exact ⟨pR,pD⟩
 ·rw [if_neg c3] at H
  have c3b0:decide ((l0.length:Int) < (l1.length:Int))=false:=decide_eq_false c3
  have c3b1:decide (l0.length < l1.length)=false:=decide_eq_false (fun h=>c3 (Int.ofNat_lt.mpr h))
  clear c3
  by_cases c4:(l0.length:Int) > (l1.length:Int)
  ·rw [if_pos c4] at H
   have c4b0:decide ((l1.length:Int) < (l0.length:Int))=true:=decide_eq_true c4
   have c4b1:decide (l1.length < l0.length)=true:=decide_eq_true (Int.ofNat_lt.mp c4)
   clear c4
   obtain rfl:=Option.some.inj H
   go_enter Tryz.func94,Tryz.ntmps94
   go_wp2
   repeat (go_quiet (fail);try go_wp2)
   go_ret
   exact ⟨pR,pD⟩
  ·rw [if_neg c4] at H
   have c4b0:decide ((l1.length:Int) < (l0.length:Int))=false:=decide_eq_false c4
   have c4b1:decide (l1.length < l0.length)=false:=decide_eq_false (fun h=>c4 (Int.ofNat_lt.mpr h))
   clear c4
   have H':=am H
   clear H
   go_enter Tryz.func94,Tryz.ntmps94
   go_wp2
   repeat (go_quiet (fail);try go_wp2)
   go_loopg [5] k (fun kq v5 w' => ∃ (x5_1:Int),v5=.int .i64 x5_1/\Aside0 (Zas.l0 kq l0 l1 x5_1=some r)/\Aside0 (kq<=k)/\Drawn0 w w')
   case atStart=>exact ⟨(wrap64 ((l0.length:Int) - 1)),pR,H',⟨Nat.le_refl _⟩,pD⟩
   case round =>
    clear H'
    obtain ⟨x5_1,rfl,HA,HK1,⟨m1,rfl⟩⟩:=hrel
    cases gk with
    | zero=>exact absurd HA.out (by simp [Zas.l0])
    | succ k1 =>
     have H:=HA.out
     clear HA
     simp only [Zas.l0] at H
     replace H:=hI H
     rcases H with ⟨c5b0,H⟩|⟨c5b0,H⟩
     ·replace H:=dI H
      rcases H with ⟨c6b0,H⟩|⟨_,H⟩
      ·replace H:=dI H
       rcases H with ⟨c7b0,H⟩|⟨_,H⟩
       ·replace H:=dI H
        rcases H with ⟨c8b0,H⟩|⟨_,H⟩
        ·replace H:=dI H
         rcases H with ⟨c9b0,H⟩|⟨c9b0,H⟩
         ·obtain rfl:=Option.some.inj H
          have qa:0<=(x5_1:Int):=of_decide_eq_true pQ
          have qc:x5_1 < (l0.length:Int):=of_decide_eq_true pQ
          obtain ⟨qi,qo,qk⟩:=Kd.Zbi HR0.o x5_1 qa qc
          cases qo
          replace qa:=eq_true qa
          replace qc:=eq_true qc
          have qb:0<=(x5_1:Int):=of_decide_eq_true pQ
          have qd:x5_1 < (l1.length:Int):=of_decide_eq_true pQ
          obtain ⟨qj,qp,ql⟩:=Kd.Zbi HR1.o x5_1 qb qd
          cases qp
          replace qb:=eq_true qb
          replace qd:=eq_true qd
          go_wp2
          repeat (go_quiet (fail);try go_wp2)
          go_ret
          exact ⟨pR,pD⟩
         ·replace H:=gI H
          rcases H with ⟨c10b0,H⟩|⟨c10b0,H⟩
          ·obtain rfl:=Option.some.inj H
           have qa:0<=(x5_1:Int):=of_decide_eq_true pQ
           have qc:x5_1 < (l0.length:Int):=of_decide_eq_true pQ
           obtain ⟨qi,qo,qk⟩:=Kd.Zbi HR0.o x5_1 qa qc
           cases qo
           replace qa:=eq_true qa
           replace qc:=eq_true qc
           have qb:0<=(x5_1:Int):=of_decide_eq_true pQ
           have qd:x5_1 < (l1.length:Int):=of_decide_eq_true pQ
           obtain ⟨qj,qp,ql⟩:=Kd.Zbi HR1.o x5_1 qb qd
           cases qp
           replace qb:=eq_true qb
           replace qd:=eq_true qd
           have qe:0<=(x5_1:Int):=of_decide_eq_true pQ
           have qg:x5_1 < (l0.length:Int):=of_decide_eq_true pQ
           obtain ⟨qm,qs,qq⟩:=Kd.Zbi HR0.o x5_1 qe qg
           obtain rfl:qi=qm:=(by injection qs)
           replace qe:=eq_true qe
           replace qg:=eq_true qg
           have qf:0<=(x5_1:Int):=of_decide_eq_true pQ
           have qh:x5_1 < (l1.length:Int):=of_decide_eq_true pQ
           obtain ⟨qn,qt,qr⟩:=Kd.Zbi HR1.o x5_1 qf qh
           obtain rfl:qj=qn:=(by injection qt)
           replace qf:=eq_true qf
           replace qh:=eq_true qh
           go_wp2
           repeat (go_quiet (fail);try go_wp2)
           go_ret
           exact ⟨pR,pD⟩
          ·have H':=am H
           clear H
           have qa:0<=(x5_1:Int):=of_decide_eq_true pQ
           have qc:x5_1 < (l0.length:Int):=of_decide_eq_true pQ
           obtain ⟨qi,qo,qk⟩:=Kd.Zbi HR0.o x5_1 qa qc
           cases qo
           replace qa:=eq_true qa
           replace qc:=eq_true qc
           have qb:0<=(x5_1:Int):=of_decide_eq_true pQ
           have qd:x5_1 < (l1.length:Int):=of_decide_eq_true pQ
           obtain ⟨qj,qp,ql⟩:=Kd.Zbi HR1.o x5_1 qb qd
           cases qp
           replace qb:=eq_true qb
           replace qd:=eq_true qd
           have qe:0<=(x5_1:Int):=of_decide_eq_true pQ
           have qg:x5_1 < (l0.length:Int):=of_decide_eq_true pQ
           obtain ⟨qm,qs,qq⟩:=Kd.Zbi HR0.o x5_1 qe qg
           obtain rfl:qi=qm:=(by injection qs)
           replace qe:=eq_true qe
           replace qg:=eq_true qg
           have qf:0<=(x5_1:Int):=of_decide_eq_true pQ
           have qh:x5_1 < (l1.length:Int):=of_decide_eq_true pQ
           obtain ⟨qn,qt,qr⟩:=Kd.Zbi HR1.o x5_1 qf qh
           obtain rfl:qj=qn:=(by injection qt)
           replace qf:=eq_true qf
           replace qh:=eq_true qh
           go_wp2
           repeat (go_quiet (fail);try go_wp2)
           go_roundg k1
           case measure=>exact pM
           case rel=>exact ⟨(wrap64 (x5_1 - 1)),pR,H',pJ,pD⟩
        ·cases H
       ·cases H
      ·cases H
     ·obtain rfl:=Option.some.inj H
      go_wp2
      repeat (go_quiet (fail);try go_wp2)
      go_ret
      exact ⟨pR,pD⟩
def Zba.f (l0:List Int) (a1:Int):Option (List Int):=if (l0.length:Int)=0 then (some ([]:List Int)) else (if 0<=a1 then (if (a1:Int).toNat<=35184372088832 then ((some (List.replicate (a1:Int).toNat 0:List Int)).bind fun qa=>(if qa.length+l0.length < 17592186044416 then (some (qa++l0)) else (none))) else (none)) else (none))
theorem Zba.calls (A0:Option Addr) (c0:Nat) (l0:List Int) (a1:Int) (r:List Int) (w:World) (hr0:Kd.C (Kd.int .i64) w A0 l0.length l0) (hc0:l0.length<=c0) (h:Zba.f l0 a1=some r) :
  Calls Tryz.prog 93 #[.slice A0 l0.length c0,.int .i64 a1] w fun e w' => ∃ v0_:Value,e=.returned (v0_)/\Kd.R (Kd.int .i64) 3 w' w.heap.size (fun _=>True) v0_ r/\Below w.heap.size w w':=by
 have HR0:=am hr0
 have HC0:=am hc0
 clear hr0 hc0
 have HB:=am (Below.refl w.heap.size w)
 have H:(if (l0.length:Int)=0 then (some ([]:List Int)) else (if 0<=a1 then (if (a1:Int).toNat<=35184372088832 then ((some (List.replicate (a1:Int).toNat 0:List Int)).bind fun qa=>(if qa.length+l0.length < 17592186044416 then (some (qa++l0)) else (none))) else (none)) else (none)))=some r:=h
 clear h
 replace H:=eI H
 rcases H with ⟨c3b0,c3b1,H⟩|⟨c3,c3b0,c3b1,H⟩
 ·obtain rfl:=Option.some.inj H
  go_enter Tryz.func93,Tryz.ntmps93
  go_wp2
  go_ret
  exact ⟨_,pE,pN,pB⟩
 ·have c3b2:¬ (l0=[]):=fun h_=>c3 (by rw [h_];rfl)
  replace H:=iI H
  rcases H with ⟨c4b0,c4b1,H⟩|⟨_,_,H⟩
  ·replace H:=iI H
   rcases H with ⟨c5b0,c5b1,H⟩|⟨_,_,H⟩
   ·obtain ⟨qa,qb⟩:∃ y_:List Int,y_=(List.replicate (a1:Int).toNat 0):=⟨_,rfl⟩
    replace H:(if qa.length+l0.length < 17592186044416 then (some (qa++l0)) else (none))=some r:=by have hy_:=qb;exact pH
    have qe:=am qb
    clear qb
    by_cases c6:qa.length+l0.length < 17592186044416
    ·rw [if_pos c6] at H
     have LMc6:=am c6
     clear c6
     obtain ⟨qi,qc⟩:∃ y_:List Int,y_=(qa++l0):=⟨_,rfl⟩
     replace H:(some qi)=some r:=by have hy_:=qc;exact pH
     have qg:=am qc
     clear qc
     obtain rfl:=Option.some.inj H
     go_enter Tryz.func93,Tryz.ntmps93
     go_wp2_with (first|((with_reducible refine gd 10 ?_);refine Kd.Znc (Kd.int .i64) _ 3 rfl (N:=10) rfl 28 _ _ rfl a1 rfl rfl Tryz.underlying28 (.int .i64 0) 8 info3 rfl (by decide) (by omega) 0 (ok:=fun _=>True) (okp:=fun _=>True) rfl (fun _ hk=>hk) trivial (of_decide_eq_true pQ) (Nat.le_trans (Nat.mul_le_mul_right _ (of_decide_eq_true pQ:a1.toNat<=35184372088832)) (by omega)) (Below.refl _ _) (Nat.le_refl _) ?_;intro qh w7 ho8 hb hg_ hnew_;clear hg_ hnew_;(first|rw [<- qe.out] at ho8|(simp only [Int.reduceToNat] at ho8;rw [<- qe.out] at ho8));have qd:=am (Kd.Zt ho8 (Zb pB));replace HB:=bS hb;clear hb ho8)|((with_reducible refine Za1 (b:=.append) (xs:=#[.tmp 11,.tmp 12]) rfl ?_);at_builtin;refine Kd.Zdy (Kd.int .i64) (w0:=w) w.heap.size rfl (.tmp 11) (.tmp 12) 28 3 (.int .i64 0) 8 rfl Tryz.underlying28 info3 rfl (by decide) (by omega) qh qa l0 _ _ _ (fun _=>True) (fun _=>False) rfl rfl ?aO ?aR (fun _ _ h=>h) (fun _ h=>h.elim) ?aF ?aB ?aS ?aL ?_;(case aR=>exact cB HR0 HB);(case aB=>exact pB);(case aF=>exact (fun _ _=>trivial));(case aO=>exact (Kd.Zc qd.o pl));(case aS=>exact (Zb pB));(case aL=>have := LMc6.o;omega);intro qj w9 ho hb hg hat;rw [<- qg.out] at ho;have qf:=am ho;replace HB:=am hb;clear qd ho hb hg hat))
     go_ret
     exact ⟨_,pE,by refine rp ?_;exact qf.o,pB⟩
    ·rw [if_neg c6] at H
     cases H
   ·cases H
  ·cases H
def Zac.l0:Nat->List Int->List Int->List Int->Int->Int->Option (List Int)
 | 0,_,_,_,_,_=>none
 | k+1,x0,x1,x5,x6,x7=>if x7 < (x0.length:Int) then (if 0<=x7 then (if x7 < (x1.length:Int) then (if (wrap64 ((wrap64 ((rd x0 x7) - x6)) - (rd x1 x7))) < 0 then (if x5.length < 17592186044416 then (Zac.l0 k x0 x1 (x5 ++ [wrap64 ((wrap64 ((wrap64 ((rd x0 x7) - x6)) - (rd x1 x7)))+10)]) 1 (wrap64 (x7+1))) else (none)) else (if x5.length < 17592186044416 then (Zac.l0 k x0 x1 (x5 ++ [wrap64 ((wrap64 ((rd x0 x7) - x6)) - (rd x1 x7))]) 0 (wrap64 (x7+1))) else (none))) else (if (wrap64 ((rd x0 x7) - x6)) < 0 then (if x5.length < 17592186044416 then (Zac.l0 k x0 x1 (x5 ++ [wrap64 ((wrap64 ((rd x0 x7) - x6))+10)]) 1 (wrap64 (x7+1))) else (none)) else (if x5.length < 17592186044416 then (Zac.l0 k x0 x1 (x5 ++ [wrap64 ((rd x0 x7) - x6)]) 0 (wrap64 (x7+1))) else (none)))) else (none)) else ((Zar.f k x5).bind fun qp=>(some qp))
def Zac.f (k:Nat) (l0:List Int) (l1:List Int):Option (List Int):=Zac.l0 k l0 l1 ([]:List Int) 0 0
theorem Zac.calls (k:Nat) (A0:Option Addr) (c0:Nat) (l0:List Int) (A1:Option Addr) (c1:Nat) (l1:List Int) (r:List Int) (w:World) (hr0:Kd.C (Kd.int .i64) w A0 l0.length l0) (hc0:l0.length<=c0) (hr1:Kd.C (Kd.int .i64) w A1 l1.length l1) (hc1:l1.length<=c1) (h:Zac.f k l0 l1=some r) :
  Calls Tryz.prog 134 #[.slice A0 l0.length c0,.slice A1 l1.length c1] w fun e w' => ∃ v0_:Value,e=.returned (v0_)/\Kd.R (Kd.int .i64) 3 w' w.heap.size (fun _=>True) v0_ r/\Below w.heap.size w w':=by
 have HR0:=am hr0
 have HC0:=am hc0
 clear hr0 hc0
 have HR1:=am hr1
 have HC1:=am hc1
 clear hr1 hc1
 have HB:=am (Below.refl w.heap.size w)
 have H:(Zac.l0 k l0 l1 ([]:List Int) 0 0)=some r:=h
 clear h
 have H':=am H
 clear H
 go_enter Tryz.func134,Tryz.ntmps134
 go_wp2
 go_loopg [5,6,7] k (fun kq v5 v6 v7 w' => ∃ (x5_1:List Int) (x6_1:Int) (x7_1:Int),v6=.int .i64 x6_1/\v7=.int .i64 x7_1/\Aside0 (Zac.l0 kq l0 l1 x5_1 x6_1 x7_1=some r)/\Aside0 (kq<=k)/\Aside0 (Kd.R (Kd.int .i64) 3 w' w.heap.size (fun _=>True) v5 x5_1)/\Aside0 (Below w.heap.size w w'))
 case atStart=>exact ⟨(([]:List Int)),(0),(0),pR,pR,H',⟨Nat.le_refl _⟩,⟨pN⟩,⟨pB⟩⟩
 case round =>
  clear H'
  obtain ⟨x5_1,x6_1,x7_1,rfl,rfl,HA,HK1,HO_5,HB⟩:=hrel
  cases gk with
  | zero=>exact absurd HA.out (by simp [Zac.l0])
  | succ k1 =>
   have H:=HA.out
   clear HA
   simp only [Zac.l0] at H
   replace H:=dI H
   rcases H with ⟨c3b0,H⟩|⟨c3b0,H⟩
   ·replace H:=dI H
    rcases H with ⟨c4b0,H⟩|⟨_,H⟩
    ·replace H:=dI H
     rcases H with ⟨c5b0,H⟩|⟨c5b0,H⟩
     ·replace H:=dI H
      rcases H with ⟨c6b0,H⟩|⟨c6b0,H⟩
      ·by_cases c7:x5_1.length < 17592186044416
       ·rw [if_pos c7] at H
        have LMc7:=am c7
        clear c7
        obtain ⟨q0,qi⟩:∃ y_:List Int,y_=(x5_1 ++ [wrap64 ((wrap64 ((wrap64 ((rd l0 x7_1) - x6_1)) - (rd l1 x7_1)))+10)]):=⟨_,rfl⟩
        replace H:(Zac.l0 k1 l0 l1 q0 1 (wrap64 (x7_1+1)))=some r:=by have hy_:=qi;exact pH
        have qv:=am qi
        clear qi
        have H':=am H
        clear H
        have qc:0<=(x7_1:Int):=of_decide_eq_true pQ
        have qd:x7_1 < (l0.length:Int):=of_decide_eq_true pQ
        obtain ⟨qh,qe,qa⟩:=Kd.Zbi HR0.o x7_1 qc qd
        cases qe
        replace qa:=(HB.o.cell (World.block_lt_of_cell? w _ qa)).trans qa
        replace qc:=eq_true qc
        replace qd:=eq_true qd
        have qf:0<=(x7_1:Int):=of_decide_eq_true pQ
        have qg:x7_1 < (l1.length:Int):=of_decide_eq_true pQ
        obtain ⟨qz,qo,qb⟩:=Kd.Zbi HR1.o x7_1 qf qg
        cases qo
        replace qb:=(HB.o.cell (World.block_lt_of_cell? w _ qb)).trans qb
        replace qf:=eq_true qf
        replace qg:=eq_true qg
        go_wp2_with (first|((with_reducible refine Za1 (b:=.append) (xs:=#[.tmp 35,.tmp 37]) rfl ?_);at_builtin;refine Kd.Zcb (Kd.int .i64) (w0:=w) w.heap.size rfl (.tmp 35) (.tmp 37) 28 3 (.int .i64 0) 8 rfl Tryz.underlying28 info3 rfl (by decide) (by omega) u5 x5_1 (wrap64 ((wrap64 ((wrap64 ((rd l0 x7_1) - x6_1)) - (rd l1 x7_1)))+10)) [.int .i64 (wrap64 ((wrap64 ((wrap64 ((rd l0 x7_1) - x6_1)) - (rd l1 x7_1)))+10))] (fun _=>True) (fun _=>False) rfl rfl ?aP (fun _ hk=>hk.elim) ?aF ?aO ?aB ?aS ?aL ?_;(case aP=>exact rfl);(case aB=>exact pB);(case aF=>exact (fun _ _=>trivial));(case aO=>exact (Kd.Zc HO_5.o pl));(case aS=>exact (Zb pB));(case aL=>have := LMc7.o;omega);intro q6 w8 ho hb hg hat;rw [<- qv.out] at ho;have qr:=am ho;replace HB:=am hb;clear HO_5 ho hb hg hat))
        go_roundg k1
        case measure=>exact pM
        case rel=>exact ⟨(q0),(1),(wrap64 (x7_1+1)),pR,pR,H',pJ,⟨by refine rp ?_;exact qr.o⟩,⟨pB⟩⟩
       ·rw [if_neg c7] at H
        cases H
      ·by_cases c9:x5_1.length < 17592186044416
       ·rw [if_pos c9] at H
        have LMc9:=am c9
        clear c9
        obtain ⟨q1,qj⟩:∃ y_:List Int,y_=(x5_1 ++ [wrap64 ((wrap64 ((rd l0 x7_1) - x6_1)) - (rd l1 x7_1))]):=⟨_,rfl⟩
        replace H:(Zac.l0 k1 l0 l1 q1 0 (wrap64 (x7_1+1)))=some r:=by have hy_:=qj;exact pH
        have qw:=am qj
        clear qj
        have H':=am H
        clear H
        have qc:0<=(x7_1:Int):=of_decide_eq_true pQ
        have qd:x7_1 < (l0.length:Int):=of_decide_eq_true pQ
        obtain ⟨qh,qe,qa⟩:=Kd.Zbi HR0.o x7_1 qc qd
        cases qe
        replace qa:=(HB.o.cell (World.block_lt_of_cell? w _ qa)).trans qa
        replace qc:=eq_true qc
        replace qd:=eq_true qd
        have qf:0<=(x7_1:Int):=of_decide_eq_true pQ
        have qg:x7_1 < (l1.length:Int):=of_decide_eq_true pQ
        obtain ⟨qz,qo,qb⟩:=Kd.Zbi HR1.o x7_1 qf qg
        cases qo
        replace qb:=(HB.o.cell (World.block_lt_of_cell? w _ qb)).trans qb
        replace qf:=eq_true qf
        replace qg:=eq_true qg
        go_wp2_with (first|((with_reducible refine Za1 (b:=.append) (xs:=#[.tmp 35,.tmp 37]) rfl ?_);at_builtin;refine Kd.Zcb (Kd.int .i64) (w0:=w) w.heap.size rfl (.tmp 35) (.tmp 37) 28 3 (.int .i64 0) 8 rfl Tryz.underlying28 info3 rfl (by decide) (by omega) u5 x5_1 (wrap64 ((wrap64 ((rd l0 x7_1) - x6_1)) - (rd l1 x7_1))) [.int .i64 (wrap64 ((wrap64 ((rd l0 x7_1) - x6_1)) - (rd l1 x7_1)))] (fun _=>True) (fun _=>False) rfl rfl ?aP (fun _ hk=>hk.elim) ?aF ?aO ?aB ?aS ?aL ?_;(case aP=>exact rfl);(case aB=>exact pB);(case aF=>exact (fun _ _=>trivial));(case aO=>exact (Kd.Zc HO_5.o pl));(case aS=>exact (Zb pB));(case aL=>have := LMc9.o;omega);intro q7 w10 ho hb hg hat;rw [<- qw.out] at ho;have qs:=am ho;replace HB:=am hb;clear HO_5 ho hb hg hat))
        go_roundg k1
        case measure=>exact pM
        case rel=>exact ⟨(q1),(0),(wrap64 (x7_1+1)),pR,pR,H',pJ,⟨by refine rp ?_;exact qs.o⟩,⟨pB⟩⟩
       ·rw [if_neg c9] at H
        cases H
     ·replace H:=dI H
      rcases H with ⟨c11b0,H⟩|⟨c11b0,H⟩
      ·by_cases c12:x5_1.length < 17592186044416
       ·rw [if_pos c12] at H
        have LMc12:=am c12
        clear c12
        obtain ⟨q2,qk⟩:∃ y_:List Int,y_=(x5_1 ++ [wrap64 ((wrap64 ((rd l0 x7_1) - x6_1))+10)]):=⟨_,rfl⟩
        replace H:(Zac.l0 k1 l0 l1 q2 1 (wrap64 (x7_1+1)))=some r:=by have hy_:=qk;exact pH
        have qx:=am qk
        clear qk
        have H':=am H
        clear H
        have qc:0<=(x7_1:Int):=of_decide_eq_true pQ
        have qd:x7_1 < (l0.length:Int):=of_decide_eq_true pQ
        obtain ⟨qh,qe,qa⟩:=Kd.Zbi HR0.o x7_1 qc qd
        cases qe
        replace qa:=(HB.o.cell (World.block_lt_of_cell? w _ qa)).trans qa
        replace qc:=eq_true qc
        replace qd:=eq_true qd
        go_wp2_with (first|((with_reducible refine Za1 (b:=.append) (xs:=#[.tmp 35,.tmp 37]) rfl ?_);at_builtin;refine Kd.Zcb (Kd.int .i64) (w0:=w) w.heap.size rfl (.tmp 35) (.tmp 37) 28 3 (.int .i64 0) 8 rfl Tryz.underlying28 info3 rfl (by decide) (by omega) u5 x5_1 (wrap64 ((wrap64 ((rd l0 x7_1) - x6_1))+10)) [.int .i64 (wrap64 ((wrap64 ((rd l0 x7_1) - x6_1))+10))] (fun _=>True) (fun _=>False) rfl rfl ?aP (fun _ hk=>hk.elim) ?aF ?aO ?aB ?aS ?aL ?_;(case aP=>exact rfl);(case aB=>exact pB);(case aF=>exact (fun _ _=>trivial));(case aO=>exact (Kd.Zc HO_5.o pl));(case aS=>exact (Zb pB));(case aL=>have := LMc12.o;omega);intro q8 w13 ho hb hg hat;rw [<- qx.out] at ho;have qt:=am ho;replace HB:=am hb;clear HO_5 ho hb hg hat))
        go_roundg k1
        case measure=>exact pM
        case rel=>exact ⟨(q2),(1),(wrap64 (x7_1+1)),pR,pR,H',pJ,⟨by refine rp ?_;exact qt.o⟩,⟨pB⟩⟩
       ·rw [if_neg c12] at H
        cases H
      ·by_cases c14:x5_1.length < 17592186044416
       ·rw [if_pos c14] at H
        have LMc14:=am c14
        clear c14
        obtain ⟨q3,ql⟩:∃ y_:List Int,y_=(x5_1 ++ [wrap64 ((rd l0 x7_1) - x6_1)]):=⟨_,rfl⟩
        replace H:(Zac.l0 k1 l0 l1 q3 0 (wrap64 (x7_1+1)))=some r:=by have hy_:=ql;exact pH
        have qy:=am ql
        clear ql
        have H':=am H
        clear H
        have qc:0<=(x7_1:Int):=of_decide_eq_true pQ
        have qd:x7_1 < (l0.length:Int):=of_decide_eq_true pQ
        obtain ⟨qh,qe,qa⟩:=Kd.Zbi HR0.o x7_1 qc qd
        cases qe
        replace qa:=(HB.o.cell (World.block_lt_of_cell? w _ qa)).trans qa
        replace qc:=eq_true qc
        replace qd:=eq_true qd
        go_wp2_with (first|((with_reducible refine Za1 (b:=.append) (xs:=#[.tmp 35,.tmp 37]) rfl ?_);at_builtin;refine Kd.Zcb (Kd.int .i64) (w0:=w) w.heap.size rfl (.tmp 35) (.tmp 37) 28 3 (.int .i64 0) 8 rfl Tryz.underlying28 info3 rfl (by decide) (by omega) u5 x5_1 (wrap64 ((rd l0 x7_1) - x6_1)) [.int .i64 (wrap64 ((rd l0 x7_1) - x6_1))] (fun _=>True) (fun _=>False) rfl rfl ?aP (fun _ hk=>hk.elim) ?aF ?aO ?aB ?aS ?aL ?_;(case aP=>exact rfl);(case aB=>exact pB);(case aF=>exact (fun _ _=>trivial));(case aO=>exact (Kd.Zc HO_5.o pl));(case aS=>exact (Zb pB));(case aL=>have := LMc14.o;omega);intro q9 w15 ho hb hg hat;rw [<- qy.out] at ho;have qu:=am ho;replace HB:=am hb;clear HO_5 ho hb hg hat))
        go_roundg k1
        case measure=>exact pM
        case rel=>exact ⟨(q3),(0),(wrap64 (x7_1+1)),pR,pR,H',pJ,⟨by refine rp ?_;exact qu.o⟩,⟨pB⟩⟩
       ·rw [if_neg c14] at H
        cases H
    ·cases H
   ·replace H:=ob H
    obtain ⟨qp,A16,H⟩:=H
    obtain rfl:=Option.some.inj H
    obtain ⟨qm,qn,q4⟩:=Kd.Zm HO_5.o
    subst q4
    go_wp2_with (first|(refine gL (some 40) Tryz.func79 #[.slice qm x5_1.length qn] (h:=?_);(with_reducible refine (Zar.calls k1 (fun k_=>some k_=(.slice qm x5_1.length qn:Value).ownBlock) (.slice qm x5_1.length qn) x5_1 qp w _ ?side1 ?side2 A16.o).mono ?_);(case side1=>exact pB);(case side2=>exact Kd.Zbc rfl HO_5.o);rintro e w18 ⟨q5,rfl,ho0,hb,hkp⟩;refine ⟨_,rfl,?_⟩;have qq:=am (Kd.Zi (ok':=fun k_=>True) ho0 (fun k_ hk_=>trivial));replace HB:=am hb;clear HO_5))
    go_ret
    exact ⟨_,pE,by refine rp ?_;exact qq.o,pB⟩
end YtjbjkmccfocikaaGreatDoor.B
end
section
namespace YtjbjkmccfocikaaGreatDoor.P
open Go.RowKit YtjbjkmccfocikaaGreatDoor.B YtjbjkmccfocikaaGreatDoorW.PrintWords YtjbjkmccfocikaaGreatDoor.P.Nm
def cmpN (a b:Nat):Int:=if a < b then -1 else if b < a then 1 else 0
theorem Zhy {b:Int} (l:List Int) (j:Nat) (h:j<=l.length):val b l=val b (l.take j)+pw b j*val b (l.drop j):=by
 conv=>lhs;rw [<- List.take_append_drop j l]
 rw [Zgt,List.length_take,Nat.min_eq_left h]
theorem Zlj {a b:List Int} (ha:Dg 10 a) (hb:Dg 10 b) (hl:a.length=b.length) {j:Nat} (hj:j < a.length) (hd:a.drop (j+1)=b.drop (j+1)) (h:a.getD j 0 < b.getD j 0):val 10 a < val 10 b:=by
 rw [Zhy a j (by omega),Zhy b j (by omega),Zfq hj,Zfq (show j < b.length by omega),hd,Zc8,Zc8]
 have h1:=Zfs (b:=10) (by omega) (ha.take j)
 have h2:=Zcw (b:=10) (by omega) (hb.take j)
 rw [List.length_take,Nat.min_eq_left (by omega)] at h1
 have hp:=Zf6 (b:=10) (by omega) j
 have h3:=Int.mul_le_mul_of_nonneg_left (show a.getD j 0+10*val 10 (b.drop (j+1))+1<=b.getD j 0+10*val 10 (b.drop (j+1)) by omega) (Int.le_of_lt hp)
 rw [Int.mul_add (pw 10 j) (_+_) 1] at h3
 omega
theorem Zk7 (x y:List Int) (hx:Dg 10 x) (hy:Dg 10 y) (hl:x.length=y.length) (hb:x.length<=1000000) (m n:Nat) (hm:val 10 x=m) (hn:val 10 y=n):∀ j:Nat,j<=x.length->x.drop j=y.drop j->Tells (fun k=>Zas.l0 k x y ((j:Int) - 1)) (cmpN m n)
 | 0,h,hd=>by
  refine Tells.succ ?_
  simp only [Zas.l0]
  refine Tells.ifn (by omega) ((Tells.pure _).val ?_)
  rw [List.drop_zero,List.drop_zero] at hd
  rw [hd] at hm
  unfold cmpN
  rw [if_neg (by omega),if_neg (by omega)]
 | j+1,h,hd=>by
  have hj:j < x.length:=by omega
  have hj2:j < y.length:=by omega
  have c0:(j:Int) >= 0:=by omega
  have c1:(0:Int)<=(j:Int):=by omega
  have c2:(j:Int) < (x.length:Int):=by omega
  have c3:(j:Int) < (y.length:Int):=by omega
  refine Tells.succ ?_
  simp only [Zas.l0]
  rw [Zfz,rd_n,rd_n,w64d (by omega)]
  refine Tells.ifp c0 (Tells.ifp c1 (Tells.ifp c2 (Tells.ifp c3 ?_)))
  by_cases h1:x.getD j 0 < y.getD j 0
  ·refine Tells.ifp h1 ((Tells.pure _).val ?_)
   have := Zlj hx hy hl hj hd h1
   unfold cmpN;rw [if_pos (by omega)]
  ·refine Tells.ifn h1 ?_
   by_cases h2:y.getD j 0 < x.getD j 0
   ·refine Tells.ifp h2 ((Tells.pure _).val ?_)
    have := Zlj hy hx hl.symm hj2 hd.symm h2
    unfold cmpN;rw [if_neg (by omega),if_pos (by omega)]
   ·refine Tells.ifn h2 (Zk7 x y hx hy hl hb m n hm hn j (by omega) ?_)
    rw [Zfq hj,Zfq hj2,hd]
    congr 1
    omega
theorem Zhb (m n:Nat) (hm:nd m<=1000000):Tells (fun k=>Zas.f k (digs m) (digs n)) (cmpN m n):=by
 unfold Zas.f
 have hm':(digs m).length<=1000000:=hm
 by_cases h1:(digs m).length < (digs n).length
 ·refine Tells.ifp (by omega) ((Tells.pure _).val ?_)
  have := Zej (b:=10) (by omega) (Zc7 m) (Zc7 n) (Zi5 n) h1
  rw [Zcl,Zcl] at this
  unfold cmpN;rw [if_pos (by omega)]
 ·refine Tells.ifn (by omega) ?_
  by_cases h2:(digs n).length < (digs m).length
  ·refine Tells.ifp (by omega) ((Tells.pure _).val ?_)
   have := Zej (b:=10) (by omega) (Zc7 n) (Zc7 m) (Zi5 m) h2
   rw [Zcl,Zcl] at this
   unfold cmpN;rw [if_neg (by omega),if_pos (by omega)]
  ·refine Tells.ifn (by omega) ?_
   have h3:(digs m).length=(digs n).length:=by omega
   have := Zk7 (digs m) (digs n) (Zc7 m) (Zc7 n) h3 hm m n (Zcl m) (Zcl n) (digs m).length (Nat.le_refl _) (by rw [List.drop_length,h3,List.drop_length])
   rw [w64d (by omega)]
   exact this
theorem Zb8 {b:Int} (l:List Int) (k:Nat):val b (l.take (k+1))=val b (l.take k)+pw b k*l.getD k 0:=by
 by_cases h:k < l.length
 ·rw [Zhw h,Zdt,List.length_take,Nat.min_eq_left (by omega)]
 ·rw [List.take_of_length_le (by omega),List.take_of_length_le (by omega),List.getD,List.getElem?_eq_none (by omega)]
  simp
theorem Zi4 {b:Int} (hb:0 < b) {l:List Int} (h:Dg b l) (i:Nat):0<=l.getD i 0/\l.getD i 0 < b:=by
 by_cases hk:i < l.length
 ·exact Zi3 h hk
 ·rw [List.getD,List.getElem?_eq_none (by omega)];exact ⟨Int.le_refl _,hb⟩
theorem Zfl {l:List Int} {i:Nat} (h:l.length<=i):l.getD i 0=0:=by rw [List.getD,List.getElem?_eq_none h];rfl
theorem Zm4 (x y:List Int) (hx:Dg 10 x) (hy:Dg 10 y) (hxl:x.length<=500000) (hyl:y.length<=500000):∀ (d i:Nat) (o:List Int),max x.length y.length - i=d->i<=max x.length y.length->o.length=i->(∀ z ∈ o,0<=z/\z<=18)->val 10 o=val 10 (x.take i)+val 10 (y.take i) ->
  Tells (fun k=>Zs.l0 k x y o (i:Int)) (digs (val 10 x+val 10 y).toNat)
 | 0,i,o,hd,hi,ho,hz,hv=>by
  have c1:¬ ((i:Int) < (x.length:Int)):=by omega
  have c2:¬ ((i:Int) < (y.length:Int)):=by omega
  have hc:=Zfu o (fun z h=>by have := hz z h;omega) (by omega)
  rw [hv,List.take_of_length_le (by omega),List.take_of_length_le (by omega)] at hc
  refine Tells.succ ?_
  simp only [Zs.l0]
  refine Tells.ifn c1 (Tells.succ ?_)
  simp only [Zs.j1]
  refine Tells.ifn (by rw [decide_eq_false c2];simp) (hc.bind (Tells.pure _))
 | d+1,i,o,hd,hi,ho,hz,hv=>by
  have hxi:=Zi4 (by omega) hx i
  have hyi:=Zi4 (by omega) hy i
  obtain ⟨u,hu⟩:∃ u:Nat,x.getD i 0=(u:Int):=⟨(x.getD i 0).toNat,by omega⟩
  obtain ⟨v,hvv⟩:∃ v:Nat,y.getD i 0=(v:Int):=⟨(y.getD i 0).toNat,by omega⟩
  have ih:=Zm4 x y hx hy hxl hyl d (i+1) (o ++ [((u+v:Nat):Int)]) (by omega) (by omega) (by simp [ho]) (fun z h=>by
   rcases List.mem_append.1 h with h|h
   ·exact hz z h
   ·rw [List.mem_singleton.1 h];omega) (by rw [Zb8,Zb8,Zdt,ho,hv,hu,hvv,Int.natCast_add,Int.mul_add];omega)
  have c4:o.length < 17592186044416:=by omega
  have c3:(0:Int)<=(i:Int):=by omega
  have c5:i < 9223372036854775807:=by omega
  have b1:u+v<=9223372036854775807:=by omega
  have b2:u<=9223372036854775807:=by omega
  have b3:v<=9223372036854775807:=by omega
  by_cases h1:i < x.length
  ·have c1:(i:Int) < (x.length:Int):=by omega
   refine Tells.succ ?_
   simp only [Zs.l0]
   refine Tells.ifp c1 (Tells.succ ?_)
   simp only [Zs.j1]
   refine Tells.ifp trivial (Tells.ifp c1 (Tells.ifp c3 ?_))
   rw [rd_n,rd_n,hu,hvv,w64c b2,w64p b1,w64s c5]
   by_cases h2:i < y.length
   ·refine Tells.ifp (by omega) (Tells.ifp c4 ih)
   ·have h0:v=0:=by have := Zfl (l:=y) (i:=i) (by omega);omega
    rw [h0,Nat.add_zero] at ih
    refine Tells.ifn (by omega) (Tells.ifp c4 ih)
  ·have c1:¬ ((i:Int) < (x.length:Int)):=by omega
   have c2:(i:Int) < (y.length:Int):=by omega
   have h0:u=0:=by have := Zfl (l:=x) (i:=i) (by omega);omega
   rw [h0,Nat.zero_add] at ih
   refine Tells.succ ?_
   simp only [Zs.l0]
   refine Tells.ifn c1 (Tells.succ ?_)
   simp only [Zs.j1]
   refine Tells.ifp (by rw [decide_eq_true c2]) (Tells.ifn c1 (Tells.ifp c2 (Tells.ifp c3 ?_)))
   rw [rd_n,hvv,w64c b3,w64s c5]
   exact Tells.ifp c4 ih
theorem Zh7 (m n:Nat) (hm:nd m<=500000) (hn:nd n<=500000):Tells (fun k=>Zs.f k (digs m) (digs n)) (digs (m+n)):=by
 have := Zm4 (digs m) (digs n) (Zc7 m) (Zc7 n) hm hn _ 0 [] rfl (by omega) rfl (fun z h=>by cases h) (by simp [val])
 refine this.val ?_
 rw [Zcl,Zcl]
 congr 1
theorem Zk6 (x y:List Int) (hx:Dg 10 x) (hy:Dg 10 y) (hxl:x.length<=1000000) (hyx:y.length<=x.length) (n:Nat) (hn:val 10 x - val 10 y=n):∀ (d i:Nat) (o:List Int) (c:Nat),x.length - i=d->i<=x.length->o.length=i->Dg 10 o->c<=1->val 10 o=val 10 (x.take i) - val 10 (y.take i)+pw 10 i*c ->
  Tells (fun k=>Zac.l0 k x y o (c:Int) (i:Int)) (digs n)
 | 0,i,o,c,hd,hi,ho,hD,hc,hv=>by
  obtain rfl:i=x.length:=by omega
  have c1:¬ ((x.length:Int) < (x.length:Int)):=by omega
  refine Tells.succ ?_
  simp only [Zac.l0]
  refine Tells.ifn c1 ((Zgk o (by omega)).bind ((Tells.pure _).val ?_))
  rw [List.take_length,List.take_of_length_le hyx,hn] at hv
  have h2:=Zfs (b:=10) (by omega) hD
  rw [ho] at h2
  have hp:=Zf6 (b:=10) (by omega) x.length
  have hc0:c=0:=by
   rcases Nat.eq_zero_or_pos c with h|h
   ·exact h
   ·obtain rfl:c=1:=by omega
    omega
  rw [hc0] at hv
  exact Zf1 hD (by omega)
 | d+1,i,o,c,hd,hi,ho,hD,hc,hv=>by
  have hil:i < x.length:=by omega
  have hxi:=Zi3 hx hil
  have hyi:=Zi4 (by omega) hy i
  obtain ⟨u,hu⟩:∃ u:Nat,x.getD i 0=(u:Int):=⟨(x.getD i 0).toNat,by omega⟩
  obtain ⟨v,hvv⟩:∃ v:Nat,y.getD i 0=(v:Int):=⟨(y.getD i 0).toNat,by omega⟩
  have c1:(i:Int) < (x.length:Int):=by omega
  have c3:(0:Int)<=(i:Int):=by omega
  have c4:o.length < 17592186044416:=by omega
  have c5:i < 9223372036854775807:=by omega
  rw [hu] at hxi
  rw [hvv] at hyi
  have step:∀ (z:Int) (c':Nat),0<=z->z < 10->c'<=1->z=(u:Int) - c - v+10*c'->Tells (fun k=>Zac.l0 k x y (o ++ [z]) (c':Int) ((i+1:Nat):Int)) (digs n):=fun z c' z0 z1 hc' hz =>
   Zk6 x y hx hy hxl hyx n hn d (i+1) (o ++ [z]) c' (by omega) (by omega) (by simp [ho]) (hD.app (Dg.one z0 z1)) hc' (by
    rw [Zb8,Zb8,Zdt,ho,hv,hu,hvv,hz,Zfg]
    generalize pw 10 i=M
    have e:M*((u:Int) - c - v+10*c')=M*u - M*c - M*v+10*(M*c'):=by rw [Int.mul_add,Int.mul_sub,Int.mul_sub,Int.mul_left_comm M 10]
    have e2:10*M*(c':Int)=10*(M*c'):=Int.mul_assoc _ _ _
    omega)
  have b1 : -9223372036854775808<=(u:Int) - c:=by omega
  have b2:(u:Int) - c<=9223372036854775807:=by omega
  have b3 : -9223372036854775808<=(u:Int) - c - v:=by omega
  have b4:(u:Int) - c - v<=9223372036854775807:=by omega
  have b5 : -9223372036854775808<=(u:Int) - c - v+10:=by omega
  have b6:(u:Int) - c - v+10<=9223372036854775807:=by omega
  have b7 : -9223372036854775808<=(u:Int) - c+10:=by omega
  have b8:(u:Int) - c+10<=9223372036854775807:=by omega
  refine Tells.succ ?_
  simp only [Zac.l0]
  rw [rd_n,rd_n,hu,hvv,w64n b1 b2,w64n b3 b4,w64n b5 b6,w64n b7 b8,w64s c5]
  refine Tells.ifp c1 (Tells.ifp c3 ?_)
  by_cases h2:i < y.length
  ·refine Tells.ifp (by omega) ?_
   by_cases h3:(u:Int) - c - v < 0
   ·exact Tells.ifp h3 (Tells.ifp c4 (step _ 1 (by omega) (by omega) (by omega) (by omega)))
   ·exact Tells.ifn h3 (Tells.ifp c4 (step _ 0 (by omega) (by omega) (by omega) (by omega)))
  ·have h0:v=0:=by have := Zfl (l:=y) (i:=i) (by omega);omega
   refine Tells.ifn (by omega) ?_
   by_cases h3:(u:Int) - c < 0
   ·exact Tells.ifp h3 (Tells.ifp c4 (step _ 1 (by omega) (by omega) (by omega) (by omega)))
   ·exact Tells.ifn h3 (Tells.ifp c4 (step _ 0 (by omega) (by omega) (by omega) (by omega)))
theorem Zha (m n:Nat) (h:n<=m) (hm:nd m<=1000000):Tells (fun k=>Zac.f k (digs m) (digs n)) (digs (m - n)):=by
 have hl:(digs n).length<=(digs m).length:=Zfx h
 have := Zk6 (digs m) (digs n) (Zc7 m) (Zc7 n) hm hl (m - n) (by rw [Zcl,Zcl];omega) _ 0 [] 0 rfl (by omega) rfl (Dg.nil _) (by omega) (by simp [val])
 exact this
theorem Zft (n:Nat) (k:Nat) (hn:nd n<=1000000) (hk:k<=1000000):Zba.f (digs n) (k:Int)=some (digs (n*10 ^ k)):=by
 have hl:(digs n).length<=1000000:=hn
 unfold Zba.f
 by_cases h:n=0
 ·subst h;rw [Nat.zero_mul];rfl
 ·have h1:(digs n).length ≠ 0:=fun e=>Zkm h (List.eq_nil_of_length_eq_zero e)
  rw [if_neg (by omega),if_pos (by omega),if_pos (by omega),Option.bind_some,if_pos (by rw [List.length_replicate,Int.toNat_natCast];omega),Int.toNat_natCast,Zgm h]
theorem getD_set_ne {l:List Int} {i j:Nat} (x:Int) (h:i ≠ j):(l.set i x).getD j 0=l.getD j 0:=by
 simp [List.getD,List.getElem?_set_ne h]
theorem Zgv {b:Int}:∀ {l:List Int} {j:Nat} (x:Int),j < l.length->val b (l.set j x)=val b l+pw b j*(x - l.getD j 0)
 | y :: l,0,x,h=>by simp [val,pw];omega
 | y :: l,j+1,x,h=>by
  have ih:=Zgv (b:=b) (l:=l) (j:=j) x (by simpa using h)
  simp only [List.set_cons_succ,val,List.getD_cons_succ,pw]
  rw [ih,Int.mul_add,Int.mul_assoc,Int.add_assoc]
structure ProdAt (a b:List Int) (i k:Nat) (ds:List Int):Prop where
 len:ds.length=a.length+b.length
 bd:∀ z ∈ ds,0<=z/\z<=81*((i*b.length+k:Nat):Int)
 law:val 10 ds=val 10 (a.take i)*val 10 b+pw 10 i*(a.getD i 0*val 10 (b.take k))
theorem ProdAt.start (a b:List Int):ProdAt a b 0 0 (List.replicate (a.length+b.length) 0) :=
 ⟨by simp,fun z h=>by rw [(List.mem_replicate.1 h).2];simp,by simp [val,Zgb]⟩
theorem ProdAt.step {a b ds:List Int} {i k:Nat} (h:ProdAt a b i k ds) (ha:Dg 10 a) (hb:Dg 10 b) (hi:i < a.length) (hk:k < b.length) :
  ProdAt a b i (k+1) (ds.set (i+k) (ds.getD (i+k) 0+a.getD i 0*b.getD k 0)):=by
 have hx:=Zi3 ha hi
 have hy:=Zi3 hb hk
 have hlt:i+k < ds.length:=by rw [h.len];omega
 have hu:0<=ds.getD (i+k) 0/\ds.getD (i+k) 0<=81*((i*b.length+k:Nat):Int):=by rw [getD_in hlt];exact h.bd _ (List.getElem_mem hlt)
 have p0:=Int.mul_nonneg hx.1 hy.1
 have p1:a.getD i 0*b.getD k 0<=9*9:=Int.mul_le_mul (by omega) (by omega) hy.1 (by omega)
 obtain ⟨p,hp⟩:∃ p,a.getD i 0*b.getD k 0=p:=⟨_,rfl⟩
 rw [hp] at p0 p1 ⊢
 refine ⟨by rw [List.length_set];exact h.len,fun z hz=>?_,?_⟩
 ·rcases List.mem_or_eq_of_mem_set hz with hz|rfl
  ·have := h.bd z hz;omega
  ·omega
 ·rw [Zgv _ hlt,Zb8,h.law,Zlx]
  have e1:pw 10 i*(a.getD i 0*(pw 10 k*b.getD k 0))=pw 10 i*pw 10 k*p:=by
   rw [Int.mul_left_comm (a.getD i 0),hp,Int.mul_assoc]
  rw [Int.mul_add (a.getD i 0),Int.mul_add (pw 10 i),e1]
  have e2:ds.getD (i+k) 0+p - ds.getD (i+k) 0=p:=by omega
  rw [e2];omega
theorem ProdAt.next {a b ds:List Int} {i:Nat} (h:ProdAt a b i b.length ds) (hi:i < a.length):ProdAt a b (i+1) 0 ds:=by
 refine ⟨h.len,fun z hz=>?_,?_⟩
 ·have := h.bd z hz
  rw [Nat.succ_mul];omega
 ·have hl:=h.law
  rw [List.take_length] at hl
  rw [hl,Zb8,Int.add_mul,Int.mul_assoc]
  simp [val]
theorem Zh9 {a b:List Int} {i:Nat} (ha:Dg 10 a) (hb:Dg 10 b) (la:a.length<=10000) (lb:b.length<=10000) (hi:i < a.length) (V:List Int)
  (hcont:∀ ds,ProdAt a b (i+1) 0 ds->Tells (fun k=>Zk.l0 k a b ds ((i+1:Nat):Int)) V) :
  ∀ (e k:Nat) (ds:List Int),b.length - k=e->k<=b.length->ProdAt a b i k ds->Tells (fun kf=>Zk.l1 kf a b ds (i:Int) (k:Int)) V
 | 0,k,ds,he,hk,h=>by
  obtain rfl:k=b.length:=by omega
  have c1:¬ ((b.length:Int) < (b.length:Int)):=by omega
  refine Tells.succ ?_
  simp only [Zk.l1]
  rw [w64s (i:=i) (by omega)]
  exact Tells.ifn c1 (hcont ds (h.next hi))
 | e+1,k,ds,he,hk,h=>by
  have hkl:k < b.length:=by omega
  have hst:=h.step ha hb hi hkl
  have ih:=Zh9 ha hb la lb hi V hcont e (k+1) _ (by omega) (by omega) hst
  have hlen:=h.len
  have hx:=Zi3 ha hi
  have hy:=Zi3 hb hkl
  have hlt:i+k < ds.length:=by rw [h.len];omega
  have hu:0<=ds.getD (i+k) 0/\ds.getD (i+k) 0<=81*((i*b.length+k:Nat):Int):=by rw [getD_in hlt];exact h.bd _ (List.getElem_mem hlt)
  have hik:i*b.length+k<=10000*10000+10000:=by
   have := Nat.mul_le_mul (show i<=10000 by omega) lb
   omega
  obtain ⟨xa,hxa⟩:∃ u:Nat,a.getD i 0=(u:Int):=⟨(a.getD i 0).toNat,by omega⟩
  obtain ⟨xb,hxb⟩:∃ u:Nat,b.getD k 0=(u:Int):=⟨(b.getD k 0).toNat,by omega⟩
  obtain ⟨xu,hxu⟩:∃ u:Nat,ds.getD (i+k) 0=(u:Int):=⟨(ds.getD (i+k) 0).toNat,by omega⟩
  rw [hxa] at hx
  rw [hxb] at hy
  rw [hxu] at hu
  rw [hxa,hxb,hxu] at ih
  have hp:xa*xb<=9*9:=Nat.mul_le_mul (by omega) (by omega)
  obtain ⟨p,hpp⟩:∃ p,xa*xb=p:=⟨_,rfl⟩
  rw [hpp] at hp
  have ep:(xu:Int)+(xa:Int)*(xb:Int)=((xu+p:Nat):Int):=by rw [<- Int.natCast_mul,hpp];omega
  rw [ep] at ih
  have c1:(k:Int) < (b.length:Int):=by omega
  have c2:(0:Int)<=((i+k:Nat):Int):=by omega
  have c3:((i+k:Nat):Int) < (ds.length:Int):=by omega
  have c4:(0:Int)<=(i:Int):=by omega
  have c5:(i:Int) < (a.length:Int):=by omega
  have c6:(0:Int)<=(k:Int):=by omega
  have b1:i+k<=9223372036854775807:=by omega
  have b2:p<=9223372036854775807:=by omega
  have b3:xu+p<=9223372036854775807:=by omega
  have b4:k < 9223372036854775807:=by omega
  refine Tells.succ ?_
  simp only [Zk.l1]
  rw [w64p b1,rd_n,rd_n,rd_n,hxa,hxb,hxu,w64k hpp b2,w64p b3,w64s b4,Int.toNat_natCast]
  exact Tells.ifp c1 (Tells.ifp c2 (Tells.ifp c3 (Tells.ifp c4 (Tells.ifp c5 (Tells.ifp c6 ih)))))
theorem Zh8 {a b:List Int} (ha:Dg 10 a) (hb:Dg 10 b) (la:a.length<=10000) (lb:b.length<=10000) (n:Nat) (hn:val 10 a*val 10 b=n) :
  ∀ (d i:Nat) (ds:List Int),a.length - i=d->i<=a.length->ProdAt a b i 0 ds->Tells (fun k=>Zk.l0 k a b ds (i:Int)) (digs n)
 | 0,i,ds,hd,hi,h=>by
  obtain rfl:i=a.length:=by omega
  have c1:¬ ((a.length:Int) < (a.length:Int)):=by omega
  have hl:=h.law
  rw [List.take_length,hn] at hl
  simp only [List.take_zero,Zgu,Int.mul_zero,Int.add_zero] at hl
  have hab:a.length*b.length+0<=10000*10000:=by rw [Nat.add_zero];exact Nat.mul_le_mul la lb
  have hc:=Zfu ds (fun z hz=>by have := h.bd z hz;omega) (by rw [h.len];omega)
  rw [hl,Int.toNat_natCast] at hc
  refine Tells.succ ?_
  simp only [Zk.l0]
  exact Tells.ifn c1 (hc.bind (Tells.pure _))
 | d+1,i,ds,hd,hi,h=>by
  have hil:i < a.length:=by omega
  have c1:(i:Int) < (a.length:Int):=by omega
  refine Tells.succ ?_
  simp only [Zk.l0]
  exact Tells.ifp c1 (Zh9 ha hb la lb hil _ (fun ds' h'=>Zh8 ha hb la lb n hn d (i+1) ds' (by omega) (by omega) h') _ 0 ds rfl (by omega) h)
theorem Ziw (m n:Nat) (hm:nd m<=10000) (hn:nd n<=10000):Tells (fun k=>Zk.f k (digs m) (digs n)) (digs (m*n)):=by
 have h:=Zh8 (Zc7 m) (Zc7 n) hm hn (m*n) (by rw [Zcl,Zcl];exact (Int.natCast_mul m n).symm) _ 0 _ rfl (by omega) (ProdAt.start _ _)
 have hm':(digs m).length<=10000:=hm
 have hn':(digs n).length<=10000:=hn
 unfold Zk.f
 rw [w64p (by omega),Int.toNat_natCast]
 exact Tells.ifp (by omega) (Tells.ifp (by omega) h)
end YtjbjkmccfocikaaGreatDoor.P
end
section
namespace YtjbjkmccfocikaaGreatDoor.B
open Go.RowKit YtjbjkmccfocikaaGreatDoorW.PrintWords YtjbjkmccfocikaaGreatDoorW.PrintLast YtjbjkmccfocikaaGreatDoorW.PrintMore
attribute [local go_sem] Zb3 Zb5 Zcp Zcq Zbs Zbt Zb4 Zb6
def Zb9.f (l0:List Int):Option (Int):=if (l0.length:Int) > 256 then (some 5) else (if (l0.length:Int) > 0 then (if 0<=(wrap64 ((l0.length:Int) - 1)) then (if (wrap64 ((l0.length:Int) - 1)) < (l0.length:Int) then (if (rd l0 (wrap64 ((l0.length:Int) - 1)))=0 then (some 9) else (some 0)) else (none)) else (none)) else (some 0))
theorem Zb9.calls (A0:Option Addr) (c0:Nat) (l0:List Int) (r:Int) (w:World) (hr0:Kd.C (Kd.int .u32) w A0 l0.length l0) (hc0:l0.length<=c0) (h:Zb9.f l0=some r) :
  Calls Tryz.prog 91 #[.slice A0 l0.length c0] w fun e w'=>e=.returned (.int .i64 r)/\Drawn0 w w':=by
 have HR0:=am hr0
 have HC0:=am hc0
 clear hr0 hc0
 have H:(if (l0.length:Int) > 256 then (some 5) else (if (l0.length:Int) > 0 then (if 0<=(wrap64 ((l0.length:Int) - 1)) then (if (wrap64 ((l0.length:Int) - 1)) < (l0.length:Int) then (if (rd l0 (wrap64 ((l0.length:Int) - 1)))=0 then (some 9) else (some 0)) else (none)) else (none)) else (some 0)))=some r:=h
 clear h
 by_cases c2:(l0.length:Int) > 256
 ·rw [if_pos c2] at H
  have c2b0:decide (256 < (l0.length:Int))=true:=decide_eq_true c2
  have c2b1:decide (256 < l0.length)=true:=decide_eq_true (by omega)
  clear c2
  obtain rfl:=Option.some.inj H
  go_enter Tryz.func91,Tryz.ntmps91
  go_wp2
  go_ret
  exact ⟨pR,pD⟩
 ·rw [if_neg c2] at H
  have c2b0:decide (256 < (l0.length:Int))=false:=decide_eq_false c2
  have c2b1:decide (256 < l0.length)=false:=decide_eq_false (by omega)
  clear c2
  by_cases c3:(l0.length:Int) > 0
  ·rw [if_pos c3] at H
   have c3b0:decide (0 < (l0.length:Int))=true:=decide_eq_true c3
   have c3b1:decide (0 < l0.length)=true:=decide_eq_true (by omega)
   clear c3
   obtain ⟨ji4,hji4⟩:∃ j_:Int,(wrap64 ((l0.length:Int) - 1))=j_:=⟨_,rfl⟩
   replace H:(if 0<=(ji4) then (if (ji4) < (l0.length:Int) then (if (rd l0 (ji4))=0 then (some 9) else (some 0)) else (none)) else (none))=some r:=by first|(rw [hji4] at H;exact H)|(simp only [hji4] at H ⊢;exact H)
   have hji4w:(IntKind.i64.wrap ((l0.length:Int) - 1))=ji4:=(Zc5 _).trans hji4
   replace H:=dI H
   rcases H with ⟨c5b0,H⟩|⟨_,H⟩
   ·replace H:=dI H
    rcases H with ⟨c6b0,H⟩|⟨_,H⟩
    ·replace H:=eI H
     rcases H with ⟨c7b0,c7b1,H⟩|⟨c7,c7b0,c7b1,H⟩
     ·obtain rfl:=Option.some.inj H
      have qa:0<=((ji4):Int):=of_decide_eq_true pQ
      have qb:(ji4) < (l0.length:Int):=of_decide_eq_true pQ
      obtain ⟨qe,qd,qc⟩:=Kd.Zbi HR0.o (ji4) qa qb
      cases qd
      replace qa:=eq_true qa
      replace qb:=eq_true qb
      go_enter Tryz.func91,Tryz.ntmps91
      go_wp2
      go_ret
      exact ⟨by first|rfl|(simp;done)|(simp only [<- hji4] <;> (first|rfl|simp))|(simp [*];done),pD⟩
     ·obtain rfl:=Option.some.inj H
      have qa:0<=((ji4):Int):=of_decide_eq_true pQ
      have qb:(ji4) < (l0.length:Int):=of_decide_eq_true pQ
      obtain ⟨qe,qd,qc⟩:=Kd.Zbi HR0.o (ji4) qa qb
      cases qd
      replace qa:=eq_true qa
      replace qb:=eq_true qb
      go_enter Tryz.func91,Tryz.ntmps91
      go_wp2
      go_ret
      exact ⟨by first|rfl|(simp;done)|(simp only [<- hji4] <;> (first|rfl|simp))|(simp [*];done),pD⟩
    ·cases H
   ·cases H
  ·rw [if_neg c3] at H
   have c3b0:decide (0 < (l0.length:Int))=false:=decide_eq_false c3
   have c3b1:decide (0 < l0.length)=false:=decide_eq_false (by omega)
   clear c3
   obtain rfl:=Option.some.inj H
   go_enter Tryz.func91,Tryz.ntmps91
   go_wp2
   go_ret
   exact ⟨pR,pD⟩
def Zcn.f (a0:Int):Option (List Int):=if a0=0 then (some ([]:List Int)) else (if a0 < 4294967296 then (some (([(a0) % 4294967296]:List Int))) else (some (([(a0) % 4294967296,(a0 / 4294967296) % 4294967296]:List Int))))
theorem Zcn.calls (a0:Int) (r:List Int) (w:World) (h:Zcn.f a0=some r) :
  Calls Tryz.prog 136 #[.int .u64 a0] w fun e w' => ∃ v0_:Value,e=.returned (v0_)/\Kd.R (Kd.int .u32) 85 w' w.heap.size (fun _=>True) v0_ r/\Below w.heap.size w w':=by
 have HB:=am (Below.refl w.heap.size w)
 have H:(if a0=0 then (some ([]:List Int)) else (if a0 < 4294967296 then (some (([(a0) % 4294967296]:List Int))) else (some (([(a0) % 4294967296,(a0 / 4294967296) % 4294967296]:List Int)))))=some r:=h
 clear h
 replace H:=eI H
 rcases H with ⟨c2b0,c2b1,H⟩|⟨c2,c2b0,c2b1,H⟩
 ·obtain rfl:=Option.some.inj H
  go_enter Tryz.func136,Tryz.ntmps136
  go_wp2
  go_ret
  exact ⟨_,pE,pN,pB⟩
 ·replace H:=dI H
  rcases H with ⟨c3b0,H⟩|⟨c3b0,H⟩
  ·obtain ⟨qg,qa⟩:∃ y_:List Int,y_=(([(a0) % 4294967296]:List Int)):=⟨_,rfl⟩
   replace H:(some qg)=some r:=by have hy_:=qa;exact pH
   have qc:=am qa
   clear qa
   obtain rfl:=Option.some.inj H
   go_enter Tryz.func136,Tryz.ntmps136
   go_wp2_with (first|((with_reducible refine gd 11 ?_);refine Kd.Zgi (Kd.int .u32) _ 85 ?hg (N:=11) ?hd (xs:=([(a0) % 4294967296]:List Int)) (inner:=[.int .u32 ((a0) % 4294967296)]) (ok:=fun _=>True) (okp:=fun _=>True) ?hr ?hp (fun _ hk=>hk) trivial (Below.refl _ _) (Nat.le_refl _) (by simp) ?_;(case hd=>rfl);(case hg=>rfl);(case hr=>first|(go_simp;done)|(go_simp;rfl));(case hp=>exact (Reps.one (show Kd.M (Kd.int .u32) _ _ _ ((a0) % 4294967296) [.int .u32 ((a0) % 4294967296)] from rfl) (Reps.none _ _)));intro qi w4 ho5 hb hg_ hnew_;clear hg_ hnew_;(first|rw [<- qc.out] at ho5|(simp only [Int.reduceToNat] at ho5;rw [<- qc.out] at ho5));have qe:=am (Kd.Zt ho5 (Zb pB));replace HB:=bS hb;clear hb ho5))
   go_ret
   exact ⟨_,pE,by refine rp ?_;exact qe.o,pB⟩
  ·obtain ⟨qh,qb⟩:∃ y_:List Int,y_=(([(a0) % 4294967296,(a0 / 4294967296) % 4294967296]:List Int)):=⟨_,rfl⟩
   replace H:(some qh)=some r:=by have hy_:=qb;exact pH
   have qd:=am qb
   clear qb
   obtain rfl:=Option.some.inj H
   go_enter Tryz.func136,Tryz.ntmps136
   go_wp2_with (first|((with_reducible refine gd 17 ?_);refine Kd.Zgi (Kd.int .u32) _ 85 ?hg (N:=17) ?hd (xs:=([(a0) % 4294967296,(a0 / 4294967296) % 4294967296]:List Int)) (inner:=[.int .u32 ((a0) % 4294967296),.int .u32 ((a0 / 4294967296) % 4294967296)]) (ok:=fun _=>True) (okp:=fun _=>True) ?hr ?hp (fun _ hk=>hk) trivial (Below.refl _ _) (Nat.le_refl _) (by simp) ?_;(case hd=>rfl);(case hg=>rfl);(case hr=>first|(go_simp;done)|(go_simp;rfl));(case hp=>exact (Reps.one (show Kd.M (Kd.int .u32) _ _ _ ((a0) % 4294967296) [.int .u32 ((a0) % 4294967296)] from rfl) (Reps.one (show Kd.M (Kd.int .u32) _ _ _ ((a0 / 4294967296) % 4294967296) [.int .u32 ((a0 / 4294967296) % 4294967296)] from rfl) (Reps.none _ _))));intro qj w6 ho7 hb hg_ hnew_;clear hg_ hnew_;(first|rw [<- qd.out] at ho7|(simp only [Int.reduceToNat] at ho7;rw [<- qd.out] at ho7));have qf:=am (Kd.Zt ho7 (Zb pB));replace HB:=bS hb;clear hb ho7))
   go_ret
   exact ⟨_,pE,by refine rp ?_;exact qf.o,pB⟩
end YtjbjkmccfocikaaGreatDoor.B
end
section
namespace YtjbjkmccfocikaaGreatDoor.P
open Go.RowKit YtjbjkmccfocikaaGreatDoor.B YtjbjkmccfocikaaGreatDoorW.PrintWords YtjbjkmccfocikaaGreatDoor.P.Nm
theorem Zmq (n:Nat) (h:n ≠ 0):strOfNums ((digs n).reverse.map fun d=>48+d)=decT n:=by
 unfold decT strOfNums
 rw [if_neg h,List.map_map]
 congr 2
 refine List.map_congr_left (fun d hd=>?_)
 have := Zc7 n d (List.mem_reverse.1 hd)
 show UInt8.ofNat ((48+d).toNat)=UInt8.ofNat (48+d.toNat)
 congr 1;omega
theorem Zev:limbs 0=[]:=rfl
theorem Zjf (n:Nat) (h:n < 18446744073709551616):Zcn.f (n:Int)=some (limbs n):=by
 unfold Zcn.f
 by_cases h0:n=0
 ·subst h0;rfl
 ·rw [if_neg (by omega)]
  by_cases h1:n < 4294967296
  ·rw [if_pos (by omega),Zeu h0,Nat.div_eq_of_lt h1,Zev];rfl
  ·rw [if_neg (by omega),Zeu h0,Zeu (show n / 4294967296 ≠ 0 by omega),Nat.div_eq_of_lt (show n / 4294967296 < 4294967296 by omega),Zev];rfl
def chkL (l:List Int):Int:=if 256 < l.length then 5 else if l.getLast? = some 0 then 9 else 0
theorem Zq4 {l:List Int} (h:0 < l.length):l.getLast? = some (l.getD (l.length - 1) 0):=by
 rw [List.getLast?_eq_getElem?,getD_in (by omega),List.getElem?_eq_getElem (by omega)]
theorem Zjt (l:List Int) (hl:l.length<=9223372036854775807):(if (l.length:Int) > 256 then (some 5) else (if (l.length:Int) > 0 then (if 0<=(wrap64 ((l.length:Int) - 1)) then (if (wrap64 ((l.length:Int) - 1)) < (l.length:Int) then (if (rd l (wrap64 ((l.length:Int) - 1)))=0 then (some 9) else (some 0)) else (none)) else (none)) else (some 0)):Option Int)=some (chkL l):=by
 unfold chkL
 by_cases h:256 < l.length
 ·rw [if_pos (by omega),if_pos h]
 ·rw [if_neg (by omega),if_neg h]
  by_cases h0:0 < l.length
  ·have e:(l.length:Int) - 1=((l.length - 1:Nat):Int):=by omega
   rw [if_pos (by omega),w64d hl,e,if_pos (by omega),if_pos (by omega),rd_n,Zq4 h0]
   by_cases h1:l.getD (l.length - 1) 0=0
   ·rw [if_pos h1,if_pos (by rw [h1])]
   ·rw [if_neg h1,if_neg (by simpa using h1)]
  ·rw [if_neg (by omega)]
   obtain rfl:l=[]:=List.eq_nil_of_length_eq_zero (by omega)
   rfl
theorem Zip (l:List Int) (hl:l.length<=9223372036854775807):Zb9.f l=some (chkL l):=by
 unfold Zb9.f;exact Zjt l hl
theorem Zkk {l:List Int} (hd:Dg 4294967296 l):chkL l=0 ↔ Ok l:=by
 unfold chkL
 constructor
 ·intro h
  by_cases h1:256 < l.length
  ·rw [if_pos h1] at h;cases h
  ·rw [if_neg h1] at h
   by_cases h2:l.getLast? = some 0
   ·rw [if_pos h2] at h;cases h
   ·exact ⟨by omega,hd,h2⟩
 ·intro h
  rw [if_neg (by have := h.len;omega),if_neg h.nz]
end YtjbjkmccfocikaaGreatDoor.P
end
section
namespace YtjbjkmccfocikaaGreatDoor.B
open Go.RowKit YtjbjkmccfocikaaGreatDoorW.PrintWords YtjbjkmccfocikaaGreatDoorW.PrintLast YtjbjkmccfocikaaGreatDoorW.PrintMore
attribute [local go_sem] Zb3 Zb5 Zcp Zcq Zbs Zbt Zb4 Zb6
def Zad.l0:Nat->List Int->Option (List Int)
 | 0,_=>none
 | k+1,x0=>if (x0.length:Int) > 0 then (if 0<=(wrap64 ((x0.length:Int) - 1)) then (if (wrap64 ((x0.length:Int) - 1)) < (x0.length:Int) then (if (rd x0 (wrap64 ((x0.length:Int) - 1)))=0 then (if (wrap64 ((x0.length:Int) - 1))<=(x0.length:Int) then (Zad.l0 k (x0.take ((wrap64 ((x0.length:Int) - 1)):Int).toNat)) else (none)) else (if (x0.length:Int)=0 then (some ([]:List Int)) else (some x0))) else (none)) else (none)) else (if (x0.length:Int)=0 then (some ([]:List Int)) else (some x0))
def Zad.f (k:Nat) (l0:List Int):Option (List Int):=Zad.l0 k l0
theorem Zad.calls (k:Nat) (P0_:Nat->Prop) (u9000_:Value) (l0:List Int) (r:List Int) (w0 w:World) (hB:Below w0.heap.size w0 w) (ho0:Kd.R (Kd.int .u32) 85 w w0.heap.size P0_ u9000_ l0) (h:Zad.f k l0=some r) :
  Calls Tryz.prog 132 #[u9000_] w fun e w' => ∃ v0_:Value,e=.returned (v0_)/\Kd.R (Kd.int .u32) 85 w' w0.heap.size (fun k_=>(P0_ k_\/w.heap.size<=k_)) v0_ r/\Below w0.heap.size w0 w'/\Kept w w' (fun k_=>P0_ k_):=by
 have HO0:=am (show Kd.R (Kd.int .u32) 85 w w0.heap.size (fun k_=>(P0_ k_\/w.heap.size<=k_)) u9000_ l0 from Kd.Zi ho0 (fun k_ hk=>(.inl hk)))
 have HK:=am (Kept.refl w (fun k_=>P0_ k_))
 have HW0:=am hB.size
 have HB:=am hB
 clear hB
 have H:(Zad.l0 k l0)=some r:=h
 clear h
 have H':=am H
 clear H
 go_enter Tryz.func132,Tryz.ntmps132
 go_wp2
 go_loopg [0] k (fun kq v0 w' => ∃ (x0_1:List Int),Aside0 (Zad.l0 kq x0_1=some r)/\Aside0 (kq<=k)/\Aside0 (Kd.R (Kd.int .u32) 85 w' w0.heap.size (fun k_=>(P0_ k_\/w.heap.size<=k_)) v0 x0_1)/\Aside0 (Kept w w' (fun k_=>P0_ k_))/\Aside0 (Below w0.heap.size w0 w'))
 case atStart=>exact ⟨(l0),H',⟨Nat.le_refl _⟩,⟨by refine rp ?_;exact HO0.o⟩,⟨by repeat (first|(with_reducible first|exact HK.out|apply Kept.alloc|apply Kept.drewN|apply Kept.drew)|exact HK.out)⟩,⟨pB⟩⟩
 case round =>
  clear H'
  obtain ⟨x0_1,HA,HK1,HO_0,HK,HB⟩:=hrel
  cases gk with
  | zero=>exact absurd HA.out (by simp [Zad.l0])
  | succ k1 =>
   have H:=HA.out
   clear HA
   simp only [Zad.l0] at H
   by_cases c2:(x0_1.length:Int) > 0
   ·rw [if_pos c2] at H
    have c2b0:decide (0 < (x0_1.length:Int))=true:=decide_eq_true c2
    have c2b1:decide (0 < x0_1.length)=true:=decide_eq_true (by omega)
    clear c2
    obtain ⟨ji3,hji3⟩:∃ j_:Int,(wrap64 ((x0_1.length:Int) - 1))=j_:=⟨_,rfl⟩
    replace H:(if 0<=(ji3) then (if (ji3) < (x0_1.length:Int) then (if (rd x0_1 (ji3))=0 then (if (ji3)<=(x0_1.length:Int) then (Zad.l0 k1 (x0_1.take ((ji3):Int).toNat)) else (none)) else (if (x0_1.length:Int)=0 then (some ([]:List Int)) else (some x0_1))) else (none)) else (none))=some r:=by first|(rw [hji3] at H;exact H)|(simp only [hji3] at H ⊢;exact H)
    have hji3w:(IntKind.i64.wrap ((x0_1.length:Int) - 1))=ji3:=(Zc5 _).trans hji3
    replace H:=dI H
    rcases H with ⟨c4b0,H⟩|⟨_,H⟩
    ·replace H:=dI H
     rcases H with ⟨c5b0,H⟩|⟨_,H⟩
     ·replace H:=eI H
      rcases H with ⟨c6b0,c6b1,H⟩|⟨c6,c6b0,c6b1,H⟩
      ·replace H:=iI H
       rcases H with ⟨c7b0,c7b1,H⟩|⟨_,_,H⟩
       ·obtain ⟨qh,qf⟩:∃ y_:List Int,y_=(x0_1.take ((ji3):Int).toNat):=⟨_,rfl⟩
        replace H:(Zad.l0 k1 qh)=some r:=by have hy_:=qf;exact pH
        have qg:=am qf
        clear qf
        have H':=am H
        clear H
        obtain ⟨Ao8,co8,eo8⟩:=Kd.Zm HO_0.o
        subst eo8
        have qa:0<=((ji3):Int):=of_decide_eq_true pQ
        have qb:(ji3) < (x0_1.length:Int):=of_decide_eq_true pQ
        obtain ⟨qd,qe,qc⟩:=Kd.Zbi (Kd.Zf HO_0.o).2.2 (ji3) qa qb
        cases qe
        replace qa:=eq_true qa
        replace qb:=eq_true qb
        have q9:((ji3):Int)<=((x0_1.length:Int):Int):=of_decide_eq_true pQ
        obtain ⟨i09,hi09,_,hsz9,_⟩:=info_parts info85
        have hcut9:=Znt (P:=Tryz.prog) 134 85 .i64 Tryz.underlying134 hi09 (some qd) x0_1.length co8 (ji3) (of_decide_eq_true pQ) q9 (Kd.Zf HO_0.o).2.1
        have hr9:=Kd.Znf (m:=((ji3):Int).toNat) HO_0.o (by omega)
        have hy9:qh.length=((ji3):Int).toNat:=(by rw [qg.out,List.length_take];omega)
        rw [<- qg.out] at hr9
        rw [<- hy9] at hr9 hcut9
        clear hy9 hi09 hsz9 HO_0
        have qi:=am hr9
        clear hr9
        replace q9:=eq_true q9
        go_wp2
        go_roundg k1
        case measure=>exact pM
        case rel=>exact ⟨(qh),(by first|exact H'|(have H_:=H'.out;simp only [<- hji3] at H_;exact ⟨H_⟩)|(refine ⟨?_⟩;have H_:=H'.out;simp only [<- hji3] at H_ ⊢;exact H_)),pJ,⟨by refine rp ?_;exact qi.o⟩,⟨by repeat (first|(with_reducible first|exact HK.out|apply Kept.alloc|apply Kept.drewN|apply Kept.drew)|exact HK.out)⟩,⟨pB⟩⟩
       ·cases H
      ·replace H:=eI H
       rcases H with ⟨c10b0,c10b1,H⟩|⟨c10,c10b0,c10b1,H⟩
       ·obtain rfl:=Option.some.inj H
        obtain ⟨qn,qr,qj⟩:=Kd.Zm HO_0.o
        subst qj
        have qa:0<=((ji3):Int):=of_decide_eq_true pQ
        have qb:(ji3) < (x0_1.length:Int):=of_decide_eq_true pQ
        obtain ⟨qd,qe,qc⟩:=Kd.Zbi (Kd.Zf HO_0.o).2.2 (ji3) qa qb
        cases qe
        replace qa:=eq_true qa
        replace qb:=eq_true qb
        go_wp2
        go_ret
        exact ⟨_,by first|rfl|(simp [Za6,Za7] <;> rfl)|(simp only [<- hji3];first|rfl|(simp [Za6,Za7] <;> rfl))|(simp [*,Za6,Za7] <;> rfl),pN,pB,by repeat (first|(with_reducible first|exact HK.out|apply Kept.alloc|apply Kept.drewN|apply Kept.drew)|exact HK.out)⟩
       ·have c10b2:¬ (x0_1=[]):=fun h_=>c10 (by rw [h_];rfl)
        obtain rfl:=Option.some.inj H
        obtain ⟨qo,qs,qk⟩:=Kd.Zm HO_0.o
        subst qk
        have qa:0<=((ji3):Int):=of_decide_eq_true pQ
        have qb:(ji3) < (x0_1.length:Int):=of_decide_eq_true pQ
        obtain ⟨qd,qe,qc⟩:=Kd.Zbi (Kd.Zf HO_0.o).2.2 (ji3) qa qb
        cases qe
        replace qa:=eq_true qa
        replace qb:=eq_true qb
        go_wp2
        go_ret
        exact ⟨_,by first|rfl|(simp [Za6,Za7] <;> rfl)|(simp only [<- hji3];first|rfl|(simp [Za6,Za7] <;> rfl))|(simp [*,Za6,Za7] <;> rfl),by refine rp ?_;exact HO_0.o,pB,by repeat (first|(with_reducible first|exact HK.out|apply Kept.alloc|apply Kept.drewN|apply Kept.drew)|exact HK.out)⟩
     ·cases H
    ·cases H
   ·rw [if_neg c2] at H
    have c2b0:decide (0 < (x0_1.length:Int))=false:=decide_eq_false c2
    have c2b1:decide (0 < x0_1.length)=false:=decide_eq_false (by omega)
    clear c2
    replace H:=eI H
    rcases H with ⟨c13b0,c13b1,H⟩|⟨c13,c13b0,c13b1,H⟩
    ·obtain rfl:=Option.some.inj H
     obtain ⟨qp,qt,ql⟩:=Kd.Zm HO_0.o
     subst ql
     go_wp2
     go_ret
     exact ⟨_,pE,pN,pB,by repeat (first|(with_reducible first|exact HK.out|apply Kept.alloc|apply Kept.drewN|apply Kept.drew)|exact HK.out)⟩
    ·have c13b2:¬ (x0_1=[]):=fun h_=>c13 (by rw [h_];rfl)
     obtain rfl:=Option.some.inj H
     obtain ⟨qq,qu,qm⟩:=Kd.Zm HO_0.o
     subst qm
     go_wp2
     go_ret
     exact ⟨_,pE,by refine rp ?_;exact HO_0.o,pB,by repeat (first|(with_reducible first|exact HK.out|apply Kept.alloc|apply Kept.drewN|apply Kept.drew)|exact HK.out)⟩
end YtjbjkmccfocikaaGreatDoor.B
end
section
namespace YtjbjkmccfocikaaGreatDoor.B
open Go.RowKit
def Minds {β:Type} (b:Nat) (J:β->World->Prop):Prop:=∀ s W v,J s W->J s (W.setCell ⟨b,0,none⟩ v)
def SeqCell {α:Type} (F:Fence) (n:Nat) (P:Program) (g:Nat) (lb:Array Value) (encs:α->Array Value) (Kp:World->World->Prop) (S Sp:List α->Prop) (N b:Nat) (w:World):Prop :=
 ∀ (l:Nat) (J Jx:List α->World->Prop) (W:World),Below w.heap.size w W->AbidesFrom W.heap.size J->AbidesFrom W.heap.size Jx->Minds b J ->
  (∀ pre x W1,J pre W1->pre.length < N->Sp (pre ++ [x])->YieldAt F (n - 1) P l (encs x) W1 fun e W' =>
   (e=.returned (.bool true)/\J (pre ++ [x]) W'/\Kp W1 W')\/(e=.returned (.bool false)/\Jx (pre ++ [x]) W')) ->
  J [] W ->
  CallsIn F n P g (#[.func (.yield l) #[] #[]]++lb) W fun e W'=>(∃ v,e=.returned v)/\((∃ xs,S xs/\J xs W')\/(∃ pre,Sp pre/\Jx pre W'))
theorem Zck (w:World) (b:Nat) (v:Value) (k:Nat) (h:k ≠ b):(w.setCell ⟨b,0,none⟩ v).heap[k]? = w.heap[k]?:=Below.heap_setCell _ _ _ _ h
def Recs (at_:Nat) (L:Loop) (W:World):Prop:=W.heap[at_+1]? = some (.loop L)/\W.heap[at_]? = some (.deferred (some []))
theorem Recs.grown {at_:Nat} {L:Loop} {A B:World} {row:Option Nat} (h:Recs at_ L A) (hg:A.grownBy B row) (hr:∀ r,row=some r -> ∃ o:Obj,A.heap[r]? = some o/\o.isWalk=true):Recs at_ L B :=
 ⟨(grownBy_keeps hg hr h.1 rfl).trans h.1,(grownBy_keeps hg hr h.2 rfl).trans h.2⟩
theorem Recs.set {at_ b:Nat} {L:Loop} {W:World} (h:Recs at_ L W) (hb:b < at_) (v:Value):Recs at_ L (W.setCell ⟨b,0,none⟩ v) :=
 ⟨(Zck W b v _ (by omega)).trans h.1,(Zck W b v _ (by omega)).trans h.2⟩
theorem Recs.lt {at_:Nat} {L:Loop} {W:World} (h:Recs at_ L W):at_+1 < W.heap.size:=(Array.getElem?_eq_some_iff.1 h.1).1
theorem Recs.put {at_:Nat} {L:Loop} {W:World} (h:Recs at_ L W) (L':Loop):Recs at_ L' (W.putObj (at_+1) (.loop L')) :=
 ⟨World.putObj_heap_same h.lt,(World.putObj_heap_other (by omega)).trans h.2⟩
theorem Recs.keeps {at_:Nat} {L:Loop} {A B:World} (h:Recs at_ L A) (k:KeepsFrom at_ A B):Recs at_ L B :=
 ⟨k.same _ _ (by omega) h.1 rfl,k.same _ _ (Nat.le_refl _) h.2 rfl⟩
variable {F:Fence} {n:Nat} {P:Program}
theorem Zdw {α:Type} {g:Operand} {ps:Array Tmp} {assign body:Code} {Q:Exit->Act->World->Prop} {a:Act} {w:World}
  (hro:F.round=none) (h1:1<=n) {gf:Nat} {lb:Array Value} (hg:a.eval g=.func (.func gf) #[] lb) (hFg:F.fn gf) (eg:∀ args w,(callFunc gf args).run P w=.ok (.enter gf args) w)
  {encs:α->Array Value} {Kp:World->World->Prop} {S Sp:List α->Prop} {N b:Nat} {w0:World} (hseq:SeqCell F (n - 1) P gf lb encs Kp S Sp N b w0) (hb:b < w.heap.size)
  (hKt:∀ {A B C:World},Kp A B->Kp B C->Kp A C) (hKb:∀ (W:World) (l:Nat) (o o':Obj),w.heap.size<=l->W.heap[l]? = some o->o.isCells=false->o.isWalk=false->Kp W (W.putObj l o')) (hb0:Below w0.heap.size w0 w) (hps:∀ x,(encs x).size=ps.size)
  (I:List α->World->Prop) (Ix:Code->List α->World->Prop) (hI:OwnFrom w.heap.size I) (hIx:∀ c,OwnFrom w.heap.size (Ix c)) (hIm:Minds b I) (h0:I [] w) (a₁:α->Act)
  (hassign:∀ (l:Nat) (x:α) (W:World) (K:Act->World->Prop),K (a₁ x) W ->
   assign.wpIn (F.inRound l) (n - 1 - 1) P (Exit.then K (fun _ _ _=>False)) { tmps:=(ps.zip (encs x)).foldl (fun t (p,v)=>t.setIfInBounds p v) a.tmps,defers:=[] } W)
  (hbody:∀ (l:Nat) (pre:List α) (x:α) (W:World),I pre W->pre.length < N->Sp (pre ++ [x])->body.wpIn (F.inRound l) (n - 1 - 1) P (ownPostG w.heap.size Kp I Ix (pre ++ [x]) W) (a₁ x) W)
  (hdone:∀ (D:Nat) (xs:List α) (W:World),w.heap.size<=D->S xs->I xs W->W.heap[D]? = some (.deferred (some []))->Q .normal { a with defers:={ target:=.collected D,args:=#[] } :: a.defers } W)
  (hstop:∀ (D:Nat) (c:Code) (pre:List α) (W:World),w.heap.size<=D->Sp pre->Ix c pre W->W.heap[D]? = some (.deferred (some []))->c.wpIn F n P Q { a with defers:={ target:=.collected D,args:=#[] } :: a.defers } W) :
  (Code.rangeFunc g ps assign body).wpIn F n P Q a w:=by
 refine wpIn_rangeFunc fun fn hfn=>?_
 rw [hro]
 let R:LoopState->Option Code->Loop:=fun st pe=>{ state:=st,pending:=pe,fn,tmps:=a.tmps,params:=ps,assign,body,defers:=w.heap.size }
 have key:∃ W1,(w.alloc (.deferred (some []))).alloc (.loop (R .ready none))=W1/\Recs w.heap.size (R .ready none) W1/\I [] W1/\Below w0.heap.size w0 W1/\w.heap.size<=W1.heap.size:=by
  refine ⟨_,rfl,⟨?_,?_⟩,hI.alloc _ (hI.alloc _ h0),?_,by simp;omega⟩
  ·have := World.alloc_heap_new (w.alloc (.deferred (some []))) (.loop (R .ready none))
   rwa [World.size_alloc] at this
  ·exact (Below.heap_alloc _ _ _ (by simp)).trans (World.alloc_heap_new w _)
  ·exact hb0.trans ((((Below.refl _ w).alloc (Nat.le_refl _) _).alloc (by simp) _).mono hb0.size)
 obtain ⟨W1,e1,r1,i1,b1,z1⟩:=key
 have walks:∀ {A:World} {row:Option Nat},(∀ r,row=some r->W1.heap.size<=r /\ ∃ o:Obj,A.heap[r]? = some o/\o.isWalk=true) -> ∀ r,row=some r->w.heap.size<=r /\ ∃ o:Obj,A.heap[r]? = some o/\o.isCells=false :=
  fun hr r e=>by obtain ⟨h,o,ho,hw⟩:=hr r e;exact ⟨Nat.le_trans z1 h,o,ho,Obj.not_cells_of_walk hw⟩
 refine ⟨w.heap.size+1,[{ target:=.collected w.heap.size,args:=#[] }],W1,{ target:=.fn (.func gf) lb,args:=#[.func (.yield (w.heap.size+1)) #[] #[]] },W1,gf,
  #[.func (.yield (w.heap.size+1)) #[] #[]]++lb,W1,by rw [<- e1];exact run_enterLoop_outer _ _ _ _ _,by simp only [resolve,hg];simp [go_sem],fun f' hf'=>by simp [Target.leads] at hf';subst hf';exact hFg,by simp [invoke,go_sem,eg],fun _=>h1,?_⟩
 refine (hseq (w.heap.size+1) (fun pre W=>I pre W/\Recs w.heap.size (R .ready none) W) (fun pre W => ∃ c,Ix c pre W/\Recs w.heap.size (R .done (some c)) W) W1 b1
  (fun s A B row hs hg' hr=>⟨hI s A B row hs.1 hg' (walks hr),hs.2.grown hg' (fun r e=>(hr r e).2)⟩)
  (fun s A B row hs hg' hr=>by obtain ⟨c,hc,hl⟩:=hs;exact ⟨c,hIx c s A B row hc hg' (walks hr),hl.grown hg' (fun r e=>(hr r e).2)⟩)
  (fun s W v hs=>⟨hIm s W v hs.1,hs.2.set hb v⟩) ?round ⟨i1,r1⟩).mono ?behind
 case round =>
  rintro pre x W ⟨hi,hr⟩ hlen hsp
  refine ⟨fn,_,assign,body,run_yield (P:=P) (args:=encs x) hr.1 (hps x),roundIn_of_wpIn hfn (hassign _ x W _ ⟨_,run_beginRound hr.1 rfl,?_⟩)⟩
  have hr2:Recs w.heap.size { R .ready none with state:=.busy } (W.putObj (w.heap.size+1) (.loop { R .ready none with state:=.busy })):=hr.put _
  have hw2:Kp W (W.putObj (w.heap.size+1) (.loop { R .ready none with state:=.busy })):=hKb _ _ _ _ (by omega) hr.1 rfl rfl
  refine wpIn_mono (hbody _ pre x _ (hI.putObj _ hi (by omega) hr.1 rfl) hlen hsp) ?_
  rintro e a3 W3 hp
  have left:∀ (c:Code),KeepsFrom w.heap.size (W.putObj (w.heap.size+1) (.loop { R .ready none with state:=.busy })) W3->Ix c (pre ++ [x]) W3 ->
    ∃ v W',(Instr.endRound (w.heap.size+1) (some c)).run P W3=.ok v W'/\(v=.bool false /\ ∃ c',Ix c' (pre ++ [x]) W'/\Recs w.heap.size (R .done (some c')) W'):=fun c hk hx =>
   ⟨_,_,run_endRound (P:=P) (some c) (hr2.keeps hk).1,rfl,c,(hIx c).putObj _ hx (by omega) (hr2.keeps hk).1 rfl,(hr2.keeps hk).put _⟩
  cases e with
  | normal =>
   obtain ⟨hk,hkp,hi3⟩:=hp
   exact ⟨_,_,run_endRound (P:=P) none (hr2.keeps hk).1,.inl ⟨rfl,⟨hI.putObj _ hi3 (by omega) (hr2.keeps hk).1 rfl,(hr2.keeps hk).put _⟩,hKt (hKt hw2 hkp) (hKb _ _ _ _ (by omega) (hr2.keeps hk).1 rfl rfl)⟩⟩
  | ret=>obtain ⟨v,W',q,rfl,h⟩:=left .ret hp.1 hp.2;exact ⟨_,_,q,.inr ⟨rfl,h⟩⟩
  | exit id=>obtain ⟨v,W',q,rfl,h⟩:=left (.exit id) hp.1 hp.2;exact ⟨_,_,q,.inr ⟨rfl,h⟩⟩
  | goto t=>obtain ⟨v,W',q,rfl,h⟩:=left (.goto t) hp.1 hp.2;exact ⟨_,_,q,.inr ⟨rfl,h⟩⟩
  | panic ch=>exact hp.elim
  | outgrown=>exact hp.elim
 case behind =>
  rintro e W2 ⟨⟨v,rfl⟩,(⟨xs,hS,hi,hr⟩|⟨pre,hSp,c,hi,hr⟩)⟩
  ·exact ⟨none,_,run_endLoop (P:=P) hr.1 (by simp [R]),hdone _ xs _ (Nat.le_refl _) hS (hI.putObj _ hi (by omega) hr.1 rfl) (hr.put _).2⟩
  ·exact ⟨some c,_,run_endLoop (P:=P) hr.1 (by simp [R]),hstop _ c pre _ (Nat.le_refl _) hSp ((hIx c).putObj _ hi (by omega) hr.1 rfl) (hr.put _).2⟩
def noDefer (ops:Array Oper):Bool:=ops.all fun o=>match o.op with | .defer _=>false|_=>true
theorem Zj5 {ops:Array Oper} (h:noDefer ops=true) {i:Nat} {o:Oper} (ho:ops[i]? = some o):∀ c,o.op ≠ .defer c:=by
 intro c hc
 unfold noDefer at h
 rw [Array.all_eq_true_iff_forall_mem] at h
 have := h o (Array.mem_of_getElem? ho)
 rw [hc] at this
 cases this
variable {P:Program} {ops:Array Oper} {Q:Exit->Act->World->Prop} {md:Region.Mode}
theorem Zkc {r n i:Nat} {K K':Act->World->Prop} {a:Act} {w:World} (hd:noDefer ops=true) (hL:¬ LetsOut Q) (hK:∀ a w,K a w->K' a w) (h:wpOp P ops Q i K a w) :
  wpOpIn (Fence.wide.inRound r) n P ops Q i K' a w:=by
 unfold wpOp at h
 unfold wpOpIn
 cases ho:ops[i]? with
 | none=>simp only [ho] at h ⊢;exact hK _ _ h
 | some o =>
  simp only [ho] at h ⊢
  split
  ·rename_i hw
   simp only [hw,if_true] at h
   have h:=h.resolve_right (fun hx=>hL hx.2)
   refine ⟨fun _ _=>trivial,?_⟩
   rw [Oper.semAt_plain _ _ _ (Zj5 hd ho)]
   unfold Oper.wp at h
   generalize (execOp a.eval o).run P w=x at *
   cases x with
   | ok v w' =>
    cases v <;> simp only [Oper.upon] at h <;> simp only [Oper.uponIn]
    case value u=>exact hK _ _ h
    case skip=>exact hK _ _ h
    case defer d=>exact hK _ _ h
    case enter f args =>
     refine ⟨fun e=>(by cases e),?_⟩
     refine CallsIn.inRound r (callsIn_wide.2 (h.mono fun e w'' he=>?_))
     cases e with
     | returned v=>exact hK _ _ he
     | panicked c=>exact he
     | outgrown=>exact he
    case row row args =>
     refine ⟨fun e=>(by cases e),fun c cs _=>?_⟩
     obtain ⟨v,w'',hr,hs⟩:=h c cs
     exact ⟨v,w'',hK _ _ hr,stepsIn_wide.2 hs⟩
   | halt x w'=>cases x <;> simp only [Oper.upon] at h <;> simp only [Oper.uponIn] <;> exact h
  ·rename_i hw
   simp only [hw] at h
   exact ⟨fun _ _=>trivial,hK _ _ h⟩
theorem Ze3 {r n:Nat} (hd:noDefer ops=true) (hL:¬ LetsOut Q):∀ (fuel:Nat) (listed:Array Bool) (a:Act) (w:World),wpAny P md ops Q fuel listed a w->wpAnyIn (Fence.wide.inRound r) n P md ops Q fuel listed a w
 | 0,_,_,_,h=>h
 | fuel+1,_,_,_,h=>⟨h.1,fun i hi=>Zkc hd hL (fun a w=>Ze3 hd hL fuel _ a w) (h.2 i hi)⟩
theorem Ze6 {r m id:Nat} {a:Act} {w:World} {l:List Oper} (hm:P.follows .mixedOrders=true) (hd:noDefer l.toArray=true) (hL:¬ LetsOut Q) (hB:Region.lexB .any l.toArray=true)
  (h:wpQuiet P l.toArray (fun w' => ∃ n,w'=w.drewN n) (fun a' => ∀ w',(∃ n,w'=w.drewN n)->Q .normal a' w') l a):(Code.region id l.toArray true).wpIn (Fence.wide.inRound r) m P Q a w:=by
 simp only [Region.lexB,Bool.and_eq_true] at hB
 refine wpIn_region_any hm (Ze3 hd hL _ _ _ _ (wpAny_of_quiet (C:=fun w' => ∃ n,w'=w.drewN n) (Q:=fun a' => ∀ w',(∃ n,w'=w.drewN n)->Q .normal a' w') (fun _ w' hw' h=>h w' hw') _ _ _ _ ⟨1,rfl⟩ ?_))
 have := wpAnyQ_lex (C:=fun w' => ∃ n,w'=w.drewN n) (md:=.any) hB.1 l 0 (Array.replicate l.length false) a (by simp) (by simpa using hB.2) h
 simpa using this
section
variable {C:World->Prop}
end
section
variable {S:World->Prop}
theorem Zoe {i fuel:Nat} {o:Oper} {v:Value} {listed:Array Bool} {a:Act} {w w':World} (hr:Region.ready md ops listed=[i]) (ho:ops[i]? = some o) (hw:Region.wanted o (yielded ops a.tmps)=true)
  (hrun:(execOp a.eval o).run P w=.ok (.value v) w') (hS:S w') (h:wpAnyH P md ops Q S fuel (listed.setIfInBounds i true) (a.put o.dst v) w'):wpAnyH P md ops Q S (fuel+1) listed a w :=
 wpAnyH_all hr (by simp) fun j hj=>by
  obtain rfl:=List.mem_singleton.1 hj
  unfold wpOp
  simp only [ho,hw,if_true]
  refine .inl ?_
  unfold Oper.wp
  rw [hrun]
  exact ⟨hS,h⟩
theorem Zlu {i fuel:Nat} {o:Oper} {listed:Array Bool} {a:Act} {w w':World} (hr:Region.ready md ops listed=[i]) (ho:ops[i]? = some o) (hw:Region.wanted o (yielded ops a.tmps)=true)
  (hrun:(execOp a.eval o).run P w=.ok .skip w') (hS:S w') (h:wpAnyH P md ops Q S fuel (listed.setIfInBounds i true) (a.put o.dst undef) w'):wpAnyH P md ops Q S (fuel+1) listed a w :=
 wpAnyH_all hr (by simp) fun j hj=>by
  obtain rfl:=List.mem_singleton.1 hj
  unfold wpOp
  simp only [ho,hw,if_true]
  refine .inl ?_
  unfold Oper.wp
  rw [hrun]
  exact ⟨hS,h⟩
theorem Zlt {i fuel:Nat} {o:Oper} {f:FuncId} {args:Array Value} {listed:Array Bool} {a:Act} {w:World} (hr:Region.ready md ops listed=[i]) (ho:ops[i]? = some o) (hw:Region.wanted o (yielded ops a.tmps)=true)
  (hrun:(execOp a.eval o).run P w=.ok (.enter f args) w) {R:Ending->World->Prop} (hc:Calls P f args w R) (h:∀ e w',R e w' -> ∃ v,e=.returned v/\S w'/\wpAnyH P md ops Q S fuel (listed.setIfInBounds i true) (a.put o.dst v) w'):wpAnyH P md ops Q S (fuel+1) listed a w :=
 wpAnyH_all hr (by simp) fun j hj=>by
  obtain rfl:=List.mem_singleton.1 hj
  unfold wpOp
  simp only [ho,hw,if_true]
  refine .inl ?_
  unfold Oper.wp
  rw [hrun]
  exact hc.mono fun e w' he=>by obtain ⟨v,rfl,hh⟩:=h e w' he;exact hh
theorem Zh4 {m id:Nat} {a:Act} {w:World} {l:List Oper} (S:World->Prop) (hm:P.follows .mixedOrders=true)
  (h:wpAnyH P .any l.toArray (NoPanic Q) S l.length (Array.replicate l.length false) a { w with drawn:=w.drawn+1 }):(Code.region id l.toArray true).wpIn Fence.wide m P Q a w :=
 wpIn_wide.2 (wp_region_noPanic (wp_region_any hm (wpAny_of_held (S:=S) _ _ _ _ (by simpa using h))))
end
end YtjbjkmccfocikaaGreatDoor.B
end
section
namespace YtjbjkmccfocikaaGreatDoor.B
open Go.RowKit Go.Shelf YtjbjkmccfocikaaGreatDoorW.PrintWords
attribute [local go_sem] Oper.semAt_some
theorem Zhh {P:Program} {f:FuncId} {args:Array Value} {w:World} {n:Nat} {v:Value} (h:Calls P f args (w.drewN n) fun e w'=>e=.returned v/\Drawn0 (w.drewN n) w'):Calls P f args (w.drewN n) fun e w''=>e=.returned v /\ ∃ m,w''=w.drewN m :=
 h.mono fun _ _ ⟨he,hd⟩=>⟨he,by obtain ⟨m,hm⟩:=hd.out;exact ⟨n+m,by rw [hm,World.drewN_drewN]⟩⟩
theorem Zpd {W:World} {b t:Nat} {v:Value} (h:Boxed W b t v) (n:Nat):Boxed (W.drewN n) b t v:=h
theorem Zk1 (W:World) (n:Nat):(W.drewN n).heap.size=W.heap.size:=rfl
theorem Zrz (b o j:Nat):(⟨b,o,none⟩:Addr).add j=⟨b,o+j,none⟩:=by unfold Addr.add;split <;> simp_all
theorem Zi0 {w:World} {ad:Addr} {v:Value} (h:w.cell? ad=some v):∃ b o,ad=⟨b,o,none⟩:=by
 obtain ⟨b,o,s⟩:=ad
 cases s with
 | none=>exact ⟨b,o,rfl⟩
 | some s =>
  unfold World.cell? at h
  split at h
  ·simp at h
  ·cases h
abbrev bkEnc (p:Nat × Int):Array Value:=#[.int .i64 p.1,.int .u32 p.2]
def RdW (A:Option Addr) (m:Nat) (Rd:Nat->Int->Prop) (W:World):Prop:=m=0 \/ ∃ b o,A=some ⟨b,o,none⟩ /\ ∀ j,j < m -> ∃ x,W.cell? ⟨b,o+j,none⟩=some (.int .u32 x)/\Rd j x
def BkP (Rd:Nat->Int->Prop) (m:Nat) (ys:List (Nat × Int)):Prop:=ys.length<=m /\ ∀ k x,ys[k]? = some x->x.1=m - 1 - k/\Rd x.1 x.2
def KpB (Bs:Nat) (A:Option Addr) (m:Nat) (Rd:Nat->Int->Prop) (W W':World):Prop:=W'.heap[Bs]? = W.heap[Bs]? /\ (RdW A m Rd W->RdW A m Rd W')
theorem RdW.below {A:Option Addr} {m:Nat} {Rd:Nat->Int->Prop} {W W':World} (h:RdW A m Rd W) (hb:Below W.heap.size W W'):RdW A m Rd W':=by
 rcases h with h|⟨b,o,hA,h⟩
 ·exact .inl h
 ·refine .inr ⟨b,o,hA,fun j hj=>?_⟩
  obtain ⟨x,hx,hr⟩:=h j hj
  exact ⟨x,Zdd hb hx,hr⟩
theorem RdW.at {A:Option Addr} {m:Nat} {Rd:Nat->Int->Prop} {W:World} (h:RdW A m Rd W) {j:Nat} (hj:j < m):∃ b o x,A=some ⟨b,o,none⟩/\W.cell? ⟨b,o+j,none⟩=some (.int .u32 x)/\Rd j x:=by
 obtain ⟨b,o,hA,h⟩:=h.resolve_left (by omega)
 obtain ⟨x,hx,hr⟩:=h j hj
 exact ⟨b,o,x,hA,hx,hr⟩
theorem RdW.grown {A:Option Addr} {m:Nat} {Rd:Nat->Int->Prop} {W W':World} {row:Option Nat} (h:RdW A m Rd W) (hg:W.grownBy W' row) (hr:∀ r,row=some r -> ∃ o:Obj,W.heap[r]? = some o/\o.isCells=false):RdW A m Rd W':=by
 rcases h with h|⟨b,o,hA,h⟩
 ·exact .inl h
 ·refine .inr ⟨b,o,hA,fun j hj=>?_⟩
  obtain ⟨x,hx,hrd⟩:=h j hj
  exact ⟨x,cell_kept hx hg hr,hrd⟩
theorem KpB.trans {Bs:Nat} {A:Option Addr} {m:Nat} {Rd:Nat->Int->Prop} {X Y Z:World} (h:KpB Bs A m Rd X Y) (k:KpB Bs A m Rd Y Z):KpB Bs A m Rd X Z:=⟨k.1.trans h.1,fun x=>k.2 (h.2 x)⟩
theorem KpB.put {Bs:Nat} {A:Option Addr} {m:Nat} {Rd:Nat->Int->Prop} {W:World} {l:Nat} {o o':Obj} (hl:Bs ≠ l) (ho:W.heap[l]? = some o) (hc:o.isCells=false):KpB Bs A m Rd W (W.putObj l o') :=
 ⟨World.putObj_heap_other hl,fun h=>h.grown (grownBy_putObj' W l o') (fun r e=>by cases e;exact ⟨o,ho,hc⟩)⟩
theorem BkP.snoc {Rd:Nat->Int->Prop} {m:Nat} {pre:List (Nat × Int)} {x:Int} (h:BkP Rd m pre) (hl:pre.length < m) (hx:Rd (m - 1 - pre.length) x):BkP Rd m (pre ++ [(m - 1 - pre.length,x)]):=by
 refine ⟨by simp;omega,fun k y hy=>?_⟩
 rcases Nat.lt_trichotomy k pre.length with h1|h1|h1
 ·rw [List.getElem?_append_left h1] at hy;exact h.2 k y hy
 ·subst h1
  rw [List.getElem?_append_right (Nat.le_refl _),Nat.sub_self] at hy
  obtain rfl:=Option.some.inj hy
  exact ⟨rfl,hx⟩
 ·rw [List.getElem?_eq_none (by simp;omega)] at hy;cases hy
theorem Znm (w:World) (A:Option Addr) (m c:Nat) (n:Nat) :
  CallsIn Fence.wide n Tryz.prog 158 #[.slice A m c] w fun e w'=>e=.returned (.func (.func 184) #[] #[.pointer (some ⟨w.heap.size,0,none⟩)])/\w'=w.alloc (.cells #[.slice A m c] 134):=by
 refine callsIn_of_wp Tryz.func158 rfl trivial ?_ rfl
 simp only [Tryz.ntmps158,List.size_toArray,List.length_cons,List.length_nil,Nat.reduceAdd,Nat.reduceSub,Array.replicate_succ,Array.replicate_zero,List.push_toArray,List.append_toArray,List.nil_append,List.cons_append]
 gi_wp2
 go_ret
 exact ⟨rfl,rfl⟩
theorem Zpb (n:Nat) (hn:1<=n) (l Bs:Nat) (A:Option Addr) (m c:Nat) (Rd:Nat->Int->Prop) (hm:m<=9223372036854775807) (J Jx:List (Nat × Int)->World->Prop)
  (W:World) (hJ:AbidesFrom W.heap.size J)
  (hY:∀ pre x W1,J pre W1->pre.length < m->BkP Rd m (pre ++ [x])->YieldAt Fence.wide (n - 1) Tryz.prog l (bkEnc x) W1 fun e W' =>
   (e=.returned (.bool true)/\J (pre ++ [x]) W'/\KpB Bs A m Rd W1 W')\/(e=.returned (.bool false)/\Jx (pre ++ [x]) W'))
  (hBs:Boxed W Bs 134 (.slice A m c)) (hR:RdW A m Rd W) (h0:J [] W) :
  CallsIn Fence.wide n Tryz.prog 184 #[.func (.yield l) #[] #[],.pointer (some ⟨Bs,0,none⟩)] W fun e W'=>(∃ v,e=.returned v) /\
   ((∃ ys,(BkP Rd m ys/\ys.length=m)/\J ys W')\/(∃ pre,BkP Rd m pre/\Jx pre W')):=by
 have hc0:=hBs.cell
 have HBs:=Lib.hid hBs
 have HJ:=Lib.hid hJ
 have HY:=Lib.hid hY
 clear hBs hJ hY
 refine callsIn_of_wp Tryz.func184 rfl trivial ?_ rfl
 simp only [Tryz.ntmps184,List.size_toArray,List.length_cons,List.length_nil,Nat.reduceAdd,Nat.reduceSub,Array.replicate_succ,Array.replicate_zero,List.push_toArray,List.append_toArray,List.nil_append,List.cons_append]
 gi_wp2
 gi_loopw [3] (fun i wr => ∃ pre:List (Nat × Int),i=.int .i64 ((m:Int) - 1 - (pre.length:Int))/\BkP Rd m pre/\Boxed wr Bs 134 (.slice A m c)/\RdW A m Rd wr/\J pre wr)
  (fun i _=>(intOf i+1).toNat)
 case atStart=>exact ⟨[],by simp,⟨Nat.zero_le _,fun k x h=>by simp at h⟩,HBs.out,hR,h0⟩
 case round =>
  obtain ⟨pre,rfl,hp,hb,hr,hj⟩:=hrel
  have hle:=hp.1
  have hc1:=hb.cell
  have HP:=Lib.hid hp
  have HB:=Lib.hid hb
  clear hp hb hc0 hR
  obtain ⟨k,hk⟩:∃ k,pre.length=k:=⟨_,rfl⟩
  rw [hk] at hle ⊢
  by_cases hlt:k < m
  ·have hlt':(0:Int)<=(m:Int) - 1 - (k:Int):=by omega
   obtain ⟨b,o,rfl,hcs⟩:∃ b o,A=some ⟨b,o,none⟩ /\ ∀ j,j < m -> ∃ x,wr.cell? ⟨b,o+j,none⟩=some (.int .u32 x)/\Rd j x:=hr.resolve_left (by omega)
   obtain ⟨x,hx,hrd⟩:=hcs (m - 1 - k) (by omega)
   have hsn:=HP.out.snoc (by omega) (by rw [hk];exact hrd)
   rw [hk] at hsn
   obtain ⟨fn,tmps,assign,body,hy,hRr⟩:=HY.out pre (m - 1 - k,x) wr hj (by omega) hsn
   obtain ⟨i,hi⟩:∃ i:Nat,m - 1 - k=i:=⟨_,rfl⟩
   have hi':(m:Int) - 1 - (k:Int)=(i:Int):=by omega
   rw [hi] at hx hy hsn hRr
   rw [hi']
   have hx0:(0:Int)<=(i:Int):=by omega
   have hx1:(i:Int) < (m:Int):=by omega
   have HI:=Lib.hid hi'
   have HK:=Lib.hid hk
   have HSn:=Lib.hid hsn
   have HRr:=Lib.hid hr
   clear hi' hi hk hlt' hsn hr hcs hrd
   dsimp only [bkEnc] at hy
   gi_wp2
   refine hRr.mono ?_
   rintro e W3 (⟨rfl,hJ3,hk1,hk2⟩|⟨rfl,hJx3⟩)
   ·have hb3:Boxed W3 Bs 134 (.slice (some ⟨b,o,none⟩) m c):=hk1.trans HB.out
    have hr3:=hk2 HRr.out
    gi_wp2
    go_roundw
    case rel=>exact ⟨pre ++ [(i,x)],by have := HI.out;have := HK.out;rw [List.length_append];simp only [List.length_cons,List.length_nil];exact congrArg (Value.int .i64) (by omega),HSn.out,hb3,hr3,hJ3⟩
    case measure=>simp [intOf]
   ·gi_wp2
    refine bodyPost_ret (results_none rfl _ _ _) rfl ?_
    exact ⟨⟨_,rfl⟩,.inr ⟨_,HSn.out,hJx3⟩⟩
  ·have hge:¬ (0:Int)<=(m:Int) - 1 - (k:Int):=by omega
   have HK:=Lib.hid hk
   clear hk
   gi_wp2
   go_end0
   exact ⟨⟨_,rfl⟩,.inl ⟨pre,⟨HP.out,by have := HK.out;omega⟩,hj⟩⟩
theorem Zie (n:Nat) (hn:1<=n) (Bs:Nat) (A:Option Addr) (m c:Nat) (Rd:Nat->Int->Prop) (hm:m<=9223372036854775807) (w:World)
  (hBs:Boxed w Bs 134 (.slice A m c)) (hR:RdW A m Rd w) :
  SeqCell Fence.wide n Tryz.prog 184 #[.pointer (some ⟨Bs,0,none⟩)] bkEnc (KpB Bs A m Rd) (fun ys=>BkP Rd m ys/\ys.length=m) (BkP Rd m) m Bs w :=
 fun l J Jx W hW hJ _ _ hY h0=>Zpb n hn l Bs A m c Rd hm J Jx W hJ hY ((hW.block Bs hBs.lt).trans hBs) (hR.below hW) h0
end YtjbjkmccfocikaaGreatDoor.B
end
section
namespace YtjbjkmccfocikaaGreatDoor.B
open Go.RowKit YtjbjkmccfocikaaGreatDoorW.PrintWords YtjbjkmccfocikaaGreatDoor.P.Nm
theorem Zme (A B C D:Nat) (hA:A < 4294967296) (hB:B < 4294967296) (hC:C<=1) (hD:D < 4294967296) (h:(D:Int)=((A:Int) - B - C) % 4294967296) :
  (((4294967295 ^^^ A) &&& B) ||| ((4294967295 ^^^ (A ^^^ B)) &&& D)) / 2147483648=if A < B+C then 1 else 0:=by
 rw [show (2147483648:Nat)=2 ^ 31 by rfl,<- Nat.shiftRight_eq_div_pow,Nat.shiftRight_or_distrib,Nat.shiftRight_and_distrib,Nat.shiftRight_and_distrib,Nat.shiftRight_xor_distrib,Nat.shiftRight_xor_distrib,Nat.shiftRight_xor_distrib]
 rw [show (4294967295 >>> 31:Nat)=1 by rfl]
 simp only [Nat.shiftRight_eq_div_pow]
 rw [show (2 ^ 31:Nat)=2147483648 by rfl]
 obtain ⟨a,ha⟩:∃ a,A / 2147483648=a:=⟨_,rfl⟩
 obtain ⟨b,hb⟩:∃ b,B / 2147483648=b:=⟨_,rfl⟩
 obtain ⟨d,hd⟩:∃ d,D / 2147483648=d:=⟨_,rfl⟩
 rw [ha,hb,hd]
 have ha1:a=0\/a=1:=by omega
 have hb1:b=0\/b=1:=by omega
 have hd1:d=0\/d=1:=by omega
 obtain rfl|rfl:=ha1 <;> obtain rfl|rfl:=hb1 <;> obtain rfl|rfl:=hd1 <;> (split <;> first|rfl|(exfalso;omega))
theorem Zmf (a0 a1 a2:Int) (h1:0<=a0) (h2:a0 < 4294967296) (h3:0<=a1) (h4:a1 < 4294967296) (h5:0<=a2) (h6:a2<=1) :
  bits .or .u32 (bits .and .u32 (bits .xor .u32 IntKind.u32.max a0) a1) (bits .and .u32 (bits .xor .u32 IntKind.u32.max (bits .xor .u32 a0 a1)) ((a0 - a1 - a2) % 4294967296)) / 2147483648=if a0 < a1+a2 then 1 else 0:=by
 obtain ⟨D,hD⟩:=Int.eq_ofNat_of_zero_le (show 0<=(a0 - a1 - a2) % 4294967296 by omega)
 obtain ⟨A,rfl⟩:=Int.eq_ofNat_of_zero_le h1
 obtain ⟨B,rfl⟩:=Int.eq_ofNat_of_zero_le h3
 obtain ⟨C,rfl⟩:=Int.eq_ofNat_of_zero_le h5
 have key:=Zme A B C D (by omega) (by omega) (by omega) (by omega) hD.symm
 have e1:bits .xor .u32 IntKind.u32.max (A:Int)=((4294967295 ^^^ A:Nat):Int):=u32_xor_nat 4294967295 A (by omega) (by omega)
 have e2:bits .xor .u32 (A:Int) (B:Int)=((A ^^^ B:Nat):Int):=u32_xor_nat A B (by omega) (by omega)
 have x2:A ^^^ B < 2 ^ 32:=Nat.xor_lt_two_pow (by omega) (by omega)
 have e3:bits .xor .u32 IntKind.u32.max ((A ^^^ B:Nat):Int)=((4294967295 ^^^ (A ^^^ B):Nat):Int):=u32_xor_nat 4294967295 _ (by omega) (by omega)
 have x1:4294967295 ^^^ A < 2 ^ 32:=Nat.xor_lt_two_pow (by omega) (by omega)
 have x3:4294967295 ^^^ (A ^^^ B) < 2 ^ 32:=Nat.xor_lt_two_pow (by omega) (by omega)
 have e4:bits .and .u32 ((4294967295 ^^^ A:Nat):Int) (B:Int)=(((4294967295 ^^^ A) &&& B:Nat):Int):=u32_and_nat _ B (by omega) (by omega)
 have e5:bits .and .u32 ((4294967295 ^^^ (A ^^^ B):Nat):Int) (D:Int)=(((4294967295 ^^^ (A ^^^ B)) &&& D:Nat):Int):=u32_and_nat _ D (by omega) (by omega)
 have x4:(4294967295 ^^^ A) &&& B < 2 ^ 32:=Nat.and_lt_two_pow _ (by omega)
 have x5:(4294967295 ^^^ (A ^^^ B)) &&& D < 2 ^ 32:=Nat.and_lt_two_pow _ (by omega)
 have e6:bits .or .u32 (((4294967295 ^^^ A) &&& B:Nat):Int) (((4294967295 ^^^ (A ^^^ B)) &&& D:Nat):Int)=((((4294967295 ^^^ A) &&& B) ||| ((4294967295 ^^^ (A ^^^ B)) &&& D):Nat):Int):=u32_or_nat _ _ (by omega) (by omega)
 rw [hD,e1,e2,e3,e4,e5,e6]
 have := congrArg (Nat.cast:Nat->Int) key
 rw [Int.natCast_ediv] at this
 refine this.trans ?_
 by_cases hlt:A < B+C
 ·rw [if_pos hlt,if_pos (by omega)];rfl
 ·rw [if_neg hlt,if_neg (by omega)];rfl
def Zdo.f (x y b:Int):Option (Int × Int) :=
 if 0<=x/\x < 4294967296/\0<=y/\y < 4294967296/\0<=b/\b<=1 then some ((x - y - b) % 4294967296,if x < y+b then 1 else 0) else none
theorem Zdo.calls (a0 a1 a2 r1 r2:Int) (w:World) (h:Zdo.f a0 a1 a2=some (r1,r2)) :
  Calls Tryz.prog 185 #[.int .u32 a0,.int .u32 a1,.int .u32 a2] w fun e w'=>e=.returned (.tuple #[.int .u32 r1,.int .u32 r2])/\Drawn0 w w':=by
 unfold Zdo.f at h
 split at h
 case isFalse=>cases h
 case isTrue hk =>
 obtain ⟨h1,h2,h3,h4,h5,h6⟩:=hk
 obtain ⟨rfl,hr2⟩:=Prod.mk.inj (Option.some.inj h)
 have HF:=Aside0.mk ((Zmf a0 a1 a2 h1 h2 h3 h4 h5 h6).trans hr2)
 clear h h1 h2 h3 h4 h5 h6 hr2
 go_enter Tryz.func185,Tryz.ntmps185
 go_wp2
 go_ret2
 refine ⟨?_,Drawn0.refl _⟩
 exact congrArg (fun z=>Ending.returned (Value.tuple #[Value.int .u32 ((a0 - a1 - a2) % 4294967296),Value.int .u32 z])) HF.out
def Zao.f (l0:List Int):Option (List Int):=if l0.length*4<=140737488355328 then some l0 else none
theorem Zao.zer (a:Addr) (c:Nat) (w:World) :
  Calls Tryz.prog 102 #[.slice (some a) 0 c] w fun e w' => ∃ v',e=.returned v'/\w'.ownsRow w.heap.size 85 1 v' 0 []/\Below w.heap.size w w':=by
 obtain ⟨i0,hi,hz0,hz1,hz2⟩:=info_parts info85
 have q22:∀ (w:World) (a:Option Addr) (n c n' c':Nat),(binOp .eql 22 (.slice a n c) (.slice none n' c')).run Tryz.prog w=.ok (.bool a.isNone) w:=fun w a n c n' c'=>Lib.run_eql_slice_nil w _ _ a n c n' c' Tryz.underlying22
 go_enter Tryz.func102,Tryz.ntmps102
 go_wp2_with (at_builtin;refine wpList_append_own _ rfl _ _ 22 rfl w.heap.size 85 i0 (.int .u32 0) 1 4 Tryz.underlying22 hi hz0 hz1 hz2 rfl (by decide) _ _ _ rfl (World.ownsRow_made w #[] 0 (Nat.le_refl _) (Nat.zero_le _) rfl) a 0 c [] rfl rfl (by intro j u hj;simp at hj) (by intro u hu;cases hu) (by unfold maxLen;omega) (by omega) (by simp) ?_)
 intro v' w1 hown hgrow hnil
 go_wp2
 go_ret
 exact ⟨v',rfl,by simpa using hown,((Below.refl _ w).alloc (Nat.le_refl _) _).grown hgrow (by simp) (by intro k hk;simp [Value.ownBlock] at hk;omega)⟩
theorem Zao.many (b off n c:Nat) (news:List Value) (w:World) (hl:news.length=n*1) (hn:n<=maxLen) (hbig:n*4<=140737488355328) (hc:∀ j u,news[j]? = some u->w.cell? ⟨b,off+j,none⟩=some u) (h1:∀ u ∈ news,u.oneCell'=true) :
  Calls Tryz.prog 102 #[.slice (some ⟨b,off,none⟩) n c] w fun e w' => ∃ v',e=.returned v'/\w'.ownsRow w.heap.size 85 1 v' n news/\Below w.heap.size w w':=by
 obtain ⟨i0,hi,hz0,hz1,hz2⟩:=info_parts info85
 have q22:∀ (w:World) (a:Option Addr) (n c n' c':Nat),(binOp .eql 22 (.slice a n c) (.slice none n' c')).run Tryz.prog w=.ok (.bool a.isNone) w:=fun w a n c n' c'=>Lib.run_eql_slice_nil w _ _ a n c n' c' Tryz.underlying22
 have AA:=Aside0.mk hc
 clear hc
 go_enter Tryz.func102,Tryz.ntmps102
 go_wp2_with (at_builtin;refine wpList_append_own _ rfl _ _ 22 rfl w.heap.size 85 i0 (.int .u32 0) 1 4 Tryz.underlying22 hi hz0 hz1 hz2 rfl (by decide) _ _ _ rfl (World.ownsRow_made w #[] 0 (Nat.le_refl _) (Nat.zero_le _) rfl) ⟨b,off,none⟩ n c news rfl ?qc1 ?qc2 ?qc3 ?qc4 ?qc5 ?qc6 ?_)
 case qc1=>exact hl
 case qc2 =>
  intro j u hj
  rw [Zgz]
  exact Lib.cell?_alloc_some _ (AA.out j u hj)
 case qc3=>exact h1
 case qc4=>rw [Nat.zero_add];exact hn
 case qc5=>rw [Nat.zero_add];exact hbig
 case qc6=>simp
 intro v' w1 hown hgrow hnil
 go_wp2
 go_ret
 exact ⟨v',rfl,by simpa using hown,((Below.refl _ w).alloc (Nat.le_refl _) _).grown hgrow (by simp) (by intro k hk;simp [Value.ownBlock] at hk;omega)⟩
theorem Zao.nul (n c:Nat) (w:World):Calls Tryz.prog 102 #[.slice none n c] w fun e w'=>e=.returned (.slice none 0 0)/\w'=w:=by
 have q22:∀ (w:World) (a:Option Addr) (n c n' c':Nat),(binOp .eql 22 (.slice a n c) (.slice none n' c')).run Tryz.prog w=.ok (.bool a.isNone) w:=fun w a n c n' c'=>Lib.run_eql_slice_nil w _ _ a n c n' c' Tryz.underlying22
 go_enter Tryz.func102,Tryz.ntmps102
 go_wp2
 go_ret
 exact ⟨rfl,rfl⟩
theorem Zao.calls (A0:Option Addr) (c0:Nat) (l0:List Int) (r:List Int) (w:World) (hr0:Kd.C (Kd.int .u32) w A0 l0.length l0) (hc0:l0.length<=c0) (h:Zao.f l0=some r) :
  Calls Tryz.prog 102 #[.slice A0 l0.length c0] w fun e w' => ∃ v0_:Value,e=.returned v0_/\Kd.R (Kd.int .u32) 85 w' w.heap.size (fun _=>True) v0_ r/\Below w.heap.size w w':=by
 unfold Zao.f at h
 split at h
 case isFalse=>cases h
 case isTrue hb =>
 obtain rfl:=Option.some.inj h
 have hR:ReadsOf (Value.int .u32) 0 w A0 l0.length l0:=Kd.Zfo hr0
 rcases Nat.eq_zero_or_pos l0.length with h0|h0
 ·obtain rfl:l0=[]:=List.eq_nil_of_length_eq_zero h0
  cases A0 with
  | none =>
   refine (Zao.nul _ _ w).mono ?_
   rintro e w' ⟨rfl,rfl⟩
   exact ⟨_,rfl,Kd.Zh1 _ _ _ _ _,Below.refl _ _⟩
  | some a =>
   refine (Zao.zer a c0 w).mono ?_
   rintro e w' ⟨v,rfl,ho,hb⟩
   exact ⟨v,rfl,Kd.Zed (enc:=Value.int .u32) (xs:=[]) ho (fun _ _=>trivial),hb⟩
 ·obtain ⟨ad,rfl,hc⟩:=hR.2.2 h0
  obtain ⟨b,o,rfl⟩:=Zi0 (show w.cell? ad=_ from hc 0 h0)
  refine (Zao.many b o l0.length c0 (encs (Value.int .u32) l0) w (by simp [encs]) (by simp [maxLen];omega) hb (fun j u hj=>?_) (fun u hu=>?_)).mono ?_
  ·have hjl:j < l0.length:=by have := (List.getElem?_eq_some_iff.1 hj).1;simpa [encs] using this
   have := hc j hjl
   rw [Zgz] at this
   rw [this,<- hj]
   simp [encs,List.getD,List.getElem?_eq_getElem hjl]
  ·obtain ⟨x,_,rfl⟩:=List.mem_map.1 (show u ∈ l0.map (Value.int .u32) from hu)
   rfl
  ·rintro e w' ⟨v,rfl,ho,hb⟩
   exact ⟨v,rfl,Kd.Zed (enc:=Value.int .u32) ho (fun _ _=>trivial),hb⟩
def Zdk.f (l0:List Int):Option (List Int):=if l0.length*4<=140737488355328 then some l0 else none
theorem Zdk.zer (a:Addr) (c:Nat) (w:World) :
  Calls Tryz.prog 155 #[.slice (some a) 0 c] w fun e w' => ∃ v',e=.returned v'/\w'.ownsRow w.heap.size 85 1 v' 0 []/\Below w.heap.size w w':=by
 obtain ⟨i0,hi,hz0,hz1,hz2⟩:=info_parts info85
 have q22:∀ (w:World) (a:Option Addr) (n c n' c':Nat),(binOp .eql 134 (.slice a n c) (.slice none n' c')).run Tryz.prog w=.ok (.bool a.isNone) w:=fun w a n c n' c'=>Lib.run_eql_slice_nil w _ _ a n c n' c' Tryz.underlying134
 go_enter Tryz.func155,Tryz.ntmps155
 go_wp2_with (at_builtin;refine wpList_append_own _ rfl _ _ 134 rfl w.heap.size 85 i0 (.int .u32 0) 1 4 Tryz.underlying134 hi hz0 hz1 hz2 rfl (by decide) _ _ _ rfl (World.ownsRow_made w #[] 0 (Nat.le_refl _) (Nat.zero_le _) rfl) a 0 c [] rfl rfl (by intro j u hj;simp at hj) (by intro u hu;cases hu) (by unfold maxLen;omega) (by omega) (by simp) ?_)
 intro v' w1 hown hgrow hnil
 go_wp2
 go_ret
 exact ⟨v',rfl,by simpa using hown,((Below.refl _ w).alloc (Nat.le_refl _) _).grown hgrow (by simp) (by intro k hk;simp [Value.ownBlock] at hk;omega)⟩
theorem Zdk.many (b off n c:Nat) (news:List Value) (w:World) (hl:news.length=n*1) (hn:n<=maxLen) (hbig:n*4<=140737488355328) (hc:∀ j u,news[j]? = some u->w.cell? ⟨b,off+j,none⟩=some u) (h1:∀ u ∈ news,u.oneCell'=true) :
  Calls Tryz.prog 155 #[.slice (some ⟨b,off,none⟩) n c] w fun e w' => ∃ v',e=.returned v'/\w'.ownsRow w.heap.size 85 1 v' n news/\Below w.heap.size w w':=by
 obtain ⟨i0,hi,hz0,hz1,hz2⟩:=info_parts info85
 have q22:∀ (w:World) (a:Option Addr) (n c n' c':Nat),(binOp .eql 134 (.slice a n c) (.slice none n' c')).run Tryz.prog w=.ok (.bool a.isNone) w:=fun w a n c n' c'=>Lib.run_eql_slice_nil w _ _ a n c n' c' Tryz.underlying134
 have AA:=Aside0.mk hc
 clear hc
 go_enter Tryz.func155,Tryz.ntmps155
 go_wp2_with (at_builtin;refine wpList_append_own _ rfl _ _ 134 rfl w.heap.size 85 i0 (.int .u32 0) 1 4 Tryz.underlying134 hi hz0 hz1 hz2 rfl (by decide) _ _ _ rfl (World.ownsRow_made w #[] 0 (Nat.le_refl _) (Nat.zero_le _) rfl) ⟨b,off,none⟩ n c news rfl ?qc1 ?qc2 ?qc3 ?qc4 ?qc5 ?qc6 ?_)
 case qc1=>exact hl
 case qc2 =>
  intro j u hj
  rw [Zgz]
  exact Lib.cell?_alloc_some _ (AA.out j u hj)
 case qc3=>exact h1
 case qc4=>rw [Nat.zero_add];exact hn
 case qc5=>rw [Nat.zero_add];exact hbig
 case qc6=>simp
 intro v' w1 hown hgrow hnil
 go_wp2
 go_ret
 exact ⟨v',rfl,by simpa using hown,((Below.refl _ w).alloc (Nat.le_refl _) _).grown hgrow (by simp) (by intro k hk;simp [Value.ownBlock] at hk;omega)⟩
theorem Zdk.nul (n c:Nat) (w:World):Calls Tryz.prog 155 #[.slice none n c] w fun e w'=>e=.returned (.slice none 0 0)/\w'=w:=by
 have q22:∀ (w:World) (a:Option Addr) (n c n' c':Nat),(binOp .eql 134 (.slice a n c) (.slice none n' c')).run Tryz.prog w=.ok (.bool a.isNone) w:=fun w a n c n' c'=>Lib.run_eql_slice_nil w _ _ a n c n' c' Tryz.underlying134
 go_enter Tryz.func155,Tryz.ntmps155
 go_wp2
 go_ret
 exact ⟨rfl,rfl⟩
theorem Zdk.calls (A0:Option Addr) (c0:Nat) (l0:List Int) (r:List Int) (w:World) (hr0:Kd.C (Kd.int .u32) w A0 l0.length l0) (hc0:l0.length<=c0) (h:Zdk.f l0=some r) :
  Calls Tryz.prog 155 #[.slice A0 l0.length c0] w fun e w' => ∃ v0_:Value,e=.returned v0_/\Kd.R (Kd.int .u32) 85 w' w.heap.size (fun _=>True) v0_ r/\Below w.heap.size w w':=by
 unfold Zdk.f at h
 split at h
 case isFalse=>cases h
 case isTrue hb =>
 obtain rfl:=Option.some.inj h
 have hR:ReadsOf (Value.int .u32) 0 w A0 l0.length l0:=Kd.Zfo hr0
 rcases Nat.eq_zero_or_pos l0.length with h0|h0
 ·obtain rfl:l0=[]:=List.eq_nil_of_length_eq_zero h0
  cases A0 with
  | none =>
   refine (Zdk.nul _ _ w).mono ?_
   rintro e w' ⟨rfl,rfl⟩
   exact ⟨_,rfl,Kd.Zh1 _ _ _ _ _,Below.refl _ _⟩
  | some a =>
   refine (Zdk.zer a c0 w).mono ?_
   rintro e w' ⟨v,rfl,ho,hb⟩
   exact ⟨v,rfl,Kd.Zed (enc:=Value.int .u32) (xs:=[]) ho (fun _ _=>trivial),hb⟩
 ·obtain ⟨ad,rfl,hc⟩:=hR.2.2 h0
  obtain ⟨b,o,rfl⟩:=Zi0 (show w.cell? ad=_ from hc 0 h0)
  refine (Zdk.many b o l0.length c0 (encs (Value.int .u32) l0) w (by simp [encs]) (by simp [maxLen];omega) hb (fun j u hj=>?_) (fun u hu=>?_)).mono ?_
  ·have hjl:j < l0.length:=by have := (List.getElem?_eq_some_iff.1 hj).1;simpa [encs] using this
   have := hc j hjl
   rw [Zgz] at this
   rw [this,<- hj]
   simp [encs,List.getD,List.getElem?_eq_getElem hjl]
  ·obtain ⟨x,_,rfl⟩:=List.mem_map.1 (show u ∈ l0.map (Value.int .u32) from hu)
   rfl
  ·rintro e w' ⟨v,rfl,ho,hb⟩
   exact ⟨v,rfl,Kd.Zed (enc:=Value.int .u32) ho (fun _ _=>trivial),hb⟩
end YtjbjkmccfocikaaGreatDoor.B
end
section
namespace YtjbjkmccfocikaaGreatDoor.B
open Go.RowKit YtjbjkmccfocikaaGreatDoorW.PrintWords YtjbjkmccfocikaaGreatDoorW.PrintLast YtjbjkmccfocikaaGreatDoorW.PrintMore
attribute [local go_sem] Zb3 Zb5 Zcp Zcq Zbs Zbt Zb4 Zb6
def Zbo.l0:Nat->List Int->List Int->Int->List Int->Int->Int->Option (List Int)
 | 0,_,_,_,_,_,_=>none
 | k+1,x1,x5,x6,x15,x16,x17=>if x17 < x16 then (if 0<=x17 then (if x17 < (x15.length:Int) then (if x17 < (x1.length:Int) then ((Zdo.f (rd x15 x17) (rd x1 x17) x6).bind fun qk=>(if x5.length < 35184372088832 then (Zbo.l0 k x1 (x5 ++ [qk.1]) qk.2 x15 x16 (wrap64 (x17+1))) else (none))) else ((Zdo.f (rd x15 x17) 0 x6).bind fun ql=>(if x5.length < 35184372088832 then (Zbo.l0 k x1 (x5 ++ [ql.1]) ql.2 x15 x16 (wrap64 (x17+1))) else (none)))) else (none)) else (none)) else ((Zad.f k x5).bind fun qr=>(some qr))
def Zbo.f (k:Nat) (l0:List Int) (l1:List Int):Option (List Int):=if 0<=(l0.length:Int) then (if ((l0.length:Int):Int).toNat<=70368744177664 then (Zbo.l0 k l1 (List.replicate 0 0) 0 l0 (l0.length:Int) 0) else (none)) else (none)
theorem Zbo.calls (k:Nat) (A0:Option Addr) (c0:Nat) (l0:List Int) (A1:Option Addr) (c1:Nat) (l1:List Int) (r:List Int) (w:World) (hr0:Kd.C (Kd.int .u32) w A0 l0.length l0) (hc0:l0.length<=c0) (hr1:Kd.C (Kd.int .u32) w A1 l1.length l1) (hc1:l1.length<=c1) (h:Zbo.f k l0 l1=some r) :
  Calls Tryz.prog 168 #[.slice A0 l0.length c0,.slice A1 l1.length c1] w fun e w' => ∃ v0_:Value,e=.returned (v0_)/\Kd.R (Kd.int .u32) 85 w' w.heap.size (fun _=>True) v0_ r/\Below w.heap.size w w':=by
 have HR0:=am hr0
 have HC0:=am hc0
 clear hr0 hc0
 have HR1:=am hr1
 have HC1:=am hc1
 clear hr1 hc1
 have HB:=am (Below.refl w.heap.size w)
 have H:(if 0<=(l0.length:Int) then (if ((l0.length:Int):Int).toNat<=70368744177664 then (Zbo.l0 k l1 (List.replicate 0 0) 0 l0 (l0.length:Int) 0) else (none)) else (none))=some r:=h
 clear h
 replace H:=iI H
 rcases H with ⟨c3b0,c3b1,H⟩|⟨_,_,H⟩
 ·replace H:=iI H
  rcases H with ⟨c4b0,c4b1,H⟩|⟨_,_,H⟩
  ·obtain ⟨qs,qe⟩:∃ y_:List Int,y_=(List.replicate 0 0):=⟨_,rfl⟩
   replace H:(Zbo.l0 k l1 qs 0 l0 (l0.length:Int) 0)=some r:=by have hy_:=qe;exact pH
   have qj:=am qe
   clear qe
   have H':=am H
   clear H
   go_enter Tryz.func168,Tryz.ntmps168
   go_wp2_with (first|((with_reducible refine gd 14 ?_);refine Zhe (Kd.int .u32) _ 85 rfl (N:=14) rfl 134 _ _ rfl (l0.length:Int) rfl rfl Tryz.underlying134 (.int .u32 0) 4 info85 (by omega) 0 (ok:=fun _=>True) (okp:=fun _=>True) (fun _ hk=>hk) trivial (of_decide_eq_true pQ) (Nat.le_trans (Nat.mul_le_mul_right _ (of_decide_eq_true pQ:((l0.length:Int):Int).toNat<=70368744177664)) (by omega)) (Below.refl _ _) (Nat.le_refl _) ?_;intro q7 w5 ho6 hb hg_ hnew_;clear hg_ hnew_;(first|rw [<- qj.out] at ho6|(simp only [Int.reduceToNat] at ho6;rw [<- qj.out] at ho6));have qw:=am (Kd.Zt ho6 (Zb pB));replace HB:=bS hb;clear hb ho6))
   go_loopg [5,6,17] k (fun kq v5 v6 v17 w' => ∃ (x5_1:List Int) (x6_1:Int) (x17_1:Int),v6=.int .u32 x6_1/\v17=.int .i64 x17_1/\Aside0 (Zbo.l0 kq l1 x5_1 x6_1 l0 (l0.length:Int) x17_1=some r)/\Aside0 (kq<=k)/\Aside0 (Kd.R (Kd.int .u32) 85 w' w.heap.size (fun _=>True) v5 x5_1)/\Aside0 (Below w.heap.size w w'))
   case atStart=>exact ⟨(qs),(0),(0),pR,pR,H',⟨Nat.le_refl _⟩,⟨by refine rp ?_;exact qw.o⟩,⟨pB⟩⟩
   case round =>
    clear H'
    obtain ⟨x5_1,x6_1,x17_1,rfl,rfl,HA,HK1,HO_5,HB⟩:=hrel
    cases gk with
    | zero=>exact absurd HA.out (by simp [Zbo.l0])
    | succ k1 =>
     have H:=HA.out
     clear HA
     simp only [Zbo.l0] at H
     replace H:=dI H
     rcases H with ⟨c7b0,H⟩|⟨c7b0,H⟩
     ·replace H:=dI H
      rcases H with ⟨c8b0,H⟩|⟨_,H⟩
      ·replace H:=dI H
       rcases H with ⟨c9b0,H⟩|⟨_,H⟩
       ·replace H:=dI H
        rcases H with ⟨c10b0,H⟩|⟨c10b0,H⟩
        ·replace H:=ob H
         obtain ⟨⟨qh,qp⟩,A11,H⟩:=H;(try dsimp only at H)
         by_cases c12:x5_1.length < 35184372088832
         ·rw [if_pos c12] at H
          have LMc12:=am c12
          clear c12
          obtain ⟨qt,qf⟩:∃ y_:List Int,y_=(x5_1 ++ [qh]):=⟨_,rfl⟩
          replace H:(Zbo.l0 k1 l1 qt qp l0 (l0.length:Int) (wrap64 (x17_1+1)))=some r:=by have hy_:=qf;exact pH
          have q0:=am qf
          clear qf
          have H':=am H
          clear H
          have qc:0<=(x17_1:Int):=of_decide_eq_true pQ
          have qd:x17_1 < (l0.length:Int):=of_decide_eq_true pQ
          obtain ⟨q2,qm,qa⟩:=Kd.Zbi HR0.o x17_1 qc qd
          cases qm
          replace qa:=(HB.o.cell (World.block_lt_of_cell? w _ qa)).trans qa
          replace qc:=eq_true qc
          replace qd:=eq_true qd
          have qn:0<=(x17_1:Int):=of_decide_eq_true pQ
          have qo:x17_1 < (l1.length:Int):=of_decide_eq_true pQ
          obtain ⟨q5,q4,qb⟩:=Kd.Zbi HR1.o x17_1 qn qo
          cases q4
          replace qb:=(HB.o.cell (World.block_lt_of_cell? w _ qb)).trans qb
          replace qn:=eq_true qn
          replace qo:=eq_true qo
          go_wp2_with (first|(refine gL (some 34) Tryz.func185 #[.int .u32 (rd l0 x17_1),.int .u32 (rd l1 x17_1),.int .u32 x6_1] (h:=?_);(with_reducible refine (Zdo.calls (rd l0 x17_1) (rd l1 x17_1) x6_1 qh qp _ A11.o).mono ?_);rintro e w' ⟨rfl,⟨nd,rfl⟩⟩;refine ⟨_,rfl,?_⟩)|((with_reducible refine Za1 (b:=.append) (xs:=#[.tmp 37,.tmp 39]) rfl ?_);at_builtin;refine Kd.Zcb (Kd.int .u32) (w0:=w) w.heap.size rfl (.tmp 37) (.tmp 39) 134 85 (.int .u32 0) 4 rfl Tryz.underlying134 info85 rfl (by decide) (by omega) u5 x5_1 qh [.int .u32 qh] (fun _=>True) (fun _=>False) rfl rfl ?aP (fun _ hk=>hk.elim) ?aF ?aO ?aB ?aS ?aL ?_;(case aP=>exact rfl);(case aB=>exact pB);(case aF=>exact (fun _ _=>trivial));(case aO=>exact (Kd.Zc HO_5.o pl));(case aS=>exact (Zb pB));(case aL=>have := LMc12.o;omega);intro q8 w13 ho hb hg hat;rw [<- q0.out] at ho;have qx:=am ho;replace HB:=am hb;clear HO_5 ho hb hg hat))
          go_roundg k1
          case measure=>exact pM
          case rel=>exact ⟨(qt),(qp),(wrap64 (x17_1+1)),pR,pR,H',pJ,⟨by refine rp ?_;exact qx.o⟩,⟨pB⟩⟩
         ·rw [if_neg c12] at H
          cases H
        ·replace H:=ob H
         obtain ⟨⟨qi,qq⟩,A14,H⟩:=H;(try dsimp only at H)
         by_cases c15:x5_1.length < 35184372088832
         ·rw [if_pos c15] at H
          have LMc15:=am c15
          clear c15
          obtain ⟨qu,qg⟩:∃ y_:List Int,y_=(x5_1 ++ [qi]):=⟨_,rfl⟩
          replace H:(Zbo.l0 k1 l1 qu qq l0 (l0.length:Int) (wrap64 (x17_1+1)))=some r:=by have hy_:=qg;exact pH
          have q1:=am qg
          clear qg
          have H':=am H
          clear H
          have qc:0<=(x17_1:Int):=of_decide_eq_true pQ
          have qd:x17_1 < (l0.length:Int):=of_decide_eq_true pQ
          obtain ⟨q2,qm,qa⟩:=Kd.Zbi HR0.o x17_1 qc qd
          cases qm
          replace qa:=(HB.o.cell (World.block_lt_of_cell? w _ qa)).trans qa
          replace qc:=eq_true qc
          replace qd:=eq_true qd
          go_wp2_with (first|(refine gL (some 34) Tryz.func185 #[.int .u32 (rd l0 x17_1),.int .u32 0,.int .u32 x6_1] (h:=?_);(with_reducible refine (Zdo.calls (rd l0 x17_1) 0 x6_1 qi qq _ A14.o).mono ?_);rintro e w' ⟨rfl,⟨nd,rfl⟩⟩;refine ⟨_,rfl,?_⟩)|((with_reducible refine Za1 (b:=.append) (xs:=#[.tmp 37,.tmp 39]) rfl ?_);at_builtin;refine Kd.Zcb (Kd.int .u32) (w0:=w) w.heap.size rfl (.tmp 37) (.tmp 39) 134 85 (.int .u32 0) 4 rfl Tryz.underlying134 info85 rfl (by decide) (by omega) u5 x5_1 qi [.int .u32 qi] (fun _=>True) (fun _=>False) rfl rfl ?aP (fun _ hk=>hk.elim) ?aF ?aO ?aB ?aS ?aL ?_;(case aP=>exact rfl);(case aB=>exact pB);(case aF=>exact (fun _ _=>trivial));(case aO=>exact (Kd.Zc HO_5.o pl));(case aS=>exact (Zb pB));(case aL=>have := LMc15.o;omega);intro q9 w16 ho hb hg hat;rw [<- q1.out] at ho;have qy:=am ho;replace HB:=am hb;clear HO_5 ho hb hg hat))
          go_roundg k1
          case measure=>exact pM
          case rel=>exact ⟨(qu),(qq),(wrap64 (x17_1+1)),pR,pR,H',pJ,⟨by refine rp ?_;exact qy.o⟩,⟨pB⟩⟩
         ·rw [if_neg c15] at H
          cases H
       ·cases H
      ·cases H
     ·replace H:=ob H
      obtain ⟨qr,A17,H⟩:=H
      obtain rfl:=Option.some.inj H
      obtain ⟨qv,q3,q6⟩:=Kd.Zm HO_5.o
      subst q6
      go_wp2_with (first|(refine gL (some 44) Tryz.func132 #[.slice qv x5_1.length q3] (h:=?_);(with_reducible refine (Zad.calls k1 (fun k_=>some k_=(.slice qv x5_1.length q3:Value).ownBlock) (.slice qv x5_1.length q3) x5_1 qr w _ ?side1 ?side2 A17.o).mono ?_);(case side1=>exact pB);(case side2=>exact Kd.Zbc rfl HO_5.o);rintro e w19 ⟨ja,rfl,ho0,hb,hkp⟩;refine ⟨_,rfl,?_⟩;have qz:=am (Kd.Zi (ok':=fun k_=>True) ho0 (fun k_ hk_=>trivial));replace HB:=am hb;clear HO_5))
      go_ret
      exact ⟨_,pE,by refine rp ?_;exact qz.o,pB⟩
  ·cases H
 ·cases H
mutual
def Zak.l0:Nat->List Int->List Int->List Int->Int->Int->Option (List Int)
 | 0,_,_,_,_,_=>none
 | k+1,x1,x5,x18,x19,x20=>if x20 < x19 then (if 0<=x20 then (if x20 < (x18.length:Int) then (Zak.l1 k x1 x5 x20 (rd x18 x20) 0 x18 x19 x20 x1 (x1.length:Int) 0) else (none)) else (none)) else ((Zad.f k x5).bind fun qp=>(some qp))
def Zak.l1:Nat->List Int->List Int->Int->Int->Int->List Int->Int->Int->List Int->Int->Int->Option (List Int)
 | 0,_,_,_,_,_,_,_,_,_,_,_=>none
 | k+1,x1,x5,x6,x7,x8,x18,x19,x20,x25,x26,x27=>if x27 < x26 then (if 0<=x27 then (if x27 < (x25.length:Int) then (if 0<=(wrap64 (x6+x27)) then (if (wrap64 (x6+x27)) < (x5.length:Int) then (Zak.l1 k x1 (x5.set ((wrap64 (x6+x27)):Int).toNat ((IntKind.u64.wrap ((IntKind.u64.wrap ((IntKind.u64.wrap ((IntKind.u64.wrap (x7))*(IntKind.u64.wrap (rd x25 x27))))+(IntKind.u64.wrap (rd x5 (wrap64 (x6+x27))))))+x8)) % 4294967296)) x6 x7 ((IntKind.u64.wrap ((IntKind.u64.wrap ((IntKind.u64.wrap ((IntKind.u64.wrap (x7))*(IntKind.u64.wrap (rd x25 x27))))+(IntKind.u64.wrap (rd x5 (wrap64 (x6+x27))))))+x8)) / 4294967296) x18 x19 x20 x25 x26 (wrap64 (x27+1))) else (none)) else (none)) else (none)) else (none)) else (if 0<=(wrap64 (x6+(x1.length:Int))) then (if (wrap64 (x6+(x1.length:Int))) < (x5.length:Int) then (Zak.l0 k x1 (x5.set ((wrap64 (x6+(x1.length:Int))):Int).toNat ((x8) % 4294967296)) x18 x19 (wrap64 (x20+1))) else (none)) else (none))
end
def Zak.f (k:Nat) (l0:List Int) (l1:List Int):Option (List Int):=if 0<=(wrap64 ((l0.length:Int)+(l1.length:Int))) then (if (wrap64 ((l0.length:Int)+(l1.length:Int)):Int).toNat<=70368744177664 then (Zak.l0 k l1 (List.replicate (wrap64 ((l0.length:Int)+(l1.length:Int)):Int).toNat 0) l0 (l0.length:Int) 0) else (none)) else (none)
theorem Zak.calls (k:Nat) (A0:Option Addr) (c0:Nat) (l0:List Int) (A1:Option Addr) (c1:Nat) (l1:List Int) (r:List Int) (w:World) (hr0:Kd.C (Kd.int .u32) w A0 l0.length l0) (hc0:l0.length<=c0) (hr1:Kd.C (Kd.int .u32) w A1 l1.length l1) (hc1:l1.length<=c1) (h:Zak.f k l0 l1=some r) :
  Calls Tryz.prog 129 #[.slice A0 l0.length c0,.slice A1 l1.length c1] w fun e w' => ∃ v0_:Value,e=.returned (v0_)/\Kd.R (Kd.int .u32) 85 w' w.heap.size (fun _=>True) v0_ r/\Below w.heap.size w w':=by
 have HR0:=am hr0
 have HC0:=am hc0
 clear hr0 hc0
 have HR1:=am hr1
 have HC1:=am hc1
 clear hr1 hc1
 have HB:=am (Below.refl w.heap.size w)
 have H:(if 0<=(wrap64 ((l0.length:Int)+(l1.length:Int))) then (if (wrap64 ((l0.length:Int)+(l1.length:Int)):Int).toNat<=70368744177664 then (Zak.l0 k l1 (List.replicate (wrap64 ((l0.length:Int)+(l1.length:Int)):Int).toNat 0) l0 (l0.length:Int) 0) else (none)) else (none))=some r:=h
 clear h
 obtain ⟨ji3,hji3⟩:∃ j_:Int,(wrap64 ((l0.length:Int)+(l1.length:Int)))=j_:=⟨_,rfl⟩
 replace H:(if 0<=(ji3) then (if (ji3:Int).toNat<=70368744177664 then (Zak.l0 k l1 (List.replicate (ji3:Int).toNat 0) l0 (l0.length:Int) 0) else (none)) else (none))=some r:=by first|(rw [hji3] at H;exact H)|(simp only [hji3] at H ⊢;exact H)
 have hji3w:(IntKind.i64.wrap ((l0.length:Int)+(l1.length:Int)))=ji3:=(Zc5 _).trans hji3
 replace H:=iI H
 rcases H with ⟨c4b0,c4b1,H⟩|⟨_,_,H⟩
 ·replace H:=iI H
  rcases H with ⟨c5b0,c5b1,H⟩|⟨_,_,H⟩
  ·obtain ⟨q1,qc⟩:∃ y_:List Int,y_=(List.replicate (ji3:Int).toNat 0):=⟨_,rfl⟩
   replace H:(Zak.l0 k l1 q1 l0 (l0.length:Int) 0)=some r:=by have hy_:=qc;exact pH
   have qg:=am qc
   clear qc
   have H':=am H
   clear H
   go_enter Tryz.func129,Tryz.ntmps129
   go_wp2_with (first|((with_reducible refine gd 17 ?_);refine Kd.Znc (Kd.int .u32) _ 85 rfl (N:=17) rfl 134 _ _ rfl ji3 rfl rfl Tryz.underlying134 (.int .u32 0) 4 info85 rfl (by decide) (by omega) 0 (ok:=fun _=>True) (okp:=fun _=>True) rfl (fun _ hk=>hk) trivial (of_decide_eq_true pQ) (Nat.le_trans (Nat.mul_le_mul_right _ (of_decide_eq_true pQ:ji3.toNat<=70368744177664)) (by omega)) (Below.refl _ _) (Nat.le_refl _) ?_;intro q0 w6 ho7 hb hg_ hnew_;clear hg_ hnew_;(first|rw [<- qg.out] at ho7|(simp only [Int.reduceToNat] at ho7;rw [<- qg.out] at ho7));have qs:=am (Kd.Zt ho7 (Zb pB));replace HB:=bS hb;clear hb ho7))
   go_loopg [20] k (fun kq v20 w' => ∃ (x5_1:List Int) (x20_1:Int),v20=.int .i64 x20_1/\Aside0 (Zak.l0 kq l1 x5_1 l0 (l0.length:Int) x20_1=some r)/\Aside0 (kq<=k)/\Aside0 (Kd.R (Kd.int .u32) 85 w' w.heap.size (fun _=>True) q0 x5_1)/\Aside0 (Below w.heap.size w w'))
   case atStart=>exact ⟨(q1),(0),pR,H',⟨Nat.le_refl _⟩,⟨by refine rp ?_;exact qs.o⟩,⟨pB⟩⟩
   case round =>
    clear H'
    obtain ⟨x5_1,x20_1,rfl,HA,HK1,HO_5,HB⟩:=hrel
    cases gk with
    | zero=>exact absurd HA.out (by simp [Zak.l0])
    | succ k1 =>
     have H:=HA.out
     clear HA
     simp only [Zak.l0] at H
     replace H:=dI H
     rcases H with ⟨c8b0,H⟩|⟨c8b0,H⟩
     ·replace H:=dI H
      rcases H with ⟨c9b0,H⟩|⟨_,H⟩
      ·replace H:=dI H
       rcases H with ⟨c10b0,H⟩|⟨_,H⟩
       ·have H':=am H
        clear H
        have qj:0<=(x20_1:Int):=of_decide_eq_true pQ
        have qm:x20_1 < (l0.length:Int):=of_decide_eq_true pQ
        obtain ⟨q9,q4,qa⟩:=Kd.Zbi HR0.o x20_1 qj qm
        cases q4
        replace qa:=(HB.o.cell (World.block_lt_of_cell? w _ qa)).trans qa
        replace qj:=eq_true qj
        replace qm:=eq_true qm
        go_wp2
        go_loopg [8,27] k1 (fun kq v8 v27 w' => ∃ (x5_2:List Int) (x8_2:Int) (x27_2:Int),v8=.int .u64 x8_2/\v27=.int .i64 x27_2/\Aside0 (Zak.l1 kq l1 x5_2 x20_1 (rd l0 x20_1) x8_2 l0 (l0.length:Int) x20_1 l1 (l1.length:Int) x27_2=some r)/\Aside0 (kq<=k1)/\Aside0 (Kd.R (Kd.int .u32) 85 w' w.heap.size (fun _=>True) q0 x5_2)/\Aside0 (Below w.heap.size w w'))
        case atStart=>exact ⟨(x5_1),(0),(0),pR,pR,H',⟨Nat.le_refl _⟩,⟨by refine rp ?_;exact HO_5.o⟩,⟨pB⟩⟩
        case round =>
         clear H'
         obtain ⟨x5_2,x8_2,x27_2,rfl,rfl,HA,HK2,HO_5,HB⟩:=hrel
         cases gk with
         | zero=>exact absurd HA.out (by simp [Zak.l1])
         | succ k2 =>
          have H:=HA.out
          clear HA
          simp only [Zak.l1] at H
          replace H:=dI H
          rcases H with ⟨c11b0,H⟩|⟨c11b0,H⟩
          ·replace H:=dI H
           rcases H with ⟨c12b0,H⟩|⟨_,H⟩
           ·replace H:=dI H
            rcases H with ⟨c13b0,H⟩|⟨_,H⟩
            ·obtain ⟨ji14,hji14⟩:∃ j_:Int,(wrap64 (x20_1+x27_2))=j_:=⟨_,rfl⟩
             replace H:(if 0<=(ji14) then (if (ji14) < (x5_2.length:Int) then (Zak.l1 k2 l1 (x5_2.set ((ji14):Int).toNat ((IntKind.u64.wrap ((IntKind.u64.wrap ((IntKind.u64.wrap ((IntKind.u64.wrap ((rd l0 x20_1)))*(IntKind.u64.wrap (rd l1 x27_2))))+(IntKind.u64.wrap (rd x5_2 (ji14)))))+x8_2)) % 4294967296)) x20_1 (rd l0 x20_1) ((IntKind.u64.wrap ((IntKind.u64.wrap ((IntKind.u64.wrap ((IntKind.u64.wrap ((rd l0 x20_1)))*(IntKind.u64.wrap (rd l1 x27_2))))+(IntKind.u64.wrap (rd x5_2 (ji14)))))+x8_2)) / 4294967296) l0 (l0.length:Int) x20_1 l1 (l1.length:Int) (wrap64 (x27_2+1))) else (none)) else (none))=some r:=by first|(rw [hji14] at H;exact H)|(simp only [hji14] at H ⊢;exact H)
             have hji14w:(IntKind.i64.wrap (x20_1+x27_2))=ji14:=(Zc5 _).trans hji14
             replace H:=dI H
             rcases H with ⟨c15b0,H⟩|⟨_,H⟩
             ·replace H:=dI H
              rcases H with ⟨c16b0,H⟩|⟨_,H⟩
              ·obtain ⟨qq,qd⟩:∃ y_:List Int,y_=(x5_2.set ((ji14):Int).toNat ((IntKind.u64.wrap ((IntKind.u64.wrap ((IntKind.u64.wrap ((IntKind.u64.wrap ((rd l0 x20_1)))*(IntKind.u64.wrap (rd l1 x27_2))))+(IntKind.u64.wrap (rd x5_2 (ji14)))))+x8_2)) % 4294967296)):=⟨_,rfl⟩
               replace H:(Zak.l1 k2 l1 qq x20_1 (rd l0 x20_1) ((IntKind.u64.wrap ((IntKind.u64.wrap ((IntKind.u64.wrap ((IntKind.u64.wrap ((rd l0 x20_1)))*(IntKind.u64.wrap (rd l1 x27_2))))+(IntKind.u64.wrap (rd x5_2 (ji14)))))+x8_2)) / 4294967296) l0 (l0.length:Int) x20_1 l1 (l1.length:Int) (wrap64 (x27_2+1)))=some r:=by have hy_:=qd;exact pH
               have qu:=am qd
               clear qd
               have H':=am H
               clear H
               have qk:0<=(x27_2:Int):=of_decide_eq_true pQ
               have qn:x27_2 < (l1.length:Int):=of_decide_eq_true pQ
               obtain ⟨ja,q5,qb⟩:=Kd.Zbi HR1.o x27_2 qk qn
               cases q5
               replace qb:=(HB.o.cell (World.block_lt_of_cell? w _ qb)).trans qb
               replace qk:=eq_true qk
               replace qn:=eq_true qn
               obtain ⟨jc,q2,q7⟩:=Kd.Zm HO_5.o
               subst q7
               have ql:0<=((ji14):Int):=of_decide_eq_true pQ
               have qo:(ji14) < (x5_2.length:Int):=of_decide_eq_true pQ
               obtain ⟨jb,q6,qf⟩:=Kd.Zbi (Kd.Zf HO_5.o).2.2 (ji14) ql qo
               cases q6
               replace ql:=eq_true ql
               replace qo:=eq_true qo
               have p17:0<=((ji14):Int):=of_decide_eq_true pQ
               have q17:((ji14):Int) < ((x5_2.length:Int):Int):=of_decide_eq_true pQ
               obtain ⟨go17,jd,qw,qy,gl17,cl17,HG17⟩:=Kd.Zjj HO_5.o (by omega)
               (first|cases qw|(injection qw with ea_ en_ ec_;(first|subst ea_|(injection ea_ with ea_;subst ea_));subst ec_;clear en_))
               have GB17:=am qy
               have GG17:=am HG17
               clear qy gl17 HG17
               (first|simp only [add_plain] at qf|skip)
               obtain ⟨hx17_0,hf17_0⟩:=Kd.Zgh 0 HO_5.o ((ji14):Int) p17 q17
               replace p17:=eq_true p17
               replace q17:=eq_true q17
               have HP19:=Kd.Znd HO_5.o ((ji14):Int) ((IntKind.u64.wrap ((IntKind.u64.wrap ((IntKind.u64.wrap ((IntKind.u64.wrap ((rd l0 x20_1)))*(IntKind.u64.wrap (rd l1 x27_2))))+(IntKind.u64.wrap (rd x5_2 (ji14)))))+x8_2)) % 4294967296)
               go_wp2_with (first|((with_reducible refine Zcv (t:=85) (p:=55) rfl ?_);refine Zcj (t:=85) (p:=55) (v:=?vo_w20) (w1:=(wr.setCell ⟨go17,((ji14):Int).toNat,none⟩ (.int .u32 ((IntKind.u64.wrap ((IntKind.u64.wrap ((IntKind.u64.wrap ((IntKind.u64.wrap ((rd l0 x20_1)))*(IntKind.u64.wrap (rd l1 x27_2))))+(IntKind.u64.wrap (rd x5_2 (ji14)))))+x8_2)) % 4294967296)))) ?hg ?ho ?hn ?hr ?_;(case ho=>rfl);(case hg=>rfl);(case hn=>rfl);(case hr=>first|(go_simp;done)|(go_simp;rfl));intro w20 hw;have hg:wr.grownBy w20 (some go17):=(by rw [hw];exact HP19.2);have hp_:Kd.R (Kd.int .u32) 85 w20 w.heap.size (fun _=>True) (.slice (some ⟨go17,0,none⟩) x5_2.length q2) qq:=(by rw [hw,qu.out];exact HP19.1);clear HP19;replace HO_5:=am (hp_);replace HB:=am ((by rw [hw];exact Zd1 (HB.o) GB17.out:Below w.heap.size w w20));clear hg hw hp_))
               go_roundg k2
               case measure=>exact pM
               case rel=>exact ⟨(qq),((IntKind.u64.wrap ((IntKind.u64.wrap ((IntKind.u64.wrap ((IntKind.u64.wrap ((rd l0 x20_1)))*(IntKind.u64.wrap (rd l1 x27_2))))+(IntKind.u64.wrap (rd x5_2 (ji14)))))+x8_2)) / 4294967296),(wrap64 (x27_2+1)),(by first|rfl|(simp;done)|(simp only [<- hji14] <;> (first|rfl|simp))|(simp [*];done)),pR,(by first|exact H'|(have H_:=H'.out;simp only [<- hji3] at H_;exact ⟨H_⟩)|(refine ⟨?_⟩;have H_:=H'.out;simp only [<- hji3] at H_ ⊢;exact H_)|(have H_:=H'.out;simp only [<- hji14] at H_;exact ⟨H_⟩)|(refine ⟨?_⟩;have H_:=H'.out;simp only [<- hji14] at H_ ⊢;exact H_)),pJ,⟨by refine rp ?_;exact HO_5.o⟩,⟨pB⟩⟩
              ·cases H
             ·cases H
            ·cases H
           ·cases H
          ·obtain ⟨ji21,hji21⟩:∃ j_:Int,(wrap64 (x20_1+(l1.length:Int)))=j_:=⟨_,rfl⟩
           replace H:(if 0<=(ji21) then (if (ji21) < (x5_2.length:Int) then (Zak.l0 k2 l1 (x5_2.set ((ji21):Int).toNat ((x8_2) % 4294967296)) l0 (l0.length:Int) (wrap64 (x20_1+1))) else (none)) else (none))=some r:=by first|(rw [hji21] at H;exact H)|(simp only [hji21] at H ⊢;exact H)
           have hji21w:(IntKind.i64.wrap (x20_1+(l1.length:Int)))=ji21:=(Zc5 _).trans hji21
           replace H:=dI H
           rcases H with ⟨c22b0,H⟩|⟨_,H⟩
           ·replace H:=dI H
            rcases H with ⟨c23b0,H⟩|⟨_,H⟩
            ·obtain ⟨qr,qe⟩:∃ y_:List Int,y_=(x5_2.set ((ji21):Int).toNat ((x8_2) % 4294967296)):=⟨_,rfl⟩
             replace H:(Zak.l0 k2 l1 qr l0 (l0.length:Int) (wrap64 (x20_1+1)))=some r:=by have hy_:=qe;exact pH
             have qv:=am qe
             clear qe
             have H':=am H
             clear H
             have p24:0<=((ji21):Int):=of_decide_eq_true pQ
             have q24:((ji21):Int) < ((x5_2.length:Int):Int):=of_decide_eq_true pQ
             obtain ⟨go24,q3,qx,qz,gl24,cl24,HG24⟩:=Kd.Zjj HO_5.o (by omega)
             (first|cases qx|(injection qx with ea_ en_ ec_;(first|subst ea_|(injection ea_ with ea_;subst ea_));subst ec_;clear en_))
             have GB24:=am qz
             have GG24:=am HG24
             clear qz gl24 HG24
             obtain ⟨hx24_0,hf24_0⟩:=Kd.Zgh 0 HO_5.o ((ji21):Int) p24 q24
             replace p24:=eq_true p24
             replace q24:=eq_true q24
             have HP25:=Kd.Znd HO_5.o ((ji21):Int) ((x8_2) % 4294967296)
             go_wp2_with (first|((with_reducible refine Zcv (t:=85) (p:=64) rfl ?_);refine Zcj (t:=85) (p:=64) (v:=?vo_w26) (w1:=(wr.setCell ⟨go24,((ji21):Int).toNat,none⟩ (.int .u32 ((x8_2) % 4294967296)))) ?hg ?ho ?hn ?hr ?_;(case ho=>rfl);(case hg=>rfl);(case hn=>rfl);(case hr=>first|(go_simp;done)|(go_simp;rfl));intro w26 hw;have hg:wr.grownBy w26 (some go24):=(by rw [hw];exact HP25.2);have hp_:Kd.R (Kd.int .u32) 85 w26 w.heap.size (fun _=>True) (.slice (some ⟨go24,0,none⟩) x5_2.length q3) qr:=(by rw [hw,qv.out];exact HP25.1);clear HP25;replace HO_5:=am (hp_);replace HB:=am ((by rw [hw];exact Zd1 (HB.o) GB24.out:Below w.heap.size w w26));clear hg hw hp_))
             go_roundg k2
             case measure=>exact pM
             case rel=>exact ⟨(qr),(wrap64 (x20_1+1)),pR,(by first|exact H'|(have H_:=H'.out;simp only [<- hji3] at H_;exact ⟨H_⟩)|(refine ⟨?_⟩;have H_:=H'.out;simp only [<- hji3] at H_ ⊢;exact H_)|(have H_:=H'.out;simp only [<- hji21] at H_;exact ⟨H_⟩)|(refine ⟨?_⟩;have H_:=H'.out;simp only [<- hji21] at H_ ⊢;exact H_)),pJ,⟨by refine rp ?_;exact HO_5.o⟩,⟨pB⟩⟩
            ·cases H
           ·cases H
       ·cases H
      ·cases H
     ·replace H:=ob H
      obtain ⟨qp,A27,H⟩:=H
      obtain rfl:=Option.some.inj H
      obtain ⟨qh,qi,q8⟩:=Kd.Zm HO_5.o
      subst q8
      go_wp2_with (first|(refine gL (some 67) Tryz.func132 #[.slice qh x5_1.length qi] (h:=?_);(with_reducible refine (Zad.calls k1 (fun k_=>some k_=(.slice qh x5_1.length qi:Value).ownBlock) (.slice qh x5_1.length qi) x5_1 qp w _ ?side1 ?side2 A27.o).mono ?_);(case side1=>exact pB);(case side2=>exact Kd.Zbc rfl HO_5.o);rintro e w29 ⟨je,rfl,ho0,hb,hkp⟩;refine ⟨_,rfl,?_⟩;have qt:=am (Kd.Zi (ok':=fun k_=>True) ho0 (fun k_ hk_=>trivial));replace HB:=am hb;clear HO_5))
      go_ret
      exact ⟨_,by first|rfl|(simp [Za6,Za7] <;> rfl)|(simp only [<- hji3];first|rfl|(simp [Za6,Za7] <;> rfl))|(simp [*,Za6,Za7] <;> rfl),by refine rp ?_;exact qt.o,pB⟩
  ·cases H
 ·cases H
def Zc1.f (a0:Int) (a1:Int) (a2:Int):Option (Int × Int):=some ((IntKind.u64.wrap ((IntKind.u64.wrap ((IntKind.u64.wrap (a0))+(IntKind.u64.wrap (a1))))+(IntKind.u64.wrap (a2)))) % 4294967296,((IntKind.u64.wrap ((IntKind.u64.wrap ((IntKind.u64.wrap (a0))+(IntKind.u64.wrap (a1))))+(IntKind.u64.wrap (a2)))) / 4294967296) % 4294967296)
theorem Zc1.calls (a0:Int) (a1:Int) (a2:Int) (r1:Int) (r2:Int) (w:World) (h:Zc1.f a0 a1 a2=some (r1,r2)) :
  Calls Tryz.prog 164 #[.int .u32 a0,.int .u32 a1,.int .u32 a2] w fun e w'=>e=.returned (.tuple #[.int .u32 r1,.int .u32 r2])/\Drawn0 w w':=by
 have H:(some ((IntKind.u64.wrap ((IntKind.u64.wrap ((IntKind.u64.wrap (a0))+(IntKind.u64.wrap (a1))))+(IntKind.u64.wrap (a2)))) % 4294967296,((IntKind.u64.wrap ((IntKind.u64.wrap ((IntKind.u64.wrap (a0))+(IntKind.u64.wrap (a1))))+(IntKind.u64.wrap (a2)))) / 4294967296) % 4294967296))=some (r1,r2):=h
 clear h
 simp only [Option.some.injEq,Prod.mk.injEq] at H
 obtain ⟨rfl,rfl⟩:=H
 go_enter Tryz.func164,Tryz.ntmps164
 go_wp2
 go_ret2
 exact ⟨pR,pD⟩
mutual
def Zal.l0:Nat->List Int->List Int->Int->List Int->Int->Int->Option (List Int)
 | 0,_,_,_,_,_,_=>none
 | k+1,x1,x5,x6,x23,x24,x25=>if x25 < x24 then (if 0<=x25 then (if x25 < (x23.length:Int) then (if x25 < (x1.length:Int) then ((Zc1.f (rd x23 x25) (rd x1 x25) x6).bind fun q2=>(if x5.length < 35184372088832 then (Zal.l0 k x1 (x5 ++ [q2.1]) q2.2 x23 x24 (wrap64 (x25+1))) else (none))) else ((Zc1.f (rd x23 x25) 0 x6).bind fun q3=>(if x5.length < 35184372088832 then (Zal.l0 k x1 (x5 ++ [q3.1]) q3.2 x23 x24 (wrap64 (x25+1))) else (none)))) else (none)) else (none)) else (if x5.length < 35184372088832 then ((Zad.f k (x5 ++ [x6])).bind fun qs=>(some qs)) else (none))
def Zal.l2:Nat->List Int->List Int->Int->List Int->Int->Int->Option (List Int)
 | 0,_,_,_,_,_,_=>none
 | k+1,x1,x5,x6,x23,x24,x25=>if x25 < x24 then (if 0<=x25 then (if x25 < (x23.length:Int) then (if x25 < (x1.length:Int) then ((Zc1.f (rd x23 x25) (rd x1 x25) x6).bind fun q4=>(if x5.length < 35184372088832 then (Zal.l2 k x1 (x5 ++ [q4.1]) q4.2 x23 x24 (wrap64 (x25+1))) else (none))) else ((Zc1.f (rd x23 x25) 0 x6).bind fun q5=>(if x5.length < 35184372088832 then (Zal.l2 k x1 (x5 ++ [q5.1]) q5.2 x23 x24 (wrap64 (x25+1))) else (none)))) else (none)) else (none)) else (if x5.length < 35184372088832 then ((Zad.f k (x5 ++ [x6])).bind fun qt=>(some qt)) else (none))
end
def Zal.f (k:Nat) (l0:List Int) (l1:List Int):Option (List Int):=if (l0.length:Int) < (l1.length:Int) then (if 0<=(wrap64 ((l1.length:Int)+1)) then (if (wrap64 ((l1.length:Int)+1):Int).toNat<=70368744177664 then (Zal.l0 k l0 (List.replicate 0 0) 0 l1 (l1.length:Int) 0) else (none)) else (none)) else (if 0<=(wrap64 ((l0.length:Int)+1)) then (if (wrap64 ((l0.length:Int)+1):Int).toNat<=70368744177664 then (Zal.l2 k l1 (List.replicate 0 0) 0 l0 (l0.length:Int) 0) else (none)) else (none))
theorem Zal.calls (k:Nat) (A0:Option Addr) (c0:Nat) (l0:List Int) (A1:Option Addr) (c1:Nat) (l1:List Int) (r:List Int) (w:World) (hr0:Kd.C (Kd.int .u32) w A0 l0.length l0) (hc0:l0.length<=c0) (hr1:Kd.C (Kd.int .u32) w A1 l1.length l1) (hc1:l1.length<=c1) (h:Zal.f k l0 l1=some r) :
  Calls Tryz.prog 131 #[.slice A0 l0.length c0,.slice A1 l1.length c1] w fun e w' => ∃ v0_:Value,e=.returned (v0_)/\Kd.R (Kd.int .u32) 85 w' w.heap.size (fun _=>True) v0_ r/\Below w.heap.size w w':=by
 have HR0:=am hr0
 have HC0:=am hc0
 clear hr0 hc0
 have HR1:=am hr1
 have HC1:=am hc1
 clear hr1 hc1
 have HB:=am (Below.refl w.heap.size w)
 have H:(if (l0.length:Int) < (l1.length:Int) then (if 0<=(wrap64 ((l1.length:Int)+1)) then (if (wrap64 ((l1.length:Int)+1):Int).toNat<=70368744177664 then (Zal.l0 k l0 (List.replicate 0 0) 0 l1 (l1.length:Int) 0) else (none)) else (none)) else (if 0<=(wrap64 ((l0.length:Int)+1)) then (if (wrap64 ((l0.length:Int)+1):Int).toNat<=70368744177664 then (Zal.l2 k l1 (List.replicate 0 0) 0 l0 (l0.length:Int) 0) else (none)) else (none)))=some r:=h
 clear h
 by_cases c3:(l0.length:Int) < (l1.length:Int)
 ·rw [if_pos c3] at H
  have c3b0:decide ((l0.length:Int) < (l1.length:Int))=true:=decide_eq_true c3
  have c3b1:decide (l0.length < l1.length)=true:=decide_eq_true (Int.ofNat_lt.mp c3)
  clear c3
  obtain ⟨ji4,hji4⟩:∃ j_:Int,(wrap64 ((l1.length:Int)+1))=j_:=⟨_,rfl⟩
  replace H:(if 0<=(ji4) then (if (ji4:Int).toNat<=70368744177664 then (Zal.l0 k l0 (List.replicate 0 0) 0 l1 (l1.length:Int) 0) else (none)) else (none))=some r:=by first|(rw [hji4] at H;exact H)|(simp only [hji4] at H ⊢;exact H)
  have hji4w:(IntKind.i64.wrap ((l1.length:Int)+1))=ji4:=(Zc5 _).trans hji4
  replace H:=iI H
  rcases H with ⟨c5b0,c5b1,H⟩|⟨_,_,H⟩
  ·replace H:=iI H
   rcases H with ⟨c6b0,c6b1,H⟩|⟨_,_,H⟩
   ·obtain ⟨j0,qk⟩:∃ y_:List Int,y_=(List.replicate 0 0):=⟨_,rfl⟩
    replace H:(Zal.l0 k l0 j0 0 l1 (l1.length:Int) 0)=some r:=by have hy_:=qk;exact pH
    have q0:=am qk
    clear qk
    have H':=am H
    clear H
    go_enter Tryz.func131,Tryz.ntmps131
    go_wp2_with (first|((with_reducible refine gd 22 ?_);refine Zhe (Kd.int .u32) _ 85 rfl (N:=22) rfl 134 _ _ rfl ji4 rfl rfl Tryz.underlying134 (.int .u32 0) 4 info85 (by omega) 0 (ok:=fun _=>True) (okp:=fun _=>True) (fun _ hk=>hk) trivial (of_decide_eq_true pQ) (Nat.le_trans (Nat.mul_le_mul_right _ (of_decide_eq_true pQ:(ji4:Int).toNat<=70368744177664)) (by omega)) (Below.refl _ _) (Nat.le_refl _) ?_;intro qac w7 ho8 hb hg_ hnew_;clear hg_ hnew_;(first|rw [<- q0.out] at ho8|(simp only [Int.reduceToNat] at ho8;rw [<- q0.out] at ho8));have jk:=am (Kd.Zt ho8 (Zb pB));replace HB:=bS hb;clear hb ho8))
    go_loopg [5,6,25] k (fun kq v5 v6 v25 w' => ∃ (x5_1:List Int) (x6_1:Int) (x25_1:Int),v6=.int .u32 x6_1/\v25=.int .i64 x25_1/\Aside0 (Zal.l0 kq l0 x5_1 x6_1 l1 (l1.length:Int) x25_1=some r)/\Aside0 (kq<=k)/\Aside0 (Kd.R (Kd.int .u32) 85 w' w.heap.size (fun _=>True) v5 x5_1)/\Aside0 (Below w.heap.size w w'))
    case atStart=>exact ⟨(j0),(0),(0),pR,pR,H',⟨Nat.le_refl _⟩,⟨by refine rp ?_;exact jk.o⟩,⟨pB⟩⟩
    case round =>
     clear H'
     obtain ⟨x5_1,x6_1,x25_1,rfl,rfl,HA,HK1,HO_5,HB⟩:=hrel
     cases gk with
     | zero=>exact absurd HA.out (by simp [Zal.l0])
     | succ k1 =>
      have H:=HA.out
      clear HA
      simp only [Zal.l0] at H
      replace H:=dI H
      rcases H with ⟨c9b0,H⟩|⟨c9b0,H⟩
      ·replace H:=dI H
       rcases H with ⟨c10b0,H⟩|⟨_,H⟩
       ·replace H:=dI H
        rcases H with ⟨c11b0,H⟩|⟨_,H⟩
        ·replace H:=dI H
         rcases H with ⟨c12b0,H⟩|⟨c12b0,H⟩
         ·replace H:=ob H
          obtain ⟨⟨qw,jg⟩,A13,H⟩:=H;(try dsimp only at H)
          by_cases c14:x5_1.length < 35184372088832
          ·rw [if_pos c14] at H
           have LMc14:=am c14
           clear c14
           obtain ⟨j1,ql⟩:∃ y_:List Int,y_=(x5_1 ++ [qw]):=⟨_,rfl⟩
           replace H:(Zal.l0 k1 l0 j1 jg l1 (l1.length:Int) (wrap64 (x25_1+1)))=some r:=by have hy_:=ql;exact pH
           have js:=am ql
           clear ql
           have H':=am H
           clear H
           have qe:0<=(x25_1:Int):=of_decide_eq_true pQ
           have qg:x25_1 < (l1.length:Int):=of_decide_eq_true pQ
           obtain ⟨jy,ja,qa⟩:=Kd.Zbi HR1.o x25_1 qe qg
           cases ja
           replace qa:=(HB.o.cell (World.block_lt_of_cell? w _ qa)).trans qa
           replace qe:=eq_true qe
           replace qg:=eq_true qg
           have jc:0<=(x25_1:Int):=of_decide_eq_true pQ
           have je:x25_1 < (l0.length:Int):=of_decide_eq_true pQ
           obtain ⟨qaa,j6,qc⟩:=Kd.Zbi HR0.o x25_1 jc je
           cases j6
           replace qc:=(HB.o.cell (World.block_lt_of_cell? w _ qc)).trans qc
           replace jc:=eq_true jc
           replace je:=eq_true je
           go_wp2_with (first|(refine gL (some 42) Tryz.func164 #[.int .u32 (rd l1 x25_1),.int .u32 (rd l0 x25_1),.int .u32 x6_1] (h:=?_);(with_reducible refine (Zc1.calls (rd l1 x25_1) (rd l0 x25_1) x6_1 qw jg _ A13.o).mono ?_);rintro e w' ⟨rfl,⟨nd,rfl⟩⟩;refine ⟨_,rfl,?_⟩)|((with_reducible refine Za1 (b:=.append) (xs:=#[.tmp 45,.tmp 47]) rfl ?_);at_builtin;refine Kd.Zcb (Kd.int .u32) (w0:=w) w.heap.size rfl (.tmp 45) (.tmp 47) 134 85 (.int .u32 0) 4 rfl Tryz.underlying134 info85 rfl (by decide) (by omega) u5 x5_1 qw [.int .u32 qw] (fun _=>True) (fun _=>False) rfl rfl ?aP (fun _ hk=>hk.elim) ?aF ?aO ?aB ?aS ?aL ?_;(case aP=>exact rfl);(case aB=>exact pB);(case aF=>exact (fun _ _=>trivial));(case aO=>exact (Kd.Zc HO_5.o pl));(case aS=>exact (Zb pB));(case aL=>have := LMc14.o;omega);intro qad w15 ho hb hg hat;rw [<- js.out] at ho;have jl:=am ho;replace HB:=am hb;clear HO_5 ho hb hg hat))
           go_roundg k1
           case measure=>exact pM
           case rel=>exact ⟨(j1),(jg),(wrap64 (x25_1+1)),pR,pR,(by first|exact H'|(have H_:=H'.out;simp only [<- hji4] at H_;exact ⟨H_⟩)|(refine ⟨?_⟩;have H_:=H'.out;simp only [<- hji4] at H_ ⊢;exact H_)),pJ,⟨by refine rp ?_;exact jl.o⟩,⟨pB⟩⟩
          ·rw [if_neg c14] at H
           cases H
         ·replace H:=ob H
          obtain ⟨⟨qx,jh⟩,A16,H⟩:=H;(try dsimp only at H)
          by_cases c17:x5_1.length < 35184372088832
          ·rw [if_pos c17] at H
           have LMc17:=am c17
           clear c17
           obtain ⟨j2,qm⟩:∃ y_:List Int,y_=(x5_1 ++ [qx]):=⟨_,rfl⟩
           replace H:(Zal.l0 k1 l0 j2 jh l1 (l1.length:Int) (wrap64 (x25_1+1)))=some r:=by have hy_:=qm;exact pH
           have jt:=am qm
           clear qm
           have H':=am H
           clear H
           have qe:0<=(x25_1:Int):=of_decide_eq_true pQ
           have qg:x25_1 < (l1.length:Int):=of_decide_eq_true pQ
           obtain ⟨jy,ja,qa⟩:=Kd.Zbi HR1.o x25_1 qe qg
           cases ja
           replace qa:=(HB.o.cell (World.block_lt_of_cell? w _ qa)).trans qa
           replace qe:=eq_true qe
           replace qg:=eq_true qg
           go_wp2_with (first|(refine gL (some 42) Tryz.func164 #[.int .u32 (rd l1 x25_1),.int .u32 0,.int .u32 x6_1] (h:=?_);(with_reducible refine (Zc1.calls (rd l1 x25_1) 0 x6_1 qx jh _ A16.o).mono ?_);rintro e w' ⟨rfl,⟨nd,rfl⟩⟩;refine ⟨_,rfl,?_⟩)|((with_reducible refine Za1 (b:=.append) (xs:=#[.tmp 45,.tmp 47]) rfl ?_);at_builtin;refine Kd.Zcb (Kd.int .u32) (w0:=w) w.heap.size rfl (.tmp 45) (.tmp 47) 134 85 (.int .u32 0) 4 rfl Tryz.underlying134 info85 rfl (by decide) (by omega) u5 x5_1 qx [.int .u32 qx] (fun _=>True) (fun _=>False) rfl rfl ?aP (fun _ hk=>hk.elim) ?aF ?aO ?aB ?aS ?aL ?_;(case aP=>exact rfl);(case aB=>exact pB);(case aF=>exact (fun _ _=>trivial));(case aO=>exact (Kd.Zc HO_5.o pl));(case aS=>exact (Zb pB));(case aL=>have := LMc17.o;omega);intro qae w18 ho hb hg hat;rw [<- jt.out] at ho;have jm:=am ho;replace HB:=am hb;clear HO_5 ho hb hg hat))
           go_roundg k1
           case measure=>exact pM
           case rel=>exact ⟨(j2),(jh),(wrap64 (x25_1+1)),pR,pR,(by first|exact H'|(have H_:=H'.out;simp only [<- hji4] at H_;exact ⟨H_⟩)|(refine ⟨?_⟩;have H_:=H'.out;simp only [<- hji4] at H_ ⊢;exact H_)),pJ,⟨by refine rp ?_;exact jm.o⟩,⟨pB⟩⟩
          ·rw [if_neg c17] at H
           cases H
        ·cases H
       ·cases H
      ·by_cases c19:x5_1.length < 35184372088832
       ·rw [if_pos c19] at H
        have LMc19:=am c19
        clear c19
        obtain ⟨qu,qn⟩:∃ y_:List Int,y_=(x5_1 ++ [x6_1]):=⟨_,rfl⟩
        replace H:((Zad.f k1 qu).bind fun qs=>(some qs))=some r:=by have hy_:=qn;exact pH
        have ju:=am qn
        clear qn
        replace H:=ob H
        obtain ⟨qs,A20,H⟩:=H
        obtain rfl:=Option.some.inj H
        go_wp2_with (first|((with_reducible refine Za1 (b:=.append) (xs:=#[.tmp 51,.tmp 53]) rfl ?_);at_builtin;refine Kd.Zcb (Kd.int .u32) (w0:=w) w.heap.size rfl (.tmp 51) (.tmp 53) 134 85 (.int .u32 0) 4 rfl Tryz.underlying134 info85 rfl (by decide) (by omega) u5 x5_1 x6_1 [.int .u32 x6_1] (fun _=>True) (fun _=>False) rfl rfl ?aP (fun _ hk=>hk.elim) ?aF ?aO ?aB ?aS ?aL ?_;(case aP=>exact rfl);(case aB=>exact pB);(case aF=>exact (fun _ _=>trivial));(case aO=>exact (Kd.Zc HO_5.o pl));(case aS=>exact (Zb pB));(case aL=>have := LMc19.o;omega);intro qaf w21 ho hb hg hat;rw [<- ju.out] at ho;have qi:=am ho;replace HB:=am hb;clear HO_5 ho hb hg hat;obtain ⟨q6,q8,j8⟩:=Kd.Zm qi.o;subst j8)|(refine gL (some 55) Tryz.func132 #[.slice q6 qu.length q8] (h:=?_);(with_reducible refine (Zad.calls k1 (fun k_=>some k_=(.slice q6 qu.length q8:Value).ownBlock) (.slice q6 qu.length q8) qu qs w _ ?side1 ?side2 A20.o).mono ?_);(case side1=>exact pB);(case side2=>exact Kd.Zbc rfl qi.o);rintro e w23 ⟨qag,rfl,ho0,hb,hkp⟩;refine ⟨_,rfl,?_⟩;have jn:=am (Kd.Zi (ok':=fun k_=>True) ho0 (fun k_ hk_=>trivial));replace HB:=am hb;clear qi))
        go_ret
        exact ⟨_,by first|rfl|(simp [Za6,Za7] <;> rfl)|(simp only [<- hji4];first|rfl|(simp [Za6,Za7] <;> rfl))|(simp [*,Za6,Za7] <;> rfl),by refine rp ?_;exact jn.o,pB⟩
       ·rw [if_neg c19] at H
        cases H
   ·cases H
  ·cases H
 ·rw [if_neg c3] at H
  have c3b0:decide ((l0.length:Int) < (l1.length:Int))=false:=decide_eq_false c3
  have c3b1:decide (l0.length < l1.length)=false:=decide_eq_false (fun h=>c3 (Int.ofNat_lt.mpr h))
  clear c3
  obtain ⟨ji24,hji24⟩:∃ j_:Int,(wrap64 ((l0.length:Int)+1))=j_:=⟨_,rfl⟩
  replace H:(if 0<=(ji24) then (if (ji24:Int).toNat<=70368744177664 then (Zal.l2 k l1 (List.replicate 0 0) 0 l0 (l0.length:Int) 0) else (none)) else (none))=some r:=by first|(rw [hji24] at H;exact H)|(simp only [hji24] at H ⊢;exact H)
  have hji24w:(IntKind.i64.wrap ((l0.length:Int)+1))=ji24:=(Zc5 _).trans hji24
  replace H:=iI H
  rcases H with ⟨c25b0,c25b1,H⟩|⟨_,_,H⟩
  ·replace H:=iI H
   rcases H with ⟨c26b0,c26b1,H⟩|⟨_,_,H⟩
   ·obtain ⟨j3,qo⟩:∃ y_:List Int,y_=(List.replicate 0 0):=⟨_,rfl⟩
    replace H:(Zal.l2 k l1 j3 0 l0 (l0.length:Int) 0)=some r:=by have hy_:=qo;exact pH
    have q1:=am qo
    clear qo
    have H':=am H
    clear H
    go_enter Tryz.func131,Tryz.ntmps131
    go_wp2_with (first|((with_reducible refine gd 22 ?_);refine Zhe (Kd.int .u32) _ 85 rfl (N:=22) rfl 134 _ _ rfl ji24 rfl rfl Tryz.underlying134 (.int .u32 0) 4 info85 (by omega) 0 (ok:=fun _=>True) (okp:=fun _=>True) (fun _ hk=>hk) trivial (of_decide_eq_true pQ) (Nat.le_trans (Nat.mul_le_mul_right _ (of_decide_eq_true pQ:(ji24:Int).toNat<=70368744177664)) (by omega)) (Below.refl _ _) (Nat.le_refl _) ?_;intro qah w27 ho28 hb hg_ hnew_;clear hg_ hnew_;(first|rw [<- q1.out] at ho28|(simp only [Int.reduceToNat] at ho28;rw [<- q1.out] at ho28));have jo:=am (Kd.Zt ho28 (Zb pB));replace HB:=bS hb;clear hb ho28))
    go_loopg [5,6,25] k (fun kq v5 v6 v25 w' => ∃ (x5_1:List Int) (x6_1:Int) (x25_1:Int),v6=.int .u32 x6_1/\v25=.int .i64 x25_1/\Aside0 (Zal.l2 kq l1 x5_1 x6_1 l0 (l0.length:Int) x25_1=some r)/\Aside0 (kq<=k)/\Aside0 (Kd.R (Kd.int .u32) 85 w' w.heap.size (fun _=>True) v5 x5_1)/\Aside0 (Below w.heap.size w w'))
    case atStart=>exact ⟨(j3),(0),(0),pR,pR,H',⟨Nat.le_refl _⟩,⟨by refine rp ?_;exact jo.o⟩,⟨pB⟩⟩
    case round =>
     clear H'
     obtain ⟨x5_1,x6_1,x25_1,rfl,rfl,HA,HK1,HO_5,HB⟩:=hrel
     cases gk with
     | zero=>exact absurd HA.out (by simp [Zal.l2])
     | succ k1 =>
      have H:=HA.out
      clear HA
      simp only [Zal.l2] at H
      replace H:=dI H
      rcases H with ⟨c29b0,H⟩|⟨c29b0,H⟩
      ·replace H:=dI H
       rcases H with ⟨c30b0,H⟩|⟨_,H⟩
       ·replace H:=dI H
        rcases H with ⟨c31b0,H⟩|⟨_,H⟩
        ·replace H:=dI H
         rcases H with ⟨c32b0,H⟩|⟨c32b0,H⟩
         ·replace H:=ob H
          obtain ⟨⟨qy,ji⟩,A33,H⟩:=H;(try dsimp only at H)
          by_cases c34:x5_1.length < 35184372088832
          ·rw [if_pos c34] at H
           have LMc34:=am c34
           clear c34
           obtain ⟨j4,qp⟩:∃ y_:List Int,y_=(x5_1 ++ [qy]):=⟨_,rfl⟩
           replace H:(Zal.l2 k1 l1 j4 ji l0 (l0.length:Int) (wrap64 (x25_1+1)))=some r:=by have hy_:=qp;exact pH
           have jv:=am qp
           clear qp
           have H':=am H
           clear H
           have qf:0<=(x25_1:Int):=of_decide_eq_true pQ
           have qh:x25_1 < (l0.length:Int):=of_decide_eq_true pQ
           obtain ⟨jz,jb,qb⟩:=Kd.Zbi HR0.o x25_1 qf qh
           cases jb
           replace qb:=(HB.o.cell (World.block_lt_of_cell? w _ qb)).trans qb
           replace qf:=eq_true qf
           replace qh:=eq_true qh
           have jd:0<=(x25_1:Int):=of_decide_eq_true pQ
           have jf:x25_1 < (l1.length:Int):=of_decide_eq_true pQ
           obtain ⟨qab,j7,qd⟩:=Kd.Zbi HR1.o x25_1 jd jf
           cases j7
           replace qd:=(HB.o.cell (World.block_lt_of_cell? w _ qd)).trans qd
           replace jd:=eq_true jd
           replace jf:=eq_true jf
           go_wp2_with (first|(refine gL (some 42) Tryz.func164 #[.int .u32 (rd l0 x25_1),.int .u32 (rd l1 x25_1),.int .u32 x6_1] (h:=?_);(with_reducible refine (Zc1.calls (rd l0 x25_1) (rd l1 x25_1) x6_1 qy ji _ A33.o).mono ?_);rintro e w' ⟨rfl,⟨nd,rfl⟩⟩;refine ⟨_,rfl,?_⟩)|((with_reducible refine Za1 (b:=.append) (xs:=#[.tmp 45,.tmp 47]) rfl ?_);at_builtin;refine Kd.Zcb (Kd.int .u32) (w0:=w) w.heap.size rfl (.tmp 45) (.tmp 47) 134 85 (.int .u32 0) 4 rfl Tryz.underlying134 info85 rfl (by decide) (by omega) u5 x5_1 qy [.int .u32 qy] (fun _=>True) (fun _=>False) rfl rfl ?aP (fun _ hk=>hk.elim) ?aF ?aO ?aB ?aS ?aL ?_;(case aP=>exact rfl);(case aB=>exact pB);(case aF=>exact (fun _ _=>trivial));(case aO=>exact (Kd.Zc HO_5.o pl));(case aS=>exact (Zb pB));(case aL=>have := LMc34.o;omega);intro qai w35 ho hb hg hat;rw [<- jv.out] at ho;have jp:=am ho;replace HB:=am hb;clear HO_5 ho hb hg hat))
           go_roundg k1
           case measure=>exact pM
           case rel=>exact ⟨(j4),(ji),(wrap64 (x25_1+1)),pR,pR,(by first|exact H'|(have H_:=H'.out;simp only [<- hji24] at H_;exact ⟨H_⟩)|(refine ⟨?_⟩;have H_:=H'.out;simp only [<- hji24] at H_ ⊢;exact H_)),pJ,⟨by refine rp ?_;exact jp.o⟩,⟨pB⟩⟩
          ·rw [if_neg c34] at H
           cases H
         ·replace H:=ob H
          obtain ⟨⟨qz,jj⟩,A36,H⟩:=H;(try dsimp only at H)
          by_cases c37:x5_1.length < 35184372088832
          ·rw [if_pos c37] at H
           have LMc37:=am c37
           clear c37
           obtain ⟨j5,qq⟩:∃ y_:List Int,y_=(x5_1 ++ [qz]):=⟨_,rfl⟩
           replace H:(Zal.l2 k1 l1 j5 jj l0 (l0.length:Int) (wrap64 (x25_1+1)))=some r:=by have hy_:=qq;exact pH
           have jw:=am qq
           clear qq
           have H':=am H
           clear H
           have qf:0<=(x25_1:Int):=of_decide_eq_true pQ
           have qh:x25_1 < (l0.length:Int):=of_decide_eq_true pQ
           obtain ⟨jz,jb,qb⟩:=Kd.Zbi HR0.o x25_1 qf qh
           cases jb
           replace qb:=(HB.o.cell (World.block_lt_of_cell? w _ qb)).trans qb
           replace qf:=eq_true qf
           replace qh:=eq_true qh
           go_wp2_with (first|(refine gL (some 42) Tryz.func164 #[.int .u32 (rd l0 x25_1),.int .u32 0,.int .u32 x6_1] (h:=?_);(with_reducible refine (Zc1.calls (rd l0 x25_1) 0 x6_1 qz jj _ A36.o).mono ?_);rintro e w' ⟨rfl,⟨nd,rfl⟩⟩;refine ⟨_,rfl,?_⟩)|((with_reducible refine Za1 (b:=.append) (xs:=#[.tmp 45,.tmp 47]) rfl ?_);at_builtin;refine Kd.Zcb (Kd.int .u32) (w0:=w) w.heap.size rfl (.tmp 45) (.tmp 47) 134 85 (.int .u32 0) 4 rfl Tryz.underlying134 info85 rfl (by decide) (by omega) u5 x5_1 qz [.int .u32 qz] (fun _=>True) (fun _=>False) rfl rfl ?aP (fun _ hk=>hk.elim) ?aF ?aO ?aB ?aS ?aL ?_;(case aP=>exact rfl);(case aB=>exact pB);(case aF=>exact (fun _ _=>trivial));(case aO=>exact (Kd.Zc HO_5.o pl));(case aS=>exact (Zb pB));(case aL=>have := LMc37.o;omega);intro qaj w38 ho hb hg hat;rw [<- jw.out] at ho;have jq:=am ho;replace HB:=am hb;clear HO_5 ho hb hg hat))
           go_roundg k1
           case measure=>exact pM
           case rel=>exact ⟨(j5),(jj),(wrap64 (x25_1+1)),pR,pR,(by first|exact H'|(have H_:=H'.out;simp only [<- hji24] at H_;exact ⟨H_⟩)|(refine ⟨?_⟩;have H_:=H'.out;simp only [<- hji24] at H_ ⊢;exact H_)),pJ,⟨by refine rp ?_;exact jq.o⟩,⟨pB⟩⟩
          ·rw [if_neg c37] at H
           cases H
        ·cases H
       ·cases H
      ·by_cases c39:x5_1.length < 35184372088832
       ·rw [if_pos c39] at H
        have LMc39:=am c39
        clear c39
        obtain ⟨qv,qr⟩:∃ y_:List Int,y_=(x5_1 ++ [x6_1]):=⟨_,rfl⟩
        replace H:((Zad.f k1 qv).bind fun qt=>(some qt))=some r:=by have hy_:=qr;exact pH
        have jx:=am qr
        clear qr
        replace H:=ob H
        obtain ⟨qt,A40,H⟩:=H
        obtain rfl:=Option.some.inj H
        go_wp2_with (first|((with_reducible refine Za1 (b:=.append) (xs:=#[.tmp 51,.tmp 53]) rfl ?_);at_builtin;refine Kd.Zcb (Kd.int .u32) (w0:=w) w.heap.size rfl (.tmp 51) (.tmp 53) 134 85 (.int .u32 0) 4 rfl Tryz.underlying134 info85 rfl (by decide) (by omega) u5 x5_1 x6_1 [.int .u32 x6_1] (fun _=>True) (fun _=>False) rfl rfl ?aP (fun _ hk=>hk.elim) ?aF ?aO ?aB ?aS ?aL ?_;(case aP=>exact rfl);(case aB=>exact pB);(case aF=>exact (fun _ _=>trivial));(case aO=>exact (Kd.Zc HO_5.o pl));(case aS=>exact (Zb pB));(case aL=>have := LMc39.o;omega);intro qak w41 ho hb hg hat;rw [<- jx.out] at ho;have qj:=am ho;replace HB:=am hb;clear HO_5 ho hb hg hat;obtain ⟨q7,q9,j9⟩:=Kd.Zm qj.o;subst j9)|(refine gL (some 55) Tryz.func132 #[.slice q7 qv.length q9] (h:=?_);(with_reducible refine (Zad.calls k1 (fun k_=>some k_=(.slice q7 qv.length q9:Value).ownBlock) (.slice q7 qv.length q9) qv qt w _ ?side1 ?side2 A40.o).mono ?_);(case side1=>exact pB);(case side2=>exact Kd.Zbc rfl qj.o);rintro e w43 ⟨qal,rfl,ho0,hb,hkp⟩;refine ⟨_,rfl,?_⟩;have jr:=am (Kd.Zi (ok':=fun k_=>True) ho0 (fun k_ hk_=>trivial));replace HB:=am hb;clear qj))
        go_ret
        exact ⟨_,by first|rfl|(simp [Za6,Za7] <;> rfl)|(simp only [<- hji24];first|rfl|(simp [Za6,Za7] <;> rfl))|(simp [*,Za6,Za7] <;> rfl),by refine rp ?_;exact jr.o,pB⟩
       ·rw [if_neg c39] at H
        cases H
   ·cases H
  ·cases H
end YtjbjkmccfocikaaGreatDoor.B
end
section
namespace YtjbjkmccfocikaaGreatDoor.P
open Go.RowKit YtjbjkmccfocikaaGreatDoor.B YtjbjkmccfocikaaGreatDoorW.PrintWords YtjbjkmccfocikaaGreatDoorW.PrintLast YtjbjkmccfocikaaGreatDoorW.PrintMore YtjbjkmccfocikaaGreatDoor.P.Nm
theorem Zd8 (n:Nat):(limbs n).length<=nd n:=by
 refine Zgq (b:=4294967296) (by omega) ?_
 rw [Zf5]
 have h1:=Zj2 n
 have h2:10 ^ nd n<=4294967296 ^ nd n:=Nat.pow_le_pow_left (by decide) _
 exact_mod_cast (Nat.lt_of_lt_of_le h1 h2)
theorem Zn0 {n:Nat} (h:limbs n=[]):n=0:=Zkt (b:=4294967296) (by omega) h
theorem Zez {n:Nat} (h:n ≠ 0):limbs n ≠ []:=fun e=>h (Zn0 e)
theorem Zep {n k:Nat} (h:n < 4294967296 ^ k):(limbs n).length<=k :=
 Zgq (b:=4294967296) (by omega) (by rw [Zf5];exact_mod_cast h)
theorem Zlr (n:Nat):n < 4294967296 ^ (limbs n).length:=Zgr (b:=4294967296) (by omega) n
theorem Zel {n:Nat} (h:nd n<=1000000):okW (limbs n)=true:=Zek.2 ⟨Nat.le_trans (Zd8 n) h,Zcx n,Zg3 n⟩
theorem dgL {l:List Int} (h:Dg 4294967296 l) (i:Nat):∃ x:Nat,l.getD i 0=(x:Int)/\x < 4294967296:=by
 have := Zi4 (by omega) h i
 exact ⟨(l.getD i 0).toNat,by omega,by omega⟩
theorem u64n {m:Nat} (h:m < 18446744073709551616):IntKind.u64.wrap (m:Int)=(m:Int):=by simp [IntKind.wrap,IntKind.bits,IntKind.signed];omega
theorem u64p {a b:Nat} (h:a+b < 18446744073709551616):IntKind.u64.wrap ((a:Int)+(b:Int))=((a+b:Nat):Int):=by rw [<- Int.natCast_add,u64n h]
theorem u64k {a b c:Nat} (hc:a*b=c) (h:c < 18446744073709551616):IntKind.u64.wrap ((a:Int)*(b:Int))=(c:Int):=by rw [<- Int.natCast_mul,hc,u64n h]
theorem ediv32 (m:Nat):(m:Int) / 4294967296=((m / 4294967296:Nat):Int):=by omega
theorem emod32 (m:Nat):(m:Int) % 4294967296=((m % 4294967296:Nat):Int):=by omega
theorem Zhx:∀ (n:Nat) (l:List Int),l.length=n->n<=4611686018427387904->Tells (fun k=>Zad.l0 k l) (trimL l)
 | 0,l,hn,_=>by
  obtain rfl:=List.eq_nil_of_length_eq_zero hn
  refine Tells.succ ?_
  exact Tells.pure _
 | n+1,l,hn,hb=>by
  obtain ⟨l',x,rfl⟩:=Zfi (l:=l) (by intro e;subst e;simp at hn)
  have hl':l'.length=n:=by simpa using hn
  have ih:=Zhx n l' hl' (by omega)
  have hlen:((l' ++ [x]).length:Int) - 1=(l'.length:Int):=by rw [hn,hl'];omega
  have c1:((l' ++ [x]).length:Int) > 0:=by rw [hn];omega
  have c2:(0:Int)<=(l'.length:Int):=by omega
  have c3:(l'.length:Int) < ((l' ++ [x]).length:Int):=by rw [hn];omega
  have hrd:(l' ++ [x]).getD l'.length 0=x:=by rw [List.getD,List.getElem?_append_right (Nat.le_refl _),Nat.sub_self];rfl
  refine Tells.succ ?_
  simp only [Zad.l0]
  rw [hlen,w64c (by omega),rd_n,hrd,Int.toNat_natCast,List.take_left]
  refine Tells.ifp c1 (Tells.ifp c2 (Tells.ifp c3 ?_))
  by_cases hx:x=0
  ·refine Tells.ifp hx (Tells.ifp (Int.le_of_lt c3) ?_)
   rw [hx,Zeg];exact ih
  ·refine Tells.ifn hx (Tells.ifn (by omega) ?_)
   rw [Zew _ hx];exact Tells.pure _
theorem Zmr (l:List Int) (h:l.length<=4611686018427387904):Tells (fun k=>Zad.f k l) (trimL l):=Zhx _ l rfl h
theorem Zef {l:List Int} {n:Nat} (hd:Dg 4294967296 l) (hv:val 4294967296 l=n) (h:l.length<=4611686018427387904):Tells (fun k=>Zad.f k l) (limbs n):=(Zmr l h).val (Zij hd hv)
theorem Add32 (x y c:Nat) (hx:x < 4294967296) (hy:y < 4294967296) (hc:c<=1):Zc1.f (x:Int) (y:Int) (c:Int)=some ((((x+y+c) % 4294967296:Nat):Int),(((x+y+c) / 4294967296:Nat):Int)):=by
 unfold Zc1.f
 rw [u64n (by omega),u64n (by omega),u64n (m:=c) (by omega),u64p (by omega),u64p (by omega)]
 congr 2
 omega
structure AddAt (a b:List Int) (i c:Nat) (o:List Int):Prop where
 len:o.length=i
 dg:Dg 4294967296 o
 c1:c<=1
 law:val 4294967296 o+pw 4294967296 i*c=val 4294967296 (a.take i)+val 4294967296 (b.take i)
theorem AddAt.start (a b:List Int):AddAt a b 0 0 []:=⟨rfl,Dg.nil _,by omega,by simp [val]⟩
theorem AddAt.step {a b:List Int} {i c:Nat} {o:List Int} (h:AddAt a b i c o) {x y:Nat} (hx:a.getD i 0=x) (hy:b.getD i 0=y) (hx1:x < 4294967296) (hy1:y < 4294967296) :
  AddAt a b (i+1) ((x+y+c) / 4294967296) (o ++ [(((x+y+c) % 4294967296:Nat):Int)]):=by
 have hc:=h.c1
 refine ⟨by simp [h.len],h.dg.app (Dg.one (by omega) (by omega)),by omega,?_⟩
 rw [Zb8,Zb8,Zdt,h.len,Zfg,hx,hy]
 have hl:=h.law
 generalize pw 4294967296 i=M at *
 have e:M*(((x+y+c) % 4294967296:Nat):Int)+4294967296*M*(((x+y+c) / 4294967296:Nat):Int)=M*x+M*y+M*c:=by
  rw [Int.mul_comm 4294967296 M,Int.mul_assoc,<- Int.mul_add,<- Int.mul_add,<- Int.mul_add]
  congr 1;omega
 omega
theorem AddAt.done {a b:List Int} {c:Nat} {o:List Int} (h:AddAt a b a.length c o) (ha:Dg 4294967296 a) (hb:Dg 4294967296 b) (hl:b.length<=a.length) (hz:a.length<=1000000):Tells (fun k=>Zad.f k (o ++ [(c:Int)])) (limbs (num a+num b)):=by
 have hc:=h.c1
 have hlen:=h.len
 refine Zef (h.dg.app (Dg.one (by omega) (by omega))) ?_ (by simp;omega)
 have hlaw:=h.law
 rw [List.take_length,List.take_of_length_le hl] at hlaw
 rw [Zdt,h.len,hlaw,<- Zdh ha,<- Zdh hb]
 omega
theorem Zp6 {a b:List Int} (ha:Dg 4294967296 a) (hb:Dg 4294967296 b) (la:a.length<=1000000) (lb:b.length<=a.length):∀ (d i c:Nat) (o:List Int),a.length - i=d->i<=a.length->AddAt a b i c o ->
  Tells (fun k=>Zal.l0 k b o (c:Int) a (a.length:Int) (i:Int)) (limbs (num a+num b))
 | 0,i,c,o,hd,hi,h=>by
  obtain rfl:i=a.length:=by omega
  have hlen:=h.len
  have c3:o.length < 35184372088832:=by omega
  refine Tells.succ ?_
  simp only [Zal.l0]
  exact Tells.ifn (Int.lt_irrefl _) (Tells.ifp c3 ((h.done ha hb lb la).bind (Tells.pure _)))
 | d+1,i,c,o,hd,hi,h=>by
  obtain ⟨x,hx,hx1⟩:=dgL ha i
  obtain ⟨y,hy,hy1⟩:=dgL hb i
  have ih:=Zp6 ha hb la lb d (i+1) _ _ (by omega) (by omega) (h.step hx hy hx1 hy1)
  have hlen:=h.len
  have c1:(i:Int) < (a.length:Int):=by omega
  have c2:(0:Int)<=(i:Int):=by omega
  have c3:o.length < 35184372088832:=by omega
  refine Tells.succ ?_
  simp only [Zal.l0]
  rw [rd_n,rd_n,hx,hy,w64s (by omega),Add32 x y c hx1 hy1 h.c1]
  refine Tells.ifp c1 (Tells.ifp c2 (Tells.ifp c1 ?_))
  by_cases hb2:i < b.length
  ·exact Tells.ifp (by omega) ((Tells.pure _).bind (Tells.ifp c3 ih))
  ·have e3:y=0:=by have := Zfl (l:=b) (i:=i) (by omega);omega
   rw [e3] at ih
   have e4:=Add32 x 0 c hx1 (by omega) h.c1
   refine Tells.ifn (by omega) ?_
   rw [show (0:Int)=((0:Nat):Int) from rfl,e4]
   exact (Tells.pure _).bind (Tells.ifp c3 ih)
theorem Zp7 {a b:List Int} (ha:Dg 4294967296 a) (hb:Dg 4294967296 b) (la:a.length<=1000000) (lb:b.length<=a.length):∀ (d i c:Nat) (o:List Int),a.length - i=d->i<=a.length->AddAt a b i c o ->
  Tells (fun k=>Zal.l2 k b o (c:Int) a (a.length:Int) (i:Int)) (limbs (num a+num b))
 | 0,i,c,o,hd,hi,h=>by
  obtain rfl:i=a.length:=by omega
  have hlen:=h.len
  have c3:o.length < 35184372088832:=by omega
  refine Tells.succ ?_
  simp only [Zal.l2]
  exact Tells.ifn (Int.lt_irrefl _) (Tells.ifp c3 ((h.done ha hb lb la).bind (Tells.pure _)))
 | d+1,i,c,o,hd,hi,h=>by
  obtain ⟨x,hx,hx1⟩:=dgL ha i
  obtain ⟨y,hy,hy1⟩:=dgL hb i
  have ih:=Zp7 ha hb la lb d (i+1) _ _ (by omega) (by omega) (h.step hx hy hx1 hy1)
  have hlen:=h.len
  have c1:(i:Int) < (a.length:Int):=by omega
  have c2:(0:Int)<=(i:Int):=by omega
  have c3:o.length < 35184372088832:=by omega
  refine Tells.succ ?_
  simp only [Zal.l2]
  rw [rd_n,rd_n,hx,hy,w64s (by omega),Add32 x y c hx1 hy1 h.c1]
  refine Tells.ifp c1 (Tells.ifp c2 (Tells.ifp c1 ?_))
  by_cases hb2:i < b.length
  ·exact Tells.ifp (by omega) ((Tells.pure _).bind (Tells.ifp c3 ih))
  ·have e3:y=0:=by have := Zfl (l:=b) (i:=i) (by omega);omega
   rw [e3] at ih
   have e4:=Add32 x 0 c hx1 (by omega) h.c1
   refine Tells.ifn (by omega) ?_
   rw [show (0:Int)=((0:Nat):Int) from rfl,e4]
   exact (Tells.pure _).bind (Tells.ifp c3 ih)
theorem Znk {a b:List Int} (ha:Dg 4294967296 a) (hb:Dg 4294967296 b) (la:a.length<=1000000) (lb:b.length<=1000000):Tells (fun k=>Zal.f k a b) (limbs (num a+num b)):=by
 unfold Zal.f
 by_cases h:a.length < b.length
 ·have h1:=Zp6 hb ha lb (by omega) b.length 0 0 [] (by omega) (by omega) (AddAt.start b a)
  rw [Nat.add_comm] at h1
  refine Tells.ifp (by omega) ?_
  rw [w64s (by omega)]
  exact Tells.ifp (by omega) (Tells.ifp (by omega) h1)
 ·have h1:=Zp7 ha hb la (by omega) a.length 0 0 [] (by omega) (by omega) (AddAt.start a b)
  refine Tells.ifn (by omega) ?_
  rw [w64s (by omega)]
  exact Tells.ifp (by omega) (Tells.ifp (by omega) h1)
theorem Sub32 (x y c:Nat) (hx:x < 4294967296) (hy:y < 4294967296) (hc:c<=1):Zdo.f (x:Int) (y:Int) (c:Int)=some ((((x+4294967296 - y - c) % 4294967296:Nat):Int),(((if x < y+c then 1 else 0:Nat)):Int)):=by
 unfold Zdo.f
 rw [if_pos (by omega)]
 congr 2
 ·omega
 ·split <;> split <;> first|rfl|omega
structure SubAt (a b:List Int) (i c:Nat) (o:List Int):Prop where
 len:o.length=i
 dg:Dg 4294967296 o
 c1:c<=1
 law:val 4294967296 o=val 4294967296 (a.take i) - val 4294967296 (b.take i)+pw 4294967296 i*c
theorem SubAt.start (a b:List Int):SubAt a b 0 0 []:=⟨rfl,Dg.nil _,by omega,by simp [val]⟩
theorem SubAt.step {a b:List Int} {i c:Nat} {o:List Int} (h:SubAt a b i c o) {x y:Nat} (hx:a.getD i 0=x) (hy:b.getD i 0=y) (hx1:x < 4294967296) (hy1:y < 4294967296) :
  SubAt a b (i+1) (if x < y+c then 1 else 0) (o ++ [(((x+4294967296 - y - c) % 4294967296:Nat):Int)]):=by
 have hc:=h.c1
 refine ⟨by simp [h.len],h.dg.app (Dg.one (by omega) (by omega)),by split <;> omega,?_⟩
 rw [Zb8,Zb8,Zdt,h.len,Zfg,hx,hy,h.law]
 generalize pw 4294967296 i=M at *
 obtain ⟨c',hc'⟩:∃ c':Nat,(if x < y+c then 1 else 0)=c':=⟨_,rfl⟩
 have e0:(((x+4294967296 - y - c) % 4294967296:Nat):Int)=(x:Int) - y - c+4294967296*c':=by
  rw [<- hc'];split <;> omega
 rw [hc',e0]
 have e:M*((x:Int) - y - c+4294967296*c')=M*x - M*y - M*c+4294967296*(M*c'):=by rw [Int.mul_add,Int.mul_sub,Int.mul_sub,Int.mul_left_comm M 4294967296]
 have e2:4294967296*M*(c':Int)=4294967296*(M*c'):=Int.mul_assoc _ _ _
 omega
theorem SubAt.done {a b:List Int} {c:Nat} {o:List Int} (h:SubAt a b a.length c o) (ha:Dg 4294967296 a) (hb:Dg 4294967296 b) (hl:b.length<=a.length) (hle:num b<=num a) (hz:a.length<=1000000):Tells (fun k=>Zad.f k o) (limbs (num a - num b)):=by
 have hlen:=h.len
 refine Zef h.dg ?_ (by omega)
 have hlaw:=h.law
 rw [List.take_length,List.take_of_length_le hl,<- Zdh ha,<- Zdh hb] at hlaw
 have h2:=Zfs (b:=4294967296) (by omega) h.dg
 rw [h.len] at h2
 have hp:=Zf6 (b:=4294967296) (by omega) a.length
 have hc0:c=0:=by
  have := h.c1
  rcases Nat.eq_zero_or_pos c with h0|h0
  ·exact h0
  ·obtain rfl:c=1:=by omega
   omega
 rw [hc0] at hlaw
 omega
theorem Zqj {a b:List Int} (ha:Dg 4294967296 a) (hb:Dg 4294967296 b) (la:a.length<=1000000) (lb:b.length<=a.length) (hle:num b<=num a):∀ (d i c:Nat) (o:List Int),a.length - i=d->i<=a.length->SubAt a b i c o ->
  Tells (fun k=>Zbo.l0 k b o (c:Int) a (a.length:Int) (i:Int)) (limbs (num a - num b))
 | 0,i,c,o,hd,hi,h=>by
  obtain rfl:i=a.length:=by omega
  refine Tells.succ ?_
  simp only [Zbo.l0]
  exact Tells.ifn (Int.lt_irrefl _) ((h.done ha hb lb hle la).bind (Tells.pure _))
 | d+1,i,c,o,hd,hi,h=>by
  obtain ⟨x,hx,hx1⟩:=dgL ha i
  obtain ⟨y,hy,hy1⟩:=dgL hb i
  have ih:=Zqj ha hb la lb hle d (i+1) _ _ (by omega) (by omega) (h.step hx hy hx1 hy1)
  have hlen:=h.len
  have c1:(i:Int) < (a.length:Int):=by omega
  have c2:(0:Int)<=(i:Int):=by omega
  have c3:o.length < 35184372088832:=by omega
  refine Tells.succ ?_
  simp only [Zbo.l0]
  rw [rd_n,rd_n,hx,hy,w64s (by omega),Sub32 x y c hx1 hy1 h.c1]
  refine Tells.ifp c1 (Tells.ifp c2 (Tells.ifp c1 ?_))
  by_cases hb2:i < b.length
  ·exact Tells.ifp (by omega) ((Tells.pure _).bind (Tells.ifp c3 ih))
  ·have e3:y=0:=by have := Zfl (l:=b) (i:=i) (by omega);omega
   rw [e3] at ih
   have e4:=Sub32 x 0 c hx1 (by omega) h.c1
   refine Tells.ifn (by omega) ?_
   rw [show (0:Int)=((0:Nat):Int) from rfl,e4]
   exact (Tells.pure _).bind (Tells.ifp c3 ih)
theorem Zmj {a b:List Int} (ha:Dg 4294967296 a) (hb:Dg 4294967296 b) (hn:Nz b) (h:num b<=num a):b.length<=a.length:=by
 refine Nat.not_lt.1 (fun hlt=>?_)
 have := Zej (b:=4294967296) (by omega) ha hb hn hlt
 rw [<- Zdh ha,<- Zdh hb] at this
 omega
theorem Zov {a b:List Int} (ha:Dg 4294967296 a) (hb:Dg 4294967296 b) (hn:Nz b) (la:a.length<=1000000) (hle:num b<=num a):Tells (fun k=>Zbo.f k a b) (limbs (num a - num b)):=by
 have h1:=Zqj ha hb la (Zmj ha hb hn hle) hle a.length 0 0 [] (by omega) (by omega) (SubAt.start a b)
 unfold Zbo.f
 rw [Int.toNat_natCast]
 exact Tells.ifp (by omega) (Tells.ifp (by omega) h1)
structure MulAt (a b:List Int) (i k c:Nat) (ds:List Int):Prop where
 len:ds.length=a.length+b.length
 dg:Dg 4294967296 ds
 c1:c < 4294967296
 hi:∀ j,i+b.length<=j->ds.getD j 0=0
 law:val 4294967296 ds+pw 4294967296 (i+k)*c=val 4294967296 (a.take i)*val 4294967296 b+pw 4294967296 i*(a.getD i 0*val 4294967296 (b.take k))
theorem MulAt.start (a b:List Int):MulAt a b 0 0 0 (List.replicate (a.length+b.length) 0) :=
 ⟨by simp,Dg.zeros (by omega) _,by omega,fun j _=>by simp [List.getD,List.getElem?_replicate];split <;> rfl,by simp [val,Zgb]⟩
theorem Znu {b:Int} {l:List Int} (h:Dg b l) (j:Nat) {x:Int} (h0:0<=x) (h1:x < b):Dg b (l.set j x):=fun y hy=>by
 rcases List.mem_or_eq_of_mem_set hy with hy|rfl
 ·exact h y hy
 ·exact ⟨h0,h1⟩
theorem Zoj {x y u c:Nat} (hx:x < 4294967296) (hy:y < 4294967296) (hu:u < 4294967296) (hc:c < 4294967296):x*y+u+c < 18446744073709551616:=by
 have := Nat.mul_le_mul (show x<=4294967295 by omega) (show y<=4294967295 by omega)
 omega
theorem MulAt.step {a b ds:List Int} {i k c:Nat} (h:MulAt a b i k c ds) {x y u:Nat} (hx:a.getD i 0=x) (hy:b.getD k 0=y) (hu:ds.getD (i+k) 0=u) (hx1:x < 4294967296) (hy1:y < 4294967296) (hu1:u < 4294967296) (hi:i < a.length) (hk:k < b.length) :
  MulAt a b i (k+1) ((x*y+u+c) / 4294967296) (ds.set (i+k) (((x*y+u+c) % 4294967296:Nat):Int)):=by
 have hs:=Zoj hx1 hy1 hu1 h.c1
 have hlt:i+k < ds.length:=by rw [h.len];omega
 refine ⟨by rw [List.length_set];exact h.len,Znu h.dg _ (by omega) (by omega),by omega,fun j hj=>?_,?_⟩
 ·rw [getD_set_ne _ (by omega)];exact h.hi j hj
 ·rw [Zgv _ hlt,Zb8,<- Nat.add_assoc,Zfg,hu,hy]
  have hl:=h.law
  rw [Int.mul_add (a.getD i 0),Int.mul_add (pw 4294967296 i),<- Int.add_assoc,<- hl,Zlx,hx]
  have e1:pw 4294967296 i*((x:Int)*(pw 4294967296 k*(y:Int)))=pw 4294967296 i*pw 4294967296 k*((x:Int)*y):=by
   rw [Int.mul_left_comm (x:Int),Int.mul_assoc]
  rw [e1]
  generalize pw 4294967296 i*pw 4294967296 k=M
  obtain ⟨p,hp⟩:∃ p,x*y=p:=⟨_,rfl⟩
  have hp':(x:Int)*(y:Int)=(p:Int):=by rw [<- hp];exact (Int.natCast_mul x y).symm
  rw [hp,hp']
  have e2:M*((((p+u+c) % 4294967296:Nat):Int) - u)+4294967296*M*(((p+u+c) / 4294967296:Nat):Int)=M*c+M*p:=by
   rw [Int.mul_comm 4294967296 M,Int.mul_assoc,<- Int.mul_add,<- Int.mul_add]
   congr 1;omega
  omega
theorem MulAt.next {a b ds:List Int} {i c:Nat} (h:MulAt a b i b.length c ds) (hi:i < a.length):MulAt a b (i+1) 0 0 (ds.set (i+b.length) (c:Int)):=by
 have hc:=h.c1
 have hlt:i+b.length < ds.length:=by rw [h.len];omega
 refine ⟨by rw [List.length_set];exact h.len,Znu h.dg _ (by omega) (by omega),by omega,fun j hj=>?_,?_⟩
 ·rw [getD_set_ne _ (by omega)];exact h.hi j (by omega)
 ·have hl:=h.law
  rw [List.take_length] at hl
  rw [Zgv _ hlt,h.hi _ (Nat.le_refl _),Zb8,Int.add_mul,Int.mul_assoc]
  have e0:((0:Nat):Int)=0:=rfl
  simp only [e0,Int.sub_zero,List.take_zero,Zgu,Int.mul_zero,Int.add_zero]
  exact hl
theorem Zqc {a b:List Int} {i:Nat} {V:List Int} (ha:Dg 4294967296 a) (hb:Dg 4294967296 b) (la:a.length<=1000000) (lb:b.length<=1000000) (hi:i < a.length)
  (hcont:∀ ds,MulAt a b (i+1) 0 0 ds->Tells (fun k=>Zak.l0 k b ds a (a.length:Int) ((i+1:Nat):Int)) V) :
  ∀ (e kk c:Nat) (ds:List Int),b.length - kk=e->kk<=b.length->MulAt a b i kk c ds->Tells (fun kf=>Zak.l1 kf b ds (i:Int) (a.getD i 0) (c:Int) a (a.length:Int) (i:Int) b (b.length:Int) (kk:Int)) V
 | 0,kk,c,ds,he,hkk,h=>by
  obtain rfl:kk=b.length:=by omega
  have hc:=h.c1
  have hlen:=h.len
  have c1:((i+b.length:Nat):Int) < (ds.length:Int):=by omega
  have c0:(0:Int)<=((i+b.length:Nat):Int):=by omega
  have e3:(c:Int) % 4294967296=(c:Int):=by omega
  refine Tells.succ ?_
  simp only [Zak.l1]
  rw [w64p (by omega),w64s (i:=i) (by omega),e3,Int.toNat_natCast]
  exact Tells.ifn (Int.lt_irrefl _) (Tells.ifp c0 (Tells.ifp c1 (hcont _ (h.next hi))))
 | e+1,kk,c,ds,he,hkk,h=>by
  have hkl:kk < b.length:=by omega
  obtain ⟨x,hx,hx1⟩:=dgL ha i
  obtain ⟨y,hy,hy1⟩:=dgL hb kk
  obtain ⟨u,hu,hu1⟩:=dgL h.dg (i+kk)
  have hs:=Zoj hx1 hy1 hu1 h.c1
  have hc:=h.c1
  have hlen:=h.len
  have ih:=Zqc ha hb la lb hi hcont e (kk+1) _ _ (by omega) (by omega) (h.step hx hy hu hx1 hy1 hu1 hi hkl)
  rw [hx] at ih ⊢
  obtain ⟨p,hp⟩:∃ p,x*y=p:=⟨_,rfl⟩
  rw [hp] at hs ih
  have c0:(kk:Int) < (b.length:Int):=by omega
  have c1:(0:Int)<=(kk:Int):=by omega
  have c2:(0:Int)<=((i+kk:Nat):Int):=by omega
  have c3:((i+kk:Nat):Int) < (ds.length:Int):=by omega
  refine Tells.succ ?_
  simp only [Zak.l1]
  rw [w64p (by omega),w64s (by omega),Int.toNat_natCast,rd_n,rd_n,hy,hu,u64n (m:=x) (by omega),u64n (m:=y) (by omega),u64n (m:=u) (by omega),u64k hp (by omega),u64p (by omega),u64p (by omega),emod32,ediv32]
  exact Tells.ifp c0 (Tells.ifp c1 (Tells.ifp c0 (Tells.ifp c2 (Tells.ifp c3 ih))))
theorem Zqb {a b:List Int} (ha:Dg 4294967296 a) (hb:Dg 4294967296 b) (la:a.length<=1000000) (lb:b.length<=1000000) :
  ∀ (d i:Nat) (ds:List Int),a.length - i=d->i<=a.length->MulAt a b i 0 0 ds->Tells (fun k=>Zak.l0 k b ds a (a.length:Int) (i:Int)) (limbs (num a*num b))
 | 0,i,ds,hd,hi,h=>by
  obtain rfl:i=a.length:=by omega
  have hlen:=h.len
  have hl:=h.law
  rw [List.take_length] at hl
  simp only [List.take_zero,Zgu,Int.mul_zero,Int.add_zero] at hl
  have hT:=Zef (n:=num a*num b) h.dg (by
   rw [Int.natCast_mul,Zdh ha,Zdh hb,<- hl];simp) (by omega)
  refine Tells.succ ?_
  simp only [Zak.l0]
  exact Tells.ifn (Int.lt_irrefl _) (hT.bind (Tells.pure _))
 | d+1,i,ds,hd,hi,h=>by
  have hil:i < a.length:=by omega
  have c0:(i:Int) < (a.length:Int):=by omega
  have c1:(0:Int)<=(i:Int):=by omega
  have hh:=Zqc ha hb la lb hil (fun ds' h2=>Zqb ha hb la lb d (i+1) ds' (by omega) (by omega) h2) b.length 0 0 ds (by omega) (by omega) h
  refine Tells.succ ?_
  simp only [Zak.l0]
  rw [rd_n]
  exact Tells.ifp c0 (Tells.ifp c1 (Tells.ifp c0 hh))
theorem Zn3 {a b:List Int} (ha:Dg 4294967296 a) (hb:Dg 4294967296 b) (la:a.length<=1000000) (lb:b.length<=1000000):Tells (fun k=>Zak.f k a b) (limbs (num a*num b)):=by
 have h:=Zqb ha hb la lb a.length 0 _ (by omega) (by omega) (MulAt.start a b)
 unfold Zak.f
 rw [w64p (by omega),Int.toNat_natCast]
 exact Tells.ifp (by omega) (Tells.ifp (by omega) h)
end YtjbjkmccfocikaaGreatDoor.P
end
section
namespace YtjbjkmccfocikaaGreatDoor.B
open Go.RowKit YtjbjkmccfocikaaGreatDoorW.PrintWords YtjbjkmccfocikaaGreatDoorW.PrintLast YtjbjkmccfocikaaGreatDoorW.PrintMore
attribute [local go_sem] Zb3 Zb5 Zcp Zcq Zbs Zbt Zb4 Zb6
def Zbq.f (l0:List Int):Option (Int):=if (l0.length:Int) > 256 then (some 5) else (if (l0.length:Int) > 0 then (if 0<=(wrap64 ((l0.length:Int) - 1)) then (if (wrap64 ((l0.length:Int) - 1)) < (l0.length:Int) then (if (rd l0 (wrap64 ((l0.length:Int) - 1)))=0 then (some 9) else (some 0)) else (none)) else (none)) else (some 0))
theorem Zbq.calls (A0:Option Addr) (c0:Nat) (l0:List Int) (r:Int) (w:World) (hr0:Kd.C (Kd.int .u32) w A0 l0.length l0) (hc0:l0.length<=c0) (h:Zbq.f l0=some r) :
  Calls Tryz.prog 108 #[.slice A0 l0.length c0] w fun e w'=>e=.returned (.int .i64 r)/\Drawn0 w w':=by
 have HR0:=am hr0
 have HC0:=am hc0
 clear hr0 hc0
 have H:(if (l0.length:Int) > 256 then (some 5) else (if (l0.length:Int) > 0 then (if 0<=(wrap64 ((l0.length:Int) - 1)) then (if (wrap64 ((l0.length:Int) - 1)) < (l0.length:Int) then (if (rd l0 (wrap64 ((l0.length:Int) - 1)))=0 then (some 9) else (some 0)) else (none)) else (none)) else (some 0)))=some r:=h
 clear h
 by_cases c2:(l0.length:Int) > 256
 ·rw [if_pos c2] at H
  have c2b0:decide (256 < (l0.length:Int))=true:=decide_eq_true c2
  have c2b1:decide (256 < l0.length)=true:=decide_eq_true (by omega)
  clear c2
  obtain rfl:=Option.some.inj H
  go_enter Tryz.func108,Tryz.ntmps108
  go_wp2
  go_ret
  exact ⟨pR,pD⟩
 ·rw [if_neg c2] at H
  have c2b0:decide (256 < (l0.length:Int))=false:=decide_eq_false c2
  have c2b1:decide (256 < l0.length)=false:=decide_eq_false (by omega)
  clear c2
  by_cases c3:(l0.length:Int) > 0
  ·rw [if_pos c3] at H
   have c3b0:decide (0 < (l0.length:Int))=true:=decide_eq_true c3
   have c3b1:decide (0 < l0.length)=true:=decide_eq_true (by omega)
   clear c3
   obtain ⟨ji4,hji4⟩:∃ j_:Int,(wrap64 ((l0.length:Int) - 1))=j_:=⟨_,rfl⟩
   replace H:(if 0<=(ji4) then (if (ji4) < (l0.length:Int) then (if (rd l0 (ji4))=0 then (some 9) else (some 0)) else (none)) else (none))=some r:=by first|(rw [hji4] at H;exact H)|(simp only [hji4] at H ⊢;exact H)
   have hji4w:(IntKind.i64.wrap ((l0.length:Int) - 1))=ji4:=(Zc5 _).trans hji4
   replace H:=dI H
   rcases H with ⟨c5b0,H⟩|⟨_,H⟩
   ·replace H:=dI H
    rcases H with ⟨c6b0,H⟩|⟨_,H⟩
    ·replace H:=eI H
     rcases H with ⟨c7b0,c7b1,H⟩|⟨c7,c7b0,c7b1,H⟩
     ·obtain rfl:=Option.some.inj H
      have qa:0<=((ji4):Int):=of_decide_eq_true pQ
      have qb:(ji4) < (l0.length:Int):=of_decide_eq_true pQ
      obtain ⟨qe,qd,qc⟩:=Kd.Zbi HR0.o (ji4) qa qb
      cases qd
      replace qa:=eq_true qa
      replace qb:=eq_true qb
      go_enter Tryz.func108,Tryz.ntmps108
      go_wp2
      go_ret
      exact ⟨by first|rfl|(simp;done)|(simp only [<- hji4] <;> (first|rfl|simp))|(simp [*];done),pD⟩
     ·obtain rfl:=Option.some.inj H
      have qa:0<=((ji4):Int):=of_decide_eq_true pQ
      have qb:(ji4) < (l0.length:Int):=of_decide_eq_true pQ
      obtain ⟨qe,qd,qc⟩:=Kd.Zbi HR0.o (ji4) qa qb
      cases qd
      replace qa:=eq_true qa
      replace qb:=eq_true qb
      go_enter Tryz.func108,Tryz.ntmps108
      go_wp2
      go_ret
      exact ⟨by first|rfl|(simp;done)|(simp only [<- hji4] <;> (first|rfl|simp))|(simp [*];done),pD⟩
    ·cases H
   ·cases H
  ·rw [if_neg c3] at H
   have c3b0:decide (0 < (l0.length:Int))=false:=decide_eq_false c3
   have c3b1:decide (0 < l0.length)=false:=decide_eq_false (by omega)
   clear c3
   obtain rfl:=Option.some.inj H
   go_enter Tryz.func108,Tryz.ntmps108
   go_wp2
   go_ret
   exact ⟨pR,pD⟩
def Zbx.l0:Nat->Int->List Int->Int->Int->Option (Int)
 | 0,_,_,_,_=>none
 | k+1,x3,x6,x7,x8=>if x8 < x7 then (if 0<=x8 then (if x8 < (x6.length:Int) then (if (rd x6 x8)=x3 then (Zbx.l0 k x3 x6 x7 (wrap64 (x8+1))) else (some (rd x6 x8))) else (none)) else (none)) else (some x3)
def Zbx.f (k:Nat) (l0:List Int):Option (Int):=Zbx.l0 k 0 l0 (l0.length:Int) 0
theorem Zbx.calls (k:Nat) (A0:Option Addr) (c0:Nat) (l0:List Int) (r:Int) (w:World) (hr0:Kd.C (Kd.int .i64) w A0 l0.length l0) (hc0:l0.length<=c0) (h:Zbx.f k l0=some r) :
  Calls Tryz.prog 137 #[.slice A0 l0.length c0] w fun e w'=>e=.returned (.int .i64 r)/\Drawn0 w w':=by
 have HR0:=am hr0
 have HC0:=am hc0
 clear hr0 hc0
 have H:(Zbx.l0 k 0 l0 (l0.length:Int) 0)=some r:=h
 clear h
 have H':=am H
 clear H
 go_enter Tryz.func137,Tryz.ntmps137
 go_wp2
 go_loopg [8] k (fun kq v8 w' => ∃ (x8_1:Int),v8=.int .i64 x8_1/\Aside0 (Zbx.l0 kq 0 l0 (l0.length:Int) x8_1=some r)/\Aside0 (kq<=k)/\Drawn0 w w')
 case atStart=>exact ⟨(0),pR,H',⟨Nat.le_refl _⟩,pD⟩
 case round =>
  clear H'
  obtain ⟨x8_1,rfl,HA,HK1,⟨m1,rfl⟩⟩:=hrel
  cases gk with
  | zero=>exact absurd HA.out (by simp [Zbx.l0])
  | succ k1 =>
   have H:=HA.out
   clear HA
   simp only [Zbx.l0] at H
   replace H:=dI H
   rcases H with ⟨c2b0,H⟩|⟨c2b0,H⟩
   ·replace H:=dI H
    rcases H with ⟨c3b0,H⟩|⟨_,H⟩
    ·replace H:=dI H
     rcases H with ⟨c4b0,H⟩|⟨_,H⟩
     ·replace H:=eI H
      rcases H with ⟨c5b0,c5b1,H⟩|⟨c5,c5b0,c5b1,H⟩
      ·have H':=am H
       clear H
       have qa:0<=(x8_1:Int):=of_decide_eq_true pQ
       have qb:x8_1 < (l0.length:Int):=of_decide_eq_true pQ
       obtain ⟨qe,qd,qc⟩:=Kd.Zbi HR0.o x8_1 qa qb
       cases qd
       replace qa:=eq_true qa
       replace qb:=eq_true qb
       go_wp2
       go_roundg k1
       case measure=>exact pM
       case rel=>exact ⟨(wrap64 (x8_1+1)),pR,H',pJ,pD⟩
      ·obtain rfl:=Option.some.inj H
       have qa:0<=(x8_1:Int):=of_decide_eq_true pQ
       have qb:x8_1 < (l0.length:Int):=of_decide_eq_true pQ
       obtain ⟨qe,qd,qc⟩:=Kd.Zbi HR0.o x8_1 qa qb
       cases qd
       replace qa:=eq_true qa
       replace qb:=eq_true qb
       go_wp2
       go_ret
       exact ⟨pR,pD⟩
     ·cases H
    ·cases H
   ·obtain rfl:=Option.some.inj H
    go_wp2
    go_ret
    exact ⟨pR,pD⟩
def Zc0.f (k:Nat) (l0:List Int) (l1:List Int):Option (Int):=(Zbq.f l0).bind fun qa=>((Zbq.f l1).bind fun qb=>((Zbx.f k (([qa,qb]:List Int))).bind fun qc=>(some qc)))
theorem Zc0.calls (k:Nat) (A0:Option Addr) (c0:Nat) (l0:List Int) (A1:Option Addr) (c1:Nat) (l1:List Int) (r:Int) (w:World) (hr0:Kd.C (Kd.int .u32) w A0 l0.length l0) (hc0:l0.length<=c0) (hr1:Kd.C (Kd.int .u32) w A1 l1.length l1) (hc1:l1.length<=c1) (h:Zc0.f k l0 l1=some r) :
  Calls Tryz.prog 126 #[.slice A0 l0.length c0,.slice A1 l1.length c1] w fun e w'=>e=.returned (.int .i64 r)/\Below w.heap.size w w':=by
 have HR0:=am hr0
 have HC0:=am hc0
 clear hr0 hc0
 have HR1:=am hr1
 have HC1:=am hc1
 clear hr1 hc1
 have HB:=am (Below.refl w.heap.size w)
 have H:((Zbq.f l0).bind fun qa=>((Zbq.f l1).bind fun qb=>((Zbx.f k (([qa,qb]:List Int))).bind fun qc=>(some qc))))=some r:=h
 clear h
 obtain ⟨qa,A3,H⟩:=ob H
 obtain ⟨qb,A4,H⟩:=ob H
 obtain ⟨qg,qe⟩:∃ y_:List Int,y_=(([qa,qb]:List Int)):=⟨_,rfl⟩
 replace H:((Zbx.f k qg).bind fun qc=>(some qc))=some r:=by have hy_:=qe;exact pH
 have qf:=am qe
 clear qe
 obtain ⟨qc,A5,H⟩:=ob H
 obtain rfl:=Option.some.inj H
 go_enter Tryz.func126,Tryz.ntmps126
 go_wp2_with (first|(refine gL (some 6) Tryz.func108 #[.slice A0 l0.length c0] (h:=?_);(with_reducible refine (Zbq.calls _ _ l0 qa _ ?side1 ?side2 A3.o).mono ?_);(case side1=>refine cp ?_;exact HR0.o);(case side2=>exact HC0.o);rintro e w' ⟨rfl,⟨nd,rfl⟩⟩;refine ⟨_,rfl,?_⟩)|(refine gL (some 8) Tryz.func108 #[.slice A1 l1.length c1] (h:=?_);(with_reducible refine (Zbq.calls _ _ l1 qb _ ?side1 ?side2 A4.o).mono ?_);(case side1=>refine cp ?_;exact HR1.o);(case side2=>exact HC1.o);rintro e w' ⟨rfl,⟨nd,rfl⟩⟩;refine ⟨_,rfl,?_⟩)|((with_reducible refine gd 9 ?_);refine Kd.Zgi (Kd.int .i64) _ 32 ?hg (N:=9) ?hd (xs:=([qa,qb]:List Int)) (inner:=[.int .i64 qa,.int .i64 qb]) (ok:=fun _=>True) (okp:=fun _=>True) ?hr ?hp (fun _ hk=>hk) trivial (Below.refl _ _) (Nat.le_refl _) (by simp) ?_;(case hd=>rfl);(case hg=>rfl);(case hr=>first|(go_simp;done)|(go_simp;rfl));(case hp=>exact (Reps.one (show Kd.M (Kd.int .i64) _ _ _ qa [.int .i64 qa] from rfl) (Reps.one (show Kd.M (Kd.int .i64) _ _ _ qb [.int .i64 qb] from rfl) (Reps.none _ _))));intro qh w6 ho7 hb hg_ hnew_;clear hg_ hnew_;(first|rw [<- qf.out] at ho7|(simp only [Int.reduceToNat] at ho7;rw [<- qf.out] at ho7));have qd:=am (Kd.Zt ho7 (Zb pB));replace HB:=bS hb;clear hb ho7;obtain ⟨Ao8,co8,eo8⟩:=Kd.Zm qd.o;subst eo8)|(refine gL (some 10) Tryz.func137 #[.slice Ao8 qg.length co8] (h:=?_);(with_reducible refine (Zbx.calls k _ _ qg qc _ ?side1 ?side2 A5.o).mono ?_);(case side1=>exact Kd.Zv (Kd.Zf qd.o).2.2 pl);(case side2=>exact (Kd.Zf qd.o).2.1);rintro e w' ⟨rfl,⟨nd,rfl⟩⟩;refine ⟨_,rfl,?_⟩))
 go_ret
 exact ⟨pE,pB⟩
def cmp_isNaN_int.f (a0:Int):Option (Bool):=some (a0 != a0)
theorem cmp_isNaN_int.calls (a0:Int) (r:Bool) (w:World) (h:cmp_isNaN_int.f a0=some r) :
  Calls Tryz.prog 186 #[.int .i64 a0] w fun e w'=>e=.returned (.bool r)/\Drawn0 w w':=by
 have H:(some (a0 != a0))=some r:=h
 clear h
 obtain rfl:=Option.some.inj H
 go_enter Tryz.func186,Tryz.ntmps186
 go_wp2
 go_ret
 exact ⟨pR,pD⟩
def cmp_Compare_int.f (a0:Int) (a1:Int):Option (Int):=(cmp_isNaN_int.f a0).bind fun qb=>((cmp_isNaN_int.f a1).bind fun qa=>(if qb=true then (if qa=true then (some 0) else (some (-1))) else (if qa=true then (some 1) else (if a0 < a1 then (some (-1)) else (if a0 > a1 then (some 1) else (some 0))))))
theorem cmp_Compare_int.calls (a0:Int) (a1:Int) (r:Int) (w:World) (h:cmp_Compare_int.f a0 a1=some r) :
  Calls Tryz.prog 165 #[.int .i64 a0,.int .i64 a1] w fun e w'=>e=.returned (.int .i64 r)/\Drawn0 w w':=by
 have H:((cmp_isNaN_int.f a0).bind fun qb=>((cmp_isNaN_int.f a1).bind fun qa=>(if qb=true then (if qa=true then (some 0) else (some (-1))) else (if qa=true then (some 1) else (if a0 < a1 then (some (-1)) else (if a0 > a1 then (some 1) else (some 0)))))))=some r:=h
 clear h
 replace H:=ob H
 obtain ⟨qb,A3,H⟩:=H
 replace H:=ob H
 obtain ⟨qa,A4,H⟩:=H
 replace H:=tI (t:=qb) H
 rcases H with ⟨rfl,H⟩|⟨rfl,H⟩
 ·replace H:=tI (t:=qa) H
  rcases H with ⟨rfl,H⟩|⟨rfl,H⟩
  ·obtain rfl:=Option.some.inj H
   go_enter Tryz.func165,Tryz.ntmps165
   go_wp2_with (first|(refine gL (some 8) Tryz.func186 #[.int .i64 a0] (h:=?_);(with_reducible refine (cmp_isNaN_int.calls a0 true _ A3.o).mono ?_);rintro e w' ⟨rfl,⟨nd,rfl⟩⟩;refine ⟨_,rfl,?_⟩)|(refine gL (some 10) Tryz.func186 #[.int .i64 a1] (h:=?_);(with_reducible refine (cmp_isNaN_int.calls a1 true _ A4.o).mono ?_);rintro e w' ⟨rfl,⟨nd,rfl⟩⟩;refine ⟨_,rfl,?_⟩))
   go_ret
   exact ⟨pR,pD⟩
  ·obtain rfl:=Option.some.inj H
   go_enter Tryz.func165,Tryz.ntmps165
   go_wp2_with (first|(refine gL (some 8) Tryz.func186 #[.int .i64 a0] (h:=?_);(with_reducible refine (cmp_isNaN_int.calls a0 true _ A3.o).mono ?_);rintro e w' ⟨rfl,⟨nd,rfl⟩⟩;refine ⟨_,rfl,?_⟩)|(refine gL (some 10) Tryz.func186 #[.int .i64 a1] (h:=?_);(with_reducible refine (cmp_isNaN_int.calls a1 false _ A4.o).mono ?_);rintro e w' ⟨rfl,⟨nd,rfl⟩⟩;refine ⟨_,rfl,?_⟩))
   go_ret
   exact ⟨pR,pD⟩
 ·replace H:=tI (t:=qa) H
  rcases H with ⟨rfl,H⟩|⟨rfl,H⟩
  ·obtain rfl:=Option.some.inj H
   go_enter Tryz.func165,Tryz.ntmps165
   go_wp2_with (first|(refine gL (some 8) Tryz.func186 #[.int .i64 a0] (h:=?_);(with_reducible refine (cmp_isNaN_int.calls a0 false _ A3.o).mono ?_);rintro e w' ⟨rfl,⟨nd,rfl⟩⟩;refine ⟨_,rfl,?_⟩)|(refine gL (some 10) Tryz.func186 #[.int .i64 a1] (h:=?_);(with_reducible refine (cmp_isNaN_int.calls a1 true _ A4.o).mono ?_);rintro e w' ⟨rfl,⟨nd,rfl⟩⟩;refine ⟨_,rfl,?_⟩))
   go_ret
   exact ⟨pR,pD⟩
  ·replace H:=dI H
   rcases H with ⟨c8b0,H⟩|⟨c8b0,H⟩
   ·obtain rfl:=Option.some.inj H
    go_enter Tryz.func165,Tryz.ntmps165
    go_wp2_with (first|(refine gL (some 8) Tryz.func186 #[.int .i64 a0] (h:=?_);(with_reducible refine (cmp_isNaN_int.calls a0 false _ A3.o).mono ?_);rintro e w' ⟨rfl,⟨nd,rfl⟩⟩;refine ⟨_,rfl,?_⟩)|(refine gL (some 10) Tryz.func186 #[.int .i64 a1] (h:=?_);(with_reducible refine (cmp_isNaN_int.calls a1 false _ A4.o).mono ?_);rintro e w' ⟨rfl,⟨nd,rfl⟩⟩;refine ⟨_,rfl,?_⟩))
    go_ret
    exact ⟨pR,pD⟩
   ·replace H:=gI H
    rcases H with ⟨c9b0,H⟩|⟨c9b0,H⟩
    ·obtain rfl:=Option.some.inj H
     go_enter Tryz.func165,Tryz.ntmps165
     go_wp2_with (first|(refine gL (some 8) Tryz.func186 #[.int .i64 a0] (h:=?_);(with_reducible refine (cmp_isNaN_int.calls a0 false _ A3.o).mono ?_);rintro e w' ⟨rfl,⟨nd,rfl⟩⟩;refine ⟨_,rfl,?_⟩)|(refine gL (some 10) Tryz.func186 #[.int .i64 a1] (h:=?_);(with_reducible refine (cmp_isNaN_int.calls a1 false _ A4.o).mono ?_);rintro e w' ⟨rfl,⟨nd,rfl⟩⟩;refine ⟨_,rfl,?_⟩))
     go_ret
     exact ⟨pR,pD⟩
    ·obtain rfl:=Option.some.inj H
     go_enter Tryz.func165,Tryz.ntmps165
     go_wp2_with (first|(refine gL (some 8) Tryz.func186 #[.int .i64 a0] (h:=?_);(with_reducible refine (cmp_isNaN_int.calls a0 false _ A3.o).mono ?_);rintro e w' ⟨rfl,⟨nd,rfl⟩⟩;refine ⟨_,rfl,?_⟩)|(refine gL (some 10) Tryz.func186 #[.int .i64 a1] (h:=?_);(with_reducible refine (cmp_isNaN_int.calls a1 false _ A4.o).mono ?_);rintro e w' ⟨rfl,⟨nd,rfl⟩⟩;refine ⟨_,rfl,?_⟩))
     go_ret
     exact ⟨pR,pD⟩
def Za2.f (a0:Int):Option (Bool):=some (a0 != a0)
theorem Za2.calls (a0:Int) (r:Bool) (w:World) (h:Za2.f a0=some r) :
  Calls Tryz.prog 187 #[.int .u32 a0] w fun e w'=>e=.returned (.bool r)/\Drawn0 w w':=by
 have H:(some (a0 != a0))=some r:=h
 clear h
 obtain rfl:=Option.some.inj H
 go_enter Tryz.func187,Tryz.ntmps187
 go_wp2
 go_ret
 exact ⟨pR,pD⟩
def Zc4.f (a0:Int) (a1:Int):Option (Int):=(Za2.f a0).bind fun qb=>((Za2.f a1).bind fun qa=>(if qb=true then (if qa=true then (some 0) else (some (-1))) else (if qa=true then (some 1) else (if a0 < a1 then (some (-1)) else (if a0 > a1 then (some 1) else (some 0))))))
theorem Zc4.calls (a0:Int) (a1:Int) (r:Int) (w:World) (h:Zc4.f a0 a1=some r) :
  Calls Tryz.prog 166 #[.int .u32 a0,.int .u32 a1] w fun e w'=>e=.returned (.int .i64 r)/\Drawn0 w w':=by
 have H:((Za2.f a0).bind fun qb=>((Za2.f a1).bind fun qa=>(if qb=true then (if qa=true then (some 0) else (some (-1))) else (if qa=true then (some 1) else (if a0 < a1 then (some (-1)) else (if a0 > a1 then (some 1) else (some 0)))))))=some r:=h
 clear h
 replace H:=ob H
 obtain ⟨qb,A3,H⟩:=H
 replace H:=ob H
 obtain ⟨qa,A4,H⟩:=H
 replace H:=tI (t:=qb) H
 rcases H with ⟨rfl,H⟩|⟨rfl,H⟩
 ·replace H:=tI (t:=qa) H
  rcases H with ⟨rfl,H⟩|⟨rfl,H⟩
  ·obtain rfl:=Option.some.inj H
   go_enter Tryz.func166,Tryz.ntmps166
   go_wp2_with (first|(refine gL (some 8) Tryz.func187 #[.int .u32 a0] (h:=?_);(with_reducible refine (Za2.calls a0 true _ A3.o).mono ?_);rintro e w' ⟨rfl,⟨nd,rfl⟩⟩;refine ⟨_,rfl,?_⟩)|(refine gL (some 10) Tryz.func187 #[.int .u32 a1] (h:=?_);(with_reducible refine (Za2.calls a1 true _ A4.o).mono ?_);rintro e w' ⟨rfl,⟨nd,rfl⟩⟩;refine ⟨_,rfl,?_⟩))
   go_ret
   exact ⟨pR,pD⟩
  ·obtain rfl:=Option.some.inj H
   go_enter Tryz.func166,Tryz.ntmps166
   go_wp2_with (first|(refine gL (some 8) Tryz.func187 #[.int .u32 a0] (h:=?_);(with_reducible refine (Za2.calls a0 true _ A3.o).mono ?_);rintro e w' ⟨rfl,⟨nd,rfl⟩⟩;refine ⟨_,rfl,?_⟩)|(refine gL (some 10) Tryz.func187 #[.int .u32 a1] (h:=?_);(with_reducible refine (Za2.calls a1 false _ A4.o).mono ?_);rintro e w' ⟨rfl,⟨nd,rfl⟩⟩;refine ⟨_,rfl,?_⟩))
   go_ret
   exact ⟨pR,pD⟩
 ·replace H:=tI (t:=qa) H
  rcases H with ⟨rfl,H⟩|⟨rfl,H⟩
  ·obtain rfl:=Option.some.inj H
   go_enter Tryz.func166,Tryz.ntmps166
   go_wp2_with (first|(refine gL (some 8) Tryz.func187 #[.int .u32 a0] (h:=?_);(with_reducible refine (Za2.calls a0 false _ A3.o).mono ?_);rintro e w' ⟨rfl,⟨nd,rfl⟩⟩;refine ⟨_,rfl,?_⟩)|(refine gL (some 10) Tryz.func187 #[.int .u32 a1] (h:=?_);(with_reducible refine (Za2.calls a1 true _ A4.o).mono ?_);rintro e w' ⟨rfl,⟨nd,rfl⟩⟩;refine ⟨_,rfl,?_⟩))
   go_ret
   exact ⟨pR,pD⟩
  ·replace H:=dI H
   rcases H with ⟨c8b0,H⟩|⟨c8b0,H⟩
   ·obtain rfl:=Option.some.inj H
    go_enter Tryz.func166,Tryz.ntmps166
    go_wp2_with (first|(refine gL (some 8) Tryz.func187 #[.int .u32 a0] (h:=?_);(with_reducible refine (Za2.calls a0 false _ A3.o).mono ?_);rintro e w' ⟨rfl,⟨nd,rfl⟩⟩;refine ⟨_,rfl,?_⟩)|(refine gL (some 10) Tryz.func187 #[.int .u32 a1] (h:=?_);(with_reducible refine (Za2.calls a1 false _ A4.o).mono ?_);rintro e w' ⟨rfl,⟨nd,rfl⟩⟩;refine ⟨_,rfl,?_⟩))
    go_ret
    exact ⟨pR,pD⟩
   ·replace H:=gI H
    rcases H with ⟨c9b0,H⟩|⟨c9b0,H⟩
    ·obtain rfl:=Option.some.inj H
     go_enter Tryz.func166,Tryz.ntmps166
     go_wp2_with (first|(refine gL (some 8) Tryz.func187 #[.int .u32 a0] (h:=?_);(with_reducible refine (Za2.calls a0 false _ A3.o).mono ?_);rintro e w' ⟨rfl,⟨nd,rfl⟩⟩;refine ⟨_,rfl,?_⟩)|(refine gL (some 10) Tryz.func187 #[.int .u32 a1] (h:=?_);(with_reducible refine (Za2.calls a1 false _ A4.o).mono ?_);rintro e w' ⟨rfl,⟨nd,rfl⟩⟩;refine ⟨_,rfl,?_⟩))
     go_ret
     exact ⟨pR,pD⟩
    ·obtain rfl:=Option.some.inj H
     go_enter Tryz.func166,Tryz.ntmps166
     go_wp2_with (first|(refine gL (some 8) Tryz.func187 #[.int .u32 a0] (h:=?_);(with_reducible refine (Za2.calls a0 false _ A3.o).mono ?_);rintro e w' ⟨rfl,⟨nd,rfl⟩⟩;refine ⟨_,rfl,?_⟩)|(refine gL (some 10) Tryz.func187 #[.int .u32 a1] (h:=?_);(with_reducible refine (Za2.calls a1 false _ A4.o).mono ?_);rintro e w' ⟨rfl,⟨nd,rfl⟩⟩;refine ⟨_,rfl,?_⟩))
     go_ret
     exact ⟨pR,pD⟩
end YtjbjkmccfocikaaGreatDoor.B
end
section
namespace YtjbjkmccfocikaaGreatDoor.B
open Go.RowKit Go.Shelf YtjbjkmccfocikaaGreatDoorW.PrintWords YtjbjkmccfocikaaGreatDoor.P.Nm
attribute [local go_sem] Oper.semAt_some
def cmpI (x y:Int):Int:=if x < y then -1 else if y < x then 1 else 0
theorem Zhg (x:Int):cmpI x x=0:=by simp [cmpI]
theorem Zqy (x y:Int):cmp_Compare_int.f x y=some (cmpI x y):=by
 unfold cmp_Compare_int.f cmp_isNaN_int.f cmpI
 simp
 split
 ·rfl
 ·split <;> rfl
theorem Zq0 (x y:Int):Zc4.f x y=some (cmpI x y):=by
 unfold Zc4.f Za2.f cmpI
 simp
 split
 ·rfl
 ·split <;> rfl
theorem Zli {i:Nat} {a b:List Int} (ha:Dg 4294967296 a) (hb:Dg 4294967296 b) (hl:a.length=b.length) (hi:i < a.length) (hd:a.drop (i+1)=b.drop (i+1)) (h:a.getD i 0 < b.getD i 0):val 4294967296 a < val 4294967296 b:=by
 have e:∀ (l:List Int),i < l.length->val 4294967296 l=val 4294967296 (l.take i)+pw 4294967296 i*(l.getD i 0+4294967296*val 4294967296 (l.drop (i+1))):=fun l hl=>by
  conv=>lhs;rw [<- List.take_append_drop i l,List.drop_eq_getElem_cons hl]
  rw [Zgt,Zc8,List.length_take,Nat.min_eq_left (by omega)]
  simp [List.getD,List.getElem?_eq_getElem hl]
 rw [e a hi,e b (by omega),hd]
 have h1:=Zfs (b:=4294967296) (by omega) (ha.take i)
 have h2:=Zcw (b:=4294967296) (by omega) (hb.take i)
 rw [List.length_take,Nat.min_eq_left (by omega)] at h1
 have hp:=Zf6 (b:=4294967296) (by omega) i
 obtain ⟨T,hT⟩:∃ T,4294967296*val 4294967296 (b.drop (i+1))=T:=⟨_,rfl⟩
 rw [hT]
 have h3:=Int.mul_le_mul_of_nonneg_left (show a.getD i 0+T+1<=b.getD i 0+T by omega) (Int.le_of_lt hp)
 rw [Int.mul_add] at h3
 omega
theorem Zpf {a b:List Int} (hl:a.length=b.length) (h:∀ i,i < a.length->a.getD i 0=b.getD i 0):a=b:=by
 apply List.ext_getElem hl
 intro i h1 h2
 have := h i h1
 simpa [List.getD,List.getElem?_eq_getElem h1,List.getElem?_eq_getElem h2] using this
theorem Zpe {a b:List Int} {k:Nat} (hl:a.length=b.length) (h:∀ i,k<=i->i < a.length->a.getD i 0=b.getD i 0):a.drop k=b.drop k:=by
 apply List.ext_getElem (by simp [hl])
 intro i h1 h2
 rw [List.length_drop] at h1 h2
 have := h (k+i) (by omega) (by omega)
 simpa [List.getD,List.getElem?_eq_getElem (show k+i < a.length by omega),List.getElem?_eq_getElem (show k+i < b.length by omega)] using this
theorem Zr1 {i:Nat} {a b:List Int} (ha:Dg 4294967296 a) (hb:Dg 4294967296 b) (hl:a.length=b.length) (hi:i < a.length) (hd:∀ j,i+1<=j->j < a.length->a.getD j 0=b.getD j 0) (h:a.getD i 0 ≠ b.getD i 0):cmpI (a.getD i 0) (b.getD i 0)=cmpI (num a) (num b):=by
 have hd':=Zpe hl hd
 rw [Zdh ha,Zdh hb]
 unfold cmpI
 rcases Int.lt_trichotomy (a.getD i 0) (b.getD i 0) with h1|h1|h1
 ·have := Zli ha hb hl hi hd' h1
  rw [if_pos h1,if_pos this]
 ·exact absurd h1 h
 ·have := Zli hb ha hl.symm (by omega) hd'.symm h1
  rw [if_neg (by omega),if_pos h1,if_neg (by omega),if_pos this]
theorem Zqz {a b:List Int} (ha:Dg 4294967296 a) (hb:Dg 4294967296 b) (na:Nz a) (nb:Nz b) (h:a.length ≠ b.length):cmpI a.length b.length=cmpI (num a) (num b):=by
 rw [Zdh ha,Zdh hb]
 unfold cmpI
 rcases Nat.lt_trichotomy a.length b.length with h1|h1|h1
 ·have := Zej (b:=4294967296) (by omega) ha hb nb h1
  rw [if_pos (by omega),if_pos this]
 ·exact absurd h1 h
 ·have := Zej (b:=4294967296) (by omega) hb ha na h1
  rw [if_neg (by omega),if_pos (by omega),if_neg (by omega),if_pos this]
theorem Zg7 {w:World} {A:Option Addr} {l:List Int} (h:Kd.C (Kd.int .u32) w A l.length l):RdW A l.length (fun j x=>x=l.getD j 0) w:=by
 have hR:ReadsOf (Value.int .u32) 0 w A l.length l:=Kd.Zfo h
 rcases Nat.eq_zero_or_pos l.length with h0|h0
 ·exact .inl h0
 ·obtain ⟨ad,rfl,hc⟩:=hR.2.2 h0
  obtain ⟨b,o,rfl⟩:=Zi0 (show w.cell? ad=_ from hc 0 h0)
  refine .inr ⟨b,o,rfl,fun j hj=>⟨_,?_,rfl⟩⟩
  have := hc j hj
  rwa [Zrz] at this
structure CmpI (w:World) (A0 A1:Option Addr) (m c0 c1:Nat) (l0 l1:List Int) (pre:List (Nat × Int)) (W:World):Prop where
 a:Boxed W w.heap.size 134 (.slice A0 m c0)
 b:Boxed W (w.heap.size+1) 134 (.slice A1 m c1)
 r:Boxed W (w.heap.size+1+1) 3 (.int .i64 0)
 s:∃ u,Boxed W (w.heap.size+1+1+1) 134 u
 low:Below w.heap.size w W
 same:∀ x ∈ pre,l0.getD x.1 0=l1.getD x.1 0
structure CmpX (w:World) (R:Int) (c:Code) (pre:List (Nat × Int)) (W:World):Prop where
 c:c=.ret
 r:Boxed W (w.heap.size+1+1) 3 (.int .i64 R)
 low:Below w.heap.size w W
theorem not_row {A:World} {row:Option Nat} {n:Nat} (hr:∀ r,row=some r->n<=r /\ ∃ o:Obj,A.heap[r]? = some o/\o.isCells=false) {k t:Nat} {u:Value} (hk:Boxed A k t u):some k ≠ row:=fun e=>by
 obtain ⟨_,o,ho,hc⟩:=hr k e.symm
 rw [show A.heap[k]? = _ from hk] at ho
 obtain rfl:=Option.some.inj ho
 cases hc
theorem CmpI.own {w:World} {A0 A1:Option Addr} {m c0 c1:Nat} {l0 l1:List Int} {n:Nat} (hn:w.heap.size<=n):OwnFrom n (CmpI w A0 A1 m c0 c1 l0 l1):=by
 rintro pre A W row ⟨a,b,r,⟨u,s⟩,hb,hs⟩ hg hr
 exact ⟨a.kept hg (not_row hr a),b.kept hg (not_row hr b),r.kept hg (not_row hr r),⟨u,s.kept hg (not_row hr s)⟩,(ownFrom_below (Nat.le_refl _) hn:OwnFrom _ (fun _:List (Nat × Int)=>Below w.heap.size w)) pre A W row hb hg hr,hs⟩
theorem CmpX.own {w:World} {R:Int} {n:Nat} (hn:w.heap.size<=n) (c:Code):OwnFrom n (CmpX w R c):=by
 rintro pre A W row ⟨hc,r,hb⟩ hg hr
 exact ⟨hc,r.kept hg (not_row hr r),(ownFrom_below (Nat.le_refl _) hn:OwnFrom _ (fun _:List (Nat × Int)=>Below w.heap.size w)) pre A W row hb hg hr⟩
theorem CmpI.minds {w:World} {A0 A1:Option Addr} {m c0 c1:Nat} {l0 l1:List Int}:Minds (w.heap.size+1+1+1) (CmpI w A0 A1 m c0 c1 l0 l1):=by
 rintro pre W u ⟨a,b,r,⟨v,s⟩,hb,hs⟩
 exact ⟨(Zck W _ u _ (by omega)).trans a,(Zck W _ u _ (by omega)).trans b,(Zck W _ u _ (by omega)).trans r,⟨u,s.set u⟩,hb.setCell (p:=⟨w.heap.size+1+1+1,0,none⟩) (by simp;omega) u,hs⟩
theorem Zks (A0:Option Addr) (c0:Nat) (l0:List Int) (A1:Option Addr) (c1:Nat) (l1:List Int) (w:World) (hr0:Kd.C (Kd.int .u32) w A0 l0.length l0) (hc0:l0.length<=c0) (hr1:Kd.C (Kd.int .u32) w A1 l1.length l1) (hc1:l1.length<=c1)
  (hd0:Dg 4294967296 l0) (hd1:Dg 4294967296 l1) (hn0:Nz l0) (hn1:Nz l1) (hz0:l0.length<=1000000) (hz1:l1.length<=1000000) :
  Calls Tryz.prog 138 #[.slice A0 l0.length c0,.slice A1 l1.length c1] w fun e w'=>e=.returned (.int .i64 (cmpI (num l0) (num l1)))/\Below w.heap.size w w':=by
 have cI:=fun W:World=>cmp_Compare_int.calls l0.length l1.length _ W (Zqy _ _)
 obtain ⟨R,hR⟩:∃ R,cmpI (num l0) (num l1)=R:=⟨_,rfl⟩
 have HRes:=Lib.hid hR
 rw [hR]
 clear hR
 refine (callsIn_wide (n:=4)).1 ?_
 refine callsIn_of_wp_marks Tryz.func138 rfl trivial ?_ rfl
 simp only [Tryz.ntmps138,List.size_toArray,List.length_cons,List.length_nil,Nat.reduceAdd,Nat.reduceSub,Array.replicate_succ,Array.replicate_zero,List.push_toArray,List.append_toArray,List.nil_append,List.cons_append]
 have e0:=Zg7 hr0
 have e1:=Zg7 hr1
 have E0:=Lib.hid e0
 have E1:=Lib.hid e1
 clear e0 e1 hr0 hr1
 obtain ⟨q,hq⟩:∃ q,cmpI l0.length l1.length=q:=⟨_,rfl⟩
 rw [hq] at cI
 have HQ:=Lib.hid hq
 clear hq
 by_cases hlen:l0.length=l1.length
 ·have hq0:q=0:=by rw [<- HQ.out,hlen,Zhg]
  subst hq0
  obtain ⟨m,hm⟩:∃ m,l0.length=m:=⟨_,rfl⟩
  have hm1:l1.length=m:=by omega
  rw [hm] at E0 hz0 hc0 cI ⊢
  rw [hm1] at E1 hz1 hc1 cI ⊢
  have HM:=Lib.hid hm
  have HM1:=Lib.hid hm1
  clear hm hm1 hlen
  gi_wp2_with (first|(refine ⟨trivial,?_⟩;gi_at_call 165;refine (callsIn_wide.2 (cI _)).mono ?_;rintro e w' ⟨rfl,nq,rfl⟩)|(refine ⟨trivial,?_⟩;gi_at_call 158;refine (Znm _ _ _ _ _).mono ?_;rintro e w' ⟨rfl,rfl⟩))
  have bA:=(Zpd (((Boxed.new w 134 (.slice A0 m c0)).alloc (.cells #[.slice A1 m c1] 134)).alloc (.cells #[.int .i64 0] 3)) nq).alloc (.cells #[.slice A0 m c0] 134)
  have bB:=(Zpd ((Boxed.new (w.alloc (.cells #[.slice A0 m c0] 134)) 134 (.slice A1 m c1)).alloc (.cells #[.int .i64 0] 3)) nq).alloc (.cells #[.slice A0 m c0] 134)
  have bR:=(Zpd (Boxed.new ((w.alloc (.cells #[.slice A0 m c0] 134)).alloc (.cells #[.slice A1 m c1] 134)) 3 (.int .i64 0)) nq).alloc (.cells #[.slice A0 m c0] 134)
  have bS:=Boxed.new ((((w.alloc (.cells #[.slice A0 m c0] 134)).alloc (.cells #[.slice A1 m c1] 134)).alloc (.cells #[.int .i64 0] 3)).drewN nq) 134 (.slice A0 m c0)
  have hB0:Below w.heap.size w (((((w.alloc (.cells #[.slice A0 m c0] 134)).alloc (.cells #[.slice A1 m c1] 134)).alloc (.cells #[.int .i64 0] 3)).drewN nq).alloc (.cells #[.slice A0 m c0] 134)) :=
   (Zbv ((((Below.refl _ w).alloc (Nat.le_refl _) _).alloc (by simp) _).alloc (by simp;omega) _) nq).alloc (by simp;omega) _
  simp only [World.size_alloc,Zk1] at bB bR bS
  have hle:c0=c0:=rfl
  obtain ⟨B,hB⟩:∃ B,w.heap.size=B:=⟨_,rfl⟩
  rw [hB] at bA bB bR bS ⊢
  refine Zdw (b:=B+1+1+1) rfl (by decide) (gf:=184) (lb:=#[.pointer (some ⟨B+1+1+1,0,none⟩)]) rfl trivial (enters_of Tryz.func184 (by kernel_rfl) rfl)
   (Zie 3 (by omega) (B+1+1+1) A0 m c0 (fun j x=>x=l0.getD j 0) (by omega) _ bS (E0.out.below hB0)) (by simp [Zk1];omega) (fun h k=>h.trans k)
   (fun W l o o' hl ho hc hw=>KpB.put (by simp [Zk1] at hl;omega) ho hc) (Below.refl _ _) (fun _=>rfl)
   (CmpI w A0 A1 m c0 c1 l0 l1) (CmpX w R) (CmpI.own (by simp [Zk1];omega)) (CmpX.own (by simp [Zk1];omega)) (by rw [<- hB];exact CmpI.minds) ?start
   (fun x=>{ tmps:=#[.slice A0 m c0,.slice A1 m c1,.pointer (some ⟨B,0,none⟩),.pointer (some ⟨B+1,0,none⟩),.pointer (some ⟨B+1+1,0,none⟩),.int .i64 0,.int .i64 x.1,undef,.slice A0 m c0,.int .i64 m,.slice A1 m c1,.int .i64 m,.int .i64 0,.int .i64 0,.bool false,undef,.slice A0 m c0,
    .func (.func 184) #[] #[.pointer (some ⟨B+1+1+1,0,none⟩)],.int .i64 x.1,.int .u32 x.2,undef,undef,undef,undef,undef,undef,undef,undef,undef,undef,undef,undef],defers:=[] }) ?assign ?body ?done ?stop
  case start=>exact ⟨by rw [hB];exact bA,by rw [hB];exact bB,by rw [hB];exact bR,⟨_,by rw [hB];exact bS⟩,hB0,fun x h=>by cases h⟩
  case assign =>
   intro l x W K hK
   gi_wp2
   exact hK
  case body =>
   rintro l pre x W ⟨a,b,r,⟨u,s⟩,hb,hs⟩ hlen hsp
   obtain ⟨hx1,hx2⟩:=hsp.2 pre.length x (by simp)
   obtain ⟨i,y⟩:=x
   simp only at hx1 hx2
   have hi:i < m:=by omega
   obtain ⟨b0,o0,x0,hA0,hc0',hx0⟩:=(E0.out.below hb).at hi
   obtain ⟨b1,o1,x1,hA1,hc1',hx1'⟩:=(E1.out.below hb).at hi
   subst hA0 hA1
   rw [hB] at a b r s
   have ha:=a.cell
   have hbc:=b.cell
   have hi0:(0:Int)<=(i:Int):=by omega
   have hi1:(i:Int) < (m:Int):=by omega
   have cU:=fun W:World=>Zc4.calls x0 x1 _ W (Zq0 _ _)
   obtain ⟨q,hq⟩:∃ q,cmpI x0 x1=q:=⟨_,rfl⟩
   rw [hq] at cU
   have HQx:=Lib.hid hq
   have HX0:=Lib.hid hx0
   have HX1:=Lib.hid hx1'
   have HRb:=Lib.hid r
   have HSb:=Lib.hid s
   have HAb:=Lib.hid a
   have HBb:=Lib.hid b
   have HB:=Lib.hid hb
   have HS:=Lib.hid hs
   have HI:=Lib.hid hx1
   have HP:=Lib.hid (show BkP (fun j x=>x=l0.getD j 0) m (pre ++ [(i,y)]) from hsp)
   have hrc:=r.cell
   have hrf:=r.frozen
   clear hq hx0 hx1' r s a b hb hs hx1 hx2 hsp
   by_cases hq0:q=0
   ·subst hq0
    gi_wp2
    rename_i K hK
    refine Ze6 (by kernel_rfl) (by kernel_rfl) (fun h=>by obtain ⟨_,_,h⟩:=h;exact h) (by kernel_rfl) ?_
    repeat (go_big_quiet_step ((go_at_call 166;exact Zhh (cU _))))
    refine wpQuiet_nil ?_
    rintro _ ⟨nq2,rfl⟩
    refine hK _ _ ?_
    gi_wp2
    have hxx:x0=x1:=by
     have := HQx.out;unfold cmpI at this
     split at this
     ·cases this
     ·split at this
      ·cases this
      ·omega
    exact ⟨⟨Nat.le_refl _,fun k o _ h _=>h⟩,⟨rfl,fun h=>h⟩,⟨by rw [hB];exact HAb.out,by rw [hB];exact HBb.out,by rw [hB];exact HRb.out,⟨u,by rw [hB];exact HSb.out⟩,Zbv HB.out nq2,fun z hz=>by
     rcases List.mem_append.1 hz with h|h
     ·exact HS.out z h
     ·rw [List.mem_singleton.1 h];exact HX0.out.symm.trans (hxx.trans HX1.out)⟩⟩
   ·have hqt:(q != 0)=true:=by rw [bne_iff_ne];exact hq0
    clear hq0
    gi_wp2
    rename_i K hK
    refine Ze6 (by kernel_rfl) (by kernel_rfl) (fun h=>by obtain ⟨_,_,h⟩:=h;exact h) (by kernel_rfl) ?_
    repeat (go_big_quiet_step ((go_at_call 166;exact Zhh (cU _))))
    refine wpQuiet_nil ?_
    rintro _ ⟨nq2,rfl⟩
    refine hK _ _ ?_
    gi_wp2
    have hne:x0 ≠ x1:=fun e=>by
     have := HQx.out;rw [e,Zhg] at this
     rw [<- this] at hqt;cases hqt
    have hqR:q=R:=by
     rw [<- HQx.out,<- HRes.out,HX0.out,HX1.out]
     refine Zr1 hd0 hd1 (by have := HM.out;have := HM1.out;omega) (by have := HM.out;omega) (fun j hj hj2=>?_) (by rw [<- HX0.out,<- HX1.out];exact hne)
     have hjm:j < m:=by have := HM.out;omega
     have hk:m - 1 - j < pre.length:=by have := HI.out;omega
     have h2:=HP.out.2 (m - 1 - j) (pre[m - 1 - j]'hk) (by rw [List.getElem?_append_left hk];exact List.getElem?_eq_getElem hk)
     have h3:=HS.out _ (List.getElem_mem hk)
     rw [h2.1,show m - 1 - (m - 1 - j)=j by omega] at h3
     exact h3
    subst hqR
    refine ⟨(KeepsOthers.trans (A:=W) (B:=W.drewN nq2) ⟨Nat.le_refl _,fun k o h _=>h⟩ (KeepsOthers.setCell (W.drewN nq2) _ _)).from _,⟨rfl,?_,?_⟩⟩
    ·rw [hB];exact Boxed.set _ HRb.out
    ·exact (Zbv HB.out nq2).setCell (p:=⟨B+1+1,0,none⟩) (by simp;omega) _
  case done =>
   rintro D ys W hD ⟨hp,hpl⟩ ⟨a,b,r,_,hb,hs⟩ hK
   have hR0:R=0:=by
    rw [<- HRes.out,Zpf (a:=l0) (b:=l1) (by have := HM.out;have := HM1.out;omega) (fun i hi=>by
     have him:i < m:=by have := HM.out;omega
     have hk:m - 1 - i < ys.length:=by omega
     have h2:=hp.2 (m - 1 - i) (ys[m - 1 - i]'hk) (List.getElem?_eq_getElem hk)
     have h3:=hs _ (List.getElem_mem hk)
     rw [h2.1,show m - 1 - (m - 1 - i)=i by omega] at h3
     exact h3),Zhg]
   subst hR0
   rw [hB] at r
   have hrc:=r.cell
   have hrf:=r.frozen
   have HRb:=Lib.hid r
   have HB:=Lib.hid hb
   have HK:=Lib.hid hK
   clear hp hpl a b r hb hs hK
   gi_wp2
   have hK':=(KeepsOthers.setCell W ⟨B+1+1,0,none⟩ (.int .i64 0)).same D _ HK.out rfl
   refine ⟨by simp,.inl ⟨_,_,rfl,run_takeDeferred hK',?_⟩⟩
   have hc5:=cell_kept (Boxed.set (.int .i64 0) HRb.out).cell (grownBy_putObj' _ D (.deferred none)) (fun r e=>by cases e;exact ⟨_,hK',rfl⟩)
   exact ⟨.int .i64 0,by simp [results,Tryz.f138,go_sem,hc5],rfl,hB ▸ ((HB.out.setCell (p:=⟨w.heap.size+1+1,0,none⟩) (by simp;omega) _).trans (belowK_b (w:=w) (Nat.le_refl _) _ D _ _ (by simp [Zk1] at hD;omega) (by rw [hB];exact hK') rfl rfl))⟩
  case stop =>
   rintro D c pre W hD hpre ⟨rfl,r,hb⟩ hK
   rw [hB] at r
   gi_wp2
   refine ⟨by simp,.inl ⟨_,_,rfl,run_takeDeferred hK,?_⟩⟩
   have hc5:=cell_kept r.cell (grownBy_putObj' _ D (.deferred none)) (fun r e=>by cases e;exact ⟨_,hK,rfl⟩)
   exact ⟨.int .i64 R,by simp [results,Tryz.f138,go_sem,hc5],rfl,hB ▸ (hb.trans (belowK_b (w:=w) (Nat.le_refl _) W D _ _ (by simp [Zk1] at hD;omega) hK rfl rfl))⟩
 ·have hq0:(q != 0)=true:=by
   rw [bne_iff_ne];intro e;subst e
   have := HQ.out;unfold cmpI at this;split at this
   ·cases this
   ·split at this
    ·cases this
    ·omega
  have hqR:q=R:=by rw [<- HQ.out,<- HRes.out];exact Zqz hd0 hd1 hn0 hn1 hlen
  subst hqR
  clear hlen
  gi_wp2_with (refine ⟨trivial,?_⟩;gi_at_call 165;refine (callsIn_wide.2 (cI _)).mono ?_;rintro e w' ⟨rfl,nq,rfl⟩)
  have hbx:=Zpd (Boxed.new ((w.alloc (.cells #[.slice A0 l0.length c0] 134)).alloc (.cells #[.slice A1 l1.length c1] 134)) 3 (.int .i64 0)) nq
  simp only [World.size_alloc] at hbx
  have hc5:=(Boxed.set (.int .i64 q) hbx).cell
  exact ⟨.int .i64 q,by simp [results,Tryz.f138,go_sem,hc5],rfl,(Zbv ((((Below.refl _ w).alloc (Nat.le_refl _) _).alloc (by simp) _).alloc (by simp;omega) _) nq).setCell (p:=⟨w.heap.size+1+1,0,none⟩) (by simp;omega) _⟩
def Zbg.f (l0 l1:List Int):Option Int:=if okW l0 && okW l1 then some (cmpI (num l0) (num l1)) else none
theorem Zbg.calls (A0:Option Addr) (c0:Nat) (l0:List Int) (A1:Option Addr) (c1:Nat) (l1:List Int) (r:Int) (w:World) (hr0:Kd.C (Kd.int .u32) w A0 l0.length l0) (hc0:l0.length<=c0) (hr1:Kd.C (Kd.int .u32) w A1 l1.length l1) (hc1:l1.length<=c1) (h:Zbg.f l0 l1=some r) :
  Calls Tryz.prog 138 #[.slice A0 l0.length c0,.slice A1 l1.length c1] w fun e w'=>e=.returned (.int .i64 r)/\Below w.heap.size w w':=by
 unfold Zbg.f at h
 split at h
 case isFalse=>cases h
 case isTrue hk =>
 rw [Bool.and_eq_true,Zek,Zek] at hk
 obtain rfl:=Option.some.inj h
 exact Zks A0 c0 l0 A1 c1 l1 w hr0 hc0 hr1 hc1 hk.1.dg hk.2.dg hk.1.nz hk.2.nz hk.1.len hk.2.len
end YtjbjkmccfocikaaGreatDoor.B
end
section
namespace YtjbjkmccfocikaaGreatDoor.B
open Go.RowKit YtjbjkmccfocikaaGreatDoorW.PrintWords YtjbjkmccfocikaaGreatDoorW.PrintLast YtjbjkmccfocikaaGreatDoorW.PrintMore
attribute [local go_sem] Zb3 Zb5 Zcp Zcq Zbs Zbt Zb4 Zb6
def Zeb.f (k:Nat) (l0:List Int) (l1:List Int):Option (List Int × Int):=(Zc0.f k l0 l1).bind fun qa=>(if qa=0 then ((Zbg.f l0 l1).bind fun qb=>(if qb < 0 then (some (([]:List Int),4)) else ((Zbo.f k l0 l1).bind fun qc=>(some (qc,0))))) else (some (([]:List Int),qa)))
theorem Zeb.calls (k:Nat) (A0:Option Addr) (c0:Nat) (l0:List Int) (A1:Option Addr) (c1:Nat) (l1:List Int) (r1:List Int) (r2:Int) (w:World) (hr0:Kd.C (Kd.int .u32) w A0 l0.length l0) (hc0:l0.length<=c0) (hr1:Kd.C (Kd.int .u32) w A1 l1.length l1) (hc1:l1.length<=c1) (h:Zeb.f k l0 l1=some (r1,r2)) :
  Calls Tryz.prog 141 #[.slice A0 l0.length c0,.slice A1 l1.length c1] w fun e w' => ∃ v0_:Value,e=.returned (.tuple #[v0_,.int .i64 r2])/\Kd.R (Kd.int .u32) 85 w' w.heap.size (fun _=>True) v0_ r1/\Below w.heap.size w w':=by
 have HR0:=am hr0
 have HC0:=am hc0
 clear hr0 hc0
 have HR1:=am hr1
 have HC1:=am hc1
 clear hr1 hc1
 have HB:=am (Below.refl w.heap.size w)
 have H:((Zc0.f k l0 l1).bind fun qa=>(if qa=0 then ((Zbg.f l0 l1).bind fun qb=>(if qb < 0 then (some (([]:List Int),4)) else ((Zbo.f k l0 l1).bind fun qc=>(some (qc,0))))) else (some (([]:List Int),qa))))=some (r1,r2):=h
 clear h
 replace H:=ob H
 obtain ⟨qa,A3,H⟩:=H
 replace H:=eI H
 rcases H with ⟨c4b0,c4b1,H⟩|⟨c4,c4b0,c4b1,H⟩
 ·replace H:=ob H
  obtain ⟨qb,A5,H⟩:=H
  replace H:=dI H
  rcases H with ⟨c6b0,H⟩|⟨c6b0,H⟩
  ·simp only [Option.some.injEq,Prod.mk.injEq] at H
   obtain ⟨rfl,rfl⟩:=H
   go_enter Tryz.func141,Tryz.ntmps141
   go_wp2_with (first|(refine gL (some 9) Tryz.func126 #[.slice A0 l0.length c0,.slice A1 l1.length c1] (h:=?_);(with_reducible refine (Zc0.calls k _ _ l0 _ _ l1 qa _ ?side1 ?side2 ?side3 ?side4 A3.o).mono ?_);(case side1=>refine cp ?_;exact HR0.o);(case side2=>exact HC0.o);(case side3=>refine cp ?_;exact HR1.o);(case side4=>exact HC1.o);rintro e w7 ⟨rfl,hb⟩;refine ⟨_,rfl,?_⟩;replace HB:=bS hb)|(refine gL (some 15) Tryz.func138 #[.slice A0 l0.length c0,.slice A1 l1.length c1] (h:=?_);(with_reducible refine (Zbg.calls _ _ l0 _ _ l1 qb _ ?side1 ?side2 ?side3 ?side4 A5.o).mono ?_);(case side1=>exact cB HR0 HB);(case side2=>exact HC0.o);(case side3=>exact cB HR1 HB);(case side4=>exact HC1.o);rintro e w8 ⟨rfl,hb⟩;refine ⟨_,rfl,?_⟩;replace HB:=bS hb))
   go_ret2
   exact ⟨_,pE,pN,pB⟩
  ·replace H:=ob H
   obtain ⟨qc,A9,H⟩:=H
   simp only [Option.some.injEq,Prod.mk.injEq] at H
   obtain ⟨rfl,rfl⟩:=H
   go_enter Tryz.func141,Tryz.ntmps141
   go_wp2_with (first|(refine gL (some 9) Tryz.func126 #[.slice A0 l0.length c0,.slice A1 l1.length c1] (h:=?_);(with_reducible refine (Zc0.calls k _ _ l0 _ _ l1 qa _ ?side1 ?side2 ?side3 ?side4 A3.o).mono ?_);(case side1=>refine cp ?_;exact HR0.o);(case side2=>exact HC0.o);(case side3=>refine cp ?_;exact HR1.o);(case side4=>exact HC1.o);rintro e w10 ⟨rfl,hb⟩;refine ⟨_,rfl,?_⟩;replace HB:=bS hb)|(refine gL (some 15) Tryz.func138 #[.slice A0 l0.length c0,.slice A1 l1.length c1] (h:=?_);(with_reducible refine (Zbg.calls _ _ l0 _ _ l1 qb _ ?side1 ?side2 ?side3 ?side4 A5.o).mono ?_);(case side1=>exact cB HR0 HB);(case side2=>exact HC0.o);(case side3=>exact cB HR1 HB);(case side4=>exact HC1.o);rintro e w11 ⟨rfl,hb⟩;refine ⟨_,rfl,?_⟩;replace HB:=bS hb)|(refine gL (some 19) Tryz.func168 #[.slice A0 l0.length c0,.slice A1 l1.length c1] (h:=?_);(with_reducible refine (Zbo.calls k _ _ l0 _ _ l1 qc _ ?side1 ?side2 ?side3 ?side4 A9.o).mono ?_);(case side1=>exact cB HR0 HB);(case side2=>exact HC0.o);(case side3=>exact cB HR1 HB);(case side4=>exact HC1.o);rintro e w12 ⟨qe,rfl,ho0,hb⟩;refine ⟨_,rfl,?_⟩;have qd:=am (Kd.Zt ho0 (Zb pB));replace HB:=bS hb))
   go_ret2
   exact ⟨_,pE,by refine rp ?_;exact qd.o,pB⟩
 ·simp only [Option.some.injEq,Prod.mk.injEq] at H
  obtain ⟨rfl,rfl⟩:=H
  go_enter Tryz.func141,Tryz.ntmps141
  go_wp2_with (first|(refine gL (some 9) Tryz.func126 #[.slice A0 l0.length c0,.slice A1 l1.length c1] (h:=?_);(with_reducible refine (Zc0.calls k _ _ l0 _ _ l1 qa _ ?side1 ?side2 ?side3 ?side4 A3.o).mono ?_);(case side1=>refine cp ?_;exact HR0.o);(case side2=>exact HC0.o);(case side3=>refine cp ?_;exact HR1.o);(case side4=>exact HC1.o);rintro e w13 ⟨rfl,hb⟩;refine ⟨_,rfl,?_⟩;replace HB:=bS hb))
  go_ret2
  exact ⟨_,pE,pN,pB⟩
def Zp.l0:Nat->List Int->Int->Int->Option (List Int)
 | 0,_,_,_=>none
 | k+1,x0,x2,x3=>if x2 < x3 then (if 0<=x3 then (if x3 < (x0.length:Int) then (if 0<=x2 then (if x2 < (x0.length:Int) then (Zp.l0 k ((x0.set (x2:Int).toNat (rd x0 x3)).set (x3:Int).toNat (rd x0 x2)) (wrap64 (x2+1)) (wrap64 (x3 - 1))) else (none)) else (none)) else (none)) else (none)) else (some x0)
def Zp.f (k:Nat) (l0:List Int):Option (List Int):=Zp.l0 k l0 0 (wrap64 ((l0.length:Int) - 1))
def Zp.T3:Bool × List (List Nat × List Nat):=(true,[([],[]),([],[]),([],[]),([],[]),([],[]),([],[]),([4,5],[4,5]),([6],[6]),([],[]),([],[]),([8,9],[8,9]),([10],[10]),([0,1,0,1,4,5,6,7,11],[0,1]),([12,7,0,1,4,5,6,7,11],[7,12]),([2,3,0,1,2,3,4,5,6,7,8,9,10,11,12,13],[2,3]),([14,11,13,0,1,2,3,4,5,6,7,8,9,10,11,12,13],[11,14])])
def Zp.B3:List Nat:=[0,0,0,0,0,0,48,112,0,0,768,1792,4083,8179,16383,32767]
theorem Zp.tab3:rtab .any (opsOf Tryz.f144 3)=Zp.T3:=by kernel_rfl
theorem Zp.bits3:waitsOk Zp.T3.2 Zp.B3=true:=by kernel_rfl
theorem Zp.calls (k:Nat) (P0_:Nat->Prop) (u9000_:Value) (l0:List Int) (r:List Int) (w0 w:World) (hB:Below w0.heap.size w0 w) (ho0:Kd.R (Kd.int .u8) 5 w w0.heap.size P0_ u9000_ l0) (h:Zp.f k l0=some r) :
  Calls Tryz.prog 144 #[u9000_] w fun e w'=>e=.returned (.tuple #[])/\Kd.R (Kd.int .u8) 5 w' w0.heap.size (fun k_=>(P0_ k_\/w.heap.size<=k_)) u9000_ r/\Below w0.heap.size w0 w'/\Kept w w' (fun k_=>P0_ k_):=by
 have HO0:=am (show Kd.R (Kd.int .u8) 5 w w0.heap.size (fun k_=>(P0_ k_\/w.heap.size<=k_)) u9000_ l0 from Kd.Zi ho0 (fun k_ hk=>(.inl hk)))
 have HK:=am (Kept.refl w (fun k_=>P0_ k_))
 have HW0:=am hB.size
 have HB:=am hB
 clear hB
 have H:(Zp.l0 k l0 0 (wrap64 ((l0.length:Int) - 1)))=some r:=h
 clear h
 have H':=am H
 clear H
 obtain ⟨Ao2,co2,eo2⟩:=Kd.Zm HO0.o
 subst eo2
 go_enter Tryz.func144,Tryz.ntmps144
 go_wp2
 go_loopg [2,3] k (fun kq v2 v3 w' => ∃ (x0_1:List Int) (x2_1:Int) (x3_1:Int),v2=.int .i64 x2_1/\v3=.int .i64 x3_1/\Aside0 (Zp.l0 kq x0_1 x2_1 x3_1=some r)/\Aside0 (kq<=k)/\Aside0 (Kd.R (Kd.int .u8) 5 w' w0.heap.size (fun k_=>(P0_ k_\/w.heap.size<=k_)) (.slice Ao2 l0.length co2) x0_1)/\Aside0 (Kept w w' (fun k_=>P0_ k_))/\Aside0 (Below w0.heap.size w0 w'))
 case atStart=>exact ⟨(l0),(0),(wrap64 ((l0.length:Int) - 1)),pR,pR,H',⟨Nat.le_refl _⟩,⟨by refine rp ?_;exact HO0.o⟩,⟨by repeat (first|(with_reducible first|exact HK.out|apply Kept.alloc|apply Kept.drewN|apply Kept.drew)|exact HK.out)⟩,⟨pB⟩⟩
 case round =>
  clear H'
  obtain ⟨x0_1,x2_1,x3_1,rfl,rfl,HA,HK1,HO_0,HK,HB⟩:=hrel
  have hl0_1:=(Kd.Zf HO_0.o).1
  rw [hl0_1] at HO_0
  (try simp only [hl0_1])
  cases gk with
  | zero=>exact absurd HA.out (by simp [Zp.l0])
  | succ k1 =>
   have H:=HA.out
   clear HA
   simp only [Zp.l0] at H
   replace H:=dI H
   rcases H with ⟨c3b0,H⟩|⟨c3b0,H⟩
   ·replace H:=dI H
    rcases H with ⟨c4b0,H⟩|⟨_,H⟩
    ·replace H:=dI H
     rcases H with ⟨c5b0,H⟩|⟨_,H⟩
     ·replace H:=dI H
      rcases H with ⟨c6b0,H⟩|⟨_,H⟩
      ·replace H:=dI H
       rcases H with ⟨c7b0,H⟩|⟨_,H⟩
       ·obtain ⟨qm,qc⟩:∃ y_:List Int,y_=(x0_1.set (x2_1:Int).toNat (rd x0_1 x3_1)):=⟨_,rfl⟩
        replace H:(Zp.l0 k1 (qm.set (x3_1:Int).toNat (rd x0_1 x2_1)) (wrap64 (x2_1+1)) (wrap64 (x3_1 - 1)))=some r:=by have hy_:=qc;exact pH
        have qi:=am qc
        clear qc
        obtain ⟨qn,qd⟩:∃ y_:List Int,y_=(qm.set (x3_1:Int).toNat (rd x0_1 x2_1)):=⟨_,rfl⟩
        replace H:(Zp.l0 k1 qn (wrap64 (x2_1+1)) (wrap64 (x3_1 - 1)))=some r:=by have hy_:=qd;exact pH
        have qj:=am qd
        clear qd
        have H':=am H
        clear H
        try go_wp2
        replace HO_0:=am (Kd.Zdz HO_0.o)
        replace HK:=am (Kept.drew HK.out)
        replace HB:=am (Zbe HB.o)
        have qe:0<=(x3_1:Int):=of_decide_eq_true pQ
        have qg:x3_1 < (x0_1.length:Int):=of_decide_eq_true pQ
        obtain ⟨qk,qo,qa⟩:=Kd.Zbi (Kd.Zf HO_0.o).2.2 x3_1 qe qg
        cases qo
        replace qe:=eq_true qe
        replace qg:=eq_true qg
        have qf:0<=(x2_1:Int):=of_decide_eq_true pQ
        have qh:x2_1 < (x0_1.length:Int):=of_decide_eq_true pQ
        obtain ⟨ql,qp,qb⟩:=Kd.Zbi (Kd.Zf HO_0.o).2.2 x2_1 qf qh
        obtain rfl:qk=ql:=(by injection qp)
        replace qf:=eq_true qf
        replace qh:=eq_true qh
        have p8:0<=(x2_1:Int):=of_decide_eq_true pQ
        have q8:(x2_1:Int) < ((x0_1.length:Int):Int):=of_decide_eq_true pQ
        obtain ⟨go8,co8,eo8,gb8,gl8,cl8,HG8⟩:=Kd.Zjj HO_0.o (by omega)
        (first|cases eo8|(injection eo8 with ea_ en_ ec_;(first|subst ea_|(injection ea_ with ea_;subst ea_));subst ec_;clear en_))
        have GB8:=am gb8
        have GG8:=am HG8
        clear gb8 gl8 HG8
        have HMgo8:=am (show (P0_ go8\/w.heap.size<=go8) from (HO_0.o.1 _ rfl))
        (first|simp only [add_plain] at qa|skip)
        (first|simp only [add_plain] at qb|skip)
        obtain ⟨hx8_0,hf8_0⟩:=Kd.Zgh 0 HO_0.o (x2_1:Int) p8 q8
        replace p8:=eq_true p8
        replace q8:=eq_true q8
        have HP11:=Kd.Zne HO_0.o (x2_1:Int) (rd x0_1 x3_1)
        rw [<- qi.out] at HP11
        have HQ11:=am HP11
        clear HP11
        have p9:0<=(x3_1:Int):=of_decide_eq_true pQ
        have q9:(x3_1:Int) < ((x0_1.length:Int):Int):=of_decide_eq_true pQ
        obtain ⟨hx9_0,hf9_0⟩:=Kd.Zgh 0 HQ11.out (x3_1:Int) p9 q9
        replace p9:=eq_true p9
        replace q9:=eq_true q9
        have HP12:=Kd.Zne HQ11.out (x3_1:Int) (rd x0_1 x2_1)
        rw [<- qj.out] at HP12
        have HQ12:=am HP12
        clear HP12
        refine start_ (n:=16) (S:=fun w'=>w'.cell? ⟨go8,(x3_1).toNat,none⟩=some (.int .u8 (rd x0_1 x3_1))/\w'.cell? ⟨go8,(x2_1).toNat,none⟩=some (.int .u8 (rd x0_1 x2_1))) (ds:=[13,15]) #[false,false,false,false,false,false,false,false,false,false,false,false,false,false,false,false] (by kernel_rfl) rfl rfl ⟨qa,qb⟩ (fun hHeld=>?_);refine Zch Zp.tab3 Zp.bits3 (fun HT_ HW_=>?_)
        generalize wr.drew=w10 at HO_0 HK HB GG8 HQ11 HQ12 hf8_0 hf9_0 qa qb hx8_0 hx9_0 hHeld ⊢
        refine pu 0 (some 14) #[true,false,false,false,false,false,false,false,false,false,false,false,false,false,false,false] (h:=?_)
        refine pu 1 (some 15) #[true,true,false,false,false,false,false,false,false,false,false,false,false,false,false,false] (h:=?_)
        refine pu 2 (some 16) #[true,true,true,false,false,false,false,false,false,false,false,false,false,false,false,false] (h:=?_)
        refine pu 3 (some 17) #[true,true,true,true,false,false,false,false,false,false,false,false,false,false,false,false] (h:=?_)
        refine pu 4 (some 18) #[true,true,true,true,true,false,false,false,false,false,false,false,false,false,false,false] (h:=?_)
        refine pu 5 (some 19) #[true,true,true,true,true,true,false,false,false,false,false,false,false,false,false,false] (h:=?_)
        refine pu 6 (some 20) #[true,true,true,true,true,true,true,false,false,false,false,false,false,false,false,false] (h:=?_)
        refine pu 8 (some 22) #[true,true,true,true,true,true,true,false,true,false,false,false,false,false,false,false] (h:=?_)
        refine pu 9 (some 23) #[true,true,true,true,true,true,true,false,true,true,false,false,false,false,false,false] (h:=?_)
        refine pu 10 (some 24) #[true,true,true,true,true,true,true,false,true,true,true,false,false,false,false,false] (h:=?_)
        refine take_ (i:=7) (N:=some 21) (v:=?_) (a':=?_) #[true,true,true,true,true,true,true,true,true,true,true,false,false,false,false,false] rfl rfl (Za3 HT_.out HW_.out (by kernel_rfl)) (fun _ _ _ h=>h) (Or.inl ⟨by rfl,?_⟩) hHeld ?_ ?_
        rotate_left
        ·rintro w' ⟨s0,s1⟩
         go_simp
         with_reducible rfl
        rotate_left
        ·exact pP
        refine take_ (i:=11) (N:=some 25) (v:=?_) (a':=?_) #[true,true,true,true,true,true,true,true,true,true,true,true,false,false,false,false] rfl rfl (Za3 HT_.out HW_.out (by kernel_rfl)) (fun _ _ _ h=>h) (Or.inl ⟨by rfl,?_⟩) hHeld ?_ ?_
        rotate_left
        ·rintro w' ⟨s0,s1⟩
         go_simp
         with_reducible rfl
        rotate_left
        ·exact pP
        refine pu 12 (some 26) #[true,true,true,true,true,true,true,true,true,true,true,true,true,false,false,false] (h:=?_)
        refine last_ (i:=13) (N:=none) #[true,true,true,true,true,true,true,true,true,true,true,true,true,true,false,false] rfl rfl (Za8 HT_.out (by kernel_rfl)) (by decide) (fun K hK=>?_)
        refine skip_ (w1:=?_) (by rfl) rfl ?_ ?_
        rotate_left
        ·go_simp
         rfl
        refine hK.out _ _ ?_
        clear hK K
        refine pu 14 (some 27) #[true,true,true,true,true,true,true,true,true,true,true,true,true,true,true,false] (h:=?_)
        refine last_ (i:=15) (N:=none) #[true,true,true,true,true,true,true,true,true,true,true,true,true,true,true,true] rfl rfl (Za8 HT_.out (by kernel_rfl)) (by decide) (fun K hK=>?_)
        refine skip_ (w1:=?_) (by rfl) rfl ?_ ?_
        rotate_left
        ·go_simp
         rfl
        refine hK.out _ _ ?_
        clear hK K
        refine done_ (Zdg HT_.out (by kernel_rfl)) ?_
        try go_wp2
        (try simp only [<- hl0_1])
        go_roundg k1
        case measure=>exact pM
        case rel=>exact ⟨(qn),(wrap64 (x2_1+1)),(wrap64 (x3_1 - 1)),pR,pR,H',pJ,⟨by (try simp only [hl0_1]);refine rp ?_;exact HQ12.out⟩,⟨by repeat (first|(with_reducible first|exact HK.out|apply Kept.alloc|apply Kept.drewN|apply Kept.drew|refine Kept.setCell ?_ HMgo8.out _|refine Kept.setCell ?_ HMgo8.out _)|exact HK.out)⟩,⟨by repeat (first|(with_reducible first|exact HB.o|apply Zcm|apply Zbv|apply Zbe|refine Zd1 ?_ GB8.out|refine Zd1 ?_ GB8.out)|exact HB.o)⟩⟩
       ·cases H
      ·cases H
     ·cases H
    ·cases H
   ·obtain rfl:=Option.some.inj H
    go_wp2
    first|go_end0|((try simp only [Exit.inBlock,Exit.then]);refine bodyPost_ret (results_none rfl _ _ _) rfl ?_)
    exact ⟨pE,(by first|exact (Kd.Zc HO_0.o pl)|(simp only [hl0_1];exact (Kd.Zc HO_0.o pl))),pB,by repeat (first|(with_reducible first|exact HK.out|apply Kept.alloc|apply Kept.drewN|apply Kept.drew)|exact HK.out)⟩
end YtjbjkmccfocikaaGreatDoor.B
end
end Go.Proofs
