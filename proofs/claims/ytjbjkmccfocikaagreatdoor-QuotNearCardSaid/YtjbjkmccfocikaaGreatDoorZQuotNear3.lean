/- QuotNear, part 4 of 8 of its proof (no condition); names with a low line are shortened throughout. -/
import Derived.Test.YtjbjkmccfocikaaGreatDoorZQuotNear2
set_option linter.unusedVariables false
set_option linter.unusedSimpArgs false
set_option maxRecDepth 100000
set_option maxHeartbeats 8000000
namespace Go.Proofs
section
namespace YtjbjkmccfocikaaGreatDoor.B
open Go.RowKit YtjbjkmccfocikaaGreatDoorW.PrintWords YtjbjkmccfocikaaGreatDoorW.PrintLast YtjbjkmccfocikaaGreatDoorW.PrintMore
attribute [local go_sem] Zb7 Zb9 Zcr Zcs Zbp Zbq Zb8 Zca
def Zq.l0:Nat->List Int->Bool->List Int->Int->Option (Bool × List Int × Int × Int)
 | 0,_,_,_,_=>none
 | k+1,x4,qu,qz,qo=>if 0 < (x4.length:Int) then (if (rd x4 0)=0 then (if 1<=(x4.length:Int) then (Zq.l0 k (x4.drop (1:Int).toNat) qu qz (wrap64 (qo+1))) else (none)) else (if (x4.length:Int) > 300 then (some (false,([]:List Int),0,51)) else (if qo < (-1000) then (some (false,([]:List Int),0,52)) else (if qo > 1000 then (some (false,([]:List Int),0,52)) else ((Zw.f k x4).bind fun qx=>(some (qu,qx,qo,0))))))) else (none)
def Zq.f (k:Nat) (a0_0:Bool) (l0_1:List Int) (a0_2:Int):Option (Bool × List Int × Int × Int):=(Zah.f k l0_1).bind fun qn=>(if (qn.length:Int)=0 then (some (false,([]:List Int),0,0)) else (Zq.l0 k qn a0_0 ([]:List Int) a0_2))
def Zq.T11:Bool × List (List Nat × List Nat):=(true,[([],[]),([0],[0]),([],[]),([2],[2]),([],[]),([4],[4]),([1,3,5],[1,3,5]),([6,3,0,1,2,3,4,5,6],[6]),([7,0,1,2,3,4,5,6,7],[])])
def Zq.B11:List Nat:=[0,1,0,4,0,16,63,127,255]
theorem Zq.tab11:rtab .any (opsOf Tryz.f23 11)=Zq.T11:=by kernel_rfl
theorem Zq.bits11:waitsOk Zq.T11.2 Zq.B11=true:=by kernel_rfl
theorem Zq.calls (k:Nat) (a0_0:Bool) (P0_1_:Nat->Prop) (u9000_:Value) (l0_1:List Int) (a0_2:Int) (r1:Bool) (r2:List Int) (r3:Int) (r4:Int) (w0 w:World) (hB:Below w0.heap.size w0 w) (ho0_1:Kd.R (Kd.int .i64) 3 w w0.heap.size P0_1_ u9000_ l0_1) (h:Zq.f k a0_0 l0_1 a0_2=some (r1,r2,r3,r4)) :
  Calls Tryz.prog 23 #[.agg #[.bool a0_0,u9000_,.int .i64 a0_2]] w fun e w' => ∃ v1_:Value,e=.returned (.tuple #[.agg #[.bool r1,v1_,.int .i64 r3],.int .i64 r4])/\Kd.R (Kd.int .u32) 85 w' w0.heap.size (fun k_=>(P0_1_ k_\/w.heap.size<=k_)) v1_ r2/\Below w0.heap.size w0 w'/\Kept w w' (fun k_=>P0_1_ k_):=by
 have hu30:=Tryz.underlying30
 have hu24:=Tryz.underlying24
 have HO0_1:=am (show Kd.R (Kd.int .i64) 3 w w0.heap.size (fun k_=>(P0_1_ k_\/w.heap.size<=k_)) u9000_ l0_1 from Kd.Zh ho0_1 (fun k_ hk=>(.inl hk)))
 have HK:=am (Kept.refl w (fun k_=>P0_1_ k_))
 have HW0:=am hB.size
 have HB:=am hB
 clear hB
 have H:((Zah.f k l0_1).bind fun qn=>(if (qn.length:Int)=0 then (some (false,([]:List Int),0,0)) else (Zq.l0 k qn a0_0 ([]:List Int) a0_2)))=some (r1,r2,r3,r4):=h
 clear h
 obtain ⟨qn,A2,H⟩:=ob H
 by_cases c3:(qn.length:Int)=0
 ·rw [if_pos c3] at H
  have c3b0:((qn.length:Int) == 0)=true:=beq_iff_eq.mpr c3
  have c3b1:((qn.length:Int) != 0)=false:=bne_eq_false_iff_eq.mpr c3
  clear c3
  simp only [Option.some.injEq,Prod.mk.injEq] at H
  obtain ⟨rfl,rfl,rfl,rfl⟩:=H
  obtain ⟨Ao4,co4,eo4⟩:=Kd.Zj HO0_1.o
  subst eo4
  go_enter Tryz.func23,Tryz.ntmps23
  go_wp2_with (first|((with_reducible refine gd 1 ?_);refine bx 1 #[.bool a0_0,.slice Ao4 l0_1.length co4,.int .i64 a0_2] 30 (h:=?_);intro qm hg w5 hbox hb;have qc:=am hbox;have qh:=am ((by rw [hg];exact (by first|exact HK.out.1|exact (show Kept w _ (fun k_=>P0_1_ k_) from by repeat (first|(with_reducible first|exact HK.out|apply Kept.alloc|apply Kept.drewN|apply Kept.drew)|exact HK.out)).1):w.heap.size<=qm));have q4:=am ((gw hg pB:w0.heap.size<=qm));replace HO0_1:=rbl HO0_1 hb;replace HK:=am (Kept.below (S:=(fun k_=>P0_1_ k_)) (by repeat (first|(with_reducible first|exact HK.out|apply Kept.alloc|apply Kept.drewN|apply Kept.drew)|exact HK.out)) hb);replace HB:=bS hb;clear hb hbox hg)|((with_reducible refine gd 2 ?_);refine bx 2 #[.bool false,.slice none 0 0,.int .i64 0] 24 (h:=?_);intro qf hg w6 hbox hb;have qd:=am hbox;have qi:=am ((by rw [hg];exact (by first|exact HK.out.1|exact (show Kept w _ (fun k_=>P0_1_ k_) from by repeat (first|(with_reducible first|exact HK.out|apply Kept.alloc|apply Kept.drewN|apply Kept.drew|refine Kept.setCell ?_ (.inr qh.o) _)|exact HK.out)).1):w.heap.size<=qf));have q5:=am ((gw hg pB:w0.heap.size<=qf));have qa:=nL hg qc;have qe:=nG hg qc;replace HO0_1:=rbl HO0_1 hb;replace qc:=bb qc hb;replace HK:=am (Kept.below (S:=(fun k_=>P0_1_ k_)) (by repeat (first|(with_reducible first|exact HK.out|apply Kept.alloc|apply Kept.drewN|apply Kept.drew|refine Kept.setCell ?_ (.inr qh.o) _)|exact HK.out)) hb);replace HB:=bS hb;clear hb hbox hg;have hnb7:=qa.o;have hnc7:=qe.o;obtain ⟨_,_,_,_,_,_⟩:=cEc qc.o)|(refine gL (some 7) Tryz.func79 #[.slice Ao4 l0_1.length co4] (h:=?_);(with_reducible refine (Zah.calls k (fun k_=>some k_=(.slice Ao4 l0_1.length co4:Value).ownBlock) (.slice Ao4 l0_1.length co4) l0_1 qn w0 _ ?side1 ?side2 A2.o).mono ?_);(case side1=>exact pB);(case side2=>exact Kd.Zbj rfl HO0_1.o);rintro e w9 ⟨ji,rfl,ho0,hb,hkp⟩;refine ⟨_,rfl,?_⟩;have qs:=am (Kd.Zh (ok':=fun k_=>(P0_1_ k_\/w.heap.size<=k_)) ho0 (fun k_ hk_=>Or.elim hk_ (fun hs_=>(HO0_1.o.1 k_ (hs_).symm)) (fun hn_=>(.inr (Nat.le_trans (by first|exact HK.out.1|exact (show Kept w _ (fun k_=>P0_1_ k_) from by repeat (first|(with_reducible first|exact HK.out|apply Kept.alloc|apply Kept.drewN|apply Kept.drew|refine Kept.setCell ?_ (.inr qh.o) _|refine Kept.setCell ?_ (.inr qi.o) _)|exact HK.out)).1) hn_)))));replace qc:=am (Za0 (Zb qc.o pl) hkp (fun e_=>Kd.R_ne HO0_1.o qc.o (by decide) e_));replace qd:=am (Za0 (Zb qd.o pl) hkp (fun e_=>Kd.R_ne HO0_1.o qd.o (by decide) e_));replace HK:=am (Kept.then_ (S:=(fun k_=>P0_1_ k_)) (by repeat (first|(with_reducible first|exact HK.out|apply Kept.alloc|apply Kept.drewN|apply Kept.drew|refine Kept.setCell ?_ (.inr qh.o) _|refine Kept.setCell ?_ (.inr qi.o) _)|exact HK.out)) hkp (fun k_ hs_=>(fun e_=>(HO0_1.o.1 k_ e_.symm)) hs_));replace HB:=am hb;clear HO0_1;obtain ⟨jv,j2,ja⟩:=Kd.Zj qs.o;subst ja;obtain ⟨_,_,_,_,_,_⟩:=cEc qd.o))
  refine bodyPost_ret (Za1 rfl _ _ qf 24 #[.bool false,.slice none 0 0,.int .i64 0] (0,0) _ rfl (by exact p3 qd) Tryz.underlying24 rfl (by kernel_rfl)) rfl ?_
  exact ⟨_,pE,pN,pB,by repeat (first|(with_reducible first|exact HK.out|apply Kept.alloc|apply Kept.drewN|apply Kept.drew|refine Kept.setCell ?_ (.inr qh.o) _|refine Kept.setCell ?_ (.inr qi.o) _)|exact HK.out)⟩
 ·rw [if_neg c3] at H
  have c3b0:((qn.length:Int) == 0)=false:=beq_eq_false_iff_ne.mpr c3
  have c3b1:((qn.length:Int) != 0)=true:=bne_iff_ne.mpr c3
  have c3b2:¬ (qn=[]):=fun h_=>c3 (by rw [h_];rfl)
  have H':=am H
  clear H
  obtain ⟨qq,qr,jb⟩:=Kd.Zj HO0_1.o
  subst jb
  go_enter Tryz.func23,Tryz.ntmps23
  go_wp2_with (first|((with_reducible refine gd 1 ?_);refine bx 1 #[.bool a0_0,.slice qq l0_1.length qr,.int .i64 a0_2] 30 (h:=?_);intro qm hg w13 hbox hb;have qc:=am hbox;have qh:=am ((by rw [hg];exact (by first|exact HK.out.1|exact (show Kept w _ (fun k_=>P0_1_ k_) from by repeat (first|(with_reducible first|exact HK.out|apply Kept.alloc|apply Kept.drewN|apply Kept.drew)|exact HK.out)).1):w.heap.size<=qm));have q4:=am ((gw hg pB:w0.heap.size<=qm));replace HO0_1:=rbl HO0_1 hb;replace HK:=am (Kept.below (S:=(fun k_=>P0_1_ k_)) (by repeat (first|(with_reducible first|exact HK.out|apply Kept.alloc|apply Kept.drewN|apply Kept.drew)|exact HK.out)) hb);replace HB:=bS hb;clear hb hbox hg)|((with_reducible refine gd 2 ?_);refine bx 2 #[.bool false,.slice none 0 0,.int .i64 0] 24 (h:=?_);intro qf hg w14 hbox hb;have qd:=am hbox;have qi:=am ((by rw [hg];exact (by first|exact HK.out.1|exact (show Kept w _ (fun k_=>P0_1_ k_) from by repeat (first|(with_reducible first|exact HK.out|apply Kept.alloc|apply Kept.drewN|apply Kept.drew|refine Kept.setCell ?_ (.inr qh.o) _)|exact HK.out)).1):w.heap.size<=qf));have q5:=am ((gw hg pB:w0.heap.size<=qf));have qa:=nL hg qc;have qe:=nG hg qc;replace HO0_1:=rbl HO0_1 hb;replace qc:=bb qc hb;replace HK:=am (Kept.below (S:=(fun k_=>P0_1_ k_)) (by repeat (first|(with_reducible first|exact HK.out|apply Kept.alloc|apply Kept.drewN|apply Kept.drew|refine Kept.setCell ?_ (.inr qh.o) _)|exact HK.out)) hb);replace HB:=bS hb;clear hb hbox hg;have jj:=qa.o;have jp:=qe.o;obtain ⟨_,_,_,_,_,_⟩:=cEc qc.o)|(refine gL (some 7) Tryz.func79 #[.slice qq l0_1.length qr] (h:=?_);(with_reducible refine (Zah.calls k (fun k_=>some k_=(.slice qq l0_1.length qr:Value).ownBlock) (.slice qq l0_1.length qr) l0_1 qn w0 _ ?side1 ?side2 A2.o).mono ?_);(case side1=>exact pB);(case side2=>exact Kd.Zbj rfl HO0_1.o);rintro e w17 ⟨ji,rfl,ho0,hb,hkp⟩;refine ⟨_,rfl,?_⟩;have qs:=am (Kd.Zh (ok':=fun k_=>(P0_1_ k_\/w.heap.size<=k_)) ho0 (fun k_ hk_=>Or.elim hk_ (fun hs_=>(HO0_1.o.1 k_ (hs_).symm)) (fun hn_=>(.inr (Nat.le_trans (by first|exact HK.out.1|exact (show Kept w _ (fun k_=>P0_1_ k_) from by repeat (first|(with_reducible first|exact HK.out|apply Kept.alloc|apply Kept.drewN|apply Kept.drew|refine Kept.setCell ?_ (.inr qh.o) _|refine Kept.setCell ?_ (.inr qi.o) _)|exact HK.out)).1) hn_)))));replace qc:=am (Za0 (Zb qc.o pl) hkp (fun e_=>Kd.R_ne HO0_1.o qc.o (by decide) e_));replace qd:=am (Za0 (Zb qd.o pl) hkp (fun e_=>Kd.R_ne HO0_1.o qd.o (by decide) e_));replace HK:=am (Kept.then_ (S:=(fun k_=>P0_1_ k_)) (by repeat (first|(with_reducible first|exact HK.out|apply Kept.alloc|apply Kept.drewN|apply Kept.drew|refine Kept.setCell ?_ (.inr qh.o) _|refine Kept.setCell ?_ (.inr qi.o) _)|exact HK.out)) hkp (fun k_ hs_=>(fun e_=>(HO0_1.o.1 k_ e_.symm)) hs_));replace HB:=am hb;clear HO0_1;obtain ⟨jw,j3,jc⟩:=Kd.Zj qs.o;subst jc))
  go_loopg [4] k (fun kq v4 w' => ∃ (x4_1:List Int) (qb:Int),Aside0 (Zq.l0 kq x4_1 a0_0 ([]:List Int) qb=some (r1,r2,r3,r4))/\Aside0 (kq<=k)/\Aside0 (Kd.Q (Kd.int .i64) 3 w' w0.heap.size (fun k_=>(P0_1_ k_\/w.heap.size<=k_)) v4 x4_1)/\Aside0 (w'.heap[qm]? = some (.cells #[.bool a0_0,(.slice qq l0_1.length qr),.int .i64 qb] 30 (0,0)))/\Aside0 (w'.heap[qf]? = some (.cells #[.bool false,(.slice none 0 0),.int .i64 0] 24 (0,0)))/\Aside0 (Kept w w' (fun k_=>P0_1_ k_))/\Aside0 (Below w0.heap.size w0 w'))
  case atStart=>exact ⟨(qn),(a0_2),H',⟨Nat.le_refl _⟩,⟨Kd.Zqn (Kd.Za qs.o pl)⟩,⟨Zb qc.o pl⟩,⟨Zb qd.o pl⟩,⟨by repeat (first|(with_reducible first|exact HK.out|apply Kept.alloc|apply Kept.drewN|apply Kept.drew|refine Kept.setCell ?_ (.inr qh.o) _|refine Kept.setCell ?_ (.inr qi.o) _)|exact HK.out)⟩,⟨pB⟩⟩
  case round =>
   clear H'
   obtain ⟨x4_1,qb,HA,HK1,HO_4,qc,qd,HK,HB⟩:=hrel
   cases gk with
   | zero=>exact absurd HA.out (by simp [Zq.l0])
   | succ k1 =>
    have H:=HA.out
    clear HA
    simp only [Zq.l0] at H
    by_cases c19:0 < (x4_1.length:Int)
    ·rw [if_pos c19] at H
     have c19b0:decide (0 < (x4_1.length:Int))=true:=decide_eq_true c19
     have c19b1:decide (0 < x4_1.length)=true:=decide_eq_true (by omega)
     clear c19
     by_cases c20:(rd x4_1 0)=0
     ·rw [if_pos c20] at H
      have c20b0:((rd x4_1 0) == 0)=true:=beq_iff_eq.mpr c20
      have c20b1:((rd x4_1 0) != 0)=false:=bne_eq_false_iff_eq.mpr c20
      clear c20
      by_cases c21:1<=(x4_1.length:Int)
      ·rw [if_pos c21] at H
       have c21b0:=eq_true c21
       have c21b1:decide (1<=(x4_1.length:Int))=true:=decide_eq_true c21
       clear c21
       obtain ⟨qv,qw⟩:∃ y_:List Int,y_=(x4_1.drop (1:Int).toNat):=⟨_,rfl⟩
       replace H:(Zq.l0 k1 qv a0_0 ([]:List Int) (wrap64 (qb+1)))=some (r1,r2,r3,r4):=by have hy_:=qw;exact pH
       have q1:=am qw
       clear qw
       have H':=am H
       clear H
       obtain ⟨jx,qy,jd,_⟩:=Kd.Zhi HO_4.o
       subst jd
       have qj:0<=(0:Int):=(by omega)
       have qk:0 < (x4_1.length:Int):=of_decide_eq_true pQ
       obtain ⟨ql,qp,qg⟩:=Kd.Za5 (Kd.Zeo HO_4.o).2.2 0 qj qk
       cases qp
       have qt:(0 < x4_1.length)=True:=eq_true (by omega)
       (try rw [show ((0:Int)).toNat=0 from rfl] at qg)
       (try rw [Addr.add_zero'] at qg)
       replace qj:=eq_true qj
       replace qk:=eq_true qk
       have q23:(1:Int)<=((x4_1.length:Int):Int):=of_decide_eq_true pQ
       obtain ⟨j7,q2,_,hsz23,_⟩:=info_parts info3
       have hcut23:=Zpr (P:=Tryz.prog) 28 3 .i64 Tryz.underlying28 q2 1 hsz23 (some ql) x4_1.length qy 1 (by omega) q23
       have hr23:=Kd.Zr7 (k:=(1:Int).toNat) HO_4.o (by omega)
       obtain ⟨A23,hA23⟩:∃ A1,A1=(if qy=(1:Int).toNat then (some ql) else ((some ql):Option Addr).map (·.add ((1:Int).toNat*1))):=⟨_,rfl⟩
       obtain ⟨c23,hc23⟩:∃ c1,c1=qy - (1:Int).toNat:=⟨_,rfl⟩
       have hy23:qv.length=x4_1.length - (1:Int).toNat:=(by rw [q1.out,List.length_drop])
       rw [<- q1.out] at hr23
       rw [<- hy23,<- hA23,<- hc23] at hcut23
       replace hr23:Kd.Q (Kd.int .i64) 3 wr w0.heap.size (fun k_=>(P0_1_ k_\/w.heap.size<=k_)) (.slice A23 qv.length c23) qv:=(by rw [hA23,hc23,hy23];exact hr23)
       have HE23:Aside0 ((Value.slice A23 qv.length c23).ownBlock=(.slice (some ql) x4_1.length qy:Value).ownBlock):=⟨by rw [hA23];split <;> (cases ((some ql):Option Addr) <;> rfl)⟩
       clear hy23 q2 hsz23 HO_4 hA23 hc23
       have q6:=am hr23
       clear hr23
       replace q23:=eq_true q23
       have jk:=qa.o
       have jq:=qe.o
       obtain ⟨_,_,_,_,_,_⟩:=cEc qc.o
       go_wp2
       go_roundg k1
       case measure=>have := HK1.out;omega
       case rel=>exact ⟨(qv),(wrap64 (qb+1)),H',⟨by have := HK1.out;omega⟩,⟨by (with_reducible repeat (first|apply Kd.Znk|apply Kd.Znn|apply Kd.Znm));exact Kd.Zno (Kd.Zs4 (p:=⟨qm,2,none⟩) (Kd.Zq6 q6.o qc.o (by decide)) (fun _ hk=>hk.2) (.int .i64 (wrap64 (qb+1)))) (fun _ hk=>hk.1)⟩,⟨by refine bp ?_;refine Za2 (cs:=#[.bool a0_0,(.slice qq l0_1.length qr),.int .i64 qb]) ?_ 2 _ rfl;exact bp qc.o⟩,⟨bf qe.o qd.o⟩,⟨by repeat (first|(with_reducible first|exact HK.out|apply Kept.alloc|apply Kept.drewN|apply Kept.drew|refine Kept.setCell ?_ (.inr qh.o) _|refine Kept.setCell ?_ (.inr qi.o) _)|exact HK.out)⟩,⟨pB⟩⟩
      ·rw [if_neg c21] at H
       exact absurd H (by simp)
     ·rw [if_neg c20] at H
      have c20b0:((rd x4_1 0) == 0)=false:=beq_eq_false_iff_ne.mpr c20
      have c20b1:((rd x4_1 0) != 0)=true:=bne_iff_ne.mpr c20
      by_cases c26:(x4_1.length:Int) > 300
      ·rw [if_pos c26] at H
       have c26b0:decide (300 < (x4_1.length:Int))=true:=decide_eq_true c26
       have c26b1:decide (300 < x4_1.length)=true:=decide_eq_true (by omega)
       clear c26
       simp only [Option.some.injEq,Prod.mk.injEq] at H
       obtain ⟨rfl,rfl,rfl,rfl⟩:=H
       obtain ⟨jy,j4,je,_⟩:=Kd.Zhi HO_4.o
       subst je
       have qj:0<=(0:Int):=(by omega)
       have qk:0 < (x4_1.length:Int):=of_decide_eq_true pQ
       obtain ⟨ql,qp,qg⟩:=Kd.Za5 (Kd.Zeo HO_4.o).2.2 0 qj qk
       cases qp
       have qt:(0 < x4_1.length)=True:=eq_true (by omega)
       (try rw [show ((0:Int)).toNat=0 from rfl] at qg)
       (try rw [Addr.add_zero'] at qg)
       replace qj:=eq_true qj
       replace qk:=eq_true qk
       have jl:=qe.o
       have jr:=qa.o
       obtain ⟨_,_,_,_,_,_⟩:=cEc qd.o
       go_wp2
       refine bodyPost_ret (Za1 rfl _ _ qf 24 #[.bool false,.slice none 0 0,.int .i64 0] (0,0) _ rfl (by exact p3 qd) Tryz.underlying24 rfl (by kernel_rfl)) rfl ?_
       exact ⟨_,pE,pN,pB,by repeat (first|(with_reducible first|exact HK.out|apply Kept.alloc|apply Kept.drewN|apply Kept.drew|refine Kept.setCell ?_ (.inr qh.o) _|refine Kept.setCell ?_ (.inr qi.o) _)|exact HK.out)⟩
      ·rw [if_neg c26] at H
       have c26b0:decide (300 < (x4_1.length:Int))=false:=decide_eq_false c26
       have c26b1:decide (300 < x4_1.length)=false:=decide_eq_false (by omega)
       clear c26
       by_cases c30:qb < (-1000)
       ·rw [if_pos c30] at H
        have c30b0:decide (qb < (-1000))=true:=decide_eq_true c30
        clear c30
        simp only [Option.some.injEq,Prod.mk.injEq] at H
        obtain ⟨rfl,rfl,rfl,rfl⟩:=H
        obtain ⟨jz,j5,jf,_⟩:=Kd.Zhi HO_4.o
        subst jf
        have qj:0<=(0:Int):=(by omega)
        have qk:0 < (x4_1.length:Int):=of_decide_eq_true pQ
        obtain ⟨ql,qp,qg⟩:=Kd.Za5 (Kd.Zeo HO_4.o).2.2 0 qj qk
        cases qp
        have qt:(0 < x4_1.length)=True:=eq_true (by omega)
        (try rw [show ((0:Int)).toNat=0 from rfl] at qg)
        (try rw [Addr.add_zero'] at qg)
        replace qj:=eq_true qj
        replace qk:=eq_true qk
        have jm:=qa.o
        have js:=qe.o
        obtain ⟨_,_,_,_,_,_⟩:=cEc qc.o
        obtain ⟨_,_,_,_,_,_⟩:=cEc qd.o
        go_wp2
        refine bodyPost_ret (Za1 rfl _ _ qf 24 #[.bool false,.slice none 0 0,.int .i64 0] (0,0) _ rfl (by exact p3 qd) Tryz.underlying24 rfl (by kernel_rfl)) rfl ?_
        exact ⟨_,pE,pN,pB,by repeat (first|(with_reducible first|exact HK.out|apply Kept.alloc|apply Kept.drewN|apply Kept.drew|refine Kept.setCell ?_ (.inr qh.o) _|refine Kept.setCell ?_ (.inr qi.o) _)|exact HK.out)⟩
       ·rw [if_neg c30] at H
        have c30b0:decide (qb < (-1000))=false:=decide_eq_false c30
        clear c30
        by_cases c35:qb > 1000
        ·rw [if_pos c35] at H
         have c35b0:decide (1000 < qb)=true:=decide_eq_true c35
         clear c35
         simp only [Option.some.injEq,Prod.mk.injEq] at H
         obtain ⟨rfl,rfl,rfl,rfl⟩:=H
         obtain ⟨j0,j6,jg,_⟩:=Kd.Zhi HO_4.o
         subst jg
         have qj:0<=(0:Int):=(by omega)
         have qk:0 < (x4_1.length:Int):=of_decide_eq_true pQ
         obtain ⟨ql,qp,qg⟩:=Kd.Za5 (Kd.Zeo HO_4.o).2.2 0 qj qk
         cases qp
         have qt:(0 < x4_1.length)=True:=eq_true (by omega)
         (try rw [show ((0:Int)).toNat=0 from rfl] at qg)
         (try rw [Addr.add_zero'] at qg)
         replace qj:=eq_true qj
         replace qk:=eq_true qk
         have jn:=qa.o
         have jt:=qe.o
         obtain ⟨_,_,_,_,_,_⟩:=cEc qc.o
         obtain ⟨_,_,_,_,_,_⟩:=cEc qd.o
         go_wp2
         refine bodyPost_ret (Za1 rfl _ _ qf 24 #[.bool false,.slice none 0 0,.int .i64 0] (0,0) _ rfl (by exact p3 qd) Tryz.underlying24 rfl (by kernel_rfl)) rfl ?_
         exact ⟨_,pE,pN,pB,by repeat (first|(with_reducible first|exact HK.out|apply Kept.alloc|apply Kept.drewN|apply Kept.drew|refine Kept.setCell ?_ (.inr qh.o) _|refine Kept.setCell ?_ (.inr qi.o) _)|exact HK.out)⟩
        ·rw [if_neg c35] at H
         have c35b0:decide (1000 < qb)=false:=decide_eq_false c35
         clear c35
         obtain ⟨qx,A40,H⟩:=ob H
         simp only [Option.some.injEq,Prod.mk.injEq] at H
         obtain ⟨rfl,rfl,rfl,rfl⟩:=H
         obtain ⟨j1,q9,jh,_⟩:=Kd.Zhi HO_4.o
         subst jh
         have qj:0<=(0:Int):=(by omega)
         have qk:0 < (x4_1.length:Int):=of_decide_eq_true pQ
         obtain ⟨ql,qp,qg⟩:=Kd.Za5 (Kd.Zeo HO_4.o).2.2 0 qj qk
         cases qp
         have qt:(0 < x4_1.length)=True:=eq_true (by omega)
         (try rw [show ((0:Int)).toNat=0 from rfl] at qg)
         (try rw [Addr.add_zero'] at qg)
         replace qj:=eq_true qj
         replace qk:=eq_true qk
         have jo:=qa.o
         have ju:=qe.o
         obtain ⟨_,_,_,_,_,_⟩:=cEc qc.o
         try go_wp2
         replace HO_4:=am (Kd.Znm HO_4.o)
         replace qc:=am (Zar qc.o)
         replace qd:=am (Zar qd.o)
         replace HK:=am (Kept.drew HK.out)
         replace HB:=am (Zav HB.o)
         refine start_ (n:=9) (S:=fun w'=>w'.cell? ⟨qm,0,none⟩=some (.bool a0_0)/\w'.cell? ⟨qm,1,none⟩=some ((.slice qq l0_1.length qr))/\w'.cell? ⟨qm,2,none⟩=some (.int .i64 qb)) (ds:=[]) #[false,false,false,false,false,false,false,false,false] (by kernel_rfl) rfl rfl ⟨k0 qc 0,k0 qc 1,k0 qc 2⟩ (fun hHeld=>?_);refine Zb6 Zq.tab11 Zq.bits11 (fun HT_ HW_=>?_)
         generalize wr.drew=w44 at HO_4 qc qd HK HB hHeld ⊢
         refine pu 0 (some 37) #[true,false,false,false,false,false,false,false,false] (h:=?_)
         refine pu 2 (some 39) #[true,false,true,false,false,false,false,false,false] (h:=?_)
         refine pu 4 (some 41) #[true,false,true,false,true,false,false,false,false] (h:=?_)
         refine take_ (i:=1) (N:=some 38) (v:=?_) (a':=?_) #[true,true,true,false,true,false,false,false,false] rfl rfl (Zay HT_.out HW_.out (by kernel_rfl)) (fun _ _ _ h=>h) (Or.inl ⟨by rfl,?_⟩) hHeld ?_ ?_
         rotate_left
         ·rintro w' ⟨s0,s1,s2⟩
          go_simp
          with_reducible rfl
         rotate_left
         ·exact pP
         refine take_ (i:=5) (N:=some 42) (v:=?_) (a':=?_) #[true,true,true,false,true,true,false,false,false] rfl rfl (Zay HT_.out HW_.out (by kernel_rfl)) (fun _ _ _ h=>h) (Or.inl ⟨by rfl,?_⟩) hHeld ?_ ?_
         rotate_left
         ·rintro w' ⟨s0,s1,s2⟩
          go_simp
          with_reducible rfl
         rotate_left
         ·exact pP
         refine one_ (i:=3) (N:=some 40) #[true,true,true,true,true,true,false,false,false] rfl rfl (Zbh HT_.out (by kernel_rfl)) (by decide) (fun K hK=>?_)
         refine goes_ Tryz.func80 (by kernel_rfl) rfl #[.slice (some ql) x4_1.length q9] (by rfl) rfl rfl pA ?_
         with_reducible refine (Zw.calls k1 _ _ x4_1 qx _ ?side1 ?side2 A40.o).mono ?_
         (case side1=>exact Kd.Zn (Kd.Zeo HO_4.o).2.2 pl)
         (case side2=>exact (Kd.Zeo HO_4.o).2.1)
         rintro e w45 ⟨j8,rfl,ho0,hb⟩
         refine ⟨_,rfl,?_⟩
         replace HO_4:=am (Kd.Ziu (by (with_reducible repeat (first|apply Kd.Znk|apply Kd.Znn|apply Kd.Znm));exact HO_4.o) hb)
         have q0:=am (Kd.Zo (Kd.Zex (M:=fun k_=>(P0_1_ k_\/w.heap.size<=k_)) ho0 (by first|exact HK.out.1|exact (show Kept w _ (fun k_=>P0_1_ k_) from by repeat (first|(with_reducible first|exact HK.out|apply Kept.alloc|apply Kept.drewN|apply Kept.drew|refine Kept.setCell ?_ (.inr qh.o) _|refine Kept.setCell ?_ (.inr qi.o) _)|exact HK.out)).1) (fun k_ h_=>.inr h_)) (Zd pB))
         replace qc:=bb qc hb
         replace qd:=bb qd hb
         replace HK:=am (Kept.below (S:=(fun k_=>P0_1_ k_)) (by repeat (first|(with_reducible first|exact HK.out|apply Kept.alloc|apply Kept.drewN|apply Kept.drew|refine Kept.setCell ?_ (.inr qh.o) _|refine Kept.setCell ?_ (.inr qi.o) _)|exact HK.out)) hb)
         replace HB:=bS hb
         obtain ⟨q3,q7,q8⟩:=Kd.Zj q0.o
         (first|subst q8|(injection q8 with f1_ f2_ f3_;have f4_:=f1_.symm;have f5_:=f3_.symm;clear f1_ f2_ f3_;subst f4_;subst f5_))
         refine hK.out _ _ ⟨k0 qc 0,k0 qc 1,k0 qc 2⟩ (fun hHeld=>?_)
         clear hK K
         refine norm_ (a':=?_) ?_ ?_
         rotate_left
         ·show Act.put _ (some 40) _=_
          exact pP
         refine pu 6 (some 43) #[true,true,true,true,true,true,true,false,false] (h:=?_)
         refine one_ (i:=7) (N:=none) #[true,true,true,true,true,true,true,true,false] rfl rfl (Zbh HT_.out (by kernel_rfl)) (by decide) (fun K hK=>?_)
         have hs47:w45.cell? ⟨qf,0,none⟩=some (.bool false):=k0 qd 0
         have hfs47:=Zbi qd.o 0
         have hns47_0:=qa.o
         have hms47_0:=qe.o
         have hs48:w45.cell? ⟨qf,1,none⟩=some (.slice none 0 0):=k0 qd 1
         have hfs48:=Zbi qd.o 1
         have hns48_0:=qa.o
         have hms48_0:=qe.o
         have hs49:w45.cell? ⟨qf,2,none⟩=some (.int .i64 0):=k0 qd 2
         have hfs49:=Zbi qd.o 2
         have hns49_0:=qa.o
         have hms49_0:=qe.o
         refine skip_ (w1:=?_) (by rfl) rfl ?_ ?_
         rotate_left
         ·go_simp
          rfl
         refine hK.out _ _ ⟨((cell_far (p:=⟨qf,_,none⟩) qa.o _).trans (((cell_far (p:=⟨qf,_,none⟩) qa.o _).trans (((cell_far (p:=⟨qf,_,none⟩) qa.o _).trans (hHeld.1)))))),((cell_far (p:=⟨qf,_,none⟩) qa.o _).trans (((cell_far (p:=⟨qf,_,none⟩) qa.o _).trans (((cell_far (p:=⟨qf,_,none⟩) qa.o _).trans (hHeld.2.1)))))),((cell_far (p:=⟨qf,_,none⟩) qa.o _).trans (((cell_far (p:=⟨qf,_,none⟩) qa.o _).trans (((cell_far (p:=⟨qf,_,none⟩) qa.o _).trans (hHeld.2.2))))))⟩ (fun hHeld=>?_)
         clear hK K
         refine pu 8 (some 3) #[true,true,true,true,true,true,true,true,true] (h:=?_)
         refine done_ (Zde HT_.out (by kernel_rfl)) ?_
         try go_wp2
         refine bodyPost_ret (Za1 rfl _ _ qf 24 #[.bool a0_0,.slice q3 qx.length q7,.int .i64 qb] (0,0) _ rfl (by exact p3 qd) Tryz.underlying24 rfl (by kernel_rfl)) rfl ?_
         exact ⟨_,pE,by refine rp ?_;exact Kd.Zh (Kd.Zr (p:=⟨qf,2,none⟩) (Kd.Zr (p:=⟨qf,1,none⟩) (Kd.Zr (p:=⟨qf,0,none⟩) (Kd.Zaa q0.o qd.o (by decide)) (fun _ hk=>hk.2) (.bool a0_0)) (fun _ hk=>hk.2) (.slice q3 qx.length q7)) (fun _ hk=>hk.2) (.int .i64 qb)) (fun _ hk=>hk.1.1),pB,by repeat (first|(with_reducible first|exact HK.out|apply Kept.alloc|apply Kept.drewN|apply Kept.drew|refine Kept.setCell ?_ (.inr qh.o) _|refine Kept.setCell ?_ (.inr qi.o) _)|exact HK.out)⟩
    ·rw [if_neg c19] at H
     exact absurd H (by simp)
def Zu.f (k:Nat) (a0_0:Bool) (l0_1:List Int) (a0_2:Int):Option (Bool × List Int × Int):=(Zag.f k l0_1).bind fun qf=>(some (a0_0,qf,a0_2))
def Zu.T1:Bool × List (List Nat × List Nat):=(true,[([],[]),([0],[0]),([],[]),([2],[2]),([3],[3]),([],[]),([5],[5]),([1,4,6],[1,4,6]),([7,4,0,1,2,3,4,5,6,7],[7])])
def Zu.B1:List Nat:=[0,1,0,4,12,0,32,127,255]
theorem Zu.tab1:rtab .any (opsOf Tryz.f18 1)=Zu.T1:=by kernel_rfl
theorem Zu.bits1:waitsOk Zu.T1.2 Zu.B1=true:=by kernel_rfl
theorem Zu.calls (k:Nat) (a0_0:Bool) (A0_1:Option Addr) (c0_1:Nat) (l0_1:List Int) (a0_2:Int) (r1:Bool) (r2:List Int) (r3:Int) (w:World) (hr0_1:Kd.C (Kd.int .u32) w A0_1 l0_1.length l0_1) (hc0_1:l0_1.length<=c0_1) (h:Zu.f k a0_0 l0_1 a0_2=some (r1,r2,r3)) :
  Calls Tryz.prog 18 #[.agg #[.bool a0_0,.slice A0_1 l0_1.length c0_1,.int .i64 a0_2]] w fun e w' => ∃ v1_:Value,e=.returned (.agg #[.bool r1,v1_,.int .i64 r3])/\Kd.R (Kd.int .i64) 3 w' w.heap.size (fun _=>True) v1_ r2/\Below w.heap.size w w':=by
 have hu24:=Tryz.underlying24
 have hu30:=Tryz.underlying30
 have HR0_1:=am hr0_1
 have HC0_1:=am hc0_1
 clear hr0_1 hc0_1
 have HB:=am (Below.refl w.heap.size w)
 have H:((Zag.f k l0_1).bind fun qf=>(some (a0_0,qf,a0_2)))=some (r1,r2,r3):=h
 clear h
 obtain ⟨qf,A2,H⟩:=ob H
 simp only [Option.some.injEq,Prod.mk.injEq] at H
 obtain ⟨rfl,rfl,rfl⟩:=H
 go_enter Tryz.func18,Tryz.ntmps18
 try go_wp2_with (first|((with_reducible refine gd 1 ?_);refine bx 1 #[.bool a0_0,.slice A0_1 l0_1.length c0_1,.int .i64 a0_2] 24 (h:=?_);intro qg hg w3 hbox hb;have qc:=am hbox;have qi:=gW hg;replace HB:=bS hb;clear hb hbox hg)|((with_reducible refine gd 2 ?_);refine bx 2 #[.bool false,.slice none 0 0,.int .i64 0] 30 (h:=?_);intro qb hg w4 hbox hb;have qd:=am hbox;have qj:=gW hg;have qa:=nL hg qc;have qe:=nG hg qc;replace qc:=bb qc hb;replace HB:=bS hb;clear hb hbox hg))
 replace qc:=am (Zar qc.o)
 replace qd:=am (Zar qd.o)
 replace HB:=am (Zav HB.o)
 refine start_ (n:=9) (S:=fun w'=>w'.cell? ⟨qg,0,none⟩=some (.bool a0_0)/\w'.cell? ⟨qg,1,none⟩=some (.slice A0_1 l0_1.length c0_1)/\w'.cell? ⟨qg,2,none⟩=some (.int .i64 a0_2)) (ds:=[]) #[false,false,false,false,false,false,false,false,false] (by kernel_rfl) rfl rfl ⟨k0 qc 0,k0 qc 1,k0 qc 2⟩ (fun hHeld=>?_);refine Zb6 Zu.tab1 Zu.bits1 (fun HT_ HW_=>?_)
 generalize w4.drew=w5 at qc qd HB hHeld ⊢
 refine pu 0 (some 3) #[true,false,false,false,false,false,false,false,false] (h:=?_)
 refine pu 2 (some 5) #[true,false,true,false,false,false,false,false,false] (h:=?_)
 refine pu 5 (some 8) #[true,false,true,false,false,true,false,false,false] (h:=?_)
 refine take_ (i:=1) (N:=some 4) (v:=?_) (a':=?_) #[true,true,true,false,false,true,false,false,false] rfl rfl (Zay HT_.out HW_.out (by kernel_rfl)) (fun _ _ _ h=>h) (Or.inl ⟨by rfl,?_⟩) hHeld ?_ ?_
 rotate_left
 ·rintro w' ⟨s0,s1,s2⟩
  go_simp
  with_reducible rfl
 rotate_left
 ·exact pP
 refine take_ (i:=3) (N:=some 6) (v:=?_) (a':=?_) #[true,true,true,true,false,true,false,false,false] rfl rfl (Zay HT_.out HW_.out (by kernel_rfl)) (fun _ _ _ h=>h) (Or.inl ⟨by rfl,?_⟩) hHeld ?_ ?_
 rotate_left
 ·rintro w' ⟨s0,s1,s2⟩
  go_simp
  with_reducible rfl
 rotate_left
 ·exact pP
 refine take_ (i:=6) (N:=some 9) (v:=?_) (a':=?_) #[true,true,true,true,false,true,true,false,false] rfl rfl (Zay HT_.out HW_.out (by kernel_rfl)) (fun _ _ _ h=>h) (Or.inl ⟨by rfl,?_⟩) hHeld ?_ ?_
 rotate_left
 ·rintro w' ⟨s0,s1,s2⟩
  go_simp
  with_reducible rfl
 rotate_left
 ·exact pP
 refine one_ (i:=4) (N:=some 7) #[true,true,true,true,true,true,true,false,false] rfl rfl (Zbh HT_.out (by kernel_rfl)) (by decide) (fun K hK=>?_)
 refine goes_ Tryz.func66 (by kernel_rfl) rfl #[.slice A0_1 l0_1.length c0_1] (by rfl) rfl rfl pA ?_
 with_reducible refine (Zag.calls k _ _ l0_1 qf _ ?side1 ?side2 A2.o).mono ?_
 (case side1=>exact cB HR0_1 HB)
 (case side2=>exact HC0_1.o)
 rintro e w6 ⟨qk,rfl,ho0,hb⟩
 refine ⟨_,rfl,?_⟩
 have qh:=am (Kd.Zo ho0 (Zd pB))
 replace qc:=bb qc hb
 replace qd:=bb qd hb
 replace HB:=bS hb
 obtain ⟨Ao7,co7,eo7⟩:=Kd.Zj qh.o
 (first|subst eo7|(injection eo7 with f1_ f2_ f3_;have f4_:=f1_.symm;have f5_:=f3_.symm;clear f1_ f2_ f3_;subst f4_;subst f5_))
 refine hK.out _ _ ⟨k0 qc 0,k0 qc 1,k0 qc 2⟩ (fun hHeld=>?_)
 clear hK K
 refine norm_ (a':=?_) ?_ ?_
 rotate_left
 ·show Act.put _ (some 7) _=_
  exact pP
 refine pu 7 (some 10) #[true,true,true,true,true,true,true,true,false] (h:=?_)
 refine one_ (i:=8) (N:=none) #[true,true,true,true,true,true,true,true,true] rfl rfl (Zbh HT_.out (by kernel_rfl)) (by decide) (fun K hK=>?_)
 have hs8:w6.cell? ⟨qb,0,none⟩=some (.bool false):=k0 qd 0
 have hfs8:=Zbi qd.o 0
 have hns8_0:=qa.o
 have hms8_0:=qe.o
 have hs9:w6.cell? ⟨qb,1,none⟩=some (.slice none 0 0):=k0 qd 1
 have hfs9:=Zbi qd.o 1
 have hns9_0:=qa.o
 have hms9_0:=qe.o
 have hs10:w6.cell? ⟨qb,2,none⟩=some (.int .i64 0):=k0 qd 2
 have hfs10:=Zbi qd.o 2
 have hns10_0:=qa.o
 have hms10_0:=qe.o
 refine skip_ (w1:=?_) (by rfl) rfl ?_ ?_
 rotate_left
 ·go_simp
  rfl
 refine hK.out _ _ ⟨((cell_far (p:=⟨qb,_,none⟩) qa.o _).trans (((cell_far (p:=⟨qb,_,none⟩) qa.o _).trans (((cell_far (p:=⟨qb,_,none⟩) qa.o _).trans (hHeld.1)))))),((cell_far (p:=⟨qb,_,none⟩) qa.o _).trans (((cell_far (p:=⟨qb,_,none⟩) qa.o _).trans (((cell_far (p:=⟨qb,_,none⟩) qa.o _).trans (hHeld.2.1)))))),((cell_far (p:=⟨qb,_,none⟩) qa.o _).trans (((cell_far (p:=⟨qb,_,none⟩) qa.o _).trans (((cell_far (p:=⟨qb,_,none⟩) qa.o _).trans (hHeld.2.2))))))⟩ (fun hHeld=>?_)
 clear hK K
 refine done_ (Zde HT_.out (by kernel_rfl)) ?_
 try go_wp2
 refine bodyPost_ret (results_cell_row rfl _ _ qb 30 #[.bool a0_0,.slice Ao7 qf.length co7,.int .i64 a0_2] (0,0) _ rfl (by exact p3 qd) Tryz.underlying30 rfl (by kernel_rfl)) rfl ?_
 exact ⟨_,pE,by refine rp ?_;exact Kd.Zh (Kd.Zr (p:=⟨qb,2,none⟩) (Kd.Zr (p:=⟨qb,1,none⟩) (Kd.Zr (p:=⟨qb,0,none⟩) (Kd.Zaa qh.o qd.o (by decide)) (fun _ hk=>hk.2) (.bool a0_0)) (fun _ hk=>hk.2) (.slice Ao7 qf.length co7)) (fun _ hk=>hk.2) (.int .i64 a0_2)) (fun _ hk=>trivial),pB⟩
mutual
def Zm.j0:Nat->Bool->Bool->List Int->Int->Option (Int)
 | 0,_,_,_,_=>none
 | k+1,x13,qx,q1,qq=>if x13=true then (some 9) else ((Zu.f k qx q1 qq).bind fun qv=>(if (qv.2.1.length:Int)=0 then (if qx=true then (Zm.j1 k true) else (Zm.j1 k (qq != 0))) else (if 0 < (qv.2.1.length:Int) then (if (rd qv.2.1 0)=0 then (some 9) else (if (qv.2.1.length:Int) > 300 then (some 9) else (if qq < (-1000) then (some 9) else (if qq > 1000 then (some 9) else (some 0))))) else (none))))
def Zm.j1:Nat->Bool->Option (Int)
 | 0,_=>none
 | k+1,x26=>if x26=true then (some 9) else (some 0)
end
def Zm.f (k:Nat) (a0_0:Bool) (l0_1:List Int) (a0_2:Int):Option (Int):=(Zb4.f l0_1).bind fun qr=>(if qr=0 then (Zm.j0 k (decide ((l0_1.length:Int) > 40)) a0_0 l0_1 a0_2) else (Zm.j0 k true a0_0 l0_1 a0_2))
theorem Zm.calls (k:Nat) (a0_0:Bool) (A0_1:Option Addr) (c0_1:Nat) (l0_1:List Int) (a0_2:Int) (r:Int) (w:World) (hr0_1:Kd.C (Kd.int .u32) w A0_1 l0_1.length l0_1) (hc0_1:l0_1.length<=c0_1) (h:Zm.f k a0_0 l0_1 a0_2=some r) :
  Calls Tryz.prog 33 #[.agg #[.bool a0_0,.slice A0_1 l0_1.length c0_1,.int .i64 a0_2]] w fun e w'=>e=.returned (.int .i64 r)/\Below w.heap.size w w':=by
 have hu24:=Tryz.underlying24
 have hu30:=Tryz.underlying30
 have HR0_1:=am hr0_1
 have HC0_1:=am hc0_1
 clear hr0_1 hc0_1
 have HB:=am (Below.refl w.heap.size w)
 have H:((Zb4.f l0_1).bind fun qr=>(if qr=0 then (Zm.j0 k (decide ((l0_1.length:Int) > 40)) a0_0 l0_1 a0_2) else (Zm.j0 k true a0_0 l0_1 a0_2)))=some r:=h
 clear h
 have HC2:=am H
 clear H
 go_enter Tryz.func33,Tryz.ntmps33
 go_upto_region 1 with (first|((with_reducible refine gd 1 ?_);(try (refine Zau (by rfl) ?_;dsimp only));refine bx 1 #[.bool a0_0,.slice A0_1 l0_1.length c0_1,.int .i64 a0_2] 24 (h:=?_);intro q2 hg w3 hbox hb;have qb:=am hbox;have jf:=gW hg;replace HB:=bS hb;clear hb hbox hg))
 (try simp only [Act.put,List.setIfInBounds_toArray,List.set_cons_zero,List.set_cons_succ])
 go_cut [13] (fun v13 wc => ∃ (kq:Nat) (x13_1:Bool),v13=.bool x13_1/\Aside0 (Zm.j0 kq x13_1 a0_0 l0_1 a0_2=some r)/\Aside0 (kq<=k)/\Aside0 (wc.heap[q2]? = some (.cells #[.bool a0_0,(.slice A0_1 l0_1.length c0_1),.int .i64 a0_2] 24 (0,0)))/\Aside0 (Below w.heap.size w wc))
 case first =>
  have H:=HC2.o
  clear HC2
  obtain ⟨qr,A4,H⟩:=ob H
  by_cases c5:qr=0
  ·rw [if_pos c5] at H
   have c5b0:(qr == 0)=true:=beq_iff_eq.mpr c5
   have c5b1:(qr != 0)=false:=bne_eq_false_iff_eq.mpr c5
   clear c5
   (first|rw [c5b0]|(simp only [Zcd,Zdb];rw [c5b0])|skip)
   have H':=am H
   clear H
   obtain ⟨_,_,_,_,_,_⟩:=cEc qb.o
   go_wp2_with (first|(refine gL (some 6) Tryz.func91 #[.slice A0_1 l0_1.length c0_1] (h:=?_);(with_reducible refine (Zb4.calls _ _ l0_1 qr _ ?side1 ?side2 A4.o).mono ?_);(case side1=>exact cB HR0_1 HB);(case side2=>exact HC0_1.o);rintro e w' ⟨rfl,⟨nd,rfl⟩⟩;refine ⟨_,rfl,?_⟩))
   go_meet
   case rel=>exact ⟨_,(decide ((l0_1.length:Int) > 40)),pR,H',⟨by first|omega|exact Nat.le_refl _⟩,⟨Zb qb.o pl⟩,⟨pB⟩⟩
  ·rw [if_neg c5] at H
   have c5b0:(qr == 0)=false:=beq_eq_false_iff_ne.mpr c5
   have c5b1:(qr != 0)=true:=bne_iff_ne.mpr c5
   (first|rw [c5b0]|(simp only [Zcd,Zdb];rw [c5b0])|skip)
   have H':=am H
   clear H
   obtain ⟨_,_,_,_,_,_⟩:=cEc qb.o
   go_wp2_with (first|(refine gL (some 6) Tryz.func91 #[.slice A0_1 l0_1.length c0_1] (h:=?_);(with_reducible refine (Zb4.calls _ _ l0_1 qr _ ?side1 ?side2 A4.o).mono ?_);(case side1=>exact cB HR0_1 HB);(case side2=>exact HC0_1.o);rintro e w' ⟨rfl,⟨nd,rfl⟩⟩;refine ⟨_,rfl,?_⟩))
   go_meet
   case rel=>exact ⟨_,(true),pR,H',⟨by first|omega|exact Nat.le_refl _⟩,⟨Zb qb.o pl⟩,⟨pB⟩⟩
 case rest =>
  clear HC2
  obtain ⟨kq,x13_1,rfl,HA,HJ1,qb,HB⟩:=hcut
  cases kq with
  | zero=>exact absurd HA.out (by simp [Zm.j0])
  | succ kj1 =>
   have H:=HA.out
   clear HA
   simp only [Zm.j0] at H
   by_cases c8:x13_1=true
   ·subst c8
    rw [if_pos rfl] at H
    obtain rfl:=Option.some.inj H
    go_wp2
    go_ret
    exact ⟨pE,pB⟩
   ·replace c8:=Bool.eq_false_iff.mpr c8
    subst c8
    rw [if_neg (show ¬ (false=true) by decide)] at H
    obtain ⟨⟨qo,qk,qp⟩,A9,H⟩:=ob H;(try dsimp only at H)
    by_cases c10:(qk.length:Int)=0
    ·rw [if_pos c10] at H
     have c10b0:((qk.length:Int) == 0)=true:=beq_iff_eq.mpr c10
     have c10b1:((qk.length:Int) != 0)=false:=bne_eq_false_iff_eq.mpr c10
     clear c10
     have HC11:=am H
     clear H
     obtain ⟨_,_,_,_,_,_⟩:=cEc qb.o
     go_upto_region 5 with (first|(refine gL (some 15) Tryz.func18 #[.agg #[.bool a0_0,.slice A0_1 l0_1.length c0_1,.int .i64 a0_2]] (h:=?_);(with_reducible refine (Zu.calls kj1 a0_0 _ _ l0_1 a0_2 qo qk qp _ ?side1 ?side2 A9.o).mono ?_);(case side1=>exact cB HR0_1 HB);(case side2=>exact HC0_1.o);rintro e w13 ⟨qy,rfl,ho0,hb⟩;refine ⟨_,rfl,?_⟩;have qc:=am (Kd.Zo ho0 (Zd pB));replace qb:=bb qb hb;replace HB:=bS hb)|((with_reducible refine gd 3 ?_);(try (refine Zau (by rfl) ?_;dsimp only));refine bx 3 #[.bool false,.slice none 0 0,.int .i64 0] 30 (h:=?_);intro qd hg w14 hbox hb;have qj:=am hbox;have qu:=gW hg;have qt:=gW hg;have qh:=nL hg qb;have qi:=nG hg qb;replace qc:=rbl qc hb;replace qb:=bb qb hb;replace HB:=bS hb;clear hb hbox hg;have jg:=qi.o;have jo:=qh.o;obtain ⟨_,_,_,_,_,_⟩:=cEc qj.o;obtain ⟨qz,q0,q9⟩:=Kd.Zj qc.o;subst q9))
     (try simp only [Act.put,List.setIfInBounds_toArray,List.set_cons_zero,List.set_cons_succ])
     go_cut [26] (fun v26 wc => ∃ (kq:Nat) (x26_10:Bool),v26=.bool x26_10/\Aside0 (Zm.j1 kq x26_10=some r)/\Aside0 (kq<=kj1)/\Aside0 (Kd.R (Kd.int .i64) 3 wc w.heap.size (fun _=>True) (.slice qz qk.length q0) qk)/\Aside0 (wc.heap[q2]? = some (.cells #[.bool a0_0,(.slice A0_1 l0_1.length c0_1),.int .i64 a0_2] 24 (0,0)))/\Aside0 (wc.heap[qd]? = some (.cells #[.bool qo,(.slice qz qk.length q0),.int .i64 qp] 30 (0,0)))/\Aside0 (Below w.heap.size w wc))
     case first =>
      have H:=HC11.o
      clear HC11
      by_cases c18:a0_0=true
      ·subst c18
       rw [if_pos rfl] at H
       have H':=am H
       clear H
       have jh:=qh.o
       have jp:=qi.o
       obtain ⟨_,_,_,_,_,_⟩:=cEc qb.o
       go_wp2
       go_meet
       case rel=>exact ⟨_,(true),pR,H',⟨by have := HJ1.o;first|omega|exact Nat.le_refl _⟩,⟨by refine rp ?_;exact Kd.Zh (Kd.Zr (p:=⟨qd,2,none⟩) (Kd.Zr (p:=⟨qd,1,none⟩) (Kd.Zr (p:=⟨qd,0,none⟩) (Kd.Zaa qc.o qj.o (by decide)) (fun _ hk=>hk.2) (.bool qo)) (fun _ hk=>hk.2) (.slice qz qk.length q0)) (fun _ hk=>hk.2) (.int .i64 qp)) (fun _ hk=>trivial)⟩,⟨bf qh.o qb.o⟩,⟨by exact p3 qj⟩,⟨pB⟩⟩
      ·replace c18:=Bool.eq_false_iff.mpr c18
       subst c18
       rw [if_neg (show ¬ (false=true) by decide)] at H
       have H':=am H
       clear H
       have ji:=qh.o
       have jq:=qi.o
       obtain ⟨_,_,_,_,_,_⟩:=cEc qb.o
       go_wp2
       go_meet
       case rel=>exact ⟨_,((a0_2 != 0)),pR,H',⟨by have := HJ1.o;first|omega|exact Nat.le_refl _⟩,⟨by refine rp ?_;exact Kd.Zh (Kd.Zr (p:=⟨qd,2,none⟩) (Kd.Zr (p:=⟨qd,1,none⟩) (Kd.Zr (p:=⟨qd,0,none⟩) (Kd.Zaa qc.o qj.o (by decide)) (fun _ hk=>hk.2) (.bool qo)) (fun _ hk=>hk.2) (.slice qz qk.length q0)) (fun _ hk=>hk.2) (.int .i64 qp)) (fun _ hk=>trivial)⟩,⟨bf qh.o qb.o⟩,⟨by exact p3 qj⟩,⟨pB⟩⟩
     case rest =>
      clear HC11
      obtain ⟨kq,x26_10,rfl,HA,HJ10,q3,qb,qj,HB⟩:=hcut
      cases kq with
      | zero=>exact absurd HA.out (by simp [Zm.j1])
      | succ j3 =>
       have H:=HA.out
       clear HA
       simp only [Zm.j1] at H
       by_cases c23:x26_10=true
       ·subst c23
        rw [if_pos rfl] at H
        obtain rfl:=Option.some.inj H
        go_wp2
        go_ret
        exact ⟨pE,pB⟩
       ·replace c23:=Bool.eq_false_iff.mpr c23
        subst c23
        rw [if_neg (show ¬ (false=true) by decide)] at H
        obtain rfl:=Option.some.inj H
        go_wp2
        go_ret
        exact ⟨pE,pB⟩
    ·rw [if_neg c10] at H
     have c10b0:((qk.length:Int) == 0)=false:=beq_eq_false_iff_ne.mpr c10
     have c10b1:((qk.length:Int) != 0)=true:=bne_iff_ne.mpr c10
     have c10b2:¬ (qk=[]):=fun h_=>c10 (by rw [h_];rfl)
     by_cases c24:0 < (qk.length:Int)
     ·rw [if_pos c24] at H
      have c24b0:decide (0 < (qk.length:Int))=true:=decide_eq_true c24
      have c24b1:decide (0 < qk.length)=true:=decide_eq_true (by omega)
      clear c24
      by_cases c25:(rd qk 0)=0
      ·rw [if_pos c25] at H
       have c25b0:((rd qk 0) == 0)=true:=beq_iff_eq.mpr c25
       have c25b1:((rd qk 0) != 0)=false:=bne_eq_false_iff_eq.mpr c25
       clear c25
       obtain rfl:=Option.some.inj H
       obtain ⟨_,_,_,_,_,_⟩:=cEc qb.o
       go_wp2_with (first|(refine gL (some 15) Tryz.func18 #[.agg #[.bool a0_0,.slice A0_1 l0_1.length c0_1,.int .i64 a0_2]] (h:=?_);(with_reducible refine (Zu.calls kj1 a0_0 _ _ l0_1 a0_2 qo qk qp _ ?side1 ?side2 A9.o).mono ?_);(case side1=>exact cB HR0_1 HB);(case side2=>exact HC0_1.o);rintro e w27 ⟨qy,rfl,ho0,hb⟩;refine ⟨_,rfl,?_⟩;have qc:=am (Kd.Zo ho0 (Zd pB));replace qb:=bb qb hb;replace HB:=bS hb)|((with_reducible refine gd 3 ?_);(try (refine Zau (by rfl) ?_;dsimp only));refine bx 3 #[.bool false,.slice none 0 0,.int .i64 0] 30 (h:=?_);intro qd hg w28 hbox hb;have qj:=am hbox;have qu:=gW hg;have qt:=gW hg;have qh:=nL hg qb;have qi:=nG hg qb;replace qc:=rbl qc hb;replace qb:=bb qb hb;replace HB:=bS hb;clear hb hbox hg;have jj:=qi.o;have jr:=qh.o;obtain ⟨_,_,_,_,_,_⟩:=cEc qj.o;obtain ⟨jw,q4,ja⟩:=Kd.Zj qc.o;subst ja;have qm:0<=(0:Int):=(by omega);have qn:0 < (qk.length:Int):=of_decide_eq_true pQ;obtain ⟨ql,qs,qa⟩:=Kd.Za5 (Kd.Zc qc.o).2.2 0 qm qn;cases qs;have qw:(0 < qk.length)=True:=eq_true (by omega);(try rw [show ((0:Int)).toNat=0 from rfl] at qa);(try rw [Addr.add_zero'] at qa);have qe:ql.block ≠ qd:=Kd.Zdw (Kd.R_ne qc.o qj.o (by decide));have qf:ql.block ≠ qd:=Kd.Zdw (Kd.R_ne qc.o qj.o (by decide));have qg:ql.block ≠ qd:=Kd.Zdw (Kd.R_ne qc.o qj.o (by decide));replace qa:=(cell_far (p:=⟨qd,0,none⟩) (by first|(rw [Zbb];exact qe)|(show (Addr.add _ _).block ≠ _;rw [Zbb];exact qe)|exact qe) (.bool qo)).trans qa;replace qa:=(cell_far (p:=⟨qd,1,none⟩) (by first|(rw [Zbb];exact qf)|(show (Addr.add _ _).block ≠ _;rw [Zbb];exact qf)|exact qf) (.slice (some ql) qk.length q4)).trans qa;replace qa:=(cell_far (p:=⟨qd,2,none⟩) (by first|(rw [Zbb];exact qg)|(show (Addr.add _ _).block ≠ _;rw [Zbb];exact qg)|exact qg) (.int .i64 qp)).trans qa;clear qe qf qg;replace qm:=eq_true qm;replace qn:=eq_true qn))
       go_ret
       exact ⟨pE,pB⟩
      ·rw [if_neg c25] at H
       have c25b0:((rd qk 0) == 0)=false:=beq_eq_false_iff_ne.mpr c25
       have c25b1:((rd qk 0) != 0)=true:=bne_iff_ne.mpr c25
       by_cases c32:(qk.length:Int) > 300
       ·rw [if_pos c32] at H
        have c32b0:decide (300 < (qk.length:Int))=true:=decide_eq_true c32
        have c32b1:decide (300 < qk.length)=true:=decide_eq_true (by omega)
        clear c32
        obtain rfl:=Option.some.inj H
        obtain ⟨_,_,_,_,_,_⟩:=cEc qb.o
        go_wp2_with (first|(refine gL (some 15) Tryz.func18 #[.agg #[.bool a0_0,.slice A0_1 l0_1.length c0_1,.int .i64 a0_2]] (h:=?_);(with_reducible refine (Zu.calls kj1 a0_0 _ _ l0_1 a0_2 qo qk qp _ ?side1 ?side2 A9.o).mono ?_);(case side1=>exact cB HR0_1 HB);(case side2=>exact HC0_1.o);rintro e w34 ⟨qy,rfl,ho0,hb⟩;refine ⟨_,rfl,?_⟩;have qc:=am (Kd.Zo ho0 (Zd pB));replace qb:=bb qb hb;replace HB:=bS hb)|((with_reducible refine gd 3 ?_);(try (refine Zau (by rfl) ?_;dsimp only));refine bx 3 #[.bool false,.slice none 0 0,.int .i64 0] 30 (h:=?_);intro qd hg w35 hbox hb;have qj:=am hbox;have qu:=gW hg;have qt:=gW hg;have qh:=nL hg qb;have qi:=nG hg qb;replace qc:=rbl qc hb;replace qb:=bb qb hb;replace HB:=bS hb;clear hb hbox hg;have jk:=qi.o;have js:=qh.o;obtain ⟨_,_,_,_,_,_⟩:=cEc qj.o;obtain ⟨jx,q5,jb⟩:=Kd.Zj qc.o;subst jb;have qm:0<=(0:Int):=(by omega);have qn:0 < (qk.length:Int):=of_decide_eq_true pQ;obtain ⟨ql,qs,qa⟩:=Kd.Za5 (Kd.Zc qc.o).2.2 0 qm qn;cases qs;have qw:(0 < qk.length)=True:=eq_true (by omega);(try rw [show ((0:Int)).toNat=0 from rfl] at qa);(try rw [Addr.add_zero'] at qa);have qe:ql.block ≠ qd:=Kd.Zdw (Kd.R_ne qc.o qj.o (by decide));have qf:ql.block ≠ qd:=Kd.Zdw (Kd.R_ne qc.o qj.o (by decide));have qg:ql.block ≠ qd:=Kd.Zdw (Kd.R_ne qc.o qj.o (by decide));replace qa:=(cell_far (p:=⟨qd,0,none⟩) (by first|(rw [Zbb];exact qe)|(show (Addr.add _ _).block ≠ _;rw [Zbb];exact qe)|exact qe) (.bool qo)).trans qa;replace qa:=(cell_far (p:=⟨qd,1,none⟩) (by first|(rw [Zbb];exact qf)|(show (Addr.add _ _).block ≠ _;rw [Zbb];exact qf)|exact qf) (.slice (some ql) qk.length q5)).trans qa;replace qa:=(cell_far (p:=⟨qd,2,none⟩) (by first|(rw [Zbb];exact qg)|(show (Addr.add _ _).block ≠ _;rw [Zbb];exact qg)|exact qg) (.int .i64 qp)).trans qa;clear qe qf qg;replace qm:=eq_true qm;replace qn:=eq_true qn))
        go_ret
        exact ⟨pE,pB⟩
       ·rw [if_neg c32] at H
        have c32b0:decide (300 < (qk.length:Int))=false:=decide_eq_false c32
        have c32b1:decide (300 < qk.length)=false:=decide_eq_false (by omega)
        clear c32
        by_cases c39:a0_2 < (-1000)
        ·rw [if_pos c39] at H
         have c39b0:decide (a0_2 < (-1000))=true:=decide_eq_true c39
         clear c39
         obtain rfl:=Option.some.inj H
         obtain ⟨_,_,_,_,_,_⟩:=cEc qb.o
         go_wp2_with (first|(refine gL (some 15) Tryz.func18 #[.agg #[.bool a0_0,.slice A0_1 l0_1.length c0_1,.int .i64 a0_2]] (h:=?_);(with_reducible refine (Zu.calls kj1 a0_0 _ _ l0_1 a0_2 qo qk qp _ ?side1 ?side2 A9.o).mono ?_);(case side1=>exact cB HR0_1 HB);(case side2=>exact HC0_1.o);rintro e w41 ⟨qy,rfl,ho0,hb⟩;refine ⟨_,rfl,?_⟩;have qc:=am (Kd.Zo ho0 (Zd pB));replace qb:=bb qb hb;replace HB:=bS hb)|((with_reducible refine gd 3 ?_);(try (refine Zau (by rfl) ?_;dsimp only));refine bx 3 #[.bool false,.slice none 0 0,.int .i64 0] 30 (h:=?_);intro qd hg w42 hbox hb;have qj:=am hbox;have qu:=gW hg;have qt:=gW hg;have qh:=nL hg qb;have qi:=nG hg qb;replace qc:=rbl qc hb;replace qb:=bb qb hb;replace HB:=bS hb;clear hb hbox hg;have jl:=qi.o;have jt:=qh.o;obtain ⟨_,_,_,_,_,_⟩:=cEc qj.o;obtain ⟨jy,q6,jc⟩:=Kd.Zj qc.o;subst jc;have qm:0<=(0:Int):=(by omega);have qn:0 < (qk.length:Int):=of_decide_eq_true pQ;obtain ⟨ql,qs,qa⟩:=Kd.Za5 (Kd.Zc qc.o).2.2 0 qm qn;cases qs;have qw:(0 < qk.length)=True:=eq_true (by omega);(try rw [show ((0:Int)).toNat=0 from rfl] at qa);(try rw [Addr.add_zero'] at qa);have qe:ql.block ≠ qd:=Kd.Zdw (Kd.R_ne qc.o qj.o (by decide));have qf:ql.block ≠ qd:=Kd.Zdw (Kd.R_ne qc.o qj.o (by decide));have qg:ql.block ≠ qd:=Kd.Zdw (Kd.R_ne qc.o qj.o (by decide));replace qa:=(cell_far (p:=⟨qd,0,none⟩) (by first|(rw [Zbb];exact qe)|(show (Addr.add _ _).block ≠ _;rw [Zbb];exact qe)|exact qe) (.bool qo)).trans qa;replace qa:=(cell_far (p:=⟨qd,1,none⟩) (by first|(rw [Zbb];exact qf)|(show (Addr.add _ _).block ≠ _;rw [Zbb];exact qf)|exact qf) (.slice (some ql) qk.length q6)).trans qa;replace qa:=(cell_far (p:=⟨qd,2,none⟩) (by first|(rw [Zbb];exact qg)|(show (Addr.add _ _).block ≠ _;rw [Zbb];exact qg)|exact qg) (.int .i64 qp)).trans qa;clear qe qf qg;replace qm:=eq_true qm;replace qn:=eq_true qn;obtain ⟨_,_,_,_,_,_⟩:=cEc qb.o))
         go_ret
         exact ⟨pE,pB⟩
        ·rw [if_neg c39] at H
         have c39b0:decide (a0_2 < (-1000))=false:=decide_eq_false c39
         clear c39
         by_cases c47:a0_2 > 1000
         ·rw [if_pos c47] at H
          have c47b0:decide (1000 < a0_2)=true:=decide_eq_true c47
          clear c47
          obtain rfl:=Option.some.inj H
          obtain ⟨_,_,_,_,_,_⟩:=cEc qb.o
          go_wp2_with (first|(refine gL (some 15) Tryz.func18 #[.agg #[.bool a0_0,.slice A0_1 l0_1.length c0_1,.int .i64 a0_2]] (h:=?_);(with_reducible refine (Zu.calls kj1 a0_0 _ _ l0_1 a0_2 qo qk qp _ ?side1 ?side2 A9.o).mono ?_);(case side1=>exact cB HR0_1 HB);(case side2=>exact HC0_1.o);rintro e w49 ⟨qy,rfl,ho0,hb⟩;refine ⟨_,rfl,?_⟩;have qc:=am (Kd.Zo ho0 (Zd pB));replace qb:=bb qb hb;replace HB:=bS hb)|((with_reducible refine gd 3 ?_);(try (refine Zau (by rfl) ?_;dsimp only));refine bx 3 #[.bool false,.slice none 0 0,.int .i64 0] 30 (h:=?_);intro qd hg w50 hbox hb;have qj:=am hbox;have qu:=gW hg;have qt:=gW hg;have qh:=nL hg qb;have qi:=nG hg qb;replace qc:=rbl qc hb;replace qb:=bb qb hb;replace HB:=bS hb;clear hb hbox hg;have jm:=qi.o;have ju:=qh.o;obtain ⟨_,_,_,_,_,_⟩:=cEc qj.o;obtain ⟨jz,q7,jd⟩:=Kd.Zj qc.o;subst jd;have qm:0<=(0:Int):=(by omega);have qn:0 < (qk.length:Int):=of_decide_eq_true pQ;obtain ⟨ql,qs,qa⟩:=Kd.Za5 (Kd.Zc qc.o).2.2 0 qm qn;cases qs;have qw:(0 < qk.length)=True:=eq_true (by omega);(try rw [show ((0:Int)).toNat=0 from rfl] at qa);(try rw [Addr.add_zero'] at qa);have qe:ql.block ≠ qd:=Kd.Zdw (Kd.R_ne qc.o qj.o (by decide));have qf:ql.block ≠ qd:=Kd.Zdw (Kd.R_ne qc.o qj.o (by decide));have qg:ql.block ≠ qd:=Kd.Zdw (Kd.R_ne qc.o qj.o (by decide));replace qa:=(cell_far (p:=⟨qd,0,none⟩) (by first|(rw [Zbb];exact qe)|(show (Addr.add _ _).block ≠ _;rw [Zbb];exact qe)|exact qe) (.bool qo)).trans qa;replace qa:=(cell_far (p:=⟨qd,1,none⟩) (by first|(rw [Zbb];exact qf)|(show (Addr.add _ _).block ≠ _;rw [Zbb];exact qf)|exact qf) (.slice (some ql) qk.length q7)).trans qa;replace qa:=(cell_far (p:=⟨qd,2,none⟩) (by first|(rw [Zbb];exact qg)|(show (Addr.add _ _).block ≠ _;rw [Zbb];exact qg)|exact qg) (.int .i64 qp)).trans qa;clear qe qf qg;replace qm:=eq_true qm;replace qn:=eq_true qn;obtain ⟨_,_,_,_,_,_⟩:=cEc qb.o))
          go_ret
          exact ⟨pE,pB⟩
         ·rw [if_neg c47] at H
          have c47b0:decide (1000 < a0_2)=false:=decide_eq_false c47
          clear c47
          obtain rfl:=Option.some.inj H
          obtain ⟨_,_,_,_,_,_⟩:=cEc qb.o
          go_wp2_with (first|(refine gL (some 15) Tryz.func18 #[.agg #[.bool a0_0,.slice A0_1 l0_1.length c0_1,.int .i64 a0_2]] (h:=?_);(with_reducible refine (Zu.calls kj1 a0_0 _ _ l0_1 a0_2 qo qk qp _ ?side1 ?side2 A9.o).mono ?_);(case side1=>exact cB HR0_1 HB);(case side2=>exact HC0_1.o);rintro e w56 ⟨qy,rfl,ho0,hb⟩;refine ⟨_,rfl,?_⟩;have qc:=am (Kd.Zo ho0 (Zd pB));replace qb:=bb qb hb;replace HB:=bS hb)|((with_reducible refine gd 3 ?_);(try (refine Zau (by rfl) ?_;dsimp only));refine bx 3 #[.bool false,.slice none 0 0,.int .i64 0] 30 (h:=?_);intro qd hg w57 hbox hb;have qj:=am hbox;have qu:=gW hg;have qt:=gW hg;have qh:=nL hg qb;have qi:=nG hg qb;replace qc:=rbl qc hb;replace qb:=bb qb hb;replace HB:=bS hb;clear hb hbox hg;have jn:=qi.o;have jv:=qh.o;obtain ⟨_,_,_,_,_,_⟩:=cEc qj.o;obtain ⟨j2,q8,je⟩:=Kd.Zj qc.o;subst je;have qm:0<=(0:Int):=(by omega);have qn:0 < (qk.length:Int):=of_decide_eq_true pQ;obtain ⟨ql,qs,qa⟩:=Kd.Za5 (Kd.Zc qc.o).2.2 0 qm qn;cases qs;have qw:(0 < qk.length)=True:=eq_true (by omega);(try rw [show ((0:Int)).toNat=0 from rfl] at qa);(try rw [Addr.add_zero'] at qa);have qe:ql.block ≠ qd:=Kd.Zdw (Kd.R_ne qc.o qj.o (by decide));have qf:ql.block ≠ qd:=Kd.Zdw (Kd.R_ne qc.o qj.o (by decide));have qg:ql.block ≠ qd:=Kd.Zdw (Kd.R_ne qc.o qj.o (by decide));replace qa:=(cell_far (p:=⟨qd,0,none⟩) (by first|(rw [Zbb];exact qe)|(show (Addr.add _ _).block ≠ _;rw [Zbb];exact qe)|exact qe) (.bool qo)).trans qa;replace qa:=(cell_far (p:=⟨qd,1,none⟩) (by first|(rw [Zbb];exact qf)|(show (Addr.add _ _).block ≠ _;rw [Zbb];exact qf)|exact qf) (.slice (some ql) qk.length q8)).trans qa;replace qa:=(cell_far (p:=⟨qd,2,none⟩) (by first|(rw [Zbb];exact qg)|(show (Addr.add _ _).block ≠ _;rw [Zbb];exact qg)|exact qg) (.int .i64 qp)).trans qa;clear qe qf qg;replace qm:=eq_true qm;replace qn:=eq_true qn;obtain ⟨_,_,_,_,_,_⟩:=cEc qb.o))
          go_ret
          exact ⟨pE,pB⟩
     ·rw [if_neg c24] at H
      exact absurd H (by simp)
def Za8.f (a0_0:Bool) (l0_1:List Int) (a0_2:Int):Option (Bool × List Int × Int):=if a0_0=true then (some (false,l0_1,a0_2)) else (some (decide ((l0_1.length:Int) > 0),l0_1,a0_2))
theorem Za8.calls (a0_0:Bool) (P0_1_:Nat->Prop) (u9000_:Value) (l0_1:List Int) (a0_2:Int) (r1:Bool) (r2:List Int) (r3:Int) (w0 w:World) (hB:Below w0.heap.size w0 w) (ho0_1:Kd.R (Kd.int .i64) 3 w w0.heap.size P0_1_ u9000_ l0_1) (h:Za8.f a0_0 l0_1 a0_2=some (r1,r2,r3)) :
  Calls Tryz.prog 78 #[.agg #[.bool a0_0,u9000_,.int .i64 a0_2]] w fun e w' => ∃ v1_:Value,e=.returned (.agg #[.bool r1,v1_,.int .i64 r3])/\Kd.R (Kd.int .i64) 3 w' w0.heap.size (fun k_=>(P0_1_ k_\/w.heap.size<=k_)) v1_ r2/\Below w0.heap.size w0 w'/\Kept w w' (fun k_=>P0_1_ k_):=by
 have hu30:=Tryz.underlying30
 have HO0_1:=am (show Kd.R (Kd.int .i64) 3 w w0.heap.size (fun k_=>(P0_1_ k_\/w.heap.size<=k_)) u9000_ l0_1 from Kd.Zh ho0_1 (fun k_ hk=>(.inl hk)))
 have HK:=am (Kept.refl w (fun k_=>P0_1_ k_))
 have HW0:=am hB.size
 have HB:=am hB
 clear hB
 have H:(if a0_0=true then (some (false,l0_1,a0_2)) else (some (decide ((l0_1.length:Int) > 0),l0_1,a0_2)))=some (r1,r2,r3):=h
 clear h
 by_cases c2:a0_0=true
 ·subst c2
  rw [if_pos rfl] at H
  simp only [Option.some.injEq,Prod.mk.injEq] at H
  obtain ⟨rfl,rfl,rfl⟩:=H
  obtain ⟨Ao3,co3,eo3⟩:=Kd.Zj HO0_1.o
  subst eo3
  go_enter Tryz.func78,Tryz.ntmps78
  go_wp2_with (first|((with_reducible refine gd 1 ?_);(try (refine Zau (by rfl) ?_;dsimp only));refine bx 1 #[.bool true,.slice Ao3 l0_1.length co3,.int .i64 a0_2] 30 (h:=?_);intro qg hg w4 hbox hb;have qa:=am hbox;have qf:=am ((by rw [hg];exact (by first|exact HK.out.1|exact (show Kept w _ (fun k_=>P0_1_ k_) from by repeat (first|(with_reducible first|exact HK.out|apply Kept.alloc|apply Kept.drewN|apply Kept.drew)|exact HK.out)).1):w.heap.size<=qg));have qi:=am ((gw hg pB:w0.heap.size<=qg));replace HO0_1:=rbl HO0_1 hb;replace HK:=am (Kept.below (S:=(fun k_=>P0_1_ k_)) (by repeat (first|(with_reducible first|exact HK.out|apply Kept.alloc|apply Kept.drewN|apply Kept.drew)|exact HK.out)) hb);replace HB:=bS hb;clear hb hbox hg)|((with_reducible refine gd 2 ?_);(try (refine Zau (by rfl) ?_;dsimp only));refine bx 2 #[.bool false,.slice none 0 0,.int .i64 0] 30 (h:=?_);intro qc hg w5 hbox hb;have qe:=am hbox;have qh:=am ((by rw [hg];exact (by first|exact HK.out.1|exact (show Kept w _ (fun k_=>P0_1_ k_) from by repeat (first|(with_reducible first|exact HK.out|apply Kept.alloc|apply Kept.drewN|apply Kept.drew|refine Kept.setCell ?_ (.inr qf.o) _)|exact HK.out)).1):w.heap.size<=qc));have qj:=am ((gw hg pB:w0.heap.size<=qc));have qd:=nL hg qa;have qb:=nG hg qa;replace HO0_1:=rbl HO0_1 hb;replace qa:=bb qa hb;replace HK:=am (Kept.below (S:=(fun k_=>P0_1_ k_)) (by repeat (first|(with_reducible first|exact HK.out|apply Kept.alloc|apply Kept.drewN|apply Kept.drew|refine Kept.setCell ?_ (.inr qf.o) _)|exact HK.out)) hb);replace HB:=bS hb;clear hb hbox hg;have hnb6:=qd.o;have hnc6:=qb.o;obtain ⟨_,_,_,_,_,_⟩:=cEc qa.o;obtain ⟨_,_,_,_,_,_⟩:=cEc qe.o))
  refine bodyPost_ret (results_cell_row rfl _ _ qc 30 #[.bool false,.slice Ao3 l0_1.length co3,.int .i64 a0_2] (0,0) _ rfl (by refine bp ?_;refine Za2 (cs:=#[.bool false,.slice Ao3 l0_1.length co3,.int .i64 0]) ?_ 2 _ rfl;refine bp ?_;refine Za2 (cs:=#[.bool false,.slice none 0 0,.int .i64 0]) ?_ 1 _ rfl;refine bp ?_;refine Za2 (cs:=#[.bool false,.slice none 0 0,.int .i64 0]) ?_ 0 _ rfl;refine bq ?_ qb;exact bp qe.o) Tryz.underlying30 rfl (by kernel_rfl)) rfl ?_
  exact ⟨_,pE,by refine rp ?_;exact Kd.Zh (Kd.Zr (p:=⟨qc,2,none⟩) (Kd.Zr (p:=⟨qc,1,none⟩) (Kd.Zr (p:=⟨qc,0,none⟩) (Kd.Zr (p:=⟨qg,0,none⟩) (Kd.Zaa (Kd.Zaa HO0_1.o qa.o (by decide)) qe.o (by decide)) (fun _ hk=>hk.1.2) (.bool false)) (fun _ hk=>hk.2) (.bool false)) (fun _ hk=>hk.2) (.slice Ao3 l0_1.length co3)) (fun _ hk=>hk.2) (.int .i64 a0_2)) (fun _ hk=>hk.1.1),pB,by repeat (first|(with_reducible first|exact HK.out|apply Kept.alloc|apply Kept.drewN|apply Kept.drew|refine Kept.setCell ?_ (.inr qf.o) _|refine Kept.setCell ?_ (.inr qh.o) _)|exact HK.out)⟩
 ·replace c2:=Bool.eq_false_iff.mpr c2
  subst c2
  rw [if_neg (show ¬ (false=true) by decide)] at H
  simp only [Option.some.injEq,Prod.mk.injEq] at H
  obtain ⟨rfl,rfl,rfl⟩:=H
  obtain ⟨Ao9,co9,eo9⟩:=Kd.Zj HO0_1.o
  subst eo9
  rw [show decide ((l0_1.length:Int) > 0)=decide (0 < l0_1.length) by simp]
  go_enter Tryz.func78,Tryz.ntmps78
  go_wp2_with (first|((with_reducible refine gd 1 ?_);(try (refine Zau (by rfl) ?_;dsimp only));refine bx 1 #[.bool false,.slice Ao9 l0_1.length co9,.int .i64 a0_2] 30 (h:=?_);intro qg hg w10 hbox hb;have qa:=am hbox;have qf:=am ((by rw [hg];exact (by first|exact HK.out.1|exact (show Kept w _ (fun k_=>P0_1_ k_) from by repeat (first|(with_reducible first|exact HK.out|apply Kept.alloc|apply Kept.drewN|apply Kept.drew)|exact HK.out)).1):w.heap.size<=qg));have qi:=am ((gw hg pB:w0.heap.size<=qg));replace HO0_1:=rbl HO0_1 hb;replace HK:=am (Kept.below (S:=(fun k_=>P0_1_ k_)) (by repeat (first|(with_reducible first|exact HK.out|apply Kept.alloc|apply Kept.drewN|apply Kept.drew)|exact HK.out)) hb);replace HB:=bS hb;clear hb hbox hg)|((with_reducible refine gd 2 ?_);(try (refine Zau (by rfl) ?_;dsimp only));refine bx 2 #[.bool false,.slice none 0 0,.int .i64 0] 30 (h:=?_);intro qc hg w11 hbox hb;have qe:=am hbox;have qh:=am ((by rw [hg];exact (by first|exact HK.out.1|exact (show Kept w _ (fun k_=>P0_1_ k_) from by repeat (first|(with_reducible first|exact HK.out|apply Kept.alloc|apply Kept.drewN|apply Kept.drew|refine Kept.setCell ?_ (.inr qf.o) _)|exact HK.out)).1):w.heap.size<=qc));have qj:=am ((gw hg pB:w0.heap.size<=qc));have qd:=nL hg qa;have qb:=nG hg qa;replace HO0_1:=rbl HO0_1 hb;replace qa:=bb qa hb;replace HK:=am (Kept.below (S:=(fun k_=>P0_1_ k_)) (by repeat (first|(with_reducible first|exact HK.out|apply Kept.alloc|apply Kept.drewN|apply Kept.drew|refine Kept.setCell ?_ (.inr qf.o) _)|exact HK.out)) hb);replace HB:=bS hb;clear hb hbox hg;have qk:=qd.o;have ql:=qb.o;obtain ⟨_,_,_,_,_,_⟩:=cEc qa.o;obtain ⟨_,_,_,_,_,_⟩:=cEc qe.o))
  refine bodyPost_ret (results_cell_row rfl _ _ qc 30 #[.bool (decide (0 < l0_1.length)),.slice Ao9 l0_1.length co9,.int .i64 a0_2] (0,0) _ rfl (by refine bp ?_;refine Za2 (cs:=#[.bool (decide (0 < l0_1.length)),.slice Ao9 l0_1.length co9,.int .i64 0]) ?_ 2 _ rfl;refine bp ?_;refine Za2 (cs:=#[.bool (decide (0 < l0_1.length)),.slice none 0 0,.int .i64 0]) ?_ 1 _ rfl;refine bp ?_;refine Za2 (cs:=#[.bool false,.slice none 0 0,.int .i64 0]) ?_ 0 _ rfl;refine bq ?_ qb;exact bp qe.o) Tryz.underlying30 rfl (by kernel_rfl)) rfl ?_
  exact ⟨_,pE,by refine rp ?_;exact Kd.Zh (Kd.Zr (p:=⟨qc,2,none⟩) (Kd.Zr (p:=⟨qc,1,none⟩) (Kd.Zr (p:=⟨qc,0,none⟩) (Kd.Zr (p:=⟨qg,0,none⟩) (Kd.Zaa (Kd.Zaa HO0_1.o qa.o (by decide)) qe.o (by decide)) (fun _ hk=>hk.1.2) (.bool (decide (0 < l0_1.length)))) (fun _ hk=>hk.2) (.bool (decide (0 < l0_1.length)))) (fun _ hk=>hk.2) (.slice Ao9 l0_1.length co9)) (fun _ hk=>hk.2) (.int .i64 a0_2)) (fun _ hk=>hk.1.1),pB,by repeat (first|(with_reducible first|exact HK.out|apply Kept.alloc|apply Kept.drewN|apply Kept.drew|refine Kept.setCell ?_ (.inr qf.o) _|refine Kept.setCell ?_ (.inr qh.o) _)|exact HK.out)⟩
def Zbo.f (k:Nat) (a0_0:Bool) (l0_1:List Int) (a0_2:Int) (a1_0:Bool) (l1_1:List Int) (a1_2:Int):Option (Int):=(Zm.f k a0_0 l0_1 a0_2).bind fun qe=>(if qe=0 then ((Zm.f k a1_0 l1_1 a1_2).bind fun qf=>(if qf=0 then (some 0) else (some 9))) else (some 9))
theorem Zbo.calls (k:Nat) (a0_0:Bool) (A0_1:Option Addr) (c0_1:Nat) (l0_1:List Int) (a0_2:Int) (a1_0:Bool) (A1_1:Option Addr) (c1_1:Nat) (l1_1:List Int) (a1_2:Int) (r:Int) (w:World) (hr0_1:Kd.C (Kd.int .u32) w A0_1 l0_1.length l0_1) (hc0_1:l0_1.length<=c0_1) (hr1_1:Kd.C (Kd.int .u32) w A1_1 l1_1.length l1_1) (hc1_1:l1_1.length<=c1_1) (h:Zbo.f k a0_0 l0_1 a0_2 a1_0 l1_1 a1_2=some r) :
  Calls Tryz.prog 64 #[.agg #[.bool a0_0,.slice A0_1 l0_1.length c0_1,.int .i64 a0_2],.agg #[.bool a1_0,.slice A1_1 l1_1.length c1_1,.int .i64 a1_2]] w fun e w'=>e=.returned (.int .i64 r)/\Below w.heap.size w w':=by
 have hu24:=Tryz.underlying24
 have HR0_1:=am hr0_1
 have HC0_1:=am hc0_1
 clear hr0_1 hc0_1
 have HR1_1:=am hr1_1
 have HC1_1:=am hc1_1
 clear hr1_1 hc1_1
 have HB:=am (Below.refl w.heap.size w)
 have H:((Zm.f k a0_0 l0_1 a0_2).bind fun qe=>(if qe=0 then ((Zm.f k a1_0 l1_1 a1_2).bind fun qf=>(if qf=0 then (some 0) else (some 9))) else (some 9)))=some r:=h
 clear h
 obtain ⟨qe,A3,H⟩:=ob H
 by_cases c4:qe=0
 ·rw [if_pos c4] at H
  have c4b0:(qe == 0)=true:=beq_iff_eq.mpr c4
  have c4b1:(qe != 0)=false:=bne_eq_false_iff_eq.mpr c4
  clear c4
  obtain ⟨qf,A5,H⟩:=ob H
  by_cases c6:qf=0
  ·rw [if_pos c6] at H
   have c6b0:(qf == 0)=true:=beq_iff_eq.mpr c6
   have c6b1:(qf != 0)=false:=bne_eq_false_iff_eq.mpr c6
   clear c6
   obtain rfl:=Option.some.inj H
   go_enter Tryz.func64,Tryz.ntmps64
   go_wp2_with (first|((with_reducible refine gd 2 ?_);refine bx 2 #[.bool a0_0,.slice A0_1 l0_1.length c0_1,.int .i64 a0_2] 24 (h:=?_);intro qk hg w7 hbox hb;have qa:=am hbox;have qi:=gW hg;have qg:=gW hg;replace HB:=bS hb;clear hb hbox hg)|((with_reducible refine gd 3 ?_);refine bx 3 #[.bool a1_0,.slice A1_1 l1_1.length c1_1,.int .i64 a1_2] 24 (h:=?_);intro ql hg w8 hbox hb;have qb:=am hbox;have qj:=gW hg;have qh:=gW hg;have qc:=nL hg qa;have qd:=nG hg qa;replace qa:=bb qa hb;replace HB:=bS hb;clear hb hbox hg;have hnb9:=qc.o;have hnc9:=qd.o;obtain ⟨_,_,_,_,_,_⟩:=cEc qa.o)|(refine gL (some 6) Tryz.func33 #[.agg #[.bool a0_0,.slice A0_1 l0_1.length c0_1,.int .i64 a0_2]] (h:=?_);(with_reducible refine (Zm.calls k a0_0 _ _ l0_1 a0_2 qe _ ?side1 ?side2 A3.o).mono ?_);(case side1=>exact cB HR0_1 HB);(case side2=>exact HC0_1.o);rintro e w11 ⟨rfl,hb⟩;refine ⟨_,rfl,?_⟩;replace qa:=bb qa hb;replace qb:=bb qb hb;replace HB:=bS hb;obtain ⟨_,_,_,_,_,_⟩:=cEc qb.o)|(go_at_call 33;(with_reducible refine (Zm.calls k a1_0 _ _ l1_1 a1_2 qf _ ?side1 ?side2 A5.o).mono ?_);(case side1=>exact cB HR1_1 HB);(case side2=>exact HC1_1.o);rintro e w13 ⟨rfl,hb⟩;replace qa:=bb qa hb;replace qb:=bb qb hb;replace HB:=bS hb))
   go_ret
   exact ⟨pE,pB⟩
  ·rw [if_neg c6] at H
   have c6b0:(qf == 0)=false:=beq_eq_false_iff_ne.mpr c6
   have c6b1:(qf != 0)=true:=bne_iff_ne.mpr c6
   obtain rfl:=Option.some.inj H
   go_enter Tryz.func64,Tryz.ntmps64
   go_wp2_with (first|((with_reducible refine gd 2 ?_);refine bx 2 #[.bool a0_0,.slice A0_1 l0_1.length c0_1,.int .i64 a0_2] 24 (h:=?_);intro qk hg w14 hbox hb;have qa:=am hbox;have qi:=gW hg;have qg:=gW hg;replace HB:=bS hb;clear hb hbox hg)|((with_reducible refine gd 3 ?_);refine bx 3 #[.bool a1_0,.slice A1_1 l1_1.length c1_1,.int .i64 a1_2] 24 (h:=?_);intro ql hg w15 hbox hb;have qb:=am hbox;have qj:=gW hg;have qh:=gW hg;have qc:=nL hg qa;have qd:=nG hg qa;replace qa:=bb qa hb;replace HB:=bS hb;clear hb hbox hg;have qm:=qc.o;have qo:=qd.o;obtain ⟨_,_,_,_,_,_⟩:=cEc qa.o)|(refine gL (some 6) Tryz.func33 #[.agg #[.bool a0_0,.slice A0_1 l0_1.length c0_1,.int .i64 a0_2]] (h:=?_);(with_reducible refine (Zm.calls k a0_0 _ _ l0_1 a0_2 qe _ ?side1 ?side2 A3.o).mono ?_);(case side1=>exact cB HR0_1 HB);(case side2=>exact HC0_1.o);rintro e w18 ⟨rfl,hb⟩;refine ⟨_,rfl,?_⟩;replace qa:=bb qa hb;replace qb:=bb qb hb;replace HB:=bS hb;obtain ⟨_,_,_,_,_,_⟩:=cEc qb.o)|(go_at_call 33;(with_reducible refine (Zm.calls k a1_0 _ _ l1_1 a1_2 qf _ ?side1 ?side2 A5.o).mono ?_);(case side1=>exact cB HR1_1 HB);(case side2=>exact HC1_1.o);rintro e w20 ⟨rfl,hb⟩;replace qa:=bb qa hb;replace qb:=bb qb hb;replace HB:=bS hb))
   go_ret
   exact ⟨pE,pB⟩
 ·rw [if_neg c4] at H
  have c4b0:(qe == 0)=false:=beq_eq_false_iff_ne.mpr c4
  have c4b1:(qe != 0)=true:=bne_iff_ne.mpr c4
  obtain rfl:=Option.some.inj H
  go_enter Tryz.func64,Tryz.ntmps64
  go_wp2_with (first|((with_reducible refine gd 2 ?_);refine bx 2 #[.bool a0_0,.slice A0_1 l0_1.length c0_1,.int .i64 a0_2] 24 (h:=?_);intro qk hg w21 hbox hb;have qa:=am hbox;have qi:=gW hg;have qg:=gW hg;replace HB:=bS hb;clear hb hbox hg)|((with_reducible refine gd 3 ?_);refine bx 3 #[.bool a1_0,.slice A1_1 l1_1.length c1_1,.int .i64 a1_2] 24 (h:=?_);intro ql hg w22 hbox hb;have qb:=am hbox;have qj:=gW hg;have qh:=gW hg;have qc:=nL hg qa;have qd:=nG hg qa;replace qa:=bb qa hb;replace HB:=bS hb;clear hb hbox hg;have qn:=qc.o;have qp:=qd.o;obtain ⟨_,_,_,_,_,_⟩:=cEc qa.o)|(refine gL (some 6) Tryz.func33 #[.agg #[.bool a0_0,.slice A0_1 l0_1.length c0_1,.int .i64 a0_2]] (h:=?_);(with_reducible refine (Zm.calls k a0_0 _ _ l0_1 a0_2 qe _ ?side1 ?side2 A3.o).mono ?_);(case side1=>exact cB HR0_1 HB);(case side2=>exact HC0_1.o);rintro e w25 ⟨rfl,hb⟩;refine ⟨_,rfl,?_⟩;replace qa:=bb qa hb;replace qb:=bb qb hb;replace HB:=bS hb))
  go_ret
  exact ⟨pE,pB⟩
def Zch.f (a0_0:Bool) (l0_1:List Int) (a0_2:Int) (a1_0:Bool) (l1_1:List Int) (a1_2:Int):Option (Bool × List Int × Int × Bool × List Int × Int):=(Zbc.f l0_1 (wrap64 (a0_2 - (mn a0_2 a1_2)))).bind fun qu=>((Zbc.f l1_1 (wrap64 (a1_2 - (mn a0_2 a1_2)))).bind fun qn=>(some (a0_0,qu,mn a0_2 a1_2,a1_0,qn,mn a0_2 a1_2)))
theorem Zch.calls (a0_0:Bool) (A0_1:Option Addr) (c0_1:Nat) (l0_1:List Int) (a0_2:Int) (a1_0:Bool) (A1_1:Option Addr) (c1_1:Nat) (l1_1:List Int) (a1_2:Int) (r1:Bool) (r2:List Int) (r3:Int) (r4:Bool) (r5:List Int) (r6:Int) (w:World) (hr0_1:Kd.C (Kd.int .i64) w A0_1 l0_1.length l0_1) (hc0_1:l0_1.length<=c0_1) (hr1_1:Kd.C (Kd.int .i64) w A1_1 l1_1.length l1_1) (hc1_1:l1_1.length<=c1_1) (h:Zch.f a0_0 l0_1 a0_2 a1_0 l1_1 a1_2=some (r1,r2,r3,r4,r5,r6)) :
  Calls Tryz.prog 133 #[.agg #[.bool a0_0,.slice A0_1 l0_1.length c0_1,.int .i64 a0_2],.agg #[.bool a1_0,.slice A1_1 l1_1.length c1_1,.int .i64 a1_2]] w fun e w' => ∃ v1_ v4_:Value,e=.returned (.tuple #[.agg #[.bool r1,v1_,.int .i64 r3],.agg #[.bool r4,v4_,.int .i64 r6]])/\Kd.R (Kd.int .i64) 3 w' w.heap.size (fun k_=>some k_ ≠ (v4_:Value).ownBlock) v1_ r2/\Kd.R (Kd.int .i64) 3 w' w.heap.size (fun k_=>some k_ ≠ (v1_:Value).ownBlock) v4_ r5/\Below w.heap.size w w':=by
 have hu30:=Tryz.underlying30
 have HR0_1:=am hr0_1
 have HC0_1:=am hc0_1
 clear hr0_1 hc0_1
 have HR1_1:=am hr1_1
 have HC1_1:=am hc1_1
 clear hr1_1 hc1_1
 have HB:=am (Below.refl w.heap.size w)
 have H:((Zbc.f l0_1 (wrap64 (a0_2 - (mn a0_2 a1_2)))).bind fun qu=>((Zbc.f l1_1 (wrap64 (a1_2 - (mn a0_2 a1_2)))).bind fun qn=>(some (a0_0,qu,mn a0_2 a1_2,a1_0,qn,mn a0_2 a1_2))))=some (r1,r2,r3,r4,r5,r6):=h
 clear h
 obtain ⟨ji3,hji3⟩:∃ j_:Int,(mn a0_2 a1_2)=j_:=⟨_,rfl⟩
 replace H:((Zbc.f l0_1 (wrap64 (a0_2 - (ji3)))).bind fun qu=>((Zbc.f l1_1 (wrap64 (a1_2 - (ji3)))).bind fun qn=>(some (a0_0,qu,ji3,a1_0,qn,ji3))))=some (r1,r2,r3,r4,r5,r6):=by first|(rw [hji3] at H;exact H)|(simp only [hji3] at H ⊢;exact H)
 have hji3_:(if a1_2 < a0_2 then a1_2 else a0_2)=ji3:=hji3
 obtain ⟨qu,A4,H⟩:=ob H
 obtain ⟨qn,A5,H⟩:=ob H
 simp only [Option.some.injEq,Prod.mk.injEq] at H
 obtain ⟨rfl,rfl,rfl,rfl,rfl,rfl⟩:=H
 go_enter Tryz.func133,Tryz.ntmps133
 try go_wp2_with (first|((with_reducible refine gd 2 ?_);refine bx 2 #[.bool a0_0,.slice A0_1 l0_1.length c0_1,.int .i64 a0_2] 30 (h:=?_);intro qw hg w6 hbox hb;have qg:=am hbox;have q4:=gW hg;replace HB:=bS hb;clear hb hbox hg)|((with_reducible refine gd 3 ?_);refine bx 3 #[.bool a1_0,.slice A1_1 l1_1.length c1_1,.int .i64 a1_2] 30 (h:=?_);intro qi hg w7 hbox hb;have qh:=am hbox;have q5:=gW hg;have q0:=nL hg qg;have q1:=nG hg qg;replace qg:=bb qg hb;replace HB:=bS hb;clear hb hbox hg)|((with_reducible refine gd 4 ?_);refine bx 4 #[.bool false,.slice none 0 0,.int .i64 0] 30 (h:=?_);intro qe hg w8 hbox hb;have ql:=am hbox;have q6:=gW hg;have qa:=nL hg qg;have qo:=nG hg qg;have qc:=nL hg qh;have qp:=nG hg qh;replace qg:=bb qg hb;replace qh:=bb qh hb;replace HB:=bS hb;clear hb hbox hg)|((with_reducible refine gd 5 ?_);refine bx 5 #[.bool false,.slice none 0 0,.int .i64 0] 30 (h:=?_);intro qf hg w9 hbox hb;have qm:=am hbox;have q7:=gW hg;have qb:=nL hg qg;have qq:=nG hg qg;have qd:=nL hg qh;have qr:=nG hg qh;have qj:=nL hg ql;have qk:=nG hg ql;replace qg:=bb qg hb;replace qh:=bb qh hb;replace ql:=bb ql hb;replace HB:=bS hb;clear hb hbox hg;have q8:=q0.o;have jd:=q1.o;have q9:=qa.o;have je:=qo.o;have ja:=qb.o;have jf:=qq.o;obtain ⟨_,_,_,_,_,_⟩:=cEc qg.o;have jb:=qc.o;have jg:=qp.o;have jc:=qd.o;have jh:=qr.o;obtain ⟨_,_,_,_,_,_⟩:=cEc qh.o)|((with_reducible refine Zd5 (f:=93) rfl ?_);refine goesL_ (some 18) rfl rfl Tryz.func93 (by kernel_rfl) rfl #[.slice A0_1 l0_1.length c0_1,.int .i64 (wrap64 (a0_2 - (ji3)))] rfl (by (try simp only [List.map_toArray,List.map_cons,List.map_nil]);first|done|(simp only [hji3];rfl)|rfl|(simp only [List.length_drop,List.length_take];rfl)) ?_;(with_reducible refine (Zbc.calls _ _ l0_1 (wrap64 (a0_2 - (ji3))) qu _ ?side1 ?side2 A4.o).mono ?_);(case side1=>exact cB HR0_1 HB);(case side2=>exact HC0_1.o);rintro e w17 ⟨ji,rfl,ho0,hb⟩;refine ⟨_,rfl,?_⟩;have qv:=am (Kd.Zo ho0 (Zd pB));replace qg:=bb qg hb;replace qh:=bb qh hb;replace ql:=bb ql hb;replace qm:=bb qm hb;replace HB:=bS hb;obtain ⟨qx,qz,q2⟩:=Kd.Zj qv.o;subst q2;obtain ⟨_,_,_,_,_,_⟩:=cEc qg.o;obtain ⟨_,_,_,_,_,_⟩:=cEc qh.o)|((with_reducible refine Zd5 (f:=93) rfl ?_);refine goesL_ (some 28) rfl rfl Tryz.func93 (by kernel_rfl) rfl #[.slice A1_1 l1_1.length c1_1,.int .i64 (wrap64 (a1_2 - (ji3)))] rfl (by (try simp only [List.map_toArray,List.map_cons,List.map_nil]);first|done|(simp only [hji3];rfl)|rfl|(simp only [List.length_drop,List.length_take];rfl)) ?_;(with_reducible refine (Zbc.calls _ _ l1_1 (wrap64 (a1_2 - (ji3))) qn _ ?side1 ?side2 A5.o).mono ?_);(case side1=>exact Kd.Zn HR1_1.o pB);(case side2=>exact HC1_1.o);rintro e w21 ⟨jj,rfl,ho0,hb⟩;refine ⟨_,rfl,?_⟩;have qy:=am (Kd.Zo (Kd.Zs ho0 (Kd.R_lt (Kd.Za (Kd.Zh (Kd.Zr (p:=⟨qw,2,none⟩) (Kd.Zr (p:=⟨qw,1,none⟩) (Kd.Zaa qv.o qg.o (by decide)) (fun _ hk=>hk.2) (.slice qx qu.length qz)) (fun _ hk=>hk.2) (.int .i64 ji3)) (fun _ h_=>h_.1)) pl))) (Zd pB));replace qv:=am (Kd.Zdq (Kd.Za (Kd.Zh (Kd.Zr (p:=⟨qw,2,none⟩) (Kd.Zr (p:=⟨qw,1,none⟩) (Kd.Zaa qv.o qg.o (by decide)) (fun _ hk=>hk.2) (.slice qx qu.length qz)) (fun _ hk=>hk.2) (.int .i64 ji3)) (fun _ h_=>h_.1)) pl) (Kd.Zaz ho0) hb);replace qg:=am (Zb (g:=qw) (o:=.cells #[.bool a0_0,.slice qx qu.length qz,.int .i64 ji3] 30 (0,0)) (by refine bp ?_;refine Za2 (cs:=#[.bool a0_0,.slice qx qu.length qz,.int .i64 a0_2]) ?_ 2 _ rfl;refine bp ?_;refine Za2 (cs:=#[.bool a0_0,.slice A0_1 l0_1.length c0_1,.int .i64 a0_2]) ?_ 1 _ rfl;exact bp qg.o) hb);replace qh:=bfb q1 qh hb;replace ql:=bfb qo ql hb;replace qm:=bfb qq qm hb;replace HB:=bS hb;obtain ⟨qs,qt,q3⟩:=Kd.Zj qy.o;subst q3;obtain ⟨_,_,_,_,_,_⟩:=cEc qh.o))
 have n0_:Aside0 (Kd.R (Kd.int .i64) 3 ((w21.setCell ⟨qi,1,none⟩ (.slice qs qn.length qt)).setCell ⟨qi,2,none⟩ (.int .i64 ji3)) w.heap.size (fun k_=>some k_ ≠ (.slice qs qn.length qt:Value).ownBlock) (.slice qx qu.length qz) qu):=⟨by refine rp ?_;exact Kd.Zh (Kd.Zr (p:=⟨qi,2,none⟩) (Kd.Zr (p:=⟨qi,1,none⟩) (Kd.Zaa qv.o qh.o (by decide)) (fun _ hk=>hk.2) (.slice qs qn.length qt)) (fun _ hk=>hk.2) (.int .i64 ji3)) (fun _ hk=>hk.1.2)⟩
 have n1_:Aside0 (Kd.R (Kd.int .i64) 3 ((w21.setCell ⟨qi,1,none⟩ (.slice qs qn.length qt)).setCell ⟨qi,2,none⟩ (.int .i64 ji3)) w.heap.size (fun k_=>some k_ ≠ (.slice qx qu.length qz:Value).ownBlock) (.slice qs qn.length qt) qn):=⟨by refine rp ?_;exact Kd.Zh (Kd.Zr (p:=⟨qi,2,none⟩) (Kd.Zr (p:=⟨qi,1,none⟩) (Kd.Zaa qy.o qh.o (by decide)) (fun _ hk=>hk.2) (.slice qs qn.length qt)) (fun _ hk=>hk.2) (.int .i64 ji3)) (fun _ hk=>hk.1.2)⟩
 have n2_:Aside0 (((w21.setCell ⟨qi,1,none⟩ (.slice qs qn.length qt)).setCell ⟨qi,2,none⟩ (.int .i64 ji3)).heap[qw]? = some (.cells #[.bool a0_0,.slice qx qu.length qz,.int .i64 ji3] 30 (0,0))):=⟨bf q0.o qg.o⟩
 have n3_:Aside0 (((w21.setCell ⟨qi,1,none⟩ (.slice qs qn.length qt)).setCell ⟨qi,2,none⟩ (.int .i64 ji3)).heap[qi]? = some (.cells #[.bool a1_0,.slice qs qn.length qt,.int .i64 ji3] 30 (0,0))):=⟨by refine bp ?_;refine Za2 (cs:=#[.bool a1_0,.slice qs qn.length qt,.int .i64 a1_2]) ?_ 2 _ rfl;refine bp ?_;refine Za2 (cs:=#[.bool a1_0,.slice A1_1 l1_1.length c1_1,.int .i64 a1_2]) ?_ 1 _ rfl;exact bp qh.o⟩
 have n4_:Aside0 (((w21.setCell ⟨qi,1,none⟩ (.slice qs qn.length qt)).setCell ⟨qi,2,none⟩ (.int .i64 ji3)).heap[qe]? = some (.cells #[.bool false,.slice none 0 0,.int .i64 0] 30 (0,0))):=⟨bf qp.o ql.o⟩
 have n5_:Aside0 (((w21.setCell ⟨qi,1,none⟩ (.slice qs qn.length qt)).setCell ⟨qi,2,none⟩ (.int .i64 ji3)).heap[qf]? = some (.cells #[.bool false,.slice none 0 0,.int .i64 0] 30 (0,0))):=⟨bf qr.o qm.o⟩
 have n6_:Aside0 (Below w.heap.size w ((w21.setCell ⟨qi,1,none⟩ (.slice qs qn.length qt)).setCell ⟨qi,2,none⟩ (.int .i64 ji3))):=⟨pB⟩
 generalize ((w21.setCell ⟨qi,1,none⟩ (.slice qs qn.length qt)).setCell ⟨qi,2,none⟩ (.int .i64 ji3))=w24 at n0_ n1_ n2_ n3_ n4_ n5_ n6_ ⊢
 have qv:=n0_
 have qy:=n1_
 have qg:=n2_
 have qh:=n3_
 have ql:=n4_
 have qm:=n5_
 have HB:=n6_
 clear n0_ n1_ n2_ n3_ n4_ n5_ n6_
 replace qv:=am (Kd.Zc1 qv.o)
 replace qy:=am (Kd.Zc1 qy.o)
 replace qg:=am (Zar qg.o)
 replace qh:=am (Zar qh.o)
 replace ql:=am (Zar ql.o)
 replace qm:=am (Zar qm.o)
 replace HB:=am (Zav HB.o)
 refine start_ (n:=4) (S:=fun w'=>w'.cell? ⟨qw,0,none⟩=some (.bool a0_0)/\w'.cell? ⟨qw,1,none⟩=some (.slice qx qu.length qz)/\w'.cell? ⟨qw,2,none⟩=some (.int .i64 ji3)/\w'.cell? ⟨qi,0,none⟩=some (.bool a1_0)/\w'.cell? ⟨qi,1,none⟩=some (.slice qs qn.length qt)/\w'.cell? ⟨qi,2,none⟩=some (.int .i64 ji3)) (ds:=[]) #[false,false,false,false] (by kernel_rfl) rfl rfl ⟨k0 qg 0,k0 qg 1,k0 qg 2,k0 qh 0,k0 qh 1,k0 qh 2⟩ (fun hHeld=>?_)
 generalize w24.drew=w25 at qv qy qg qh ql qm HB hHeld ⊢
 refine take_ (i:=0) (N:=some 32) (v:=?_) (a':=?_) #[true,false,false,false] rfl rfl (by kernel_rfl) (fun _ _ _ h=>h) (Or.inl ⟨by rfl,?_⟩) hHeld ?_ ?_
 rotate_left
 ·rintro w' ⟨s0,s1,s2,s3,s4,s5⟩
  go_simp
  with_reducible rfl
 rotate_left
 ·exact pP
 refine take_ (i:=1) (N:=some 33) (v:=?_) (a':=?_) #[true,true,false,false] rfl rfl (by kernel_rfl) (fun _ _ _ h=>h) (Or.inl ⟨by rfl,?_⟩) hHeld ?_ ?_
 rotate_left
 ·rintro w' ⟨s0,s1,s2,s3,s4,s5⟩
  go_simp
  with_reducible rfl
 rotate_left
 ·exact pP
 refine one_ (i:=2) (N:=none) #[true,true,true,false] rfl rfl (by kernel_rfl) (by decide) (fun K hK=>?_)
 have hs26:w25.cell? ⟨qe,0,none⟩=some (.bool false):=k0 ql 0
 have hfs26:=Zbi ql.o 0
 have hns26_0:=qa.o
 have hns26_1:=qc.o
 have hns26_3:=qk.o
 have hms26_0:=qo.o
 have hms26_1:=qp.o
 have hms26_3:=qj.o
 have hs27:w25.cell? ⟨qe,1,none⟩=some (.slice none 0 0):=k0 ql 1
 have hfs27:=Zbi ql.o 1
 have hns27_0:=qa.o
 have hns27_1:=qc.o
 have hns27_3:=qk.o
 have hms27_0:=qo.o
 have hms27_1:=qp.o
 have hms27_3:=qj.o
 have hs28:w25.cell? ⟨qe,2,none⟩=some (.int .i64 0):=k0 ql 2
 have hfs28:=Zbi ql.o 2
 have hns28_0:=qa.o
 have hns28_1:=qc.o
 have hns28_3:=qk.o
 have hms28_0:=qo.o
 have hms28_1:=qp.o
 have hms28_3:=qj.o
 refine skip_ (w1:=?_) (by rfl) rfl ?_ ?_
 rotate_left
 ·go_simp
  rfl
 refine hK.out _ _ ⟨((cell_far (p:=⟨qe,_,none⟩) qa.o _).trans (((cell_far (p:=⟨qe,_,none⟩) qa.o _).trans (((cell_far (p:=⟨qe,_,none⟩) qa.o _).trans (hHeld.1)))))),((cell_far (p:=⟨qe,_,none⟩) qa.o _).trans (((cell_far (p:=⟨qe,_,none⟩) qa.o _).trans (((cell_far (p:=⟨qe,_,none⟩) qa.o _).trans (hHeld.2.1)))))),((cell_far (p:=⟨qe,_,none⟩) qa.o _).trans (((cell_far (p:=⟨qe,_,none⟩) qa.o _).trans (((cell_far (p:=⟨qe,_,none⟩) qa.o _).trans (hHeld.2.2.1)))))),((cell_far (p:=⟨qe,_,none⟩) qc.o _).trans (((cell_far (p:=⟨qe,_,none⟩) qc.o _).trans (((cell_far (p:=⟨qe,_,none⟩) qc.o _).trans (hHeld.2.2.2.1)))))),((cell_far (p:=⟨qe,_,none⟩) qc.o _).trans (((cell_far (p:=⟨qe,_,none⟩) qc.o _).trans (((cell_far (p:=⟨qe,_,none⟩) qc.o _).trans (hHeld.2.2.2.2.1)))))),((cell_far (p:=⟨qe,_,none⟩) qc.o _).trans (((cell_far (p:=⟨qe,_,none⟩) qc.o _).trans (((cell_far (p:=⟨qe,_,none⟩) qc.o _).trans (hHeld.2.2.2.2.2))))))⟩ (fun hHeld=>?_)
 clear hK K
 refine one_ (i:=3) (N:=none) #[true,true,true,true] rfl rfl (by kernel_rfl) (by decide) (fun K hK=>?_)
 have hs29:w25.cell? ⟨qf,0,none⟩=some (.bool false):=k0 qm 0
 have hfs29:=Zbi qm.o 0
 have hns29_0:=qb.o
 have hns29_1:=qd.o
 have hns29_2:=qj.o
 have hms29_0:=qq.o
 have hms29_1:=qr.o
 have hms29_2:=qk.o
 have hs30:w25.cell? ⟨qf,1,none⟩=some (.slice none 0 0):=k0 qm 1
 have hfs30:=Zbi qm.o 1
 have hns30_0:=qb.o
 have hns30_1:=qd.o
 have hns30_2:=qj.o
 have hms30_0:=qq.o
 have hms30_1:=qr.o
 have hms30_2:=qk.o
 have hs31:w25.cell? ⟨qf,2,none⟩=some (.int .i64 0):=k0 qm 2
 have hfs31:=Zbi qm.o 2
 have hns31_0:=qb.o
 have hns31_1:=qd.o
 have hns31_2:=qj.o
 have hms31_0:=qq.o
 have hms31_1:=qr.o
 have hms31_2:=qk.o
 refine skip_ (w1:=?_) (by rfl) rfl ?_ ?_
 rotate_left
 ·go_simp
  rfl
 refine hK.out _ _ ⟨((cell_far (p:=⟨qf,_,none⟩) qb.o _).trans (((cell_far (p:=⟨qf,_,none⟩) qb.o _).trans (((cell_far (p:=⟨qf,_,none⟩) qb.o _).trans (hHeld.1)))))),((cell_far (p:=⟨qf,_,none⟩) qb.o _).trans (((cell_far (p:=⟨qf,_,none⟩) qb.o _).trans (((cell_far (p:=⟨qf,_,none⟩) qb.o _).trans (hHeld.2.1)))))),((cell_far (p:=⟨qf,_,none⟩) qb.o _).trans (((cell_far (p:=⟨qf,_,none⟩) qb.o _).trans (((cell_far (p:=⟨qf,_,none⟩) qb.o _).trans (hHeld.2.2.1)))))),((cell_far (p:=⟨qf,_,none⟩) qd.o _).trans (((cell_far (p:=⟨qf,_,none⟩) qd.o _).trans (((cell_far (p:=⟨qf,_,none⟩) qd.o _).trans (hHeld.2.2.2.1)))))),((cell_far (p:=⟨qf,_,none⟩) qd.o _).trans (((cell_far (p:=⟨qf,_,none⟩) qd.o _).trans (((cell_far (p:=⟨qf,_,none⟩) qd.o _).trans (hHeld.2.2.2.2.1)))))),((cell_far (p:=⟨qf,_,none⟩) qd.o _).trans (((cell_far (p:=⟨qf,_,none⟩) qd.o _).trans (((cell_far (p:=⟨qf,_,none⟩) qd.o _).trans (hHeld.2.2.2.2.2))))))⟩ (fun hHeld=>?_)
 clear hK K
 refine done_ (by kernel_rfl) ?_
 try go_wp2
 refine bodyPost_ret (Zm6 rfl _ _ qe qf 30 30 #[.bool a0_0,.slice qx qu.length qz,.int .i64 ji3] #[.bool a1_0,.slice qs qn.length qt,.int .i64 ji3] (0,0) (0,0) _ _ rfl (by refine bq ?_ qj;refine bq ?_ qj;refine bq ?_ qj;exact p3 ql) Tryz.underlying30 rfl (by kernel_rfl) rfl (by refine bp ?_;refine Za2 (cs:=#[.bool a1_0,.slice qs qn.length qt,.int .i64 0]) ?_ 2 _ rfl;refine bp ?_;refine Za2 (cs:=#[.bool a1_0,.slice none 0 0,.int .i64 0]) ?_ 1 _ rfl;refine bp ?_;refine Za2 (cs:=#[.bool false,.slice none 0 0,.int .i64 0]) ?_ 0 _ rfl;refine bq ?_ qk;refine bq ?_ qk;refine bq ?_ qk;exact bp qm.o) Tryz.underlying30 rfl (by kernel_rfl)) rfl ?_
 exact ⟨_,_,by first|rfl|(simp [Zak,Zal] <;> rfl)|(simp only [<- hji3];first|rfl|(simp [Zak,Zal] <;> rfl))|(simp [*,Zak,Zal] <;> rfl),by refine rp ?_;exact Kd.Zh (Kd.Zr (p:=⟨qf,2,none⟩) (Kd.Zr (p:=⟨qf,1,none⟩) (Kd.Zr (p:=⟨qf,0,none⟩) (Kd.Zr (p:=⟨qe,2,none⟩) (Kd.Zr (p:=⟨qe,1,none⟩) (Kd.Zr (p:=⟨qe,0,none⟩) (Kd.Zaa (Kd.Zaa qv.o ql.o (by decide)) qm.o (by decide)) (fun _ hk=>hk.1.2) (.bool a0_0)) (fun _ hk=>hk.1.2) (.slice qx qu.length qz)) (fun _ hk=>hk.1.2) (.int .i64 ji3)) (fun _ hk=>hk.2) (.bool a1_0)) (fun _ hk=>hk.2) (.slice qs qn.length qt)) (fun _ hk=>hk.2) (.int .i64 ji3)) (fun _ hk=>hk.1.1),by refine rp ?_;exact Kd.Zh (Kd.Zr (p:=⟨qf,2,none⟩) (Kd.Zr (p:=⟨qf,1,none⟩) (Kd.Zr (p:=⟨qf,0,none⟩) (Kd.Zr (p:=⟨qe,2,none⟩) (Kd.Zr (p:=⟨qe,1,none⟩) (Kd.Zr (p:=⟨qe,0,none⟩) (Kd.Zaa (Kd.Zaa qy.o ql.o (by decide)) qm.o (by decide)) (fun _ hk=>hk.1.2) (.bool a0_0)) (fun _ hk=>hk.1.2) (.slice qx qu.length qz)) (fun _ hk=>hk.1.2) (.int .i64 ji3)) (fun _ hk=>hk.2) (.bool a1_0)) (fun _ hk=>hk.2) (.slice qs qn.length qt)) (fun _ hk=>hk.2) (.int .i64 ji3)) (fun _ hk=>hk.1.1),pB⟩
def Zae.f (k:Nat) (a0_0:Bool) (l0_1:List Int) (a0_2:Int) (a1_0:Bool) (l1_1:List Int) (a1_2:Int):Option (Bool × List Int × Int):=(Zch.f a0_0 l0_1 a0_2 a1_0 l1_1 a1_2).bind fun qf=>(if (qf.1 == qf.2.2.2.1)=true then ((Zt.f k qf.2.1 qf.2.2.2.2.1).bind fun qv=>(some (qf.1,qv,qf.2.2.1))) else ((Zas.f k qf.2.1 qf.2.2.2.2.1).bind fun qz=>(if qz >= 0 then ((Zy.f k qf.2.1 qf.2.2.2.2.1).bind fun qw=>(some (qf.1,qw,qf.2.2.1))) else ((Zy.f k qf.2.2.2.2.1 qf.2.1).bind fun qx=>(some (qf.2.2.2.1,qx,qf.2.2.1))))))
def Zae.T2:Bool × List (List Nat × List Nat):=(true,[([],[]),([0],[0]),([],[]),([2],[2]),([],[]),([4],[4]),([3,5],[3,5]),([0,1,4,5],[]),([7,1,6,0,1,4,5],[1,7]),([0,1,2,3,4,5,6,7,8],[]),([9,6,8,0,1,2,3,4,5,6,7,8],[6,9])])
def Zae.B2:List Nat:=[0,1,0,4,0,16,60,51,255,511,1023]
theorem Zae.tab2:rtab .any (opsOf Tryz.f77 2)=Zae.T2:=by kernel_rfl
theorem Zae.bits2:waitsOk Zae.T2.2 Zae.B2=true:=by kernel_rfl
theorem Zae.leaf {P:Prop} (h:P:=by
 go_enter Tryz.func77,Tryz.ntmps77
 try go_wp2_with (first|((with_reducible refine gd 2 ?_);refine bx 2 #[.bool a0_0,.slice A0_1 l0_1.length c0_1,.int .i64 a0_2] 30 (h:=?_);intro gb0z hg w1z hbox hb;have BK2z:=am hbox;have GW3z:=gW hg;replace HB:=bS hb;clear hb hbox hg)|((with_reducible refine gd 3 ?_);refine bx 3 #[.bool a1_0,.slice A1_1 l1_1.length c1_1,.int .i64 a1_2] 30 (h:=?_);intro gb5z hg w6z hbox hb;have BK7z:=am hbox;have GW8z:=gW hg;have qq:=nL hg BK2z;have qr:=nG hg BK2z;replace BK2z:=bb BK2z hb;replace HB:=bS hb;clear hb hbox hg)|((with_reducible refine gd 4 ?_);refine bx 4 #[.bool false,.slice none 0 0,.int .i64 0] 30 (h:=?_);intro qp hg w13z hbox hb;have ql:=am hbox;have jr:=gW hg;have q2:=nL hg BK2z;have qo:=nG hg BK2z;have ji:=nL hg BK7z;have qs:=nG hg BK7z;replace BK2z:=bb BK2z hb;replace BK7z:=bb BK7z hb;replace HB:=bS hb;clear hb hbox hg;have jl:=qq.o;have jo:=qr.o;have jm:=q2.o;have jp:=qo.o;obtain ⟨_,_,_,_,_,_⟩:=cEc BK2z.o;have jn:=ji.o;have jq:=qs.o;obtain ⟨_,_,_,_,_,_⟩:=cEc BK7z.o)|(refine gL (some 8) Tryz.func133 #[.agg #[.bool a0_0,.slice A0_1 l0_1.length c0_1,.int .i64 a0_2],.agg #[.bool a1_0,.slice A1_1 l1_1.length c1_1,.int .i64 a1_2]] (h:=?_);(with_reducible refine (Zch.calls a0_0 _ _ l0_1 a0_2 a1_0 _ _ l1_1 a1_2 qi qg qm qh qe qn _ ?side1 ?side2 ?side3 ?side4 A3.o).mono ?_);(case side1=>exact cB HR0_1 HB);(case side2=>exact HC0_1.o);(case side3=>exact cB HR1_1 HB);(case side4=>exact HC1_1.o);rintro e w39z ⟨v40z,v41z,rfl,ho42z,ho43z,hb⟩;refine ⟨_,rfl,?_⟩;have qj:=am (Kd.Zo ho42z (Zd pB));have qk:=am (Kd.Zo ho43z (Zd pB));replace BK2z:=bb BK2z hb;replace BK7z:=bb BK7z hb;replace ql:=bb ql hb;replace HB:=bS hb;obtain ⟨_,_,_,_,_,_⟩:=cEc BK2z.o;obtain ⟨qd,qb,jj⟩:=Kd.Zj qj.o;subst jj;obtain ⟨_,_,_,_,_,_⟩:=cEc BK7z.o;obtain ⟨qc,qa,jk⟩:=Kd.Zj qk.o;subst jk)|(refine gL (some 37) Tryz.func94 #[.slice qd qg.length qb,.slice qc qe.length qa] (h:=?_);(with_reducible refine (Zas.calls k _ _ qg _ _ qe qz _ ?side1 ?side2 ?side3 ?side4 A23.o).mono ?_);(case side1=>refine (Kd.Zc (e:=3) (base:=w.heap.size) (ok:=fun k_=>some k_ ≠ (.slice qc qe.length qa:Value).ownBlock) (n:=qg.length) (c:=qb) ?_).2.2;exact (Kd.Za (Kd.Zh (Kd.Zh (Kd.Zr (p:=⟨gb5z,2,none⟩) (Kd.Zr (p:=⟨gb5z,1,none⟩) (Kd.Zr (p:=⟨gb5z,0,none⟩) (Kd.Zr (p:=⟨gb0z,2,none⟩) (Kd.Zr (p:=⟨gb0z,1,none⟩) (Kd.Zr (p:=⟨gb0z,0,none⟩) (Kd.Zaa (Kd.Zaa qj.o BK2z.o (by decide)) BK7z.o (by decide)) (fun _ hk=>hk.1.2) (.bool qi)) (fun _ hk=>hk.1.2) (.slice qd qg.length qb)) (fun _ hk=>hk.1.2) (.int .i64 qm)) (fun _ hk=>hk.2) (.bool qh)) (fun _ hk=>hk.2) (.slice qc qe.length qa)) (fun _ hk=>hk.2) (.int .i64 qn)) (fun _ h_=>h_.1)) (fun _ h_=>h_.1)) pl));(case side2=>exact (Kd.Zc qj.o).2.1);(case side3=>refine (Kd.Zc (e:=3) (base:=w.heap.size) (ok:=fun k_=>some k_ ≠ (.slice qd qg.length qb:Value).ownBlock) (n:=qe.length) (c:=qa) ?_).2.2;exact (Kd.Za (Kd.Zh (Kd.Zh (Kd.Zr (p:=⟨gb5z,2,none⟩) (Kd.Zr (p:=⟨gb5z,1,none⟩) (Kd.Zr (p:=⟨gb5z,0,none⟩) (Kd.Zr (p:=⟨gb0z,2,none⟩) (Kd.Zr (p:=⟨gb0z,1,none⟩) (Kd.Zr (p:=⟨gb0z,0,none⟩) (Kd.Zaa (Kd.Zaa qk.o BK2z.o (by decide)) BK7z.o (by decide)) (fun _ hk=>hk.1.2) (.bool qi)) (fun _ hk=>hk.1.2) (.slice qd qg.length qb)) (fun _ hk=>hk.1.2) (.int .i64 qm)) (fun _ hk=>hk.2) (.bool qh)) (fun _ hk=>hk.2) (.slice qc qe.length qa)) (fun _ hk=>hk.2) (.int .i64 qn)) (fun _ h_=>h_.1)) (fun _ h_=>h_.1)) pl));(case side4=>exact (Kd.Zc qk.o).2.1);rintro e w' ⟨rfl,⟨nd,rfl⟩⟩;refine ⟨_,rfl,?_⟩)|(refine gL (some 43) Tryz.func134 #[.slice qd qg.length qb,.slice qc qe.length qa] (h:=?_);(with_reducible refine (Zy.calls k _ _ qg _ _ qe qw _ ?side1 ?side2 ?side3 ?side4 A25.o).mono ?_);(case side1=>refine (Kd.Zc (e:=3) (base:=w.heap.size) (ok:=fun k_=>some k_ ≠ (.slice qc qe.length qa:Value).ownBlock) (n:=qg.length) (c:=qb) ?_).2.2;exact (Kd.Za (Kd.Zh (Kd.Zh (Kd.Zr (p:=⟨gb5z,2,none⟩) (Kd.Zr (p:=⟨gb5z,1,none⟩) (Kd.Zr (p:=⟨gb5z,0,none⟩) (Kd.Zr (p:=⟨gb0z,2,none⟩) (Kd.Zr (p:=⟨gb0z,1,none⟩) (Kd.Zr (p:=⟨gb0z,0,none⟩) (Kd.Zaa (Kd.Zaa qj.o BK2z.o (by decide)) BK7z.o (by decide)) (fun _ hk=>hk.1.2) (.bool qi)) (fun _ hk=>hk.1.2) (.slice qd qg.length qb)) (fun _ hk=>hk.1.2) (.int .i64 qm)) (fun _ hk=>hk.2) (.bool qh)) (fun _ hk=>hk.2) (.slice qc qe.length qa)) (fun _ hk=>hk.2) (.int .i64 qn)) (fun _ h_=>h_.1)) (fun _ h_=>h_.1)) pl));(case side2=>exact (Kd.Zc qj.o).2.1);(case side3=>refine (Kd.Zc (e:=3) (base:=w.heap.size) (ok:=fun k_=>some k_ ≠ (.slice qd qg.length qb:Value).ownBlock) (n:=qe.length) (c:=qa) ?_).2.2;exact (Kd.Za (Kd.Zh (Kd.Zh (Kd.Zr (p:=⟨gb5z,2,none⟩) (Kd.Zr (p:=⟨gb5z,1,none⟩) (Kd.Zr (p:=⟨gb5z,0,none⟩) (Kd.Zr (p:=⟨gb0z,2,none⟩) (Kd.Zr (p:=⟨gb0z,1,none⟩) (Kd.Zr (p:=⟨gb0z,0,none⟩) (Kd.Zaa (Kd.Zaa qk.o BK2z.o (by decide)) BK7z.o (by decide)) (fun _ hk=>hk.1.2) (.bool qi)) (fun _ hk=>hk.1.2) (.slice qd qg.length qb)) (fun _ hk=>hk.1.2) (.int .i64 qm)) (fun _ hk=>hk.2) (.bool qh)) (fun _ hk=>hk.2) (.slice qc qe.length qa)) (fun _ hk=>hk.2) (.int .i64 qn)) (fun _ h_=>h_.1)) (fun _ h_=>h_.1)) pl));(case side4=>exact (Kd.Zc qk.o).2.1);rintro e w64z ⟨v65z,rfl,ho42z,hb⟩;refine ⟨_,rfl,?_⟩;have qy:=am (Kd.Zo (Kd.Zs (Kd.Zs ho42z (Kd.R_lt (Kd.Za (Kd.Zh (Kd.Zh (Kd.Zr (p:=⟨gb5z,2,none⟩) (Kd.Zr (p:=⟨gb5z,1,none⟩) (Kd.Zr (p:=⟨gb5z,0,none⟩) (Kd.Zr (p:=⟨gb0z,2,none⟩) (Kd.Zr (p:=⟨gb0z,1,none⟩) (Kd.Zr (p:=⟨gb0z,0,none⟩) (Kd.Zaa (Kd.Zaa qj.o BK2z.o (by decide)) BK7z.o (by decide)) (fun _ hk=>hk.1.2) (.bool qi)) (fun _ hk=>hk.1.2) (.slice qd qg.length qb)) (fun _ hk=>hk.1.2) (.int .i64 qm)) (fun _ hk=>hk.2) (.bool qh)) (fun _ hk=>hk.2) (.slice qc qe.length qa)) (fun _ hk=>hk.2) (.int .i64 qn)) (fun _ h_=>h_.1)) (fun _ h_=>h_.1)) pl))) (Kd.R_lt (Kd.Za (Kd.Zh (Kd.Zh (Kd.Zr (p:=⟨gb5z,2,none⟩) (Kd.Zr (p:=⟨gb5z,1,none⟩) (Kd.Zr (p:=⟨gb5z,0,none⟩) (Kd.Zr (p:=⟨gb0z,2,none⟩) (Kd.Zr (p:=⟨gb0z,1,none⟩) (Kd.Zr (p:=⟨gb0z,0,none⟩) (Kd.Zaa (Kd.Zaa qk.o BK2z.o (by decide)) BK7z.o (by decide)) (fun _ hk=>hk.1.2) (.bool qi)) (fun _ hk=>hk.1.2) (.slice qd qg.length qb)) (fun _ hk=>hk.1.2) (.int .i64 qm)) (fun _ hk=>hk.2) (.bool qh)) (fun _ hk=>hk.2) (.slice qc qe.length qa)) (fun _ hk=>hk.2) (.int .i64 qn)) (fun _ h_=>h_.1)) (fun _ h_=>h_.1)) pl))) (Zd pB));replace qj:=am (Kd.Zdq (Kd.Za (Kd.Zh (Kd.Zh (Kd.Zr (p:=⟨gb5z,2,none⟩) (Kd.Zr (p:=⟨gb5z,1,none⟩) (Kd.Zr (p:=⟨gb5z,0,none⟩) (Kd.Zr (p:=⟨gb0z,2,none⟩) (Kd.Zr (p:=⟨gb0z,1,none⟩) (Kd.Zr (p:=⟨gb0z,0,none⟩) (Kd.Zaa (Kd.Zaa qj.o BK2z.o (by decide)) BK7z.o (by decide)) (fun _ hk=>hk.1.2) (.bool qi)) (fun _ hk=>hk.1.2) (.slice qd qg.length qb)) (fun _ hk=>hk.1.2) (.int .i64 qm)) (fun _ hk=>hk.2) (.bool qh)) (fun _ hk=>hk.2) (.slice qc qe.length qa)) (fun _ hk=>hk.2) (.int .i64 qn)) (fun _ h_=>h_.1)) (fun _ h_=>h_.1)) pl) (Kd.Zaz ho42z) hb);replace qk:=am (Kd.Zdq (Kd.Za (Kd.Zh (Kd.Zh (Kd.Zr (p:=⟨gb5z,2,none⟩) (Kd.Zr (p:=⟨gb5z,1,none⟩) (Kd.Zr (p:=⟨gb5z,0,none⟩) (Kd.Zr (p:=⟨gb0z,2,none⟩) (Kd.Zr (p:=⟨gb0z,1,none⟩) (Kd.Zr (p:=⟨gb0z,0,none⟩) (Kd.Zaa (Kd.Zaa qk.o BK2z.o (by decide)) BK7z.o (by decide)) (fun _ hk=>hk.1.2) (.bool qi)) (fun _ hk=>hk.1.2) (.slice qd qg.length qb)) (fun _ hk=>hk.1.2) (.int .i64 qm)) (fun _ hk=>hk.2) (.bool qh)) (fun _ hk=>hk.2) (.slice qc qe.length qa)) (fun _ hk=>hk.2) (.int .i64 qn)) (fun _ h_=>h_.1)) (fun _ h_=>h_.1)) pl) (Kd.Zaz ho42z) hb);replace BK2z:=am (Zb (g:=gb0z) (o:=.cells #[.bool qi,.slice qd qg.length qb,.int .i64 qm] 30 (0,0)) (by refine bq ?_ qq;refine bq ?_ qq;refine bq ?_ qq;exact p3 BK2z) hb);replace BK7z:=am (Zb (g:=gb5z) (o:=.cells #[.bool qh,.slice qc qe.length qa,.int .i64 qn] 30 (0,0)) (by refine bp ?_;refine Za2 (cs:=#[.bool qh,.slice qc qe.length qa,.int .i64 a1_2]) ?_ 2 _ rfl;refine bp ?_;refine Za2 (cs:=#[.bool qh,.slice A1_1 l1_1.length c1_1,.int .i64 a1_2]) ?_ 1 _ rfl;refine bp ?_;refine Za2 (cs:=#[.bool a1_0,.slice A1_1 l1_1.length c1_1,.int .i64 a1_2]) ?_ 0 _ rfl;refine bq ?_ qr;refine bq ?_ qr;refine bq ?_ qr;exact bp BK7z.o) hb);replace ql:=am (Zb (g:=qp) (o:=.cells #[.bool false,.slice none 0 0,.int .i64 0] 30 (0,0)) (by refine bq ?_ qs;refine bq ?_ qs;refine bq ?_ qs;refine bq ?_ qo;refine bq ?_ qo;refine bq ?_ qo;exact bp ql.o) hb);replace HB:=bS hb;obtain ⟨qt,qu,q3⟩:=Kd.Zj qy.o;subst q3;obtain ⟨q6,q7,q8,jc,jd,je⟩:=cEc BK2z.o;obtain ⟨q9,ja,jb,jf,jg,jh⟩:=cEc ql.o)|(refine gL (some 30) Tryz.func85 #[.slice qd qg.length qb,.slice qc qe.length qa] (h:=?_);(with_reducible refine (Zt.calls k _ _ qg _ _ qe qv _ ?side1 ?side2 ?side3 ?side4 A5.o).mono ?_);(case side1=>refine (Kd.Zc (e:=3) (base:=w.heap.size) (ok:=fun k_=>some k_ ≠ (.slice qc qe.length qa:Value).ownBlock) (n:=qg.length) (c:=qb) ?_).2.2;exact (Kd.Za (Kd.Zh (Kd.Zh (Kd.Zr (p:=⟨gb5z,2,none⟩) (Kd.Zr (p:=⟨gb5z,1,none⟩) (Kd.Zr (p:=⟨gb5z,0,none⟩) (Kd.Zr (p:=⟨gb0z,2,none⟩) (Kd.Zr (p:=⟨gb0z,1,none⟩) (Kd.Zr (p:=⟨gb0z,0,none⟩) (Kd.Zaa (Kd.Zaa qj.o BK2z.o (by decide)) BK7z.o (by decide)) (fun _ hk=>hk.1.2) (.bool qi)) (fun _ hk=>hk.1.2) (.slice qd qg.length qb)) (fun _ hk=>hk.1.2) (.int .i64 qm)) (fun _ hk=>hk.2) (.bool qh)) (fun _ hk=>hk.2) (.slice qc qe.length qa)) (fun _ hk=>hk.2) (.int .i64 qn)) (fun _ h_=>h_.1)) (fun _ h_=>h_.1)) pl));(case side2=>exact (Kd.Zc qj.o).2.1);(case side3=>refine (Kd.Zc (e:=3) (base:=w.heap.size) (ok:=fun k_=>some k_ ≠ (.slice qd qg.length qb:Value).ownBlock) (n:=qe.length) (c:=qa) ?_).2.2;exact (Kd.Za (Kd.Zh (Kd.Zh (Kd.Zr (p:=⟨gb5z,2,none⟩) (Kd.Zr (p:=⟨gb5z,1,none⟩) (Kd.Zr (p:=⟨gb5z,0,none⟩) (Kd.Zr (p:=⟨gb0z,2,none⟩) (Kd.Zr (p:=⟨gb0z,1,none⟩) (Kd.Zr (p:=⟨gb0z,0,none⟩) (Kd.Zaa (Kd.Zaa qk.o BK2z.o (by decide)) BK7z.o (by decide)) (fun _ hk=>hk.1.2) (.bool qi)) (fun _ hk=>hk.1.2) (.slice qd qg.length qb)) (fun _ hk=>hk.1.2) (.int .i64 qm)) (fun _ hk=>hk.2) (.bool qh)) (fun _ hk=>hk.2) (.slice qc qe.length qa)) (fun _ hk=>hk.2) (.int .i64 qn)) (fun _ h_=>h_.1)) (fun _ h_=>h_.1)) pl));(case side4=>exact (Kd.Zc qk.o).2.1);rintro e w64z ⟨v65z,rfl,ho42z,hb⟩;refine ⟨_,rfl,?_⟩;have qy:=am (Kd.Zo (Kd.Zs (Kd.Zs ho42z (Kd.R_lt (Kd.Za (Kd.Zh (Kd.Zh (Kd.Zr (p:=⟨gb5z,2,none⟩) (Kd.Zr (p:=⟨gb5z,1,none⟩) (Kd.Zr (p:=⟨gb5z,0,none⟩) (Kd.Zr (p:=⟨gb0z,2,none⟩) (Kd.Zr (p:=⟨gb0z,1,none⟩) (Kd.Zr (p:=⟨gb0z,0,none⟩) (Kd.Zaa (Kd.Zaa qj.o BK2z.o (by decide)) BK7z.o (by decide)) (fun _ hk=>hk.1.2) (.bool qi)) (fun _ hk=>hk.1.2) (.slice qd qg.length qb)) (fun _ hk=>hk.1.2) (.int .i64 qm)) (fun _ hk=>hk.2) (.bool qh)) (fun _ hk=>hk.2) (.slice qc qe.length qa)) (fun _ hk=>hk.2) (.int .i64 qn)) (fun _ h_=>h_.1)) (fun _ h_=>h_.1)) pl))) (Kd.R_lt (Kd.Za (Kd.Zh (Kd.Zh (Kd.Zr (p:=⟨gb5z,2,none⟩) (Kd.Zr (p:=⟨gb5z,1,none⟩) (Kd.Zr (p:=⟨gb5z,0,none⟩) (Kd.Zr (p:=⟨gb0z,2,none⟩) (Kd.Zr (p:=⟨gb0z,1,none⟩) (Kd.Zr (p:=⟨gb0z,0,none⟩) (Kd.Zaa (Kd.Zaa qk.o BK2z.o (by decide)) BK7z.o (by decide)) (fun _ hk=>hk.1.2) (.bool qi)) (fun _ hk=>hk.1.2) (.slice qd qg.length qb)) (fun _ hk=>hk.1.2) (.int .i64 qm)) (fun _ hk=>hk.2) (.bool qh)) (fun _ hk=>hk.2) (.slice qc qe.length qa)) (fun _ hk=>hk.2) (.int .i64 qn)) (fun _ h_=>h_.1)) (fun _ h_=>h_.1)) pl))) (Zd pB));replace qj:=am (Kd.Zdq (Kd.Za (Kd.Zh (Kd.Zh (Kd.Zr (p:=⟨gb5z,2,none⟩) (Kd.Zr (p:=⟨gb5z,1,none⟩) (Kd.Zr (p:=⟨gb5z,0,none⟩) (Kd.Zr (p:=⟨gb0z,2,none⟩) (Kd.Zr (p:=⟨gb0z,1,none⟩) (Kd.Zr (p:=⟨gb0z,0,none⟩) (Kd.Zaa (Kd.Zaa qj.o BK2z.o (by decide)) BK7z.o (by decide)) (fun _ hk=>hk.1.2) (.bool qi)) (fun _ hk=>hk.1.2) (.slice qd qg.length qb)) (fun _ hk=>hk.1.2) (.int .i64 qm)) (fun _ hk=>hk.2) (.bool qh)) (fun _ hk=>hk.2) (.slice qc qe.length qa)) (fun _ hk=>hk.2) (.int .i64 qn)) (fun _ h_=>h_.1)) (fun _ h_=>h_.1)) pl) (Kd.Zaz ho42z) hb);replace qk:=am (Kd.Zdq (Kd.Za (Kd.Zh (Kd.Zh (Kd.Zr (p:=⟨gb5z,2,none⟩) (Kd.Zr (p:=⟨gb5z,1,none⟩) (Kd.Zr (p:=⟨gb5z,0,none⟩) (Kd.Zr (p:=⟨gb0z,2,none⟩) (Kd.Zr (p:=⟨gb0z,1,none⟩) (Kd.Zr (p:=⟨gb0z,0,none⟩) (Kd.Zaa (Kd.Zaa qk.o BK2z.o (by decide)) BK7z.o (by decide)) (fun _ hk=>hk.1.2) (.bool qi)) (fun _ hk=>hk.1.2) (.slice qd qg.length qb)) (fun _ hk=>hk.1.2) (.int .i64 qm)) (fun _ hk=>hk.2) (.bool qh)) (fun _ hk=>hk.2) (.slice qc qe.length qa)) (fun _ hk=>hk.2) (.int .i64 qn)) (fun _ h_=>h_.1)) (fun _ h_=>h_.1)) pl) (Kd.Zaz ho42z) hb);replace BK2z:=am (Zb (g:=gb0z) (o:=.cells #[.bool qi,.slice qd qg.length qb,.int .i64 qm] 30 (0,0)) (by refine bq ?_ qq;refine bq ?_ qq;refine bq ?_ qq;exact p3 BK2z) hb);replace BK7z:=am (Zb (g:=gb5z) (o:=.cells #[.bool qh,.slice qc qe.length qa,.int .i64 qn] 30 (0,0)) (by refine bp ?_;refine Za2 (cs:=#[.bool qh,.slice qc qe.length qa,.int .i64 a1_2]) ?_ 2 _ rfl;refine bp ?_;refine Za2 (cs:=#[.bool qh,.slice A1_1 l1_1.length c1_1,.int .i64 a1_2]) ?_ 1 _ rfl;refine bp ?_;refine Za2 (cs:=#[.bool a1_0,.slice A1_1 l1_1.length c1_1,.int .i64 a1_2]) ?_ 0 _ rfl;refine bq ?_ qr;refine bq ?_ qr;refine bq ?_ qr;exact bp BK7z.o) hb);replace ql:=am (Zb (g:=qp) (o:=.cells #[.bool false,.slice none 0 0,.int .i64 0] 30 (0,0)) (by refine bq ?_ qs;refine bq ?_ qs;refine bq ?_ qs;refine bq ?_ qo;refine bq ?_ qo;refine bq ?_ qo;exact bp ql.o) hb);replace HB:=bS hb;obtain ⟨qt,qu,q3⟩:=Kd.Zj qy.o;subst q3;obtain ⟨q6,q7,q8,jc,jd,je⟩:=cEc BK2z.o;obtain ⟨q9,ja,jb,jf,jg,jh⟩:=cEc ql.o))
 first
  | have q_:=A25
    refine bodyPost_ret (results_cell_row rfl _ _ qp 30 #[.bool qi,.slice qt qw.length qu,.int .i64 qm] (0,0) _ rfl (by refine bp ?_;refine Za2 (cs:=#[.bool qi,.slice qt qw.length qu,.int .i64 0]) ?_ 2 _ rfl;refine bp ?_;refine Za2 (cs:=#[.bool qi,.slice none 0 0,.int .i64 0]) ?_ 1 _ rfl;refine bp ?_;refine Za2 (cs:=#[.bool false,.slice none 0 0,.int .i64 0]) ?_ 0 _ rfl;refine bq ?_ qo;exact bp ql.o) Tryz.underlying30 rfl (by kernel_rfl)) rfl ?_
    exact ⟨_,pE,by refine rp ?_;exact Kd.Zh (Kd.Zr (p:=⟨qp,2,none⟩) (Kd.Zr (p:=⟨qp,1,none⟩) (Kd.Zr (p:=⟨qp,0,none⟩) (Kd.Zr (p:=⟨gb0z,1,none⟩) (Kd.Zaa (Kd.Zaa qy.o BK2z.o (by decide)) ql.o (by decide)) (fun _ hk=>hk.1.2) (.slice qt qw.length qu)) (fun _ hk=>hk.2) (.bool qi)) (fun _ hk=>hk.2) (.slice qt qw.length qu)) (fun _ hk=>hk.2) (.int .i64 qm)) (fun _ hk=>trivial),pB⟩
  | have q_:=A43
    have n0_:Aside0 (Kd.R (Kd.int .i64) 3 ((((((w39z.setCell ⟨gb0z,0,none⟩ (.bool qi)).setCell ⟨gb0z,1,none⟩ (.slice qd qg.length qb)).setCell ⟨gb0z,2,none⟩ (.int .i64 qm)).setCell ⟨gb5z,0,none⟩ (.bool qh)).setCell ⟨gb5z,1,none⟩ (.slice qc qe.length qa)).setCell ⟨gb5z,2,none⟩ (.int .i64 qn)) w.heap.size (fun k_=>some k_ ≠ (.slice qc qe.length qa:Value).ownBlock) (.slice qd qg.length qb) qg):=⟨by refine rp ?_;exact Kd.Zh (Kd.Zr (p:=⟨gb5z,2,none⟩) (Kd.Zr (p:=⟨gb5z,1,none⟩) (Kd.Zr (p:=⟨gb5z,0,none⟩) (Kd.Zr (p:=⟨gb0z,2,none⟩) (Kd.Zr (p:=⟨gb0z,1,none⟩) (Kd.Zr (p:=⟨gb0z,0,none⟩) (Kd.Zaa (Kd.Zaa qj.o BK2z.o (by decide)) BK7z.o (by decide)) (fun _ hk=>hk.1.2) (.bool qi)) (fun _ hk=>hk.1.2) (.slice qd qg.length qb)) (fun _ hk=>hk.1.2) (.int .i64 qm)) (fun _ hk=>hk.2) (.bool qh)) (fun _ hk=>hk.2) (.slice qc qe.length qa)) (fun _ hk=>hk.2) (.int .i64 qn)) (fun _ hk=>hk.1.1)⟩
    have n1_:Aside0 (Kd.R (Kd.int .i64) 3 ((((((w39z.setCell ⟨gb0z,0,none⟩ (.bool qi)).setCell ⟨gb0z,1,none⟩ (.slice qd qg.length qb)).setCell ⟨gb0z,2,none⟩ (.int .i64 qm)).setCell ⟨gb5z,0,none⟩ (.bool qh)).setCell ⟨gb5z,1,none⟩ (.slice qc qe.length qa)).setCell ⟨gb5z,2,none⟩ (.int .i64 qn)) w.heap.size (fun k_=>some k_ ≠ (.slice qd qg.length qb:Value).ownBlock) (.slice qc qe.length qa) qe):=⟨by refine rp ?_;exact Kd.Zh (Kd.Zr (p:=⟨gb5z,2,none⟩) (Kd.Zr (p:=⟨gb5z,1,none⟩) (Kd.Zr (p:=⟨gb5z,0,none⟩) (Kd.Zr (p:=⟨gb0z,2,none⟩) (Kd.Zr (p:=⟨gb0z,1,none⟩) (Kd.Zr (p:=⟨gb0z,0,none⟩) (Kd.Zaa (Kd.Zaa qk.o BK2z.o (by decide)) BK7z.o (by decide)) (fun _ hk=>hk.1.2) (.bool qi)) (fun _ hk=>hk.1.2) (.slice qd qg.length qb)) (fun _ hk=>hk.1.2) (.int .i64 qm)) (fun _ hk=>hk.2) (.bool qh)) (fun _ hk=>hk.2) (.slice qc qe.length qa)) (fun _ hk=>hk.2) (.int .i64 qn)) (fun _ hk=>hk.1.1)⟩
    have n2_:Aside0 (((((((w39z.setCell ⟨gb0z,0,none⟩ (.bool qi)).setCell ⟨gb0z,1,none⟩ (.slice qd qg.length qb)).setCell ⟨gb0z,2,none⟩ (.int .i64 qm)).setCell ⟨gb5z,0,none⟩ (.bool qh)).setCell ⟨gb5z,1,none⟩ (.slice qc qe.length qa)).setCell ⟨gb5z,2,none⟩ (.int .i64 qn)).heap[gb0z]? = some (.cells #[.bool qi,.slice qd qg.length qb,.int .i64 qm] 30 (0,0))):=⟨by refine bq ?_ qq;refine bq ?_ qq;refine bq ?_ qq;exact p3 BK2z⟩
    have n3_:Aside0 (((((((w39z.setCell ⟨gb0z,0,none⟩ (.bool qi)).setCell ⟨gb0z,1,none⟩ (.slice qd qg.length qb)).setCell ⟨gb0z,2,none⟩ (.int .i64 qm)).setCell ⟨gb5z,0,none⟩ (.bool qh)).setCell ⟨gb5z,1,none⟩ (.slice qc qe.length qa)).setCell ⟨gb5z,2,none⟩ (.int .i64 qn)).heap[gb5z]? = some (.cells #[.bool qh,.slice qc qe.length qa,.int .i64 qn] 30 (0,0))):=⟨by refine bp ?_;refine Za2 (cs:=#[.bool qh,.slice qc qe.length qa,.int .i64 a1_2]) ?_ 2 _ rfl;refine bp ?_;refine Za2 (cs:=#[.bool qh,.slice A1_1 l1_1.length c1_1,.int .i64 a1_2]) ?_ 1 _ rfl;refine bp ?_;refine Za2 (cs:=#[.bool a1_0,.slice A1_1 l1_1.length c1_1,.int .i64 a1_2]) ?_ 0 _ rfl;refine bq ?_ qr;refine bq ?_ qr;refine bq ?_ qr;exact bp BK7z.o⟩
    have n4_:Aside0 (((((((w39z.setCell ⟨gb0z,0,none⟩ (.bool qi)).setCell ⟨gb0z,1,none⟩ (.slice qd qg.length qb)).setCell ⟨gb0z,2,none⟩ (.int .i64 qm)).setCell ⟨gb5z,0,none⟩ (.bool qh)).setCell ⟨gb5z,1,none⟩ (.slice qc qe.length qa)).setCell ⟨gb5z,2,none⟩ (.int .i64 qn)).heap[qp]? = some (.cells #[.bool false,.slice none 0 0,.int .i64 0] 30 (0,0))):=⟨by refine bq ?_ qs;refine bq ?_ qs;refine bq ?_ qs;refine bq ?_ qo;refine bq ?_ qo;refine bq ?_ qo;exact bp ql.o⟩
    have n5_:Aside0 (Below w.heap.size w ((((((w39z.setCell ⟨gb0z,0,none⟩ (.bool qi)).setCell ⟨gb0z,1,none⟩ (.slice qd qg.length qb)).setCell ⟨gb0z,2,none⟩ (.int .i64 qm)).setCell ⟨gb5z,0,none⟩ (.bool qh)).setCell ⟨gb5z,1,none⟩ (.slice qc qe.length qa)).setCell ⟨gb5z,2,none⟩ (.int .i64 qn))):=⟨pB⟩
    generalize ((((((w39z.setCell ⟨gb0z,0,none⟩ (.bool qi)).setCell ⟨gb0z,1,none⟩ (.slice qd qg.length qb)).setCell ⟨gb0z,2,none⟩ (.int .i64 qm)).setCell ⟨gb5z,0,none⟩ (.bool qh)).setCell ⟨gb5z,1,none⟩ (.slice qc qe.length qa)).setCell ⟨gb5z,2,none⟩ (.int .i64 qn))=w64z at n0_ n1_ n2_ n3_ n4_ n5_ ⊢
    have qj:=n0_
    have qk:=n1_
    have BK2z:=n2_
    have BK7z:=n3_
    have ql:=n4_
    have HB:=n5_
    clear n0_ n1_ n2_ n3_ n4_ n5_
    (try (rw [Zgr w64z];generalize hq_:World.drewN w64z _=w64z;replace qj:Aside0 (Kd.R (Kd.int .i64) 3 w64z w.heap.size (fun k_=>some k_ ≠ (.slice qc qe.length qa:Value).ownBlock) (.slice qd qg.length qb) qg):=⟨by rw [<- hq_];exact (Kd.Za qj.o pl)⟩;replace qk:Aside0 (Kd.R (Kd.int .i64) 3 w64z w.heap.size (fun k_=>some k_ ≠ (.slice qd qg.length qb:Value).ownBlock) (.slice qc qe.length qa) qe):=⟨by rw [<- hq_];exact (Kd.Za qk.o pl)⟩;replace BK2z:Aside0 (w64z.heap[gb0z]? = some (.cells #[.bool qi,.slice qd qg.length qb,.int .i64 qm] 30 (0,0))):=⟨by rw [<- hq_];exact (Zb BK2z.o pl)⟩;replace BK7z:Aside0 (w64z.heap[gb5z]? = some (.cells #[.bool qh,.slice qc qe.length qa,.int .i64 qn] 30 (0,0))):=⟨by rw [<- hq_];exact (Zb BK7z.o pl)⟩;replace ql:Aside0 (w64z.heap[qp]? = some (.cells #[.bool false,.slice none 0 0,.int .i64 0] 30 (0,0))):=⟨by rw [<- hq_];exact (Zb ql.o pl)⟩;replace HB:Aside0 (Below w.heap.size w w64z):=⟨by rw [<- hq_];exact pB⟩;clear hq_))
    replace qj:=am (Kd.Zc1 qj.o)
    replace qk:=am (Kd.Zc1 qk.o)
    replace BK2z:=am (Zar BK2z.o)
    replace BK7z:=am (Zar BK7z.o)
    replace ql:=am (Zar ql.o)
    replace HB:=am (Zav HB.o)
    refine start_ (n:=11) (S:=fun w'=>w'.cell? ⟨gb5z,0,none⟩=some (.bool qh)/\w'.cell? ⟨gb5z,1,none⟩=some (.slice qc qe.length qa)/\w'.cell? ⟨gb5z,2,none⟩=some (.int .i64 qn)/\w'.cell? ⟨gb0z,0,none⟩=some (.bool qi)/\w'.cell? ⟨gb0z,1,none⟩=some (.slice qd qg.length qb)/\w'.cell? ⟨gb0z,2,none⟩=some (.int .i64 qm)) (ds:=[8,10]) #[false,false,false,false,false,false,false,false,false,false,false] (by kernel_rfl) rfl rfl ⟨k0 BK7z 0,k0 BK7z 1,k0 BK7z 2,k0 BK2z 0,k0 BK2z 1,k0 BK2z 2⟩ (fun hHeld=>?_);refine Zb6 Zae.tab2 Zae.bits2 (fun HT_ HW_=>?_)
    generalize w64z.drew=w65z at qj qk BK2z BK7z ql HB hHeld ⊢
    refine pu 0 (some 11) #[true,false,false,false,false,false,false,false,false,false,false] (h:=?_)
    refine pu 2 (some 13) #[true,false,true,false,false,false,false,false,false,false,false] (h:=?_)
    refine pu 4 (some 15) #[true,false,true,false,true,false,false,false,false,false,false] (h:=?_)
    refine take_ (i:=1) (N:=some 12) (v:=?_) (a':=?_) #[true,true,true,false,true,false,false,false,false,false,false] rfl rfl (Zay HT_.out HW_.out (by kernel_rfl)) (fun _ _ _ h=>h) (Or.inl ⟨by rfl,?_⟩) hHeld ?_ ?_
    rotate_left
    ·rintro w' ⟨s66z,s67z,s68z,s69z,s70z,s71z⟩
     go_simp
     with_reducible rfl
    rotate_left
    ·exact pP
    refine take_ (i:=3) (N:=some 14) (v:=?_) (a':=?_) #[true,true,true,true,true,false,false,false,false,false,false] rfl rfl (Zay HT_.out HW_.out (by kernel_rfl)) (fun _ _ _ h=>h) (Or.inl ⟨by rfl,?_⟩) hHeld ?_ ?_
    rotate_left
    ·rintro w' ⟨s66z,s67z,s68z,s69z,s70z,s71z⟩
     go_simp
     with_reducible rfl
    rotate_left
    ·exact pP
    refine take_ (i:=5) (N:=some 16) (v:=?_) (a':=?_) #[true,true,true,true,true,true,false,false,false,false,false] rfl rfl (Zay HT_.out HW_.out (by kernel_rfl)) (fun _ _ _ h=>h) (Or.inl ⟨by rfl,?_⟩) hHeld ?_ ?_
    rotate_left
    ·rintro w' ⟨s66z,s67z,s68z,s69z,s70z,s71z⟩
     go_simp
     with_reducible rfl
    rotate_left
    ·exact pP
    refine pu 7 (some 18) #[true,true,true,true,true,true,false,true,false,false,false] (h:=?_)
    refine one_ (i:=6) (N:=some 17) #[true,true,true,true,true,true,true,true,false,false,false] rfl rfl (Zbh HT_.out (by kernel_rfl)) (by decide) (fun K hK=>?_)
    refine goes_ Tryz.func134 (by kernel_rfl) rfl #[.slice qc qe.length qa,.slice qd qg.length qb] (by rfl) rfl rfl pA ?_
    with_reducible refine (Zy.calls k _ _ qe _ _ qg qx _ ?side1 ?side2 ?side3 ?side4 A43.o).mono ?_
    (case side1=>exact Kd.Zn (Kd.Zc qk.o).2.2 pl)
    (case side2=>exact (Kd.Zc qk.o).2.1)
    (case side3=>exact Kd.Zn (Kd.Zc qj.o).2.2 pl)
    (case side4=>exact (Kd.Zc qj.o).2.1)
    rintro e w72z ⟨v73z,rfl,ho42z,hb⟩
    refine ⟨_,rfl,?_⟩
    have q4:=am (Kd.Zo (Kd.Zs (Kd.Zs ho42z (Kd.R_lt (Kd.Za qj.o pl))) (Kd.R_lt (Kd.Za qk.o pl))) (Zd pB))
    replace qj:=reR qj ho42z hb
    replace qk:=reR qk ho42z hb
    replace BK2z:=bb BK2z hb
    replace BK7z:=bb BK7z hb
    replace ql:=bb ql hb
    replace HB:=bS hb
    obtain ⟨q0,q1,q5⟩:=Kd.Zj q4.o
    (first|subst q5|(injection q5 with f1_ f2_ f3_;have f4_:=f1_.symm;have f5_:=f3_.symm;clear f1_ f2_ f3_;subst f4_;subst f5_))
    refine hK.out _ _ ⟨k0 BK7z 0,k0 BK7z 1,k0 BK7z 2,k0 BK2z 0,k0 BK2z 1,k0 BK2z 2⟩ (fun hHeld=>?_)
    clear hK K
    refine norm_ (a':=?_) ?_ ?_
    rotate_left
    ·show Act.put _ (some 17) _=_
     exact pP
    refine last_ (i:=8) (N:=none) #[true,true,true,true,true,true,true,true,true,false,false] rfl rfl (Zbh HT_.out (by kernel_rfl)) (by decide) (fun K hK=>?_)
    have hs78z:w72z.cell? ⟨gb0z,0,none⟩=some (.bool qi):=k0 BK2z 0
    have hfs79z:=Zbi BK2z.o 0
    have hns80z:=qr.o
    have hns81z:=qo.o
    have hms82z:=qq.o
    have hms83z:=q2.o
    refine skip_ (w1:=?_) (by rfl) rfl ?_ ?_
    rotate_left
    ·go_simp
     rfl
    refine hK.out _ _ ?_
    clear hK K
    refine pu 9 (some 19) #[true,true,true,true,true,true,true,true,true,true,false] (h:=?_)
    refine last_ (i:=10) (N:=none) #[true,true,true,true,true,true,true,true,true,true,true] rfl rfl (Zbh HT_.out (by kernel_rfl)) (by decide) (fun K hK=>?_)
    have hs84z:w72z.cell? ⟨gb0z,1,none⟩=some (.slice qd qg.length qb):=k0 BK2z 1
    have hfs85z:=Zbi BK2z.o 1
    have hns86z:=qr.o
    have hns87z:=qo.o
    have hms88z:=qq.o
    have hms89z:=q2.o
    refine skip_ (w1:=?_) (by rfl) rfl ?_ ?_
    rotate_left
    ·go_simp
     rfl
    refine hK.out _ _ ?_
    clear hK K
    refine done_ (Zde HT_.out (by kernel_rfl)) ?_
    obtain ⟨_,_,_,_,_,_⟩:=cEc BK2z.o
    obtain ⟨_,_,_,_,_,_⟩:=cEc ql.o
    try go_wp2
    refine bodyPost_ret (results_cell_row rfl _ _ qp 30 #[.bool qh,.slice q0 qx.length q1,.int .i64 qm] (0,0) _ rfl (by refine bp ?_;refine Za2 (cs:=#[.bool qh,.slice q0 qx.length q1,.int .i64 0]) ?_ 2 _ rfl;refine bp ?_;refine Za2 (cs:=#[.bool qh,.slice none 0 0,.int .i64 0]) ?_ 1 _ rfl;refine bp ?_;refine Za2 (cs:=#[.bool false,.slice none 0 0,.int .i64 0]) ?_ 0 _ rfl;refine bq ?_ qo;refine bq ?_ qo;exact bp ql.o) Tryz.underlying30 rfl (by kernel_rfl)) rfl ?_
    exact ⟨_,pE,by refine rp ?_;exact Kd.Zh (Kd.Zr (p:=⟨qp,2,none⟩) (Kd.Zr (p:=⟨qp,1,none⟩) (Kd.Zr (p:=⟨qp,0,none⟩) (Kd.Zr (p:=⟨gb0z,1,none⟩) (Kd.Zr (p:=⟨gb0z,0,none⟩) (Kd.Zaa (Kd.Zaa q4.o BK2z.o (by decide)) ql.o (by decide)) (fun _ hk=>hk.1.2) (.bool qh)) (fun _ hk=>hk.1.2) (.slice q0 qx.length q1)) (fun _ hk=>hk.2) (.bool qh)) (fun _ hk=>hk.2) (.slice q0 qx.length q1)) (fun _ hk=>hk.2) (.int .i64 qm)) (fun _ hk=>trivial),pB⟩
  | refine bodyPost_ret (results_cell_row rfl _ _ qp 30 #[.bool qi,.slice qt qv.length qu,.int .i64 qm] (0,0) _ rfl (by refine bp ?_;refine Za2 (cs:=#[.bool qi,.slice qt qv.length qu,.int .i64 0]) ?_ 2 _ rfl;refine bp ?_;refine Za2 (cs:=#[.bool qi,.slice none 0 0,.int .i64 0]) ?_ 1 _ rfl;refine bp ?_;refine Za2 (cs:=#[.bool false,.slice none 0 0,.int .i64 0]) ?_ 0 _ rfl;refine bq ?_ qo;exact bp ql.o) Tryz.underlying30 rfl (by kernel_rfl)) rfl ?_
    exact ⟨_,pE,by refine rp ?_;exact Kd.Zh (Kd.Zr (p:=⟨qp,2,none⟩) (Kd.Zr (p:=⟨qp,1,none⟩) (Kd.Zr (p:=⟨qp,0,none⟩) (Kd.Zr (p:=⟨gb0z,1,none⟩) (Kd.Zaa (Kd.Zaa qy.o BK2z.o (by decide)) ql.o (by decide)) (fun _ hk=>hk.1.2) (.slice qt qv.length qu)) (fun _ hk=>hk.2) (.bool qi)) (fun _ hk=>hk.2) (.slice qt qv.length qu)) (fun _ hk=>hk.2) (.int .i64 qm)) (fun _ hk=>trivial),pB⟩):P:=h
theorem Zae.calls (k:Nat) (a0_0:Bool) (A0_1:Option Addr) (c0_1:Nat) (l0_1:List Int) (a0_2:Int) (a1_0:Bool) (A1_1:Option Addr) (c1_1:Nat) (l1_1:List Int) (a1_2:Int) (r1:Bool) (r2:List Int) (r3:Int) (w:World) (hr0_1:Kd.C (Kd.int .i64) w A0_1 l0_1.length l0_1) (hc0_1:l0_1.length<=c0_1) (hr1_1:Kd.C (Kd.int .i64) w A1_1 l1_1.length l1_1) (hc1_1:l1_1.length<=c1_1) (h:Zae.f k a0_0 l0_1 a0_2 a1_0 l1_1 a1_2=some (r1,r2,r3)) :
  Calls Tryz.prog 77 #[.agg #[.bool a0_0,.slice A0_1 l0_1.length c0_1,.int .i64 a0_2],.agg #[.bool a1_0,.slice A1_1 l1_1.length c1_1,.int .i64 a1_2]] w fun e w' => ∃ v1_:Value,e=.returned (.agg #[.bool r1,v1_,.int .i64 r3])/\Kd.R (Kd.int .i64) 3 w' w.heap.size (fun _=>True) v1_ r2/\Below w.heap.size w w':=by
 have hu30:=Tryz.underlying30
 have HR0_1:=am hr0_1
 have HC0_1:=am hc0_1
 clear hr0_1 hc0_1
 have HR1_1:=am hr1_1
 have HC1_1:=am hc1_1
 clear hr1_1 hc1_1
 have HB:=am (Below.refl w.heap.size w)
 have H:((Zch.f a0_0 l0_1 a0_2 a1_0 l1_1 a1_2).bind fun qf=>(if (qf.1 == qf.2.2.2.1)=true then ((Zt.f k qf.2.1 qf.2.2.2.2.1).bind fun qv=>(some (qf.1,qv,qf.2.2.1))) else ((Zas.f k qf.2.1 qf.2.2.2.2.1).bind fun qz=>(if qz >= 0 then ((Zy.f k qf.2.1 qf.2.2.2.2.1).bind fun qw=>(some (qf.1,qw,qf.2.2.1))) else ((Zy.f k qf.2.2.2.2.1 qf.2.1).bind fun qx=>(some (qf.2.2.2.1,qx,qf.2.2.1)))))))=some (r1,r2,r3):=h
 clear h
 obtain ⟨⟨qi,qg,qm,qh,qe,qn⟩,A3,H⟩:=ob H;(try dsimp only at H)
 by_cases c4:(qi == qh)=true
 ·rw [if_pos c4] at H
  have c4b0:(qi == qh)=true:=c4
  (try (have c4b1:decide (qi=qh)=true:=by simpa using c4))
  (try (have c4b2:(qi == qh)=true:=by simpa using c4))
  clear c4
  obtain ⟨qv,A5,H⟩:=ob H
  simp only [Option.some.injEq,Prod.mk.injEq] at H
  obtain ⟨rfl,rfl,rfl⟩:=H
  exact Zae.leaf
 ·rw [if_neg c4] at H
  have c4b0:(qi == qh)=false:=by simpa using c4
  (try (have c4b1:decide (qi=qh)=false:=by simpa using c4))
  (try (have c4b2:(qi == qh)=false:=by simpa using c4))
  (try (have c4b3:¬ (qi=qh):=by simpa using c4))
  clear c4
  obtain ⟨qz,A23,H⟩:=ob H
  by_cases c24:qz >= 0
  ·rw [if_pos c24] at H
   have c24b0:decide (0<=qz)=true:=decide_eq_true c24
   clear c24
   obtain ⟨qw,A25,H⟩:=ob H
   simp only [Option.some.injEq,Prod.mk.injEq] at H
   obtain ⟨rfl,rfl,rfl⟩:=H
   exact Zae.leaf
  ·rw [if_neg c24] at H
   have c24b0:decide (0<=qz)=false:=decide_eq_false c24
   clear c24
   obtain ⟨qx,A43,H⟩:=ob H
   simp only [Option.some.injEq,Prod.mk.injEq] at H
   obtain ⟨rfl,rfl,rfl⟩:=H
   exact Zae.leaf
def Zai.f (k:Nat) (a0_0:Bool) (l0_1:List Int) (a0_2:Int) (a1_0:Bool) (l1_1:List Int) (a1_2:Int):Option (Int):=(Zu.f k a0_0 l0_1 a0_2).bind fun qx=>((Zu.f k a1_0 l1_1 a1_2).bind fun qy=>((Za8.f qy.1 qy.2.1 qy.2.2).bind fun qz=>((Zae.f k qx.1 qx.2.1 qx.2.2 qz.1 qz.2.1 qz.2.2).bind fun q3=>(if (q3.2.1.length:Int)=0 then (some 0) else (if q3.1=true then (some (-1)) else (some 1))))))
def Zai.T1:Bool × List (List Nat × List Nat):=(true,[([],[]),([0],[0]),([],[]),([2,1],[2]),([3,3],[3]),([1,4,4],[1,4]),([],[]),([6,5,5,0,1,2,3,4,5,6],[5,6])])
def Zai.B1:List Nat:=[0,1,0,7,15,31,0,127]
theorem Zai.tab1:rtab .any (opsOf Tryz.f81 1)=Zai.T1:=by kernel_rfl
theorem Zai.bits1:waitsOk Zai.T1.2 Zai.B1=true:=by kernel_rfl
theorem Zai.leaf {P:Prop} (h:P:=by
 go_enter Tryz.func81,Tryz.ntmps81
 try go_wp2_with (first|((with_reducible refine gd 2 ?_);refine bx 2 #[.bool a0_0,.slice A0_1 l0_1.length c0_1,.int .i64 a0_2] 24 (h:=?_);intro gb0z hg w1z hbox hb;have BK2z:=am hbox;have GW3z:=gW hg;replace HB:=bS hb;clear hb hbox hg)|((with_reducible refine gd 3 ?_);refine bx 3 #[.bool a1_0,.slice A1_1 l1_1.length c1_1,.int .i64 a1_2] 24 (h:=?_);intro gb5z hg w6z hbox hb;have BK7z:=am hbox;have GW8z:=gW hg;have jr:=nL hg BK2z;have js:=nG hg BK2z;replace BK2z:=bb BK2z hb;replace HB:=bS hb;clear hb hbox hg))
 replace BK2z:=am (Zar BK2z.o)
 replace BK7z:=am (Zar BK7z.o)
 replace HB:=am (Zav HB.o)
 refine start_ (n:=8) (S:=fun w'=>w'.cell? ⟨gb0z,0,none⟩=some (.bool a0_0)/\w'.cell? ⟨gb0z,1,none⟩=some (.slice A0_1 l0_1.length c0_1)/\w'.cell? ⟨gb0z,2,none⟩=some (.int .i64 a0_2)/\w'.cell? ⟨gb5z,0,none⟩=some (.bool a1_0)/\w'.cell? ⟨gb5z,1,none⟩=some (.slice A1_1 l1_1.length c1_1)/\w'.cell? ⟨gb5z,2,none⟩=some (.int .i64 a1_2)) (ds:=[]) #[false,false,false,false,false,false,false,false] (by kernel_rfl) rfl rfl ⟨k0 BK2z 0,k0 BK2z 1,k0 BK2z 2,k0 BK7z 0,k0 BK7z 1,k0 BK7z 2⟩ (fun hHeld=>?_);refine Zb6 Zai.tab1 Zai.bits1 (fun HT_ HW_=>?_)
 generalize w6z.drew=w12z at BK2z BK7z HB hHeld ⊢
 refine take_ (i:=0) (N:=some 6) (v:=?_) (a':=?_) #[true,false,false,false,false,false,false,false] rfl rfl (Zay HT_.out HW_.out (by kernel_rfl)) (fun _ _ _ h=>h) (Or.inl ⟨by rfl,?_⟩) hHeld ?_ ?_
 rotate_left
 ·rintro w' ⟨s13z,s14z,s15z,s16z,s17z,s18z⟩
  go_simp
  with_reducible rfl
 rotate_left
 ·exact pP
 refine take_ (i:=2) (N:=some 8) (v:=?_) (a':=?_) #[true,false,true,false,false,false,false,false] rfl rfl (Zay HT_.out HW_.out (by kernel_rfl)) (fun _ _ _ h=>h) (Or.inl ⟨by rfl,?_⟩) hHeld ?_ ?_
 rotate_left
 ·rintro w' ⟨s13z,s14z,s15z,s16z,s17z,s18z⟩
  go_simp
  with_reducible rfl
 rotate_left
 ·exact pP
 first|(have q_:((qj.length:Int) != 0)=false:=c7b1;refine join_ (σ:=Value × Value × Value × Value × Nat) 1 #[true,true,true,true,true,true,true,false] (fun s_=>[(7,.agg #[.bool qo,s_.1,.int .i64 qp]),(9,.agg #[.bool qt,s_.2.1,.int .i64 qu]),(10,.agg #[.bool qq,s_.2.2.1,.int .i64 qr]),(11,.agg #[.bool ja,s_.2.2.2.1,.int .i64 qw]),(5,.pointer (some ⟨s_.2.2.2.2,0,none⟩))]) (fun s_ w'=>(w'.cell? ⟨gb0z,0,none⟩=some (.bool a0_0)/\w'.cell? ⟨gb0z,1,none⟩=some (.slice A0_1 l0_1.length c0_1)/\w'.cell? ⟨gb0z,2,none⟩=some (.int .i64 a0_2)/\w'.cell? ⟨gb5z,0,none⟩=some (.bool a1_0)/\w'.cell? ⟨gb5z,1,none⟩=some (.slice A1_1 l1_1.length c1_1)/\w'.cell? ⟨gb5z,2,none⟩=some (.int .i64 a1_2))/\(Kd.R (Kd.int .i64) 3 w' w.heap.size (fun k_=>some k_ ≠ (s_.2.2.1:Value).ownBlock/\some k_ ≠ (s_.2.2.2.1:Value).ownBlock) s_.1 qi)/\(Kd.R (Kd.int .i64) 3 w' w.heap.size (fun k_=>some k_ ≠ (s_.1:Value).ownBlock/\some k_ ≠ (s_.2.2.2.1:Value).ownBlock) s_.2.2.1 qn)/\(Kd.R (Kd.int .i64) 3 w' w.heap.size (fun k_=>some k_ ≠ (s_.1:Value).ownBlock/\some k_ ≠ (s_.2.2.1:Value).ownBlock) s_.2.2.2.1 qj)/\(w'.heap[gb0z]? = some (.cells #[.bool a0_0,.slice A0_1 l0_1.length c0_1,.int .i64 a0_2] 24 (0,0)))/\(w'.heap[gb5z]? = some (.cells #[.bool a1_0,.slice A1_1 l1_1.length c1_1,.int .i64 a1_2] 24 (0,0)))/\(w'.heap[s_.2.2.2.2]? = some (.cells #[.bool false,.slice none 0 0,.int .i64 0] 30 (0,0)))/\(w.heap.size<=s_.2.2.2.2)/\(w.heap.size<=s_.2.2.2.2)/\(gb0z ≠ s_.2.2.2.2)/\(s_.2.2.2.2 ≠ gb0z)/\(gb5z ≠ s_.2.2.2.2)/\(s_.2.2.2.2 ≠ gb5z)/\(Below w.heap.size w w')) ?_ ?_)|(have q_:Aside0 (_=some (true,_,_)):=A6;have q_:¬ (qj=[]):=c7b2;refine join_ (σ:=Value × Value × Value × Value × Nat) 1 #[true,true,true,true,true,true,true,false] (fun s_=>[(7,.agg #[.bool qo,s_.1,.int .i64 qp]),(9,.agg #[.bool qt,s_.2.1,.int .i64 qu]),(10,.agg #[.bool qq,s_.2.2.1,.int .i64 qr]),(11,.agg #[.bool true,s_.2.2.2.1,.int .i64 qw]),(5,.pointer (some ⟨s_.2.2.2.2,0,none⟩))]) (fun s_ w'=>(w'.cell? ⟨gb0z,0,none⟩=some (.bool a0_0)/\w'.cell? ⟨gb0z,1,none⟩=some (.slice A0_1 l0_1.length c0_1)/\w'.cell? ⟨gb0z,2,none⟩=some (.int .i64 a0_2)/\w'.cell? ⟨gb5z,0,none⟩=some (.bool a1_0)/\w'.cell? ⟨gb5z,1,none⟩=some (.slice A1_1 l1_1.length c1_1)/\w'.cell? ⟨gb5z,2,none⟩=some (.int .i64 a1_2))/\(Kd.R (Kd.int .i64) 3 w' w.heap.size (fun k_=>some k_ ≠ (s_.2.2.1:Value).ownBlock/\some k_ ≠ (s_.2.2.2.1:Value).ownBlock) s_.1 qi)/\(Kd.R (Kd.int .i64) 3 w' w.heap.size (fun k_=>some k_ ≠ (s_.1:Value).ownBlock/\some k_ ≠ (s_.2.2.2.1:Value).ownBlock) s_.2.2.1 qn)/\(Kd.R (Kd.int .i64) 3 w' w.heap.size (fun k_=>some k_ ≠ (s_.1:Value).ownBlock/\some k_ ≠ (s_.2.2.1:Value).ownBlock) s_.2.2.2.1 qj)/\(w'.heap[gb0z]? = some (.cells #[.bool a0_0,.slice A0_1 l0_1.length c0_1,.int .i64 a0_2] 24 (0,0)))/\(w'.heap[gb5z]? = some (.cells #[.bool a1_0,.slice A1_1 l1_1.length c1_1,.int .i64 a1_2] 24 (0,0)))/\(w'.heap[s_.2.2.2.2]? = some (.cells #[.bool false,.slice none 0 0,.int .i64 0] 30 (0,0)))/\(w.heap.size<=s_.2.2.2.2)/\(w.heap.size<=s_.2.2.2.2)/\(gb0z ≠ s_.2.2.2.2)/\(s_.2.2.2.2 ≠ gb0z)/\(gb5z ≠ s_.2.2.2.2)/\(s_.2.2.2.2 ≠ gb5z)/\(Below w.heap.size w w')) ?_ ?_)|(have q_:Aside0 (_=some (false,_,_)):=A6;have q_:¬ (qj=[]):=c7b2;refine join_ (σ:=Value × Value × Value × Value × Nat) 1 #[true,true,true,true,true,true,true,false] (fun s_=>[(7,.agg #[.bool qo,s_.1,.int .i64 qp]),(9,.agg #[.bool qt,s_.2.1,.int .i64 qu]),(10,.agg #[.bool qq,s_.2.2.1,.int .i64 qr]),(11,.agg #[.bool false,s_.2.2.2.1,.int .i64 qw]),(5,.pointer (some ⟨s_.2.2.2.2,0,none⟩))]) (fun s_ w'=>(w'.cell? ⟨gb0z,0,none⟩=some (.bool a0_0)/\w'.cell? ⟨gb0z,1,none⟩=some (.slice A0_1 l0_1.length c0_1)/\w'.cell? ⟨gb0z,2,none⟩=some (.int .i64 a0_2)/\w'.cell? ⟨gb5z,0,none⟩=some (.bool a1_0)/\w'.cell? ⟨gb5z,1,none⟩=some (.slice A1_1 l1_1.length c1_1)/\w'.cell? ⟨gb5z,2,none⟩=some (.int .i64 a1_2))/\(Kd.R (Kd.int .i64) 3 w' w.heap.size (fun k_=>some k_ ≠ (s_.2.2.1:Value).ownBlock/\some k_ ≠ (s_.2.2.2.1:Value).ownBlock) s_.1 qi)/\(Kd.R (Kd.int .i64) 3 w' w.heap.size (fun k_=>some k_ ≠ (s_.1:Value).ownBlock/\some k_ ≠ (s_.2.2.2.1:Value).ownBlock) s_.2.2.1 qn)/\(Kd.R (Kd.int .i64) 3 w' w.heap.size (fun k_=>some k_ ≠ (s_.1:Value).ownBlock/\some k_ ≠ (s_.2.2.1:Value).ownBlock) s_.2.2.2.1 qj)/\(w'.heap[gb0z]? = some (.cells #[.bool a0_0,.slice A0_1 l0_1.length c0_1,.int .i64 a0_2] 24 (0,0)))/\(w'.heap[gb5z]? = some (.cells #[.bool a1_0,.slice A1_1 l1_1.length c1_1,.int .i64 a1_2] 24 (0,0)))/\(w'.heap[s_.2.2.2.2]? = some (.cells #[.bool false,.slice none 0 0,.int .i64 0] 30 (0,0)))/\(w.heap.size<=s_.2.2.2.2)/\(w.heap.size<=s_.2.2.2.2)/\(gb0z ≠ s_.2.2.2.2)/\(s_.2.2.2.2 ≠ gb0z)/\(gb5z ≠ s_.2.2.2.2)/\(s_.2.2.2.2 ≠ gb5z)/\(Below w.heap.size w w')) ?_ ?_)
 rotate_left
 ·intro hJ1_3_4_5_6
  first|(have q_:((qj.length:Int) != 0)=false:=c7b1;refine join_ (σ:=Value × Value × Value × Value) 2 #[true,true,true,true,true,true,false,false] (fun s_=>[(7,.agg #[.bool qo,s_.1,.int .i64 qp]),(9,.agg #[.bool qt,s_.2.1,.int .i64 qu]),(10,.agg #[.bool qq,s_.2.2.1,.int .i64 qr]),(11,.agg #[.bool ja,s_.2.2.2,.int .i64 qw])]) (fun s_ w'=>(w'.cell? ⟨gb0z,0,none⟩=some (.bool a0_0)/\w'.cell? ⟨gb0z,1,none⟩=some (.slice A0_1 l0_1.length c0_1)/\w'.cell? ⟨gb0z,2,none⟩=some (.int .i64 a0_2)/\w'.cell? ⟨gb5z,0,none⟩=some (.bool a1_0)/\w'.cell? ⟨gb5z,1,none⟩=some (.slice A1_1 l1_1.length c1_1)/\w'.cell? ⟨gb5z,2,none⟩=some (.int .i64 a1_2))/\(Kd.R (Kd.int .i64) 3 w' w.heap.size (fun k_=>some k_ ≠ (s_.2.2.1:Value).ownBlock/\some k_ ≠ (s_.2.2.2:Value).ownBlock) s_.1 qi)/\(Kd.R (Kd.int .i64) 3 w' w.heap.size (fun k_=>some k_ ≠ (s_.1:Value).ownBlock/\some k_ ≠ (s_.2.2.2:Value).ownBlock) s_.2.2.1 qn)/\(Kd.R (Kd.int .i64) 3 w' w.heap.size (fun k_=>some k_ ≠ (s_.1:Value).ownBlock/\some k_ ≠ (s_.2.2.1:Value).ownBlock) s_.2.2.2 qj)/\(w'.heap[gb0z]? = some (.cells #[.bool a0_0,.slice A0_1 l0_1.length c0_1,.int .i64 a0_2] 24 (0,0)))/\(w'.heap[gb5z]? = some (.cells #[.bool a1_0,.slice A1_1 l1_1.length c1_1,.int .i64 a1_2] 24 (0,0)))/\(Below w.heap.size w w')) ?_ ?_)|(have q_:Aside0 (_=some (true,_,_)):=A6;have q_:¬ (qj=[]):=c7b2;refine join_ (σ:=Value × Value × Value × Value) 2 #[true,true,true,true,true,true,false,false] (fun s_=>[(7,.agg #[.bool qo,s_.1,.int .i64 qp]),(9,.agg #[.bool qt,s_.2.1,.int .i64 qu]),(10,.agg #[.bool qq,s_.2.2.1,.int .i64 qr]),(11,.agg #[.bool true,s_.2.2.2,.int .i64 qw])]) (fun s_ w'=>(w'.cell? ⟨gb0z,0,none⟩=some (.bool a0_0)/\w'.cell? ⟨gb0z,1,none⟩=some (.slice A0_1 l0_1.length c0_1)/\w'.cell? ⟨gb0z,2,none⟩=some (.int .i64 a0_2)/\w'.cell? ⟨gb5z,0,none⟩=some (.bool a1_0)/\w'.cell? ⟨gb5z,1,none⟩=some (.slice A1_1 l1_1.length c1_1)/\w'.cell? ⟨gb5z,2,none⟩=some (.int .i64 a1_2))/\(Kd.R (Kd.int .i64) 3 w' w.heap.size (fun k_=>some k_ ≠ (s_.2.2.1:Value).ownBlock/\some k_ ≠ (s_.2.2.2:Value).ownBlock) s_.1 qi)/\(Kd.R (Kd.int .i64) 3 w' w.heap.size (fun k_=>some k_ ≠ (s_.1:Value).ownBlock/\some k_ ≠ (s_.2.2.2:Value).ownBlock) s_.2.2.1 qn)/\(Kd.R (Kd.int .i64) 3 w' w.heap.size (fun k_=>some k_ ≠ (s_.1:Value).ownBlock/\some k_ ≠ (s_.2.2.1:Value).ownBlock) s_.2.2.2 qj)/\(w'.heap[gb0z]? = some (.cells #[.bool a0_0,.slice A0_1 l0_1.length c0_1,.int .i64 a0_2] 24 (0,0)))/\(w'.heap[gb5z]? = some (.cells #[.bool a1_0,.slice A1_1 l1_1.length c1_1,.int .i64 a1_2] 24 (0,0)))/\(Below w.heap.size w w')) ?_ ?_)|(have q_:Aside0 (_=some (false,_,_)):=A6;have q_:¬ (qj=[]):=c7b2;refine join_ (σ:=Value × Value × Value × Value) 2 #[true,true,true,true,true,true,false,false] (fun s_=>[(7,.agg #[.bool qo,s_.1,.int .i64 qp]),(9,.agg #[.bool qt,s_.2.1,.int .i64 qu]),(10,.agg #[.bool qq,s_.2.2.1,.int .i64 qr]),(11,.agg #[.bool false,s_.2.2.2,.int .i64 qw])]) (fun s_ w'=>(w'.cell? ⟨gb0z,0,none⟩=some (.bool a0_0)/\w'.cell? ⟨gb0z,1,none⟩=some (.slice A0_1 l0_1.length c0_1)/\w'.cell? ⟨gb0z,2,none⟩=some (.int .i64 a0_2)/\w'.cell? ⟨gb5z,0,none⟩=some (.bool a1_0)/\w'.cell? ⟨gb5z,1,none⟩=some (.slice A1_1 l1_1.length c1_1)/\w'.cell? ⟨gb5z,2,none⟩=some (.int .i64 a1_2))/\(Kd.R (Kd.int .i64) 3 w' w.heap.size (fun k_=>some k_ ≠ (s_.2.2.1:Value).ownBlock/\some k_ ≠ (s_.2.2.2:Value).ownBlock) s_.1 qi)/\(Kd.R (Kd.int .i64) 3 w' w.heap.size (fun k_=>some k_ ≠ (s_.1:Value).ownBlock/\some k_ ≠ (s_.2.2.2:Value).ownBlock) s_.2.2.1 qn)/\(Kd.R (Kd.int .i64) 3 w' w.heap.size (fun k_=>some k_ ≠ (s_.1:Value).ownBlock/\some k_ ≠ (s_.2.2.1:Value).ownBlock) s_.2.2.2 qj)/\(w'.heap[gb0z]? = some (.cells #[.bool a0_0,.slice A0_1 l0_1.length c0_1,.int .i64 a0_2] 24 (0,0)))/\(w'.heap[gb5z]? = some (.cells #[.bool a1_0,.slice A1_1 l1_1.length c1_1,.int .i64 a1_2] 24 (0,0)))/\(Below w.heap.size w w')) ?_ ?_)
  rotate_left
  ·intro hJ1_3_4_5
   refine join_ (σ:=Value × Value × Value × Nat) 2 #[true,true,true,true,true,false,true,false] (fun s_=>[(7,.agg #[.bool qo,s_.1,.int .i64 qp]),(9,.agg #[.bool qt,s_.2.1,.int .i64 qu]),(10,.agg #[.bool qq,s_.2.2.1,.int .i64 qr]),(5,.pointer (some ⟨s_.2.2.2,0,none⟩))]) (fun s_ w'=>(w'.cell? ⟨gb0z,0,none⟩=some (.bool a0_0)/\w'.cell? ⟨gb0z,1,none⟩=some (.slice A0_1 l0_1.length c0_1)/\w'.cell? ⟨gb0z,2,none⟩=some (.int .i64 a0_2)/\w'.cell? ⟨gb5z,0,none⟩=some (.bool a1_0)/\w'.cell? ⟨gb5z,1,none⟩=some (.slice A1_1 l1_1.length c1_1)/\w'.cell? ⟨gb5z,2,none⟩=some (.int .i64 a1_2))/\(Kd.R (Kd.int .i64) 3 w' w.heap.size (fun k_=>some k_ ≠ (s_.2.2.1:Value).ownBlock) s_.1 qi)/\(Kd.R (Kd.int .i64) 3 w' w.heap.size (fun k_=>some k_ ≠ (s_.1:Value).ownBlock) s_.2.2.1 qn)/\(w'.heap[gb0z]? = some (.cells #[.bool a0_0,.slice A0_1 l0_1.length c0_1,.int .i64 a0_2] 24 (0,0)))/\(w'.heap[gb5z]? = some (.cells #[.bool a1_0,.slice A1_1 l1_1.length c1_1,.int .i64 a1_2] 24 (0,0)))/\(w'.heap[s_.2.2.2]? = some (.cells #[.bool false,.slice none 0 0,.int .i64 0] 30 (0,0)))/\(w.heap.size<=s_.2.2.2)/\(w.heap.size<=s_.2.2.2)/\(gb0z ≠ s_.2.2.2)/\(s_.2.2.2 ≠ gb0z)/\(gb5z ≠ s_.2.2.2)/\(s_.2.2.2 ≠ gb5z)/\(Below w.heap.size w w')) ?_ ?_
   rotate_left
   ·intro hJ1_3_4_6
    refine join_ (σ:=Value × Value × Value) 3 #[true,true,true,true,true,false,false,false] (fun s_=>[(7,.agg #[.bool qo,s_.1,.int .i64 qp]),(9,.agg #[.bool qt,s_.2.1,.int .i64 qu]),(10,.agg #[.bool qq,s_.2.2,.int .i64 qr])]) (fun s_ w'=>(w'.cell? ⟨gb0z,0,none⟩=some (.bool a0_0)/\w'.cell? ⟨gb0z,1,none⟩=some (.slice A0_1 l0_1.length c0_1)/\w'.cell? ⟨gb0z,2,none⟩=some (.int .i64 a0_2)/\w'.cell? ⟨gb5z,0,none⟩=some (.bool a1_0)/\w'.cell? ⟨gb5z,1,none⟩=some (.slice A1_1 l1_1.length c1_1)/\w'.cell? ⟨gb5z,2,none⟩=some (.int .i64 a1_2))/\(Kd.R (Kd.int .i64) 3 w' w.heap.size (fun k_=>some k_ ≠ (s_.2.2:Value).ownBlock) s_.1 qi)/\(Kd.R (Kd.int .i64) 3 w' w.heap.size (fun k_=>some k_ ≠ (s_.1:Value).ownBlock) s_.2.2 qn)/\(w'.heap[gb0z]? = some (.cells #[.bool a0_0,.slice A0_1 l0_1.length c0_1,.int .i64 a0_2] 24 (0,0)))/\(w'.heap[gb5z]? = some (.cells #[.bool a1_0,.slice A1_1 l1_1.length c1_1,.int .i64 a1_2] 24 (0,0)))/\(Below w.heap.size w w')) ?_ ?_
    rotate_left
    ·intro hJ1_3_4
     refine join_ (σ:=Value × Value × Nat) 3 #[true,true,true,true,false,false,true,false] (fun s_=>[(7,.agg #[.bool qo,s_.1,.int .i64 qp]),(9,.agg #[.bool qt,s_.2.1,.int .i64 qu]),(5,.pointer (some ⟨s_.2.2,0,none⟩))]) (fun s_ w'=>(w'.cell? ⟨gb0z,0,none⟩=some (.bool a0_0)/\w'.cell? ⟨gb0z,1,none⟩=some (.slice A0_1 l0_1.length c0_1)/\w'.cell? ⟨gb0z,2,none⟩=some (.int .i64 a0_2)/\w'.cell? ⟨gb5z,0,none⟩=some (.bool a1_0)/\w'.cell? ⟨gb5z,1,none⟩=some (.slice A1_1 l1_1.length c1_1)/\w'.cell? ⟨gb5z,2,none⟩=some (.int .i64 a1_2))/\(Kd.R (Kd.int .i64) 3 w' w.heap.size (fun k_=>some k_ ≠ (s_.2.1:Value).ownBlock) s_.1 qi)/\(Kd.R (Kd.int .i64) 3 w' w.heap.size (fun k_=>some k_ ≠ (s_.1:Value).ownBlock) s_.2.1 qs)/\(w'.heap[gb0z]? = some (.cells #[.bool a0_0,.slice A0_1 l0_1.length c0_1,.int .i64 a0_2] 24 (0,0)))/\(w'.heap[gb5z]? = some (.cells #[.bool a1_0,.slice A1_1 l1_1.length c1_1,.int .i64 a1_2] 24 (0,0)))/\(w'.heap[s_.2.2]? = some (.cells #[.bool false,.slice none 0 0,.int .i64 0] 30 (0,0)))/\(w.heap.size<=s_.2.2)/\(w.heap.size<=s_.2.2)/\(gb0z ≠ s_.2.2)/\(s_.2.2 ≠ gb0z)/\(gb5z ≠ s_.2.2)/\(s_.2.2 ≠ gb5z)/\(Below w.heap.size w w')) ?_ ?_
     rotate_left
     ·intro hJ1_3_6
      refine join_ (σ:=Value × Value) 4 #[true,true,true,true,false,false,false,false] (fun s_=>[(7,.agg #[.bool qo,s_.1,.int .i64 qp]),(9,.agg #[.bool qt,s_.2,.int .i64 qu])]) (fun s_ w'=>(w'.cell? ⟨gb0z,0,none⟩=some (.bool a0_0)/\w'.cell? ⟨gb0z,1,none⟩=some (.slice A0_1 l0_1.length c0_1)/\w'.cell? ⟨gb0z,2,none⟩=some (.int .i64 a0_2)/\w'.cell? ⟨gb5z,0,none⟩=some (.bool a1_0)/\w'.cell? ⟨gb5z,1,none⟩=some (.slice A1_1 l1_1.length c1_1)/\w'.cell? ⟨gb5z,2,none⟩=some (.int .i64 a1_2))/\(Kd.R (Kd.int .i64) 3 w' w.heap.size (fun k_=>some k_ ≠ (s_.2:Value).ownBlock) s_.1 qi)/\(Kd.R (Kd.int .i64) 3 w' w.heap.size (fun k_=>some k_ ≠ (s_.1:Value).ownBlock) s_.2 qs)/\(w'.heap[gb0z]? = some (.cells #[.bool a0_0,.slice A0_1 l0_1.length c0_1,.int .i64 a0_2] 24 (0,0)))/\(w'.heap[gb5z]? = some (.cells #[.bool a1_0,.slice A1_1 l1_1.length c1_1,.int .i64 a1_2] 24 (0,0)))/\(Below w.heap.size w w')) ?_ ?_
      rotate_left
      ·intro jj
       refine join_ (σ:=Value × Nat) 4 #[true,true,true,false,false,false,true,false] (fun s_=>[(7,.agg #[.bool qo,s_.1,.int .i64 qp]),(5,.pointer (some ⟨s_.2,0,none⟩))]) (fun s_ w'=>(w'.cell? ⟨gb0z,0,none⟩=some (.bool a0_0)/\w'.cell? ⟨gb0z,1,none⟩=some (.slice A0_1 l0_1.length c0_1)/\w'.cell? ⟨gb0z,2,none⟩=some (.int .i64 a0_2)/\w'.cell? ⟨gb5z,0,none⟩=some (.bool a1_0)/\w'.cell? ⟨gb5z,1,none⟩=some (.slice A1_1 l1_1.length c1_1)/\w'.cell? ⟨gb5z,2,none⟩=some (.int .i64 a1_2))/\(Kd.R (Kd.int .i64) 3 w' w.heap.size (fun _=>True) s_.1 qi)/\(w'.heap[gb0z]? = some (.cells #[.bool a0_0,.slice A0_1 l0_1.length c0_1,.int .i64 a0_2] 24 (0,0)))/\(w'.heap[gb5z]? = some (.cells #[.bool a1_0,.slice A1_1 l1_1.length c1_1,.int .i64 a1_2] 24 (0,0)))/\(w'.heap[s_.2]? = some (.cells #[.bool false,.slice none 0 0,.int .i64 0] 30 (0,0)))/\(w.heap.size<=s_.2)/\(w.heap.size<=s_.2)/\(gb0z ≠ s_.2)/\(s_.2 ≠ gb0z)/\(gb5z ≠ s_.2)/\(s_.2 ≠ gb5z)/\(Below w.heap.size w w')) ?_ ?_
       rotate_left
       ·intro ji
        refine join_ (σ:=Value) 5 #[true,true,true,false,false,false,false,false] (fun s_=>[(7,.agg #[.bool qo,s_,.int .i64 qp])]) (fun s_ w'=>(w'.cell? ⟨gb0z,0,none⟩=some (.bool a0_0)/\w'.cell? ⟨gb0z,1,none⟩=some (.slice A0_1 l0_1.length c0_1)/\w'.cell? ⟨gb0z,2,none⟩=some (.int .i64 a0_2)/\w'.cell? ⟨gb5z,0,none⟩=some (.bool a1_0)/\w'.cell? ⟨gb5z,1,none⟩=some (.slice A1_1 l1_1.length c1_1)/\w'.cell? ⟨gb5z,2,none⟩=some (.int .i64 a1_2))/\(Kd.R (Kd.int .i64) 3 w' w.heap.size (fun _=>True) s_ qi)/\(w'.heap[gb0z]? = some (.cells #[.bool a0_0,.slice A0_1 l0_1.length c0_1,.int .i64 a0_2] 24 (0,0)))/\(w'.heap[gb5z]? = some (.cells #[.bool a1_0,.slice A1_1 l1_1.length c1_1,.int .i64 a1_2] 24 (0,0)))/\(Below w.heap.size w w')) ?_ ?_
        rotate_left
        ·intro jk
         refine join_ (σ:=Nat) 5 #[true,false,true,false,false,false,true,false] (fun s_=>[(5,.pointer (some ⟨s_,0,none⟩))]) (fun s_ w'=>(w'.cell? ⟨gb0z,0,none⟩=some (.bool a0_0)/\w'.cell? ⟨gb0z,1,none⟩=some (.slice A0_1 l0_1.length c0_1)/\w'.cell? ⟨gb0z,2,none⟩=some (.int .i64 a0_2)/\w'.cell? ⟨gb5z,0,none⟩=some (.bool a1_0)/\w'.cell? ⟨gb5z,1,none⟩=some (.slice A1_1 l1_1.length c1_1)/\w'.cell? ⟨gb5z,2,none⟩=some (.int .i64 a1_2))/\(w'.heap[gb0z]? = some (.cells #[.bool a0_0,.slice A0_1 l0_1.length c0_1,.int .i64 a0_2] 24 (0,0)))/\(w'.heap[gb5z]? = some (.cells #[.bool a1_0,.slice A1_1 l1_1.length c1_1,.int .i64 a1_2] 24 (0,0)))/\(w'.heap[s_]? = some (.cells #[.bool false,.slice none 0 0,.int .i64 0] 30 (0,0)))/\(w.heap.size<=s_)/\(w.heap.size<=s_)/\(gb0z ≠ s_)/\(s_ ≠ gb0z)/\(gb5z ≠ s_)/\(s_ ≠ gb5z)/\(Below w.heap.size w w')) ?_ ?_
         rotate_left
         ·intro jl
          refine two_ (i:=1) (j:=6) (Ni:=some 7) (Nj:=some 5) #[true,true,true,false,false,false,false,false] #[true,false,true,false,false,false,true,false] rfl rfl rfl rfl (Zmo HT_.out (by kernel_rfl)) (by decide) (by decide) (fun K hK=>?_) (fun K hK=>?_)
          ·skip
           refine goes_ Tryz.func18 (by kernel_rfl) rfl #[.agg #[.bool a0_0,.slice A0_1 l0_1.length c0_1,.int .i64 a0_2]] (by rfl) rfl rfl pA ?_
           with_reducible refine (Zu.calls k a0_0 _ _ l0_1 a0_2 qo qi qp _ ?side1 ?side2 A3.o).mono ?_
           (case side1=>exact cB HR0_1 HB)
           (case side2=>exact HC0_1.o)
           rintro e w23z ⟨v24z,rfl,ho25z,hb⟩
           refine ⟨_,rfl,?_⟩
           have qb:=am (Kd.Zo ho25z (Zd pB))
           replace BK2z:=bb BK2z hb
           replace BK7z:=bb BK7z hb
           replace HB:=bS hb
           refine hK.out _ _ ⟨k0 BK2z 0,k0 BK2z 1,k0 BK2z 2,k0 BK7z 0,k0 BK7z 1,k0 BK7z 2⟩ (fun hHeld=>?_)
           clear hK K
           refine norm_ (a':=?_) ?_ ?_
           rotate_left
           ·show Act.put _ (some 7) _=_
            exact pP
           exact norm_ pT (jk (v24z) _ ⟨hHeld,(Kd.Za qb.o pl),(Zb BK2z.o pl),(Zb BK7z.o pl),pB⟩)
          ·skip
           refine Zf5 ?hg (N:=5) ?hd (cs:=#[.bool false,.slice none 0 0,.int .i64 0]) (t:=30) ?hr ?_;(case hd=>rfl);(case hg=>rfl);(case hr=>first|(go_simp;done)|(go_simp;rfl))
           intro qa hg w23z hbox hb
           have qc:=am hbox
           have qm:=gW hg
           have ql:=gW hg
           have qd:=nL hg BK2z
           have qg:=nG hg BK2z
           have qe:=nL hg BK7z
           have qh:=nG hg BK7z
           replace BK2z:=bb BK2z hb
           replace BK7z:=bb BK7z hb
           replace HB:=bS hb
           clear hb hbox hg
           refine hK.out _ _ ⟨k0 BK2z 0,k0 BK2z 1,k0 BK2z 2,k0 BK7z 0,k0 BK7z 1,k0 BK7z 2⟩ (fun hHeld=>?_)
           clear hK K
           refine norm_ (a':=?_) ?_ ?_
           rotate_left
           ·show Act.put _ (some 5) _=_
            exact pP
           exact norm_ pT (jl (qa) _ ⟨hHeld,(Zb BK2z.o pl),(Zb BK7z.o pl),(Zb qc.o pl),qm.o,ql.o,qd.o,qg.o,qe.o,qh.o,pB⟩)
         ·skip
          rintro qa w35z ⟨hS_,h0_,h1_,h2_,h3_,h4_,h5_,h6_,h7_,h8_,h9_⟩
          have qc:Aside0 (w35z.heap[qa]? = some (.cells #[.bool false,.slice none 0 0,.int .i64 0] 30 (0,0))):=⟨h2_⟩
          have qm:Aside0 (w.heap.size<=qa):=⟨h3_⟩
          have ql:Aside0 (w.heap.size<=qa):=⟨h4_⟩
          have qd:Aside0 (gb0z ≠ qa):=⟨h5_⟩
          have qg:Aside0 (qa ≠ gb0z):=⟨h6_⟩
          have qe:Aside0 (gb5z ≠ qa):=⟨h7_⟩
          have qh:Aside0 (qa ≠ gb5z):=⟨h8_⟩
          replace BK2z:Aside0 (w35z.heap[gb0z]? = some (.cells #[.bool a0_0,.slice A0_1 l0_1.length c0_1,.int .i64 a0_2] 24 (0,0))):=⟨h0_⟩
          replace BK7z:Aside0 (w35z.heap[gb5z]? = some (.cells #[.bool a1_0,.slice A1_1 l1_1.length c1_1,.int .i64 a1_2] 24 (0,0))):=⟨h1_⟩
          replace HB:Aside0 (Below w.heap.size w w35z):=⟨h9_⟩
          clear h0_ h1_ h2_ h3_ h4_ h5_ h6_ h7_ h8_ h9_
          have hHeld:w35z.cell? ⟨gb0z,0,none⟩=some (.bool a0_0)/\w35z.cell? ⟨gb0z,1,none⟩=some (.slice A0_1 l0_1.length c0_1)/\w35z.cell? ⟨gb0z,2,none⟩=some (.int .i64 a0_2)/\w35z.cell? ⟨gb5z,0,none⟩=some (.bool a1_0)/\w35z.cell? ⟨gb5z,1,none⟩=some (.slice A1_1 l1_1.length c1_1)/\w35z.cell? ⟨gb5z,2,none⟩=some (.int .i64 a1_2):=hS_
          refine norm_ (a':=?_) ?_ ?_
          rotate_left
          ·simp only [putAll,Act.put,List.setIfInBounds_toArray,List.set_cons_zero,List.set_cons_succ]
           rfl
          refine one_ (i:=1) (N:=some 7) #[true,true,true,false,false,false,true,false] rfl rfl (Zbh HT_.out (by kernel_rfl)) (by decide) (fun K hK=>?_)
          refine goes_ Tryz.func18 (by kernel_rfl) rfl #[.agg #[.bool a0_0,.slice A0_1 l0_1.length c0_1,.int .i64 a0_2]] (by rfl) rfl rfl pA ?_
          with_reducible refine (Zu.calls k a0_0 _ _ l0_1 a0_2 qo qi qp _ ?side1 ?side2 A3.o).mono ?_
          (case side1=>exact cB HR0_1 HB)
          (case side2=>exact HC0_1.o)
          rintro e w36z ⟨v24z,rfl,ho25z,hb⟩
          refine ⟨_,rfl,?_⟩
          have qb:=am (Kd.Zo ho25z (Zd pB))
          replace BK2z:=bb BK2z hb
          replace BK7z:=bb BK7z hb
          replace qc:=bb qc hb
          replace HB:=bS hb
          refine hK.out _ _ ⟨k0 BK2z 0,k0 BK2z 1,k0 BK2z 2,k0 BK7z 0,k0 BK7z 1,k0 BK7z 2⟩ (fun hHeld=>?_)
          clear hK K
          refine norm_ (a':=?_) ?_ ?_
          rotate_left
          ·show Act.put _ (some 7) _=_
           exact pP
          exact norm_ pT (ji (v24z,qa) _ ⟨hHeld,(Kd.Za qb.o pl),(Zb BK2z.o pl),(Zb BK7z.o pl),(Zb qc.o pl),qm.o,ql.o,qd.o,qg.o,qe.o,qh.o,pB⟩)
        ·skip
         rintro v24z w35z ⟨hS_,h0_,h1_,h2_,h3_⟩
         have qb:Aside0 (Kd.R (Kd.int .i64) 3 w35z w.heap.size (fun _=>True) v24z qi):=⟨h0_⟩
         replace BK2z:Aside0 (w35z.heap[gb0z]? = some (.cells #[.bool a0_0,.slice A0_1 l0_1.length c0_1,.int .i64 a0_2] 24 (0,0))):=⟨h1_⟩
         replace BK7z:Aside0 (w35z.heap[gb5z]? = some (.cells #[.bool a1_0,.slice A1_1 l1_1.length c1_1,.int .i64 a1_2] 24 (0,0))):=⟨h2_⟩
         replace HB:Aside0 (Below w.heap.size w w35z):=⟨h3_⟩
         clear h0_ h1_ h2_ h3_
         have hHeld:w35z.cell? ⟨gb0z,0,none⟩=some (.bool a0_0)/\w35z.cell? ⟨gb0z,1,none⟩=some (.slice A0_1 l0_1.length c0_1)/\w35z.cell? ⟨gb0z,2,none⟩=some (.int .i64 a0_2)/\w35z.cell? ⟨gb5z,0,none⟩=some (.bool a1_0)/\w35z.cell? ⟨gb5z,1,none⟩=some (.slice A1_1 l1_1.length c1_1)/\w35z.cell? ⟨gb5z,2,none⟩=some (.int .i64 a1_2):=hS_
         refine norm_ (a':=?_) ?_ ?_
         rotate_left
         ·simp only [putAll,Act.put,List.setIfInBounds_toArray,List.set_cons_zero,List.set_cons_succ]
          rfl
         refine two_ (i:=3) (j:=6) (Ni:=some 9) (Nj:=some 5) #[true,true,true,true,false,false,false,false] #[true,true,true,false,false,false,true,false] rfl rfl rfl rfl (Zmo HT_.out (by kernel_rfl)) (by decide) (by decide) (fun K hK=>?_) (fun K hK=>?_)
         ·skip
          refine goes_ Tryz.func18 (by kernel_rfl) rfl #[.agg #[.bool a1_0,.slice A1_1 l1_1.length c1_1,.int .i64 a1_2]] (by rfl) rfl rfl pA ?_
          with_reducible refine (Zu.calls k a1_0 _ _ l1_1 a1_2 qt qs qu _ ?side1 ?side2 A4.o).mono ?_
          (case side1=>exact cB HR1_1 HB)
          (case side2=>exact HC1_1.o)
          rintro e w36z ⟨v37z,rfl,ho25z,hb⟩
          refine ⟨_,rfl,?_⟩
          have qk:=am (Kd.Zo (Kd.Zs ho25z (Kd.R_lt (Kd.Za qb.o pl))) (Zd pB))
          replace qb:=reR qb ho25z hb
          replace BK2z:=bb BK2z hb
          replace BK7z:=bb BK7z hb
          replace HB:=bS hb
          refine hK.out _ _ ⟨k0 BK2z 0,k0 BK2z 1,k0 BK2z 2,k0 BK7z 0,k0 BK7z 1,k0 BK7z 2⟩ (fun hHeld=>?_)
          clear hK K
          refine norm_ (a':=?_) ?_ ?_
          rotate_left
          ·show Act.put _ (some 9) _=_
           exact pP
          exact norm_ pT (jj (v24z,v37z) _ ⟨hHeld,(Kd.Za (Kd.Zh qb.o (fun _ hk=>hk.2)) pl),(Kd.Za (Kd.Zh qk.o (fun _ hk=>hk.2)) pl),(Zb BK2z.o pl),(Zb BK7z.o pl),pB⟩)
         ·skip
          refine Zf5 ?hg (N:=5) ?hd (cs:=#[.bool false,.slice none 0 0,.int .i64 0]) (t:=30) ?hr ?_;(case hd=>rfl);(case hg=>rfl);(case hr=>first|(go_simp;done)|(go_simp;rfl))
          intro qa hg w36z hbox hb
          have qc:=am hbox
          have qm:=gW hg
          have ql:=gW hg
          have qd:=nL hg BK2z
          have qg:=nG hg BK2z
          have qe:=nL hg BK7z
          have qh:=nG hg BK7z
          replace qb:=rbl qb hb
          replace BK2z:=bb BK2z hb
          replace BK7z:=bb BK7z hb
          replace HB:=bS hb
          clear hb hbox hg
          refine hK.out _ _ ⟨k0 BK2z 0,k0 BK2z 1,k0 BK2z 2,k0 BK7z 0,k0 BK7z 1,k0 BK7z 2⟩ (fun hHeld=>?_)
          clear hK K
          refine norm_ (a':=?_) ?_ ?_
          rotate_left
          ·show Act.put _ (some 5) _=_
           exact pP
          exact norm_ pT (ji (v24z,qa) _ ⟨hHeld,(Kd.Za qb.o pl),(Zb BK2z.o pl),(Zb BK7z.o pl),(Zb qc.o pl),qm.o,ql.o,qd.o,qg.o,qe.o,qh.o,pB⟩)
       ·skip
        rintro ⟨v24z,qa⟩ w36z ⟨hS_,h0_,h1_,h2_,h3_,h4_,h5_,h6_,h7_,h8_,h9_,h10_⟩
        have qb:Aside0 (Kd.R (Kd.int .i64) 3 w36z w.heap.size (fun _=>True) v24z qi):=⟨h0_⟩
        have qc:Aside0 (w36z.heap[qa]? = some (.cells #[.bool false,.slice none 0 0,.int .i64 0] 30 (0,0))):=⟨h3_⟩
        have qm:Aside0 (w.heap.size<=qa):=⟨h4_⟩
        have ql:Aside0 (w.heap.size<=qa):=⟨h5_⟩
        have qd:Aside0 (gb0z ≠ qa):=⟨h6_⟩
        have qg:Aside0 (qa ≠ gb0z):=⟨h7_⟩
        have qe:Aside0 (gb5z ≠ qa):=⟨h8_⟩
        have qh:Aside0 (qa ≠ gb5z):=⟨h9_⟩
        replace BK2z:Aside0 (w36z.heap[gb0z]? = some (.cells #[.bool a0_0,.slice A0_1 l0_1.length c0_1,.int .i64 a0_2] 24 (0,0))):=⟨h1_⟩
        replace BK7z:Aside0 (w36z.heap[gb5z]? = some (.cells #[.bool a1_0,.slice A1_1 l1_1.length c1_1,.int .i64 a1_2] 24 (0,0))):=⟨h2_⟩
        replace HB:Aside0 (Below w.heap.size w w36z):=⟨h10_⟩
        clear h0_ h1_ h2_ h3_ h4_ h5_ h6_ h7_ h8_ h9_ h10_
        have hHeld:w36z.cell? ⟨gb0z,0,none⟩=some (.bool a0_0)/\w36z.cell? ⟨gb0z,1,none⟩=some (.slice A0_1 l0_1.length c0_1)/\w36z.cell? ⟨gb0z,2,none⟩=some (.int .i64 a0_2)/\w36z.cell? ⟨gb5z,0,none⟩=some (.bool a1_0)/\w36z.cell? ⟨gb5z,1,none⟩=some (.slice A1_1 l1_1.length c1_1)/\w36z.cell? ⟨gb5z,2,none⟩=some (.int .i64 a1_2):=hS_
        refine norm_ (a':=?_) ?_ ?_
        rotate_left
        ·simp only [putAll,Act.put,List.setIfInBounds_toArray,List.set_cons_zero,List.set_cons_succ]
         rfl
        refine one_ (i:=3) (N:=some 9) #[true,true,true,true,false,false,true,false] rfl rfl (Zbh HT_.out (by kernel_rfl)) (by decide) (fun K hK=>?_)
        refine goes_ Tryz.func18 (by kernel_rfl) rfl #[.agg #[.bool a1_0,.slice A1_1 l1_1.length c1_1,.int .i64 a1_2]] (by rfl) rfl rfl pA ?_
        with_reducible refine (Zu.calls k a1_0 _ _ l1_1 a1_2 qt qs qu _ ?side1 ?side2 A4.o).mono ?_
        (case side1=>exact cB HR1_1 HB)
        (case side2=>exact HC1_1.o)
        rintro e w39z ⟨v37z,rfl,ho25z,hb⟩
        refine ⟨_,rfl,?_⟩
        have qk:=am (Kd.Zo (Kd.Zs ho25z (Kd.R_lt (Kd.Za qb.o pl))) (Zd pB))
        replace qb:=reR qb ho25z hb
        replace BK2z:=bb BK2z hb
        replace BK7z:=bb BK7z hb
        replace qc:=bb qc hb
        replace HB:=bS hb
        refine hK.out _ _ ⟨k0 BK2z 0,k0 BK2z 1,k0 BK2z 2,k0 BK7z 0,k0 BK7z 1,k0 BK7z 2⟩ (fun hHeld=>?_)
        clear hK K
        refine norm_ (a':=?_) ?_ ?_
        rotate_left
        ·show Act.put _ (some 9) _=_
         exact pP
        exact norm_ pT (hJ1_3_6 (v24z,v37z,qa) _ ⟨hHeld,(Kd.Za (Kd.Zh qb.o (fun _ hk=>hk.2)) pl),(Kd.Za (Kd.Zh qk.o (fun _ hk=>hk.2)) pl),(Zb BK2z.o pl),(Zb BK7z.o pl),(Zb qc.o pl),qm.o,ql.o,qd.o,qg.o,qe.o,qh.o,pB⟩)
      ·skip
       rintro ⟨v24z,v37z⟩ w36z ⟨hS_,h0_,h1_,h2_,h3_,h4_⟩
       have qb:Aside0 (Kd.R (Kd.int .i64) 3 w36z w.heap.size (fun k_=>some k_ ≠ (v37z:Value).ownBlock) v24z qi):=⟨h0_⟩
       have qk:Aside0 (Kd.R (Kd.int .i64) 3 w36z w.heap.size (fun k_=>some k_ ≠ (v24z:Value).ownBlock) v37z qs):=⟨h1_⟩
       replace BK2z:Aside0 (w36z.heap[gb0z]? = some (.cells #[.bool a0_0,.slice A0_1 l0_1.length c0_1,.int .i64 a0_2] 24 (0,0))):=⟨h2_⟩
       replace BK7z:Aside0 (w36z.heap[gb5z]? = some (.cells #[.bool a1_0,.slice A1_1 l1_1.length c1_1,.int .i64 a1_2] 24 (0,0))):=⟨h3_⟩
       replace HB:Aside0 (Below w.heap.size w w36z):=⟨h4_⟩
       clear h0_ h1_ h2_ h3_ h4_
       have hHeld:w36z.cell? ⟨gb0z,0,none⟩=some (.bool a0_0)/\w36z.cell? ⟨gb0z,1,none⟩=some (.slice A0_1 l0_1.length c0_1)/\w36z.cell? ⟨gb0z,2,none⟩=some (.int .i64 a0_2)/\w36z.cell? ⟨gb5z,0,none⟩=some (.bool a1_0)/\w36z.cell? ⟨gb5z,1,none⟩=some (.slice A1_1 l1_1.length c1_1)/\w36z.cell? ⟨gb5z,2,none⟩=some (.int .i64 a1_2):=hS_
       obtain ⟨q2,q4,jd⟩:=Kd.Zj qk.o
       (first|subst jd|(injection jd with f1_ f2_ f3_;have f4_:=f1_.symm;have f5_:=f3_.symm;clear f1_ f2_ f3_;subst f4_;subst f5_))
       refine norm_ (a':=?_) ?_ ?_
       rotate_left
       ·simp only [putAll,Act.put,List.setIfInBounds_toArray,List.set_cons_zero,List.set_cons_succ]
        rfl
       refine two_ (i:=4) (j:=6) (Ni:=some 10) (Nj:=some 5) #[true,true,true,true,true,false,false,false] #[true,true,true,true,false,false,true,false] rfl rfl rfl rfl (Zmo HT_.out (by kernel_rfl)) (by decide) (by decide) (fun K hK=>?_) (fun K hK=>?_)
       ·skip
        refine goes_ Tryz.func78 (by kernel_rfl) rfl #[.agg #[.bool qt,.slice q2 qs.length q4,.int .i64 qu]] (by rfl) rfl rfl pA ?_
        with_reducible refine (Za8.calls qt (fun k_=>some k_=(.slice q2 qs.length q4:Value).ownBlock) (.slice q2 qs.length q4) qs qu qq qn qr w _ ?side1 ?side2 A5.o).mono ?_
        (case side1=>exact pB)
        (case side2=>exact Kd.Zbj rfl qk.o)
        rintro e w43z ⟨v44z,rfl,ho25z,hb,hkp⟩
        refine ⟨_,rfl,?_⟩
        have qf:=am (Kd.Zh (ok':=fun k_=>some k_ ≠ (v24z:Value).ownBlock) ho25z (fun k_ hk_=>Or.elim hk_ (fun hs_=>fun e_=>(((qb.o).1 k_ e_.symm)) hs_) (fun hn_=>(Kd.fresh' (Kd.R_lt (Kd.Za qb.o pl)) k_ hn_))))
        replace BK2z:=am (Za0 (Zb BK2z.o pl) hkp (fun e_=>Kd.R_ne qk.o BK2z.o (by decide) e_))
        replace BK7z:=am (Za0 (Zb BK7z.o pl) hkp (fun e_=>Kd.R_ne qk.o BK7z.o (by decide) e_))
        replace qb:=am (Kd.Zh (ok':=fun k_=>some k_ ≠ (v44z:Value).ownBlock) (Kd.Zcb (qb.o) hkp (fun k_ hk_ hs_=>(hk_) hs_)) (fun k_ hk_=>fun e_=>Or.elim (ho25z.1 k_ e_.symm) (fun hs_=>hk_.2.1 hs_) (fun hn_=>Nat.not_le.2 hk_.2.2 hn_)))
        replace HB:=am hb
        clear qk
        refine hK.out _ _ ⟨k0 BK2z 0,k0 BK2z 1,k0 BK2z 2,k0 BK7z 0,k0 BK7z 1,k0 BK7z 2⟩ (fun hHeld=>?_)
        clear hK K
        refine norm_ (a':=?_) ?_ ?_
        rotate_left
        ·show Act.put _ (some 10) _=_
         exact pP
        exact norm_ pT (hJ1_3_4 (v24z,.slice q2 qs.length q4,v44z) _ ⟨hHeld,(Kd.Za qb.o pl),(Kd.Za qf.o pl),(Zb BK2z.o pl),(Zb BK7z.o pl),pB⟩)
       ·skip
        refine Zf5 ?hg (N:=5) ?hd (cs:=#[.bool false,.slice none 0 0,.int .i64 0]) (t:=30) ?hr ?_;(case hd=>rfl);(case hg=>rfl);(case hr=>first|(go_simp;done)|(go_simp;rfl))
        intro qa hg w39z hbox hb
        have qc:=am hbox
        have qm:=gW hg
        have ql:=gW hg
        have qd:=nL hg BK2z
        have qg:=nG hg BK2z
        have qe:=nL hg BK7z
        have qh:=nG hg BK7z
        replace qb:=rbl qb hb
        replace qk:=rbl qk hb
        replace BK2z:=bb BK2z hb
        replace BK7z:=bb BK7z hb
        replace HB:=bS hb
        clear hb hbox hg
        refine hK.out _ _ ⟨k0 BK2z 0,k0 BK2z 1,k0 BK2z 2,k0 BK7z 0,k0 BK7z 1,k0 BK7z 2⟩ (fun hHeld=>?_)
        clear hK K
        refine norm_ (a':=?_) ?_ ?_
        rotate_left
        ·show Act.put _ (some 5) _=_
         exact pP
        exact norm_ pT (hJ1_3_6 (v24z,(.slice q2 qs.length q4:Value),qa) _ ⟨hHeld,(Kd.Za qb.o pl),(Kd.Za qk.o pl),(Zb BK2z.o pl),(Zb BK7z.o pl),(Zb qc.o pl),qm.o,ql.o,qd.o,qg.o,qe.o,qh.o,pB⟩)
     ·skip
      rintro ⟨v24z,v37z,qa⟩ w39z ⟨hS_,h0_,h1_,h2_,h3_,h4_,h5_,h6_,h7_,h8_,h9_,h10_,h11_⟩
      have qb:Aside0 (Kd.R (Kd.int .i64) 3 w39z w.heap.size (fun k_=>some k_ ≠ (v37z:Value).ownBlock) v24z qi):=⟨h0_⟩
      have qk:Aside0 (Kd.R (Kd.int .i64) 3 w39z w.heap.size (fun k_=>some k_ ≠ (v24z:Value).ownBlock) v37z qs):=⟨h1_⟩
      have qc:Aside0 (w39z.heap[qa]? = some (.cells #[.bool false,.slice none 0 0,.int .i64 0] 30 (0,0))):=⟨h4_⟩
      have qm:Aside0 (w.heap.size<=qa):=⟨h5_⟩
      have ql:Aside0 (w.heap.size<=qa):=⟨h6_⟩
      have qd:Aside0 (gb0z ≠ qa):=⟨h7_⟩
      have qg:Aside0 (qa ≠ gb0z):=⟨h8_⟩
      have qe:Aside0 (gb5z ≠ qa):=⟨h9_⟩
      have qh:Aside0 (qa ≠ gb5z):=⟨h10_⟩
      replace BK2z:Aside0 (w39z.heap[gb0z]? = some (.cells #[.bool a0_0,.slice A0_1 l0_1.length c0_1,.int .i64 a0_2] 24 (0,0))):=⟨h2_⟩
      replace BK7z:Aside0 (w39z.heap[gb5z]? = some (.cells #[.bool a1_0,.slice A1_1 l1_1.length c1_1,.int .i64 a1_2] 24 (0,0))):=⟨h3_⟩
      replace HB:Aside0 (Below w.heap.size w w39z):=⟨h11_⟩
      clear h0_ h1_ h2_ h3_ h4_ h5_ h6_ h7_ h8_ h9_ h10_ h11_
      have hHeld:w39z.cell? ⟨gb0z,0,none⟩=some (.bool a0_0)/\w39z.cell? ⟨gb0z,1,none⟩=some (.slice A0_1 l0_1.length c0_1)/\w39z.cell? ⟨gb0z,2,none⟩=some (.int .i64 a0_2)/\w39z.cell? ⟨gb5z,0,none⟩=some (.bool a1_0)/\w39z.cell? ⟨gb5z,1,none⟩=some (.slice A1_1 l1_1.length c1_1)/\w39z.cell? ⟨gb5z,2,none⟩=some (.int .i64 a1_2):=hS_
      obtain ⟨q6,q7,je⟩:=Kd.Zj qk.o
      (first|subst je|(injection je with f1_ f2_ f3_;have f4_:=f1_.symm;have f5_:=f3_.symm;clear f1_ f2_ f3_;subst f4_;subst f5_))
      refine norm_ (a':=?_) ?_ ?_
      rotate_left
      ·simp only [putAll,Act.put,List.setIfInBounds_toArray,List.set_cons_zero,List.set_cons_succ]
       rfl
      refine one_ (i:=4) (N:=some 10) #[true,true,true,true,true,false,true,false] rfl rfl (Zbh HT_.out (by kernel_rfl)) (by decide) (fun K hK=>?_)
      refine goes_ Tryz.func78 (by kernel_rfl) rfl #[.agg #[.bool qt,.slice q6 qs.length q7,.int .i64 qu]] (by rfl) rfl rfl pA ?_
      with_reducible refine (Za8.calls qt (fun k_=>some k_=(.slice q6 qs.length q7:Value).ownBlock) (.slice q6 qs.length q7) qs qu qq qn qr w _ ?side1 ?side2 A5.o).mono ?_
      (case side1=>exact pB)
      (case side2=>exact Kd.Zbj rfl qk.o)
      rintro e w49z ⟨v44z,rfl,ho25z,hb,hkp⟩
      refine ⟨_,rfl,?_⟩
      have qf:=am (Kd.Zh (ok':=fun k_=>some k_ ≠ (v24z:Value).ownBlock) ho25z (fun k_ hk_=>Or.elim hk_ (fun hs_=>fun e_=>(((qb.o).1 k_ e_.symm)) hs_) (fun hn_=>(Kd.fresh' (Kd.R_lt (Kd.Za qb.o pl)) k_ hn_))))
      replace BK2z:=am (Za0 (Zb BK2z.o pl) hkp (fun e_=>Kd.R_ne qk.o BK2z.o (by decide) e_))
      replace BK7z:=am (Za0 (Zb BK7z.o pl) hkp (fun e_=>Kd.R_ne qk.o BK7z.o (by decide) e_))
      replace qb:=am (Kd.Zh (ok':=fun k_=>some k_ ≠ (v44z:Value).ownBlock) (Kd.Zcb (qb.o) hkp (fun k_ hk_ hs_=>(hk_) hs_)) (fun k_ hk_=>fun e_=>Or.elim (ho25z.1 k_ e_.symm) (fun hs_=>hk_.2.1 hs_) (fun hn_=>Nat.not_le.2 hk_.2.2 hn_)))
      replace qc:=am (Za0 (Zb qc.o pl) hkp (fun e_=>Kd.R_ne qk.o qc.o (by decide) e_))
      replace HB:=am hb
      clear qk
      refine hK.out _ _ ⟨k0 BK2z 0,k0 BK2z 1,k0 BK2z 2,k0 BK7z 0,k0 BK7z 1,k0 BK7z 2⟩ (fun hHeld=>?_)
      clear hK K
      refine norm_ (a':=?_) ?_ ?_
      rotate_left
      ·show Act.put _ (some 10) _=_
       exact pP
      exact norm_ pT (hJ1_3_4_6 (v24z,.slice q6 qs.length q7,v44z,qa) _ ⟨hHeld,(Kd.Za qb.o pl),(Kd.Za qf.o pl),(Zb BK2z.o pl),(Zb BK7z.o pl),(Zb qc.o pl),qm.o,ql.o,qd.o,qg.o,qe.o,qh.o,pB⟩)
    ·skip
     rintro ⟨v24z,v37z,v44z⟩ w43z ⟨hS_,h0_,h1_,h2_,h3_,h4_⟩
     have qb:Aside0 (Kd.R (Kd.int .i64) 3 w43z w.heap.size (fun k_=>some k_ ≠ (v44z:Value).ownBlock) v24z qi):=⟨h0_⟩
     have qf:Aside0 (Kd.R (Kd.int .i64) 3 w43z w.heap.size (fun k_=>some k_ ≠ (v24z:Value).ownBlock) v44z qn):=⟨h1_⟩
     replace BK2z:Aside0 (w43z.heap[gb0z]? = some (.cells #[.bool a0_0,.slice A0_1 l0_1.length c0_1,.int .i64 a0_2] 24 (0,0))):=⟨h2_⟩
     replace BK7z:Aside0 (w43z.heap[gb5z]? = some (.cells #[.bool a1_0,.slice A1_1 l1_1.length c1_1,.int .i64 a1_2] 24 (0,0))):=⟨h3_⟩
     replace HB:Aside0 (Below w.heap.size w w43z):=⟨h4_⟩
     clear h0_ h1_ h2_ h3_ h4_
     have hHeld:w43z.cell? ⟨gb0z,0,none⟩=some (.bool a0_0)/\w43z.cell? ⟨gb0z,1,none⟩=some (.slice A0_1 l0_1.length c0_1)/\w43z.cell? ⟨gb0z,2,none⟩=some (.int .i64 a0_2)/\w43z.cell? ⟨gb5z,0,none⟩=some (.bool a1_0)/\w43z.cell? ⟨gb5z,1,none⟩=some (.slice A1_1 l1_1.length c1_1)/\w43z.cell? ⟨gb5z,2,none⟩=some (.int .i64 a1_2):=hS_
     obtain ⟨q8,q9,jf⟩:=Kd.Zj qb.o
     (first|subst jf|(injection jf with f1_ f2_ f3_;have f4_:=f1_.symm;have f5_:=f3_.symm;clear f1_ f2_ f3_;subst f4_;subst f5_))
     obtain ⟨q0,q1,q5⟩:=Kd.Zj qf.o
     (first|subst q5|(injection q5 with f1_ f2_ f3_;have f4_:=f1_.symm;have f5_:=f3_.symm;clear f1_ f2_ f3_;subst f4_;subst f5_))
     refine norm_ (a':=?_) ?_ ?_
     rotate_left
     ·simp only [putAll,Act.put,List.setIfInBounds_toArray,List.set_cons_zero,List.set_cons_succ]
      rfl
     refine two_ (i:=5) (j:=6) (Ni:=some 11) (Nj:=some 5) #[true,true,true,true,true,true,false,false] #[true,true,true,true,true,false,true,false] rfl rfl rfl rfl (Zmo HT_.out (by kernel_rfl)) (by decide) (by decide) (fun K hK=>?_) (fun K hK=>?_)
     ·skip
      refine goes_ Tryz.func77 (by kernel_rfl) rfl #[.agg #[.bool qo,.slice q8 qi.length q9,.int .i64 qp],.agg #[.bool qq,.slice q0 qn.length q1,.int .i64 qr]] (by rfl) rfl rfl pA ?_
      first|(have q_:((qj.length:Int) != 0)=false:=c7b1;with_reducible refine (Zae.calls k qo _ _ qi qp qq _ _ qn qr ja qj qw _ ?side1 ?side2 ?side3 ?side4 A6.o).mono ?_)|(have q_:Aside0 (_=some (true,_,_)):=A6;have q_:¬ (qj=[]):=c7b2;with_reducible refine (Zae.calls k qo _ _ qi qp qq _ _ qn qr true qj qw _ ?side1 ?side2 ?side3 ?side4 A6.o).mono ?_)|(have q_:Aside0 (_=some (false,_,_)):=A6;have q_:¬ (qj=[]):=c7b2;with_reducible refine (Zae.calls k qo _ _ qi qp qq _ _ qn qr false qj qw _ ?side1 ?side2 ?side3 ?side4 A6.o).mono ?_)
      (case side1=>exact Kd.Zn (Kd.Zc qb.o).2.2 pl)
      (case side2=>exact (Kd.Zc qb.o).2.1)
      (case side3=>exact Kd.Zn (Kd.Zc qf.o).2.2 pl)
      (case side4=>exact (Kd.Zc qf.o).2.1)
      rintro e w56z ⟨v57z,rfl,ho25z,hb⟩
      refine ⟨_,rfl,?_⟩
      have qv:=am (Kd.Zo (Kd.Zs (Kd.Zs ho25z (Kd.R_lt (Kd.Za qb.o pl))) (Kd.R_lt (Kd.Za qf.o pl))) (Zd pB))
      replace qb:=reR qb ho25z hb
      replace qf:=reR qf ho25z hb
      replace BK2z:=bb BK2z hb
      replace BK7z:=bb BK7z hb
      replace HB:=bS hb
      refine hK.out _ _ ⟨k0 BK2z 0,k0 BK2z 1,k0 BK2z 2,k0 BK7z 0,k0 BK7z 1,k0 BK7z 2⟩ (fun hHeld=>?_)
      clear hK K
      refine norm_ (a':=?_) ?_ ?_
      rotate_left
      ·show Act.put _ (some 11) _=_
       exact pP
      exact norm_ pT (hJ1_3_4_5 (.slice q8 qi.length q9,v37z,.slice q0 qn.length q1,v57z) _ ⟨hHeld,(Kd.Za qb.o pl),(Kd.Za qf.o pl),(Kd.Za (Kd.Zh qv.o (fun _ hk=>⟨hk.1.2,hk.2⟩)) pl),(Zb BK2z.o pl),(Zb BK7z.o pl),pB⟩)
     ·skip
      refine Zf5 ?hg (N:=5) ?hd (cs:=#[.bool false,.slice none 0 0,.int .i64 0]) (t:=30) ?hr ?_;(case hd=>rfl);(case hg=>rfl);(case hr=>first|(go_simp;done)|(go_simp;rfl))
      intro qa hg w49z hbox hb
      have qc:=am hbox
      have qm:=gW hg
      have ql:=gW hg
      have qd:=nL hg BK2z
      have qg:=nG hg BK2z
      have qe:=nL hg BK7z
      have qh:=nG hg BK7z
      replace qb:=rbl qb hb
      replace qf:=rbl qf hb
      replace BK2z:=bb BK2z hb
      replace BK7z:=bb BK7z hb
      replace HB:=bS hb
      clear hb hbox hg
      refine hK.out _ _ ⟨k0 BK2z 0,k0 BK2z 1,k0 BK2z 2,k0 BK7z 0,k0 BK7z 1,k0 BK7z 2⟩ (fun hHeld=>?_)
      clear hK K
      refine norm_ (a':=?_) ?_ ?_
      rotate_left
      ·show Act.put _ (some 5) _=_
       exact pP
      exact norm_ pT (hJ1_3_4_6 ((.slice q8 qi.length q9:Value),v37z,(.slice q0 qn.length q1:Value),qa) _ ⟨hHeld,(Kd.Za qb.o pl),(Kd.Za qf.o pl),(Zb BK2z.o pl),(Zb BK7z.o pl),(Zb qc.o pl),qm.o,ql.o,qd.o,qg.o,qe.o,qh.o,pB⟩)
   ·skip
    rintro ⟨v24z,v37z,v44z,qa⟩ w49z ⟨hS_,h0_,h1_,h2_,h3_,h4_,h5_,h6_,h7_,h8_,h9_,h10_,h11_⟩
    have qb:Aside0 (Kd.R (Kd.int .i64) 3 w49z w.heap.size (fun k_=>some k_ ≠ (v44z:Value).ownBlock) v24z qi):=⟨h0_⟩
    have qf:Aside0 (Kd.R (Kd.int .i64) 3 w49z w.heap.size (fun k_=>some k_ ≠ (v24z:Value).ownBlock) v44z qn):=⟨h1_⟩
    have qc:Aside0 (w49z.heap[qa]? = some (.cells #[.bool false,.slice none 0 0,.int .i64 0] 30 (0,0))):=⟨h4_⟩
    have qm:Aside0 (w.heap.size<=qa):=⟨h5_⟩
    have ql:Aside0 (w.heap.size<=qa):=⟨h6_⟩
    have qd:Aside0 (gb0z ≠ qa):=⟨h7_⟩
    have qg:Aside0 (qa ≠ gb0z):=⟨h8_⟩
    have qe:Aside0 (gb5z ≠ qa):=⟨h9_⟩
    have qh:Aside0 (qa ≠ gb5z):=⟨h10_⟩
    replace BK2z:Aside0 (w49z.heap[gb0z]? = some (.cells #[.bool a0_0,.slice A0_1 l0_1.length c0_1,.int .i64 a0_2] 24 (0,0))):=⟨h2_⟩
    replace BK7z:Aside0 (w49z.heap[gb5z]? = some (.cells #[.bool a1_0,.slice A1_1 l1_1.length c1_1,.int .i64 a1_2] 24 (0,0))):=⟨h3_⟩
    replace HB:Aside0 (Below w.heap.size w w49z):=⟨h11_⟩
    clear h0_ h1_ h2_ h3_ h4_ h5_ h6_ h7_ h8_ h9_ h10_ h11_
    have hHeld:w49z.cell? ⟨gb0z,0,none⟩=some (.bool a0_0)/\w49z.cell? ⟨gb0z,1,none⟩=some (.slice A0_1 l0_1.length c0_1)/\w49z.cell? ⟨gb0z,2,none⟩=some (.int .i64 a0_2)/\w49z.cell? ⟨gb5z,0,none⟩=some (.bool a1_0)/\w49z.cell? ⟨gb5z,1,none⟩=some (.slice A1_1 l1_1.length c1_1)/\w49z.cell? ⟨gb5z,2,none⟩=some (.int .i64 a1_2):=hS_
    obtain ⟨q0,q1,q5⟩:=Kd.Zj qb.o
    (first|subst q5|(injection q5 with f1_ f2_ f3_;have f4_:=f1_.symm;have f5_:=f3_.symm;clear f1_ f2_ f3_;subst f4_;subst f5_))
    obtain ⟨jb,jc,jg⟩:=Kd.Zj qf.o
    (first|subst jg|(injection jg with f1_ f2_ f3_;have f4_:=f1_.symm;have f5_:=f3_.symm;clear f1_ f2_ f3_;subst f4_;subst f5_))
    refine norm_ (a':=?_) ?_ ?_
    rotate_left
    ·simp only [putAll,Act.put,List.setIfInBounds_toArray,List.set_cons_zero,List.set_cons_succ]
     rfl
    refine one_ (i:=5) (N:=some 11) #[true,true,true,true,true,true,true,false] rfl rfl (Zbh HT_.out (by kernel_rfl)) (by decide) (fun K hK=>?_)
    refine goes_ Tryz.func77 (by kernel_rfl) rfl #[.agg #[.bool qo,.slice q0 qi.length q1,.int .i64 qp],.agg #[.bool qq,.slice jb qn.length jc,.int .i64 qr]] (by rfl) rfl rfl pA ?_
    first|(have q_:((qj.length:Int) != 0)=false:=c7b1;with_reducible refine (Zae.calls k qo _ _ qi qp qq _ _ qn qr ja qj qw _ ?side1 ?side2 ?side3 ?side4 A6.o).mono ?_)|(have q_:Aside0 (_=some (true,_,_)):=A6;have q_:¬ (qj=[]):=c7b2;with_reducible refine (Zae.calls k qo _ _ qi qp qq _ _ qn qr true qj qw _ ?side1 ?side2 ?side3 ?side4 A6.o).mono ?_)|(have q_:Aside0 (_=some (false,_,_)):=A6;have q_:¬ (qj=[]):=c7b2;with_reducible refine (Zae.calls k qo _ _ qi qp qq _ _ qn qr false qj qw _ ?side1 ?side2 ?side3 ?side4 A6.o).mono ?_)
    (case side1=>exact Kd.Zn (Kd.Zc qb.o).2.2 pl)
    (case side2=>exact (Kd.Zc qb.o).2.1)
    (case side3=>exact Kd.Zn (Kd.Zc qf.o).2.2 pl)
    (case side4=>exact (Kd.Zc qf.o).2.1)
    rintro e w62z ⟨v57z,rfl,ho25z,hb⟩
    refine ⟨_,rfl,?_⟩
    have qv:=am (Kd.Zo (Kd.Zs (Kd.Zs ho25z (Kd.R_lt (Kd.Za qb.o pl))) (Kd.R_lt (Kd.Za qf.o pl))) (Zd pB))
    replace qb:=reR qb ho25z hb
    replace qf:=reR qf ho25z hb
    replace BK2z:=bb BK2z hb
    replace BK7z:=bb BK7z hb
    replace qc:=bb qc hb
    replace HB:=bS hb
    refine hK.out _ _ ⟨k0 BK2z 0,k0 BK2z 1,k0 BK2z 2,k0 BK7z 0,k0 BK7z 1,k0 BK7z 2⟩ (fun hHeld=>?_)
    clear hK K
    refine norm_ (a':=?_) ?_ ?_
    rotate_left
    ·show Act.put _ (some 11) _=_
     exact pP
    exact norm_ pT (hJ1_3_4_5_6 (.slice q0 qi.length q1,v37z,.slice jb qn.length jc,v57z,qa) _ ⟨hHeld,(Kd.Za qb.o pl),(Kd.Za qf.o pl),(Kd.Za (Kd.Zh qv.o (fun _ hk=>⟨hk.1.2,hk.2⟩)) pl),(Zb BK2z.o pl),(Zb BK7z.o pl),(Zb qc.o pl),qm.o,ql.o,qd.o,qg.o,qe.o,qh.o,pB⟩)
  ·skip
   rintro ⟨v24z,v37z,v44z,v57z⟩ w56z ⟨hS_,h0_,h1_,h2_,h3_,h4_,h5_⟩
   have qb:Aside0 (Kd.R (Kd.int .i64) 3 w56z w.heap.size (fun k_=>some k_ ≠ (v44z:Value).ownBlock/\some k_ ≠ (v57z:Value).ownBlock) v24z qi):=⟨h0_⟩
   have qf:Aside0 (Kd.R (Kd.int .i64) 3 w56z w.heap.size (fun k_=>some k_ ≠ (v24z:Value).ownBlock/\some k_ ≠ (v57z:Value).ownBlock) v44z qn):=⟨h1_⟩
   have qv:Aside0 (Kd.R (Kd.int .i64) 3 w56z w.heap.size (fun k_=>some k_ ≠ (v24z:Value).ownBlock/\some k_ ≠ (v44z:Value).ownBlock) v57z qj):=⟨h2_⟩
   replace BK2z:Aside0 (w56z.heap[gb0z]? = some (.cells #[.bool a0_0,.slice A0_1 l0_1.length c0_1,.int .i64 a0_2] 24 (0,0))):=⟨h3_⟩
   replace BK7z:Aside0 (w56z.heap[gb5z]? = some (.cells #[.bool a1_0,.slice A1_1 l1_1.length c1_1,.int .i64 a1_2] 24 (0,0))):=⟨h4_⟩
   replace HB:Aside0 (Below w.heap.size w w56z):=⟨h5_⟩
   clear h0_ h1_ h2_ h3_ h4_ h5_
   have hHeld:w56z.cell? ⟨gb0z,0,none⟩=some (.bool a0_0)/\w56z.cell? ⟨gb0z,1,none⟩=some (.slice A0_1 l0_1.length c0_1)/\w56z.cell? ⟨gb0z,2,none⟩=some (.int .i64 a0_2)/\w56z.cell? ⟨gb5z,0,none⟩=some (.bool a1_0)/\w56z.cell? ⟨gb5z,1,none⟩=some (.slice A1_1 l1_1.length c1_1)/\w56z.cell? ⟨gb5z,2,none⟩=some (.int .i64 a1_2):=hS_
   refine norm_ (a':=?_) ?_ ?_
   rotate_left
   ·simp only [putAll,Act.put,List.setIfInBounds_toArray,List.set_cons_zero,List.set_cons_succ]
    rfl
   refine one_ (i:=6) (N:=some 5) #[true,true,true,true,true,true,true,false] rfl rfl (Zbh HT_.out (by kernel_rfl)) (by decide) (fun K hK=>?_)
   refine Zf5 ?hg (N:=5) ?hd (cs:=#[.bool false,.slice none 0 0,.int .i64 0]) (t:=30) ?hr ?_;(case hd=>rfl);(case hg=>rfl);(case hr=>first|(go_simp;done)|(go_simp;rfl))
   intro qa hg w62z hbox hb
   have qc:=am hbox
   have qm:=gW hg
   have ql:=gW hg
   have qd:=nL hg BK2z
   have qg:=nG hg BK2z
   have qe:=nL hg BK7z
   have qh:=nG hg BK7z
   replace qb:=rbl qb hb
   replace qf:=rbl qf hb
   replace qv:=rbl qv hb
   replace BK2z:=bb BK2z hb
   replace BK7z:=bb BK7z hb
   replace HB:=bS hb
   clear hb hbox hg
   refine hK.out _ _ ⟨k0 BK2z 0,k0 BK2z 1,k0 BK2z 2,k0 BK7z 0,k0 BK7z 1,k0 BK7z 2⟩ (fun hHeld=>?_)
   clear hK K
   refine norm_ (a':=?_) ?_ ?_
   rotate_left
   ·show Act.put _ (some 5) _=_
    exact pP
   exact norm_ pT (hJ1_3_4_5_6 (v24z,v37z,v44z,v57z,qa) _ ⟨hHeld,(Kd.Za qb.o pl),(Kd.Za qf.o pl),(Kd.Za qv.o pl),(Zb BK2z.o pl),(Zb BK7z.o pl),(Zb qc.o pl),qm.o,ql.o,qd.o,qg.o,qe.o,qh.o,pB⟩)
 rintro ⟨v24z,v37z,v44z,v57z,qa⟩ w62z ⟨hS_,h0_,h1_,h2_,h3_,h4_,h5_,h6_,h7_,h8_,h9_,h10_,h11_,h12_⟩
 have qb:Aside0 (Kd.R (Kd.int .i64) 3 w62z w.heap.size (fun k_=>some k_ ≠ (v44z:Value).ownBlock/\some k_ ≠ (v57z:Value).ownBlock) v24z qi):=⟨h0_⟩
 have qf:Aside0 (Kd.R (Kd.int .i64) 3 w62z w.heap.size (fun k_=>some k_ ≠ (v24z:Value).ownBlock/\some k_ ≠ (v57z:Value).ownBlock) v44z qn):=⟨h1_⟩
 have qv:Aside0 (Kd.R (Kd.int .i64) 3 w62z w.heap.size (fun k_=>some k_ ≠ (v24z:Value).ownBlock/\some k_ ≠ (v44z:Value).ownBlock) v57z qj):=⟨h2_⟩
 have qc:Aside0 (w62z.heap[qa]? = some (.cells #[.bool false,.slice none 0 0,.int .i64 0] 30 (0,0))):=⟨h5_⟩
 have qm:Aside0 (w.heap.size<=qa):=⟨h6_⟩
 have ql:Aside0 (w.heap.size<=qa):=⟨h7_⟩
 have qd:Aside0 (gb0z ≠ qa):=⟨h8_⟩
 have qg:Aside0 (qa ≠ gb0z):=⟨h9_⟩
 have qe:Aside0 (gb5z ≠ qa):=⟨h10_⟩
 have qh:Aside0 (qa ≠ gb5z):=⟨h11_⟩
 replace BK2z:Aside0 (w62z.heap[gb0z]? = some (.cells #[.bool a0_0,.slice A0_1 l0_1.length c0_1,.int .i64 a0_2] 24 (0,0))):=⟨h3_⟩
 replace BK7z:Aside0 (w62z.heap[gb5z]? = some (.cells #[.bool a1_0,.slice A1_1 l1_1.length c1_1,.int .i64 a1_2] 24 (0,0))):=⟨h4_⟩
 replace HB:Aside0 (Below w.heap.size w w62z):=⟨h12_⟩
 clear h0_ h1_ h2_ h3_ h4_ h5_ h6_ h7_ h8_ h9_ h10_ h11_ h12_
 have hHeld:w62z.cell? ⟨gb0z,0,none⟩=some (.bool a0_0)/\w62z.cell? ⟨gb0z,1,none⟩=some (.slice A0_1 l0_1.length c0_1)/\w62z.cell? ⟨gb0z,2,none⟩=some (.int .i64 a0_2)/\w62z.cell? ⟨gb5z,0,none⟩=some (.bool a1_0)/\w62z.cell? ⟨gb5z,1,none⟩=some (.slice A1_1 l1_1.length c1_1)/\w62z.cell? ⟨gb5z,2,none⟩=some (.int .i64 a1_2):=hS_
 obtain ⟨jq,jt,jh⟩:=Kd.Zj qv.o
 (first|subst jh|(injection jh with f1_ f2_ f3_;have f4_:=f1_.symm;have f5_:=f3_.symm;clear f1_ f2_ f3_;subst f4_;subst f5_))
 refine norm_ (a':=?_) ?_ ?_
 rotate_left
 ·simp only [putAll,Act.put,List.setIfInBounds_toArray,List.set_cons_zero,List.set_cons_succ]
  rfl
 refine one_ (i:=7) (N:=none) #[true,true,true,true,true,true,true,true] rfl rfl (Zbh HT_.out (by kernel_rfl)) (by decide) (fun K hK=>?_)
 have hs66z:w62z.cell? ⟨qa,0,none⟩=some (.bool false):=k0 qc 0
 have hfs67z:=Zbi qc.o 0
 have hns68z:=qd.o
 have hns69z:=qe.o
 have hms70z:=qg.o
 have hms71z:=qh.o
 have hs72z:w62z.cell? ⟨qa,1,none⟩=some (.slice none 0 0):=k0 qc 1
 have hfs73z:=Zbi qc.o 1
 have hns74z:=qd.o
 have hns75z:=qe.o
 have hms76z:=qg.o
 have hms77z:=qh.o
 have hs78z:w62z.cell? ⟨qa,2,none⟩=some (.int .i64 0):=k0 qc 2
 have hfs79z:=Zbi qc.o 2
 have hns80z:=qd.o
 have hns81z:=qe.o
 have hms82z:=qg.o
 have hms83z:=qh.o
 refine skip_ (w1:=?_) (by rfl) rfl ?_ ?_
 rotate_left
 ·go_simp
  rfl
 refine hK.out _ _ ⟨((cell_far (p:=⟨qa,_,none⟩) qd.o _).trans (((cell_far (p:=⟨qa,_,none⟩) qd.o _).trans (((cell_far (p:=⟨qa,_,none⟩) qd.o _).trans (hHeld.1)))))),((cell_far (p:=⟨qa,_,none⟩) qd.o _).trans (((cell_far (p:=⟨qa,_,none⟩) qd.o _).trans (((cell_far (p:=⟨qa,_,none⟩) qd.o _).trans (hHeld.2.1)))))),((cell_far (p:=⟨qa,_,none⟩) qd.o _).trans (((cell_far (p:=⟨qa,_,none⟩) qd.o _).trans (((cell_far (p:=⟨qa,_,none⟩) qd.o _).trans (hHeld.2.2.1)))))),((cell_far (p:=⟨qa,_,none⟩) qe.o _).trans (((cell_far (p:=⟨qa,_,none⟩) qe.o _).trans (((cell_far (p:=⟨qa,_,none⟩) qe.o _).trans (hHeld.2.2.2.1)))))),((cell_far (p:=⟨qa,_,none⟩) qe.o _).trans (((cell_far (p:=⟨qa,_,none⟩) qe.o _).trans (((cell_far (p:=⟨qa,_,none⟩) qe.o _).trans (hHeld.2.2.2.2.1)))))),((cell_far (p:=⟨qa,_,none⟩) qe.o _).trans (((cell_far (p:=⟨qa,_,none⟩) qe.o _).trans (((cell_far (p:=⟨qa,_,none⟩) qe.o _).trans (hHeld.2.2.2.2.2))))))⟩ (fun hHeld=>?_)
 clear hK K
 refine done_ (Zde HT_.out (by kernel_rfl)) ?_
 have jm:=qg.o
 have jo:=qd.o
 have jn:=qh.o
 have jp:=qe.o
 obtain ⟨_,_,_,_,_,_⟩:=cEc qc.o
 try go_wp2
 go_ret
 exact ⟨pE,pB⟩):P:=h
theorem Zai.calls (k:Nat) (a0_0:Bool) (A0_1:Option Addr) (c0_1:Nat) (l0_1:List Int) (a0_2:Int) (a1_0:Bool) (A1_1:Option Addr) (c1_1:Nat) (l1_1:List Int) (a1_2:Int) (r:Int) (w:World) (hr0_1:Kd.C (Kd.int .u32) w A0_1 l0_1.length l0_1) (hc0_1:l0_1.length<=c0_1) (hr1_1:Kd.C (Kd.int .u32) w A1_1 l1_1.length l1_1) (hc1_1:l1_1.length<=c1_1) (h:Zai.f k a0_0 l0_1 a0_2 a1_0 l1_1 a1_2=some r) :
  Calls Tryz.prog 81 #[.agg #[.bool a0_0,.slice A0_1 l0_1.length c0_1,.int .i64 a0_2],.agg #[.bool a1_0,.slice A1_1 l1_1.length c1_1,.int .i64 a1_2]] w fun e w'=>e=.returned (.int .i64 r)/\Below w.heap.size w w':=by
 have hu24:=Tryz.underlying24
 have hu30:=Tryz.underlying30
 have HR0_1:=am hr0_1
 have HC0_1:=am hc0_1
 clear hr0_1 hc0_1
 have HR1_1:=am hr1_1
 have HC1_1:=am hc1_1
 clear hr1_1 hc1_1
 have HB:=am (Below.refl w.heap.size w)
 have H:((Zu.f k a0_0 l0_1 a0_2).bind fun qx=>((Zu.f k a1_0 l1_1 a1_2).bind fun qy=>((Za8.f qy.1 qy.2.1 qy.2.2).bind fun qz=>((Zae.f k qx.1 qx.2.1 qx.2.2 qz.1 qz.2.1 qz.2.2).bind fun q3=>(if (q3.2.1.length:Int)=0 then (some 0) else (if q3.1=true then (some (-1)) else (some 1)))))))=some r:=h
 clear h
 obtain ⟨⟨qo,qi,qp⟩,A3,H⟩:=ob H;(try dsimp only at H)
 obtain ⟨⟨qt,qs,qu⟩,A4,H⟩:=ob H;(try dsimp only at H)
 obtain ⟨⟨qq,qn,qr⟩,A5,H⟩:=ob H;(try dsimp only at H)
 obtain ⟨⟨ja,qj,qw⟩,A6,H⟩:=ob H;(try dsimp only at H)
 by_cases c7:(qj.length:Int)=0
 ·rw [if_pos c7] at H
  have c7b0:((qj.length:Int) == 0)=true:=beq_iff_eq.mpr c7
  have c7b1:((qj.length:Int) != 0)=false:=bne_eq_false_iff_eq.mpr c7
  clear c7
  obtain rfl:=Option.some.inj H
  exact Zai.leaf
 ·rw [if_neg c7] at H
  have c7b0:((qj.length:Int) == 0)=false:=beq_eq_false_iff_ne.mpr c7
  have c7b1:((qj.length:Int) != 0)=true:=bne_iff_ne.mpr c7
  have c7b2:¬ (qj=[]):=fun h_=>c7 (by rw [h_];rfl)
  by_cases c27:ja=true
  ·subst c27
   rw [if_pos rfl] at H
   obtain rfl:=Option.some.inj H
   exact Zai.leaf
  ·replace c27:=Bool.eq_false_iff.mpr c27
   subst c27
   rw [if_neg (show ¬ (false=true) by decide)] at H
   obtain rfl:=Option.some.inj H
   exact Zai.leaf
mutual
def Zk.j0:Nat->Bool->Bool->List Int->Int->Bool->List Int->Int->Option (Bool)
 | 0,_,_,_,_,_,_,_=>none
 | k+1,x26,qi,qg,qj,qk,qh,ql=>if x26=true then (some false) else (Zk.l0 k 0 qi qg qj qk qh ql)
def Zk.l0:Nat->Int->Bool->List Int->Int->Bool->List Int->Int->Option (Bool)
 | 0,_,_,_,_,_,_,_=>none
 | k+1,x5,qi,qg,qj,qk,qh,ql=>if x5 < (qg.length:Int) then (if 0<=x5 then (if x5 < (qh.length:Int) then (if (rd qg x5)=(rd qh x5) then (Zk.l0 k (wrap64 (x5+1)) qi qg qj qk qh ql) else (some false)) else (none)) else (none)) else (some true)
end
def Zk.f (k:Nat) (a0_0:Bool) (l0_1:List Int) (a0_2:Int) (a1_0:Bool) (l1_1:List Int) (a1_2:Int):Option (Bool):=if (a0_0 != a1_0)=true then (Zk.j0 k true a0_0 l0_1 a0_2 a1_0 l1_1 a1_2) else (if a0_2=a1_2 then (Zk.j0 k ((l0_1.length:Int) != (l1_1.length:Int)) a0_0 l0_1 a0_2 a1_0 l1_1 a1_2) else (Zk.j0 k true a0_0 l0_1 a0_2 a1_0 l1_1 a1_2))
theorem Zk.calls (k:Nat) (a0_0:Bool) (A0_1:Option Addr) (c0_1:Nat) (l0_1:List Int) (a0_2:Int) (a1_0:Bool) (A1_1:Option Addr) (c1_1:Nat) (l1_1:List Int) (a1_2:Int) (r:Bool) (w:World) (hr0_1:Kd.C (Kd.int .u32) w A0_1 l0_1.length l0_1) (hc0_1:l0_1.length<=c0_1) (hr1_1:Kd.C (Kd.int .u32) w A1_1 l1_1.length l1_1) (hc1_1:l1_1.length<=c1_1) (h:Zk.f k a0_0 l0_1 a0_2 a1_0 l1_1 a1_2=some r) :
  Calls Tryz.prog 21 #[.agg #[.bool a0_0,.slice A0_1 l0_1.length c0_1,.int .i64 a0_2],.agg #[.bool a1_0,.slice A1_1 l1_1.length c1_1,.int .i64 a1_2]] w fun e w'=>e=.returned (.bool r)/\Below w.heap.size w w':=by
 have hu24:=Tryz.underlying24
 have HR0_1:=am hr0_1
 have HC0_1:=am hc0_1
 clear hr0_1 hc0_1
 have HR1_1:=am hr1_1
 have HC1_1:=am hc1_1
 clear hr1_1 hc1_1
 have HB:=am (Below.refl w.heap.size w)
 have H:(if (a0_0 != a1_0)=true then (Zk.j0 k true a0_0 l0_1 a0_2 a1_0 l1_1 a1_2) else (if a0_2=a1_2 then (Zk.j0 k ((l0_1.length:Int) != (l1_1.length:Int)) a0_0 l0_1 a0_2 a1_0 l1_1 a1_2) else (Zk.j0 k true a0_0 l0_1 a0_2 a1_0 l1_1 a1_2)))=some r:=h
 clear h
 have HC3:=am H
 clear H
 go_enter Tryz.func21,Tryz.ntmps21
 go_upto_region 1 with (first|((with_reducible refine gd 2 ?_);(try (refine Zau (by rfl) ?_;dsimp only));refine bx 2 #[.bool a0_0,.slice A0_1 l0_1.length c0_1,.int .i64 a0_2] 24 (h:=?_);intro qq hg w4 hbox hb;have qa:=am hbox;have qu:=gW hg;have qs:=gW hg;replace HB:=bS hb;clear hb hbox hg)|((with_reducible refine gd 3 ?_);(try (refine Zau (by rfl) ?_;dsimp only));refine bx 3 #[.bool a1_0,.slice A1_1 l1_1.length c1_1,.int .i64 a1_2] 24 (h:=?_);intro qr hg w5 hbox hb;have qd:=am hbox;have qv:=gW hg;have qt:=gW hg;have qb:=nL hg qa;have qc:=nG hg qa;replace qa:=bb qa hb;replace HB:=bS hb;clear hb hbox hg))
 repeat (go_quiet (first|((with_reducible refine gd 2 ?_);(try (refine Zau (by rfl) ?_;dsimp only));refine bx 2 #[.bool a0_0,.slice A0_1 l0_1.length c0_1,.int .i64 a0_2] 24 (h:=?_);intro qq hg w4 hbox hb;have qa:=am hbox;have qu:=gW hg;have qs:=gW hg;replace HB:=bS hb;clear hb hbox hg)|((with_reducible refine gd 3 ?_);(try (refine Zau (by rfl) ?_;dsimp only));refine bx 3 #[.bool a1_0,.slice A1_1 l1_1.length c1_1,.int .i64 a1_2] 24 (h:=?_);intro qr hg w5 hbox hb;have qd:=am hbox;have qv:=gW hg;have qt:=gW hg;have qb:=nL hg qa;have qc:=nG hg qa;replace qa:=bb qa hb;replace HB:=bS hb;clear hb hbox hg));go_upto_region 1 with (first|((with_reducible refine gd 2 ?_);(try (refine Zau (by rfl) ?_;dsimp only));refine bx 2 #[.bool a0_0,.slice A0_1 l0_1.length c0_1,.int .i64 a0_2] 24 (h:=?_);intro qq hg w4 hbox hb;have qa:=am hbox;have qu:=gW hg;have qs:=gW hg;replace HB:=bS hb;clear hb hbox hg)|((with_reducible refine gd 3 ?_);(try (refine Zau (by rfl) ?_;dsimp only));refine bx 3 #[.bool a1_0,.slice A1_1 l1_1.length c1_1,.int .i64 a1_2] 24 (h:=?_);intro qr hg w5 hbox hb;have qd:=am hbox;have qv:=gW hg;have qt:=gW hg;have qb:=nL hg qa;have qc:=nG hg qa;replace qa:=bb qa hb;replace HB:=bS hb;clear hb hbox hg)))
 (try simp only [Act.put,List.setIfInBounds_toArray,List.set_cons_zero,List.set_cons_succ])
 go_cut [26] (fun v26 wc => ∃ (kq:Nat) (x26_2:Bool),v26=.bool x26_2/\Aside0 (Zk.j0 kq x26_2 a0_0 l0_1 a0_2 a1_0 l1_1 a1_2=some r)/\Aside0 (kq<=k)/\Aside0 (wc.heap[qq]? = some (.cells #[.bool a0_0,(.slice A0_1 l0_1.length c0_1),.int .i64 a0_2] 24 (0,0)))/\Aside0 (wc.heap[qr]? = some (.cells #[.bool a1_0,(.slice A1_1 l1_1.length c1_1),.int .i64 a1_2] 24 (0,0)))/\Aside0 (Below w.heap.size w wc))
 case first =>
  have H:=HC3.o
  clear HC3
  by_cases c6:(a0_0 != a1_0)=true
  ·rw [if_pos c6] at H
   have c6b0:(a0_0 != a1_0)=true:=c6
   (try (have c6b1:decide (a0_0=a1_0)=false:=by simpa using c6))
   (try (have c6b2:(a0_0 == a1_0)=false:=by simpa using c6))
   (try (have c6b3:¬ (a0_0=a1_0):=by simpa using c6))
   clear c6
   (first|rw [c6b0]|(simp only [Zcd,Zdb];rw [c6b0])|skip)
   have H':=am H
   clear H
   have hnb7:=qb.o
   have hnc7:=qc.o
   obtain ⟨_,_,_,_,_,_⟩:=cEc qa.o
   obtain ⟨_,_,_,_,_,_⟩:=cEc qd.o
   go_wp2
   repeat (go_quiet (fail);try go_wp2)
   go_meet
   case rel=>exact ⟨_,(true),pR,H',⟨by first|omega|exact Nat.le_refl _⟩,⟨Zb qa.o pl⟩,⟨Zb qd.o pl⟩,⟨pB⟩⟩
  ·rw [if_neg c6] at H
   have c6b0:(a0_0 != a1_0)=false:=by simpa using c6
   (try (have c6b1:decide (a0_0=a1_0)=true:=by simpa using c6))
   (try (have c6b2:(a0_0 == a1_0)=true:=by simpa using c6))
   clear c6
   (first|rw [c6b0]|(simp only [Zcd,Zdb];rw [c6b0])|skip)
   by_cases c10:a0_2=a1_2
   ·rw [if_pos c10] at H
    have c10b0:(a0_2 == a1_2)=true:=beq_iff_eq.mpr c10
    have c10b1:(a0_2 != a1_2)=false:=bne_eq_false_iff_eq.mpr c10
    clear c10
    have H':=am H
    clear H
    have q0:=qb.o
    have q5:=qc.o
    obtain ⟨_,_,_,_,_,_⟩:=cEc qa.o
    obtain ⟨_,_,_,_,_,_⟩:=cEc qd.o
    go_wp2
    repeat (go_quiet (fail);try go_wp2)
    go_meet
    case rel=>exact ⟨_,(((l0_1.length:Int) != (l1_1.length:Int))),pR,H',⟨by first|omega|exact Nat.le_refl _⟩,⟨Zb qa.o pl⟩,⟨Zb qd.o pl⟩,⟨pB⟩⟩
   ·rw [if_neg c10] at H
    have c10b0:(a0_2 == a1_2)=false:=beq_eq_false_iff_ne.mpr c10
    have c10b1:(a0_2 != a1_2)=true:=bne_iff_ne.mpr c10
    have H':=am H
    clear H
    have q1:=qb.o
    have q6:=qc.o
    obtain ⟨_,_,_,_,_,_⟩:=cEc qa.o
    obtain ⟨_,_,_,_,_,_⟩:=cEc qd.o
    go_wp2
    repeat (go_quiet (fail);try go_wp2)
    go_meet
    case rel=>exact ⟨_,(true),pR,H',⟨by first|omega|exact Nat.le_refl _⟩,⟨Zb qa.o pl⟩,⟨Zb qd.o pl⟩,⟨pB⟩⟩
 case rest =>
  clear HC3
  obtain ⟨kq,x26_2,rfl,HA,HJ2,qa,qd,HB⟩:=hcut
  cases kq with
  | zero=>exact absurd HA.out (by simp [Zk.j0])
  | succ kj2 =>
   have H:=HA.out
   clear HA
   simp only [Zk.j0] at H
   by_cases c17:x26_2=true
   ·subst c17
    rw [if_pos rfl] at H
    obtain rfl:=Option.some.inj H
    go_wp2
    repeat (go_quiet (fail);try go_wp2)
    go_ret
    exact ⟨pE,pB⟩
   ·replace c17:=Bool.eq_false_iff.mpr c17
    subst c17
    rw [if_neg (show ¬ (false=true) by decide)] at H
    have H':=am H
    clear H
    go_wp2
    repeat (go_quiet (fail);try go_wp2)
    go_loopg [5] kj2 (fun kq v5 w' => ∃ (x5_2:Int),v5=.int .i64 x5_2/\Aside0 (Zk.l0 kq x5_2 a0_0 l0_1 a0_2 a1_0 l1_1 a1_2=some r)/\Aside0 (kq<=kj2)/\Aside0 (w'.heap[qq]? = some (.cells #[.bool a0_0,(.slice A0_1 l0_1.length c0_1),.int .i64 a0_2] 24 (0,0)))/\Aside0 (w'.heap[qr]? = some (.cells #[.bool a1_0,(.slice A1_1 l1_1.length c1_1),.int .i64 a1_2] 24 (0,0)))/\Aside0 (Below w.heap.size w w'))
    case atStart=>exact ⟨(0),pR,H',⟨Nat.le_refl _⟩,⟨Zb qa.o pl⟩,⟨Zb qd.o pl⟩,⟨pB⟩⟩
    case round =>
     clear H'
     obtain ⟨x5_2,rfl,HA,HK2,qa,qd,HB⟩:=hrel
     cases gk with
     | zero=>exact absurd HA.out (by simp [Zk.l0])
     | succ k2 =>
      have H:=HA.out
      clear HA
      simp only [Zk.l0] at H
      by_cases c18:x5_2 < (l0_1.length:Int)
      ·rw [if_pos c18] at H
       have c18b0:decide (x5_2 < (l0_1.length:Int))=true:=decide_eq_true c18
       clear c18
       by_cases c19:0<=x5_2
       ·rw [if_pos c19] at H
        have c19b0:decide (0<=x5_2)=true:=decide_eq_true c19
        clear c19
        by_cases c20:x5_2 < (l1_1.length:Int)
        ·rw [if_pos c20] at H
         have c20b0:decide (x5_2 < (l1_1.length:Int))=true:=decide_eq_true c20
         clear c20
         by_cases c21:(rd l0_1 x5_2)=(rd l1_1 x5_2)
         ·rw [if_pos c21] at H
          have c21b0:((rd l0_1 x5_2) == (rd l1_1 x5_2))=true:=beq_iff_eq.mpr c21
          have c21b1:((rd l0_1 x5_2) != (rd l1_1 x5_2))=false:=bne_eq_false_iff_eq.mpr c21
          clear c21
          have H':=am H
          clear H
          have q2:=qb.o
          have q7:=qc.o
          obtain ⟨_,_,_,_,_,_⟩:=cEc qa.o
          have qm:0<=(x5_2:Int):=of_decide_eq_true pQ
          have qo:x5_2 < (l0_1.length:Int):=of_decide_eq_true pQ
          obtain ⟨qy,qw,qe⟩:=Kd.Za5 HR0_1.o x5_2 qm qo
          cases qw
          replace qe:=(HB.o.cell (World.block_lt_of_cell? w _ qe)).trans qe
          replace qm:=eq_true qm
          replace qo:=eq_true qo
          obtain ⟨_,_,_,_,_,_⟩:=cEc qd.o
          have qn:0<=(x5_2:Int):=of_decide_eq_true pQ
          have qp:x5_2 < (l1_1.length:Int):=of_decide_eq_true pQ
          obtain ⟨qz,qx,qf⟩:=Kd.Za5 HR1_1.o x5_2 qn qp
          cases qx
          replace qf:=(HB.o.cell (World.block_lt_of_cell? w _ qf)).trans qf
          replace qn:=eq_true qn
          replace qp:=eq_true qp
          go_wp2
          repeat (go_quiet (fail);try go_wp2)
          go_roundg k2
          case measure=>have := HJ2.o;have := HK2.out;omega
          case rel=>exact ⟨(wrap64 (x5_2+1)),pR,H',⟨by have := HJ2.o;have := HK2.out;omega⟩,⟨Zb qa.o pl⟩,⟨Zb qd.o pl⟩,⟨pB⟩⟩
         ·rw [if_neg c21] at H
          have c21b0:((rd l0_1 x5_2) == (rd l1_1 x5_2))=false:=beq_eq_false_iff_ne.mpr c21
          have c21b1:((rd l0_1 x5_2) != (rd l1_1 x5_2))=true:=bne_iff_ne.mpr c21
          obtain rfl:=Option.some.inj H
          have q3:=qb.o
          have q8:=qc.o
          obtain ⟨_,_,_,_,_,_⟩:=cEc qa.o
          have qm:0<=(x5_2:Int):=of_decide_eq_true pQ
          have qo:x5_2 < (l0_1.length:Int):=of_decide_eq_true pQ
          obtain ⟨qy,qw,qe⟩:=Kd.Za5 HR0_1.o x5_2 qm qo
          cases qw
          replace qe:=(HB.o.cell (World.block_lt_of_cell? w _ qe)).trans qe
          replace qm:=eq_true qm
          replace qo:=eq_true qo
          obtain ⟨_,_,_,_,_,_⟩:=cEc qd.o
          have qn:0<=(x5_2:Int):=of_decide_eq_true pQ
          have qp:x5_2 < (l1_1.length:Int):=of_decide_eq_true pQ
          obtain ⟨qz,qx,qf⟩:=Kd.Za5 HR1_1.o x5_2 qn qp
          cases qx
          replace qf:=(HB.o.cell (World.block_lt_of_cell? w _ qf)).trans qf
          replace qn:=eq_true qn
          replace qp:=eq_true qp
          go_wp2
          repeat (go_quiet (fail);try go_wp2)
          go_ret
          exact ⟨pE,pB⟩
        ·rw [if_neg c20] at H
         exact absurd H (by simp)
       ·rw [if_neg c19] at H
        exact absurd H (by simp)
      ·rw [if_neg c18] at H
       have c18b0:decide (x5_2 < (l0_1.length:Int))=false:=decide_eq_false c18
       clear c18
       obtain rfl:=Option.some.inj H
       have q4:=qb.o
       have q9:=qc.o
       obtain ⟨_,_,_,_,_,_⟩:=cEc qa.o
       go_wp2
       repeat (go_quiet (fail);try go_wp2)
       go_ret
       exact ⟨pE,pB⟩
def Zaw.f (k:Nat) (a0_0:Bool) (l0_1:List Int) (a0_2:Int) (a1_0:Bool) (l1_1:List Int) (a1_2:Int):Option (Bool × List Int × Int × Int):=(Zbo.f k a0_0 l0_1 a0_2 a1_0 l1_1 a1_2).bind fun qh=>(if qh=0 then ((Zu.f k a0_0 l0_1 a0_2).bind fun qi=>((Zu.f k a1_0 l1_1 a1_2).bind fun qj=>((Za8.f qj.1 qj.2.1 qj.2.2).bind fun qk=>((Zae.f k qi.1 qi.2.1 qi.2.2 qk.1 qk.2.1 qk.2.2).bind fun ql=>((Zq.f k ql.1 ql.2.1 ql.2.2).bind fun qf=>(some (qf.1,qf.2.1,qf.2.2.1,qf.2.2.2))))))) else (some (false,([]:List Int),0,9)))
def Zaw.T3:Bool × List (List Nat × List Nat):=(true,[([],[]),([0],[0]),([],[]),([2,1],[2]),([3,3],[3]),([1,4,4],[1,4]),([5,5],[5]),([6],[6]),([6],[6]),([7,6,0,1,2,3,4,5,6,7,8],[7]),([8,9,0,1,2,3,4,5,6,7,8,9],[8])])
def Zaw.B3:List Nat:=[0,1,0,7,15,31,63,127,127,511,1023]
theorem Zaw.tab3:rtab .any (opsOf Tryz.f22 3)=Zaw.T3:=by kernel_rfl
theorem Zaw.bits3:waitsOk Zaw.T3.2 Zaw.B3=true:=by kernel_rfl
theorem Zaw.leaf {P:Prop} (h:P:=by
 go_enter Tryz.func22,Tryz.ntmps22
 try go_wp2_with (first|((with_reducible refine gd 2 ?_);refine bx 2 #[.bool a0_0,.slice A0_1 l0_1.length c0_1,.int .i64 a0_2] 24 (h:=?_);intro gb0z hg w1z hbox hb;have BK2z:=am hbox;have GW3z:=gW hg;replace HB:=bS hb;clear hb hbox hg)|((with_reducible refine gd 3 ?_);refine bx 3 #[.bool a1_0,.slice A1_1 l1_1.length c1_1,.int .i64 a1_2] 24 (h:=?_);intro gb5z hg w6z hbox hb;have BK7z:=am hbox;have GW8z:=gW hg;have jl:=nL hg BK2z;have jm:=nG hg BK2z;replace BK2z:=bb BK2z hb;replace HB:=bS hb;clear hb hbox hg)|((with_reducible refine gd 4 ?_);refine bx 4 #[.bool false,.slice none 0 0,.int .i64 0] 24 (h:=?_);intro qb hg w13z hbox hb;have qa:=am hbox;have ju:=gW hg;have qd:=nL hg BK2z;have qo:=nG hg BK2z;have qe:=nL hg BK7z;have qp:=nG hg BK7z;replace BK2z:=bb BK2z hb;replace BK7z:=bb BK7z hb;replace HB:=bS hb;clear hb hbox hg;have jn:=jl.o;have jq:=jm.o;have jo:=qd.o;have jr:=qo.o;obtain ⟨_,_,_,_,_,_⟩:=cEc BK2z.o;have jp:=qe.o;have js:=qp.o;obtain ⟨_,_,_,_,_,_⟩:=cEc BK7z.o)|((have q_:=A9;clear q_);refine gL (some 8) Tryz.func64 #[.agg #[.bool a0_0,.slice A0_1 l0_1.length c0_1,.int .i64 a0_2],.agg #[.bool a1_0,.slice A1_1 l1_1.length c1_1,.int .i64 a1_2]] (h:=?_);(with_reducible refine (Zbo.calls k a0_0 _ _ l0_1 a0_2 a1_0 _ _ l1_1 a1_2 qh _ ?side1 ?side2 ?side3 ?side4 A3.o).mono ?_);(case side1=>exact cB HR0_1 HB);(case side2=>exact HC0_1.o);(case side3=>exact cB HR1_1 HB);(case side4=>exact HC1_1.o);rintro e w39z ⟨rfl,hb⟩;refine ⟨_,rfl,?_⟩;replace BK2z:=bb BK2z hb;replace BK7z:=bb BK7z hb;replace qa:=bb qa hb;replace HB:=bS hb)|((have q_:(qh != 0)=true:=c4b1;clear q_);refine gL (some 8) Tryz.func64 #[.agg #[.bool a0_0,.slice A0_1 l0_1.length c0_1,.int .i64 a0_2],.agg #[.bool a1_0,.slice A1_1 l1_1.length c1_1,.int .i64 a1_2]] (h:=?_);(with_reducible refine (Zbo.calls k a0_0 _ _ l0_1 a0_2 a1_0 _ _ l1_1 a1_2 qh _ ?side1 ?side2 ?side3 ?side4 A3.o).mono ?_);(case side1=>exact cB HR0_1 HB);(case side2=>exact HC0_1.o);(case side3=>exact cB HR1_1 HB);(case side4=>exact HC1_1.o);rintro e w39z ⟨rfl,hb⟩;refine ⟨_,rfl,?_⟩;replace BK2z:=bb BK2z hb;replace BK7z:=bb BK7z hb;replace qa:=bb qa hb;replace HB:=bS hb;obtain ⟨_,_,_,_,_,_⟩:=cEc qa.o))
 first
  | have q_:=A9
    replace BK2z:=am (Zar BK2z.o)
    replace BK7z:=am (Zar BK7z.o)
    replace qa:=am (Zar qa.o)
    replace HB:=am (Zav HB.o)
    refine start_ (n:=11) (S:=fun w'=>w'.cell? ⟨gb0z,0,none⟩=some (.bool a0_0)/\w'.cell? ⟨gb0z,1,none⟩=some (.slice A0_1 l0_1.length c0_1)/\w'.cell? ⟨gb0z,2,none⟩=some (.int .i64 a0_2)/\w'.cell? ⟨gb5z,0,none⟩=some (.bool a1_0)/\w'.cell? ⟨gb5z,1,none⟩=some (.slice A1_1 l1_1.length c1_1)/\w'.cell? ⟨gb5z,2,none⟩=some (.int .i64 a1_2)) (ds:=[]) #[false,false,false,false,false,false,false,false,false,false,false] (by kernel_rfl) rfl rfl ⟨k0 BK2z 0,k0 BK2z 1,k0 BK2z 2,k0 BK7z 0,k0 BK7z 1,k0 BK7z 2⟩ (fun hHeld=>?_);refine Zb6 Zaw.tab3 Zaw.bits3 (fun HT_ HW_=>?_)
    generalize w39z.drew=w40z at BK2z BK7z qa HB hHeld ⊢
    refine take_ (i:=0) (N:=some 11) (v:=?_) (a':=?_) #[true,false,false,false,false,false,false,false,false,false,false] rfl rfl (Zay HT_.out HW_.out (by kernel_rfl)) (fun _ _ _ h=>h) (Or.inl ⟨by rfl,?_⟩) hHeld ?_ ?_
    rotate_left
    ·rintro w' ⟨s41z,s42z,s43z,s44z,s45z,s46z⟩
     go_simp
     with_reducible rfl
    rotate_left
    ·exact pP
    refine take_ (i:=2) (N:=some 13) (v:=?_) (a':=?_) #[true,false,true,false,false,false,false,false,false,false,false] rfl rfl (Zay HT_.out HW_.out (by kernel_rfl)) (fun _ _ _ h=>h) (Or.inl ⟨by rfl,?_⟩) hHeld ?_ ?_
    rotate_left
    ·rintro w' ⟨s41z,s42z,s43z,s44z,s45z,s46z⟩
     go_simp
     with_reducible rfl
    rotate_left
    ·exact pP
    refine one_ (i:=1) (N:=some 12) #[true,true,true,false,false,false,false,false,false,false,false] rfl rfl (Zbh HT_.out (by kernel_rfl)) (by decide) (fun K hK=>?_)
    refine goes_ Tryz.func18 (by kernel_rfl) rfl #[.agg #[.bool a0_0,.slice A0_1 l0_1.length c0_1,.int .i64 a0_2]] (by rfl) rfl rfl pA ?_
    with_reducible refine (Zu.calls k a0_0 _ _ l0_1 a0_2 ja qw jb _ ?side1 ?side2 A5.o).mono ?_
    (case side1=>exact cB HR0_1 HB)
    (case side2=>exact HC0_1.o)
    rintro e w47z ⟨v48z,rfl,ho49z,hb⟩
    refine ⟨_,rfl,?_⟩
    have qc:=am (Kd.Zo ho49z (Zd pB))
    replace BK2z:=bb BK2z hb
    replace BK7z:=bb BK7z hb
    replace qa:=bb qa hb
    replace HB:=bS hb
    refine hK.out _ _ ⟨k0 BK2z 0,k0 BK2z 1,k0 BK2z 2,k0 BK7z 0,k0 BK7z 1,k0 BK7z 2⟩ (fun hHeld=>?_)
    clear hK K
    refine norm_ (a':=?_) ?_ ?_
    rotate_left
    ·show Act.put _ (some 12) _=_
     exact pP
    refine one_ (i:=3) (N:=some 14) #[true,true,true,true,false,false,false,false,false,false,false] rfl rfl (Zbh HT_.out (by kernel_rfl)) (by decide) (fun K hK=>?_)
    refine goes_ Tryz.func18 (by kernel_rfl) rfl #[.agg #[.bool a1_0,.slice A1_1 l1_1.length c1_1,.int .i64 a1_2]] (by rfl) rfl rfl pA ?_
    with_reducible refine (Zu.calls k a1_0 _ _ l1_1 a1_2 jc qu jd _ ?side1 ?side2 A6.o).mono ?_
    (case side1=>exact cB HR1_1 HB)
    (case side2=>exact HC1_1.o)
    rintro e w51z ⟨v52z,rfl,ho49z,hb⟩
    refine ⟨_,rfl,?_⟩
    have qm:=am (Kd.Zo (Kd.Zs ho49z (Kd.R_lt (Kd.Za qc.o pl))) (Zd pB))
    replace qc:=reR qc ho49z hb
    replace BK2z:=bb BK2z hb
    replace BK7z:=bb BK7z hb
    replace qa:=bb qa hb
    replace HB:=bS hb
    obtain ⟨qq,qs,q5⟩:=Kd.Zj qm.o
    (first|subst q5|(injection q5 with f1_ f2_ f3_;have f4_:=f1_.symm;have f5_:=f3_.symm;clear f1_ f2_ f3_;subst f4_;subst f5_))
    refine hK.out _ _ ⟨k0 BK2z 0,k0 BK2z 1,k0 BK2z 2,k0 BK7z 0,k0 BK7z 1,k0 BK7z 2⟩ (fun hHeld=>?_)
    clear hK K
    refine norm_ (a':=?_) ?_ ?_
    rotate_left
    ·show Act.put _ (some 14) _=_
     exact pP
    refine one_ (i:=4) (N:=some 15) #[true,true,true,true,true,false,false,false,false,false,false] rfl rfl (Zbh HT_.out (by kernel_rfl)) (by decide) (fun K hK=>?_)
    refine goes_ Tryz.func78 (by kernel_rfl) rfl #[.agg #[.bool jc,.slice qq qu.length qs,.int .i64 jd]] (by rfl) rfl rfl pA ?_
    with_reducible refine (Za8.calls jc (fun k_=>some k_=(.slice qq qu.length qs:Value).ownBlock) (.slice qq qu.length qs) qu jd je qx jf w _ ?side1 ?side2 A7.o).mono ?_
    (case side1=>exact pB)
    (case side2=>exact Kd.Zbj rfl qm.o)
    rintro e w57z ⟨v58z,rfl,ho49z,hb,hkp⟩
    refine ⟨_,rfl,?_⟩
    have qg:=am (Kd.Zh (ok':=fun k_=>some k_ ≠ (v48z:Value).ownBlock) ho49z (fun k_ hk_=>Or.elim hk_ (fun hs_=>fun e_=>(((qc.o).1 k_ e_.symm).2) hs_) (fun hn_=>(Kd.fresh' (Kd.R_lt (Kd.Za qc.o pl)) k_ hn_))))
    replace BK2z:=am (Za0 (Zb BK2z.o pl) hkp (fun e_=>Kd.R_ne qm.o BK2z.o (by decide) e_))
    replace BK7z:=am (Za0 (Zb BK7z.o pl) hkp (fun e_=>Kd.R_ne qm.o BK7z.o (by decide) e_))
    replace qa:=am (Za0 (Zb qa.o pl) hkp (fun e_=>Kd.R_ne qm.o qa.o (by decide) e_))
    replace qc:=am (Kd.Zh (ok':=fun k_=>some k_ ≠ (v58z:Value).ownBlock) (Kd.Zcb (qc.o) hkp (fun k_ hk_ hs_=>(hk_.2) hs_)) (fun k_ hk_=>fun e_=>Or.elim (ho49z.1 k_ e_.symm) (fun hs_=>hk_.2.1 hs_) (fun hn_=>Nat.not_le.2 hk_.2.2 hn_)))
    replace HB:=am hb
    clear qm
    obtain ⟨qy,q2,q6⟩:=Kd.Zj qc.o
    (first|subst q6|(injection q6 with f1_ f2_ f3_;have f4_:=f1_.symm;have f5_:=f3_.symm;clear f1_ f2_ f3_;subst f4_;subst f5_))
    obtain ⟨qz,q3,q7⟩:=Kd.Zj qg.o
    (first|subst q7|(injection q7 with f1_ f2_ f3_;have f4_:=f1_.symm;have f5_:=f3_.symm;clear f1_ f2_ f3_;subst f4_;subst f5_))
    refine hK.out _ _ ⟨k0 BK2z 0,k0 BK2z 1,k0 BK2z 2,k0 BK7z 0,k0 BK7z 1,k0 BK7z 2⟩ (fun hHeld=>?_)
    clear hK K
    refine norm_ (a':=?_) ?_ ?_
    rotate_left
    ·show Act.put _ (some 15) _=_
     exact pP
    refine one_ (i:=5) (N:=some 16) #[true,true,true,true,true,true,false,false,false,false,false] rfl rfl (Zbh HT_.out (by kernel_rfl)) (by decide) (fun K hK=>?_)
    refine goes_ Tryz.func77 (by kernel_rfl) rfl #[.agg #[.bool ja,.slice qy qw.length q2,.int .i64 jb],.agg #[.bool je,.slice qz qx.length q3,.int .i64 jf]] (by rfl) rfl rfl pA ?_
    with_reducible refine (Zae.calls k ja _ _ qw jb je _ _ qx jf jg qv jh _ ?side1 ?side2 ?side3 ?side4 A8.o).mono ?_
    (case side1=>exact Kd.Zn (Kd.Zc qc.o).2.2 pl)
    (case side2=>exact (Kd.Zc qc.o).2.1)
    (case side3=>exact Kd.Zn (Kd.Zc qg.o).2.2 pl)
    (case side4=>exact (Kd.Zc qg.o).2.1)
    rintro e w66z ⟨v67z,rfl,ho49z,hb⟩
    refine ⟨_,rfl,?_⟩
    have qn:=am (Kd.Zo (Kd.Zs (Kd.Zs ho49z (Kd.R_lt (Kd.Za qc.o pl))) (Kd.R_lt (Kd.Za qg.o pl))) (Zd pB))
    replace qc:=reR qc ho49z hb
    replace qg:=reR qg ho49z hb
    replace BK2z:=bb BK2z hb
    replace BK7z:=bb BK7z hb
    replace qa:=bb qa hb
    replace HB:=bS hb
    obtain ⟨qr,qt,q8⟩:=Kd.Zj qn.o
    (first|subst q8|(injection q8 with f1_ f2_ f3_;have f4_:=f1_.symm;have f5_:=f3_.symm;clear f1_ f2_ f3_;subst f4_;subst f5_))
    refine hK.out _ _ ⟨k0 BK2z 0,k0 BK2z 1,k0 BK2z 2,k0 BK7z 0,k0 BK7z 1,k0 BK7z 2⟩ (fun hHeld=>?_)
    clear hK K
    refine norm_ (a':=?_) ?_ ?_
    rotate_left
    ·show Act.put _ (some 16) _=_
     exact pP
    refine one_ (i:=6) (N:=some 17) #[true,true,true,true,true,true,true,false,false,false,false] rfl rfl (Zbh HT_.out (by kernel_rfl)) (by decide) (fun K hK=>?_)
    refine goes_ Tryz.func23 (by kernel_rfl) rfl #[.agg #[.bool jg,.slice qr qv.length qt,.int .i64 jh]] (by rfl) rfl rfl pA ?_
    with_reducible refine (Zq.calls k jg (fun k_=>some k_=(.slice qr qv.length qt:Value).ownBlock) (.slice qr qv.length qt) qv jh ji jj jk jt w _ ?side1 ?side2 A9.o).mono ?_
    (case side1=>exact pB)
    (case side2=>exact Kd.Zbj rfl qn.o)
    rintro e w72z ⟨v73z,rfl,ho49z,hb,hkp⟩
    refine ⟨_,rfl,?_⟩
    have q1:=am (Kd.Zh (ok':=fun k_=>True) ho49z (fun k_ hk_=>trivial))
    replace BK2z:=am (Za0 (Zb BK2z.o pl) hkp (fun e_=>Kd.R_ne qn.o BK2z.o (by decide) e_))
    replace BK7z:=am (Za0 (Zb BK7z.o pl) hkp (fun e_=>Kd.R_ne qn.o BK7z.o (by decide) e_))
    replace qa:=am (Za0 (Zb qa.o pl) hkp (fun e_=>Kd.R_ne qn.o qa.o (by decide) e_))
    replace qc:=am (Kd.Zh (ok':=fun k_=>some k_ ≠ (.slice qz qx.length q3:Value).ownBlock) (Kd.Zcb (qc.o) hkp (fun k_ hk_ hs_=>(hk_.2) hs_)) (fun k_ hk_=>hk_.1.1))
    replace qg:=am (Kd.Zh (ok':=fun k_=>some k_ ≠ (.slice qy qw.length q2:Value).ownBlock) (Kd.Zcb (qg.o) hkp (fun k_ hk_ hs_=>(hk_.2) hs_)) (fun k_ hk_=>hk_.1.1))
    replace HB:=am hb
    clear qn
    obtain ⟨q0,q4,q9⟩:=Kd.Zj q1.o
    (first|subst q9|(injection q9 with f1_ f2_ f3_;have f4_:=f1_.symm;have f5_:=f3_.symm;clear f1_ f2_ f3_;subst f4_;subst f5_))
    refine hK.out _ _ ⟨k0 BK2z 0,k0 BK2z 1,k0 BK2z 2,k0 BK7z 0,k0 BK7z 1,k0 BK7z 2⟩ (fun hHeld=>?_)
    clear hK K
    refine norm_ (a':=?_) ?_ ?_
    rotate_left
    ·show Act.put _ (some 17) _=_
     exact pP
    refine pu 7 (some 18) #[true,true,true,true,true,true,true,true,false,false,false] (h:=?_)
    refine pu 8 (some 19) #[true,true,true,true,true,true,true,true,true,false,false] (h:=?_)
    refine one_ (i:=9) (N:=none) #[true,true,true,true,true,true,true,true,true,true,false] rfl rfl (Zbh HT_.out (by kernel_rfl)) (by decide) (fun K hK=>?_)
    have hs78z:w72z.cell? ⟨qb,0,none⟩=some (.bool false):=k0 qa 0
    have hfs79z:=Zbi qa.o 0
    have hns80z:=qd.o
    have hns81z:=qe.o
    have hms82z:=qo.o
    have hms83z:=qp.o
    have hs84z:w72z.cell? ⟨qb,1,none⟩=some (.slice none 0 0):=k0 qa 1
    have hfs85z:=Zbi qa.o 1
    have hns86z:=qd.o
    have hns87z:=qe.o
    have hms88z:=qo.o
    have hms89z:=qp.o
    have hs90z:w72z.cell? ⟨qb,2,none⟩=some (.int .i64 0):=k0 qa 2
    have hfs91z:=Zbi qa.o 2
    have hns92z:=qd.o
    have hns93z:=qe.o
    have hms94z:=qo.o
    have hms95z:=qp.o
    refine skip_ (w1:=?_) (by rfl) rfl ?_ ?_
    rotate_left
    ·go_simp
     rfl
    refine hK.out _ _ ⟨((cell_far (p:=⟨qb,_,none⟩) qd.o _).trans (((cell_far (p:=⟨qb,_,none⟩) qd.o _).trans (((cell_far (p:=⟨qb,_,none⟩) qd.o _).trans (hHeld.1)))))),((cell_far (p:=⟨qb,_,none⟩) qd.o _).trans (((cell_far (p:=⟨qb,_,none⟩) qd.o _).trans (((cell_far (p:=⟨qb,_,none⟩) qd.o _).trans (hHeld.2.1)))))),((cell_far (p:=⟨qb,_,none⟩) qd.o _).trans (((cell_far (p:=⟨qb,_,none⟩) qd.o _).trans (((cell_far (p:=⟨qb,_,none⟩) qd.o _).trans (hHeld.2.2.1)))))),((cell_far (p:=⟨qb,_,none⟩) qe.o _).trans (((cell_far (p:=⟨qb,_,none⟩) qe.o _).trans (((cell_far (p:=⟨qb,_,none⟩) qe.o _).trans (hHeld.2.2.2.1)))))),((cell_far (p:=⟨qb,_,none⟩) qe.o _).trans (((cell_far (p:=⟨qb,_,none⟩) qe.o _).trans (((cell_far (p:=⟨qb,_,none⟩) qe.o _).trans (hHeld.2.2.2.2.1)))))),((cell_far (p:=⟨qb,_,none⟩) qe.o _).trans (((cell_far (p:=⟨qb,_,none⟩) qe.o _).trans (((cell_far (p:=⟨qb,_,none⟩) qe.o _).trans (hHeld.2.2.2.2.2))))))⟩ (fun hHeld=>?_)
    clear hK K
    refine pu 10 (some 5) #[true,true,true,true,true,true,true,true,true,true,true] (h:=?_)
    refine done_ (Zde HT_.out (by kernel_rfl)) ?_
    try go_wp2
    refine bodyPost_ret (Za1 rfl _ _ qb 24 #[.bool ji,.slice q0 jj.length q4,.int .i64 jk] (0,0) _ rfl (by exact p3 qa) Tryz.underlying24 rfl (by kernel_rfl)) rfl ?_
    exact ⟨_,pE,by refine rp ?_;exact Kd.Zh (Kd.Zr (p:=⟨qb,2,none⟩) (Kd.Zr (p:=⟨qb,1,none⟩) (Kd.Zr (p:=⟨qb,0,none⟩) (Kd.Zaa q1.o qa.o (by decide)) (fun _ hk=>hk.2) (.bool ji)) (fun _ hk=>hk.2) (.slice q0 jj.length q4)) (fun _ hk=>hk.2) (.int .i64 jk)) (fun _ hk=>trivial),pB⟩
  | refine bodyPost_ret (Za1 rfl _ _ qb 24 #[.bool false,.slice none 0 0,.int .i64 0] (0,0) _ rfl (by exact p3 qa) Tryz.underlying24 rfl (by kernel_rfl)) rfl ?_
    exact ⟨_,pE,pN,pB⟩):P:=h
theorem Zaw.calls (k:Nat) (a0_0:Bool) (A0_1:Option Addr) (c0_1:Nat) (l0_1:List Int) (a0_2:Int) (a1_0:Bool) (A1_1:Option Addr) (c1_1:Nat) (l1_1:List Int) (a1_2:Int) (r1:Bool) (r2:List Int) (r3:Int) (r4:Int) (w:World) (hr0_1:Kd.C (Kd.int .u32) w A0_1 l0_1.length l0_1) (hc0_1:l0_1.length<=c0_1) (hr1_1:Kd.C (Kd.int .u32) w A1_1 l1_1.length l1_1) (hc1_1:l1_1.length<=c1_1) (h:Zaw.f k a0_0 l0_1 a0_2 a1_0 l1_1 a1_2=some (r1,r2,r3,r4)) :
  Calls Tryz.prog 22 #[.agg #[.bool a0_0,.slice A0_1 l0_1.length c0_1,.int .i64 a0_2],.agg #[.bool a1_0,.slice A1_1 l1_1.length c1_1,.int .i64 a1_2]] w fun e w' => ∃ v1_:Value,e=.returned (.tuple #[.agg #[.bool r1,v1_,.int .i64 r3],.int .i64 r4])/\Kd.R (Kd.int .u32) 85 w' w.heap.size (fun _=>True) v1_ r2/\Below w.heap.size w w':=by
 have hu24:=Tryz.underlying24
 have HR0_1:=am hr0_1
 have HC0_1:=am hc0_1
 clear hr0_1 hc0_1
 have HR1_1:=am hr1_1
 have HC1_1:=am hc1_1
 clear hr1_1 hc1_1
 have HB:=am (Below.refl w.heap.size w)
 have H:((Zbo.f k a0_0 l0_1 a0_2 a1_0 l1_1 a1_2).bind fun qh=>(if qh=0 then ((Zu.f k a0_0 l0_1 a0_2).bind fun qi=>((Zu.f k a1_0 l1_1 a1_2).bind fun qj=>((Za8.f qj.1 qj.2.1 qj.2.2).bind fun qk=>((Zae.f k qi.1 qi.2.1 qi.2.2 qk.1 qk.2.1 qk.2.2).bind fun ql=>((Zq.f k ql.1 ql.2.1 ql.2.2).bind fun qf=>(some (qf.1,qf.2.1,qf.2.2.1,qf.2.2.2))))))) else (some (false,([]:List Int),0,9))))=some (r1,r2,r3,r4):=h
 clear h
 obtain ⟨qh,A3,H⟩:=ob H
 by_cases c4:qh=0
 ·rw [if_pos c4] at H
  have c4b0:(qh == 0)=true:=beq_iff_eq.mpr c4
  have c4b1:(qh != 0)=false:=bne_eq_false_iff_eq.mpr c4
  clear c4
  obtain ⟨⟨ja,qw,jb⟩,A5,H⟩:=ob H;(try dsimp only at H)
  obtain ⟨⟨jc,qu,jd⟩,A6,H⟩:=ob H;(try dsimp only at H)
  obtain ⟨⟨je,qx,jf⟩,A7,H⟩:=ob H;(try dsimp only at H)
  obtain ⟨⟨jg,qv,jh⟩,A8,H⟩:=ob H;(try dsimp only at H)
  obtain ⟨⟨ji,jj,jk,jt⟩,A9,H⟩:=ob H;(try dsimp only at H)
  simp only [Option.some.injEq,Prod.mk.injEq] at H
  obtain ⟨rfl,rfl,rfl,rfl⟩:=H
  exact Zaw.leaf
 ·rw [if_neg c4] at H
  have c4b0:(qh == 0)=false:=beq_eq_false_iff_ne.mpr c4
  have c4b1:(qh != 0)=true:=bne_iff_ne.mpr c4
  simp only [Option.some.injEq,Prod.mk.injEq] at H
  obtain ⟨rfl,rfl,rfl,rfl⟩:=H
  exact Zaw.leaf
def Zbf.f (k:Nat) (a0:Int):Option (List Int):=(Zcn.f a0).bind fun qb=>((Zag.f k qb).bind fun qc=>(some qc))
theorem Zbf.calls (k:Nat) (a0:Int) (r:List Int) (w:World) (h:Zbf.f k a0=some r) :
  Calls Tryz.prog 84 #[.int .u64 a0] w fun e w' => ∃ v0_:Value,e=.returned (v0_)/\Kd.R (Kd.int .i64) 3 w' w.heap.size (fun _=>True) v0_ r/\Below w.heap.size w w':=by
 have HB:=am (Below.refl w.heap.size w)
 have H:((Zcn.f a0).bind fun qb=>((Zag.f k qb).bind fun qc=>(some qc)))=some r:=h
 clear h
 obtain ⟨qb,A2,H⟩:=ob H
 obtain ⟨qc,A3,H⟩:=ob H
 obtain rfl:=Option.some.inj H
 go_enter Tryz.func84,Tryz.ntmps84
 go_wp2_with (first|(refine gL (some 4) Tryz.func136 #[.int .u64 a0] (h:=?_);(with_reducible refine (Zcn.calls a0 qb _ A2.o).mono ?_);rintro e w4 ⟨qe,rfl,ho0,hb⟩;refine ⟨_,rfl,?_⟩;have qa:=am (Kd.Zo ho0 (Zd pB));replace HB:=bS hb;obtain ⟨Ao5,co5,eo5⟩:=Kd.Zj qa.o;subst eo5)|(refine gL (some 5) Tryz.func66 #[.slice Ao5 qb.length co5] (h:=?_);(with_reducible refine (Zag.calls k _ _ qb qc _ ?side1 ?side2 A3.o).mono ?_);(case side1=>exact Kd.Zn (Kd.Zc qa.o).2.2 pl);(case side2=>exact (Kd.Zc qa.o).2.1);rintro e w6 ⟨qf,rfl,ho0,hb⟩;refine ⟨_,rfl,?_⟩;replace qa:=rbl qa hb;have qd:=am (Kd.Zo ho0 (Zd pB));replace HB:=bS hb))
 go_ret
 exact ⟨_,pE,by refine rp ?_;exact qd.o,pB⟩
def Zcx.f (k:Nat) (a0:Int):Option (Bool × List Int × Int):=(Zbf.f k (IntKind.u64.wrap (a0))).bind fun qe=>(if a0 < 0 then ((Zbf.f k (IntKind.u64.wrap (wrap64 (-(wrap64 (a0+1)))))).bind fun ql=>((Zt.f k ql (([1]:List Int))).bind fun qf=>((Zq.f k true qf 0).bind fun qj=>(some (qj.1,qj.2.1,qj.2.2.1))))) else ((Zq.f k false qe 0).bind fun qr=>(some (qr.1,qr.2.1,qr.2.2.1))))
theorem Zcx.calls (k:Nat) (a0:Int) (r1:Bool) (r2:List Int) (r3:Int) (w:World) (h:Zcx.f k a0=some (r1,r2,r3)) :
  Calls Tryz.prog 29 #[.int .i64 a0] w fun e w' => ∃ v1_:Value,e=.returned (.agg #[.bool r1,v1_,.int .i64 r3])/\Kd.R (Kd.int .u32) 85 w' w.heap.size (fun _=>True) v1_ r2/\Below w.heap.size w w':=by
 have hu24:=Tryz.underlying24
 have hu30:=Tryz.underlying30
 have HB:=am (Below.refl w.heap.size w)
 have H:((Zbf.f k (IntKind.u64.wrap (a0))).bind fun qe=>(if a0 < 0 then ((Zbf.f k (IntKind.u64.wrap (wrap64 (-(wrap64 (a0+1)))))).bind fun ql=>((Zt.f k ql (([1]:List Int))).bind fun qf=>((Zq.f k true qf 0).bind fun qj=>(some (qj.1,qj.2.1,qj.2.2.1))))) else ((Zq.f k false qe 0).bind fun qr=>(some (qr.1,qr.2.1,qr.2.2.1)))))=some (r1,r2,r3):=h
 clear h
 obtain ⟨qe,A2,H⟩:=ob H
 by_cases c3:a0 < 0
 ·rw [if_pos c3] at H
  have c3b0:decide (a0 < 0)=true:=decide_eq_true c3
  clear c3
  obtain ⟨ql,A4,H⟩:=ob H
  obtain ⟨qp,je⟩:∃ y_:List Int,y_=(([1]:List Int)):=⟨_,rfl⟩
  replace H:((Zt.f k ql qp).bind fun qf=>((Zq.f k true qf 0).bind fun qj=>(some (qj.1,qj.2.1,qj.2.2.1))))=some (r1,r2,r3):=by have hy_:=je;exact pH
  have jj:=am je
  clear je
  obtain ⟨qf,A5,H⟩:=ob H
  obtain ⟨⟨qu,q4,jf,js⟩,A6,H⟩:=ob H;(try dsimp only at H)
  simp only [Option.some.injEq,Prod.mk.injEq] at H
  obtain ⟨rfl,rfl,rfl⟩:=H
  go_enter Tryz.func29,Tryz.ntmps29
  go_wp2_with (first|((with_reducible refine gd 2 ?_);refine bx 2 #[.bool false,.slice none 0 0,.int .i64 0] 24 (h:=?_);intro qk hg w7 hbox hb;have qa:=am hbox;have jq:=gW hg;have jo:=gW hg;replace HB:=bS hb;clear hb hbox hg)|(refine gL (some 8) Tryz.func84 #[.int .u64 (IntKind.u64.wrap (a0))] (h:=?_);(with_reducible refine (Zbf.calls k (IntKind.u64.wrap (a0)) qe _ A2.o).mono ?_);rintro e w8 ⟨ju,rfl,ho0,hb⟩;refine ⟨_,rfl,?_⟩;have qc:=am (Kd.Zo ho0 (Zd pB));replace qa:=bb qa hb;replace HB:=bS hb;obtain ⟨Ao9,co9,eo9⟩:=Kd.Zj qc.o;subst eo9)|((with_reducible refine gd 3 ?_);refine bx 3 #[.bool false,.slice none 0 0,.int .i64 0] 30 (h:=?_);intro qd hg w10 hbox hb;have qb:=am hbox;have jr:=gW hg;have jp:=gW hg;have qh:=nL hg qa;have qo:=nG hg qa;replace qc:=rbl qc hb;replace qa:=bb qa hb;replace HB:=bS hb;clear hb hbox hg;have j3:=qo.o;have j9:=qh.o;obtain ⟨_,_,_,_,_,_⟩:=cEc qb.o)|(refine gL (some 16) Tryz.func84 #[.int .u64 (IntKind.u64.wrap (wrap64 (-(wrap64 (a0+1)))))] (h:=?_);(with_reducible refine (Zbf.calls k (IntKind.u64.wrap (wrap64 (-(wrap64 (a0+1))))) ql _ A4.o).mono ?_);rintro e w13 ⟨qaf,rfl,ho0,hb⟩;refine ⟨_,rfl,?_⟩;have qg:=am (Kd.Zo (Kd.Zs ho0 (Kd.R_lt (Kd.Za (z3 qc.o qb.o (by decide) (.bool false) (.slice Ao9 qe.length co9) (.int .i64 0)) pl))) (Zd pB));replace qc:=am (Kd.Zdq (Kd.Za (z3 qc.o qb.o (by decide) (.bool false) (.slice Ao9 qe.length co9) (.int .i64 0)) pl) (Kd.Zaz ho0) hb);replace qa:=bfb qh qa hb;replace qb:=am (Zb (g:=qd) (o:=.cells #[.bool false,.slice Ao9 qe.length co9,.int .i64 0] 30 (0,0)) (by exact p3 qb) hb);replace HB:=bS hb)|((with_reducible refine gd 17 ?_);refine Kd.Zf1 (Kd.int .i64) _ 3 ?hg (N:=17) ?hd (xs:=([1]:List Int)) (inner:=[.int .i64 1]) (ok:=fun _=>True) (okp:=fun _=>True) ?hr ?hp (fun _ hk=>hk) trivial (Below.refl _ _) (Nat.le_refl _) (by simp) ?_;(case hd=>rfl);(case hg=>rfl);(case hr=>first|(go_simp;done)|(go_simp;rfl));(case hp=>exact (Reps.one (show Kd.M (Kd.int .i64) _ _ _ 1 [.int .i64 1] from rfl) (Reps.none _ _)));intro qag w14 ho15 hb hg_ hnew_;clear hg_ hnew_;(first|rw [<- jj.out] at ho15|(simp only [Int.reduceToNat] at ho15;rw [<- jj.out] at ho15));have qi:=am (Kd.Zo (Kd.Zs (Kd.Zs ho15 (Kd.R_lt (Kd.Za qc.o pl))) (Kd.R_lt (Kd.Za qg.o pl))) (Zd pB));replace qc:=reR qc ho15 hb;replace qg:=reR qg ho15 hb;replace qa:=bb qa hb;replace qb:=bb qb hb;replace HB:=bS hb;clear hb ho15;obtain ⟨q6,q9,jx⟩:=Kd.Zj qg.o;subst jx;obtain ⟨q7,ja,jy⟩:=Kd.Zj qi.o;subst jy)|(refine gL (some 18) Tryz.func85 #[.slice q6 ql.length q9,.slice q7 qp.length ja] (h:=?_);(with_reducible refine (Zt.calls k _ _ ql _ _ qp qf _ ?side1 ?side2 ?side3 ?side4 A5.o).mono ?_);(case side1=>exact Kd.Zn (Kd.Zc qg.o).2.2 pl);(case side2=>exact (Kd.Zc qg.o).2.1);(case side3=>exact Kd.Zn (Kd.Zc qi.o).2.2 pl);(case side4=>exact (Kd.Zc qi.o).2.1);rintro e w18 ⟨qah,rfl,ho0,hb⟩;refine ⟨_,rfl,?_⟩;have qq:=am (Kd.Zo (Kd.Zs (Kd.Zs (Kd.Zs ho0 (Kd.R_lt (Kd.Za qc.o pl))) (Kd.R_lt (Kd.Za qg.o pl))) (Kd.R_lt (Kd.Za qi.o pl))) (Zd pB));replace qc:=reR qc ho0 hb;replace qg:=reR qg ho0 hb;replace qi:=reR qi ho0 hb;replace qa:=bb qa hb;replace qb:=bb qb hb;replace HB:=bS hb;obtain ⟨qs,qt,jz⟩:=Kd.Zj qq.o;subst jz;obtain ⟨_,_,_,_,_,_⟩:=cEc qb.o)|((with_reducible refine Zc4 (t:=30) (p:=3) rfl ?_);refine Zcp (t:=30) (p:=3) (v:=?vo_w21) (w1:=(((w18.setCell ⟨qd,0,none⟩ (.bool true)).setCell ⟨qd,1,none⟩ (.slice qs qf.length qt)).setCell ⟨qd,2,none⟩ (.int .i64 0))) ?hg ?ho ?hn ?hr ?_;(case ho=>rfl);(case hg=>rfl);(case hn=>rfl);(case hr=>first|(go_simp;done)|(go_simp;rfl));intro w21 hw;replace qc:Aside0 (Kd.R (Kd.int .i64) 3 w21 w.heap.size (fun k_=>some k_ ≠ (.slice q6 ql.length q9:Value).ownBlock/\some k_ ≠ (.slice q7 qp.length ja:Value).ownBlock/\some k_ ≠ (.slice qs qf.length qt:Value).ownBlock) (.slice Ao9 qe.length co9) qe):=⟨(by rw [hw];exact (Kd.Za (Kd.Zh (Kd.Zr (p:=⟨qd,2,none⟩) (Kd.Zr (p:=⟨qd,1,none⟩) (Kd.Zr (p:=⟨qd,0,none⟩) (Kd.Zaa qc.o qb.o (by decide)) (fun _ hk=>hk.2) (.bool true)) (fun _ hk=>hk.2) (.slice qs qf.length qt)) (fun _ hk=>hk.2) (.int .i64 0)) (fun _ hk=>⟨hk.1.1.1.2,⟨hk.1.1.2,hk.1.2⟩⟩)) pl))⟩;replace qg:Aside0 (Kd.R (Kd.int .i64) 3 w21 w.heap.size (fun k_=>some k_ ≠ (.slice Ao9 qe.length co9:Value).ownBlock/\some k_ ≠ (.slice q7 qp.length ja:Value).ownBlock/\some k_ ≠ (.slice qs qf.length qt:Value).ownBlock) (.slice q6 ql.length q9) ql):=⟨(by rw [hw];exact (Kd.Za (Kd.Zh (Kd.Zr (p:=⟨qd,2,none⟩) (Kd.Zr (p:=⟨qd,1,none⟩) (Kd.Zr (p:=⟨qd,0,none⟩) (Kd.Zaa qg.o qb.o (by decide)) (fun _ hk=>hk.2) (.bool true)) (fun _ hk=>hk.2) (.slice qs qf.length qt)) (fun _ hk=>hk.2) (.int .i64 0)) (fun _ hk=>⟨hk.1.1.1.2,⟨hk.1.1.2,hk.1.2⟩⟩)) pl))⟩;replace qi:Aside0 (Kd.R (Kd.int .i64) 3 w21 w.heap.size (fun k_=>some k_ ≠ (.slice Ao9 qe.length co9:Value).ownBlock/\some k_ ≠ (.slice q6 ql.length q9:Value).ownBlock/\some k_ ≠ (.slice qs qf.length qt:Value).ownBlock) (.slice q7 qp.length ja) qp):=⟨(by rw [hw];exact (Kd.Za (Kd.Zh (Kd.Zr (p:=⟨qd,2,none⟩) (Kd.Zr (p:=⟨qd,1,none⟩) (Kd.Zr (p:=⟨qd,0,none⟩) (Kd.Zaa qi.o qb.o (by decide)) (fun _ hk=>hk.2) (.bool true)) (fun _ hk=>hk.2) (.slice qs qf.length qt)) (fun _ hk=>hk.2) (.int .i64 0)) (fun _ hk=>⟨hk.1.1.1.2,⟨hk.1.1.2,hk.1.2⟩⟩)) pl))⟩;replace qq:Aside0 (Kd.R (Kd.int .i64) 3 w21 w.heap.size (fun k_=>some k_ ≠ (.slice Ao9 qe.length co9:Value).ownBlock/\some k_ ≠ (.slice q6 ql.length q9:Value).ownBlock/\some k_ ≠ (.slice q7 qp.length ja:Value).ownBlock) (.slice qs qf.length qt) qf):=⟨(by rw [hw];exact (Kd.Za (Kd.Zh (Kd.Zr (p:=⟨qd,2,none⟩) (Kd.Zr (p:=⟨qd,1,none⟩) (Kd.Zr (p:=⟨qd,0,none⟩) (Kd.Zaa qq.o qb.o (by decide)) (fun _ hk=>hk.2) (.bool true)) (fun _ hk=>hk.2) (.slice qs qf.length qt)) (fun _ hk=>hk.2) (.int .i64 0)) (fun _ hk=>⟨hk.1.1.1.2,⟨hk.1.1.2,hk.1.2⟩⟩)) pl))⟩;replace qa:Aside0 (w21.heap[qk]? = some (.cells #[.bool false,.slice none 0 0,.int .i64 0] 24 (0,0))):=⟨(by rw [hw];exact (bf qh.o qa.o))⟩;replace qb:Aside0 (w21.heap[qd]? = some (.cells #[.bool true,.slice qs qf.length qt,.int .i64 0] 30 (0,0))):=⟨(by rw [hw];exact (by exact p3 qb))⟩;replace HB:Aside0 (Below w.heap.size w w21):=⟨(by rw [hw];exact pB)⟩;clear hw;obtain ⟨_,_,_,_,_,_⟩:=cEc qb.o)|(refine gL (some 22) Tryz.func23 #[.agg #[.bool true,.slice qs qf.length qt,.int .i64 0]] (h:=?_);(with_reducible refine (Zq.calls k true (fun k_=>some k_=(.slice qs qf.length qt:Value).ownBlock) (.slice qs qf.length qt) qf 0 qu q4 jf js w _ ?side1 ?side2 A6.o).mono ?_);(case side1=>exact pB);(case side2=>exact Kd.Zbj rfl qq.o);rintro e w23 ⟨qai,rfl,ho0,hb,hkp⟩;refine ⟨_,rfl,?_⟩;have qw:=am (Kd.Zh (ok':=fun k_=>True) ho0 (fun k_ hk_=>trivial));replace qa:=am (Za0 (Zb qa.o pl) hkp (fun e_=>Kd.R_ne qq.o qa.o (by decide) e_));replace qc:=am (Kd.Zh (ok':=fun k_=>some k_ ≠ (.slice q6 ql.length q9:Value).ownBlock/\some k_ ≠ (.slice q7 qp.length ja:Value).ownBlock) (Kd.Zcb (qc.o) hkp (fun k_ hk_ hs_=>(hk_.2.2) hs_)) (fun k_ hk_=>⟨hk_.1.1,hk_.1.2.1⟩));replace qb:=am (Za0 (Zb qb.o pl) hkp (fun e_=>Kd.R_ne qq.o qb.o (by decide) e_));replace qg:=am (Kd.Zh (ok':=fun k_=>some k_ ≠ (.slice Ao9 qe.length co9:Value).ownBlock/\some k_ ≠ (.slice q7 qp.length ja:Value).ownBlock) (Kd.Zcb (qg.o) hkp (fun k_ hk_ hs_=>(hk_.2.2) hs_)) (fun k_ hk_=>⟨hk_.1.1,hk_.1.2.1⟩));replace qi:=am (Kd.Zh (ok':=fun k_=>some k_ ≠ (.slice Ao9 qe.length co9:Value).ownBlock/\some k_ ≠ (.slice q6 ql.length q9:Value).ownBlock) (Kd.Zcb (qi.o) hkp (fun k_ hk_ hs_=>(hk_.2.2) hs_)) (fun k_ hk_=>⟨hk_.1.1,hk_.1.2.1⟩));replace HB:=am hb;clear qq)|((with_reducible refine gd 4 ?_);refine bx 4 #[.bool false,.slice none 0 0,.int .i64 0] 24 (h:=?_);intro jc hg w24 hbox hb;have jh:=am hbox;have jv:=gW hg;have qm:=nL hg qa;have q0:=nG hg qa;have qy:=nL hg qb;have q1:=nG hg qb;replace qc:=rbl qc hb;replace qg:=rbl qg hb;replace qi:=rbl qi hb;replace qw:=rbl qw hb;replace qa:=bb qa hb;replace qb:=bb qb hb;replace HB:=bS hb;clear hb hbox hg;have j4:=q0.o;have qaa:=qm.o;have j5:=q1.o;have qab:=qy.o;obtain ⟨_,_,_,_,_,_⟩:=cEc jh.o;obtain ⟨jk,jm,j0⟩:=Kd.Zj qw.o;subst j0;obtain ⟨_,_,_,_,_,_⟩:=cEc qa.o))
  refine bodyPost_ret (results_cell_row rfl _ _ qk 24 #[.bool qu,.slice jk q4.length jm,.int .i64 jf] (0,0) _ rfl (by refine bp ?_;refine Za2 (cs:=#[.bool qu,.slice jk q4.length jm,.int .i64 0]) ?_ 2 _ rfl;refine bp ?_;refine Za2 (cs:=#[.bool qu,.slice none 0 0,.int .i64 0]) ?_ 1 _ rfl;refine bp ?_;refine Za2 (cs:=#[.bool false,.slice none 0 0,.int .i64 0]) ?_ 0 _ rfl;refine bq ?_ qm;refine bq ?_ qm;refine bq ?_ qm;exact bp qa.o) Tryz.underlying24 rfl (by kernel_rfl)) rfl ?_
  exact ⟨_,pE,by refine rp ?_;exact Kd.Zh (Kd.Zr (p:=⟨qk,2,none⟩) (Kd.Zr (p:=⟨qk,1,none⟩) (Kd.Zr (p:=⟨qk,0,none⟩) (Kd.Zr (p:=⟨jc,2,none⟩) (Kd.Zr (p:=⟨jc,1,none⟩) (Kd.Zr (p:=⟨jc,0,none⟩) (Kd.Zaa (Kd.Zaa qw.o jh.o (by decide)) qa.o (by decide)) (fun _ hk=>hk.1.2) (.bool qu)) (fun _ hk=>hk.1.2) (.slice jk q4.length jm)) (fun _ hk=>hk.1.2) (.int .i64 jf)) (fun _ hk=>hk.2) (.bool qu)) (fun _ hk=>hk.2) (.slice jk q4.length jm)) (fun _ hk=>hk.2) (.int .i64 jf)) (fun _ hk=>trivial),pB⟩
 ·rw [if_neg c3] at H
  have c3b0:decide (a0 < 0)=false:=decide_eq_false c3
  clear c3
  obtain ⟨⟨qv,q5,jg,jt⟩,A30,H⟩:=ob H;(try dsimp only at H)
  simp only [Option.some.injEq,Prod.mk.injEq] at H
  obtain ⟨rfl,rfl,rfl⟩:=H
  go_enter Tryz.func29,Tryz.ntmps29
  go_wp2_with (first|((with_reducible refine gd 2 ?_);refine bx 2 #[.bool false,.slice none 0 0,.int .i64 0] 24 (h:=?_);intro qk hg w31 hbox hb;have qa:=am hbox;have jq:=gW hg;have jo:=gW hg;replace HB:=bS hb;clear hb hbox hg)|(refine gL (some 8) Tryz.func84 #[.int .u64 (IntKind.u64.wrap (a0))] (h:=?_);(with_reducible refine (Zbf.calls k (IntKind.u64.wrap (a0)) qe _ A2.o).mono ?_);rintro e w32 ⟨ju,rfl,ho0,hb⟩;refine ⟨_,rfl,?_⟩;have qc:=am (Kd.Zo ho0 (Zd pB));replace qa:=bb qa hb;replace HB:=bS hb;obtain ⟨q8,jb,j1⟩:=Kd.Zj qc.o;subst j1)|((with_reducible refine gd 3 ?_);refine bx 3 #[.bool false,.slice none 0 0,.int .i64 0] 30 (h:=?_);intro qd hg w34 hbox hb;have qb:=am hbox;have jr:=gW hg;have jp:=gW hg;have qh:=nL hg qa;have qo:=nG hg qa;replace qc:=rbl qc hb;replace qa:=bb qa hb;replace HB:=bS hb;clear hb hbox hg;have j6:=qo.o;have qac:=qh.o;obtain ⟨_,_,_,_,_,_⟩:=cEc qb.o)|((with_reducible refine Zc4 (t:=30) (p:=3) rfl ?_);refine Zcp (t:=30) (p:=3) (v:=?vo_w37) (w1:=(((w34.setCell ⟨qd,0,none⟩ (.bool false)).setCell ⟨qd,1,none⟩ (.slice q8 qe.length jb)).setCell ⟨qd,2,none⟩ (.int .i64 0))) ?hg ?ho ?hn ?hr ?_;(case ho=>rfl);(case hg=>rfl);(case hn=>rfl);(case hr=>first|(go_simp;done)|(go_simp;rfl));intro w37 hw;replace qc:Aside0 (Kd.R (Kd.int .i64) 3 w37 w.heap.size (fun _=>True) (.slice q8 qe.length jb) qe):=⟨(by rw [hw];exact (Kd.Za (Kd.Zh (Kd.Zr (p:=⟨qd,2,none⟩) (Kd.Zr (p:=⟨qd,1,none⟩) (Kd.Zr (p:=⟨qd,0,none⟩) (Kd.Zaa qc.o qb.o (by decide)) (fun _ hk=>hk.2) (.bool false)) (fun _ hk=>hk.2) (.slice q8 qe.length jb)) (fun _ hk=>hk.2) (.int .i64 0)) (fun _ hk=>trivial)) pl))⟩;replace qa:Aside0 (w37.heap[qk]? = some (.cells #[.bool false,.slice none 0 0,.int .i64 0] 24 (0,0))):=⟨(by rw [hw];exact (bf qh.o qa.o))⟩;replace qb:Aside0 (w37.heap[qd]? = some (.cells #[.bool false,.slice q8 qe.length jb,.int .i64 0] 30 (0,0))):=⟨(by rw [hw];exact (by exact p3 qb))⟩;replace HB:Aside0 (Below w.heap.size w w37):=⟨(by rw [hw];exact pB)⟩;clear hw;obtain ⟨_,_,_,_,_,_⟩:=cEc qb.o)|(refine gL (some 22) Tryz.func23 #[.agg #[.bool false,.slice q8 qe.length jb,.int .i64 0]] (h:=?_);(with_reducible refine (Zq.calls k false (fun k_=>some k_=(.slice q8 qe.length jb:Value).ownBlock) (.slice q8 qe.length jb) qe 0 qv q5 jg jt w _ ?side1 ?side2 A30.o).mono ?_);(case side1=>exact pB);(case side2=>exact Kd.Zbj rfl qc.o);rintro e w39 ⟨qaj,rfl,ho0,hb,hkp⟩;refine ⟨_,rfl,?_⟩;have qx:=am (Kd.Zh (ok':=fun k_=>True) ho0 (fun k_ hk_=>trivial));replace qa:=am (Za0 (Zb qa.o pl) hkp (fun e_=>Kd.R_ne qc.o qa.o (by decide) e_));replace qb:=am (Za0 (Zb qb.o pl) hkp (fun e_=>Kd.R_ne qc.o qb.o (by decide) e_));replace HB:=am hb;clear qc)|((with_reducible refine gd 4 ?_);refine bx 4 #[.bool false,.slice none 0 0,.int .i64 0] 24 (h:=?_);intro jd hg w40 hbox hb;have ji:=am hbox;have jw:=gW hg;have qn:=nL hg qa;have q2:=nG hg qa;have qz:=nL hg qb;have q3:=nG hg qb;replace qx:=rbl qx hb;replace qa:=bb qa hb;replace qb:=bb qb hb;replace HB:=bS hb;clear hb hbox hg;have j7:=q2.o;have qad:=qn.o;have j8:=q3.o;have qae:=qz.o;obtain ⟨_,_,_,_,_,_⟩:=cEc ji.o;obtain ⟨jl,jn,j2⟩:=Kd.Zj qx.o;subst j2;obtain ⟨_,_,_,_,_,_⟩:=cEc qa.o))
  refine bodyPost_ret (results_cell_row rfl _ _ qk 24 #[.bool qv,.slice jl q5.length jn,.int .i64 jg] (0,0) _ rfl (by refine bp ?_;refine Za2 (cs:=#[.bool qv,.slice jl q5.length jn,.int .i64 0]) ?_ 2 _ rfl;refine bp ?_;refine Za2 (cs:=#[.bool qv,.slice none 0 0,.int .i64 0]) ?_ 1 _ rfl;refine bp ?_;refine Za2 (cs:=#[.bool false,.slice none 0 0,.int .i64 0]) ?_ 0 _ rfl;refine bq ?_ qn;refine bq ?_ qn;refine bq ?_ qn;exact bp qa.o) Tryz.underlying24 rfl (by kernel_rfl)) rfl ?_
  exact ⟨_,pE,by refine rp ?_;exact Kd.Zh (Kd.Zr (p:=⟨qk,2,none⟩) (Kd.Zr (p:=⟨qk,1,none⟩) (Kd.Zr (p:=⟨qk,0,none⟩) (Kd.Zr (p:=⟨jd,2,none⟩) (Kd.Zr (p:=⟨jd,1,none⟩) (Kd.Zr (p:=⟨jd,0,none⟩) (Kd.Zaa (Kd.Zaa qx.o ji.o (by decide)) qa.o (by decide)) (fun _ hk=>hk.1.2) (.bool qv)) (fun _ hk=>hk.1.2) (.slice jl q5.length jn)) (fun _ hk=>hk.1.2) (.int .i64 jg)) (fun _ hk=>hk.2) (.bool qv)) (fun _ hk=>hk.2) (.slice jl q5.length jn)) (fun _ hk=>hk.2) (.int .i64 jg)) (fun _ hk=>trivial),pB⟩
end YtjbjkmccfocikaaGreatDoor.B
end
section
namespace YtjbjkmccfocikaaGreatDoor.P
open Go.RowKit YtjbjkmccfocikaaGreatDoor.B YtjbjkmccfocikaaGreatDoorW.PrintWords YtjbjkmccfocikaaGreatDoorW.PrintLast YtjbjkmccfocikaaGreatDoorW.PrintMore YtjbjkmccfocikaaGreatDoor.P.Nm
def okB (a:Dm):Bool:=if a.n=0 then (!a.neg && decide (a.e=0)) else (decide (a.n % 10 ≠ 0) && (decide (nd a.n<=300) && (decide (-1000<=a.e) && decide (a.e<=1000))))
theorem Zot {a:Dm}:okB a=true ↔ OkD a:=by
 obtain ⟨s,n,e⟩:=a
 unfold okB
 by_cases h:n=0
 ·subst h
  simp only [if_true]
  constructor
  ·intro h
   simp only [Bool.and_eq_true,Bool.not_eq_true',decide_eq_true_eq] at h
   obtain ⟨rfl,rfl⟩:=h
   exact OkD.zeroD
  ·intro h
   have := h.zero rfl
   unfold zeroD at this
   injection this with h1 h2 h3
   simp [h1,h3]
 ·simp only [if_neg h,Bool.and_eq_true,decide_eq_true_eq]
  constructor
  ·intro ⟨h1,h2,h3,h4⟩
   exact ⟨fun e=>absurd e h,fun _=>h1,h2,h3,h4⟩
  ·intro h1
   exact ⟨h1.last h,h1.len,h1.low,h1.high⟩
def chk (a:Bool) (l:List Int) (e:Int):Int:=if chkL l=0/\l.length<=40/\okB ⟨a,num l,e⟩=true then 0 else 9
theorem Zim {n k:Nat} (h:nd n<=9*k):(limbs n).length<=k:=by
 refine Zep (Nat.lt_of_lt_of_le (Zj0 n) ?_)
 refine Nat.le_trans (Nat.pow_le_pow_right (by omega) h) ?_
 rw [Nat.pow_mul]
 exact Nat.pow_le_pow_left (by decide) _
theorem Zfg {a:Dm} (h:OkD a):(limbs a.n).length<=34:=Zim (by have := h.len;omega)
theorem Zly {a:Dm} (h:OkD a):chk a.neg (limbs a.n) a.e=0:=by
 have h1:=Zfg h
 unfold chk
 rw [if_pos ⟨Zjt (by omega),by omega,by rw [Zc0];exact Zot.2 h⟩]
theorem Zso {a:Bool} {l:List Int} {e:Int} (hd:Dg 4294967296 l) (h:chk a l e=0):∃ D:Dm,OkD D/\a=D.neg/\l=limbs D.n/\e=D.e:=by
 unfold chk at h
 by_cases hc:chkL l=0/\l.length<=40/\okB ⟨a,num l,e⟩=true
 ·obtain ⟨h1,h2,h3⟩:=hc
  exact ⟨⟨a,num l,e⟩,Zot.1 h3,rfl,(Zjz ((Zkr hd).1 h1)).symm,rfl⟩
 ·rw [if_neg hc] at h;cases h
theorem Zsg (a:Bool) (l:List Int) (e:Int):chk a l e=0\/chk a l e=9:=by unfold chk;split <;> simp
abbrev outD (p:Dm × Int):Bool × List Int × Int × Int:=(p.1.neg,limbs p.1.n,p.1.e,p.2)
theorem Zji (a:Bool) (l:List Int) (e:Int) (hd:Dg 4294967296 l) (hl:l.length<=90000):Tells (fun k=>Zu.f k a l e) (a,digs (num l),e):=by
 unfold Zu.f
 exact (Zg0 l hd hl).bind (Tells.pure _)
theorem ROf (D:Dm) (h:nd D.n<=90000):Tells (fun k=>Zu.f k D.neg (limbs D.n) D.e) (D.neg,digs D.n,D.e):=by
 have := Zji D.neg (limbs D.n) D.e (Zc7 _) (Nat.le_trans (Zek _) h)
 rw [Zc0] at this
 exact this
theorem Zl1 {n:Nat} (h:n ≠ 0):(digs n).getD 0 0=((n % 10:Nat):Int):=by rw [Zd0 h];rfl
theorem Zng (s:Bool):∀ (f n:Nat) (e:Int),n<=f->n ≠ 0->nd n<=100000 -> -1000000000<=e->e+nd n<=1000000000->Tells (fun k=>Zq.l0 k (digs n) s [] e) (outD (settleD ⟨s,n,e⟩))
 | 0,n,e,hf,h0,hn,he1,he2=>by omega
 | f+1,n,e,hf,h0,hn,he1,he2=>by
  have hpos:=Zio h0
  have hlen:(digs n).length=nd n:=rfl
  refine Tells.succ ?_
  simp only [Zq.l0]
  rw [show (0:Int)=((0:Nat):Int) from rfl,rd_n,Zl1 h0]
  refine Tells.ifp (by omega) ?_
  by_cases hz:n % 10=0
  ·have hne:n / 10 ≠ 0:=by omega
   have hnd:nd n=nd (n / 10)+1:=by
    show (digs n).length=_
    rw [Zd0 h0];rfl
   have ih:=Zng s f (n / 10) (e+1) (by omega) hne (by omega) (by omega) (by omega)
   have hs:=Zg8 s (n / 10) (e+1) 1
   rw [show n / 10*10 ^ 1=n by omega,show e+1 - ((1:Nat):Int)=e by omega] at hs
   rw [hs]
   refine Tells.ifp (by omega) (Tells.ifp (by omega) ?_)
   rw [w64n (by omega) (by omega),Zd0 h0]
   exact ih
  ·obtain ⟨hc,ht⟩:=Zht hz
   unfold settleD
   simp only [hc,ht]
   rw [if_neg h0,show e+((0:Nat):Int)=e by omega]
   refine Tells.ifn (by omega) ?_
   by_cases h3:300 < nd n
   ·rw [if_pos h3]
    exact Tells.ifp (by omega) (Tells.pure _)
   ·rw [if_neg h3]
    refine Tells.ifn (by omega) ?_
    by_cases h4:e < -1000
    ·rw [if_pos (.inl h4)]
     exact Tells.ifp h4 (Tells.pure _)
    ·refine Tells.ifn h4 ?_
     by_cases h5:1000 < e
     ·rw [if_pos (.inr h5)]
      exact Tells.ifp h5 (Tells.pure _)
     ·rw [if_neg (by omega)]
      exact Tells.ifn h5 ((Zkl n (by omega)).bind (Tells.pure _))
theorem Zmq (s:Bool) (L:List Int) (n:Nat) (e:Int) (hd:Dg 10 L) (hv:val 10 L=n) (hl:L.length<=100000) (he1 : -1000000000<=e) (he2:e<=900000000):Tells (fun k=>Zq.f k s L e) (outD (settleD ⟨s,n,e⟩)):=by
 have ht:=Zgn L (by omega)
 rw [Zf7 hd hv] at ht
 have hnd:nd n<=100000:=by
  have := Zqg L
  rw [Zf7 hd hv] at this
  exact Nat.le_trans this hl
 unfold Zq.f
 refine ht.bind ?_
 by_cases h0:n=0
 ·subst h0
  exact Tells.ifp rfl (Tells.pure _)
 ·have hpos:0 < (digs n).length:=Zio h0
  exact Tells.ifn (by omega) (Zng s n n e (Nat.le_refl _) h0 hnd he1 (by omega))
theorem Made (s:Bool) (n:Nat) (e:Int) (hn:nd n<=100000) (he1 : -1000000000<=e) (he2:e<=900000000):Tells (fun k=>Zq.f k s (digs n) e) (outD (settleD ⟨s,n,e⟩)) :=
 Zmq s _ n e (Zdk n) (Zdc n) hn he1 he2
theorem Zea (a:Bool) (l:List Int) (e:Int) (hd:Dg 4294967296 l) (hl:l.length<=9223372036854775807):Tells (fun k=>Zm.f k a l e) (chk a l e):=by
 unfold Zm.f
 rw [Zir l hl]
 refine (Tells.pure _).bind ?_
 have bad:chk a l e=9->Tells (fun k=>Zm.j0 k true a l e) (chk a l e):=fun h=>by
  rw [h]
  refine Tells.succ ?_
  simp only [Zm.j0]
  exact Tells.ifp trivial (Tells.pure _)
 by_cases hc:chkL l=0
 ·refine Tells.ifp hc ?_
  by_cases h40:l.length<=40
  ·rw [decide_eq_false (show ¬ ((l.length:Int) > 40) by omega)]
   have hof:=Zji a l e hd (by omega)
   obtain ⟨n,hn⟩:∃ n,num l=n:=⟨_,rfl⟩
   have hchk:chk a l e=if okB ⟨a,n,e⟩=true then 0 else 9:=by
    unfold chk
    rw [hn]
    by_cases h:okB ⟨a,n,e⟩=true
    ·rw [if_pos ⟨hc,h40,h⟩,if_pos h]
    ·rw [if_neg (fun q=>h q.2.2),if_neg h]
   rw [hchk]
   rw [hn] at hof
   unfold okB
   simp only
   have hlen:(digs n).length=nd n:=rfl
   refine Tells.succ ?_
   simp only [Zm.j0]
   refine Tells.ifn (by simp) (hof.bind ?_)
   dsimp only
   by_cases h0:n=0
   ·subst h0
    rw [if_pos rfl]
    refine Tells.ifp rfl ?_
    have j1:∀ b:Bool,Tells (fun k=>Zm.j1 k b) (if b=true then 9 else 0):=fun b=>by
     refine Tells.succ ?_
     simp only [Zm.j1]
     cases b
     ·exact Tells.ifn (by simp) (Tells.pure _)
     ·exact Tells.ifp rfl (Tells.pure _)
    cases a
    ·refine Tells.ifn (by simp) ((j1 _).val ?_)
     by_cases he:e=0
     ·subst he;rfl
     ·simp [he]
    ·exact Tells.ifp rfl ((j1 true).val rfl)
   ·have hpos:=Zio h0
    rw [if_neg h0]
    refine Tells.ifn (by omega) (Tells.ifp (by omega) ?_)
    rw [show (0:Int)=((0:Nat):Int) from rfl,rd_n,Zl1 h0]
    by_cases hz:n % 10=0
    ·rw [decide_eq_false (not_not_intro hz)]
     exact Tells.ifp (by omega) (Tells.pure _)
    ·rw [decide_eq_true hz]
     refine Tells.ifn (by omega) ?_
     by_cases h3:nd n<=300
     ·rw [decide_eq_true h3]
      refine Tells.ifn (by omega) ?_
      by_cases h4:e < -1000
      ·rw [decide_eq_false (show ¬ (-1000<=e) by omega)]
       exact Tells.ifp h4 (Tells.pure _)
      ·rw [decide_eq_true (show -1000<=e by omega)]
       refine Tells.ifn h4 ?_
       by_cases h5:1000 < e
       ·rw [decide_eq_false (show ¬ (e<=1000) by omega)]
        exact Tells.ifp h5 (Tells.pure _)
       ·rw [decide_eq_true (show e<=1000 by omega)]
        exact Tells.ifn h5 (Tells.pure _)
     ·rw [decide_eq_false h3]
      exact Tells.ifp (by omega) (Tells.pure _)
  ·rw [decide_eq_true (show ((l.length:Int) > 40) by omega)]
   exact bad (by unfold chk;rw [if_neg (fun q=>h40 q.2.1)])
 ·exact Tells.ifn hc (bad (by unfold chk;rw [if_neg (fun q=>hc q.1)]))
theorem RCheck (D:Dm) (h:OkD D):Tells (fun k=>Zm.f k D.neg (limbs D.n) D.e) 0:=by
 have h1:=Zfg h
 have := Zea D.neg (limbs D.n) D.e (Zc7 _) (by omega)
 rw [Zly h] at this
 exact this
theorem Ziw (a:Bool) (l:List Int) (e:Int) (b:Bool) (m:List Int) (g:Int) (hd:Dg 4294967296 l) (hl:l.length<=9223372036854775807) (hd2:Dg 4294967296 m) (hl2:m.length<=9223372036854775807):Tells (fun k=>Zbo.f k a l e b m g) (if chk a l e=0/\chk b m g=0 then 0 else 9):=by
 unfold Zbo.f
 refine (Zea a l e hd hl).bind ?_
 by_cases h:chk a l e=0
 ·refine Tells.ifp h ((Zea b m g hd2 hl2).bind ?_)
  by_cases h2:chk b m g=0
  ·exact Tells.ifp h2 ((Tells.pure _).val (by rw [if_pos ⟨h,h2⟩]))
  ·exact Tells.ifn h2 ((Tells.pure _).val (by rw [if_neg (fun q=>h2 q.2)]))
 ·exact Tells.ifn h ((Tells.pure _).val (by rw [if_neg (fun q=>h q.1)]))
theorem Rchecks (D E:Dm) (hD:OkD D) (hE:OkD E):Tells (fun k=>Zbo.f k D.neg (limbs D.n) D.e E.neg (limbs E.n) E.e) 0:=by
 have h1:=Zfg hD
 have h2:=Zfg hE
 have := Ziw D.neg (limbs D.n) D.e E.neg (limbs E.n) E.e (Zc7 _) (by omega) (Zc7 _) (by omega)
 rw [if_pos ⟨Zly hD,Zly hE⟩] at this
 exact this
theorem Znt (a:Bool) (l:List Int) (e:Int) (b:Bool) (m:List Int) (g:Int) (hl:l.length=m.length) (hz:l.length < 9223372036854775807):∀ (d i:Nat),l.length - i=d->i<=l.length->l.take i=m.take i->Tells (fun k=>Zk.l0 k (i:Int) a l e b m g) (decide (l=m))
 | 0,i,hd,hi,h=>by
  obtain rfl:i=l.length:=by omega
  refine Tells.succ ?_
  simp only [Zk.l0]
  refine Tells.ifn (by omega) ((Tells.pure _).val ?_)
  rw [List.take_length,hl,List.take_length] at h
  rw [decide_eq_true h]
 | d+1,i,hd,hi,h=>by
  have hil:i < l.length:=by omega
  refine Tells.succ ?_
  simp only [Zk.l0]
  rw [rd_n,rd_n,w64s (by omega)]
  refine Tells.ifp (by omega) (Tells.ifp (by omega) (Tells.ifp (by omega) ?_))
  by_cases hx:l.getD i 0=m.getD i 0
  ·exact Tells.ifp hx (Znt a l e b m g hl hz d (i+1) (by omega) (by omega) (by rw [Zh4 hil,Zh4 (by omega),h,hx]))
  ·exact Tells.ifn hx ((Tells.pure _).val (by rw [decide_eq_false (fun q=>hx (by rw [q]))]))
def sameB (a:Bool) (l:List Int) (e:Int) (b:Bool) (m:List Int) (g:Int):Bool:=decide (a=b) && (decide (e=g) && decide (l=m))
theorem Zo7 {a:Bool} {l:List Int} {e:Int} {b:Bool} {m:List Int} {g:Int}:sameB a l e b m g=true ↔ a=b/\l=m/\e=g:=by
 unfold sameB
 simp only [Bool.and_eq_true,decide_eq_true_eq]
 exact ⟨fun ⟨h1,h2,h3⟩=>⟨h1,h3,h2⟩,fun ⟨h1,h2,h3⟩=>⟨h1,h3,h2⟩⟩
theorem Zmu (a:Bool) (l:List Int) (e:Int) (b:Bool) (m:List Int) (g:Int) (hz:l.length < 9223372036854775807):Tells (fun k=>Zk.f k a l e b m g) (sameB a l e b m g):=by
 have no:Tells (fun k=>Zk.j0 k true a l e b m g) false:=by
  refine Tells.succ ?_
  simp only [Zk.j0]
  exact Tells.ifp trivial (Tells.pure _)
 unfold Zk.f sameB
 by_cases h1:a=b
 ·subst h1
  rw [decide_eq_true rfl]
  refine Tells.ifn (by simp) ?_
  by_cases h2:e=g
  ·subst h2
   rw [decide_eq_true rfl]
   refine Tells.ifp rfl ?_
   by_cases h3:l.length=m.length
   ·refine Tells.succ ?_
    simp only [Zk.j0]
    have h:=Znt a l e a m e h3 hz l.length 0 (by omega) (by omega) rfl
    exact Tells.ifn (by rw [h3];simp) (h.val (by simp))
   ·have e1:((l.length:Int) != (m.length:Int))=true:=bne_iff_ne.2 (by omega)
    rw [e1]
    refine no.val ?_
    rw [decide_eq_false (fun q:l=m=>h3 (by rw [q]))];rfl
  ·exact Tells.ifn h2 (no.val (by rw [decide_eq_false h2];rfl))
 ·exact Tells.ifp (by simpa using h1) (no.val (by rw [decide_eq_false h1];rfl))
theorem Zjy {m n:Nat} (h:limbs m=limbs n):m=n:=by rw [<- Zc0 m,h,Zc0]
theorem Zjm (D E:Dm) (h:nd D.n<=1000000):Tells (fun k=>Zk.f k D.neg (limbs D.n) D.e E.neg (limbs E.n) E.e) (decide (D=E)):=by
 have hl:=Zek D.n
 refine (Zmu D.neg (limbs D.n) D.e E.neg (limbs E.n) E.e (by omega)).val ?_
 rw [Bool.eq_iff_iff,Zo7,decide_eq_true_eq]
 constructor
 ·intro ⟨h1,h2,h3⟩
  obtain ⟨s,n,e⟩:=D
  obtain ⟨s',n',e'⟩:=E
  have := Zjy h2
  simp only at *
  subst h1 h3 this;rfl
 ·intro h;rw [h];exact ⟨rfl,rfl,rfl⟩
theorem Zs9 (a b:Int):mn a b=min a b:=by unfold mn;omega
theorem Zq2 (a b:Bool) (m n:Nat) (e g:Int) (hm:nd m<=100000) (hn:nd n<=100000) (he : -100000<=e/\e<=100000) (hg : -100000<=g/\g<=100000) :
  Zch.f a (digs m) e b (digs n) g=some (a,digs (m*10 ^ (e - min e g).toNat),min e g,b,digs (n*10 ^ (g - min e g).toNat),min e g):=by
 unfold Zch.f
 rw [Zs9]
 obtain ⟨x,hx⟩:∃ x:Nat,e - min e g=x:=⟨(e - min e g).toNat,by omega⟩
 obtain ⟨y,hy⟩:∃ y:Nat,g - min e g=y:=⟨(g - min e g).toNat,by omega⟩
 rw [hx,hy,w64c (by omega),w64c (by omega),Zhl m x (by omega) (by omega),Option.bind_some,Zhl n y (by omega) (by omega),Option.bind_some,Int.toNat_natCast,Int.toNat_natCast]
theorem Zd7 (n k:Nat):nd (n*10 ^ k)<=nd n+k:=by
 by_cases h:n=0
 ·subst h;rw [Nat.zero_mul,Zok];omega
 ·rw [Zl8 h];exact Nat.le_refl _
theorem Zhx {n:Nat}:(digs n).length=0 ↔ n=0:=⟨fun h=>Zl2 (List.eq_nil_of_length_eq_zero h),fun h=>by rw [h];rfl⟩
theorem Zjn (A B:Dm) (hm:nd A.n<=10000) (hn:nd B.n<=10000) (he : -10000<=A.e/\A.e<=10000) (hg : -10000<=B.e/\B.e<=10000) :
  Tells (fun k=>Zae.f k A.neg (digs A.n) A.e B.neg (digs B.n) B.e) ((plusD A B).neg,digs (plusD A B).n,(plusD A B).e):=by
 unfold Zae.f
 rw [Zq2 A.neg B.neg A.n B.n A.e B.e (by omega) (by omega) (by omega) (by omega)]
 refine (Tells.pure _).bind ?_
 have hx:=Zd7 A.n (A.e - min A.e B.e).toNat
 have hy:=Zd7 B.n (B.e - min A.e B.e).toNat
 unfold plusD sumS
 simp only
 generalize A.n*10 ^ (A.e - min A.e B.e).toNat=x at *
 generalize B.n*10 ^ (B.e - min A.e B.e).toNat=y at *
 have hx':nd x<=100000:=by omega
 have hy':nd y<=100000:=by omega
 by_cases h:A.neg=B.neg
 ·rw [if_pos h]
  exact Tells.ifp (by rw [h];simp) ((Zie x y (by omega) (by omega)).bind (Tells.pure _))
 ·rw [if_neg h]
  refine Tells.ifn (by simpa using h) ((Zkn x y (by omega)).bind ?_)
  by_cases hlt:x < y
  ·rw [if_pos hlt]
   exact Tells.ifn (by unfold cmpN;rw [if_pos hlt];omega) ((Zhf y x (by omega) (by omega)).bind (Tells.pure _))
  ·rw [if_neg hlt]
   exact Tells.ifp (by unfold cmpN;rw [if_neg hlt];split <;> omega) ((Zhf x y (by omega) (by omega)).bind (Tells.pure _))
theorem Zsp (A:Dm):Za8.f A.neg (digs A.n) A.e=some ((negD A).neg,digs A.n,A.e):=by
 unfold Za8.f negD
 have hl:(digs A.n).length=0 ↔ A.n=0:=Zhx
 cases A.neg
 ·rw [if_neg (by simp)]
  congr 2
  simp only [Bool.not_false,Bool.true_and]
  by_cases h:A.n=0
  ·rw [decide_eq_false (not_not_intro h),decide_eq_false (by have := hl.2 h;omega)]
  ·rw [decide_eq_true h,decide_eq_true (by have:(digs A.n).length ≠ 0:=fun q=>h (hl.1 q);omega)]
 ·rw [if_pos rfl];rfl
theorem ROrder (D E:Dm) (hD:OkD D) (hE:OkD E):Tells (fun k=>Zai.f k D.neg (limbs D.n) D.e E.neg (limbs E.n) E.e) (cmpD D E):=by
 have d1:=hD.len;have d2:=hD.low;have d3:=hD.high
 have e1:=hE.len;have e2:=hE.low;have e3:=hE.high
 unfold Zai.f
 refine (ROf D (by omega)).bind ((ROf E (by omega)).bind ?_)
 dsimp only
 rw [Zsp E]
 refine (Tells.pure _).bind ?_
 refine (Zjn D (negD E) (by omega) (by show nd E.n<=_;omega) (by omega) (by show -10000<=E.e/\E.e<=10000;omega)).bind ?_
 unfold cmpD
 simp only
 have hl:(digs (plusD D (negD E)).n).length=0 ↔ (plusD D (negD E)).n=0:=Zhx
 by_cases h:(plusD D (negD E)).n=0
 ·rw [if_pos h]
  exact Tells.ifp (by have := hl.2 h;omega) (Tells.pure _)
 ·rw [if_neg h]
  refine Tells.ifn (by have:(digs (plusD D (negD E)).n).length ≠ 0:=fun q=>h (hl.1 q);omega) ?_
  cases (plusD D (negD E)).neg
  ·exact Tells.ifn (by simp) (Tells.pure _)
  ·exact Tells.ifp rfl (Tells.pure _)
theorem Zrp (s t:Bool) (x y k:Nat) (hx:nd x<=k) (hy:nd y<=k):nd (sumS s t x y).2<=k+1:=by
 have h1:=Zsl x y
 have h2:=Zev (Nat.sub_le x y)
 have h3:=Zev (Nat.sub_le y x)
 unfold sumS
 split
 ·show nd (x+y)<=_;omega
 ·split
  ·show nd (y - x)<=_;omega
  ·show nd (x - y)<=_;omega
theorem Zqb {A B:Dm} (hA:OkD A) (hB:OkD B):nd (plusD A B).n<=2301:=by
 have d1:=hA.len;have d2:=hA.low;have d3:=hA.high
 have e1:=hB.len;have e2:=hB.low;have e3:=hB.high
 have hx:=Zd7 A.n (A.e - min A.e B.e).toNat
 have hy:=Zd7 B.n (B.e - min A.e B.e).toNat
 exact Zrp _ _ _ _ 2300 (by omega) (by omega)
theorem Zqa {A B:Dm} (hA:OkD A) (hB:OkD B) : -1000<=(plusD A B).e/\(plusD A B).e<=1000:=by
 have d2:=hA.low;have d3:=hA.high
 have e2:=hB.low;have e3:=hB.high
 rw [Zoy];omega
theorem RSub (D E:Dm) (hD:OkD D) (hE:OkD E):Tells (fun k=>Zaw.f k D.neg (limbs D.n) D.e E.neg (limbs E.n) E.e) (outD (subD D E)):=by
 have d1:=hD.len;have d2:=hD.low;have d3:=hD.high
 have hN:=Zrq hE
 have e1:=hE.len;have e2:=hE.low;have e3:=hE.high
 have p1:=Zqb hD hN
 have p2:=Zqa hD hN
 unfold Zaw.f
 refine (Rchecks D E hD hE).bind (Tells.ifp rfl ((ROf D (by omega)).bind ((ROf E (by omega)).bind ?_)))
 dsimp only
 rw [Zsp E]
 refine (Tells.pure _).bind ((Zjn D (negD E) (by omega) (by show nd E.n<=_;omega) (by omega) (by show -10000<=E.e/\E.e<=10000;omega)).bind ?_)
 exact (Made (plusD D (negD E)).neg (plusD D (negD E)).n (plusD D (negD E)).e (by omega) (by omega) (by omega)).bind (Tells.pure _)
def intD (n:Int):Dm:=(settleD ⟨decide (n < 0),n.natAbs,0⟩).1
theorem Zg4 (n:Nat) (h:n < 18446744073709551616):Tells (fun k=>Zbf.f k (n:Int)) (digs n):=by
 unfold Zbf.f
 rw [Zjg n h]
 have hl:(limbs n).length<=2:=Zep (by simpa using h)
 have hD:=Zg0 (limbs n) (Zc7 n) (by omega)
 rw [Zc0] at hD
 exact (Tells.pure _).bind (hD.bind (Tells.pure _))
theorem Zp0 {n:Nat} (h:n<=18446744073709551616):nd n<=20:=Zgt (Nat.lt_of_le_of_lt h (by decide))
theorem Zms (n:Int) (h1 : -9223372036854775808<=n) (h2:n<=9223372036854775807):Tells (fun k=>Zcx.f k n) ((intD n).neg,limbs (intD n).n,(intD n).e):=by
 unfold Zcx.f intD
 obtain ⟨u,hu,hub⟩:∃ u:Nat,IntKind.u64.wrap n=(u:Int)/\u < 18446744073709551616:=⟨(n % 18446744073709551616).toNat,by simp [IntKind.wrap,IntKind.bits,IntKind.signed];omega,by omega⟩
 rw [hu]
 refine (Zg4 u hub).bind ?_
 by_cases hn:n < 0
 ·obtain ⟨v,hv⟩:∃ v:Nat,n = -((v:Int)+1):=⟨(-n - 1).toNat,by omega⟩
  subst hv
  have e1:wrap64 (-((v:Int)+1)+1) = -(v:Int):=by rw [w64n (by omega) (by omega)];omega
  have e2:wrap64 (-(-(v:Int)))=(v:Int):=by rw [Int.neg_neg,w64c (by omega)]
  have e3:(-((v:Int)+1)).natAbs=v+1:=by omega
  have h1d:([1]:List Int)=digs 1:=rfl
  rw [e1,e2,u64n (by omega),e3,decide_eq_true hn,h1d]
  refine Tells.ifp hn ((Zg4 v (by omega)).bind ?_)
  refine (Zie v 1 (Nat.le_trans (Zp0 (by omega)) (by omega)) (Nat.le_trans (Zp0 (by omega)) (by omega))).bind ?_
  exact (Made true (v+1) 0 (Nat.le_trans (Zp0 (by omega)) (by omega)) (by omega) (by omega)).bind (Tells.pure _)
 ·obtain ⟨v,rfl⟩:=Int.eq_ofNat_of_zero_le (show 0<=n by omega)
  rw [u64n (by omega)] at hu
  obtain rfl:v=u:=by omega
  rw [decide_eq_false hn,Int.natAbs_natCast]
  exact Tells.ifn hn ((Made false v 0 (Nat.le_trans (Zp0 (by omega)) (by omega)) (by omega) (by omega)).bind (Tells.pure _))
end YtjbjkmccfocikaaGreatDoor.P
end
section
namespace YtjbjkmccfocikaaGreatDoor.P
open Go.RowKit YtjbjkmccfocikaaGreatDoorW.PrintWords
def anyO {α:Type} (f:α->Option Bool):List α->Option Bool
 | []=>some false
 | x :: r=>(f x).bind fun t=>if t=true then some true else anyO f r
theorem Zjp {α:Type} {f:α->Option Bool} {x:α} {r:List α} {b:Bool} (h:anyO f (x :: r)=some b):∃ t,f x=some t/\((t=true->b=true)/\(t=false->anyO f r=some b)):=by
 simp only [anyO] at h
 obtain ⟨t,ht,h2⟩:=Option.bind_eq_some_iff.1 h
 refine ⟨t,ht,fun e=>?_,fun e=>?_⟩
 ·rw [if_pos e] at h2;exact (Option.some.inj h2).symm
 ·rw [if_neg (by simp [e])] at h2;exact h2
theorem Zlv {α:Type} {f:α->Option Bool} {b:Bool} (h:anyO f []=some b):b=false:=(Option.some.inj h).symm
theorem Zjq {α:Type} {f:α->Option Bool} (p:α->Bool):∀ l:List α,(∀ x ∈ l,f x=some (p x))->anyO f l=some (l.any p)
 | [],_=>rfl
 | x :: r,h=>by
  simp only [anyO]
  rw [h x List.mem_cons_self,Option.bind_some,List.any_cons]
  cases p x
  ·rw [if_neg (by simp),Bool.false_or];exact Zjq p r (fun y hy=>h y (List.mem_cons_of_mem _ hy))
  ·rw [if_pos rfl,Bool.true_or]
def IdxR (b:Bool) (e:Ending):Prop:=∃ i:Int,e=.returned (.int .i64 i)/\decide (0<=i)=b
theorem Zod {b:Bool} (h:b=true) (q:Nat):IdxR b (.returned (.int .i64 (q:Int))):=⟨q,rfl,by rw [h];simp⟩
theorem Zjw {b:Bool} (h:b=false):IdxR b (.returned (.int .i64 (-1))):=⟨-1,rfl,by rw [h];rfl⟩
theorem Zl3 {α:Type} {l:List α} {q:Nat} {z:α} (h:q < l.length):l.drop q=l.getD q z :: l.drop (q+1):=by
 rw [List.getD,List.getElem?_eq_getElem h];exact List.drop_eq_getElem_cons h
theorem Zlt {w:World} {a:Addr} {v:Value} (h:w.cell? a=some v):∃ b o,a=⟨b,o,none⟩:=by
 obtain ⟨b,o,s⟩:=a
 cases s with
 | none=>exact ⟨b,o,rfl⟩
 | some s =>
  unfold World.cell? at h
  split at h
  ·simp at h
  ·cases h
theorem Ziy (b o j:Nat):(⟨b,o,none⟩:Addr).add j=⟨b,o+j,none⟩:=by unfold Addr.add;split <;> simp_all
end YtjbjkmccfocikaaGreatDoor.P
end
section
namespace YtjbjkmccfocikaaGreatDoor.B
open Go.RowKit YtjbjkmccfocikaaGreatDoorW.PrintWords YtjbjkmccfocikaaGreatDoorW.PrintLast YtjbjkmccfocikaaGreatDoorW.PrintMore
attribute [local go_sem] Zb7 Zb9 Zcr Zcs Zbp Zbq Zb8 Zca
def Zet.f (k:Nat) (l0:List Int):Option (List Int × Bool):=(Zcj.f k 10).bind fun qc=>((Zdi.f k l0 qc).bind fun qb=>(some (qb.1,((qb.2.1.length:Int) == 0))))
theorem Zet.calls (k:Nat) (A0:Option Addr) (c0:Nat) (l0:List Int) (r1:List Int) (r2:Bool) (w:World) (hr0:Kd.C (Kd.int .u32) w A0 l0.length l0) (hc0:l0.length<=c0) (h:Zet.f k l0=some (r1,r2)) :
  Calls Tryz.prog 109 #[.slice A0 l0.length c0] w fun e w' => ∃ v0_:Value,e=.returned (.tuple #[v0_,.bool r2])/\Kd.R (Kd.int .u32) 85 w' w.heap.size (fun _=>True) v0_ r1/\Below w.heap.size w w':=by
 have HR0:=am hr0
 have HC0:=am hc0
 clear hr0 hc0
 have HB:=am (Below.refl w.heap.size w)
 have H:((Zcj.f k 10).bind fun qc=>((Zdi.f k l0 qc).bind fun qb=>(some (qb.1,((qb.2.1.length:Int) == 0)))))=some (r1,r2):=h
 clear h
 obtain ⟨qc,A2,H⟩:=ob H
 obtain ⟨⟨qf,qg,qh⟩,A3,H⟩:=ob H;(try dsimp only at H)
 simp only [Option.some.injEq,Prod.mk.injEq] at H
 obtain ⟨rfl,rfl⟩:=H
 go_enter Tryz.func109,Tryz.ntmps109
 go_wp2_with (first|(refine gL (some 9) Tryz.func76 #[.int .u64 10] (h:=?_);(with_reducible refine (Zcj.calls k 10 qc _ A2.o).mono ?_);rintro e w4 ⟨qi,rfl,ho0,hb⟩;refine ⟨_,rfl,?_⟩;have qa:=am (Kd.Zo ho0 (Zd pB));replace HB:=bS hb;obtain ⟨Ao5,co5,eo5⟩:=Kd.Zj qa.o;subst eo5)|(refine gL (some 10) Tryz.func69 #[.slice A0 l0.length c0,.slice Ao5 qc.length co5] (h:=?_);(with_reducible refine (Zdi.calls k _ _ l0 _ _ qc qf qg qh _ ?side1 ?side2 ?side3 ?side4 A3.o).mono ?_);(case side1=>exact cB HR0 HB);(case side2=>exact HC0.o);(case side3=>exact Kd.Zn (Kd.Zc qa.o).2.2 pl);(case side4=>exact (Kd.Zc qa.o).2.1);rintro e w6 ⟨qj,qk,rfl,ho0,ho1,hb⟩;refine ⟨_,rfl,?_⟩;have qd:=am (Kd.Zo (Kd.Zs ho0 (Kd.R_lt (Kd.Za qa.o pl))) (Zd pB));have qe:=am (Kd.Zo (Kd.Zs ho1 (Kd.R_lt (Kd.Za qa.o pl))) (Zd pB));replace qa:=am (Kd.Zh (Kd.Zda (Kd.Zda (Kd.Zf2 (Kd.Za qa.o pl) hb) (Kd.Zaz ho0)) (Kd.Zaz ho1)) (fun _ h_=>h_.1));replace HB:=bS hb;obtain ⟨Ao7,co7,eo7⟩:=Kd.Zj qe.o;subst eo7))
 go_ret2
 exact ⟨_,pE,by refine rp ?_;exact Kd.Zh qd.o (fun _ hk=>trivial),pB⟩
def Zcv.f (k:Nat) (l0:List Int):Option (Int):=(Zat.f k l0).bind fun qa=>(if (l0.length:Int)=0 then (some 0) else (some (qa.1.size:Int)))
theorem Zcv.calls (k:Nat) (A0:Option Addr) (c0:Nat) (l0:List Int) (r:Int) (w:World) (hr0:Kd.C (Kd.int .u32) w A0 l0.length l0) (hc0:l0.length<=c0) (h:Zcv.f k l0=some r) :
  Calls Tryz.prog 110 #[.slice A0 l0.length c0] w fun e w'=>e=.returned (.int .i64 r)/\Below w.heap.size w w':=by
 have HR0:=am hr0
 have HC0:=am hc0
 clear hr0 hc0
 have HB:=am (Below.refl w.heap.size w)
 have H:((Zat.f k l0).bind fun qa=>(if (l0.length:Int)=0 then (some 0) else (some (qa.1.size:Int))))=some r:=h
 clear h
 obtain ⟨⟨qb,qc⟩,A2,H⟩:=ob H;(try dsimp only at H)
 by_cases c3:(l0.length:Int)=0
 ·rw [if_pos c3] at H
  have c3b0:((l0.length:Int) == 0)=true:=beq_iff_eq.mpr c3
  have c3b1:((l0.length:Int) != 0)=false:=bne_eq_false_iff_eq.mpr c3
  clear c3
  obtain rfl:=Option.some.inj H
  go_enter Tryz.func110,Tryz.ntmps110
  go_wp2_with (first|(refine gL (some 7) Tryz.func112 #[.slice A0 l0.length c0] (h:=?_);(with_reducible refine (Zat.calls k (fun k_=>k_ < w.heap.size) _ _ l0 qb qc _ ?side1 A2.o).mono ?_);(case side1=>exact Kd.V_mk HC0.o (Kd.Zhe (Kd.C_F (Kd.Zi5 .u32) HR0.o) pB));rintro e w4 ⟨rfl,hb⟩;refine ⟨_,rfl,?_⟩;replace HB:=bS hb))
  go_ret
  exact ⟨pE,pB⟩
 ·rw [if_neg c3] at H
  have c3b0:((l0.length:Int) == 0)=false:=beq_eq_false_iff_ne.mpr c3
  have c3b1:((l0.length:Int) != 0)=true:=bne_iff_ne.mpr c3
  have c3b2:¬ (l0=[]):=fun h_=>c3 (by rw [h_];rfl)
  obtain rfl:=Option.some.inj H
  go_enter Tryz.func110,Tryz.ntmps110
  go_wp2_with (first|(refine gL (some 7) Tryz.func112 #[.slice A0 l0.length c0] (h:=?_);(with_reducible refine (Zat.calls k (fun k_=>k_ < w.heap.size) _ _ l0 qb qc _ ?side1 A2.o).mono ?_);(case side1=>exact Kd.V_mk HC0.o (Kd.Zhe (Kd.C_F (Kd.Zi5 .u32) HR0.o) pB));rintro e w5 ⟨rfl,hb⟩;refine ⟨_,rfl,?_⟩;replace HB:=bS hb))
  go_ret
  exact ⟨pE,pB⟩
def Zbg.j0:Nat->Bool->Bool->List Int->Int->Option (Int)
 | 0,_,_,_,_=>none
 | k+1,x14,qi,qe,qf=>if x14=true then (some 9) else (if (qe.length:Int)=0 then (if qi=true then (some 9) else (if qf=0 then (some 0) else (some 9))) else ((Zet.f k qe).bind fun qj=>(if qj.2=true then (some 9) else ((Zcv.f k qe).bind fun qd=>(if qd > 300 then (some 9) else (if qf < (-1000) then (some 9) else (if qf > 1000 then (some 9) else (some 0))))))))
def Zbg.f (k:Nat) (a0_0:Bool) (l0_1:List Int) (a0_2:Int):Option (Int):=(Za3.f l0_1).bind fun qc=>(if qc=0 then (Zbg.j0 k (decide ((l0_1.length:Int) > 40)) a0_0 l0_1 a0_2) else (Zbg.j0 k true a0_0 l0_1 a0_2))
theorem Zbg.calls (k:Nat) (a0_0:Bool) (A0_1:Option Addr) (c0_1:Nat) (l0_1:List Int) (a0_2:Int) (r:Int) (w:World) (hr0_1:Kd.C (Kd.int .u32) w A0_1 l0_1.length l0_1) (hc0_1:l0_1.length<=c0_1) (h:Zbg.f k a0_0 l0_1 a0_2=some r) :
  Calls Tryz.prog 55 #[.agg #[.bool a0_0,.slice A0_1 l0_1.length c0_1,.int .i64 a0_2]] w fun e w'=>e=.returned (.int .i64 r)/\Below w.heap.size w w':=by
 have hu24:=Tryz.underlying24
 have HR0_1:=am hr0_1
 have HC0_1:=am hc0_1
 clear hr0_1 hc0_1
 have HB:=am (Below.refl w.heap.size w)
 have H:((Za3.f l0_1).bind fun qc=>(if qc=0 then (Zbg.j0 k (decide ((l0_1.length:Int) > 40)) a0_0 l0_1 a0_2) else (Zbg.j0 k true a0_0 l0_1 a0_2)))=some r:=h
 clear h
 have HC2:=am H
 clear H
 go_enter Tryz.func55,Tryz.ntmps55
 go_upto_region 1 with (first|((with_reducible refine gd 1 ?_);(try (refine Zau (by rfl) ?_;dsimp only));refine bx 1 #[.bool a0_0,.slice A0_1 l0_1.length c0_1,.int .i64 a0_2] 24 (h:=?_);intro qk hg w3 hbox hb;have qa:=am hbox;have qm:=gW hg;replace HB:=bS hb;clear hb hbox hg))
 (try simp only [Act.put,List.setIfInBounds_toArray,List.set_cons_zero,List.set_cons_succ])
 go_cut [14] (fun v14 wc => ∃ (kq:Nat) (x14_1:Bool),v14=.bool x14_1/\Aside0 (Zbg.j0 kq x14_1 a0_0 l0_1 a0_2=some r)/\Aside0 (kq<=k)/\Aside0 (wc.heap[qk]? = some (.cells #[.bool a0_0,(.slice A0_1 l0_1.length c0_1),.int .i64 a0_2] 24 (0,0)))/\Aside0 (Below w.heap.size w wc))
 case first =>
  have H:=HC2.o
  clear HC2
  obtain ⟨qc,A4,H⟩:=ob H
  by_cases c5:qc=0
  ·rw [if_pos c5] at H
   have c5b0:(qc == 0)=true:=beq_iff_eq.mpr c5
   have c5b1:(qc != 0)=false:=bne_eq_false_iff_eq.mpr c5
   clear c5
   (first|rw [c5b0]|(simp only [Zcd,Zdb];rw [c5b0])|skip)
   have H':=am H
   clear H
   obtain ⟨_,_,_,_,_,_⟩:=cEc qa.o
   go_wp2_with (first|(refine gL (some 7) Tryz.func108 #[.slice A0_1 l0_1.length c0_1] (h:=?_);(with_reducible refine (Za3.calls _ _ l0_1 qc _ ?side1 ?side2 A4.o).mono ?_);(case side1=>exact cB HR0_1 HB);(case side2=>exact HC0_1.o);rintro e w' ⟨rfl,⟨nd,rfl⟩⟩;refine ⟨_,rfl,?_⟩))
   go_meet
   case rel=>exact ⟨_,(decide ((l0_1.length:Int) > 40)),pR,H',⟨by first|omega|exact Nat.le_refl _⟩,⟨Zb qa.o pl⟩,⟨pB⟩⟩
  ·rw [if_neg c5] at H
   have c5b0:(qc == 0)=false:=beq_eq_false_iff_ne.mpr c5
   have c5b1:(qc != 0)=true:=bne_iff_ne.mpr c5
   (first|rw [c5b0]|(simp only [Zcd,Zdb];rw [c5b0])|skip)
   have H':=am H
   clear H
   obtain ⟨_,_,_,_,_,_⟩:=cEc qa.o
   go_wp2_with (first|(refine gL (some 7) Tryz.func108 #[.slice A0_1 l0_1.length c0_1] (h:=?_);(with_reducible refine (Za3.calls _ _ l0_1 qc _ ?side1 ?side2 A4.o).mono ?_);(case side1=>exact cB HR0_1 HB);(case side2=>exact HC0_1.o);rintro e w' ⟨rfl,⟨nd,rfl⟩⟩;refine ⟨_,rfl,?_⟩))
   go_meet
   case rel=>exact ⟨_,(true),pR,H',⟨by first|omega|exact Nat.le_refl _⟩,⟨Zb qa.o pl⟩,⟨pB⟩⟩
 case rest =>
  clear HC2
  obtain ⟨kq,x14_1,rfl,HA,HJ1,qa,HB⟩:=hcut
  cases kq with
  | zero=>exact absurd HA.out (by simp [Zbg.j0])
  | succ kj1 =>
   have H:=HA.out
   clear HA
   simp only [Zbg.j0] at H
   by_cases c8:x14_1=true
   ·subst c8
    rw [if_pos rfl] at H
    obtain rfl:=Option.some.inj H
    go_wp2
    go_ret
    exact ⟨pE,pB⟩
   ·replace c8:=Bool.eq_false_iff.mpr c8
    subst c8
    rw [if_neg (show ¬ (false=true) by decide)] at H
    by_cases c9:(l0_1.length:Int)=0
    ·rw [if_pos c9] at H
     have c9b0:((l0_1.length:Int) == 0)=true:=beq_iff_eq.mpr c9
     have c9b1:((l0_1.length:Int) != 0)=false:=bne_eq_false_iff_eq.mpr c9
     clear c9
     by_cases c10:a0_0=true
     ·subst c10
      rw [if_pos rfl] at H
      obtain rfl:=Option.some.inj H
      obtain ⟨_,_,_,_,_,_⟩:=cEc qa.o
      go_wp2
      go_ret
      exact ⟨pE,pB⟩
     ·replace c10:=Bool.eq_false_iff.mpr c10
      subst c10
      rw [if_neg (show ¬ (false=true) by decide)] at H
      by_cases c12:a0_2=0
      ·rw [if_pos c12] at H
       have c12b0:(a0_2 == 0)=true:=beq_iff_eq.mpr c12
       have c12b1:(a0_2 != 0)=false:=bne_eq_false_iff_eq.mpr c12
       clear c12
       obtain rfl:=Option.some.inj H
       obtain ⟨_,_,_,_,_,_⟩:=cEc qa.o
       go_wp2
       go_ret
       exact ⟨pE,pB⟩
      ·rw [if_neg c12] at H
       have c12b0:(a0_2 == 0)=false:=beq_eq_false_iff_ne.mpr c12
       have c12b1:(a0_2 != 0)=true:=bne_iff_ne.mpr c12
       obtain rfl:=Option.some.inj H
       obtain ⟨_,_,_,_,_,_⟩:=cEc qa.o
       go_wp2
       go_ret
       exact ⟨pE,pB⟩
    ·rw [if_neg c9] at H
     have c9b0:((l0_1.length:Int) == 0)=false:=beq_eq_false_iff_ne.mpr c9
     have c9b1:((l0_1.length:Int) != 0)=true:=bne_iff_ne.mpr c9
     have c9b2:¬ (l0_1=[]):=fun h_=>c9 (by rw [h_];rfl)
     obtain ⟨⟨qg,ql⟩,A15,H⟩:=ob H;(try dsimp only at H)
     by_cases c16:ql=true
     ·subst c16
      rw [if_pos rfl] at H
      obtain rfl:=Option.some.inj H
      obtain ⟨_,_,_,_,_,_⟩:=cEc qa.o
      go_wp2_with (first|(refine gL (some 29) Tryz.func109 #[.slice A0_1 l0_1.length c0_1] (h:=?_);(with_reducible refine (Zet.calls kj1 _ _ l0_1 qg true _ ?side1 ?side2 A15.o).mono ?_);(case side1=>exact cB HR0_1 HB);(case side2=>exact HC0_1.o);rintro e w18 ⟨qh,rfl,ho0,hb⟩;refine ⟨_,rfl,?_⟩;have qb:=am (Kd.Zo ho0 (Zd pB));replace qa:=bb qa hb;replace HB:=bS hb))
      go_ret
      exact ⟨pE,pB⟩
     ·replace c16:=Bool.eq_false_iff.mpr c16
      subst c16
      rw [if_neg (show ¬ (false=true) by decide)] at H
      obtain ⟨qd,A19,H⟩:=ob H
      by_cases c20:qd > 300
      ·rw [if_pos c20] at H
       have c20b0:decide (300 < qd)=true:=decide_eq_true c20
       clear c20
       obtain rfl:=Option.some.inj H
       obtain ⟨_,_,_,_,_,_⟩:=cEc qa.o
       go_wp2_with (first|(refine gL (some 29) Tryz.func109 #[.slice A0_1 l0_1.length c0_1] (h:=?_);(with_reducible refine (Zet.calls kj1 _ _ l0_1 qg false _ ?side1 ?side2 A15.o).mono ?_);(case side1=>exact cB HR0_1 HB);(case side2=>exact HC0_1.o);rintro e w22 ⟨qh,rfl,ho0,hb⟩;refine ⟨_,rfl,?_⟩;have qb:=am (Kd.Zo ho0 (Zd pB));replace qa:=bb qa hb;replace HB:=bS hb;obtain ⟨_,_,_,_,_,_⟩:=cEc qa.o)|(go_at_call 110;(with_reducible refine (Zcv.calls kj1 _ _ l0_1 qd _ ?side1 ?side2 A19.o).mono ?_);(case side1=>exact cB HR0_1 HB);(case side2=>exact HC0_1.o);rintro e w24 ⟨rfl,hb⟩;replace qb:=rbl qb hb;replace qa:=bb qa hb;replace HB:=bS hb))
       go_ret
       exact ⟨pE,pB⟩
      ·rw [if_neg c20] at H
       have c20b0:decide (300 < qd)=false:=decide_eq_false c20
       clear c20
       by_cases c25:a0_2 < (-1000)
       ·rw [if_pos c25] at H
        have c25b0:decide (a0_2 < (-1000))=true:=decide_eq_true c25
        clear c25
        obtain rfl:=Option.some.inj H
        obtain ⟨_,_,_,_,_,_⟩:=cEc qa.o
        go_wp2_with (first|(refine gL (some 29) Tryz.func109 #[.slice A0_1 l0_1.length c0_1] (h:=?_);(with_reducible refine (Zet.calls kj1 _ _ l0_1 qg false _ ?side1 ?side2 A15.o).mono ?_);(case side1=>exact cB HR0_1 HB);(case side2=>exact HC0_1.o);rintro e w27 ⟨qh,rfl,ho0,hb⟩;refine ⟨_,rfl,?_⟩;have qb:=am (Kd.Zo ho0 (Zd pB));replace qa:=bb qa hb;replace HB:=bS hb;obtain ⟨_,_,_,_,_,_⟩:=cEc qa.o)|(go_at_call 110;(with_reducible refine (Zcv.calls kj1 _ _ l0_1 qd _ ?side1 ?side2 A19.o).mono ?_);(case side1=>exact cB HR0_1 HB);(case side2=>exact HC0_1.o);rintro e w29 ⟨rfl,hb⟩;replace qb:=rbl qb hb;replace qa:=bb qa hb;replace HB:=bS hb;obtain ⟨_,_,_,_,_,_⟩:=cEc qa.o))
        go_ret
        exact ⟨pE,pB⟩
       ·rw [if_neg c25] at H
        have c25b0:decide (a0_2 < (-1000))=false:=decide_eq_false c25
        clear c25
        by_cases c31:a0_2 > 1000
        ·rw [if_pos c31] at H
         have c31b0:decide (1000 < a0_2)=true:=decide_eq_true c31
         clear c31
         obtain rfl:=Option.some.inj H
         obtain ⟨_,_,_,_,_,_⟩:=cEc qa.o
         go_wp2_with (first|(refine gL (some 29) Tryz.func109 #[.slice A0_1 l0_1.length c0_1] (h:=?_);(with_reducible refine (Zet.calls kj1 _ _ l0_1 qg false _ ?side1 ?side2 A15.o).mono ?_);(case side1=>exact cB HR0_1 HB);(case side2=>exact HC0_1.o);rintro e w33 ⟨qh,rfl,ho0,hb⟩;refine ⟨_,rfl,?_⟩;have qb:=am (Kd.Zo ho0 (Zd pB));replace qa:=bb qa hb;replace HB:=bS hb;obtain ⟨_,_,_,_,_,_⟩:=cEc qa.o)|(go_at_call 110;(with_reducible refine (Zcv.calls kj1 _ _ l0_1 qd _ ?side1 ?side2 A19.o).mono ?_);(case side1=>exact cB HR0_1 HB);(case side2=>exact HC0_1.o);rintro e w35 ⟨rfl,hb⟩;replace qb:=rbl qb hb;replace qa:=bb qa hb;replace HB:=bS hb;obtain ⟨_,_,_,_,_,_⟩:=cEc qa.o))
         go_ret
         exact ⟨pE,pB⟩
        ·rw [if_neg c31] at H
         have c31b0:decide (1000 < a0_2)=false:=decide_eq_false c31
         clear c31
         obtain rfl:=Option.some.inj H
         obtain ⟨_,_,_,_,_,_⟩:=cEc qa.o
         go_wp2_with (first|(refine gL (some 29) Tryz.func109 #[.slice A0_1 l0_1.length c0_1] (h:=?_);(with_reducible refine (Zet.calls kj1 _ _ l0_1 qg false _ ?side1 ?side2 A15.o).mono ?_);(case side1=>exact cB HR0_1 HB);(case side2=>exact HC0_1.o);rintro e w38 ⟨qh,rfl,ho0,hb⟩;refine ⟨_,rfl,?_⟩;have qb:=am (Kd.Zo ho0 (Zd pB));replace qa:=bb qa hb;replace HB:=bS hb;obtain ⟨_,_,_,_,_,_⟩:=cEc qa.o)|(go_at_call 110;(with_reducible refine (Zcv.calls kj1 _ _ l0_1 qd _ ?side1 ?side2 A19.o).mono ?_);(case side1=>exact cB HR0_1 HB);(case side2=>exact HC0_1.o);rintro e w40 ⟨rfl,hb⟩;replace qb:=rbl qb hb;replace qa:=bb qa hb;replace HB:=bS hb;obtain ⟨_,_,_,_,_,_⟩:=cEc qa.o))
         go_ret
         exact ⟨pE,pB⟩
end YtjbjkmccfocikaaGreatDoor.B
end
end Go.Proofs
