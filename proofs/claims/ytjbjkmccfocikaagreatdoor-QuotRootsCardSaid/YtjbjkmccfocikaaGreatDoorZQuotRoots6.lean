/- QuotRoots, part 7 of 7 of its proof (no condition); names with a low line are shortened throughout. -/
import Derived.Test.YtjbjkmccfocikaaGreatDoorZQuotRoots5
import Derived.ChangeSlices
import Derived.ChangeArms
import Derived.Lib.SmallJoins
import Derived.Carry
import Derived.SizedLaws
set_option linter.unusedVariables false
set_option linter.unusedSimpArgs false
set_option maxRecDepth 100000
set_option maxHeartbeats 8000000
namespace Go.Proofs
section
namespace YtjbjkmccfocikaaGreatDoor.B
open Go.RowKit YtjbjkmccfocikaaGreatDoorW.PrintWords YtjbjkmccfocikaaGreatDoorW.PrintLast YtjbjkmccfocikaaGreatDoorW.PrintMore
attribute [local go_sem] Zb7 Zb9 Zcu Zcv Zbt Zbu Zb8 Zca
mutual
def Zk.j0:Nat->Bool->Bool->List Int->Int->Bool->List Int->Int->Option (Bool)
 | 0,_,_,_,_,_,_,_=>none
 | k + 1,x29,x963000,x963001,x963002,x971000,x971001,x971002=>if x29=true then (some ((x971001.length:Int) == 0)) else ((Zp.f k x971000 x971001 x971002).bind fun bt972=>((Zo.f k false (([1]:List Int)) (wrap64 (bt972.2.2 - (wrap64 (40 - (bt972.2.1.length:Int)))))).bind fun bt981=>((Zau.f k x971000 x971001 x971002 bt981.1 bt981.2.1 bt981.2.2.1).bind fun bt988=>((Zab.f k x971000 x971001 x971002 x971000 x971001 x971002).bind fun bt995=>((Zab.f k bt988.1 bt988.2.1 bt988.2.2.1 bt988.1 bt988.2.1 bt988.2.2.1).bind fun bt1002=>(if bt981.2.2.2=0 then (if bt988.2.2.2=0 then (if bt995.2.2.2=0 then (Zk.j1 k (bt1002.2.2.2 != 0) x963000 x963001 x963002 bt972.1 bt972.2.1 bt972.2.2 bt995.1 bt995.2.1 bt995.2.2.1 bt1002.1 bt1002.2.1 bt1002.2.2.1) else (Zk.j1 k true x963000 x963001 x963002 bt972.1 bt972.2.1 bt972.2.2 bt995.1 bt995.2.1 bt995.2.2.1 bt1002.1 bt1002.2.1 bt1002.2.2.1)) else (Zk.j1 k true x963000 x963001 x963002 bt972.1 bt972.2.1 bt972.2.2 bt995.1 bt995.2.1 bt995.2.2.1 bt1002.1 bt1002.2.1 bt1002.2.2.1)) else (Zk.j1 k true x963000 x963001 x963002 bt972.1 bt972.2.1 bt972.2.2 bt995.1 bt995.2.1 bt995.2.2.1 bt1002.1 bt1002.2.1 bt1002.2.2.1)))))))
def Zk.j1:Nat->Bool->Bool->List Int->Int->Bool->List Int->Int->Bool->List Int->Int->Bool->List Int->Int->Option (Bool)
 | 0,_,_,_,_,_,_,_,_,_,_,_,_,_=>none
 | k + 1,x80,x963000,x963001,x963002,x978000,x978001,x978002,x1002000,x1002001,x1002002,x1009000,x1009001,x1009002=>if x80=true then (some (decide ((x978001.length:Int)<=40))) else (if (x978001.length:Int)<=40 then ((Zb3.f k x1002000 x1002001 x1002002 x963000 x963001 x963002).bind fun t1009=>(if t1009<=0 then ((Zb3.f k x1009000 x1009001 x1009002 x963000 x963001 x963002).bind fun t1010=>(some (decide (t1010 > 0)))) else (some false))) else (some false))
end
def Zk.f (k:Nat) (a0_0:Bool) (l0_1:List Int) (a0_2:Int):Option (Bool):=(Zbj.f k).bind fun t963=>(if t963=true then ((Zbg.f k a0_0 l0_1 a0_2).bind fun bt964=>((Zbe.f bt964.2.2.2).bind fun t971=>(if t971=0 then (Zk.j0 k ((bt964.2.1.length:Int) == 0) a0_0 l0_1 a0_2 bt964.1 bt964.2.1 bt964.2.2.1) else (Zk.j0 k true a0_0 l0_1 a0_2 bt964.1 bt964.2.1 bt964.2.2.1)))) else (some false))
theorem Zk.calls (k:Nat) (a0_0:Bool) (A0_1:Option Addr) (c0_1:Nat) (l0_1:List Int) (a0_2:Int) (r:Bool) (w:World) (hr0_1:Kd.C (Kd.int .u32) w A0_1 l0_1.length l0_1) (hc0_1:l0_1.length<=c0_1) (h:Zk.f k a0_0 l0_1 a0_2=some r) (hr:r=true) :
  Calls Tryz.prog 5 #[.agg #[.bool a0_0,.slice A0_1 l0_1.length c0_1,.int .i64 a0_2]] w fun e w'=>e=.returned (.bool r)/\Below w.heap.size w w':=by
 have hu24:=Tryz.underlying24
 have hu30:=Tryz.underlying30
 have HR0_1:=am hr0_1
 have HC0_1:=am hc0_1
 clear hr0_1 hc0_1
 have HB:=am (Below.refl w.heap.size w)
 have H:((Zbj.f k).bind fun t963=>(if t963=true then ((Zbg.f k a0_0 l0_1 a0_2).bind fun bt964=>((Zbe.f bt964.2.2.2).bind fun t971=>(if t971=0 then (Zk.j0 k ((bt964.2.1.length:Int) == 0) a0_0 l0_1 a0_2 bt964.1 bt964.2.1 bt964.2.2.1) else (Zk.j0 k true a0_0 l0_1 a0_2 bt964.1 bt964.2.1 bt964.2.2.1)))) else (some false)))=some r:=h
 clear h
 obtain ⟨t963,A2,H⟩:=ob H
 by_cases c3:t963=true
 ·subst c3
  rw [if_pos rfl] at H
  obtain ⟨⟨t964,t965,t968,t969⟩,A4,H⟩:=ob H;(try dsimp only at H)
  have HC5:=am H
  clear H
  go_enter Tryz.func5,Tryz.ntmps5
  go_upto_region 4 with (first|((with_reducible refine gd 1 ?_);(try (refine Zas (by rfl) ?_;dsimp only));refine bx 1 #[.bool a0_0,.slice A0_1 l0_1.length c0_1,.int .i64 a0_2] 24 (h:=?_);intro gb962 hg w6 hbox hb;have BK962:=am hbox;have GW962:=gW hg;have GE962:=gW hg;replace HB:=bS hb;clear hb hbox hg)|(refine gL (some 14) Tryz.func16 #[] (h:=?_);(with_reducible refine (Zbj.calls k  true _ A2.out).mono ?_);rintro e w7 ⟨rfl,hb⟩;refine ⟨_,rfl,?_⟩;replace BK962:=bb BK962 hb;replace HB:=bS hb;obtain ⟨hcz8_0,hcz8_1,hcz8_2,hfz8_0,hfz8_1,hfz8_2⟩:=cEc BK962.out)|(refine gL (some 18) Tryz.func26 #[.agg #[.bool a0_0,.slice A0_1 l0_1.length c0_1,.int .i64 a0_2]] (h:=?_);(with_reducible refine (Zbg.calls k a0_0 _ _ l0_1 a0_2 t964 t965 t968 t969 _ ?side1 ?side2 A4.out).mono ?_);(case side1=>refine cp ?_;exact (Kd.Zh HR0_1.out HB.out));(case side2=>exact HC0_1.out);rintro e w9 ⟨v966,rfl,ho0,hb⟩;refine ⟨_,rfl,?_⟩;have HO967:=am (Kd.Zq ho0 (Zb pB));replace BK962:=bb BK962 hb;replace HB:=bS hb)|((with_reducible refine gd 3 ?_);(try (refine Zas (by rfl) ?_;dsimp only));refine bx 3 #[.bool false,.slice none 0 0,.int .i64 0] 24 (h:=?_);intro gb970 hg w10 hbox hb;have BK970:=am hbox;have GW970:=gW hg;have GE970:=gW hg;have NB962_970:=nL hg BK962;have NB970_962:=nG hg BK962;replace HO967:=rbl HO967 hb;replace BK962:=bb BK962 hb;replace HB:=bS hb;clear hb hbox hg;have hnb11:=NB970_962.out;have hnc11:=NB962_970.out;obtain ⟨hcz12_0,hcz12_1,hcz12_2,hfz12_0,hfz12_1,hfz12_2⟩:=cEc BK970.out;obtain ⟨Ao13,co13,eo13⟩:=Kd.Zm HO967.out;subst eo13))
  (try simp only [Act.put,List.setIfInBounds_toArray,List.set_cons_zero,List.set_cons_succ])
  go_cut [29] (fun v29 wc => ∃ (kq:Nat) (x29_4:Bool),v29=.bool x29_4/\Aside0 (Zk.j0 kq x29_4 a0_0 l0_1 a0_2 t964 t965 t968=some r)/\Aside0 (kq<=k)/\Aside0 (Kd.R (Kd.int .u32) 85 wc w.heap.size (fun _=>True) (.slice Ao13 t965.length co13) t965)/\Aside0 (wc.heap[gb962]? = some (.cells #[.bool a0_0,(.slice A0_1 l0_1.length c0_1),.int .i64 a0_2] 24 (0,0)))/\Aside0 (wc.heap[gb970]? = some (.cells #[.bool t964,(.slice Ao13 t965.length co13),.int .i64 t968] 24 (0,0)))/\Aside0 (Below w.heap.size w wc))
  case first =>
   have H:=HC5.out
   clear HC5
   obtain ⟨t971,A14,H⟩:=ob H
   by_cases c15:t971=0
   ·rw [if_pos c15] at H
    have c15b0:(t971 == 0)=true:=beq_iff_eq.mpr c15
    have c15b1:(t971 != 0)=false:=bne_eq_false_iff_eq.mpr c15
    clear c15
    (first|rw [c15b0]|(simp only [Zcc,Zdc];rw [c15b0])|skip)
    have H':=am H
    clear H
    go_wp2_with (first|(refine gL (some 22) Tryz.func20 #[.int .i64 t969] (h:=?_);(with_reducible refine (Zbe.calls t969 t971 _ A14.out).mono ?_);rintro e w' ⟨rfl,⟨nd,rfl⟩⟩;refine ⟨_,rfl,?_⟩;have hnb16:=NB970_962.out;have hnc16:=NB962_970.out;obtain ⟨hcz17_0,hcz17_1,hcz17_2,hfz17_0,hfz17_1,hfz17_2⟩:=cEc BK970.out))
    go_meet
    case rel=>exact ⟨_,(((t965.length:Int) == 0)),pR,H',⟨by first|omega|exact Nat.le_refl _⟩,⟨by refine rp ?_;exact Kd.Zi (Kd.Zn (p:=⟨gb970,2,none⟩) (Kd.Zn (p:=⟨gb970,1,none⟩) (Kd.Zn (p:=⟨gb970,0,none⟩) (Kd.Zu HO967.out BK970.out (by decide)) (fun _ hk=>hk.2) (.bool t964)) (fun _ hk=>hk.2) (.slice Ao13 t965.length co13)) (fun _ hk=>hk.2) (.int .i64 t968)) (fun _ hk=>trivial)⟩,⟨bf NB962_970.out BK962.out⟩,⟨by exact p3 BK970⟩,⟨pB⟩⟩
   ·rw [if_neg c15] at H
    have c15b0:(t971 == 0)=false:=beq_eq_false_iff_ne.mpr c15
    have c15b1:(t971 != 0)=true:=bne_iff_ne.mpr c15
    (first|rw [c15b0]|(simp only [Zcc,Zdc];rw [c15b0])|skip)
    have H':=am H
    clear H
    go_wp2_with (first|(refine gL (some 22) Tryz.func20 #[.int .i64 t969] (h:=?_);(with_reducible refine (Zbe.calls t969 t971 _ A14.out).mono ?_);rintro e w' ⟨rfl,⟨nd,rfl⟩⟩;refine ⟨_,rfl,?_⟩))
    go_meet
    case rel=>exact ⟨_,(true),pR,H',⟨by first|omega|exact Nat.le_refl _⟩,⟨by refine rp ?_;exact Kd.Zi (Kd.Zn (p:=⟨gb970,2,none⟩) (Kd.Zn (p:=⟨gb970,1,none⟩) (Kd.Zn (p:=⟨gb970,0,none⟩) (Kd.Zu HO967.out BK970.out (by decide)) (fun _ hk=>hk.2) (.bool t964)) (fun _ hk=>hk.2) (.slice Ao13 t965.length co13)) (fun _ hk=>hk.2) (.int .i64 t968)) (fun _ hk=>trivial)⟩,⟨bf NB962_970.out BK962.out⟩,⟨by exact p3 BK970⟩,⟨pB⟩⟩
  case rest =>
   clear HC5
   obtain ⟨kq,x29_4,rfl,HA,HJ4,HO_971001,BK962,BK970,HB⟩:=hcut
   cases kq with
   | zero=>exact absurd HA.out (by simp [Zk.j0])
   | succ kj4 =>
    have H:=HA.out
    clear HA
    simp only [Zk.j0] at H
    by_cases c18:x29_4=true
    ·subst c18
     rw [if_pos rfl] at H
     obtain rfl:=Option.some.inj H
     have hnb19:=NB970_962.out
     have hnc19:=NB962_970.out
     obtain ⟨hcz20_0,hcz20_1,hcz20_2,hfz20_0,hfz20_1,hfz20_2⟩:=cEc BK970.out
     go_wp2
     go_ret
     exact ⟨pE,pB⟩
    ·replace c18:=Bool.eq_false_iff.mpr c18
     subst c18
     rw [if_neg (show ¬ (false=true) by decide)] at H
     obtain ⟨⟨t972,t973,t976⟩,A21,H⟩:=ob H;(try dsimp only at H)
     obtain ⟨y978,hy978⟩:∃ y_:List Int,y_=(([1]:List Int)):=⟨_,rfl⟩
     replace H:((Zo.f kj4 false y978 (wrap64 (t976 - (wrap64 (40 - (t973.length:Int)))))).bind fun bt981=>((Zau.f kj4 t964 t965 t968 bt981.1 bt981.2.1 bt981.2.2.1).bind fun bt988=>((Zab.f kj4 t964 t965 t968 t964 t965 t968).bind fun bt995=>((Zab.f kj4 bt988.1 bt988.2.1 bt988.2.2.1 bt988.1 bt988.2.1 bt988.2.2.1).bind fun bt1002=>(if bt981.2.2.2=0 then (if bt988.2.2.2=0 then (if bt995.2.2.2=0 then (Zk.j1 kj4 (bt1002.2.2.2 != 0) a0_0 l0_1 a0_2 t972 t973 t976 bt995.1 bt995.2.1 bt995.2.2.1 bt1002.1 bt1002.2.1 bt1002.2.2.1) else (Zk.j1 kj4 true a0_0 l0_1 a0_2 t972 t973 t976 bt995.1 bt995.2.1 bt995.2.2.1 bt1002.1 bt1002.2.1 bt1002.2.2.1)) else (Zk.j1 kj4 true a0_0 l0_1 a0_2 t972 t973 t976 bt995.1 bt995.2.1 bt995.2.2.1 bt1002.1 bt1002.2.1 bt1002.2.2.1)) else (Zk.j1 kj4 true a0_0 l0_1 a0_2 t972 t973 t976 bt995.1 bt995.2.1 bt995.2.2.1 bt1002.1 bt1002.2.1 bt1002.2.2.1))))))=some r:=by have hy_:=hy978;exact pH
     have Ny978:=am hy978
     clear hy978
     obtain ⟨⟨t981,t982,t985,t986⟩,A22,H⟩:=ob H;(try dsimp only at H)
     obtain ⟨⟨t988,t989,t992,t993⟩,A23,H⟩:=ob H;(try dsimp only at H)
     obtain ⟨⟨t995,t996,t999,t1000⟩,A24,H⟩:=ob H;(try dsimp only at H)
     obtain ⟨⟨t1002,t1003,t1006,t1007⟩,A25,H⟩:=ob H;(try dsimp only at H)
     have HC26:=am H
     clear H
     have hnb27:=NB970_962.out
     have hnc27:=NB962_970.out
     obtain ⟨hcz28_0,hcz28_1,hcz28_2,hfz28_0,hfz28_1,hfz28_2⟩:=cEc BK970.out
     go_upto_region 11 with (first|(refine gL (some 35) Tryz.func18 #[.agg #[.bool t964,.slice Ao13 t965.length co13,.int .i64 t968]] (h:=?_);(with_reducible refine (Zp.calls kj4 t964 _ _ t965 t968 t972 t973 t976 _ ?side1 ?side2 A21.out).mono ?_);(case side1=>exact Kd.Zh (Kd.Zd HO_971001.out).2.2 pl);(case side2=>exact (Kd.Zd HO_971001.out).2.1);rintro e w29 ⟨v974,rfl,ho0,hb⟩;refine ⟨_,rfl,?_⟩;replace HO_971001:=rbl HO_971001 hb;have HO975:=am (Kd.Zq ho0 (Zb pB));replace BK962:=bb BK962 hb;replace BK970:=bb BK970 hb;replace HB:=bS hb)|((with_reducible refine gd 5 ?_);(try (refine Zas (by rfl) ?_;dsimp only));refine bx 5 #[.bool false,.slice none 0 0,.int .i64 0] 30 (h:=?_);intro gb977 hg w30 hbox hb;have BK977:=am hbox;have GW977:=gW hg;have GE977:=gW hg;have NB962_977:=nL hg BK962;have NB977_962:=nG hg BK962;have NB970_977:=nL hg BK970;have NB977_970:=nG hg BK970;replace HO_971001:=rbl HO_971001 hb;replace HO975:=rbl HO975 hb;replace BK962:=bb BK962 hb;replace BK970:=bb BK970 hb;replace HB:=bS hb;clear hb hbox hg;have hnb31:=NB977_962.out;have hnc31:=NB962_977.out;have hnb32:=NB977_970.out;have hnc32:=NB970_977.out;obtain ⟨hcz33_0,hcz33_1,hcz33_2,hfz33_0,hfz33_1,hfz33_2⟩:=cEc BK977.out;obtain ⟨Ao34,co34,eo34⟩:=Kd.Zm HO975.out;subst eo34)|((with_reducible refine gd 37 ?_);(try (refine Zas (by rfl) ?_;dsimp only));refine Kd.Zg2 (Kd.int .i64) _ 3 ?hg (N:=37) ?hd (xs:=([1]:List Int)) (inner:=[.int .i64 1]) (ok:=fun _=>True) (okp:=fun _=>True) ?hr ?hp (fun _ hk=>hk) trivial (Below.refl _ _) (Nat.le_refl _) (by simp) ?_;(case hd=>rfl);(case hg=>rfl);(case hr=>first|(go_simp;done)|(go_simp;rfl));(case hp=>exact (Reps.one (show Kd.M (Kd.int .i64) _ _ _ 1 [.int .i64 1] from rfl) (Reps.none _ _)));intro v979 w35 ho36 hb hg_ hnew_;clear hg_ hnew_;(first|rw [<- Ny978.out] at ho36|(simp only [Int.reduceToNat] at ho36;rw [<- Ny978.out] at ho36));have HO980:=am (Kd.Zq (Kd.Zv ho36 (Kd.R_lt (Kd.Za (z3 HO975.out BK977.out (by decide) (.bool t972) (.slice Ao34 t973.length co34) (.int .i64 t976)) pl))) (Zb pB));replace HO_971001:=am (Kd.Za (Kd.Za (z3 HO_971001.out BK977.out (by decide) (.bool t972) (.slice Ao34 t973.length co34) (.int .i64 t976)) pl) hb);replace HO975:=am (Kd.Zco (Kd.Za (z3 HO975.out BK977.out (by decide) (.bool t972) (.slice Ao34 t973.length co34) (.int .i64 t976)) pl) (Kd.Zat ho36) hb);replace BK962:=bfb NB962_977 BK962 hb;replace BK970:=bfb NB970_977 BK970 hb;replace BK977:=am (Zc (g:=gb977) (o:=.cells #[.bool t972,.slice Ao34 t973.length co34,.int .i64 t976] 30 (0,0)) (by exact p3 BK977) hb);replace HB:=bS hb;clear hb ho36;obtain ⟨hcz37_0,hcz37_1,hcz37_2,hfz37_0,hfz37_1,hfz37_2⟩:=cEc BK977.out;obtain ⟨Ao38,co38,eo38⟩:=Kd.Zm HO980.out;subst eo38)|(refine gL (some 46) Tryz.func23 #[.agg #[.bool false,.slice Ao38 y978.length co38,.int .i64 (wrap64 (t976 - (wrap64 (40 - (t973.length:Int)))))]] (h:=?_);(with_reducible refine (Zo.calls kj4 false (fun k_=>some k_=(.slice Ao38 y978.length co38:Value).ownBlock) (.slice Ao38 y978.length co38) y978 (wrap64 (t976 - (wrap64 (40 - (t973.length:Int))))) t981 t982 t985 t986 w _ ?side1 ?side2 A22.out).mono ?_);(case side1=>exact pB);(case side2=>exact Kd.Zbr rfl HO980.out);rintro e w39 ⟨v983,rfl,ho0,hb,hkp⟩;refine ⟨_,rfl,?_⟩;have HO984:=am (Kd.Zi (ok':=fun k_=>some k_ ≠ (.slice Ao13 t965.length co13:Value).ownBlock) ho0 (fun k_ hk_=>Or.elim hk_ (fun hs_=>fun e_=>((((Kd.Zg4 HO_971001.out (Kd.Ze3 HO980.out) (by decide))).1 k_ e_.symm).2) hs_) (fun hn_=>(Kd.fresh' (Kd.R_lt (Kd.Za HO_971001.out pl)) k_ hn_))));replace HO_971001:=am (Kd.Zi (ok':=fun k_=>some k_ ≠ (v983:Value).ownBlock) (Kd.Zcl ((Kd.Zg4 HO_971001.out (Kd.Ze3 HO980.out) (by decide))) hkp (fun k_ hk_ hs_=>(hk_.2) hs_)) (fun k_ hk_=>fun e_=>Or.elim (ho0.1 k_ e_.symm) (fun hs_=>hk_.2.1 hs_) (fun hn_=>Nat.not_le.2 hk_.2.2 hn_)));replace BK962:=am (Za2 (Zc BK962.out pl) hkp (fun e_=>Kd.R_ne HO980.out BK962.out (by decide) e_));replace BK970:=am (Za2 (Zc BK970.out pl) hkp (fun e_=>Kd.R_ne HO980.out BK970.out (by decide) e_));replace HO975:=am (Kd.Zi (ok':=fun k_=>True) (Kd.Zcl (HO975.out) hkp (fun k_ hk_ hs_=>(hk_.2) hs_)) (fun k_ hk_=>trivial));replace BK977:=am (Za2 (Zc BK977.out pl) hkp (fun e_=>Kd.R_ne HO980.out BK977.out (by decide) e_));replace HB:=am hb;clear HO980)|((with_reducible refine gd 6 ?_);(try (refine Zas (by rfl) ?_;dsimp only));refine bx 6 #[.bool false,.slice none 0 0,.int .i64 0] 24 (h:=?_);intro gb987 hg w40 hbox hb;have BK987:=am hbox;have GW987:=gW hg;have GE987:=gW hg;have NB962_987:=nL hg BK962;have NB987_962:=nG hg BK962;have NB970_987:=nL hg BK970;have NB987_970:=nG hg BK970;have NB977_987:=nL hg BK977;have NB987_977:=nG hg BK977;replace HO_971001:=rbl HO_971001 hb;replace HO975:=rbl HO975 hb;replace HO984:=rbl HO984 hb;replace BK962:=bb BK962 hb;replace BK970:=bb BK970 hb;replace BK977:=bb BK977 hb;replace HB:=bS hb;clear hb hbox hg;have hnb41:=NB987_962.out;have hnc41:=NB962_987.out;have hnb42:=NB987_970.out;have hnc42:=NB970_987.out;have hnb43:=NB987_977.out;have hnc43:=NB977_987.out;obtain ⟨hcz44_0,hcz44_1,hcz44_2,hfz44_0,hfz44_1,hfz44_2⟩:=cEc BK987.out;obtain ⟨Ao45,co45,eo45⟩:=Kd.Zm HO984.out;subst eo45;obtain ⟨hcz46_0,hcz46_1,hcz46_2,hfz46_0,hfz46_1,hfz46_2⟩:=cEc BK970.out)|(refine gL (some 52) Tryz.func27 #[.agg #[.bool t964,.slice Ao13 t965.length co13,.int .i64 t968],.agg #[.bool t981,.slice Ao45 t982.length co45,.int .i64 t985]] (h:=?_);(with_reducible refine (Zau.calls kj4 t964 _ _ t965 t968 t981 _ _ t982 t985 t988 t989 t992 t993 _ ?side1 ?side2 ?side3 ?side4 A23.out).mono ?_);(case side1=>refine (Kd.Zd (e:=85) (base:=w.heap.size) (ok:=fun k_=>some k_ ≠ (.slice Ao45 t982.length co45:Value).ownBlock) (n:=t965.length) (c:=co13) ?_).2.2;exact (Kd.Za (z3 HO_971001.out BK987.out (by decide) (.bool t981) (.slice Ao45 t982.length co45) (.int .i64 t985)) pl));(case side2=>exact (Kd.Zd HO_971001.out).2.1);(case side3=>refine (Kd.Zd (e:=85) (base:=w.heap.size) (ok:=fun k_=>some k_ ≠ (.slice Ao13 t965.length co13:Value).ownBlock) (n:=t982.length) (c:=co45) ?_).2.2;exact (Kd.Za (z3 HO984.out BK987.out (by decide) (.bool t981) (.slice Ao45 t982.length co45) (.int .i64 t985)) pl));(case side4=>exact (Kd.Zd HO984.out).2.1);rintro e w47 ⟨v990,rfl,ho0,hb⟩;refine ⟨_,rfl,?_⟩;have HO991:=am (Kd.Zq (Kd.Zv (Kd.Zv ho0 (Kd.R_lt (Kd.Za (z3 HO_971001.out BK987.out (by decide) (.bool t981) (.slice Ao45 t982.length co45) (.int .i64 t985)) pl))) (Kd.R_lt (Kd.Za (z3 HO984.out BK987.out (by decide) (.bool t981) (.slice Ao45 t982.length co45) (.int .i64 t985)) pl))) (Zb pB));replace HO_971001:=am (Kd.Zco (Kd.Za (z3 HO_971001.out BK987.out (by decide) (.bool t981) (.slice Ao45 t982.length co45) (.int .i64 t985)) pl) (Kd.Zat ho0) hb);replace HO975:=am (Kd.Za (Kd.Za (z3 HO975.out BK987.out (by decide) (.bool t981) (.slice Ao45 t982.length co45) (.int .i64 t985)) pl) hb);replace HO984:=am (Kd.Zco (Kd.Za (z3 HO984.out BK987.out (by decide) (.bool t981) (.slice Ao45 t982.length co45) (.int .i64 t985)) pl) (Kd.Zat ho0) hb);replace BK962:=bfb NB962_987 BK962 hb;replace BK970:=bfb NB970_987 BK970 hb;replace BK977:=bfb NB977_987 BK977 hb;replace BK987:=am (Zc (g:=gb987) (o:=.cells #[.bool t981,.slice Ao45 t982.length co45,.int .i64 t985] 24 (0,0)) (by exact p3 BK987) hb);replace HB:=bS hb)|((with_reducible refine gd 8 ?_);(try (refine Zas (by rfl) ?_;dsimp only));refine bx 8 #[.bool false,.slice none 0 0,.int .i64 0] 24 (h:=?_);intro gb994 hg w48 hbox hb;have BK994:=am hbox;have GW994:=gW hg;have GE994:=gW hg;have NB962_994:=nL hg BK962;have NB994_962:=nG hg BK962;have NB970_994:=nL hg BK970;have NB994_970:=nG hg BK970;have NB977_994:=nL hg BK977;have NB994_977:=nG hg BK977;have NB987_994:=nL hg BK987;have NB994_987:=nG hg BK987;replace HO_971001:=rbl HO_971001 hb;replace HO975:=rbl HO975 hb;replace HO984:=rbl HO984 hb;replace HO991:=rbl HO991 hb;replace BK962:=bb BK962 hb;replace BK970:=bb BK970 hb;replace BK977:=bb BK977 hb;replace BK987:=bb BK987 hb;replace HB:=bS hb;clear hb hbox hg;have hnb49:=NB994_962.out;have hnc49:=NB962_994.out;have hnb50:=NB994_970.out;have hnc50:=NB970_994.out;have hnb51:=NB994_977.out;have hnc51:=NB977_994.out;have hnb52:=NB994_987.out;have hnc52:=NB987_994.out;obtain ⟨hcz53_0,hcz53_1,hcz53_2,hfz53_0,hfz53_1,hfz53_2⟩:=cEc BK994.out;obtain ⟨Ao54,co54,eo54⟩:=Kd.Zm HO991.out;subst eo54;obtain ⟨hcz55_0,hcz55_1,hcz55_2,hfz55_0,hfz55_1,hfz55_2⟩:=cEc BK970.out)|(refine gL (some 58) Tryz.func17 #[.agg #[.bool t964,.slice Ao13 t965.length co13,.int .i64 t968],.agg #[.bool t964,.slice Ao13 t965.length co13,.int .i64 t968]] (h:=?_);(with_reducible refine (Zab.calls kj4 t964 _ _ t965 t968 t964 _ _ t965 t968 t995 t996 t999 t1000 _ ?side1 ?side2 ?side3 ?side4 A24.out).mono ?_);(case side1=>refine (Kd.Zd (e:=85) (base:=w.heap.size) (ok:=fun k_=>(some k_ ≠ (.slice Ao45 t982.length co45:Value).ownBlock/\some k_ ≠ (.slice Ao54 t989.length co54:Value).ownBlock)) (n:=t965.length) (c:=co13) ?_).2.2;exact (Kd.Za (z3 HO_971001.out BK994.out (by decide) (.bool t988) (.slice Ao54 t989.length co54) (.int .i64 t992)) pl));(case side2=>exact (Kd.Zd HO_971001.out).2.1);(case side3=>refine (Kd.Zd (e:=85) (base:=w.heap.size) (ok:=fun k_=>(some k_ ≠ (.slice Ao45 t982.length co45:Value).ownBlock/\some k_ ≠ (.slice Ao54 t989.length co54:Value).ownBlock)) (n:=t965.length) (c:=co13) ?_).2.2;exact (Kd.Za (z3 HO_971001.out BK994.out (by decide) (.bool t988) (.slice Ao54 t989.length co54) (.int .i64 t992)) pl));(case side4=>exact (Kd.Zd HO_971001.out).2.1);rintro e w56 ⟨v997,rfl,ho0,hb⟩;refine ⟨_,rfl,?_⟩;have HO998:=am (Kd.Zq (Kd.Zv (Kd.Zv (Kd.Zv ho0 (Kd.R_lt (Kd.Za (z3 HO_971001.out BK994.out (by decide) (.bool t988) (.slice Ao54 t989.length co54) (.int .i64 t992)) pl))) (Kd.R_lt (Kd.Za (z3 HO984.out BK994.out (by decide) (.bool t988) (.slice Ao54 t989.length co54) (.int .i64 t992)) pl))) (Kd.R_lt (Kd.Za (z3 HO991.out BK994.out (by decide) (.bool t988) (.slice Ao54 t989.length co54) (.int .i64 t992)) pl))) (Zb pB));replace HO_971001:=am (Kd.Zco (Kd.Za (z3 HO_971001.out BK994.out (by decide) (.bool t988) (.slice Ao54 t989.length co54) (.int .i64 t992)) pl) (Kd.Zat ho0) hb);replace HO975:=am (Kd.Za (Kd.Za (z3 HO975.out BK994.out (by decide) (.bool t988) (.slice Ao54 t989.length co54) (.int .i64 t992)) pl) hb);replace HO984:=am (Kd.Zco (Kd.Za (z3 HO984.out BK994.out (by decide) (.bool t988) (.slice Ao54 t989.length co54) (.int .i64 t992)) pl) (Kd.Zat ho0) hb);replace HO991:=am (Kd.Zco (Kd.Za (z3 HO991.out BK994.out (by decide) (.bool t988) (.slice Ao54 t989.length co54) (.int .i64 t992)) pl) (Kd.Zat ho0) hb);replace BK962:=bfb NB962_994 BK962 hb;replace BK970:=bfb NB970_994 BK970 hb;replace BK977:=bfb NB977_994 BK977 hb;replace BK987:=bfb NB987_994 BK987 hb;replace BK994:=am (Zc (g:=gb994) (o:=.cells #[.bool t988,.slice Ao54 t989.length co54,.int .i64 t992] 24 (0,0)) (by exact p3 BK994) hb);replace HB:=bS hb)|((with_reducible refine gd 10 ?_);(try (refine Zas (by rfl) ?_;dsimp only));refine bx 10 #[.bool false,.slice none 0 0,.int .i64 0] 24 (h:=?_);intro gb1001 hg w57 hbox hb;have BK1001:=am hbox;have GW1001:=gW hg;have GE1001:=gW hg;have NB962_1001:=nL hg BK962;have NB1001_962:=nG hg BK962;have NB970_1001:=nL hg BK970;have NB1001_970:=nG hg BK970;have NB977_1001:=nL hg BK977;have NB1001_977:=nG hg BK977;have NB987_1001:=nL hg BK987;have NB1001_987:=nG hg BK987;have NB994_1001:=nL hg BK994;have NB1001_994:=nG hg BK994;replace HO_971001:=rbl HO_971001 hb;replace HO975:=rbl HO975 hb;replace HO984:=rbl HO984 hb;replace HO991:=rbl HO991 hb;replace HO998:=rbl HO998 hb;replace BK962:=bb BK962 hb;replace BK970:=bb BK970 hb;replace BK977:=bb BK977 hb;replace BK987:=bb BK987 hb;replace BK994:=bb BK994 hb;replace HB:=bS hb;clear hb hbox hg;have hnb58:=NB1001_962.out;have hnc58:=NB962_1001.out;have hnb59:=NB1001_970.out;have hnc59:=NB970_1001.out;have hnb60:=NB1001_977.out;have hnc60:=NB977_1001.out;have hnb61:=NB1001_987.out;have hnc61:=NB987_1001.out;have hnb62:=NB1001_994.out;have hnc62:=NB994_1001.out;obtain ⟨hcz63_0,hcz63_1,hcz63_2,hfz63_0,hfz63_1,hfz63_2⟩:=cEc BK1001.out;obtain ⟨Ao64,co64,eo64⟩:=Kd.Zm HO998.out;subst eo64;obtain ⟨hcz65_0,hcz65_1,hcz65_2,hfz65_0,hfz65_1,hfz65_2⟩:=cEc BK994.out)|(refine gL (some 64) Tryz.func17 #[.agg #[.bool t988,.slice Ao54 t989.length co54,.int .i64 t992],.agg #[.bool t988,.slice Ao54 t989.length co54,.int .i64 t992]] (h:=?_);(with_reducible refine (Zab.calls kj4 t988 _ _ t989 t992 t988 _ _ t989 t992 t1002 t1003 t1006 t1007 _ ?side1 ?side2 ?side3 ?side4 A25.out).mono ?_);(case side1=>refine (Kd.Zd (e:=85) (base:=w.heap.size) (ok:=fun k_=>(((True/\some k_ ≠ (.slice Ao13 t965.length co13:Value).ownBlock)/\some k_ ≠ (.slice Ao45 t982.length co45:Value).ownBlock)/\some k_ ≠ (.slice Ao64 t996.length co64:Value).ownBlock)) (n:=t989.length) (c:=co54) ?_).2.2;exact (Kd.Za (z3 HO991.out BK1001.out (by decide) (.bool t995) (.slice Ao64 t996.length co64) (.int .i64 t999)) pl));(case side2=>exact (Kd.Zd HO991.out).2.1);(case side3=>refine (Kd.Zd (e:=85) (base:=w.heap.size) (ok:=fun k_=>(((True/\some k_ ≠ (.slice Ao13 t965.length co13:Value).ownBlock)/\some k_ ≠ (.slice Ao45 t982.length co45:Value).ownBlock)/\some k_ ≠ (.slice Ao64 t996.length co64:Value).ownBlock)) (n:=t989.length) (c:=co54) ?_).2.2;exact (Kd.Za (z3 HO991.out BK1001.out (by decide) (.bool t995) (.slice Ao64 t996.length co64) (.int .i64 t999)) pl));(case side4=>exact (Kd.Zd HO991.out).2.1);rintro e w66 ⟨v1004,rfl,ho0,hb⟩;refine ⟨_,rfl,?_⟩;have HO1005:=am (Kd.Zq (Kd.Zv (Kd.Zv (Kd.Zv (Kd.Zv ho0 (Kd.R_lt (Kd.Za (z3 HO_971001.out BK1001.out (by decide) (.bool t995) (.slice Ao64 t996.length co64) (.int .i64 t999)) pl))) (Kd.R_lt (Kd.Za (z3 HO984.out BK1001.out (by decide) (.bool t995) (.slice Ao64 t996.length co64) (.int .i64 t999)) pl))) (Kd.R_lt (Kd.Za (z3 HO991.out BK1001.out (by decide) (.bool t995) (.slice Ao64 t996.length co64) (.int .i64 t999)) pl))) (Kd.R_lt (Kd.Za (z3 HO998.out BK1001.out (by decide) (.bool t995) (.slice Ao64 t996.length co64) (.int .i64 t999)) pl))) (Zb pB));replace HO_971001:=am (Kd.Zco (Kd.Za (z3 HO_971001.out BK1001.out (by decide) (.bool t995) (.slice Ao64 t996.length co64) (.int .i64 t999)) pl) (Kd.Zat ho0) hb);replace HO975:=am (Kd.Za (Kd.Za (z3 HO975.out BK1001.out (by decide) (.bool t995) (.slice Ao64 t996.length co64) (.int .i64 t999)) pl) hb);replace HO984:=am (Kd.Zco (Kd.Za (z3 HO984.out BK1001.out (by decide) (.bool t995) (.slice Ao64 t996.length co64) (.int .i64 t999)) pl) (Kd.Zat ho0) hb);replace HO991:=am (Kd.Zco (Kd.Za (z3 HO991.out BK1001.out (by decide) (.bool t995) (.slice Ao64 t996.length co64) (.int .i64 t999)) pl) (Kd.Zat ho0) hb);replace HO998:=am (Kd.Zco (Kd.Za (z3 HO998.out BK1001.out (by decide) (.bool t995) (.slice Ao64 t996.length co64) (.int .i64 t999)) pl) (Kd.Zat ho0) hb);replace BK962:=bfb NB962_1001 BK962 hb;replace BK970:=bfb NB970_1001 BK970 hb;replace BK977:=bfb NB977_1001 BK977 hb;replace BK987:=bfb NB987_1001 BK987 hb;replace BK994:=bfb NB994_1001 BK994 hb;replace BK1001:=am (Zc (g:=gb1001) (o:=.cells #[.bool t995,.slice Ao64 t996.length co64,.int .i64 t999] 24 (0,0)) (by exact p3 BK1001) hb);replace HB:=bS hb)|((with_reducible refine gd 12 ?_);(try (refine Zas (by rfl) ?_;dsimp only));refine bx 12 #[.bool false,.slice none 0 0,.int .i64 0] 24 (h:=?_);intro gb1008 hg w67 hbox hb;have BK1008:=am hbox;have GW1008:=gW hg;have GE1008:=gW hg;have NB962_1008:=nL hg BK962;have NB1008_962:=nG hg BK962;have NB970_1008:=nL hg BK970;have NB1008_970:=nG hg BK970;have NB977_1008:=nL hg BK977;have NB1008_977:=nG hg BK977;have NB987_1008:=nL hg BK987;have NB1008_987:=nG hg BK987;have NB994_1008:=nL hg BK994;have NB1008_994:=nG hg BK994;have NB1001_1008:=nL hg BK1001;have NB1008_1001:=nG hg BK1001;replace HO_971001:=rbl HO_971001 hb;replace HO975:=rbl HO975 hb;replace HO984:=rbl HO984 hb;replace HO991:=rbl HO991 hb;replace HO998:=rbl HO998 hb;replace HO1005:=rbl HO1005 hb;replace BK962:=bb BK962 hb;replace BK970:=bb BK970 hb;replace BK977:=bb BK977 hb;replace BK987:=bb BK987 hb;replace BK994:=bb BK994 hb;replace BK1001:=bb BK1001 hb;replace HB:=bS hb;clear hb hbox hg;have hnb68:=NB1008_962.out;have hnc68:=NB962_1008.out;have hnb69:=NB1008_970.out;have hnc69:=NB970_1008.out;have hnb70:=NB1008_977.out;have hnc70:=NB977_1008.out;have hnb71:=NB1008_987.out;have hnc71:=NB987_1008.out;have hnb72:=NB1008_994.out;have hnc72:=NB994_1008.out;have hnb73:=NB1008_1001.out;have hnc73:=NB1001_1008.out;obtain ⟨hcz74_0,hcz74_1,hcz74_2,hfz74_0,hfz74_1,hfz74_2⟩:=cEc BK1008.out;obtain ⟨Ao75,co75,eo75⟩:=Kd.Zm HO1005.out;subst eo75))
     (try simp only [Act.put,List.setIfInBounds_toArray,List.set_cons_zero,List.set_cons_succ])
     go_cut [80] (fun v80 wc => ∃ (kq:Nat) (x80_25:Bool),v80=.bool x80_25/\Aside0 (Zk.j1 kq x80_25 a0_0 l0_1 a0_2 t972 t973 t976 t995 t996 t999 t1002 t1003 t1006=some r)/\Aside0 (kq<=kj4)/\Aside0 (Kd.R (Kd.int .u32) 85 wc w.heap.size (fun k_=>some k_ ≠ ((.slice Ao45 t982.length co45):Value).ownBlock/\some k_ ≠ ((.slice Ao54 t989.length co54):Value).ownBlock/\some k_ ≠ ((.slice Ao64 t996.length co64):Value).ownBlock/\some k_ ≠ ((.slice Ao75 t1003.length co75):Value).ownBlock) (.slice Ao13 t965.length co13) t965)/\Aside0 (Kd.R (Kd.int .i64) 3 wc w.heap.size (fun _=>True) (.slice Ao34 t973.length co34) t973)/\Aside0 (Kd.R (Kd.int .u32) 85 wc w.heap.size (fun k_=>some k_ ≠ ((.slice Ao13 t965.length co13):Value).ownBlock/\some k_ ≠ ((.slice Ao54 t989.length co54):Value).ownBlock/\some k_ ≠ ((.slice Ao64 t996.length co64):Value).ownBlock/\some k_ ≠ ((.slice Ao75 t1003.length co75):Value).ownBlock) (.slice Ao45 t982.length co45) t982)/\Aside0 (Kd.R (Kd.int .u32) 85 wc w.heap.size (fun k_=>some k_ ≠ ((.slice Ao13 t965.length co13):Value).ownBlock/\some k_ ≠ ((.slice Ao45 t982.length co45):Value).ownBlock/\some k_ ≠ ((.slice Ao64 t996.length co64):Value).ownBlock/\some k_ ≠ ((.slice Ao75 t1003.length co75):Value).ownBlock) (.slice Ao54 t989.length co54) t989)/\Aside0 (Kd.R (Kd.int .u32) 85 wc w.heap.size (fun k_=>some k_ ≠ ((.slice Ao13 t965.length co13):Value).ownBlock/\some k_ ≠ ((.slice Ao45 t982.length co45):Value).ownBlock/\some k_ ≠ ((.slice Ao54 t989.length co54):Value).ownBlock/\some k_ ≠ ((.slice Ao75 t1003.length co75):Value).ownBlock) (.slice Ao64 t996.length co64) t996)/\Aside0 (Kd.R (Kd.int .u32) 85 wc w.heap.size (fun k_=>some k_ ≠ ((.slice Ao13 t965.length co13):Value).ownBlock/\some k_ ≠ ((.slice Ao45 t982.length co45):Value).ownBlock/\some k_ ≠ ((.slice Ao54 t989.length co54):Value).ownBlock/\some k_ ≠ ((.slice Ao64 t996.length co64):Value).ownBlock) (.slice Ao75 t1003.length co75) t1003)/\Aside0 (wc.heap[gb962]? = some (.cells #[.bool a0_0,(.slice A0_1 l0_1.length c0_1),.int .i64 a0_2] 24 (0,0)))/\Aside0 (wc.heap[gb970]? = some (.cells #[.bool t964,(.slice Ao13 t965.length co13),.int .i64 t968] 24 (0,0)))/\Aside0 (wc.heap[gb977]? = some (.cells #[.bool t972,(.slice Ao34 t973.length co34),.int .i64 t976] 30 (0,0)))/\Aside0 (wc.heap[gb987]? = some (.cells #[.bool t981,(.slice Ao45 t982.length co45),.int .i64 t985] 24 (0,0)))/\Aside0 (wc.heap[gb994]? = some (.cells #[.bool t988,(.slice Ao54 t989.length co54),.int .i64 t992] 24 (0,0)))/\Aside0 (wc.heap[gb1001]? = some (.cells #[.bool t995,(.slice Ao64 t996.length co64),.int .i64 t999] 24 (0,0)))/\Aside0 (wc.heap[gb1008]? = some (.cells #[.bool t1002,(.slice Ao75 t1003.length co75),.int .i64 t1006] 24 (0,0)))/\Aside0 (Below w.heap.size w wc))
     case first =>
      have H:=HC26.out
      clear HC26
      by_cases c76:t986=0
      ·rw [if_pos c76] at H
       have c76b0:(t986 == 0)=true:=beq_iff_eq.mpr c76
       have c76b1:(t986 != 0)=false:=bne_eq_false_iff_eq.mpr c76
       clear c76
       (first|rw [c76b0]|(simp only [Zcc,Zdc];rw [c76b0])|skip)
       by_cases c77:t993=0
       ·rw [if_pos c77] at H
        have c77b0:(t993 == 0)=true:=beq_iff_eq.mpr c77
        have c77b1:(t993 != 0)=false:=bne_eq_false_iff_eq.mpr c77
        clear c77
        by_cases c78:t1000=0
        ·rw [if_pos c78] at H
         have c78b0:(t1000 == 0)=true:=beq_iff_eq.mpr c78
         have c78b1:(t1000 != 0)=false:=bne_eq_false_iff_eq.mpr c78
         clear c78
         have H':=am H
         clear H
         go_wp2
         go_meet
         case rel=>exact ⟨_,((t1007 != 0)),pR,H',⟨by have := HJ4.out;first|omega|exact Nat.le_refl _⟩,⟨by refine rp ?_;exact Kd.Zi (Kd.Zn (p:=⟨gb1008,2,none⟩) (Kd.Zn (p:=⟨gb1008,1,none⟩) (Kd.Zn (p:=⟨gb1008,0,none⟩) (Kd.Zu HO_971001.out BK1008.out (by decide)) (fun _ hk=>hk.2) (.bool t1002)) (fun _ hk=>hk.2) (.slice Ao75 t1003.length co75)) (fun _ hk=>hk.2) (.int .i64 t1006)) (fun _ hk=>⟨hk.1.1.1.1,⟨hk.1.1.1.2,⟨hk.1.1.2,hk.1.2⟩⟩⟩)⟩,⟨by refine rp ?_;exact Kd.Zi (Kd.Zn (p:=⟨gb1008,2,none⟩) (Kd.Zn (p:=⟨gb1008,1,none⟩) (Kd.Zn (p:=⟨gb1008,0,none⟩) (Kd.Zu HO975.out BK1008.out (by decide)) (fun _ hk=>hk.2) (.bool t1002)) (fun _ hk=>hk.2) (.slice Ao75 t1003.length co75)) (fun _ hk=>hk.2) (.int .i64 t1006)) (fun _ hk=>trivial)⟩,⟨by refine rp ?_;exact Kd.Zi (Kd.Zn (p:=⟨gb1008,2,none⟩) (Kd.Zn (p:=⟨gb1008,1,none⟩) (Kd.Zn (p:=⟨gb1008,0,none⟩) (Kd.Zu HO984.out BK1008.out (by decide)) (fun _ hk=>hk.2) (.bool t1002)) (fun _ hk=>hk.2) (.slice Ao75 t1003.length co75)) (fun _ hk=>hk.2) (.int .i64 t1006)) (fun _ hk=>⟨hk.1.1.1.1,⟨hk.1.1.1.2,⟨hk.1.1.2,hk.1.2⟩⟩⟩)⟩,⟨by refine rp ?_;exact Kd.Zi (Kd.Zn (p:=⟨gb1008,2,none⟩) (Kd.Zn (p:=⟨gb1008,1,none⟩) (Kd.Zn (p:=⟨gb1008,0,none⟩) (Kd.Zu HO991.out BK1008.out (by decide)) (fun _ hk=>hk.2) (.bool t1002)) (fun _ hk=>hk.2) (.slice Ao75 t1003.length co75)) (fun _ hk=>hk.2) (.int .i64 t1006)) (fun _ hk=>⟨hk.1.1.1.1.2,⟨hk.1.1.1.2,⟨hk.1.1.2,hk.1.2⟩⟩⟩)⟩,⟨by refine rp ?_;exact Kd.Zi (Kd.Zn (p:=⟨gb1008,2,none⟩) (Kd.Zn (p:=⟨gb1008,1,none⟩) (Kd.Zn (p:=⟨gb1008,0,none⟩) (Kd.Zu HO998.out BK1008.out (by decide)) (fun _ hk=>hk.2) (.bool t1002)) (fun _ hk=>hk.2) (.slice Ao75 t1003.length co75)) (fun _ hk=>hk.2) (.int .i64 t1006)) (fun _ hk=>⟨hk.1.1.1.1.2,⟨hk.1.1.1.2,⟨hk.1.1.2,hk.1.2⟩⟩⟩)⟩,⟨by refine rp ?_;exact Kd.Zi (Kd.Zn (p:=⟨gb1008,2,none⟩) (Kd.Zn (p:=⟨gb1008,1,none⟩) (Kd.Zn (p:=⟨gb1008,0,none⟩) (Kd.Zu HO1005.out BK1008.out (by decide)) (fun _ hk=>hk.2) (.bool t1002)) (fun _ hk=>hk.2) (.slice Ao75 t1003.length co75)) (fun _ hk=>hk.2) (.int .i64 t1006)) (fun _ hk=>⟨hk.1.1.1.1.2,⟨hk.1.1.1.2,⟨hk.1.1.2,hk.1.2⟩⟩⟩)⟩,⟨bf NB962_1008.out BK962.out⟩,⟨bf NB970_1008.out BK970.out⟩,⟨bf NB977_1008.out BK977.out⟩,⟨bf NB987_1008.out BK987.out⟩,⟨bf NB994_1008.out BK994.out⟩,⟨bf NB1001_1008.out BK1001.out⟩,⟨by exact p3 BK1008⟩,⟨pB⟩⟩
        ·rw [if_neg c78] at H
         have c78b0:(t1000 == 0)=false:=beq_eq_false_iff_ne.mpr c78
         have c78b1:(t1000 != 0)=true:=bne_iff_ne.mpr c78
         have H':=am H
         clear H
         go_wp2
         go_meet
         case rel=>exact ⟨_,(true),pR,H',⟨by have := HJ4.out;first|omega|exact Nat.le_refl _⟩,⟨by refine rp ?_;exact Kd.Zi (Kd.Zn (p:=⟨gb1008,2,none⟩) (Kd.Zn (p:=⟨gb1008,1,none⟩) (Kd.Zn (p:=⟨gb1008,0,none⟩) (Kd.Zu HO_971001.out BK1008.out (by decide)) (fun _ hk=>hk.2) (.bool t1002)) (fun _ hk=>hk.2) (.slice Ao75 t1003.length co75)) (fun _ hk=>hk.2) (.int .i64 t1006)) (fun _ hk=>⟨hk.1.1.1.1,⟨hk.1.1.1.2,⟨hk.1.1.2,hk.1.2⟩⟩⟩)⟩,⟨by refine rp ?_;exact Kd.Zi (Kd.Zn (p:=⟨gb1008,2,none⟩) (Kd.Zn (p:=⟨gb1008,1,none⟩) (Kd.Zn (p:=⟨gb1008,0,none⟩) (Kd.Zu HO975.out BK1008.out (by decide)) (fun _ hk=>hk.2) (.bool t1002)) (fun _ hk=>hk.2) (.slice Ao75 t1003.length co75)) (fun _ hk=>hk.2) (.int .i64 t1006)) (fun _ hk=>trivial)⟩,⟨by refine rp ?_;exact Kd.Zi (Kd.Zn (p:=⟨gb1008,2,none⟩) (Kd.Zn (p:=⟨gb1008,1,none⟩) (Kd.Zn (p:=⟨gb1008,0,none⟩) (Kd.Zu HO984.out BK1008.out (by decide)) (fun _ hk=>hk.2) (.bool t1002)) (fun _ hk=>hk.2) (.slice Ao75 t1003.length co75)) (fun _ hk=>hk.2) (.int .i64 t1006)) (fun _ hk=>⟨hk.1.1.1.1,⟨hk.1.1.1.2,⟨hk.1.1.2,hk.1.2⟩⟩⟩)⟩,⟨by refine rp ?_;exact Kd.Zi (Kd.Zn (p:=⟨gb1008,2,none⟩) (Kd.Zn (p:=⟨gb1008,1,none⟩) (Kd.Zn (p:=⟨gb1008,0,none⟩) (Kd.Zu HO991.out BK1008.out (by decide)) (fun _ hk=>hk.2) (.bool t1002)) (fun _ hk=>hk.2) (.slice Ao75 t1003.length co75)) (fun _ hk=>hk.2) (.int .i64 t1006)) (fun _ hk=>⟨hk.1.1.1.1.2,⟨hk.1.1.1.2,⟨hk.1.1.2,hk.1.2⟩⟩⟩)⟩,⟨by refine rp ?_;exact Kd.Zi (Kd.Zn (p:=⟨gb1008,2,none⟩) (Kd.Zn (p:=⟨gb1008,1,none⟩) (Kd.Zn (p:=⟨gb1008,0,none⟩) (Kd.Zu HO998.out BK1008.out (by decide)) (fun _ hk=>hk.2) (.bool t1002)) (fun _ hk=>hk.2) (.slice Ao75 t1003.length co75)) (fun _ hk=>hk.2) (.int .i64 t1006)) (fun _ hk=>⟨hk.1.1.1.1.2,⟨hk.1.1.1.2,⟨hk.1.1.2,hk.1.2⟩⟩⟩)⟩,⟨by refine rp ?_;exact Kd.Zi (Kd.Zn (p:=⟨gb1008,2,none⟩) (Kd.Zn (p:=⟨gb1008,1,none⟩) (Kd.Zn (p:=⟨gb1008,0,none⟩) (Kd.Zu HO1005.out BK1008.out (by decide)) (fun _ hk=>hk.2) (.bool t1002)) (fun _ hk=>hk.2) (.slice Ao75 t1003.length co75)) (fun _ hk=>hk.2) (.int .i64 t1006)) (fun _ hk=>⟨hk.1.1.1.1.2,⟨hk.1.1.1.2,⟨hk.1.1.2,hk.1.2⟩⟩⟩)⟩,⟨bf NB962_1008.out BK962.out⟩,⟨bf NB970_1008.out BK970.out⟩,⟨bf NB977_1008.out BK977.out⟩,⟨bf NB987_1008.out BK987.out⟩,⟨bf NB994_1008.out BK994.out⟩,⟨bf NB1001_1008.out BK1001.out⟩,⟨by exact p3 BK1008⟩,⟨pB⟩⟩
       ·rw [if_neg c77] at H
        have c77b0:(t993 == 0)=false:=beq_eq_false_iff_ne.mpr c77
        have c77b1:(t993 != 0)=true:=bne_iff_ne.mpr c77
        have H':=am H
        clear H
        go_wp2
        go_meet
        case rel=>exact ⟨_,(true),pR,H',⟨by have := HJ4.out;first|omega|exact Nat.le_refl _⟩,⟨by refine rp ?_;exact Kd.Zi (Kd.Zn (p:=⟨gb1008,2,none⟩) (Kd.Zn (p:=⟨gb1008,1,none⟩) (Kd.Zn (p:=⟨gb1008,0,none⟩) (Kd.Zu HO_971001.out BK1008.out (by decide)) (fun _ hk=>hk.2) (.bool t1002)) (fun _ hk=>hk.2) (.slice Ao75 t1003.length co75)) (fun _ hk=>hk.2) (.int .i64 t1006)) (fun _ hk=>⟨hk.1.1.1.1,⟨hk.1.1.1.2,⟨hk.1.1.2,hk.1.2⟩⟩⟩)⟩,⟨by refine rp ?_;exact Kd.Zi (Kd.Zn (p:=⟨gb1008,2,none⟩) (Kd.Zn (p:=⟨gb1008,1,none⟩) (Kd.Zn (p:=⟨gb1008,0,none⟩) (Kd.Zu HO975.out BK1008.out (by decide)) (fun _ hk=>hk.2) (.bool t1002)) (fun _ hk=>hk.2) (.slice Ao75 t1003.length co75)) (fun _ hk=>hk.2) (.int .i64 t1006)) (fun _ hk=>trivial)⟩,⟨by refine rp ?_;exact Kd.Zi (Kd.Zn (p:=⟨gb1008,2,none⟩) (Kd.Zn (p:=⟨gb1008,1,none⟩) (Kd.Zn (p:=⟨gb1008,0,none⟩) (Kd.Zu HO984.out BK1008.out (by decide)) (fun _ hk=>hk.2) (.bool t1002)) (fun _ hk=>hk.2) (.slice Ao75 t1003.length co75)) (fun _ hk=>hk.2) (.int .i64 t1006)) (fun _ hk=>⟨hk.1.1.1.1,⟨hk.1.1.1.2,⟨hk.1.1.2,hk.1.2⟩⟩⟩)⟩,⟨by refine rp ?_;exact Kd.Zi (Kd.Zn (p:=⟨gb1008,2,none⟩) (Kd.Zn (p:=⟨gb1008,1,none⟩) (Kd.Zn (p:=⟨gb1008,0,none⟩) (Kd.Zu HO991.out BK1008.out (by decide)) (fun _ hk=>hk.2) (.bool t1002)) (fun _ hk=>hk.2) (.slice Ao75 t1003.length co75)) (fun _ hk=>hk.2) (.int .i64 t1006)) (fun _ hk=>⟨hk.1.1.1.1.2,⟨hk.1.1.1.2,⟨hk.1.1.2,hk.1.2⟩⟩⟩)⟩,⟨by refine rp ?_;exact Kd.Zi (Kd.Zn (p:=⟨gb1008,2,none⟩) (Kd.Zn (p:=⟨gb1008,1,none⟩) (Kd.Zn (p:=⟨gb1008,0,none⟩) (Kd.Zu HO998.out BK1008.out (by decide)) (fun _ hk=>hk.2) (.bool t1002)) (fun _ hk=>hk.2) (.slice Ao75 t1003.length co75)) (fun _ hk=>hk.2) (.int .i64 t1006)) (fun _ hk=>⟨hk.1.1.1.1.2,⟨hk.1.1.1.2,⟨hk.1.1.2,hk.1.2⟩⟩⟩)⟩,⟨by refine rp ?_;exact Kd.Zi (Kd.Zn (p:=⟨gb1008,2,none⟩) (Kd.Zn (p:=⟨gb1008,1,none⟩) (Kd.Zn (p:=⟨gb1008,0,none⟩) (Kd.Zu HO1005.out BK1008.out (by decide)) (fun _ hk=>hk.2) (.bool t1002)) (fun _ hk=>hk.2) (.slice Ao75 t1003.length co75)) (fun _ hk=>hk.2) (.int .i64 t1006)) (fun _ hk=>⟨hk.1.1.1.1.2,⟨hk.1.1.1.2,⟨hk.1.1.2,hk.1.2⟩⟩⟩)⟩,⟨bf NB962_1008.out BK962.out⟩,⟨bf NB970_1008.out BK970.out⟩,⟨bf NB977_1008.out BK977.out⟩,⟨bf NB987_1008.out BK987.out⟩,⟨bf NB994_1008.out BK994.out⟩,⟨bf NB1001_1008.out BK1001.out⟩,⟨by exact p3 BK1008⟩,⟨pB⟩⟩
      ·rw [if_neg c76] at H
       have c76b0:(t986 == 0)=false:=beq_eq_false_iff_ne.mpr c76
       have c76b1:(t986 != 0)=true:=bne_iff_ne.mpr c76
       (first|rw [c76b0]|(simp only [Zcc,Zdc];rw [c76b0])|skip)
       have H':=am H
       clear H
       go_wp2
       go_meet
       case rel=>exact ⟨_,(true),pR,H',⟨by have := HJ4.out;first|omega|exact Nat.le_refl _⟩,⟨by refine rp ?_;exact Kd.Zi (Kd.Zn (p:=⟨gb1008,2,none⟩) (Kd.Zn (p:=⟨gb1008,1,none⟩) (Kd.Zn (p:=⟨gb1008,0,none⟩) (Kd.Zu HO_971001.out BK1008.out (by decide)) (fun _ hk=>hk.2) (.bool t1002)) (fun _ hk=>hk.2) (.slice Ao75 t1003.length co75)) (fun _ hk=>hk.2) (.int .i64 t1006)) (fun _ hk=>⟨hk.1.1.1.1,⟨hk.1.1.1.2,⟨hk.1.1.2,hk.1.2⟩⟩⟩)⟩,⟨by refine rp ?_;exact Kd.Zi (Kd.Zn (p:=⟨gb1008,2,none⟩) (Kd.Zn (p:=⟨gb1008,1,none⟩) (Kd.Zn (p:=⟨gb1008,0,none⟩) (Kd.Zu HO975.out BK1008.out (by decide)) (fun _ hk=>hk.2) (.bool t1002)) (fun _ hk=>hk.2) (.slice Ao75 t1003.length co75)) (fun _ hk=>hk.2) (.int .i64 t1006)) (fun _ hk=>trivial)⟩,⟨by refine rp ?_;exact Kd.Zi (Kd.Zn (p:=⟨gb1008,2,none⟩) (Kd.Zn (p:=⟨gb1008,1,none⟩) (Kd.Zn (p:=⟨gb1008,0,none⟩) (Kd.Zu HO984.out BK1008.out (by decide)) (fun _ hk=>hk.2) (.bool t1002)) (fun _ hk=>hk.2) (.slice Ao75 t1003.length co75)) (fun _ hk=>hk.2) (.int .i64 t1006)) (fun _ hk=>⟨hk.1.1.1.1,⟨hk.1.1.1.2,⟨hk.1.1.2,hk.1.2⟩⟩⟩)⟩,⟨by refine rp ?_;exact Kd.Zi (Kd.Zn (p:=⟨gb1008,2,none⟩) (Kd.Zn (p:=⟨gb1008,1,none⟩) (Kd.Zn (p:=⟨gb1008,0,none⟩) (Kd.Zu HO991.out BK1008.out (by decide)) (fun _ hk=>hk.2) (.bool t1002)) (fun _ hk=>hk.2) (.slice Ao75 t1003.length co75)) (fun _ hk=>hk.2) (.int .i64 t1006)) (fun _ hk=>⟨hk.1.1.1.1.2,⟨hk.1.1.1.2,⟨hk.1.1.2,hk.1.2⟩⟩⟩)⟩,⟨by refine rp ?_;exact Kd.Zi (Kd.Zn (p:=⟨gb1008,2,none⟩) (Kd.Zn (p:=⟨gb1008,1,none⟩) (Kd.Zn (p:=⟨gb1008,0,none⟩) (Kd.Zu HO998.out BK1008.out (by decide)) (fun _ hk=>hk.2) (.bool t1002)) (fun _ hk=>hk.2) (.slice Ao75 t1003.length co75)) (fun _ hk=>hk.2) (.int .i64 t1006)) (fun _ hk=>⟨hk.1.1.1.1.2,⟨hk.1.1.1.2,⟨hk.1.1.2,hk.1.2⟩⟩⟩)⟩,⟨by refine rp ?_;exact Kd.Zi (Kd.Zn (p:=⟨gb1008,2,none⟩) (Kd.Zn (p:=⟨gb1008,1,none⟩) (Kd.Zn (p:=⟨gb1008,0,none⟩) (Kd.Zu HO1005.out BK1008.out (by decide)) (fun _ hk=>hk.2) (.bool t1002)) (fun _ hk=>hk.2) (.slice Ao75 t1003.length co75)) (fun _ hk=>hk.2) (.int .i64 t1006)) (fun _ hk=>⟨hk.1.1.1.1.2,⟨hk.1.1.1.2,⟨hk.1.1.2,hk.1.2⟩⟩⟩)⟩,⟨bf NB962_1008.out BK962.out⟩,⟨bf NB970_1008.out BK970.out⟩,⟨bf NB977_1008.out BK977.out⟩,⟨bf NB987_1008.out BK987.out⟩,⟨bf NB994_1008.out BK994.out⟩,⟨bf NB1001_1008.out BK1001.out⟩,⟨by exact p3 BK1008⟩,⟨pB⟩⟩
     case rest =>
      clear HC26
      obtain ⟨kq,x80_25,rfl,HA,HJ25,HO_971001,HO_978001,HO_988001,HO_995001,HO_1002001,HO_1009001,BK962,BK970,BK977,BK987,BK994,BK1001,BK1008,HB⟩:=hcut
      cases kq with
      | zero=>exact absurd HA.out (by simp [Zk.j1])
      | succ kj25 =>
       have H:=HA.out
       clear HA
       simp only [Zk.j1] at H
       by_cases c79:x80_25=true
       ·subst c79
        rw [if_pos rfl] at H
        obtain rfl:=Option.some.inj H
        have hnb80:=NB977_962.out
        have hnc80:=NB962_977.out
        have hnb81:=NB977_970.out
        have hnc81:=NB970_977.out
        have hnb82:=NB977_987.out
        have hnc82:=NB987_977.out
        have hnb83:=NB977_994.out
        have hnc83:=NB994_977.out
        have hnb84:=NB977_1001.out
        have hnc84:=NB1001_977.out
        have hnb85:=NB977_1008.out
        have hnc85:=NB1008_977.out
        obtain ⟨hcz86_0,hcz86_1,hcz86_2,hfz86_0,hfz86_1,hfz86_2⟩:=cEc BK977.out
        go_wp2
        go_ret
        exact ⟨pE,pB⟩
       ·replace c79:=Bool.eq_false_iff.mpr c79
        subst c79
        rw [if_neg (show ¬ (false=true) by decide)] at H
        by_cases c87:(t973.length:Int)<=40
        ·rw [if_pos c87] at H
         have c87b0:decide ((t973.length:Int)<=40)=true:=decide_eq_true c87
         have c87b1:decide (t973.length<=40)=true:=decide_eq_true (by omega)
         clear c87
         obtain ⟨t1009,A88,H⟩:=ob H
         by_cases c89:t1009<=0
         ·rw [if_pos c89] at H
          have c89b0:decide (t1009<=0)=true:=decide_eq_true c89
          clear c89
          obtain ⟨t1010,A90,H⟩:=ob H
          obtain rfl:=Option.some.inj H
          have hnb91:=NB977_962.out
          have hnc91:=NB962_977.out
          have hnb92:=NB977_970.out
          have hnc92:=NB970_977.out
          have hnb93:=NB977_987.out
          have hnc93:=NB987_977.out
          have hnb94:=NB977_994.out
          have hnc94:=NB994_977.out
          have hnb95:=NB977_1001.out
          have hnc95:=NB1001_977.out
          have hnb96:=NB977_1008.out
          have hnc96:=NB1008_977.out
          obtain ⟨hcz97_0,hcz97_1,hcz97_2,hfz97_0,hfz97_1,hfz97_2⟩:=cEc BK977.out
          have hnb98:=NB1001_962.out
          have hnc98:=NB962_1001.out
          have hnb99:=NB1001_970.out
          have hnc99:=NB970_1001.out
          have hnb100:=NB1001_987.out
          have hnc100:=NB987_1001.out
          have hnb101:=NB1001_994.out
          have hnc101:=NB994_1001.out
          have hnb102:=NB1001_1008.out
          have hnc102:=NB1008_1001.out
          obtain ⟨hcz103_0,hcz103_1,hcz103_2,hfz103_0,hfz103_1,hfz103_2⟩:=cEc BK1001.out
          have hnb104:=NB962_970.out
          have hnc104:=NB970_962.out
          have hnb105:=NB962_987.out
          have hnc105:=NB987_962.out
          have hnb106:=NB962_994.out
          have hnc106:=NB994_962.out
          have hnb107:=NB962_1008.out
          have hnc107:=NB1008_962.out
          obtain ⟨hcz108_0,hcz108_1,hcz108_2,hfz108_0,hfz108_1,hfz108_2⟩:=cEc BK962.out
          go_wp2_with (first|(go_at_call 25;(with_reducible refine (Zb3.calls kj25 t995 _ _ t996 t999 a0_0 _ _ l0_1 a0_2 t1009 _ ?side1 ?side2 ?side3 ?side4 A88.out).mono ?_);(case side1=>exact Kd.Zh (Kd.Zd HO_1002001.out).2.2 pl);(case side2=>exact (Kd.Zd HO_1002001.out).2.1);(case side3=>refine cp ?_;exact (Kd.Zh HR0_1.out HB.out));(case side4=>exact HC0_1.out);rintro e w109 ⟨rfl,hb⟩;replace HO_971001:=rbl HO_971001 hb;replace HO_978001:=rbl HO_978001 hb;replace HO_988001:=rbl HO_988001 hb;replace HO_995001:=rbl HO_995001 hb;replace HO_1002001:=rbl HO_1002001 hb;replace HO_1009001:=rbl HO_1009001 hb;replace BK962:=bb BK962 hb;replace BK970:=bb BK970 hb;replace BK977:=bb BK977 hb;replace BK987:=bb BK987 hb;replace BK994:=bb BK994 hb;replace BK1001:=bb BK1001 hb;replace BK1008:=bb BK1008 hb;replace HB:=bS hb;have hnb110:=NB1008_970.out;have hnc110:=NB970_1008.out;have hnb111:=NB1008_987.out;have hnc111:=NB987_1008.out;have hnb112:=NB1008_994.out;have hnc112:=NB994_1008.out;obtain ⟨hcz113_0,hcz113_1,hcz113_2,hfz113_0,hfz113_1,hfz113_2⟩:=cEc BK1008.out;obtain ⟨hcz114_0,hcz114_1,hcz114_2,hfz114_0,hfz114_1,hfz114_2⟩:=cEc BK962.out)|(go_at_call 25;(with_reducible refine (Zb3.calls kj25 t1002 _ _ t1003 t1006 a0_0 _ _ l0_1 a0_2 t1010 _ ?side1 ?side2 ?side3 ?side4 A90.out).mono ?_);(case side1=>exact Kd.Zh (Kd.Zd HO_1009001.out).2.2 pl);(case side2=>exact (Kd.Zd HO_1009001.out).2.1);(case side3=>refine cp ?_;exact (Kd.Zh HR0_1.out HB.out));(case side4=>exact HC0_1.out);rintro e w115 ⟨rfl,hb⟩;replace HO_971001:=rbl HO_971001 hb;replace HO_978001:=rbl HO_978001 hb;replace HO_988001:=rbl HO_988001 hb;replace HO_995001:=rbl HO_995001 hb;replace HO_1002001:=rbl HO_1002001 hb;replace HO_1009001:=rbl HO_1009001 hb;replace BK962:=bb BK962 hb;replace BK970:=bb BK970 hb;replace BK977:=bb BK977 hb;replace BK987:=bb BK987 hb;replace BK994:=bb BK994 hb;replace BK1001:=bb BK1001 hb;replace BK1008:=bb BK1008 hb;replace HB:=bS hb))
          go_ret
          exact ⟨pE,pB⟩
         ·rw [if_neg c89] at H
          have c89b0:decide (t1009<=0)=false:=decide_eq_false c89
          clear c89
          exact absurd ((Option.some.inj H).trans hr) Bool.false_ne_true
        ·rw [if_neg c87] at H
         have c87b0:decide ((t973.length:Int)<=40)=false:=decide_eq_false c87
         have c87b1:decide (t973.length<=40)=false:=decide_eq_false (by omega)
         clear c87
         exact absurd ((Option.some.inj H).trans hr) Bool.false_ne_true
 ·replace c3:=Bool.eq_false_iff.mpr c3
  subst c3
  rw [if_neg (show ¬ (false=true) by decide)] at H
  exact absurd ((Option.some.inj H).trans hr) Bool.false_ne_true
end YtjbjkmccfocikaaGreatDoor.B
end
section
namespace YtjbjkmccfocikaaGreatDoor.P.Nm
open Go.RowKit YtjbjkmccfocikaaGreatDoorW.PrintWords YtjbjkmccfocikaaGreatDoor.B YtjbjkmccfocikaaGreatDoor.P
theorem Zob (n:Nat) (h:n < 10) (h0:n ≠ 0):([(n:Int)]:List Int)=digs n:=by
 rw [Zdp h0,Nat.mod_eq_of_lt h,Nat.div_eq_of_lt h];rfl
theorem Zpx {n:Nat}:((limbs n).length:Int)=0 ↔ n=0:=by
 constructor
 ·intro h
  exact Zjx (List.eq_nil_of_length_eq_zero (by omega))
 ·intro h;rw [h];rfl
theorem Zhd {a:Bool} {l:List Int} {e:Int} (hl:RawD l):Tells (fun k=>Zk.f k a l e) true:=by
 unfold Zk.f Zbe.f
 refine alive03.bind (Tells.ifp rfl ?_)
 have done:∀ {x1:Bool} {y1:List Int} {z1:Int} {p1:Bool} {p3:Int},Tells (fun k=>Zk.j0 k true x1 y1 z1 p1 [] p3) true:=by
  intros
  refine Tells.succ ?_
  simp only [Zk.j0]
  exact Tells.ifp trivial (Tells.pure _)
 have bad:∀ {x:Int},x ≠ 0->Tells (fun k=>Zbg.f k a l e) (false,[],0,x)->Tells (fun k=>(Zbg.f k a l e).bind fun bt=>(some bt.2.2.2).bind fun t=>if t=0 then Zk.j0 k ((bt.2.1.length:Int) == 0) a l e bt.1 bt.2.1 bt.2.2.1 else Zk.j0 k true a l e bt.1 bt.2.1 bt.2.2.1) true:=fun hx hd =>
  hd.bind ((Tells.pure _).bind (Tells.ifn hx done))
 by_cases h:chk a l e=0
 ·obtain ⟨D,hD,rfl,rfl,rfl⟩:=Zs3 hl.dg h
  cases hpos:D.neg
  case true =>
   have := Znm hD hpos
   rw [hpos] at this bad
   exact bad (by decide) this
  case false =>
  have hdv:=QSqrt hD hpos
  obtain ⟨r,x,hq⟩:∃ q x,sqrtD D=(q,x):=⟨_,_,rfl⟩
  have oq:OkD r:=by have := Zdh (rootD D);unfold sqrtD at hq;rw [hq] at this;exact this
  have hlen:nd r.n<=40:=by have := Zqk D;rw [hq] at this;exact this
  rw [hpos] at hdv bad
  by_cases hx:x=0
  ·subst hx
   rw [hq] at hdv
   refine hdv.bind ((Tells.pure _).bind (Tells.ifp rfl ?_))
   show Tells (fun k=>Zk.j0 k (((limbs r.n).length:Int) == 0) false (limbs D.n) D.e r.neg (limbs r.n) r.e) true
   by_cases hz:r.n=0
   ·rw [hz,show (((limbs 0).length:Int) == 0)=true from rfl]
    exact done
   ·rw [show (((limbs r.n).length:Int) == 0)=false from beq_eq_false_iff_ne.2 (fun h=>hz (Zpx.1 h))]
    have l3:=oq.low;have g3:=oq.high
    have ew:wrap64 (r.e - (wrap64 (40 - ((digs r.n).length:Int))))=r.e - (40 - (nd r.n:Int)):=by
     have:((digs r.n).length:Int)=(nd r.n:Int):=rfl
     rw [this,w64n (z:=40 - (nd r.n:Int)) (by omega) (by omega),w64n (by omega) (by omega)]
    obtain ⟨o,xo,ho⟩:∃ p x,settleD ⟨false,1,r.e - (40 - (nd r.n:Int))⟩=(p,x):=⟨_,_,rfl⟩
    have oo:OkD o:=by have := Zdh ⟨false,1,r.e - (40 - (nd r.n:Int))⟩;rw [ho] at this;exact this
    obtain ⟨nx,xn,hn⟩:∃ p x,addD r o=(p,x):=⟨_,_,rfl⟩
    have on:OkD nx:=by have := Zdh (plusD r o);unfold addD at hn;rw [hn] at this;exact this
    obtain ⟨y,xy,hy⟩:∃ p x,timesD nx nx=(p,x):=⟨_,_,rfl⟩
    have oy:OkD y:=by have := Zdh (mulD nx nx);unfold timesD at hy;rw [hy] at this;exact this
    obtain ⟨s,xs,hs⟩:∃ p x,timesD r r=(p,x):=⟨_,_,rfl⟩
    have os:OkD s:=by have := Zdh (mulD r r);unfold timesD at hs;rw [hs] at this;exact this
    have t3:=Made false 1 (r.e - (40 - (nd r.n:Int))) (by decide) (by omega) (by omega)
    rw [ho,<- Zob 1 (by omega) (by omega)] at t3
    have t4:=RAdd r o oq oo
    rw [hn] at t4
    have t5:=RMul r r oq oq
    rw [hs] at t5
    have t6:=RMul nx nx on on
    rw [hy] at t6
    have fin40:∀ {b1 b2:Bool} {l2:List Int} {e2 e3:Int} {b3:Bool} {l3:List Int} {e4:Int} {b4:Bool} {l4:List Int} {e5:Int},Tells (fun k=>Zk.j1 k true b1 l2 e2 b2 (digs r.n) e3 b3 l3 e4 b4 l4 e5) true:=by
     intros
     refine Tells.succ ?_
     simp only [Zk.j1]
     refine Tells.ifp trivial ((Tells.pure _).val (decide_eq_true ?_))
     show (nd r.n:Int)<=40
     omega
    refine Tells.succ ?_
    simp only [Zk.j0]
    refine Tells.ifn (by decide) ((ROf r (by omega)).bind ?_)
    dsimp only
    rw [ew]
    refine t3.bind (t4.bind (t5.bind (t6.bind ?_)))
    by_cases h1:xo=0
    ·subst h1
     refine Tells.ifp rfl ?_
     by_cases h2:xn=0
     ·subst h2
      refine Tells.ifp rfl ?_
      by_cases h3:xs=0
      ·subst h3
       refine Tells.ifp rfl ?_
       show Tells (fun k=>Zk.j1 k (xy != 0) false (limbs D.n) D.e r.neg (digs r.n) r.e s.neg (limbs s.n) s.e y.neg (limbs y.n) y.e) true
       by_cases h4:xy=0
       ·subst h4
        have c40:((digs r.n).length:Int)<=40:=by show (nd r.n:Int)<=40;omega
        refine Tells.succ ?_
        simp only [Zk.j1]
        have o1:=Rorder os hD
        have o2:=Rorder oy hD
        rw [hpos] at o1 o2
        refine Tells.ifn (by decide) (Tells.ifp c40 (o1.bind (Tells.ifp (Zql hD hpos hq hz hs) (o2.bind ((Tells.pure _).val (decide_eq_true (Zpi hD hpos hq hz ho hn hy)))))))
       ·rw [show (xy != 0)=true from bne_iff_ne.2 h4]
        exact fin40
      ·exact Tells.ifn h3 fin40
     ·exact Tells.ifn h2 fin40
    ·exact Tells.ifn h1 fin40
  ·have hqz:r=zeroD:=by
    have := Zm7 (a:=rootD D)
    unfold sqrtD at hq
    rw [hq] at this
    exact this hx
   rw [hq,hqz] at hdv
   exact bad hx hdv
 ·exact bad (by decide) (Znl hl.dg hl.len h)
end YtjbjkmccfocikaaGreatDoor.P.Nm
end
section
namespace YtjbjkmccfocikaaGreatDoor.R
open Go.ChangeShapes Go.WideShapes Go.ChangeAt Go.RowKit Go.Joins YtjbjkmccfocikaaGreatDoorW.PrintWords YtjbjkmccfocikaaGreatDoor.P.Nm
theorem laidOut:laidOutB Tryz.prog=true:=by kernel_rfl
theorem cellsD:Tryz.prog.cellsOf 24=3:=by kernel_rfl
theorem cellsU:Tryz.prog.cellsOf 85=1:=by kernel_rfl
theorem wf32 {n:Int} (h:(Lit.int .u32 n).wf=true):0<=n/\n < 4294967296:=by
 have e1:IntKind.u32.min=0:=by decide
 have e2:IntKind.u32.max=4294967295:=by decide
 simp only [Lit.wf,e1,e2,Bool.and_eq_true,decide_eq_true_eq] at h
 omega
theorem Zm2 {H:Type} {enc:TypeId × Value->H} {W:World} {v:Value} {fuel:Nat} {x:DataW H × List MemPlace}
  (hf:DataW.trod enc Tryz.prog W 0 (fun _=>true) true fuel 22 [v]=some x) :
  ∃ (A:Option Addr) (c:Nat) (l:List Int),v=.slice A l.length c/\l.length<=c/\Kd.C (Kd.int .u32) W A l.length l/\RawD l/\((x.1=.nil/\l=[]) \/ ∃ spare,x.1=.slice (lits .u32 l) spare):=by
 rcases open_ints Tryz.underlying22 Tryz.underlying85 cellsU hf with ⟨hcs,hx⟩|⟨a,len,cap,zs,hcs,_,hl,hm,hz,hx,hcell,hwf⟩
 ·simp at hcs
  subst hcs hx
  exact ⟨none,0,[],rfl,Nat.le_refl _,Kd.Zgg (enc:=Value.int .u32) (d:=0) ⟨rfl,by simp,fun h=>absurd h (by simp)⟩,RawD.nil,.inl ⟨rfl,rfl⟩⟩
 ·simp at hcs
  subst hcs hx
  simp only [if_true] at hz
  have hlen:(zs.take len).length=len:=by simp;omega
  refine ⟨some a,cap,zs.take len,by rw [hlen],by omega,Kd.Zgg (enc:=Value.int .u32) (d:=0) ⟨rfl,by unfold maxLen at hm;simp;omega,fun _=>⟨a,rfl,fun j hj=>?_⟩⟩,⟨fun y hy=>wf32 (hwf y (List.mem_of_mem_take hy)),by unfold maxLen at hm;omega⟩,.inr ⟨_,rfl⟩⟩
  have hj':j < len:=by simp at hj;omega
  rw [hcell j (by omega)]
  simp [List.getD,List.getElem?_take_of_lt hj']
theorem bytesU:Tryz.prog.bytesOf 85=4:=by kernel_rfl
theorem Zkx {H:Type} {x:DataW H} {l:List Int} (h:(x=.nil/\l=[]) \/ ∃ spare,x=.slice (lits .u32 l) spare) (hw:(x.weights Tryz.prog 22).all (· <= reachBytes)=true):l.length<=35184372087808:=by
 rcases h with ⟨rfl,rfl⟩|⟨sp,rfl⟩
 ·simp
 ·have := List.all_eq_true.1 hw (((lits .u32 l:List (DataW H)).length + sp.length) * Tryz.prog.bytesOf 85) (by simp [DataW.weights,Tryz.underlying22])
  rw [bytesU] at this
  have hl:(lits .u32 l:List (DataW H)).length=l.length:=by simp [lits]
  rw [hl] at this
  have hb:reachBytes=140737488351232:=by decide
  rw [decide_eq_true_eq,hb] at this
  omega
theorem Zqc {H:Type} {enc:TypeId × Value->H} {W:World} {base:Nat} {v:Value} {d:DataW H} {p:List MemPlace} (hv:Value.okWide Tryz.prog W .any base 24 v)
  (h:DataW.Trod enc Tryz.prog W 0 (fun _=>true) true 24 v d p) :
  ∃ (n:Bool) (A:Option Addr) (c:Nat) (l:List Int) (e:Int),v=.agg #[.bool n,.slice A l.length c,.int .i64 e]/\l.length<=c/\Kd.C (Kd.int .u32) W A l.length l/\RawD l/\(Lit.int .i64 e).wf=true /\
   ((d.weights Tryz.prog 24).all (· <= reachBytes)=true->l.length<=35184372087808):=by
 obtain ⟨c0,c1,c2,y0,y1,y2,m,rfl,rfl,rfl,hy0,hy1,hy2⟩:=open_agg3 Tryz.underlying24 (by kernel_rfl) cellsD hv h
 obtain ⟨n,e0,_⟩:=DataW.trod_bool Tryz.underlying4 hy0
 obtain ⟨A,c,l,e1,h1,h2,h3,h4⟩:=Zm2 hy1
 obtain ⟨e,e2,_,we⟩:=DataW.trod_int Tryz.underlying3 hy2
 simp at e0 e2
 subst e0 e1 e2
 refine ⟨n,A,c,l,e,rfl,h1,h2,h3,we,fun hw=>Zkx h4 (List.all_eq_true.2 fun z hz=>List.all_eq_true.1 hw z ?_)⟩
 simp only [DataW.weights,Tryz.underlying24,List.map_cons,List.map_nil,DataW.weightsEach,List.mem_append]
 exact .inr (.inl hz)
end YtjbjkmccfocikaaGreatDoor.R
end
section
namespace YtjbjkmccfocikaaGreatDoor.R.quotRoots
open Go.ChangeShapes Go.WideShapes Go.ChangeAt Go.RowKit
open Go.ChangeMaps (open_string shut_string)
theorem reads (os:Os) {H:Type} (enc:TypeId × Value->H):∃ places,DataW.whole enc Tryz.prog ((laidWorld os).forCall (fun _ _=>0) ⟨#[],#[Value.agg #[.bool false,.slice none 0 0,.int .i64 0]],[]⟩).memory Tryz.f5.params.toList Rows.quotRootsSpec.vars false (#[Value.agg #[.bool false,.slice none 0 0,.int .i64 0]]:Array Value).toList 8=some ([.agg [.lit (.bool false),.nil,.lit (.int .i64 0)]],[],places) :=
 ⟨[],by kernel_rfl⟩
theorem contract (H:Type) (enc:TypeId × Value->H) (W:World) (base:Nat) (args:Array Value) (ds gs:List (DataW H)) (before:List MemPlace)
  (hval:∀ (j:Nat) t v,Tryz.f5.params[j]? = some t->args[j]? = some v->Value.okWide Tryz.prog W .any base t v)
  (hW:DataW.Whole enc Tryz.prog Tryz.f5.params.toList Rows.quotRootsSpec.vars false W args.toList ds gs before) (hk:(DataW.weightsEach Tryz.prog (Tryz.f5.params.toList ++ (OpenSpec.ofChange Rows.quotRootsSpec).bare.plain.varTypes Tryz.prog) (ds ++ gs)).all (· <= reachBytes)=true) (hL:laidMetH Tryz.prog laidL W) (hsh:W.ShapedOpen Tryz.prog) :
  Calls Tryz.prog 5 args W fun e W' => ∃ v,e=.returned v/\Rows.quotRootsSpec.post enc Tryz.prog Tryz.f5 false true false false W args v W':=by
 have hG:=glob hL hsh
 have hW':=hW
 obtain ⟨p,q,hA0,hV,rfl,hfz,hnd⟩:=hW
 have hA:DataW.TrodAll enc Tryz.prog W 0 (fun _=>true) true Tryz.f5.params.toList args.toList ds p:=hA0
 rw [Tryz.params5] at hA hval hk
 obtain ⟨v0,vs0,d0,ds0,p0,q0,hargs,rfl,rfl,h0,r0⟩:=trodAll_cons hA
 obtain ⟨rfl,rfl,rfl⟩:=trodAll_nil r0
 obtain rfl:args=#[v0]:=by cases args;simp_all
 obtain ⟨rfl,rfl⟩:=trodVars_none hV
 have h0k:=h0
 obtain ⟨n0,A0,c0,l0,e0,rfl,hc0,hC0,hR0,we0,hs0⟩:=Zqc (hval 0 24 v0 rfl rfl) h0
 simp only [List.append_nil] at hW'
 have hlt:∀ x ∈ p0,x.block < W.heap.size:=fun x hx=>hW'.lt x (by simpa using hx)
 clear hA0 hA hk hL
 obtain ⟨k,hp⟩:=(P.Nm.Zhd hR0).ex
 refine (B.Zk.calls k n0 A0 c0 l0 e0 true W hC0 hc0 hp rfl).mono fun e W' ⟨he,bel⟩=>?_
 subst he
 exact ⟨_,rfl,_,_,_,[],_,[],hW',trodAll_mk1 (shut_bool Tryz.underlying4 _),(trodAll_cons_mk (Below.trod laidOut (by kernel_rfl) (of_decide_eq_true (by kernel_rfl)) h0k bel (fun x hx=>hlt x (by simp [hx]))) trodAll_mk0),rfl,bel.frame _,fun h=>by cases h⟩
theorem lifted (os:Os) (started:os.Started) (H:Type) (enc:TypeId × Value->H) (F:Stop.Interp) :
  ReturnsInHanded {} Tryz.checked os 5 .any ((OpenSpec.ofChange Rows.quotRootsSpec).preRow enc Tryz.prog Tryz.f5 Rows.quotRootsRow.domain false Rows.quotRootsRow.laid) (((OpenSpec.ofChange Rows.quotRootsSpec).at F).post enc Tryz.prog Tryz.f5 false true false false):=by
 obtain ⟨places,hx⟩:=reads os enc
 refine returnsInHanded_of_row (C:=Tryz.checked) (s:=OpenSpec.ofChange Rows.quotRootsSpec) own started (by kernel_rfl) Tryz.func5
  (witness_row_at (enc:=enc) (C:=Tryz.checked) false (laidWorld os) #[Value.agg #[.bool false,.slice none 0 0,.int .i64 0]] rfl (by kernel_rfl) (by kernel_rfl) (by kernel_rfl)
   (OpenSpec.preRow_of_cond 8 hx (by kernel_rfl) (fun k hk=>by cases hk) (by kernel_rfl) (Zp5 os _))) ?_
 intro W base args ds gs before hval hW _ _ hk hL hsh _
 exact contract H enc W base args ds gs before hval hW hk hL hsh
theorem said : Rows.QuotRootsSaid :=
 OpenClaim.holds_of_cond 5 Tryz.f5 rfl rfl rfl rfl rfl rfl rfl ⟨rfl,rfl,rfl,rfl,rfl⟩ rfl rfl rfl rfl rfl (by kernel_rfl) Tryz.func5 (by kernel_rfl)
  (of_decide_eq_true (by kernel_rfl)) (by unfold Func.isWrapper;first|(rw [if_pos (by decide +kernel)];kernel_rfl)|(rw [if_neg (by decide +kernel)];exact ⟨rfl,rfl⟩))
  (fun os started H enc _ F=>by rw [OpenClaim.pre_eq_preRow];exact lifted os started H enc F)
theorem plain (f : FuncId) (fn : Func) (hf : Tryz.pinned.checked.prog.funcNamed "bolter/bolterlaw03.QuotRoots" = some f) (hfn : Tryz.pinned.checked.prog.funcs[f]? = some fn) :
  false=Tryz.pinned.checked.prog.looks [] /\ ∀ (j:Nat) t,fn.params[j]? = some t->Tryz.pinned.checked.prog.wantsStandIn t=false:=by
 obtain rfl : f = 5 := Option.some.inj ((show Tryz.prog.funcNamed "bolter/bolterlaw03.QuotRoots" = some 5 by kernel_rfl).symm.trans hf) |>.symm
 obtain rfl:fn=Tryz.f5:=(Option.some.inj (Tryz.func5.symm.trans hfn)).symm
 refine ⟨by kernel_rfl,fun j t ht=>?_⟩
 rw [Tryz.params5] at ht
 have hm:t ∈ (#[24]:Array TypeId):=Array.mem_of_getElem? ht
 have hall:∀ t ∈ [24],Tryz.prog.wantsStandIn t=false:=by
  intro t h
  simp only [List.mem_cons,List.mem_nil_iff,or_false] at h
  rcases h with rfl <;> kernel_rfl
 exact hall t (by simpa using hm)
theorem card : Rows.QuotRootsCardSaid :=
 Claim7.holds_tied_plain_at .later [] _ _ _ _ said (fun _ h=>by cases h) (by kernel_rfl) (fun _ h=>by cases h) quotRoots_row_tie rfl ⟨rfl,rfl⟩ (by kernel_rfl) rfl plain (by kernel_rfl)
#print axioms card
end YtjbjkmccfocikaaGreatDoor.R.quotRoots
end
end Go.Proofs
