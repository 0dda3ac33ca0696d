/- QuotHalf, part 5 of 7 of its proof (no condition); names with a low line are shortened throughout. -/
import Derived.Test.YtjbjkmccfocikaaGreatDoorZQuotHalf3
import Derived.WalkKit
import Derived.Lib.Hide
import Derived.Outline
import Derived.Deep.DeepFit
import Derived.Laws.Rows
import Derived.Lib.TrimByte
import Derived.Shelf.Strings.MapAny
import Derived.Shelf.Strings.SlTrimAscii
set_option linter.unusedVariables false
set_option linter.unusedSimpArgs false
set_option maxRecDepth 100000
set_option maxHeartbeats 8000000
namespace Go.Proofs
section
namespace YtjbjkmccfocikaaGreatDoor.B
open Go.RowKit YtjbjkmccfocikaaGreatDoorW.PrintWords YtjbjkmccfocikaaGreatDoorW.PrintLast YtjbjkmccfocikaaGreatDoorW.PrintMore
attribute [local go_sem] Zb5 Zb7 Zcs Zct Zbn Zbo Zb6 Zb8
def Zaw.f (k:Nat) (a0_0:Bool) (l0_1:List Int) (a0_2:Int) (a1_0:Bool) (l1_1:List Int) (a1_2:Int):Option (Bool × List Int × Int × Int):=(Za2.f k a0_0 l0_1 a0_2 a1_0 l1_1 a1_2).bind fun t806=>(if t806=0 then ((Zn.f k a0_0 l0_1 a0_2).bind fun bt807=>((Zn.f k a1_0 l1_1 a1_2).bind fun bt812=>((Za6.f bt812.1 bt812.2.1 bt812.2.2).bind fun bt817=>((Zaf.f k bt807.1 bt807.2.1 bt807.2.2 bt817.1 bt817.2.1 bt817.2.2).bind fun bt822=>((Zm.f k bt822.1 bt822.2.1 bt822.2.2).bind fun bt827=>(some (bt827.1,bt827.2.1,bt827.2.2.1,bt827.2.2.2))))))) else (some (false,([]:List Int),0,9)))
def Zaw.T3:Bool × List (List Nat × List Nat):=(true,[([],[]),([0],[0]),([],[]),([2,1],[2]),([3,3],[3]),([1,4,4],[1,4]),([5,5],[5]),([6],[6]),([6],[6]),([7,6,0,1,2,3,4,5,6,7,8],[7]),([8,9,0,1,2,3,4,5,6,7,8,9],[8])])
def Zaw.B3:List Nat:=[0,1,0,7,15,31,63,127,127,511,1023]
theorem Zaw.tab3:rtab .any (opsOf Tryz.f22 3)=Zaw.T3:=by kernel_rfl
theorem Zaw.bits3:waitsOk Zaw.T3.2 Zaw.B3=true:=by kernel_rfl
theorem Zaw.leaf {P:Prop} (h:P:=by
 go_enter Tryz.func22,Tryz.ntmps22
 try go_wp2_with (first|((with_reducible refine gd 2 ?_);refine bx 2 #[.bool a0_0,.slice A0_1 l0_1.length c0_1,.int .i64 a0_2] 24 (h:=?_);intro gb0z hg w1z hbox hb;have BK2z:=am hbox;have GW3z:=gW hg;replace HB:=bS hb;clear hb hbox hg)|((with_reducible refine gd 3 ?_);refine bx 3 #[.bool a1_0,.slice A1_1 l1_1.length c1_1,.int .i64 a1_2] 24 (h:=?_);intro gb5z hg w6z hbox hb;have BK7z:=am hbox;have GW8z:=gW hg;have NB10z:=nL hg BK2z;have NB11z:=nG hg BK2z;replace BK2z:=bb BK2z hb;replace HB:=bS hb;clear hb hbox hg)|((with_reducible refine gd 4 ?_);refine bx 4 #[.bool false,.slice none 0 0,.int .i64 0] 24 (h:=?_);intro gb12z hg w13z hbox hb;have BK14z:=am hbox;have GW15z:=gW hg;have NB17z:=nL hg BK2z;have NB18z:=nG hg BK2z;have NB19z:=nL hg BK7z;have NB20z:=nG hg BK7z;replace BK2z:=bb BK2z hb;replace BK7z:=bb BK7z hb;replace HB:=bS hb;clear hb hbox hg;have hnb21z:=NB10z.o;have hnc22z:=NB11z.o;have hnb23z:=NB17z.o;have hnc24z:=NB18z.o;obtain ⟨_,_,_,_,_,_⟩:=cEc BK2z.o;have hnb31z:=NB19z.o;have hnc32z:=NB20z.o;obtain ⟨_,_,_,_,_,_⟩:=cEc BK7z.o)|((have q_:=A9;clear q_);refine gL (some 8) Tryz.func64 #[.agg #[.bool a0_0,.slice A0_1 l0_1.length c0_1,.int .i64 a0_2],.agg #[.bool a1_0,.slice A1_1 l1_1.length c1_1,.int .i64 a1_2]] (h:=?_);(with_reducible refine (Za2.calls k a0_0 _ _ l0_1 a0_2 a1_0 _ _ l1_1 a1_2 t806 _ ?side1 ?side2 ?side3 ?side4 A3.o).mono ?_);(case side1=>exact cB HR0_1 HB);(case side2=>exact HC0_1.o);(case side3=>exact cB HR1_1 HB);(case side4=>exact HC1_1.o);rintro e w39z ⟨rfl,hb⟩;refine ⟨_,rfl,?_⟩;replace BK2z:=bb BK2z hb;replace BK7z:=bb BK7z hb;replace BK14z:=bb BK14z hb;replace HB:=bS hb)|((have q_:(t806 != 0)=true:=c4b1;clear q_);refine gL (some 8) Tryz.func64 #[.agg #[.bool a0_0,.slice A0_1 l0_1.length c0_1,.int .i64 a0_2],.agg #[.bool a1_0,.slice A1_1 l1_1.length c1_1,.int .i64 a1_2]] (h:=?_);(with_reducible refine (Za2.calls k a0_0 _ _ l0_1 a0_2 a1_0 _ _ l1_1 a1_2 t806 _ ?side1 ?side2 ?side3 ?side4 A3.o).mono ?_);(case side1=>exact cB HR0_1 HB);(case side2=>exact HC0_1.o);(case side3=>exact cB HR1_1 HB);(case side4=>exact HC1_1.o);rintro e w39z ⟨rfl,hb⟩;refine ⟨_,rfl,?_⟩;replace BK2z:=bb BK2z hb;replace BK7z:=bb BK7z hb;replace BK14z:=bb BK14z hb;replace HB:=bS hb;obtain ⟨_,_,_,_,_,_⟩:=cEc BK14z.o))
 first
  | have q_:=A9
    replace BK2z:=am (Zbb BK2z.o)
    replace BK7z:=am (Zbb BK7z.o)
    replace BK14z:=am (Zbb BK14z.o)
    replace HB:=am (Zaz HB.o)
    refine start_ (n:=11) (S:=fun w'=>w'.cell? ⟨gb0z,0,none⟩=some (.bool a0_0)/\w'.cell? ⟨gb0z,1,none⟩=some (.slice A0_1 l0_1.length c0_1)/\w'.cell? ⟨gb0z,2,none⟩=some (.int .i64 a0_2)/\w'.cell? ⟨gb5z,0,none⟩=some (.bool a1_0)/\w'.cell? ⟨gb5z,1,none⟩=some (.slice A1_1 l1_1.length c1_1)/\w'.cell? ⟨gb5z,2,none⟩=some (.int .i64 a1_2)) (ds:=[]) #[false,false,false,false,false,false,false,false,false,false,false] (by kernel_rfl) rfl rfl ⟨k0 BK2z 0,k0 BK2z 1,k0 BK2z 2,k0 BK7z 0,k0 BK7z 1,k0 BK7z 2⟩ (fun hHeld=>?_);refine Zcq Zaw.tab3 Zaw.bits3 (fun HT_ HW_=>?_)
    generalize w39z.drew=w40z at BK2z BK7z BK14z HB hHeld ⊢
    refine take_ (i:=0) (N:=some 11) (v:=?_) (a':=?_) #[true,false,false,false,false,false,false,false,false,false,false] rfl rfl (Zbi HT_.out HW_.out (by kernel_rfl)) (fun _ _ _ h=>h) (Or.inl ⟨by rfl,?_⟩) hHeld ?_ ?_
    rotate_left
    ·rintro w' ⟨s41z,s42z,s43z,s44z,s45z,s46z⟩
     go_simp
     with_reducible rfl
    rotate_left
    ·exact pP
    refine take_ (i:=2) (N:=some 13) (v:=?_) (a':=?_) #[true,false,true,false,false,false,false,false,false,false,false] rfl rfl (Zbi HT_.out HW_.out (by kernel_rfl)) (fun _ _ _ h=>h) (Or.inl ⟨by rfl,?_⟩) hHeld ?_ ?_
    rotate_left
    ·rintro w' ⟨s41z,s42z,s43z,s44z,s45z,s46z⟩
     go_simp
     with_reducible rfl
    rotate_left
    ·exact pP
    refine one_ (i:=1) (N:=some 12) #[true,true,true,false,false,false,false,false,false,false,false] rfl rfl (Zbw HT_.out (by kernel_rfl)) (by decide) (fun K hK=>?_)
    refine goes_ Tryz.func18 (by kernel_rfl) rfl #[.agg #[.bool a0_0,.slice A0_1 l0_1.length c0_1,.int .i64 a0_2]] (by rfl) rfl rfl pA ?_
    with_reducible refine (Zn.calls k a0_0 _ _ l0_1 a0_2 t807 t808 t811 _ ?side1 ?side2 A5.o).mono ?_
    (case side1=>exact cB HR0_1 HB)
    (case side2=>exact HC0_1.o)
    rintro e w47z ⟨v48z,rfl,ho49z,hb⟩
    refine ⟨_,rfl,?_⟩
    have HO50z:=am (Kd.Zq ho49z (Zb pB))
    replace BK2z:=bb BK2z hb
    replace BK7z:=bb BK7z hb
    replace BK14z:=bb BK14z hb
    replace HB:=bS hb
    refine hK.out _ _ ⟨k0 BK2z 0,k0 BK2z 1,k0 BK2z 2,k0 BK7z 0,k0 BK7z 1,k0 BK7z 2⟩ (fun hHeld=>?_)
    clear hK K
    refine norm_ (a':=?_) ?_ ?_
    rotate_left
    ·show Act.put _ (some 12) _=_
     exact pP
    refine one_ (i:=3) (N:=some 14) #[true,true,true,true,false,false,false,false,false,false,false] rfl rfl (Zbw HT_.out (by kernel_rfl)) (by decide) (fun K hK=>?_)
    refine goes_ Tryz.func18 (by kernel_rfl) rfl #[.agg #[.bool a1_0,.slice A1_1 l1_1.length c1_1,.int .i64 a1_2]] (by rfl) rfl rfl pA ?_
    with_reducible refine (Zn.calls k a1_0 _ _ l1_1 a1_2 t812 t813 t816 _ ?side1 ?side2 A6.o).mono ?_
    (case side1=>exact cB HR1_1 HB)
    (case side2=>exact HC1_1.o)
    rintro e w51z ⟨v52z,rfl,ho49z,hb⟩
    refine ⟨_,rfl,?_⟩
    have HO53z:=am (Kd.Zq (Kd.Zr ho49z (Kd.R_lt (Kd.Za HO50z.o pl))) (Zb pB))
    replace HO50z:=reR HO50z ho49z hb
    replace BK2z:=bb BK2z hb
    replace BK7z:=bb BK7z hb
    replace BK14z:=bb BK14z hb
    replace HB:=bS hb
    obtain ⟨Ao54z,co55z,eo56z⟩:=Kd.Zj HO53z.o
    (first|subst eo56z|(injection eo56z with f1_ f2_ f3_;have f4_:=f1_.symm;have f5_:=f3_.symm;clear f1_ f2_ f3_;subst f4_;subst f5_))
    refine hK.out _ _ ⟨k0 BK2z 0,k0 BK2z 1,k0 BK2z 2,k0 BK7z 0,k0 BK7z 1,k0 BK7z 2⟩ (fun hHeld=>?_)
    clear hK K
    refine norm_ (a':=?_) ?_ ?_
    rotate_left
    ·show Act.put _ (some 14) _=_
     exact pP
    refine one_ (i:=4) (N:=some 15) #[true,true,true,true,true,false,false,false,false,false,false] rfl rfl (Zbw HT_.out (by kernel_rfl)) (by decide) (fun K hK=>?_)
    refine goes_ Tryz.func78 (by kernel_rfl) rfl #[.agg #[.bool t812,.slice Ao54z t813.length co55z,.int .i64 t816]] (by rfl) rfl rfl pA ?_
    with_reducible refine (Za6.calls t812 (fun k_=>some k_=(.slice Ao54z t813.length co55z:Value).ownBlock) (.slice Ao54z t813.length co55z) t813 t816 t817 t818 t821 w _ ?side1 ?side2 A7.o).mono ?_
    (case side1=>exact pB)
    (case side2=>exact Kd.Zbl rfl HO53z.o)
    rintro e w57z ⟨v58z,rfl,ho49z,hb,hkp⟩
    refine ⟨_,rfl,?_⟩
    have HO59z:=am (Kd.Zi (ok':=fun k_=>some k_ ≠ (v48z:Value).ownBlock) ho49z (fun k_ hk_=>Or.elim hk_ (fun hs_=>fun e_=>(((HO50z.o).1 k_ e_.symm).2) hs_) (fun hn_=>(Kd.fresh' (Kd.R_lt (Kd.Za HO50z.o pl)) k_ hn_))))
    replace BK2z:=am (Zar (Zc BK2z.o pl) hkp (fun e_=>Kd.R_ne HO53z.o BK2z.o (by decide) e_))
    replace BK7z:=am (Zar (Zc BK7z.o pl) hkp (fun e_=>Kd.R_ne HO53z.o BK7z.o (by decide) e_))
    replace BK14z:=am (Zar (Zc BK14z.o pl) hkp (fun e_=>Kd.R_ne HO53z.o BK14z.o (by decide) e_))
    replace HO50z:=am (Kd.Zi (ok':=fun k_=>some k_ ≠ (v58z:Value).ownBlock) (Kd.Zcc (HO50z.o) hkp (fun k_ hk_ hs_=>(hk_.2) hs_)) (fun k_ hk_=>fun e_=>Or.elim (ho49z.1 k_ e_.symm) (fun hs_=>hk_.2.1 hs_) (fun hn_=>Nat.not_le.2 hk_.2.2 hn_)))
    replace HB:=am hb
    clear HO53z
    obtain ⟨Ao60z,co61z,eo62z⟩:=Kd.Zj HO50z.o
    (first|subst eo62z|(injection eo62z with f1_ f2_ f3_;have f4_:=f1_.symm;have f5_:=f3_.symm;clear f1_ f2_ f3_;subst f4_;subst f5_))
    obtain ⟨Ao63z,co64z,eo65z⟩:=Kd.Zj HO59z.o
    (first|subst eo65z|(injection eo65z with f1_ f2_ f3_;have f4_:=f1_.symm;have f5_:=f3_.symm;clear f1_ f2_ f3_;subst f4_;subst f5_))
    refine hK.out _ _ ⟨k0 BK2z 0,k0 BK2z 1,k0 BK2z 2,k0 BK7z 0,k0 BK7z 1,k0 BK7z 2⟩ (fun hHeld=>?_)
    clear hK K
    refine norm_ (a':=?_) ?_ ?_
    rotate_left
    ·show Act.put _ (some 15) _=_
     exact pP
    refine one_ (i:=5) (N:=some 16) #[true,true,true,true,true,true,false,false,false,false,false] rfl rfl (Zbw HT_.out (by kernel_rfl)) (by decide) (fun K hK=>?_)
    refine goes_ Tryz.func77 (by kernel_rfl) rfl #[.agg #[.bool t807,.slice Ao60z t808.length co61z,.int .i64 t811],.agg #[.bool t817,.slice Ao63z t818.length co64z,.int .i64 t821]] (by rfl) rfl rfl pA ?_
    with_reducible refine (Zaf.calls k t807 _ _ t808 t811 t817 _ _ t818 t821 t822 t823 t826 _ ?side1 ?side2 ?side3 ?side4 A8.o).mono ?_
    (case side1=>exact Kd.Zx (Kd.Zd HO50z.o).2.2 pl)
    (case side2=>exact (Kd.Zd HO50z.o).2.1)
    (case side3=>exact Kd.Zx (Kd.Zd HO59z.o).2.2 pl)
    (case side4=>exact (Kd.Zd HO59z.o).2.1)
    rintro e w66z ⟨v67z,rfl,ho49z,hb⟩
    refine ⟨_,rfl,?_⟩
    have HO68z:=am (Kd.Zq (Kd.Zr (Kd.Zr ho49z (Kd.R_lt (Kd.Za HO50z.o pl))) (Kd.R_lt (Kd.Za HO59z.o pl))) (Zb pB))
    replace HO50z:=reR HO50z ho49z hb
    replace HO59z:=reR HO59z ho49z hb
    replace BK2z:=bb BK2z hb
    replace BK7z:=bb BK7z hb
    replace BK14z:=bb BK14z hb
    replace HB:=bS hb
    obtain ⟨Ao69z,co70z,eo71z⟩:=Kd.Zj HO68z.o
    (first|subst eo71z|(injection eo71z with f1_ f2_ f3_;have f4_:=f1_.symm;have f5_:=f3_.symm;clear f1_ f2_ f3_;subst f4_;subst f5_))
    refine hK.out _ _ ⟨k0 BK2z 0,k0 BK2z 1,k0 BK2z 2,k0 BK7z 0,k0 BK7z 1,k0 BK7z 2⟩ (fun hHeld=>?_)
    clear hK K
    refine norm_ (a':=?_) ?_ ?_
    rotate_left
    ·show Act.put _ (some 16) _=_
     exact pP
    refine one_ (i:=6) (N:=some 17) #[true,true,true,true,true,true,true,false,false,false,false] rfl rfl (Zbw HT_.out (by kernel_rfl)) (by decide) (fun K hK=>?_)
    refine goes_ Tryz.func23 (by kernel_rfl) rfl #[.agg #[.bool t822,.slice Ao69z t823.length co70z,.int .i64 t826]] (by rfl) rfl rfl pA ?_
    with_reducible refine (Zm.calls k t822 (fun k_=>some k_=(.slice Ao69z t823.length co70z:Value).ownBlock) (.slice Ao69z t823.length co70z) t823 t826 t827 t828 t831 t832 w _ ?side1 ?side2 A9.o).mono ?_
    (case side1=>exact pB)
    (case side2=>exact Kd.Zbl rfl HO68z.o)
    rintro e w72z ⟨v73z,rfl,ho49z,hb,hkp⟩
    refine ⟨_,rfl,?_⟩
    have HO74z:=am (Kd.Zi (ok':=fun k_=>True) ho49z (fun k_ hk_=>trivial))
    replace BK2z:=am (Zar (Zc BK2z.o pl) hkp (fun e_=>Kd.R_ne HO68z.o BK2z.o (by decide) e_))
    replace BK7z:=am (Zar (Zc BK7z.o pl) hkp (fun e_=>Kd.R_ne HO68z.o BK7z.o (by decide) e_))
    replace BK14z:=am (Zar (Zc BK14z.o pl) hkp (fun e_=>Kd.R_ne HO68z.o BK14z.o (by decide) e_))
    replace HO50z:=am (Kd.Zi (ok':=fun k_=>some k_ ≠ (.slice Ao63z t818.length co64z:Value).ownBlock) (Kd.Zcc (HO50z.o) hkp (fun k_ hk_ hs_=>(hk_.2) hs_)) (fun k_ hk_=>hk_.1.1))
    replace HO59z:=am (Kd.Zi (ok':=fun k_=>some k_ ≠ (.slice Ao60z t808.length co61z:Value).ownBlock) (Kd.Zcc (HO59z.o) hkp (fun k_ hk_ hs_=>(hk_.2) hs_)) (fun k_ hk_=>hk_.1.1))
    replace HB:=am hb
    clear HO68z
    obtain ⟨Ao75z,co76z,eo77z⟩:=Kd.Zj HO74z.o
    (first|subst eo77z|(injection eo77z with f1_ f2_ f3_;have f4_:=f1_.symm;have f5_:=f3_.symm;clear f1_ f2_ f3_;subst f4_;subst f5_))
    refine hK.out _ _ ⟨k0 BK2z 0,k0 BK2z 1,k0 BK2z 2,k0 BK7z 0,k0 BK7z 1,k0 BK7z 2⟩ (fun hHeld=>?_)
    clear hK K
    refine norm_ (a':=?_) ?_ ?_
    rotate_left
    ·show Act.put _ (some 17) _=_
     exact pP
    refine pu 7 (some 18) #[true,true,true,true,true,true,true,true,false,false,false] (h:=?_)
    refine pu 8 (some 19) #[true,true,true,true,true,true,true,true,true,false,false] (h:=?_)
    refine one_ (i:=9) (N:=none) #[true,true,true,true,true,true,true,true,true,true,false] rfl rfl (Zbw HT_.out (by kernel_rfl)) (by decide) (fun K hK=>?_)
    have hs78z:w72z.cell? ⟨gb12z,0,none⟩=some (.bool false):=k0 BK14z 0
    have hfs79z:=Zau BK14z.o 0
    have hns80z:=NB17z.o
    have hns81z:=NB19z.o
    have hms82z:=NB18z.o
    have hms83z:=NB20z.o
    have hs84z:w72z.cell? ⟨gb12z,1,none⟩=some (.slice none 0 0):=k0 BK14z 1
    have hfs85z:=Zau BK14z.o 1
    have hns86z:=NB17z.o
    have hns87z:=NB19z.o
    have hms88z:=NB18z.o
    have hms89z:=NB20z.o
    have hs90z:w72z.cell? ⟨gb12z,2,none⟩=some (.int .i64 0):=k0 BK14z 2
    have hfs91z:=Zau BK14z.o 2
    have hns92z:=NB17z.o
    have hns93z:=NB19z.o
    have hms94z:=NB18z.o
    have hms95z:=NB20z.o
    refine skip_ (w1:=?_) (by rfl) rfl ?_ ?_
    rotate_left
    ·go_simp
     rfl
    refine hK.out _ _ ⟨((cell_far (p:=⟨gb12z,_,none⟩) NB17z.o _).trans (((cell_far (p:=⟨gb12z,_,none⟩) NB17z.o _).trans (((cell_far (p:=⟨gb12z,_,none⟩) NB17z.o _).trans (hHeld.1)))))),((cell_far (p:=⟨gb12z,_,none⟩) NB17z.o _).trans (((cell_far (p:=⟨gb12z,_,none⟩) NB17z.o _).trans (((cell_far (p:=⟨gb12z,_,none⟩) NB17z.o _).trans (hHeld.2.1)))))),((cell_far (p:=⟨gb12z,_,none⟩) NB17z.o _).trans (((cell_far (p:=⟨gb12z,_,none⟩) NB17z.o _).trans (((cell_far (p:=⟨gb12z,_,none⟩) NB17z.o _).trans (hHeld.2.2.1)))))),((cell_far (p:=⟨gb12z,_,none⟩) NB19z.o _).trans (((cell_far (p:=⟨gb12z,_,none⟩) NB19z.o _).trans (((cell_far (p:=⟨gb12z,_,none⟩) NB19z.o _).trans (hHeld.2.2.2.1)))))),((cell_far (p:=⟨gb12z,_,none⟩) NB19z.o _).trans (((cell_far (p:=⟨gb12z,_,none⟩) NB19z.o _).trans (((cell_far (p:=⟨gb12z,_,none⟩) NB19z.o _).trans (hHeld.2.2.2.2.1)))))),((cell_far (p:=⟨gb12z,_,none⟩) NB19z.o _).trans (((cell_far (p:=⟨gb12z,_,none⟩) NB19z.o _).trans (((cell_far (p:=⟨gb12z,_,none⟩) NB19z.o _).trans (hHeld.2.2.2.2.2))))))⟩ (fun hHeld=>?_)
    clear hK K
    refine pu 10 (some 5) #[true,true,true,true,true,true,true,true,true,true,true] (h:=?_)
    refine done_ (Zdl HT_.out (by kernel_rfl)) ?_
    try go_wp2
    refine bodyPost_ret (Za7 rfl _ _ gb12z 24 #[.bool t827,.slice Ao75z t828.length co76z,.int .i64 t831] (0,0) _ rfl (by exact p3 BK14z) Tryz.underlying24 rfl (by kernel_rfl)) rfl ?_
    exact ⟨_,pE,by refine rp ?_;exact Kd.Zi (Kd.Zp (p:=⟨gb12z,2,none⟩) (Kd.Zp (p:=⟨gb12z,1,none⟩) (Kd.Zp (p:=⟨gb12z,0,none⟩) (Kd.Zaa HO74z.o BK14z.o (by decide)) (fun _ hk=>hk.2) (.bool t827)) (fun _ hk=>hk.2) (.slice Ao75z t828.length co76z)) (fun _ hk=>hk.2) (.int .i64 t831)) (fun _ hk=>trivial),pB⟩
  | refine bodyPost_ret (Za7 rfl _ _ gb12z 24 #[.bool false,.slice none 0 0,.int .i64 0] (0,0) _ rfl (by exact p3 BK14z) Tryz.underlying24 rfl (by kernel_rfl)) rfl ?_
    exact ⟨_,pE,pN,pB⟩):P:=h
theorem Zaw.calls (k:Nat) (a0_0:Bool) (A0_1:Option Addr) (c0_1:Nat) (l0_1:List Int) (a0_2:Int) (a1_0:Bool) (A1_1:Option Addr) (c1_1:Nat) (l1_1:List Int) (a1_2:Int) (r1:Bool) (r2:List Int) (r3:Int) (r4:Int) (w:World) (hr0_1:Kd.C (Kd.int .u32) w A0_1 l0_1.length l0_1) (hc0_1:l0_1.length<=c0_1) (hr1_1:Kd.C (Kd.int .u32) w A1_1 l1_1.length l1_1) (hc1_1:l1_1.length<=c1_1) (h:Zaw.f k a0_0 l0_1 a0_2 a1_0 l1_1 a1_2=some (r1,r2,r3,r4)) :
  Calls Tryz.prog 22 #[.agg #[.bool a0_0,.slice A0_1 l0_1.length c0_1,.int .i64 a0_2],.agg #[.bool a1_0,.slice A1_1 l1_1.length c1_1,.int .i64 a1_2]] w fun e w' => ∃ v1_:Value,e=.returned (.tuple #[.agg #[.bool r1,v1_,.int .i64 r3],.int .i64 r4])/\Kd.R (Kd.int .u32) 85 w' w.heap.size (fun _=>True) v1_ r2/\Below w.heap.size w w':=by
 have hu24:=Tryz.underlying24
 have HR0_1:=am hr0_1
 have HC0_1:=am hc0_1
 clear hr0_1 hc0_1
 have HR1_1:=am hr1_1
 have HC1_1:=am hc1_1
 clear hr1_1 hc1_1
 have HB:=am (Below.refl w.heap.size w)
 have H:((Za2.f k a0_0 l0_1 a0_2 a1_0 l1_1 a1_2).bind fun t806=>(if t806=0 then ((Zn.f k a0_0 l0_1 a0_2).bind fun bt807=>((Zn.f k a1_0 l1_1 a1_2).bind fun bt812=>((Za6.f bt812.1 bt812.2.1 bt812.2.2).bind fun bt817=>((Zaf.f k bt807.1 bt807.2.1 bt807.2.2 bt817.1 bt817.2.1 bt817.2.2).bind fun bt822=>((Zm.f k bt822.1 bt822.2.1 bt822.2.2).bind fun bt827=>(some (bt827.1,bt827.2.1,bt827.2.2.1,bt827.2.2.2))))))) else (some (false,([]:List Int),0,9))))=some (r1,r2,r3,r4):=h
 clear h
 obtain ⟨t806,A3,H⟩:=ob H
 by_cases c4:t806=0
 ·rw [if_pos c4] at H
  have c4b0:(t806 == 0)=true:=beq_iff_eq.mpr c4
  have c4b1:(t806 != 0)=false:=bne_eq_false_iff_eq.mpr c4
  clear c4
  obtain ⟨⟨t807,t808,t811⟩,A5,H⟩:=ob H;(try dsimp only at H)
  obtain ⟨⟨t812,t813,t816⟩,A6,H⟩:=ob H;(try dsimp only at H)
  obtain ⟨⟨t817,t818,t821⟩,A7,H⟩:=ob H;(try dsimp only at H)
  obtain ⟨⟨t822,t823,t826⟩,A8,H⟩:=ob H;(try dsimp only at H)
  obtain ⟨⟨t827,t828,t831,t832⟩,A9,H⟩:=ob H;(try dsimp only at H)
  simp only [Option.some.injEq,Prod.mk.injEq] at H
  obtain ⟨rfl,rfl,rfl,rfl⟩:=H
  exact Zaw.leaf
 ·rw [if_neg c4] at H
  have c4b0:(t806 == 0)=false:=beq_eq_false_iff_ne.mpr c4
  have c4b1:(t806 != 0)=true:=bne_iff_ne.mpr c4
  simp only [Option.some.injEq,Prod.mk.injEq] at H
  obtain ⟨rfl,rfl,rfl,rfl⟩:=H
  exact Zaw.leaf
end YtjbjkmccfocikaaGreatDoor.B
end
section
namespace YtjbjkmccfocikaaGreatDoor.P
open Go.RowKit YtjbjkmccfocikaaGreatDoor.B YtjbjkmccfocikaaGreatDoorW.PrintWords YtjbjkmccfocikaaGreatDoorW.PrintLast YtjbjkmccfocikaaGreatDoorW.PrintMore YtjbjkmccfocikaaGreatDoor.P.Nm
def okB (a:Dm):Bool:=if a.n=0 then (!a.neg && decide (a.e=0)) else (decide (a.n % 10 ≠ 0) && (decide (nd a.n<=300) && (decide (-1000<=a.e) && decide (a.e<=1000))))
theorem Zov {a:Dm}:okB a=true ↔ OkD a:=by
 obtain ⟨s,n,e⟩:=a
 unfold okB
 by_cases h:n=0
 ·subst h
  simp only [if_true]
  constructor
  ·intro h
   simp only [Bool.and_eq_true,Bool.not_eq_true',decide_eq_true_eq] at h
   obtain ⟨rfl,rfl⟩:=h
   exact OkD.zeroD
  ·intro h
   have := h.zero rfl
   unfold zeroD at this
   injection this with h1 h2 h3
   simp [h1,h3]
 ·simp only [if_neg h,Bool.and_eq_true,decide_eq_true_eq]
  constructor
  ·intro ⟨h1,h2,h3,h4⟩
   exact ⟨fun e=>absurd e h,fun _=>h1,h2,h3,h4⟩
  ·intro h1
   exact ⟨h1.last h,h1.len,h1.low,h1.high⟩
def chk (a:Bool) (l:List Int) (e:Int):Int:=if chkL l=0/\l.length<=40/\okB ⟨a,num l,e⟩=true then 0 else 9
theorem Zij {n k:Nat} (h:nd n<=9*k):(limbs n).length<=k:=by
 refine Zfc (Nat.lt_of_lt_of_le (Zhu n) ?_)
 refine Nat.le_trans (Nat.pow_le_pow_right (by omega) h) ?_
 rw [Nat.pow_mul]
 exact Nat.pow_le_pow_left (by decide) _
theorem Zew {a:Dm} (h:OkD a):(limbs a.n).length<=34:=Zij (by have := h.len;omega)
theorem Zjs {a:Dm} (h:OkD a):chk a.neg (limbs a.n) a.e=0:=by
 have h1:=Zew h
 unfold chk
 rw [if_pos ⟨Zjr (by omega),by omega,by rw [Zdc];exact Zov.2 h⟩]
theorem Zrc {a:Bool} {l:List Int} {e:Int} (hd:Dg 4294967296 l) (h:chk a l e=0):∃ D:Dm,OkD D/\a=D.neg/\l=limbs D.n/\e=D.e:=by
 unfold chk at h
 by_cases hc:chkL l=0/\l.length<=40/\okB ⟨a,num l,e⟩=true
 ·obtain ⟨h1,h2,h3⟩:=hc
  exact ⟨⟨a,num l,e⟩,Zov.1 h3,rfl,(Zj1 ((Zkr hd).1 h1)).symm,rfl⟩
 ·rw [if_neg hc] at h;cases h
abbrev outD (p:Dm × Int):Bool × List Int × Int × Int:=(p.1.neg,limbs p.1.n,p.1.e,p.2)
theorem Zjh (a:Bool) (l:List Int) (e:Int) (hd:Dg 4294967296 l) (hl:l.length<=90000):Tells (fun k=>Zn.f k a l e) (a,digs (num l),e):=by
 unfold Zn.f
 exact (Zjf l hd hl).bind (Tells.pure _)
theorem ROf (D:Dm) (h:nd D.n<=90000):Tells (fun k=>Zn.f k D.neg (limbs D.n) D.e) (D.neg,digs D.n,D.e):=by
 have := Zjh D.neg (limbs D.n) D.e (Zc3 _) (Nat.le_trans (Zev _) h)
 rw [Zdc] at this
 exact this
theorem Zlx {n:Nat} (h:n ≠ 0):(digs n).getD 0 0=((n % 10:Nat):Int):=by rw [Zdp h];rfl
theorem Zni (s:Bool):∀ (f n:Nat) (e:Int),n<=f->n ≠ 0->nd n<=100000 -> -1000000000<=e->e+nd n<=1000000000->Tells (fun k=>Zm.l0 k (digs n) s [] e) (outD (settleD ⟨s,n,e⟩))
 | 0,n,e,hf,h0,hn,he1,he2=>by omega
 | f+1,n,e,hf,h0,hn,he1,he2=>by
  have hpos:=Zg5 h0
  have hlen:(digs n).length=nd n:=rfl
  refine Tells.succ ?_
  simp only [Zm.l0]
  rw [show (0:Int)=((0:Nat):Int) from rfl,rd_n,Zlx h0]
  refine Tells.ifp (by omega) ?_
  by_cases hz:n % 10=0
  ·have hne:n / 10 ≠ 0:=by omega
   have hnd:nd n=nd (n / 10)+1:=by
    show (digs n).length=_
    rw [Zdp h0];rfl
   have ih:=Zni s f (n / 10) (e+1) (by omega) hne (by omega) (by omega) (by omega)
   have hs:=Zkd s (n / 10) (e+1) 1
   rw [show n / 10*10 ^ 1=n by omega,show e+1 - ((1:Nat):Int)=e by omega] at hs
   rw [hs]
   refine Tells.ifp (by omega) (Tells.ifp (by omega) ?_)
   rw [w64n (by omega) (by omega),Zdp h0]
   exact ih
  ·obtain ⟨hc,ht⟩:=Zjv hz
   unfold settleD
   simp only [hc,ht]
   rw [if_neg h0,show e+((0:Nat):Int)=e by omega]
   refine Tells.ifn (by omega) ?_
   by_cases h3:300 < nd n
   ·rw [if_pos h3]
    exact Tells.ifp (by omega) (Tells.pure _)
   ·rw [if_neg h3]
    refine Tells.ifn (by omega) ?_
    by_cases h4:e < -1000
    ·rw [if_pos (.inl h4)]
     exact Tells.ifp h4 (Tells.pure _)
    ·refine Tells.ifn h4 ?_
     by_cases h5:1000 < e
     ·rw [if_pos (.inr h5)]
      exact Tells.ifp h5 (Tells.pure _)
     ·rw [if_neg (by omega)]
      exact Tells.ifn h5 ((Zkl n (by omega)).bind (Tells.pure _))
theorem Zmr (s:Bool) (L:List Int) (n:Nat) (e:Int) (hd:Dg 10 L) (hv:val 10 L=n) (hl:L.length<=100000) (he1 : -1000000000<=e) (he2:e<=900000000):Tells (fun k=>Zm.f k s L e) (outD (settleD ⟨s,n,e⟩)):=by
 have ht:=Zgp L (by omega)
 rw [Zf9 hd hv] at ht
 have hnd:nd n<=100000:=by
  have := Zqp L
  rw [Zf9 hd hv] at this
  exact Nat.le_trans this hl
 unfold Zm.f
 refine ht.bind ?_
 by_cases h0:n=0
 ·subst h0
  exact Tells.ifp rfl (Tells.pure _)
 ·have hpos:0 < (digs n).length:=Zg5 h0
  exact Tells.ifn (by omega) (Zni s n n e (Nat.le_refl _) h0 hnd he1 (by omega))
theorem Made (s:Bool) (n:Nat) (e:Int) (hn:nd n<=100000) (he1 : -1000000000<=e) (he2:e<=900000000):Tells (fun k=>Zm.f k s (digs n) e) (outD (settleD ⟨s,n,e⟩)) :=
 Zmr s _ n e (Zc6 n) (Zcy n) hn he1 he2
theorem Ze8 (a:Bool) (l:List Int) (e:Int) (hd:Dg 4294967296 l) (hl:l.length<=9223372036854775807):Tells (fun k=>Zo.f k a l e) (chk a l e):=by
 unfold Zo.f
 rw [Zio l hl]
 refine (Tells.pure _).bind ?_
 have bad:chk a l e=9->Tells (fun k=>Zo.j0 k true a l e) (chk a l e):=fun h=>by
  rw [h]
  refine Tells.succ ?_
  simp only [Zo.j0]
  exact Tells.ifp trivial (Tells.pure _)
 by_cases hc:chkL l=0
 ·refine Tells.ifp hc ?_
  by_cases h40:l.length<=40
  ·rw [decide_eq_false (show ¬ ((l.length:Int) > 40) by omega)]
   have hof:=Zjh a l e hd (by omega)
   obtain ⟨n,hn⟩:∃ n,num l=n:=⟨_,rfl⟩
   have hchk:chk a l e=if okB ⟨a,n,e⟩=true then 0 else 9:=by
    unfold chk
    rw [hn]
    by_cases h:okB ⟨a,n,e⟩=true
    ·rw [if_pos ⟨hc,h40,h⟩,if_pos h]
    ·rw [if_neg (fun q=>h q.2.2),if_neg h]
   rw [hchk]
   rw [hn] at hof
   unfold okB
   simp only
   have hlen:(digs n).length=nd n:=rfl
   refine Tells.succ ?_
   simp only [Zo.j0]
   refine Tells.ifn (by simp) (hof.bind ?_)
   dsimp only
   by_cases h0:n=0
   ·subst h0
    rw [if_pos rfl]
    refine Tells.ifp rfl ?_
    have j1:∀ b:Bool,Tells (fun k=>Zo.j1 k b) (if b=true then 9 else 0):=fun b=>by
     refine Tells.succ ?_
     simp only [Zo.j1]
     cases b
     ·exact Tells.ifn (by simp) (Tells.pure _)
     ·exact Tells.ifp rfl (Tells.pure _)
    cases a
    ·refine Tells.ifn (by simp) ((j1 _).val ?_)
     by_cases he:e=0
     ·subst he;rfl
     ·simp [he]
    ·exact Tells.ifp rfl ((j1 true).val rfl)
   ·have hpos:=Zg5 h0
    rw [if_neg h0]
    refine Tells.ifn (by omega) (Tells.ifp (by omega) ?_)
    rw [show (0:Int)=((0:Nat):Int) from rfl,rd_n,Zlx h0]
    by_cases hz:n % 10=0
    ·rw [decide_eq_false (not_not_intro hz)]
     exact Tells.ifp (by omega) (Tells.pure _)
    ·rw [decide_eq_true hz]
     refine Tells.ifn (by omega) ?_
     by_cases h3:nd n<=300
     ·rw [decide_eq_true h3]
      refine Tells.ifn (by omega) ?_
      by_cases h4:e < -1000
      ·rw [decide_eq_false (show ¬ (-1000<=e) by omega)]
       exact Tells.ifp h4 (Tells.pure _)
      ·rw [decide_eq_true (show -1000<=e by omega)]
       refine Tells.ifn h4 ?_
       by_cases h5:1000 < e
       ·rw [decide_eq_false (show ¬ (e<=1000) by omega)]
        exact Tells.ifp h5 (Tells.pure _)
       ·rw [decide_eq_true (show e<=1000 by omega)]
        exact Tells.ifn h5 (Tells.pure _)
     ·rw [decide_eq_false h3]
      exact Tells.ifp (by omega) (Tells.pure _)
  ·rw [decide_eq_true (show ((l.length:Int) > 40) by omega)]
   exact bad (by unfold chk;rw [if_neg (fun q=>h40 q.2.1)])
 ·exact Tells.ifn hc (bad (by unfold chk;rw [if_neg (fun q=>hc q.1)]))
theorem RCheck (D:Dm) (h:OkD D):Tells (fun k=>Zo.f k D.neg (limbs D.n) D.e) 0:=by
 have h1:=Zew h
 have := Ze8 D.neg (limbs D.n) D.e (Zc3 _) (by omega)
 rw [Zjs h] at this
 exact this
theorem Ziu (a:Bool) (l:List Int) (e:Int) (b:Bool) (m:List Int) (g:Int) (hd:Dg 4294967296 l) (hl:l.length<=9223372036854775807) (hd2:Dg 4294967296 m) (hl2:m.length<=9223372036854775807):Tells (fun k=>Za2.f k a l e b m g) (if chk a l e=0/\chk b m g=0 then 0 else 9):=by
 unfold Za2.f
 refine (Ze8 a l e hd hl).bind ?_
 by_cases h:chk a l e=0
 ·refine Tells.ifp h ((Ze8 b m g hd2 hl2).bind ?_)
  by_cases h2:chk b m g=0
  ·exact Tells.ifp h2 ((Tells.pure _).val (by rw [if_pos ⟨h,h2⟩]))
  ·exact Tells.ifn h2 ((Tells.pure _).val (by rw [if_neg (fun q=>h2 q.2)]))
 ·exact Tells.ifn h ((Tells.pure _).val (by rw [if_neg (fun q=>h q.1)]))
theorem Rchecks (D E:Dm) (hD:OkD D) (hE:OkD E):Tells (fun k=>Za2.f k D.neg (limbs D.n) D.e E.neg (limbs E.n) E.e) 0:=by
 have h1:=Zew hD
 have h2:=Zew hE
 have := Ziu D.neg (limbs D.n) D.e E.neg (limbs E.n) E.e (Zc3 _) (by omega) (Zc3 _) (by omega)
 rw [if_pos ⟨Zjs hD,Zjs hE⟩] at this
 exact this
theorem Zty (a b:Int):mn a b=min a b:=by unfold mn;omega
theorem Zs7 (a b:Int):mx a b=max a b:=by unfold mx;omega
theorem Zrg (a b:Bool) (m n:Nat) (e g:Int) (hm:nd m<=100000) (hn:nd n<=100000) (he : -100000<=e/\e<=100000) (hg : -100000<=g/\g<=100000) :
  Zcj.f a (digs m) e b (digs n) g=some (a,digs (m*10 ^ (e - min e g).toNat),min e g,b,digs (n*10 ^ (g - min e g).toNat),min e g):=by
 unfold Zcj.f
 rw [Zty]
 obtain ⟨x,hx⟩:∃ x:Nat,e - min e g=x:=⟨(e - min e g).toNat,by omega⟩
 obtain ⟨y,hy⟩:∃ y:Nat,g - min e g=y:=⟨(g - min e g).toNat,by omega⟩
 rw [hx,hy,w64c (by omega),w64c (by omega),Zhk m x (by omega) (by omega),Option.bind_some,Zhk n y (by omega) (by omega),Option.bind_some,Int.toNat_natCast,Int.toNat_natCast]
theorem Zeg (n k:Nat):nd (n*10 ^ k)<=nd n+k:=by
 by_cases h:n=0
 ·subst h;rw [Nat.zero_mul,Zom];omega
 ·rw [Zl7 h];exact Nat.le_refl _
theorem Zhv {n:Nat}:(digs n).length=0 ↔ n=0:=⟨fun h=>Zly (List.eq_nil_of_length_eq_zero h),fun h=>by rw [h];rfl⟩
theorem Zjl (A B:Dm) (hm:nd A.n<=10000) (hn:nd B.n<=10000) (he : -10000<=A.e/\A.e<=10000) (hg : -10000<=B.e/\B.e<=10000) :
  Tells (fun k=>Zaf.f k A.neg (digs A.n) A.e B.neg (digs B.n) B.e) ((plusD A B).neg,digs (plusD A B).n,(plusD A B).e):=by
 unfold Zaf.f
 rw [Zrg A.neg B.neg A.n B.n A.e B.e (by omega) (by omega) (by omega) (by omega)]
 refine (Tells.pure _).bind ?_
 have hx:=Zeg A.n (A.e - min A.e B.e).toNat
 have hy:=Zeg B.n (B.e - min A.e B.e).toNat
 unfold plusD sumS
 simp only
 generalize A.n*10 ^ (A.e - min A.e B.e).toNat=x at *
 generalize B.n*10 ^ (B.e - min A.e B.e).toNat=y at *
 have hx':nd x<=100000:=by omega
 have hy':nd y<=100000:=by omega
 by_cases h:A.neg=B.neg
 ·rw [if_pos h]
  exact Tells.ifp (by rw [h];simp) ((Zmt x y (by omega) (by omega)).bind (Tells.pure _))
 ·rw [if_neg h]
  refine Tells.ifn (by simpa using h) ((Zkn x y (by omega)).bind ?_)
  by_cases hlt:x < y
  ·rw [if_pos hlt]
   exact Tells.ifn (by unfold cmpN;rw [if_pos hlt];omega) ((Zhe y x (by omega) (by omega)).bind (Tells.pure _))
  ·rw [if_neg hlt]
   exact Tells.ifp (by unfold cmpN;rw [if_neg hlt];split <;> omega) ((Zhe x y (by omega) (by omega)).bind (Tells.pure _))
theorem Ztb (A:Dm):Za6.f A.neg (digs A.n) A.e=some ((negD A).neg,digs A.n,A.e):=by
 unfold Za6.f negD
 have hl:(digs A.n).length=0 ↔ A.n=0:=Zhv
 cases A.neg
 ·rw [if_neg (by simp)]
  congr 2
  simp only [Bool.not_false,Bool.true_and]
  by_cases h:A.n=0
  ·rw [decide_eq_false (not_not_intro h),decide_eq_false (by have := hl.2 h;omega)]
  ·rw [decide_eq_true h,decide_eq_true (by have:(digs A.n).length ≠ 0:=fun q=>h (hl.1 q);omega)]
 ·rw [if_pos rfl];rfl
theorem ROrder (D E:Dm) (hD:OkD D) (hE:OkD E):Tells (fun k=>Zai.f k D.neg (limbs D.n) D.e E.neg (limbs E.n) E.e) (cmpD D E):=by
 have d1:=hD.len;have d2:=hD.low;have d3:=hD.high
 have e1:=hE.len;have e2:=hE.low;have e3:=hE.high
 unfold Zai.f
 refine (ROf D (by omega)).bind ((ROf E (by omega)).bind ?_)
 dsimp only
 rw [Ztb E]
 refine (Tells.pure _).bind ?_
 refine (Zjl D (negD E) (by omega) (by show nd E.n<=_;omega) (by omega) (by show -10000<=E.e/\E.e<=10000;omega)).bind ?_
 unfold cmpD
 simp only
 have hl:(digs (plusD D (negD E)).n).length=0 ↔ (plusD D (negD E)).n=0:=Zhv
 by_cases h:(plusD D (negD E)).n=0
 ·rw [if_pos h]
  exact Tells.ifp (by have := hl.2 h;omega) (Tells.pure _)
 ·rw [if_neg h]
  refine Tells.ifn (by have:(digs (plusD D (negD E)).n).length ≠ 0:=fun q=>h (hl.1 q);omega) ?_
  cases (plusD D (negD E)).neg
  ·exact Tells.ifn (by simp) (Tells.pure _)
  ·exact Tells.ifp rfl (Tells.pure _)
theorem Zr7 (s t:Bool) (x y k:Nat) (hx:nd x<=k) (hy:nd y<=k):nd (sumS s t x y).2<=k+1:=by
 have h1:=Zq8 x y
 have h2:=Zer (Nat.sub_le x y)
 have h3:=Zer (Nat.sub_le y x)
 unfold sumS
 split
 ·show nd (x+y)<=_;omega
 ·split
  ·show nd (y - x)<=_;omega
  ·show nd (x - y)<=_;omega
theorem Zqg {A B:Dm} (hA:OkD A) (hB:OkD B):nd (plusD A B).n<=2301:=by
 have d1:=hA.len;have d2:=hA.low;have d3:=hA.high
 have e1:=hB.len;have e2:=hB.low;have e3:=hB.high
 have hx:=Zeg A.n (A.e - min A.e B.e).toNat
 have hy:=Zeg B.n (B.e - min A.e B.e).toNat
 exact Zr7 _ _ _ _ 2300 (by omega) (by omega)
theorem Zqf {A B:Dm} (hA:OkD A) (hB:OkD B) : -1000<=(plusD A B).e/\(plusD A B).e<=1000:=by
 have d2:=hA.low;have d3:=hA.high
 have e2:=hB.low;have e3:=hB.high
 rw [Zo2];omega
theorem RSub (D E:Dm) (hD:OkD D) (hE:OkD E):Tells (fun k=>Zaw.f k D.neg (limbs D.n) D.e E.neg (limbs E.n) E.e) (outD (subD D E)):=by
 have d1:=hD.len;have d2:=hD.low;have d3:=hD.high
 have hN:=Zr8 hE
 have e1:=hE.len;have e2:=hE.low;have e3:=hE.high
 have p1:=Zqg hD hN
 have p2:=Zqf hD hN
 unfold Zaw.f
 refine (Rchecks D E hD hE).bind (Tells.ifp rfl ((ROf D (by omega)).bind ((ROf E (by omega)).bind ?_)))
 dsimp only
 rw [Ztb E]
 refine (Tells.pure _).bind ((Zjl D (negD E) (by omega) (by show nd E.n<=_;omega) (by omega) (by show -10000<=E.e/\E.e<=10000;omega)).bind ?_)
 exact (Made (plusD D (negD E)).neg (plusD D (negD E)).n (plusD D (negD E)).e (by omega) (by omega) (by omega)).bind (Tells.pure _)
theorem RMul (D E:Dm) (hD:OkD D) (hE:OkD E):Tells (fun k=>Zad.f k D.neg (limbs D.n) D.e E.neg (limbs E.n) E.e) (outD (timesD D E)):=by
 have d1:=hD.len;have d2:=hD.low;have d3:=hD.high
 have e1:=hE.len;have e2:=hE.low;have e3:=hE.high
 have hm:=Zs9 D.n E.n
 unfold Zad.f
 refine (Rchecks D E hD hE).bind (Tells.ifp rfl ((ROf D (by omega)).bind ((ROf E (by omega)).bind ?_)))
 dsimp only
 rw [w64n (by omega) (by omega)]
 refine (Zir D.n E.n (by omega) (by omega)).bind ?_
 exact (Made (D.neg != E.neg) (D.n*E.n) (D.e+E.e) (by omega) (by omega) (by omega)).bind (Tells.pure _)
end YtjbjkmccfocikaaGreatDoor.P
end
section
namespace YtjbjkmccfocikaaGreatDoor.P
open Go.RowKit YtjbjkmccfocikaaGreatDoorW.PrintWords
def anyO {α:Type} (f:α->Option Bool):List α->Option Bool
 | []=>some false
 | x :: r=>(f x).bind fun t=>if t=true then some true else anyO f r
theorem Zjn {α:Type} {f:α->Option Bool} {x:α} {r:List α} {b:Bool} (h:anyO f (x :: r)=some b):∃ t,f x=some t/\((t=true->b=true)/\(t=false->anyO f r=some b)):=by
 simp only [anyO] at h
 obtain ⟨t,ht,h2⟩:=Option.bind_eq_some_iff.1 h
 refine ⟨t,ht,fun e=>?_,fun e=>?_⟩
 ·rw [if_pos e] at h2;exact (Option.some.inj h2).symm
 ·rw [if_neg (by simp [e])] at h2;exact h2
theorem Zls {α:Type} {f:α->Option Bool} {b:Bool} (h:anyO f []=some b):b=false:=(Option.some.inj h).symm
theorem Zjo {α:Type} {f:α->Option Bool} (p:α->Bool):∀ l:List α,(∀ x ∈ l,f x=some (p x))->anyO f l=some (l.any p)
 | [],_=>rfl
 | x :: r,h=>by
  simp only [anyO]
  rw [h x List.mem_cons_self,Option.bind_some,List.any_cons]
  cases p x
  ·rw [if_neg (by simp),Bool.false_or];exact Zjo p r (fun y hy=>h y (List.mem_cons_of_mem _ hy))
  ·rw [if_pos rfl,Bool.true_or]
def IdxR (b:Bool) (e:Ending):Prop:=∃ i:Int,e=.returned (.int .i64 i)/\decide (0<=i)=b
theorem Zof {b:Bool} (h:b=true) (q:Nat):IdxR b (.returned (.int .i64 (q:Int))):=⟨q,rfl,by rw [h];simp⟩
theorem Zjy {b:Bool} (h:b=false):IdxR b (.returned (.int .i64 (-1))):=⟨-1,rfl,by rw [h];rfl⟩
theorem Zlz {α:Type} {l:List α} {q:Nat} {z:α} (h:q < l.length):l.drop q=l.getD q z :: l.drop (q+1):=by
 rw [List.getD,List.getElem?_eq_getElem h];exact List.drop_eq_getElem_cons h
theorem Zlq {w:World} {a:Addr} {v:Value} (h:w.cell? a=some v):∃ b o,a=⟨b,o,none⟩:=by
 obtain ⟨b,o,s⟩:=a
 cases s with
 | none=>exact ⟨b,o,rfl⟩
 | some s =>
  unfold World.cell? at h
  split at h
  ·simp at h
  ·cases h
theorem Ziw (b o j:Nat):(⟨b,o,none⟩:Addr).add j=⟨b,o+j,none⟩:=by unfold Addr.add;split <;> simp_all
end YtjbjkmccfocikaaGreatDoor.P
end
section
namespace YtjbjkmccfocikaaGreatDoor.B
open Go.RowKit YtjbjkmccfocikaaGreatDoorW.PrintWords YtjbjkmccfocikaaGreatDoorW.PrintLast YtjbjkmccfocikaaGreatDoorW.PrintMore
attribute [local go_sem] Zb5 Zb7 Zcs Zct Zbn Zbo Zb6 Zb8
def Zeo.f (k:Nat) (l0:List Int):Option (List Int × Bool):=(Zc5.f k 10).bind fun t147=>((Zdm.f k l0 t147).bind fun bt150=>(some (bt150.1,((bt150.2.1.length:Int) == 0))))
theorem Zeo.calls (k:Nat) (A0:Option Addr) (c0:Nat) (l0:List Int) (r1:List Int) (r2:Bool) (w:World) (hr0:Kd.C (Kd.int .u32) w A0 l0.length l0) (hc0:l0.length<=c0) (h:Zeo.f k l0=some (r1,r2)) :
  Calls Tryz.prog 109 #[.slice A0 l0.length c0] w fun e w' => ∃ v0_:Value,e=.returned (.tuple #[v0_,.bool r2])/\Kd.R (Kd.int .u32) 85 w' w.heap.size (fun _=>True) v0_ r1/\Below w.heap.size w w':=by
 have HR0:=am hr0
 have HC0:=am hc0
 clear hr0 hc0
 have HB:=am (Below.refl w.heap.size w)
 have H:((Zc5.f k 10).bind fun t147=>((Zdm.f k l0 t147).bind fun bt150=>(some (bt150.1,((bt150.2.1.length:Int) == 0)))))=some (r1,r2):=h
 clear h
 obtain ⟨t147,A2,H⟩:=ob H
 obtain ⟨⟨t150,t151,t152⟩,A3,H⟩:=ob H;(try dsimp only at H)
 simp only [Option.some.injEq,Prod.mk.injEq] at H
 obtain ⟨rfl,rfl⟩:=H
 go_enter Tryz.func109,Tryz.ntmps109
 go_wp2_with (first|(refine gL (some 9) Tryz.func76 #[.int .u64 10] (h:=?_);(with_reducible refine (Zc5.calls k 10 t147 _ A2.o).mono ?_);rintro e w4 ⟨v148,rfl,ho0,hb⟩;refine ⟨_,rfl,?_⟩;have HO149:=am (Kd.Zq ho0 (Zb pB));replace HB:=bS hb;obtain ⟨Ao5,co5,eo5⟩:=Kd.Zj HO149.o;subst eo5)|(refine gL (some 10) Tryz.func69 #[.slice A0 l0.length c0,.slice Ao5 t147.length co5] (h:=?_);(with_reducible refine (Zdm.calls k _ _ l0 _ _ t147 t150 t151 t152 _ ?side1 ?side2 ?side3 ?side4 A3.o).mono ?_);(case side1=>exact cB HR0 HB);(case side2=>exact HC0.o);(case side3=>exact Kd.Zx (Kd.Zd HO149.o).2.2 pl);(case side4=>exact (Kd.Zd HO149.o).2.1);rintro e w6 ⟨v153,v155,rfl,ho0,ho1,hb⟩;refine ⟨_,rfl,?_⟩;have HO154:=am (Kd.Zq (Kd.Zr ho0 (Kd.R_lt (Kd.Za HO149.o pl))) (Zb pB));have HO156:=am (Kd.Zq (Kd.Zr ho1 (Kd.R_lt (Kd.Za HO149.o pl))) (Zb pB));replace HO149:=am (Kd.Zi (Kd.Zc7 (Kd.Zc7 (Kd.Zgo (Kd.Za HO149.o pl) hb) (Kd.Zap ho0)) (Kd.Zap ho1)) (fun _ h_=>h_.1));replace HB:=bS hb;obtain ⟨Ao7,co7,eo7⟩:=Kd.Zj HO156.o;subst eo7))
 go_ret2
 exact ⟨_,pE,by refine rp ?_;exact Kd.Zi HO154.o (fun _ hk=>trivial),pB⟩
def Zcv.f (k:Nat) (l0:List Int):Option (Int):=(Zat.f k l0).bind fun bt173=>(if (l0.length:Int)=0 then (some 0) else (some (bt173.1.size:Int)))
theorem Zcv.calls (k:Nat) (A0:Option Addr) (c0:Nat) (l0:List Int) (r:Int) (w:World) (hr0:Kd.C (Kd.int .u32) w A0 l0.length l0) (hc0:l0.length<=c0) (h:Zcv.f k l0=some r) :
  Calls Tryz.prog 110 #[.slice A0 l0.length c0] w fun e w'=>e=.returned (.int .i64 r)/\Below w.heap.size w w':=by
 have HR0:=am hr0
 have HC0:=am hc0
 clear hr0 hc0
 have HB:=am (Below.refl w.heap.size w)
 have H:((Zat.f k l0).bind fun bt173=>(if (l0.length:Int)=0 then (some 0) else (some (bt173.1.size:Int))))=some r:=h
 clear h
 obtain ⟨⟨t173,t174⟩,A2,H⟩:=ob H;(try dsimp only at H)
 by_cases c3:(l0.length:Int)=0
 ·rw [if_pos c3] at H
  have c3b0:((l0.length:Int) == 0)=true:=beq_iff_eq.mpr c3
  have c3b1:((l0.length:Int) != 0)=false:=bne_eq_false_iff_eq.mpr c3
  clear c3
  obtain rfl:=Option.some.inj H
  go_enter Tryz.func110,Tryz.ntmps110
  go_wp2_with (first|(refine gL (some 7) Tryz.func112 #[.slice A0 l0.length c0] (h:=?_);(with_reducible refine (Zat.calls k (fun k_=>k_ < w.heap.size) _ _ l0 t173 t174 _ ?side1 A2.o).mono ?_);(case side1=>exact Kd.V_mk HC0.o (Kd.Zfz (Kd.C_F (Kd.Zgc .u32) HR0.o) pB));rintro e w4 ⟨rfl,hb⟩;refine ⟨_,rfl,?_⟩;replace HB:=bS hb))
  go_ret
  exact ⟨pE,pB⟩
 ·rw [if_neg c3] at H
  have c3b0:((l0.length:Int) == 0)=false:=beq_eq_false_iff_ne.mpr c3
  have c3b1:((l0.length:Int) != 0)=true:=bne_iff_ne.mpr c3
  have c3b2:¬ (l0=[]):=fun h_=>c3 (by rw [h_];rfl)
  obtain rfl:=Option.some.inj H
  go_enter Tryz.func110,Tryz.ntmps110
  go_wp2_with (first|(refine gL (some 7) Tryz.func112 #[.slice A0 l0.length c0] (h:=?_);(with_reducible refine (Zat.calls k (fun k_=>k_ < w.heap.size) _ _ l0 t173 t174 _ ?side1 A2.o).mono ?_);(case side1=>exact Kd.V_mk HC0.o (Kd.Zfz (Kd.C_F (Kd.Zgc .u32) HR0.o) pB));rintro e w5 ⟨rfl,hb⟩;refine ⟨_,rfl,?_⟩;replace HB:=bS hb))
  go_ret
  exact ⟨pE,pB⟩
def Zbs.j0:Nat->Bool->Bool->List Int->Int->Option (Int)
 | 0,_,_,_,_=>none
 | k+1,x14,x176000,x176001,x176002=>if x14=true then (some 9) else (if (x176001.length:Int)=0 then (if x176000=true then (some 9) else (if x176002=0 then (some 0) else (some 9))) else ((Zeo.f k x176001).bind fun bt177=>(if bt177.2=true then (some 9) else ((Zcv.f k x176001).bind fun t181=>(if t181 > 300 then (some 9) else (if x176002 < (-1000) then (some 9) else (if x176002 > 1000 then (some 9) else (some 0))))))))
def Zbs.f (k:Nat) (a0_0:Bool) (l0_1:List Int) (a0_2:Int):Option (Int):=(Za0.f l0_1).bind fun t176=>(if t176=0 then (Zbs.j0 k (decide ((l0_1.length:Int) > 40)) a0_0 l0_1 a0_2) else (Zbs.j0 k true a0_0 l0_1 a0_2))
theorem Zbs.calls (k:Nat) (a0_0:Bool) (A0_1:Option Addr) (c0_1:Nat) (l0_1:List Int) (a0_2:Int) (r:Int) (w:World) (hr0_1:Kd.C (Kd.int .u32) w A0_1 l0_1.length l0_1) (hc0_1:l0_1.length<=c0_1) (h:Zbs.f k a0_0 l0_1 a0_2=some r) :
  Calls Tryz.prog 55 #[.agg #[.bool a0_0,.slice A0_1 l0_1.length c0_1,.int .i64 a0_2]] w fun e w'=>e=.returned (.int .i64 r)/\Below w.heap.size w w':=by
 have hu24:=Tryz.underlying24
 have HR0_1:=am hr0_1
 have HC0_1:=am hc0_1
 clear hr0_1 hc0_1
 have HB:=am (Below.refl w.heap.size w)
 have H:((Za0.f l0_1).bind fun t176=>(if t176=0 then (Zbs.j0 k (decide ((l0_1.length:Int) > 40)) a0_0 l0_1 a0_2) else (Zbs.j0 k true a0_0 l0_1 a0_2)))=some r:=h
 clear h
 have HC2:=am H
 clear H
 go_enter Tryz.func55,Tryz.ntmps55
 go_upto_region 1 with (first|((with_reducible refine gd 1 ?_);(try (refine Zao (by rfl) ?_;dsimp only));refine bx 1 #[.bool a0_0,.slice A0_1 l0_1.length c0_1,.int .i64 a0_2] 24 (h:=?_);intro gb175 hg w3 hbox hb;have BK175:=am hbox;have GW175:=gW hg;replace HB:=bS hb;clear hb hbox hg))
 (try simp only [Act.put,List.setIfInBounds_toArray,List.set_cons_zero,List.set_cons_succ])
 go_cut [14] (fun v14 wc => ∃ (kq:Nat) (x14_1:Bool),v14=.bool x14_1/\Aside0 (Zbs.j0 kq x14_1 a0_0 l0_1 a0_2=some r)/\Aside0 (kq<=k)/\Aside0 (wc.heap[gb175]? = some (.cells #[.bool a0_0,(.slice A0_1 l0_1.length c0_1),.int .i64 a0_2] 24 (0,0)))/\Aside0 (Below w.heap.size w wc))
 case first =>
  have H:=HC2.o
  clear HC2
  obtain ⟨t176,A4,H⟩:=ob H
  by_cases c5:t176=0
  ·rw [if_pos c5] at H
   have c5b0:(t176 == 0)=true:=beq_iff_eq.mpr c5
   have c5b1:(t176 != 0)=false:=bne_eq_false_iff_eq.mpr c5
   clear c5
   (first|rw [c5b0]|(simp only [Zcd,Zdb];rw [c5b0])|skip)
   have H':=am H
   clear H
   obtain ⟨_,_,_,_,_,_⟩:=cEc BK175.o
   go_wp2_with (first|(refine gL (some 7) Tryz.func108 #[.slice A0_1 l0_1.length c0_1] (h:=?_);(with_reducible refine (Za0.calls _ _ l0_1 t176 _ ?side1 ?side2 A4.o).mono ?_);(case side1=>exact cB HR0_1 HB);(case side2=>exact HC0_1.o);rintro e w' ⟨rfl,⟨nd,rfl⟩⟩;refine ⟨_,rfl,?_⟩))
   go_meet
   case rel=>exact ⟨_,(decide ((l0_1.length:Int) > 40)),pR,H',⟨by first|omega|exact Nat.le_refl _⟩,⟨Zc BK175.o pl⟩,⟨pB⟩⟩
  ·rw [if_neg c5] at H
   have c5b0:(t176 == 0)=false:=beq_eq_false_iff_ne.mpr c5
   have c5b1:(t176 != 0)=true:=bne_iff_ne.mpr c5
   (first|rw [c5b0]|(simp only [Zcd,Zdb];rw [c5b0])|skip)
   have H':=am H
   clear H
   obtain ⟨_,_,_,_,_,_⟩:=cEc BK175.o
   go_wp2_with (first|(refine gL (some 7) Tryz.func108 #[.slice A0_1 l0_1.length c0_1] (h:=?_);(with_reducible refine (Za0.calls _ _ l0_1 t176 _ ?side1 ?side2 A4.o).mono ?_);(case side1=>exact cB HR0_1 HB);(case side2=>exact HC0_1.o);rintro e w' ⟨rfl,⟨nd,rfl⟩⟩;refine ⟨_,rfl,?_⟩))
   go_meet
   case rel=>exact ⟨_,(true),pR,H',⟨by first|omega|exact Nat.le_refl _⟩,⟨Zc BK175.o pl⟩,⟨pB⟩⟩
 case rest =>
  clear HC2
  obtain ⟨kq,x14_1,rfl,HA,HJ1,BK175,HB⟩:=hcut
  cases kq with
  | zero=>exact absurd HA.out (by simp [Zbs.j0])
  | succ kj1 =>
   have H:=HA.out
   clear HA
   simp only [Zbs.j0] at H
   by_cases c8:x14_1=true
   ·subst c8
    rw [if_pos rfl] at H
    obtain rfl:=Option.some.inj H
    go_wp2
    go_ret
    exact ⟨pE,pB⟩
   ·replace c8:=Bool.eq_false_iff.mpr c8
    subst c8
    rw [if_neg (show ¬ (false=true) by decide)] at H
    by_cases c9:(l0_1.length:Int)=0
    ·rw [if_pos c9] at H
     have c9b0:((l0_1.length:Int) == 0)=true:=beq_iff_eq.mpr c9
     have c9b1:((l0_1.length:Int) != 0)=false:=bne_eq_false_iff_eq.mpr c9
     clear c9
     by_cases c10:a0_0=true
     ·subst c10
      rw [if_pos rfl] at H
      obtain rfl:=Option.some.inj H
      obtain ⟨_,_,_,_,_,_⟩:=cEc BK175.o
      go_wp2
      go_ret
      exact ⟨pE,pB⟩
     ·replace c10:=Bool.eq_false_iff.mpr c10
      subst c10
      rw [if_neg (show ¬ (false=true) by decide)] at H
      by_cases c12:a0_2=0
      ·rw [if_pos c12] at H
       have c12b0:(a0_2 == 0)=true:=beq_iff_eq.mpr c12
       have c12b1:(a0_2 != 0)=false:=bne_eq_false_iff_eq.mpr c12
       clear c12
       obtain rfl:=Option.some.inj H
       obtain ⟨_,_,_,_,_,_⟩:=cEc BK175.o
       go_wp2
       go_ret
       exact ⟨pE,pB⟩
      ·rw [if_neg c12] at H
       have c12b0:(a0_2 == 0)=false:=beq_eq_false_iff_ne.mpr c12
       have c12b1:(a0_2 != 0)=true:=bne_iff_ne.mpr c12
       obtain rfl:=Option.some.inj H
       obtain ⟨_,_,_,_,_,_⟩:=cEc BK175.o
       go_wp2
       go_ret
       exact ⟨pE,pB⟩
    ·rw [if_neg c9] at H
     have c9b0:((l0_1.length:Int) == 0)=false:=beq_eq_false_iff_ne.mpr c9
     have c9b1:((l0_1.length:Int) != 0)=true:=bne_iff_ne.mpr c9
     have c9b2:¬ (l0_1=[]):=fun h_=>c9 (by rw [h_];rfl)
     obtain ⟨⟨t177,t178⟩,A15,H⟩:=ob H;(try dsimp only at H)
     by_cases c16:t178=true
     ·subst c16
      rw [if_pos rfl] at H
      obtain rfl:=Option.some.inj H
      obtain ⟨_,_,_,_,_,_⟩:=cEc BK175.o
      go_wp2_with (first|(refine gL (some 29) Tryz.func109 #[.slice A0_1 l0_1.length c0_1] (h:=?_);(with_reducible refine (Zeo.calls kj1 _ _ l0_1 t177 true _ ?side1 ?side2 A15.o).mono ?_);(case side1=>exact cB HR0_1 HB);(case side2=>exact HC0_1.o);rintro e w18 ⟨v179,rfl,ho0,hb⟩;refine ⟨_,rfl,?_⟩;have HO180:=am (Kd.Zq ho0 (Zb pB));replace BK175:=bb BK175 hb;replace HB:=bS hb))
      go_ret
      exact ⟨pE,pB⟩
     ·replace c16:=Bool.eq_false_iff.mpr c16
      subst c16
      rw [if_neg (show ¬ (false=true) by decide)] at H
      obtain ⟨t181,A19,H⟩:=ob H
      by_cases c20:t181 > 300
      ·rw [if_pos c20] at H
       have c20b0:decide (300 < t181)=true:=decide_eq_true c20
       clear c20
       obtain rfl:=Option.some.inj H
       obtain ⟨_,_,_,_,_,_⟩:=cEc BK175.o
       go_wp2_with (first|(refine gL (some 29) Tryz.func109 #[.slice A0_1 l0_1.length c0_1] (h:=?_);(with_reducible refine (Zeo.calls kj1 _ _ l0_1 t177 false _ ?side1 ?side2 A15.o).mono ?_);(case side1=>exact cB HR0_1 HB);(case side2=>exact HC0_1.o);rintro e w22 ⟨v179,rfl,ho0,hb⟩;refine ⟨_,rfl,?_⟩;have HO180:=am (Kd.Zq ho0 (Zb pB));replace BK175:=bb BK175 hb;replace HB:=bS hb;obtain ⟨_,_,_,_,_,_⟩:=cEc BK175.o)|(go_at_call 110;(with_reducible refine (Zcv.calls kj1 _ _ l0_1 t181 _ ?side1 ?side2 A19.o).mono ?_);(case side1=>exact cB HR0_1 HB);(case side2=>exact HC0_1.o);rintro e w24 ⟨rfl,hb⟩;replace HO180:=rbl HO180 hb;replace BK175:=bb BK175 hb;replace HB:=bS hb))
       go_ret
       exact ⟨pE,pB⟩
      ·rw [if_neg c20] at H
       have c20b0:decide (300 < t181)=false:=decide_eq_false c20
       clear c20
       by_cases c25:a0_2 < (-1000)
       ·rw [if_pos c25] at H
        have c25b0:decide (a0_2 < (-1000))=true:=decide_eq_true c25
        clear c25
        obtain rfl:=Option.some.inj H
        obtain ⟨_,_,_,_,_,_⟩:=cEc BK175.o
        go_wp2_with (first|(refine gL (some 29) Tryz.func109 #[.slice A0_1 l0_1.length c0_1] (h:=?_);(with_reducible refine (Zeo.calls kj1 _ _ l0_1 t177 false _ ?side1 ?side2 A15.o).mono ?_);(case side1=>exact cB HR0_1 HB);(case side2=>exact HC0_1.o);rintro e w27 ⟨v179,rfl,ho0,hb⟩;refine ⟨_,rfl,?_⟩;have HO180:=am (Kd.Zq ho0 (Zb pB));replace BK175:=bb BK175 hb;replace HB:=bS hb;obtain ⟨_,_,_,_,_,_⟩:=cEc BK175.o)|(go_at_call 110;(with_reducible refine (Zcv.calls kj1 _ _ l0_1 t181 _ ?side1 ?side2 A19.o).mono ?_);(case side1=>exact cB HR0_1 HB);(case side2=>exact HC0_1.o);rintro e w29 ⟨rfl,hb⟩;replace HO180:=rbl HO180 hb;replace BK175:=bb BK175 hb;replace HB:=bS hb;obtain ⟨_,_,_,_,_,_⟩:=cEc BK175.o))
        go_ret
        exact ⟨pE,pB⟩
       ·rw [if_neg c25] at H
        have c25b0:decide (a0_2 < (-1000))=false:=decide_eq_false c25
        clear c25
        by_cases c31:a0_2 > 1000
        ·rw [if_pos c31] at H
         have c31b0:decide (1000 < a0_2)=true:=decide_eq_true c31
         clear c31
         obtain rfl:=Option.some.inj H
         obtain ⟨_,_,_,_,_,_⟩:=cEc BK175.o
         go_wp2_with (first|(refine gL (some 29) Tryz.func109 #[.slice A0_1 l0_1.length c0_1] (h:=?_);(with_reducible refine (Zeo.calls kj1 _ _ l0_1 t177 false _ ?side1 ?side2 A15.o).mono ?_);(case side1=>exact cB HR0_1 HB);(case side2=>exact HC0_1.o);rintro e w33 ⟨v179,rfl,ho0,hb⟩;refine ⟨_,rfl,?_⟩;have HO180:=am (Kd.Zq ho0 (Zb pB));replace BK175:=bb BK175 hb;replace HB:=bS hb;obtain ⟨_,_,_,_,_,_⟩:=cEc BK175.o)|(go_at_call 110;(with_reducible refine (Zcv.calls kj1 _ _ l0_1 t181 _ ?side1 ?side2 A19.o).mono ?_);(case side1=>exact cB HR0_1 HB);(case side2=>exact HC0_1.o);rintro e w35 ⟨rfl,hb⟩;replace HO180:=rbl HO180 hb;replace BK175:=bb BK175 hb;replace HB:=bS hb;obtain ⟨_,_,_,_,_,_⟩:=cEc BK175.o))
         go_ret
         exact ⟨pE,pB⟩
        ·rw [if_neg c31] at H
         have c31b0:decide (1000 < a0_2)=false:=decide_eq_false c31
         clear c31
         obtain rfl:=Option.some.inj H
         obtain ⟨_,_,_,_,_,_⟩:=cEc BK175.o
         go_wp2_with (first|(refine gL (some 29) Tryz.func109 #[.slice A0_1 l0_1.length c0_1] (h:=?_);(with_reducible refine (Zeo.calls kj1 _ _ l0_1 t177 false _ ?side1 ?side2 A15.o).mono ?_);(case side1=>exact cB HR0_1 HB);(case side2=>exact HC0_1.o);rintro e w38 ⟨v179,rfl,ho0,hb⟩;refine ⟨_,rfl,?_⟩;have HO180:=am (Kd.Zq ho0 (Zb pB));replace BK175:=bb BK175 hb;replace HB:=bS hb;obtain ⟨_,_,_,_,_,_⟩:=cEc BK175.o)|(go_at_call 110;(with_reducible refine (Zcv.calls kj1 _ _ l0_1 t181 _ ?side1 ?side2 A19.o).mono ?_);(case side1=>exact cB HR0_1 HB);(case side2=>exact HC0_1.o);rintro e w40 ⟨rfl,hb⟩;replace HO180:=rbl HO180 hb;replace BK175:=bb BK175 hb;replace HB:=bS hb;obtain ⟨_,_,_,_,_,_⟩:=cEc BK175.o))
         go_ret
         exact ⟨pE,pB⟩
def Zd2.f (k:Nat) (a0_0:Bool) (l0_1:List Int) (a0_2:Int):Option (Bool):=(Zbs.f k a0_0 l0_1 a0_2).bind fun t185=>(some (t185 != 0))
theorem Zd2.calls (k:Nat) (a0_0:Bool) (A0_1:Option Addr) (c0_1:Nat) (l0_1:List Int) (a0_2:Int) (r:Bool) (w:World) (hr0_1:Kd.C (Kd.int .u32) w A0_1 l0_1.length l0_1) (hc0_1:l0_1.length<=c0_1) (h:Zd2.f k a0_0 l0_1 a0_2=some r) :
  Calls Tryz.prog 124 #[.agg #[.bool a0_0,.slice A0_1 l0_1.length c0_1,.int .i64 a0_2]] w fun e w'=>e=.returned (.bool r)/\Below w.heap.size w w':=by
 have hu24:=Tryz.underlying24
 have HR0_1:=am hr0_1
 have HC0_1:=am hc0_1
 clear hr0_1 hc0_1
 have HB:=am (Below.refl w.heap.size w)
 have H:((Zbs.f k a0_0 l0_1 a0_2).bind fun t185=>(some (t185 != 0)))=some r:=h
 clear h
 obtain ⟨t185,A2,H⟩:=ob H
 obtain rfl:=Option.some.inj H
 go_enter Tryz.func124,Tryz.ntmps124
 go_wp2_with (first|((with_reducible refine gd 1 ?_);refine bx 1 #[.bool a0_0,.slice A0_1 l0_1.length c0_1,.int .i64 a0_2] 24 (h:=?_);intro gb184 hg w3 hbox hb;have BK184:=am hbox;have GW184:=gW hg;replace HB:=bS hb;clear hb hbox hg;obtain ⟨_,_,_,_,_,_⟩:=cEc BK184.o)|(refine gL (some 4) Tryz.func55 #[.agg #[.bool a0_0,.slice A0_1 l0_1.length c0_1,.int .i64 a0_2]] (h:=?_);(with_reducible refine (Zbs.calls k a0_0 _ _ l0_1 a0_2 t185 _ ?side1 ?side2 A2.o).mono ?_);(case side1=>exact cB HR0_1 HB);(case side2=>exact HC0_1.o);rintro e w5 ⟨rfl,hb⟩;refine ⟨_,rfl,?_⟩;replace BK184:=bb BK184 hb;replace HB:=bS hb))
 go_ret
 exact ⟨pE,pB⟩
end YtjbjkmccfocikaaGreatDoor.B
end
section
namespace YtjbjkmccfocikaaGreatDoor.B
open Go.RowKit YtjbjkmccfocikaaGreatDoorW.PrintWords YtjbjkmccfocikaaGreatDoor.P
def Zcb.f (k:Nat) (l:List S24):Option Bool:=anyO (fun x=>Zd2.f k x.f0 x.f1 x.f2) l
theorem Zcb.index (k:Nat) (A0:Option Addr) (c0:Nat) (l0:List S24) (b:Bool) (w:World) (hr0:Kd.C k24 w A0 l0.length l0) (hc0:l0.length<=c0) (h:Zcb.f k l0=some b) :
  Calls Tryz.prog 154 #[.slice A0 l0.length c0,.func (.func 124) #[] #[]] w fun e w'=>IdxR b e/\Below w.heap.size w w':=by
 have hm:l0.length<=9223372036854775807:=Kd.Zsl hr0
 have HR:=Aside0.mk hr0
 have HC:=Aside0.mk hc0
 unfold Zcb.f at h
 have H0:=Aside0.mk h
 obtain ⟨n,hn⟩:∃ n,l0.length=n:=⟨_,rfl⟩
 rw [hn] at hm
 have HN:=Aside0.mk hn
 clear h hr0 hc0
 rw [hn]
 clear hn
 go_enter Tryz.func154,Tryz.ntmps154
 go_wp2
 go_loopw [8] (fun i wr => ∃ k_:Nat,k_<=n/\i=.int .i64 k_/\Aside0 (anyO (fun x=>Zd2.f k x.f0 x.f1 x.f2) (l0.drop k_)=some b)/\Below w.heap.size w wr) (fun i _=>n - (intOf i).toNat)
 case atStart=>exact ⟨0,Nat.zero_le _,rfl,⟨H0.out⟩,Below.refl _ _⟩
 case round =>
  obtain ⟨q,hq,rfl,HP,hb⟩:=hrel
  by_cases hlt:q < n
  ·have hlt':(q:Int) < (n:Int):=by omega
   have hdrop:l0.drop q=(l0.getD q z24) :: l0.drop (q+1):=Zlz (by have := HN.out;omega)
   obtain ⟨x,hx⟩:∃ x,l0.getD q z24=x:=⟨_,rfl⟩
   have h1:=HP.out
   rw [hdrop,hx] at h1
   obtain ⟨t,ht,h2⟩:=Zjn h1
   obtain ⟨ad,c,hA,_,hK,hcc⟩:=Kd.Znd HR.out z24 (q:Int) (by omega) (by have := HN.out;omega)
   have hx':l0.getD (q:Int).toNat z24=x:=by rw [Int.toNat_natCast];exact hx
   rw [hx'] at hK
   obtain ⟨A1,c1,rfl,hl1,hg1⟩:=Zl4 hK
   have hcell0:=hcc 0 _ rfl
   have hcell1:=hcc 1 _ rfl
   have hcell2:=hcc 2 _ rfl
   obtain ⟨ad',c',hA',_,hK',hcc'⟩:=Kd.Znd HR.out z24 (0:Int) (by omega) (by have := HN.out;omega)
   obtain ⟨_,_,rfl,_⟩:=Zl4 hK'
   have hfirst:=hcc' 0 _ rfl
   obtain rfl:ad=ad':=Option.some.inj (hA.symm.trans hA')
   subst hA
   obtain ⟨b_,o_,rfl⟩:=Zlq (show w.cell? ad=_ from hfirst)
   have hck0:wr.cell? ⟨b_,o_+q*3,none⟩=some (.bool x.f0):=by
    have h3:=Zc4 hb hcell0
    rw [Ziw] at h3
    simpa [show k24.sz=3 from rfl,Nat.add_assoc] using h3
   have hck1:wr.cell? ⟨b_,o_+q*3+1,none⟩=some (.slice A1 x.f1.length c1):=by
    have h3:=Zc4 hb hcell1
    rw [Ziw] at h3
    simpa [show k24.sz=3 from rfl,Nat.add_assoc] using h3
   have hck2:wr.cell? ⟨b_,o_+q*3+2,none⟩=some (.int .i64 x.f2):=by
    have h3:=Zc4 hb hcell2
    rw [Ziw] at h3
    simpa [show k24.sz=3 from rfl,Nat.add_assoc] using h3
   have hgw:Kd.C (Kd.int .u32) wr A1 x.f1.length x.f1:=Kd.Zx hg1 hb
   have cF:=Zd2.calls k x.f0 A1 c1 x.f1 x.f2 t wr hgw hl1 ht
   obtain ⟨y0,hy0⟩:∃ y,x.f0=y:=⟨_,rfl⟩
   obtain ⟨y1,hy1⟩:∃ y,x.f1.length=y:=⟨_,rfl⟩
   obtain ⟨y2,hy2⟩:∃ y,x.f2=y:=⟨_,rfl⟩
   rw [hy0] at hck0 cF
   rw [hy1] at hck1 cF
   rw [hy2] at hck2 cF
   have HF:=Aside0.mk h2
   clear h1 hdrop hx hx' ht hcc hcell0 hcell1 hcell2 HP h2 hK hl1 hg1 hgw hy0 hy1 hy2 hfirst hcc' hA' hK'
   cases t with
   | true =>
    have HF1:=Aside0.mk (HF.out.1 rfl)
    clear HF
    go_wp2_with (go_at_call 124;refine (cF).mono ?_;rintro e w1 ⟨rfl,hb1⟩)
    go_ret
    exact ⟨Zof HF1.out q,hb.trans (hb1.mono hb.size)⟩
   | false =>
    have HF1:=Aside0.mk (HF.out.2 rfl)
    clear HF
    go_wp2_with (go_at_call 124;refine (cF).mono ?_;rintro e w1 ⟨rfl,hb1⟩)
    go_roundw
    case rel=>exact ⟨q+1,by omega,by go_num,HF1,hb.trans (hb1.mono hb.size)⟩
    case measure=>simp [intOf];omega
  ·obtain rfl:q=n:=by omega
   have h1:=HP.out
   rw [List.drop_of_length_le (by have := HN.out;omega)] at h1
   have h2:=Aside0.mk (Zls h1)
   clear h1
   go_wp2
   go_ret
   exact ⟨Zjy h2.out,hb⟩
theorem Zcb.calls (k:Nat) (A0:Option Addr) (c0:Nat) (l0:List S24) (r:Bool) (w:World) (hr0:Kd.C k24 w A0 l0.length l0) (hc0:l0.length<=c0) (h:Zcb.f k l0=some r) :
  Calls Tryz.prog 123 #[.slice A0 l0.length c0,.func (.func 124) #[] #[]] w fun e w'=>e=.returned (.bool r)/\Below w.heap.size w w':=by
 have cI:=Zcb.index k A0 c0 l0 r w hr0 hc0 h
 clear h hr0 hc0
 go_enter Tryz.func123,Tryz.ntmps123
 go_wp2_with (go_at_call 154;refine cI.mono ?_;rintro e w1 ⟨⟨i,rfl,hi⟩,hb1⟩)
 go_ret
 exact ⟨by rw [<- hi];first|rfl|simp,hb1⟩
end YtjbjkmccfocikaaGreatDoor.B
end
section
namespace YtjbjkmccfocikaaGreatDoor.B
open Go.RowKit YtjbjkmccfocikaaGreatDoorW.PrintWords YtjbjkmccfocikaaGreatDoorW.PrintLast YtjbjkmccfocikaaGreatDoorW.PrintMore
attribute [local go_sem] Zb5 Zb7 Zcs Zct Zbn Zbo Zb6 Zb8
def Zcl.f (a0_0:Bool) (l0_1:List Int) (a0_2:Int):Option (Bool):=some ((l0_1.length:Int) == 0)
theorem Zcl.calls (a0_0:Bool) (A0_1:Option Addr) (c0_1:Nat) (l0_1:List Int) (a0_2:Int) (r:Bool) (w:World) (hr0_1:Kd.C (Kd.int .u32) w A0_1 l0_1.length l0_1) (hc0_1:l0_1.length<=c0_1) (h:Zcl.f a0_0 l0_1 a0_2=some r) :
  Calls Tryz.prog 104 #[.agg #[.bool a0_0,.slice A0_1 l0_1.length c0_1,.int .i64 a0_2]] w fun e w'=>e=.returned (.bool r)/\Below w.heap.size w w':=by
 have hu106:=Tryz.underlying106
 have HR0_1:=am hr0_1
 have HC0_1:=am hc0_1
 clear hr0_1 hc0_1
 have HB:=am (Below.refl w.heap.size w)
 have H:(some ((l0_1.length:Int) == 0))=some r:=h
 clear h
 obtain rfl:=Option.some.inj H
 go_enter Tryz.func104,Tryz.ntmps104
 go_wp2_with (first|((with_reducible refine gd 1 ?_);refine bx 1 #[.bool a0_0,.slice A0_1 l0_1.length c0_1,.int .i64 a0_2] 106 (h:=?_);intro gb186 hg w2 hbox hb;have BK186:=am hbox;have GW186:=gW hg;replace HB:=bS hb;clear hb hbox hg;obtain ⟨_,_,_,_,_,_⟩:=cEc BK186.o))
 go_ret
 exact ⟨pE,pB⟩
def Zfo.f (l0:List Int) (a1:Int):Option (List Int):=some l0
theorem Zfo.calls (P0_:Nat->Prop) (u9000_:Value) (l0:List Int) (a1:Int) (r:List Int) (w0 w:World) (hB:Below w0.heap.size w0 w) (ho0:Kd.R (Kd.int .u32) 85 w w0.heap.size P0_ u9000_ l0) (h:Zfo.f l0 a1=some r) :
  Calls Tryz.prog 105 #[u9000_,.int .i64 a1] w fun e w' => ∃ v0_:Value,e=.returned (v0_)/\Kd.R (Kd.int .u32) 85 w' w0.heap.size (fun k_=>(P0_ k_\/w.heap.size<=k_)) v0_ r/\Below w0.heap.size w0 w'/\Kept w w' (fun k_=>P0_ k_):=by
 have HO0:=am (show Kd.R (Kd.int .u32) 85 w w0.heap.size (fun k_=>(P0_ k_\/w.heap.size<=k_)) u9000_ l0 from Kd.Zi ho0 (fun k_ hk=>(.inl hk)))
 have HK:=am (Kept.refl w (fun k_=>P0_ k_))
 have HW0:=am hB.size
 have HB:=am hB
 clear hB
 have H:(some l0)=some r:=h
 clear h
 obtain rfl:=Option.some.inj H
 go_enter Tryz.func105,Tryz.ntmps105
 go_wp2
 go_ret
 exact ⟨_,pE,by refine rp ?_;exact HO0.o,pB,by repeat (first|(with_reducible first|exact HK.out|apply Kept.alloc|apply Kept.drewN|apply Kept.drew)|exact HK.out)⟩
def Zeu.f (a0:ByteArray) (a1:Int):Option (ByteArray):=some a0
theorem Zeu.calls (a0:ByteArray) (a1:Int) (r:ByteArray) (w:World) (h:Zeu.f a0 a1=some r) :
  Calls Tryz.prog 111 #[.string a0,.int .i64 a1] w fun e w'=>e=.returned (.string r)/\Drawn0 w w':=by
 have H:(some a0)=some r:=h
 clear h
 obtain rfl:=Option.some.inj H
 go_enter Tryz.func111,Tryz.ntmps111
 go_wp2
 go_ret
 exact ⟨pR,pD⟩
def Zce.l0:Nat->Int->List Int->Int->Int->Option (Int)
 | 0,_,_,_,_=>none
 | k+1,x3,x7,x8,x9=>if x9 < x8 then (if 0<=x9 then (if x9 < (x7.length:Int) then (Zce.l0 k ((((x3*10) % 4294967296)+(((rd x7 x9) - 48) % 256)) % 4294967296) x7 x8 (wrap64 (x9+1))) else (none)) else (none)) else (some x3)
def Zce.f (k:Nat) (a0:ByteArray):Option (Int):=(Zb9.f a0).bind fun t240=>(Zce.l0 k 0 t240 (t240.length:Int) 0)
theorem Zce.calls (k:Nat) (a0:ByteArray) (r:Int) (w:World) (h:Zce.f k a0=some r) :
  Calls Tryz.prog 152 #[.string a0] w fun e w'=>e=.returned (.int .u32 r)/\Below w.heap.size w w':=by
 have HB:=am (Below.refl w.heap.size w)
 have H:((Zb9.f a0).bind fun t240=>(Zce.l0 k 0 t240 (t240.length:Int) 0))=some r:=h
 clear h
 obtain ⟨t240,A2,H⟩:=ob H
 have H':=am H
 clear H
 go_enter Tryz.func152,Tryz.ntmps152
 go_wp2_with (first|((with_reducible refine gd 7 ?_);refine Zb9.op _ _ _ rfl rfl rfl A2.o ?_;intro v241 w3 ho0 hb;have HO242:=am (Kd.Znx (Kd.Zdj (ok':=fun k_=>True) ho0 (fun k_ hk_=>trivial)) (Zb pB));replace HB:=bS hb;obtain ⟨Ao4,co4,eo4⟩:=Kd.Zhm HO242.o;subst eo4))
 go_loopg [3,9] k (fun kq v3 v9 w' => ∃ (x3_1:Int) (x9_1:Int),v3=.int .u32 x3_1/\v9=.int .i64 x9_1/\Aside0 (Zce.l0 kq x3_1 t240 (t240.length:Int) x9_1=some r)/\Aside0 (kq<=k)/\Aside0 (Kd.V (Kd.int .u8) 5 w' w.heap.size (fun _=>True) (.slice Ao4 t240.length co4) t240)/\Aside0 (Below w.heap.size w w'))
 case atStart=>exact ⟨(0),(0),pR,pR,H',⟨Nat.le_refl _⟩,⟨by refine vp ?_;exact HO242.o⟩,⟨pB⟩⟩
 case round =>
  clear H'
  obtain ⟨x3_1,x9_1,rfl,rfl,HA,HK1,HO_7,HB⟩:=hrel
  cases gk with
  | zero=>exact absurd HA.out (by simp [Zce.l0])
  | succ k1 =>
   have H:=HA.out
   clear HA
   simp only [Zce.l0] at H
   by_cases c5:x9_1 < (t240.length:Int)
   ·rw [if_pos c5] at H
    have c5b0:decide (x9_1 < (t240.length:Int))=true:=decide_eq_true c5
    clear c5
    by_cases c6:0<=x9_1
    ·rw [if_pos c6] at H
     have c6b0:decide (0<=x9_1)=true:=decide_eq_true c6
     clear c6
     by_cases c7:x9_1 < (t240.length:Int)
     ·rw [if_pos c7] at H
      have c7b0:decide (x9_1 < (t240.length:Int))=true:=decide_eq_true c7
      clear c7
      have H':=am H
      clear H
      have p243:0<=(x9_1:Int):=of_decide_eq_true pQ
      have q243:x9_1 < (t240.length:Int):=of_decide_eq_true pQ
      obtain ⟨ad243,e243,hx243_0⟩:=Kd.Za4 (Kd.Zck HO_7.o).2.2 x9_1 p243 q243
      cases e243
      replace p243:=eq_true p243
      replace q243:=eq_true q243
      go_wp2
      go_roundg k1
      case measure=>have := HK1.out;omega
      case rel=>exact ⟨((((x3_1*10) % 4294967296)+(((rd t240 x9_1) - 48) % 256)) % 4294967296),(wrap64 (x9_1+1)),pR,pR,H',⟨by have := HK1.out;omega⟩,⟨by refine vp ?_;exact HO_7.o⟩,⟨pB⟩⟩
     ·rw [if_neg c7] at H
      exact absurd H (by simp)
    ·rw [if_neg c6] at H
     exact absurd H (by simp)
   ·rw [if_neg c5] at H
    have c5b0:decide (x9_1 < (t240.length:Int))=false:=decide_eq_false c5
    clear c5
    obtain rfl:=Option.some.inj H
    go_wp2
    go_ret
    exact ⟨pE,pB⟩
def Zd0.f (a0:Int):Option (Bool):=if a0 < 48 then (some true) else (some (decide (a0 > 57)))
theorem Zd0.calls (a0:Int) (r:Bool) (w:World) (h:Zd0.f a0=some r) :
  Calls Tryz.prog 151 #[.int .u8 a0] w fun e w'=>e=.returned (.bool r)/\Drawn0 w w':=by
 have H:(if a0 < 48 then (some true) else (some (decide (a0 > 57))))=some r:=h
 clear h
 by_cases c2:a0 < 48
 ·rw [if_pos c2] at H
  have c2b0:decide (a0 < 48)=true:=decide_eq_true c2
  clear c2
  obtain rfl:=Option.some.inj H
  go_enter Tryz.func151,Tryz.ntmps151
  go_wp2
  go_ret
  exact ⟨pR,pD⟩
 ·rw [if_neg c2] at H
  have c2b0:decide (a0 < 48)=false:=decide_eq_false c2
  clear c2
  obtain rfl:=Option.some.inj H
  go_enter Tryz.func151,Tryz.ntmps151
  go_wp2
  go_ret
  exact ⟨pR,pD⟩
end YtjbjkmccfocikaaGreatDoor.B
end
section
namespace YtjbjkmccfocikaaGreatDoor.B
open Go.RowKit YtjbjkmccfocikaaGreatDoorW.PrintWords YtjbjkmccfocikaaGreatDoor.P
def Zb0.f (l:List Int):Option Bool:=anyO (fun x=>Zd0.f x) l
theorem Zb0.index (A0:Option Addr) (c0:Nat) (l0:List Int) (b:Bool) (w:World) (hr0:Kd.C (Kd.int .u8) w A0 l0.length l0) (hc0:l0.length<=c0) (h:Zb0.f l0=some b) :
  Calls Tryz.prog 182 #[.slice A0 l0.length c0,.func (.func 151) #[] #[]] w fun e w'=>IdxR b e/\Below w.heap.size w w':=by
 have hm:l0.length<=9223372036854775807:=Kd.Zsl hr0
 have HR:=Aside0.mk hr0
 have HC:=Aside0.mk hc0
 unfold Zb0.f at h
 have H0:=Aside0.mk h
 obtain ⟨n,hn⟩:∃ n,l0.length=n:=⟨_,rfl⟩
 rw [hn] at hm
 have HN:=Aside0.mk hn
 clear h hr0 hc0
 rw [hn]
 clear hn
 go_enter Tryz.func182,Tryz.ntmps182
 go_wp2
 go_loopw [8] (fun i wr => ∃ k_:Nat,k_<=n/\i=.int .i64 k_/\Aside0 (anyO (fun x=>Zd0.f x) (l0.drop k_)=some b)/\Below w.heap.size w wr) (fun i _=>n - (intOf i).toNat)
 case atStart=>exact ⟨0,Nat.zero_le _,rfl,⟨H0.out⟩,Below.refl _ _⟩
 case round =>
  obtain ⟨q,hq,rfl,HP,hb⟩:=hrel
  by_cases hlt:q < n
  ·have hlt':(q:Int) < (n:Int):=by omega
   have hdrop:l0.drop q=(l0.getD q (0:Int)) :: l0.drop (q+1):=Zlz (by have := HN.out;omega)
   obtain ⟨x,hx⟩:∃ x,l0.getD q (0:Int)=x:=⟨_,rfl⟩
   have h1:=HP.out
   rw [hdrop,hx] at h1
   obtain ⟨t,ht,h2⟩:=Zjn h1
   obtain ⟨ad,c,hA,_,hK,hcc⟩:=Kd.Znd HR.out (0:Int) (q:Int) (by omega) (by have := HN.out;omega)
   have hx':l0.getD (q:Int).toNat 0=x:=by rw [Int.toNat_natCast];exact hx
   obtain rfl:c=[.int .u8 (l0.getD (q:Int).toNat 0)]:=hK
   rw [hx'] at hcc
   have hcell0:=hcc 0 _ rfl
   obtain ⟨ad',c',hA',_,hK',hcc'⟩:=Kd.Znd HR.out (0:Int) (0:Int) (by omega) (by have := HN.out;omega)
   obtain rfl:c'=[.int .u8 (l0.getD (0:Int).toNat 0)]:=hK'
   have hfirst:=hcc' 0 _ rfl
   obtain rfl:ad=ad':=Option.some.inj (hA.symm.trans hA')
   subst hA
   obtain ⟨b_,o_,rfl⟩:=Zlq (show w.cell? ad=_ from hfirst)
   have hck:wr.cell? ⟨b_,o_+q,none⟩=some (.int .u8 x):=by
    have h3:=Zc4 hb hcell0
    rw [Ziw] at h3
    simpa [show (Kd.int .u8).sz=1 from rfl] using h3
   have cF:=fun W:World=>Zd0.calls x t W ht
   have HF:=Aside0.mk h2
   clear h1 hdrop hx hx' ht hcc hcell0 HP h2 hfirst hcc' hA'
   cases t with
   | true =>
    have HF1:=Aside0.mk (HF.out.1 rfl)
    clear HF
    go_wp2_with (go_at_call 151;refine (cF _).mono ?_;rintro e w1 ⟨rfl,hb1⟩)
    go_ret
    exact ⟨Zof HF1.out q,hb.trans (hb1.below.mono hb.size)⟩
   | false =>
    have HF1:=Aside0.mk (HF.out.2 rfl)
    clear HF
    go_wp2_with (go_at_call 151;refine (cF _).mono ?_;rintro e w1 ⟨rfl,hb1⟩)
    go_roundw
    case rel=>exact ⟨q+1,by omega,by go_num,HF1,hb.trans (hb1.below.mono hb.size)⟩
    case measure=>simp [intOf];omega
  ·obtain rfl:q=n:=by omega
   have h1:=HP.out
   rw [List.drop_of_length_le (by have := HN.out;omega)] at h1
   have h2:=Aside0.mk (Zls h1)
   clear h1
   go_wp2
   go_ret
   exact ⟨Zjy h2.out,hb⟩
theorem Zb0.calls (A0:Option Addr) (c0:Nat) (l0:List Int) (r:Bool) (w:World) (hr0:Kd.C (Kd.int .u8) w A0 l0.length l0) (hc0:l0.length<=c0) (h:Zb0.f l0=some r) :
  Calls Tryz.prog 150 #[.slice A0 l0.length c0,.func (.func 151) #[] #[]] w fun e w'=>e=.returned (.bool r)/\Below w.heap.size w w':=by
 have cI:=Zb0.index A0 c0 l0 r w hr0 hc0 h
 clear h hr0 hc0
 go_enter Tryz.func150,Tryz.ntmps150
 go_wp2_with (go_at_call 182;refine cI.mono ?_;rintro e w1 ⟨⟨i,rfl,hi⟩,hb1⟩)
 go_ret
 exact ⟨by rw [<- hi];first|rfl|simp,hb1⟩
end YtjbjkmccfocikaaGreatDoor.B
end
section
namespace YtjbjkmccfocikaaGreatDoor.B
open Go.RowKit YtjbjkmccfocikaaGreatDoorW.PrintWords YtjbjkmccfocikaaGreatDoorW.PrintLast YtjbjkmccfocikaaGreatDoorW.PrintMore
attribute [local go_sem] Zb5 Zb7 Zcs Zct Zbn Zbo Zb6 Zb8
def Za1.l0:Nat->ByteArray->List Int->Option (List Int × Int)
 | 0,_,_=>none
 | k+1,x0,x4=>if x0.toList=([]:List UInt8) then (some (x4,0)) else ((Zae.f k x4 (([1000000000]:List Int))).bind fun t251=>(if 0<=(wrap64 ((Int.tmod (wrap64 ((x0.size:Int) - 1)) 9)+1)) then (if (wrap64 ((Int.tmod (wrap64 ((x0.size:Int) - 1)) 9)+1))<=(x0.size:Int) then ((Zce.f k (x0.extract 0 ((wrap64 ((Int.tmod (wrap64 ((x0.size:Int) - 1)) 9)+1)):Int).toNat)).bind fun t254=>((Zv.f k (([t254]:List Int))).bind fun t258=>((Zac.f k t251 t258).bind fun t261=>(Za1.l0 k (x0.extract ((wrap64 ((Int.tmod (wrap64 ((x0.size:Int) - 1)) 9)+1)):Int).toNat x0.size) t261)))) else (none)) else (none)))
def Za1.f (k:Nat) (a0:ByteArray):Option (List Int × Int):=if (a0.size:Int)=0 then (some (([]:List Int),8)) else (if (a0.size:Int) > 2400 then (some (([]:List Int),5)) else ((Zb9.f a0).bind fun t244=>((Zb0.f t244).bind fun t247=>(if t247=true then (some (([]:List Int),32)) else (Za1.l0 k a0 ([]:List Int))))))
def Za1.T10:Bool × List (List Nat × List Nat):=(true,[([],[]),([],[]),([0,1],[0,1]),([],[]),([],[]),([3,4],[3,4]),([5,2],[5]),([6],[6]),([7,6],[7]),([2,8,8],[2,8]),([9,9,0,1,2,3,4,5,6,7,8,9],[0,9])])
def Za1.B10:List Nat:=[0,0,3,0,0,24,63,127,255,511,1023]
theorem Za1.tab10:rtab .any (opsOf Tryz.f116 10)=Za1.T10:=by kernel_rfl
theorem Za1.bits10:waitsOk Za1.T10.2 Za1.B10=true:=by kernel_rfl
theorem Za1.leaf {P:Prop} (h:P:=by
 go_enter Tryz.func116,Tryz.ntmps116
 go_wp2_with (first|((with_reducible refine gd 16 ?_);refine Zb9.op _ _ _ rfl rfl rfl A4.o ?_;intro v0z w1z ho2z hb;have HO3z:=am (Kd.Znx (Kd.Zdj (ok':=fun k_=>True) ho2z (fun k_ hk_=>trivial)) (Zb pB));replace HB:=bS hb;obtain ⟨Ao4z,co5z,eo6z⟩:=Kd.Zhm HO3z.o;subst eo6z)|(refine gL (some 17) Tryz.func150 #[.slice Ao4z t244.length co5z,.func (.func 151) #[] #[]] (h:=?_);(with_reducible refine (Zb0.calls _ _ t244 true _ ?side1 ?side2 A5.o).mono ?_);(case side1=>exact Kd.Zx (Kd.Zck HO3z.o).2.2 pl);(case side2=>exact (Kd.Zck HO3z.o).2.1);rintro e w7z ⟨rfl,hb⟩;refine ⟨_,rfl,?_⟩;replace HO3z:=vbl HO3z hb;replace HB:=bS hb)|(refine gL (some 17) Tryz.func150 #[.slice Ao4z t244.length co5z,.func (.func 151) #[] #[]] (h:=?_);(with_reducible refine (Zb0.calls _ _ t244 false _ ?side1 ?side2 A5.o).mono ?_);(case side1=>exact Kd.Zx (Kd.Zck HO3z.o).2.2 pl);(case side2=>exact (Kd.Zck HO3z.o).2.1);rintro e w7z ⟨rfl,hb⟩;refine ⟨_,rfl,?_⟩;replace HO3z:=vbl HO3z hb;replace HB:=bS hb))
 first
  | have q_:=A5;have q_:Aside0 (_=some false):=A5
    go_loopg [0,4] k (fun kq v8z v9z w' => ∃ (x10z:ByteArray) (x11z:List Int),v8z=.string x10z/\Aside0 (Za1.l0 kq x10z x11z=some (r1,r2))/\Aside0 (kq<=k)/\Aside0 (Kd.R (Kd.int .u32) 85 w' w.heap.size (fun _=>True) v9z x11z)/\Aside0 (Below w.heap.size w w'))
    case atStart=>exact ⟨(a0),(([]:List Int)),pR,H',⟨Nat.le_refl _⟩,⟨pN⟩,⟨pB⟩⟩
    case round =>
     clear H'
     obtain ⟨x10z,x11z,rfl,HA,HK12z,HO_4,HB⟩:=hrel
     cases gk with
     | zero=>exact absurd HA.out (by simp [Za1.l0])
     | succ k1 =>
      have H:=HA.out
      clear HA
      simp only [Za1.l0] at H
      by_cases c13z:x10z.toList=([]:List UInt8)
      ·rw [if_pos c13z] at H
       have c14z:(x10z.toList == ([]:List UInt8))=true:=beq_iff_eq.mpr c13z
       have c15z:(x10z.toList != ([]:List UInt8))=false:=bne_eq_false_iff_eq.mpr c13z
       clear c13z
       simp only [Option.some.injEq,Prod.mk.injEq] at H
       obtain ⟨rfl,rfl⟩:=H
       go_wp2
       go_ret2
       exact ⟨_,pE,by refine rp ?_;exact HO_4.o,pB⟩
      ·rw [if_neg c13z] at H
       have c14z:(x10z.toList == ([]:List UInt8))=false:=beq_eq_false_iff_ne.mpr c13z
       have c15z:(x10z.toList != ([]:List UInt8))=true:=bne_iff_ne.mpr c13z
       obtain ⟨y16z,hy17z⟩:∃ y_:List Int,y_=(([1000000000]:List Int)):=⟨_,rfl⟩
       replace H:((Zae.f k1 x11z y16z).bind fun t18z=>(if 0<=(wrap64 ((Int.tmod (wrap64 ((x10z.size:Int) - 1)) 9)+1)) then (if (wrap64 ((Int.tmod (wrap64 ((x10z.size:Int) - 1)) 9)+1))<=(x10z.size:Int) then ((Zce.f k1 (x10z.extract 0 ((wrap64 ((Int.tmod (wrap64 ((x10z.size:Int) - 1)) 9)+1)):Int).toNat)).bind fun t19z=>((Zv.f k1 (([t19z]:List Int))).bind fun t20z=>((Zac.f k1 t18z t20z).bind fun t21z=>(Za1.l0 k1 (x10z.extract ((wrap64 ((Int.tmod (wrap64 ((x10z.size:Int) - 1)) 9)+1)):Int).toNat x10z.size) t21z)))) else (none)) else (none)))=some (r1,r2):=by have hy_:=hy17z;exact pH
       have Ny22z:=am hy17z
       clear hy17z
       obtain ⟨t18z,A23z,H⟩:=ob H
       obtain ⟨ji24z,hji25z⟩:∃ j_:Int,(wrap64 ((Int.tmod (wrap64 ((x10z.size:Int) - 1)) 9)+1))=j_:=⟨_,rfl⟩
       replace H:(if 0<=(ji24z) then (if (ji24z)<=(x10z.size:Int) then ((Zce.f k1 (x10z.extract 0 ((ji24z):Int).toNat)).bind fun t19z=>((Zv.f k1 (([t19z]:List Int))).bind fun t20z=>((Zac.f k1 t18z t20z).bind fun t21z=>(Za1.l0 k1 (x10z.extract ((ji24z):Int).toNat x10z.size) t21z)))) else (none)) else (none))=some (r1,r2):=by first|(rw [hji25z] at H;exact H)|(simp only [hji25z] at H ⊢;exact H)
       (try rw [hji25z] at A23z)
       have hji26z:(IntKind.i64.wrap ((Int.tmod (wrap64 ((x10z.size:Int) - 1)) 9)+1))=ji24z:=(Zcd _).trans hji25z
       by_cases c27z:0<=(ji24z)
       ·rw [if_pos c27z] at H
        have c28z:=eq_true c27z
        have c29z:decide (0<=(ji24z))=true:=decide_eq_true c27z
        clear c27z
        by_cases c30z:(ji24z)<=(x10z.size:Int)
        ·rw [if_pos c30z] at H
         have c31z:=eq_true c30z
         have c32z:decide ((ji24z)<=(x10z.size:Int))=true:=decide_eq_true c30z
         clear c30z
         obtain ⟨t19z,A33z,H⟩:=ob H
         obtain ⟨y34z,hy35z⟩:∃ y_:List Int,y_=(([t19z]:List Int)):=⟨_,rfl⟩
         replace H:((Zv.f k1 y34z).bind fun t20z=>((Zac.f k1 t18z t20z).bind fun t21z=>(Za1.l0 k1 (x10z.extract ((ji24z):Int).toNat x10z.size) t21z)))=some (r1,r2):=by have hy_:=hy35z;exact pH
         have Ny36z:=am hy35z
         clear hy35z
         obtain ⟨t20z,A37z,H⟩:=ob H
         obtain ⟨t21z,A38z,H⟩:=ob H
         have c39z:=eq_true (of_decide_eq_true pQ:0<=(ji24z))
         have c40z:=eq_true (of_decide_eq_true pQ:(ji24z)<=(x10z.size:Int))
         have H':=am H
         clear H
         try go_wp2
         replace HO_4:=am (Kd.Zem HO_4.o)
         replace HB:=am (Zaz HB.o)
         refine start_ (n:=11) (S:=fun w'=>True) (ds:=[]) #[false,false,false,false,false,false,false,false,false,false,false] (by kernel_rfl) rfl rfl trivial (fun hHeld=>?_);refine Zcq Za1.tab10 Za1.bits10 (fun HT_ HW_=>?_)
         generalize wr.drew=w41z at HO_4 HB hHeld ⊢
         refine pu 0 (some 25) #[true,false,false,false,false,false,false,false,false,false,false] (h:=?_)
         refine pu 3 (some 28) #[true,false,false,true,false,false,false,false,false,false,false] (h:=?_)
         refine pu 4 (some 29) #[true,false,false,true,true,false,false,false,false,false,false] (h:=?_)
         refine pu 5 (some 30) #[true,false,false,true,true,true,false,false,false,false,false] (h:=?_)
         refine one_ (i:=1) (N:=some 26) #[true,true,false,true,true,true,false,false,false,false,false] rfl rfl (Zbw HT_.out (by kernel_rfl)) (by decide) (fun K hK=>?_)
         refine Kd.Zic (Kd.int .u32) _ 85 ?hg (N:=26) ?hd (xs:=([1000000000]:List Int)) (inner:=[.int .u32 1000000000]) (ok:=fun _=>True) (okp:=fun _=>True) ?hr ?hp (fun _ hk=>hk) trivial (Below.refl _ _) (Nat.le_refl _) (by simp) ?_;(case hd=>rfl);(case hg=>rfl);(case hr=>first|(go_simp;done)|(go_simp;rfl));(case hp=>exact (Reps.one (show Kd.M (Kd.int .u32) _ _ _ 1000000000 [.int .u32 1000000000] from rfl) (Reps.none _ _)))
         intro v42z w43z ho44z hb hg_ hnew_
         clear hg_ hnew_
         (first|rw [<- Ny22z.out] at ho44z|(simp only [Int.reduceToNat] at ho44z;rw [<- Ny22z.out] at ho44z))
         have HO45z:=am (Kd.Zq (Kd.Zr ho44z (Kd.R_lt (Kd.Za HO_4.o pl))) (Zb pB))
         replace HO_4:=reR HO_4 ho44z hb
         replace HB:=bS hb
         clear hb ho44z
         obtain ⟨Ao46z,co47z,eo48z⟩:=Kd.Zj HO_4.o
         (first|subst eo48z|(injection eo48z with f1_ f2_ f3_;have f4_:=f1_.symm;have f5_:=f3_.symm;clear f1_ f2_ f3_;subst f4_;subst f5_))
         obtain ⟨Ao49z,co50z,eo51z⟩:=Kd.Zj HO45z.o
         (first|subst eo51z|(injection eo51z with f1_ f2_ f3_;have f4_:=f1_.symm;have f5_:=f3_.symm;clear f1_ f2_ f3_;subst f4_;subst f5_))
         refine hK.out _ _ trivial (fun hHeld=>?_)
         clear hK K
         refine norm_ (a':=?_) ?_ ?_
         rotate_left
         ·show Act.put _ (some 26) _=_
          exact pP
         refine one_ (i:=2) (N:=some 27) #[true,true,true,true,true,true,false,false,false,false,false] rfl rfl (Zbw HT_.out (by kernel_rfl)) (by decide) (fun K hK=>?_)
         refine goes_ Tryz.func129 (by kernel_rfl) rfl #[.slice Ao46z x11z.length co47z,.slice Ao49z y16z.length co50z] (by rfl) rfl rfl pA ?_
         with_reducible refine (Zae.calls k1 _ _ x11z _ _ y16z t18z _ ?side1 ?side2 ?side3 ?side4 A23z.o).mono ?_
         (case side1=>exact Kd.Zx (Kd.Zd HO_4.o).2.2 pl)
         (case side2=>exact (Kd.Zd HO_4.o).2.1)
         (case side3=>exact Kd.Zx (Kd.Zd HO45z.o).2.2 pl)
         (case side4=>exact (Kd.Zd HO45z.o).2.1)
         rintro e w52z ⟨v53z,rfl,ho2z,hb⟩
         refine ⟨_,rfl,?_⟩
         have HO54z:=am (Kd.Zq (Kd.Zr (Kd.Zr ho2z (Kd.R_lt (Kd.Za HO_4.o pl))) (Kd.R_lt (Kd.Za HO45z.o pl))) (Zb pB))
         replace HO_4:=reR HO_4 ho2z hb
         replace HO45z:=reR HO45z ho2z hb
         replace HB:=bS hb
         refine hK.out _ _ trivial (fun hHeld=>?_)
         clear hK K
         refine norm_ (a':=?_) ?_ ?_
         rotate_left
         ·show Act.put _ (some 27) _=_
          exact pP
         refine one_ (i:=6) (N:=some 31) #[true,true,true,true,true,true,true,false,false,false,false] rfl rfl (Zbw HT_.out (by kernel_rfl)) (by decide) (fun K hK=>?_)
         refine goes_ Tryz.func152 (by kernel_rfl) rfl #[.string (x10z.extract 0 ((ji24z):Int).toNat)] (by rfl) rfl rfl (by (try simp only [List.map_toArray,List.map_cons,List.map_nil]);first|done|(simp only [hji25z];rfl)|rfl|(simp only [List.length_drop,List.length_take];rfl)) ?_
         with_reducible refine (Zce.calls k1 (x10z.extract 0 ((ji24z):Int).toNat) t19z _ A33z.o).mono ?_
         rintro e w55z ⟨rfl,hb⟩
         refine ⟨_,rfl,?_⟩
         replace HO_4:=rbl HO_4 hb
         replace HO45z:=rbl HO45z hb
         replace HO54z:=rbl HO54z hb
         replace HB:=bS hb
         refine hK.out _ _ trivial (fun hHeld=>?_)
         clear hK K
         refine norm_ (a':=?_) ?_ ?_
         rotate_left
         ·show Act.put _ (some 31) _=_
          exact pP
         refine one_ (i:=7) (N:=some 32) #[true,true,true,true,true,true,true,true,false,false,false] rfl rfl (Zbw HT_.out (by kernel_rfl)) (by decide) (fun K hK=>?_)
         refine Kd.Zic (Kd.int .u32) _ 85 ?hg (N:=32) ?hd (xs:=([t19z]:List Int)) (inner:=[.int .u32 t19z]) (ok:=fun _=>True) (okp:=fun _=>True) ?hr ?hp (fun _ hk=>hk) trivial (Below.refl _ _) (Nat.le_refl _) (by simp) ?_;(case hd=>rfl);(case hg=>rfl);(case hr=>first|(go_simp;done)|(go_simp;rfl));(case hp=>exact (Reps.one (show Kd.M (Kd.int .u32) _ _ _ t19z [.int .u32 t19z] from rfl) (Reps.none _ _)))
         intro v56z w57z ho58z hb hg_ hnew_
         clear hg_ hnew_
         (first|rw [<- Ny36z.out] at ho58z|(simp only [Int.reduceToNat] at ho58z;rw [<- Ny36z.out] at ho58z))
         have HO59z:=am (Kd.Zq (Kd.Zr (Kd.Zr (Kd.Zr ho58z (Kd.R_lt (Kd.Za HO_4.o pl))) (Kd.R_lt (Kd.Za HO45z.o pl))) (Kd.R_lt (Kd.Za HO54z.o pl))) (Zb pB))
         replace HO_4:=reR HO_4 ho58z hb
         replace HO45z:=reR HO45z ho58z hb
         replace HO54z:=reR HO54z ho58z hb
         replace HB:=bS hb
         clear hb ho58z
         obtain ⟨Ao60z,co61z,eo62z⟩:=Kd.Zj HO59z.o
         (first|subst eo62z|(injection eo62z with f1_ f2_ f3_;have f4_:=f1_.symm;have f5_:=f3_.symm;clear f1_ f2_ f3_;subst f4_;subst f5_))
         refine hK.out _ _ trivial (fun hHeld=>?_)
         clear hK K
         refine norm_ (a':=?_) ?_ ?_
         rotate_left
         ·show Act.put _ (some 32) _=_
          exact pP
         refine one_ (i:=8) (N:=some 33) #[true,true,true,true,true,true,true,true,true,false,false] rfl rfl (Zbw HT_.out (by kernel_rfl)) (by decide) (fun K hK=>?_)
         refine goes_ Tryz.func132 (by kernel_rfl) rfl #[.slice Ao60z y34z.length co61z] (by rfl) rfl rfl pA ?_
         with_reducible refine (Zv.calls k1 (fun k_=>some k_=(.slice Ao60z y34z.length co61z:Value).ownBlock) (.slice Ao60z y34z.length co61z) y34z t20z w _ ?side1 ?side2 A37z.o).mono ?_
         (case side1=>exact pB)
         (case side2=>exact Kd.Zbl rfl HO59z.o)
         rintro e w63z ⟨v64z,rfl,ho2z,hb,hkp⟩
         refine ⟨_,rfl,?_⟩
         have HO65z:=am (Kd.Zi (ok':=fun k_=>some k_ ≠ (.slice Ao46z x11z.length co47z:Value).ownBlock/\some k_ ≠ (.slice Ao49z y16z.length co50z:Value).ownBlock/\some k_ ≠ (v53z:Value).ownBlock) ho2z (fun k_ hk_=>⟨Or.elim hk_ (fun hs_=>fun e_=>(((HO_4.o).1 k_ e_.symm).2) hs_) (fun hn_=>(Kd.fresh' (Kd.R_lt (Kd.Za HO_4.o pl)) k_ hn_)),Or.elim hk_ (fun hs_=>fun e_=>(((HO45z.o).1 k_ e_.symm).2) hs_) (fun hn_=>(Kd.fresh' (Kd.R_lt (Kd.Za HO45z.o pl)) k_ hn_)),Or.elim hk_ (fun hs_=>fun e_=>(((HO54z.o).1 k_ e_.symm).2) hs_) (fun hn_=>(Kd.fresh' (Kd.R_lt (Kd.Za HO54z.o pl)) k_ hn_))⟩))
         replace HO_4:=am (Kd.Zi (ok':=fun k_=>some k_ ≠ (.slice Ao49z y16z.length co50z:Value).ownBlock/\some k_ ≠ (v53z:Value).ownBlock/\some k_ ≠ (v64z:Value).ownBlock) (Kd.Zcc (HO_4.o) hkp (fun k_ hk_ hs_=>(hk_.2) hs_)) (fun k_ hk_=>⟨hk_.1.1.1.2,hk_.1.1.2,fun e_=>Or.elim (ho2z.1 k_ e_.symm) (fun hs_=>hk_.2.1 hs_) (fun hn_=>Nat.not_le.2 hk_.2.2 hn_)⟩))
         replace HO45z:=am (Kd.Zi (ok':=fun k_=>some k_ ≠ (.slice Ao46z x11z.length co47z:Value).ownBlock/\some k_ ≠ (v53z:Value).ownBlock/\some k_ ≠ (v64z:Value).ownBlock) (Kd.Zcc (HO45z.o) hkp (fun k_ hk_ hs_=>(hk_.2) hs_)) (fun k_ hk_=>⟨hk_.1.1.1.2,hk_.1.1.2,fun e_=>Or.elim (ho2z.1 k_ e_.symm) (fun hs_=>hk_.2.1 hs_) (fun hn_=>Nat.not_le.2 hk_.2.2 hn_)⟩))
         replace HO54z:=am (Kd.Zi (ok':=fun k_=>some k_ ≠ (.slice Ao46z x11z.length co47z:Value).ownBlock/\some k_ ≠ (.slice Ao49z y16z.length co50z:Value).ownBlock/\some k_ ≠ (v64z:Value).ownBlock) (Kd.Zcc (HO54z.o) hkp (fun k_ hk_ hs_=>(hk_.2) hs_)) (fun k_ hk_=>⟨hk_.1.1.1.2,hk_.1.1.2,fun e_=>Or.elim (ho2z.1 k_ e_.symm) (fun hs_=>hk_.2.1 hs_) (fun hn_=>Nat.not_le.2 hk_.2.2 hn_)⟩))
         replace HB:=am hb
         clear HO59z
         obtain ⟨Ao66z,co67z,eo68z⟩:=Kd.Zj HO54z.o
         (first|subst eo68z|(injection eo68z with f1_ f2_ f3_;have f4_:=f1_.symm;have f5_:=f3_.symm;clear f1_ f2_ f3_;subst f4_;subst f5_))
         obtain ⟨Ao69z,co70z,eo71z⟩:=Kd.Zj HO65z.o
         (first|subst eo71z|(injection eo71z with f1_ f2_ f3_;have f4_:=f1_.symm;have f5_:=f3_.symm;clear f1_ f2_ f3_;subst f4_;subst f5_))
         refine hK.out _ _ trivial (fun hHeld=>?_)
         clear hK K
         refine norm_ (a':=?_) ?_ ?_
         rotate_left
         ·show Act.put _ (some 33) _=_
          exact pP
         refine one_ (i:=9) (N:=some 34) #[true,true,true,true,true,true,true,true,true,true,false] rfl rfl (Zbw HT_.out (by kernel_rfl)) (by decide) (fun K hK=>?_)
         refine goes_ Tryz.func131 (by kernel_rfl) rfl #[.slice Ao66z t18z.length co67z,.slice Ao69z t20z.length co70z] (by rfl) rfl rfl pA ?_
         with_reducible refine (Zac.calls k1 _ _ t18z _ _ t20z t21z _ ?side1 ?side2 ?side3 ?side4 A38z.o).mono ?_
         (case side1=>exact Kd.Zx (Kd.Zd HO54z.o).2.2 pl)
         (case side2=>exact (Kd.Zd HO54z.o).2.1)
         (case side3=>exact Kd.Zx (Kd.Zd HO65z.o).2.2 pl)
         (case side4=>exact (Kd.Zd HO65z.o).2.1)
         rintro e w72z ⟨v73z,rfl,ho2z,hb⟩
         refine ⟨_,rfl,?_⟩
         have HO74z:=am (Kd.Zq (Kd.Zr (Kd.Zr (Kd.Zr (Kd.Zr ho2z (Kd.R_lt (Kd.Za HO_4.o pl))) (Kd.R_lt (Kd.Za HO45z.o pl))) (Kd.R_lt (Kd.Za HO54z.o pl))) (Kd.R_lt (Kd.Za HO65z.o pl))) (Zb pB))
         replace HO_4:=reR HO_4 ho2z hb
         replace HO45z:=reR HO45z ho2z hb
         replace HO54z:=reR HO54z ho2z hb
         replace HO65z:=reR HO65z ho2z hb
         replace HB:=bS hb
         refine hK.out _ _ trivial (fun hHeld=>?_)
         clear hK K
         refine norm_ (a':=?_) ?_ ?_
         rotate_left
         ·show Act.put _ (some 34) _=_
          exact pP
         refine pu 10 (some 4) #[true,true,true,true,true,true,true,true,true,true,true] (h:=?_)
         refine done_ (Zdl HT_.out (by kernel_rfl)) ?_
         try go_wp2
         go_roundg k1
         case measure=>have := HK12z.out;omega
         case rel=>exact ⟨(x10z.extract ((ji24z):Int).toNat x10z.size),(t21z),(by first|rfl|(simp;done)|(simp only [<- hji25z] <;> (first|rfl|simp))|(simp [*];done)),(by first|exact H'|(have H_:=H'.out;simp only [<- hji25z] at H_;exact ⟨H_⟩)|(refine ⟨?_⟩;have H_:=H'.out;simp only [<- hji25z] at H_ ⊢;exact H_)),⟨by have := HK12z.out;omega⟩,⟨by refine rp ?_;exact Kd.Zi HO74z.o (fun _ hk=>trivial)⟩,⟨pB⟩⟩
        ·rw [if_neg c30z] at H
         exact absurd H (by simp)
       ·rw [if_neg c27z] at H
        exact absurd H (by simp)
  | go_ret2
    exact ⟨_,pE,pN,pB⟩):P:=h
theorem Za1.calls (k:Nat) (a0:ByteArray) (r1:List Int) (r2:Int) (w:World) (h:Za1.f k a0=some (r1,r2)) :
  Calls Tryz.prog 116 #[.string a0] w fun e w' => ∃ v0_:Value,e=.returned (.tuple #[v0_,.int .i64 r2])/\Kd.R (Kd.int .u32) 85 w' w.heap.size (fun _=>True) v0_ r1/\Below w.heap.size w w':=by
 have HB:=am (Below.refl w.heap.size w)
 have H:(if (a0.size:Int)=0 then (some (([]:List Int),8)) else (if (a0.size:Int) > 2400 then (some (([]:List Int),5)) else ((Zb9.f a0).bind fun t244=>((Zb0.f t244).bind fun t247=>(if t247=true then (some (([]:List Int),32)) else (Za1.l0 k a0 ([]:List Int)))))))=some (r1,r2):=h
 clear h
 by_cases c2:(a0.size:Int)=0
 ·rw [if_pos c2] at H
  have c2b0:((a0.size:Int) == 0)=true:=beq_iff_eq.mpr c2
  have c2b1:((a0.size:Int) != 0)=false:=bne_eq_false_iff_eq.mpr c2
  clear c2
  simp only [Option.some.injEq,Prod.mk.injEq] at H
  obtain ⟨rfl,rfl⟩:=H
  exact Za1.leaf
 ·rw [if_neg c2] at H
  have c2b0:((a0.size:Int) == 0)=false:=beq_eq_false_iff_ne.mpr c2
  have c2b1:((a0.size:Int) != 0)=true:=bne_iff_ne.mpr c2
  by_cases c3:(a0.size:Int) > 2400
  ·rw [if_pos c3] at H
   have c3b0:decide (2400 < (a0.size:Int))=true:=decide_eq_true c3
   have c3b1:decide (2400 < a0.size)=true:=decide_eq_true (by omega)
   clear c3
   simp only [Option.some.injEq,Prod.mk.injEq] at H
   obtain ⟨rfl,rfl⟩:=H
   exact Za1.leaf
  ·rw [if_neg c3] at H
   have c3b0:decide (2400 < (a0.size:Int))=false:=decide_eq_false c3
   have c3b1:decide (2400 < a0.size)=false:=decide_eq_false (by omega)
   clear c3
   obtain ⟨t244,A4,H⟩:=ob H
   obtain ⟨t247,A5,H⟩:=ob H
   by_cases c6:t247=true
   ·subst c6
    rw [if_pos rfl] at H
    simp only [Option.some.injEq,Prod.mk.injEq] at H
    obtain ⟨rfl,rfl⟩:=H
    exact Za1.leaf
   ·replace c6:=Bool.eq_false_iff.mpr c6
    subst c6
    rw [if_neg (show ¬ (false=true) by decide)] at H
    have H':=am H
    clear H
    exact Za1.leaf
end YtjbjkmccfocikaaGreatDoor.B
end
section
namespace YtjbjkmccfocikaaGreatDoor.B
open Go.RowKit Go.Shelf YtjbjkmccfocikaaGreatDoorW.PrintWords
def Zb4.f (s t:ByteArray):Option ByteArray:=if t=⟨#[48]⟩/\s.size<=9223372036854775807 then some ⟨(Lib.trimRightB s.data.toList 48).toArray⟩ else none
theorem Zb4.calls (a0 a1:ByteArray) (r:ByteArray) (w:World) (h:Zb4.f a0 a1=some r) :
  Calls Tryz.prog 167 #[.string a0,.string a1] w fun e w'=>e=.returned (.string r)/\Below w.heap.size w w':=by
 unfold Zb4.f at h
 split at h
 ·rename_i hh
  obtain ⟨rfl,hs⟩:=hh
  obtain rfl:=Option.some.inj h
  exact (Tryz.strings_TrimRight_one a0 48 (by decide) w hs).mono fun e w' ⟨he,hw⟩=>⟨he,by subst hw;exact Below.refl _ _⟩
 ·cases h
end YtjbjkmccfocikaaGreatDoor.B
end
section
namespace YtjbjkmccfocikaaGreatDoor.B
open Go.RowKit YtjbjkmccfocikaaGreatDoorW.PrintWords YtjbjkmccfocikaaGreatDoorW.PrintLast YtjbjkmccfocikaaGreatDoorW.PrintMore
attribute [local go_sem] Zb5 Zb7 Zcs Zct Zbn Zbo Zb6 Zb8
def Zbv.f (k:Nat) (a0_0:Bool) (l0_1:List Int) (a0_2:Int):Option (Bool × List Int × Int):=(Zat.f k l0_1).bind fun bt266=>((Zeu.f bt266.1 bt266.2).bind fun t268=>((Zb4.f t268 (⟨#[48]⟩:ByteArray)).bind fun t269=>(if (t269.size:Int)=(t268.size:Int) then (some (a0_0,l0_1,a0_2)) else ((Za1.f k t269).bind fun bt270=>((Zfo.f bt270.1 bt270.2).bind fun t274=>(some (a0_0,t274,wrap64 (a0_2+(wrap64 ((t268.size:Int) - (t269.size:Int)))))))))))
theorem Zbv.leaf {P:Prop} (h:P:=by
 obtain ⟨Ao0z,co1z,eo2z⟩:=Kd.Zj HO0_1.o
 subst eo2z
 go_enter Tryz.func140,Tryz.ntmps140
 go_wp2_with (first|((with_reducible refine gd 1 ?_);refine bx 1 #[.bool a0_0,.slice Ao0z l0_1.length co1z,.int .i64 a0_2] 106 (h:=?_);intro gb3z hg w4z hbox hb;have BK5z:=am hbox;have GW6z:=am ((by rw [hg];exact (by first|exact HK.out.1|exact (show Kept w _ (fun k_=>P0_1_ k_) from by repeat (first|(with_reducible first|exact HK.out|apply Kept.alloc|apply Kept.drewN|apply Kept.drew)|exact HK.out)).1):w.heap.size<=gb3z));have GE7z:=am ((gw hg pB:w0.heap.size<=gb3z));replace HO0_1:=rbl HO0_1 hb;replace HK:=am (Kept.below (S:=(fun k_=>P0_1_ k_)) (by repeat (first|(with_reducible first|exact HK.out|apply Kept.alloc|apply Kept.drewN|apply Kept.drew)|exact HK.out)) hb);replace HB:=bS hb;clear hb hbox hg)|((with_reducible refine gd 2 ?_);refine bx 2 #[.bool false,.slice none 0 0,.int .i64 0] 106 (h:=?_);intro gb8z hg w9z hbox hb;have BK10z:=am hbox;have GW11z:=am ((by rw [hg];exact (by first|exact HK.out.1|exact (show Kept w _ (fun k_=>P0_1_ k_) from by repeat (first|(with_reducible first|exact HK.out|apply Kept.alloc|apply Kept.drewN|apply Kept.drew|refine Kept.setCell ?_ (.inr GW6z.o) _)|exact HK.out)).1):w.heap.size<=gb8z));have GE12z:=am ((gw hg pB:w0.heap.size<=gb8z));have NB13z:=nL hg BK5z;have NB14z:=nG hg BK5z;replace HO0_1:=rbl HO0_1 hb;replace BK5z:=bb BK5z hb;replace HK:=am (Kept.below (S:=(fun k_=>P0_1_ k_)) (by repeat (first|(with_reducible first|exact HK.out|apply Kept.alloc|apply Kept.drewN|apply Kept.drew|refine Kept.setCell ?_ (.inr GW6z.o) _)|exact HK.out)) hb);replace HB:=bS hb;clear hb hbox hg;have hnb15z:=NB13z.o;have hnc16z:=NB14z.o;obtain ⟨_,_,_,_,_,_⟩:=cEc BK5z.o)|(refine gL (some 8) Tryz.func112 #[.slice Ao0z l0_1.length co1z] (h:=?_);(with_reducible refine (Zat.calls k (fun k_=>some k_=(.slice Ao0z l0_1.length co1z:Value).ownBlock) _ _ l0_1 t266 t267 _ ?side1 A2.o).mono ?_);(case side1=>exact Kd.R_V (Kd.Zbl rfl (Kd.Zaa (Kd.Zaa (HO0_1.o) BK5z.o (by decide)) BK10z.o (by decide))));rintro e w23z ⟨rfl,hb⟩;refine ⟨_,rfl,?_⟩;replace HO0_1:=rbl HO0_1 hb;replace BK5z:=bb BK5z hb;replace BK10z:=bb BK10z hb;replace HK:=am (Kept.below (S:=(fun k_=>P0_1_ k_)) (by repeat (first|(with_reducible first|exact HK.out|apply Kept.alloc|apply Kept.drewN|apply Kept.drew|refine Kept.setCell ?_ (.inr GW6z.o) _|refine Kept.setCell ?_ (.inr GW11z.o) _)|exact HK.out)) hb);replace HB:=bS hb)|(refine gL (some 11) Tryz.func111 #[.string t266,.int .i64 t267] (h:=?_);(with_reducible refine (Zeu.calls t266 t267 t268 _ A3.o).mono ?_);rintro e w' ⟨rfl,⟨nd,rfl⟩⟩;refine ⟨_,rfl,?_⟩;(try (rw [Zgt w23z];generalize hq_:World.drewN w23z _=w23z;replace HO0_1:Aside0 (Kd.R (Kd.int .u32) 85 w23z w0.heap.size (fun k_=>(P0_1_ k_\/w.heap.size<=k_)) (.slice Ao0z l0_1.length co1z) l0_1):=⟨by rw [<- hq_];exact (Kd.Za HO0_1.o pl)⟩;replace BK5z:Aside0 (w23z.heap[gb3z]? = some (.cells #[.bool a0_0,.slice Ao0z l0_1.length co1z,.int .i64 a0_2] 106 (0,0))):=⟨by rw [<- hq_];exact (Zc BK5z.o pl)⟩;replace BK10z:Aside0 (w23z.heap[gb8z]? = some (.cells #[.bool false,.slice none 0 0,.int .i64 0] 106 (0,0))):=⟨by rw [<- hq_];exact (Zc BK10z.o pl)⟩;replace HK:Aside0 (Kept w w23z (fun k_=>P0_1_ k_)):=⟨by rw [<- hq_];exact (by repeat (first|(with_reducible first|exact HK.out|apply Kept.alloc|apply Kept.drewN|apply Kept.drew|refine Kept.setCell ?_ (.inr GW6z.o) _|refine Kept.setCell ?_ (.inr GW11z.o) _)|exact HK.out))⟩;replace HB:Aside0 (Below w0.heap.size w0 w23z):=⟨by rw [<- hq_];exact pB⟩;clear hq_)))|((have q_:=A16;clear q_);refine gL (some 13) Tryz.func167 #[.string t268,.string (⟨#[48]⟩:ByteArray)] (h:=?_);(with_reducible refine (Zb4.calls t268 (⟨#[48]⟩:ByteArray) t269 _ A4.o).mono ?_);rintro e w24z ⟨rfl,hb⟩;refine ⟨_,rfl,?_⟩;replace HO0_1:=rbl HO0_1 hb;replace BK5z:=bb BK5z hb;replace BK10z:=bb BK10z hb;replace HK:=am (Kept.below (S:=(fun k_=>P0_1_ k_)) (by repeat (first|(with_reducible first|exact HK.out|apply Kept.alloc|apply Kept.drewN|apply Kept.drew|refine Kept.setCell ?_ (.inr GW6z.o) _|refine Kept.setCell ?_ (.inr GW11z.o) _)|exact HK.out)) hb);replace HB:=bS hb)|(refine gL (some 21) Tryz.func116 #[.string t269] (h:=?_);(with_reducible refine (Za1.calls k t269 t270 t271 _ A15.o).mono ?_);rintro e w25z ⟨v26z,rfl,ho27z,hb⟩;refine ⟨_,rfl,?_⟩;have HO28z:=am (Kd.Zq (Kd.Zr (Kd.Zet (M:=fun k_=>(P0_1_ k_\/w.heap.size<=k_)) ho27z (by first|exact HK.out.1|exact (show Kept w _ (fun k_=>P0_1_ k_) from by repeat (first|(with_reducible first|exact HK.out|apply Kept.alloc|apply Kept.drewN|apply Kept.drew|refine Kept.setCell ?_ (.inr GW6z.o) _|refine Kept.setCell ?_ (.inr GW11z.o) _)|exact HK.out)).1) (fun k_ h_=>.inr h_)) (Kd.R_lt (Kd.Za HO0_1.o pl))) (Zb pB));replace HO0_1:=reR HO0_1 ho27z hb;replace BK5z:=bb BK5z hb;replace BK10z:=bb BK10z hb;replace HK:=am (Kept.below (S:=(fun k_=>P0_1_ k_)) (by repeat (first|(with_reducible first|exact HK.out|apply Kept.alloc|apply Kept.drewN|apply Kept.drew|refine Kept.setCell ?_ (.inr GW6z.o) _|refine Kept.setCell ?_ (.inr GW11z.o) _)|exact HK.out)) hb);replace HB:=bS hb;obtain ⟨Ao29z,co30z,eo31z⟩:=Kd.Zj HO28z.o;subst eo31z)|(refine gL (some 24) Tryz.func105 #[.slice Ao29z t270.length co30z,.int .i64 t271] (h:=?_);(with_reducible refine (Zfo.calls (fun k_=>some k_=(.slice Ao29z t270.length co30z:Value).ownBlock) (.slice Ao29z t270.length co30z) t270 t271 t274 w0 _ ?side1 ?side2 A16.o).mono ?_);(case side1=>exact pB);(case side2=>exact Kd.Zbl rfl HO28z.o);rintro e w32z ⟨v33z,rfl,ho27z,hb,hkp⟩;refine ⟨_,rfl,?_⟩;have HO34z:=am (Kd.Zi (ok':=fun k_=>(P0_1_ k_\/w.heap.size<=k_)/\some k_ ≠ (.slice Ao0z l0_1.length co1z:Value).ownBlock) ho27z (fun k_ hk_=>⟨Or.elim hk_ (fun hs_=>(HO28z.o.1 k_ (hs_).symm).1.1) (fun hn_=>(.inr (Nat.le_trans (by first|exact HK.out.1|exact (show Kept w _ (fun k_=>P0_1_ k_) from by repeat (first|(with_reducible first|exact HK.out|apply Kept.alloc|apply Kept.drewN|apply Kept.drew|refine Kept.setCell ?_ (.inr GW6z.o) _|refine Kept.setCell ?_ (.inr GW11z.o) _)|exact HK.out)).1) hn_))),Or.elim hk_ (fun hs_=>fun e_=>(((HO0_1.o).1 k_ e_.symm).2) hs_) (fun hn_=>(Kd.fresh' (Kd.R_lt (Kd.Za HO0_1.o pl)) k_ hn_))⟩));replace HO0_1:=am (Kd.Zi (ok':=fun k_=>(P0_1_ k_\/w.heap.size<=k_)/\some k_ ≠ (v33z:Value).ownBlock) (Kd.Zcc (HO0_1.o) hkp (fun k_ hk_ hs_=>(hk_.2) hs_)) (fun k_ hk_=>⟨hk_.1.1,fun e_=>Or.elim (ho27z.1 k_ e_.symm) (fun hs_=>hk_.2.1 hs_) (fun hn_=>Nat.not_le.2 hk_.2.2 hn_)⟩));replace BK5z:=am (Zar (Zc BK5z.o pl) hkp (fun e_=>Kd.R_ne HO28z.o BK5z.o (by decide) e_));replace BK10z:=am (Zar (Zc BK10z.o pl) hkp (fun e_=>Kd.R_ne HO28z.o BK10z.o (by decide) e_));replace HK:=am (Kept.then_ (S:=(fun k_=>P0_1_ k_)) (by repeat (first|(with_reducible first|exact HK.out|apply Kept.alloc|apply Kept.drewN|apply Kept.drew|refine Kept.setCell ?_ (.inr GW6z.o) _|refine Kept.setCell ?_ (.inr GW11z.o) _)|exact HK.out)) hkp (fun k_ hs_=>(fun e_=>(HO28z.o.1 k_ e_.symm).1.1) hs_));replace HB:=am hb;clear HO28z;obtain ⟨Ao35z,co36z,eo37z⟩:=Kd.Zj HO34z.o;subst eo37z;obtain ⟨_,_,_,_,_,_⟩:=cEc BK5z.o;obtain ⟨_,_,_,_,_,_⟩:=cEc BK10z.o)|((have q_:(t269.size == t268.size)=true:=c5b2;clear q_);refine gL (some 13) Tryz.func167 #[.string t268,.string (⟨#[48]⟩:ByteArray)] (h:=?_);(with_reducible refine (Zb4.calls t268 (⟨#[48]⟩:ByteArray) t269 _ A4.o).mono ?_);rintro e w24z ⟨rfl,hb⟩;refine ⟨_,rfl,?_⟩;replace HO0_1:=rbl HO0_1 hb;replace BK5z:=bb BK5z hb;replace BK10z:=bb BK10z hb;replace HK:=am (Kept.below (S:=(fun k_=>P0_1_ k_)) (by repeat (first|(with_reducible first|exact HK.out|apply Kept.alloc|apply Kept.drewN|apply Kept.drew|refine Kept.setCell ?_ (.inr GW6z.o) _|refine Kept.setCell ?_ (.inr GW11z.o) _)|exact HK.out)) hb);replace HB:=bS hb;obtain ⟨_,_,_,_,_,_⟩:=cEc BK5z.o;obtain ⟨_,_,_,_,_,_⟩:=cEc BK10z.o))
 first
  | have q_:=A16
    refine bodyPost_ret (results_cell_row rfl _ _ gb8z 106 #[.bool a0_0,.slice Ao35z t274.length co36z,.int .i64 (wrap64 (a0_2+(wrap64 ((t268.size:Int) - (t269.size:Int)))))] (0,0) _ rfl (by refine bp ?_;refine Za3 (cs:=#[.bool a0_0,.slice Ao35z t274.length co36z,.int .i64 0]) ?_ 2 _ rfl;refine bp ?_;refine Za3 (cs:=#[.bool a0_0,.slice none 0 0,.int .i64 0]) ?_ 1 _ rfl;refine bp ?_;refine Za3 (cs:=#[.bool false,.slice none 0 0,.int .i64 0]) ?_ 0 _ rfl;refine bq ?_ NB14z;refine bq ?_ NB14z;exact bp BK10z.o) Tryz.underlying106 rfl (by kernel_rfl)) rfl ?_
    exact ⟨_,pE,by refine rp ?_;exact Kd.Zi (Kd.Zp (p:=⟨gb8z,2,none⟩) (Kd.Zp (p:=⟨gb8z,1,none⟩) (Kd.Zp (p:=⟨gb8z,0,none⟩) (Kd.Zp (p:=⟨gb3z,2,none⟩) (Kd.Zp (p:=⟨gb3z,1,none⟩) (Kd.Zaa (Kd.Zaa HO34z.o BK5z.o (by decide)) BK10z.o (by decide)) (fun _ hk=>hk.1.2) (.slice Ao35z t274.length co36z)) (fun _ hk=>hk.1.2) (.int .i64 (wrap64 (a0_2+(wrap64 ((t268.size:Int) - (t269.size:Int))))))) (fun _ hk=>hk.2) (.bool a0_0)) (fun _ hk=>hk.2) (.slice Ao35z t274.length co36z)) (fun _ hk=>hk.2) (.int .i64 (wrap64 (a0_2+(wrap64 ((t268.size:Int) - (t269.size:Int))))))) (fun _ hk=>hk.1.1.1),pB,by repeat (first|(with_reducible first|exact HK.out|apply Kept.alloc|apply Kept.drewN|apply Kept.drew|refine Kept.setCell ?_ (.inr GW6z.o) _|refine Kept.setCell ?_ (.inr GW11z.o) _)|exact HK.out)⟩
  | refine bodyPost_ret (results_cell_row rfl _ _ gb8z 106 #[.bool a0_0,.slice Ao0z l0_1.length co1z,.int .i64 a0_2] (0,0) _ rfl (by exact p3 BK10z) Tryz.underlying106 rfl (by kernel_rfl)) rfl ?_
    exact ⟨_,pE,by refine rp ?_;exact Kd.Zi (Kd.Zp (p:=⟨gb8z,2,none⟩) (Kd.Zp (p:=⟨gb8z,1,none⟩) (Kd.Zp (p:=⟨gb8z,0,none⟩) (Kd.Zaa HO0_1.o BK10z.o (by decide)) (fun _ hk=>hk.2) (.bool a0_0)) (fun _ hk=>hk.2) (.slice Ao0z l0_1.length co1z)) (fun _ hk=>hk.2) (.int .i64 a0_2)) (fun _ hk=>hk.1),pB,by repeat (first|(with_reducible first|exact HK.out|apply Kept.alloc|apply Kept.drewN|apply Kept.drew|refine Kept.setCell ?_ (.inr GW6z.o) _|refine Kept.setCell ?_ (.inr GW11z.o) _)|exact HK.out)⟩):P:=h
theorem Zbv.calls (k:Nat) (a0_0:Bool) (P0_1_:Nat->Prop) (u9000_:Value) (l0_1:List Int) (a0_2:Int) (r1:Bool) (r2:List Int) (r3:Int) (w0 w:World) (hB:Below w0.heap.size w0 w) (ho0_1:Kd.R (Kd.int .u32) 85 w w0.heap.size P0_1_ u9000_ l0_1) (h:Zbv.f k a0_0 l0_1 a0_2=some (r1,r2,r3)) :
  Calls Tryz.prog 140 #[.agg #[.bool a0_0,u9000_,.int .i64 a0_2]] w fun e w' => ∃ v1_:Value,e=.returned (.agg #[.bool r1,v1_,.int .i64 r3])/\Kd.R (Kd.int .u32) 85 w' w0.heap.size (fun k_=>(P0_1_ k_\/w.heap.size<=k_)) v1_ r2/\Below w0.heap.size w0 w'/\Kept w w' (fun k_=>P0_1_ k_):=by
 have hu106:=Tryz.underlying106
 have HO0_1:=am (show Kd.R (Kd.int .u32) 85 w w0.heap.size (fun k_=>(P0_1_ k_\/w.heap.size<=k_)) u9000_ l0_1 from Kd.Zi ho0_1 (fun k_ hk=>(.inl hk)))
 have HK:=am (Kept.refl w (fun k_=>P0_1_ k_))
 have HW0:=am hB.size
 have HB:=am hB
 clear hB
 have H:((Zat.f k l0_1).bind fun bt266=>((Zeu.f bt266.1 bt266.2).bind fun t268=>((Zb4.f t268 (⟨#[48]⟩:ByteArray)).bind fun t269=>(if (t269.size:Int)=(t268.size:Int) then (some (a0_0,l0_1,a0_2)) else ((Za1.f k t269).bind fun bt270=>((Zfo.f bt270.1 bt270.2).bind fun t274=>(some (a0_0,t274,wrap64 (a0_2+(wrap64 ((t268.size:Int) - (t269.size:Int))))))))))))=some (r1,r2,r3):=h
 clear h
 obtain ⟨⟨t266,t267⟩,A2,H⟩:=ob H;(try dsimp only at H)
 obtain ⟨t268,A3,H⟩:=ob H
 obtain ⟨t269,A4,H⟩:=ob H
 by_cases c5:(t269.size:Int)=(t268.size:Int)
 ·rw [if_pos c5] at H
  have c5b0:((t269.size:Int) == (t268.size:Int))=true:=beq_iff_eq.mpr c5
  have c5b1:((t269.size:Int) != (t268.size:Int))=false:=bne_eq_false_iff_eq.mpr c5
  have c5b2:(t269.size == t268.size)=true:=by first|simpa using c5|(simp at c5 ⊢;omega)
  clear c5
  simp only [Option.some.injEq,Prod.mk.injEq] at H
  obtain ⟨rfl,rfl,rfl⟩:=H
  exact Zbv.leaf
 ·rw [if_neg c5] at H
  have c5b0:((t269.size:Int) == (t268.size:Int))=false:=beq_eq_false_iff_ne.mpr c5
  have c5b1:((t269.size:Int) != (t268.size:Int))=true:=bne_iff_ne.mpr c5
  have c5b2:(t269.size == t268.size)=false:=by first|simpa using c5|(simp at c5 ⊢;omega)
  obtain ⟨⟨t270,t271⟩,A15,H⟩:=ob H;(try dsimp only at H)
  obtain ⟨t274,A16,H⟩:=ob H
  simp only [Option.some.injEq,Prod.mk.injEq] at H
  obtain ⟨rfl,rfl,rfl⟩:=H
  exact Zbv.leaf
def Zcz.f (k:Nat) (a0_0:Bool) (l0_1:List Int) (a0_2:Int):Option (Bool × List Int × Int × Int):=(Zcl.f a0_0 l0_1 a0_2).bind fun t279=>(if t279=true then (some (false,([]:List Int),0,0)) else ((Zbv.f k a0_0 l0_1 a0_2).bind fun bt280=>((Zcv.f k bt280.2.1).bind fun t285=>(if t285 > 300 then (some (false,([]:List Int),0,51)) else (if bt280.2.2 < (-1000) then (some (false,([]:List Int),0,52)) else (if bt280.2.2 > 1000 then (some (false,([]:List Int),0,52)) else (some (bt280.1,bt280.2.1,bt280.2.2,0))))))))
theorem Zcz.leaf {P:Prop} (h:P:=by
 obtain ⟨Ao0z,co1z,eo2z⟩:=Kd.Zj HO0_1.o
 subst eo2z
 go_enter Tryz.func100,Tryz.ntmps100
 go_wp2_with (first|((with_reducible refine gd 1 ?_);refine bx 1 #[.bool a0_0,.slice Ao0z l0_1.length co1z,.int .i64 a0_2] 106 (h:=?_);intro gb3z hg w4z hbox hb;have BK5z:=am hbox;have GW6z:=am ((by rw [hg];exact (by first|exact HK.out.1|exact (show Kept w _ (fun k_=>P0_1_ k_) from by repeat (first|(with_reducible first|exact HK.out|apply Kept.alloc|apply Kept.drewN|apply Kept.drew)|exact HK.out)).1):w.heap.size<=gb3z));have GE7z:=am ((gw hg pB:w0.heap.size<=gb3z));replace HO0_1:=rbl HO0_1 hb;replace HK:=am (Kept.below (S:=(fun k_=>P0_1_ k_)) (by repeat (first|(with_reducible first|exact HK.out|apply Kept.alloc|apply Kept.drewN|apply Kept.drew)|exact HK.out)) hb);replace HB:=bS hb;clear hb hbox hg)|((with_reducible refine gd 2 ?_);refine bx 2 #[.bool false,.slice none 0 0,.int .i64 0] 24 (h:=?_);intro gb8z hg w9z hbox hb;have BK10z:=am hbox;have GW11z:=am ((by rw [hg];exact (by first|exact HK.out.1|exact (show Kept w _ (fun k_=>P0_1_ k_) from by repeat (first|(with_reducible first|exact HK.out|apply Kept.alloc|apply Kept.drewN|apply Kept.drew|refine Kept.setCell ?_ (.inr GW6z.o) _)|exact HK.out)).1):w.heap.size<=gb8z));have GE12z:=am ((gw hg pB:w0.heap.size<=gb8z));have NB13z:=nL hg BK5z;have NB14z:=nG hg BK5z;replace HO0_1:=rbl HO0_1 hb;replace BK5z:=bb BK5z hb;replace HK:=am (Kept.below (S:=(fun k_=>P0_1_ k_)) (by repeat (first|(with_reducible first|exact HK.out|apply Kept.alloc|apply Kept.drewN|apply Kept.drew|refine Kept.setCell ?_ (.inr GW6z.o) _)|exact HK.out)) hb);replace HB:=bS hb;clear hb hbox hg;have hnb15z:=NB13z.o;have hnc16z:=NB14z.o;obtain ⟨_,_,_,_,_,_⟩:=cEc BK5z.o)|(refine gL (some 5) Tryz.func104 #[.agg #[.bool a0_0,.slice Ao0z l0_1.length co1z,.int .i64 a0_2]] (h:=?_);(with_reducible refine (Zcl.calls a0_0 _ _ l0_1 a0_2 false _ ?side1 ?side2 A2.o).mono ?_);(case side1=>exact Kd.Zx (Kd.Zd HO0_1.o).2.2 pl);(case side2=>exact (Kd.Zd HO0_1.o).2.1);rintro e w23z ⟨rfl,hb⟩;refine ⟨_,rfl,?_⟩;replace HO0_1:=rbl HO0_1 hb;replace BK5z:=bb BK5z hb;replace BK10z:=bb BK10z hb;replace HK:=am (Kept.below (S:=(fun k_=>P0_1_ k_)) (by repeat (first|(with_reducible first|exact HK.out|apply Kept.alloc|apply Kept.drewN|apply Kept.drew|refine Kept.setCell ?_ (.inr GW6z.o) _|refine Kept.setCell ?_ (.inr GW11z.o) _)|exact HK.out)) hb);replace HB:=bS hb;obtain ⟨hcz24z,hcz25z,hcz26z,hfz27z,hfz28z,hfz29z⟩:=cEc BK5z.o)|(refine gL (some 8) Tryz.func140 #[.agg #[.bool a0_0,.slice Ao0z l0_1.length co1z,.int .i64 a0_2]] (h:=?_);(with_reducible refine (Zbv.calls k a0_0 (fun k_=>some k_=(.slice Ao0z l0_1.length co1z:Value).ownBlock) (.slice Ao0z l0_1.length co1z) l0_1 a0_2 t280 t281 t284 w0 _ ?side1 ?side2 A11.o).mono ?_);(case side1=>exact pB);(case side2=>exact Kd.Zbl rfl HO0_1.o);rintro e w30z ⟨v31z,rfl,ho32z,hb,hkp⟩;refine ⟨_,rfl,?_⟩;have HO33z:=am (Kd.Zi (ok':=fun k_=>(P0_1_ k_\/w.heap.size<=k_)) ho32z (fun k_ hk_=>Or.elim hk_ (fun hs_=>(HO0_1.o.1 k_ (hs_).symm)) (fun hn_=>(.inr (Nat.le_trans (by first|exact HK.out.1|exact (show Kept w _ (fun k_=>P0_1_ k_) from by repeat (first|(with_reducible first|exact HK.out|apply Kept.alloc|apply Kept.drewN|apply Kept.drew|refine Kept.setCell ?_ (.inr GW6z.o) _|refine Kept.setCell ?_ (.inr GW11z.o) _)|exact HK.out)).1) hn_)))));replace BK5z:=am (Zar (Zc BK5z.o pl) hkp (fun e_=>Kd.R_ne HO0_1.o BK5z.o (by decide) e_));replace BK10z:=am (Zar (Zc BK10z.o pl) hkp (fun e_=>Kd.R_ne HO0_1.o BK10z.o (by decide) e_));replace HK:=am (Kept.then_ (S:=(fun k_=>P0_1_ k_)) (by repeat (first|(with_reducible first|exact HK.out|apply Kept.alloc|apply Kept.drewN|apply Kept.drew|refine Kept.setCell ?_ (.inr GW6z.o) _|refine Kept.setCell ?_ (.inr GW11z.o) _)|exact HK.out)) hkp (fun k_ hs_=>(fun e_=>(HO0_1.o.1 k_ e_.symm)) hs_));replace HB:=am hb;clear HO0_1;obtain ⟨_,_,_,_,_,_⟩:=cEc BK5z.o;obtain ⟨Ao40z,co41z,eo42z⟩:=Kd.Zj HO33z.o;subst eo42z)|((have q_:decide (300 < t285)=true:=c13b0;clear q_);refine gL (some 13) Tryz.func110 #[.slice Ao40z t281.length co41z] (h:=?_);(with_reducible refine (Zcv.calls k _ _ t281 t285 _ ?side1 ?side2 A12.o).mono ?_);(case side1=>refine (Kd.Zd (e:=85) (base:=w0.heap.size) (ok:=fun k_=>(P0_1_ k_\/w.heap.size<=k_)) (n:=t281.length) (c:=co41z) ?_).2.2;exact (Kd.Za (z3 HO33z.o BK5z.o (by decide) (.bool t280) (.slice Ao40z t281.length co41z) (.int .i64 t284)) pl));(case side2=>exact (Kd.Zd HO33z.o).2.1);rintro e w43z ⟨rfl,hb⟩;refine ⟨_,rfl,?_⟩;replace HO33z:=am (Kd.Za (Kd.Za (z3 HO33z.o BK5z.o (by decide) (.bool t280) (.slice Ao40z t281.length co41z) (.int .i64 t284)) pl) hb);replace BK5z:=am (Zc (g:=gb3z) (o:=.cells #[.bool t280,.slice Ao40z t281.length co41z,.int .i64 t284] 106 (0,0)) (by exact p3 BK5z) hb);replace BK10z:=bfb NB14z BK10z hb;replace HK:=am (Kept.below (S:=(fun k_=>P0_1_ k_)) (by repeat (first|(with_reducible first|exact HK.out|apply Kept.alloc|apply Kept.drewN|apply Kept.drew|refine Kept.setCell ?_ (.inr GW6z.o) _|refine Kept.setCell ?_ (.inr GW11z.o) _)|exact HK.out)) hb);replace HB:=bS hb;obtain ⟨hcz44z,hcz45z,hcz46z,hfz47z,hfz48z,hfz49z⟩:=cEc BK10z.o)|((have q_:decide (300 < t285)=false:=c13b0;clear q_);refine gL (some 13) Tryz.func110 #[.slice Ao40z t281.length co41z] (h:=?_);(with_reducible refine (Zcv.calls k _ _ t281 t285 _ ?side1 ?side2 A12.o).mono ?_);(case side1=>refine (Kd.Zd (e:=85) (base:=w0.heap.size) (ok:=fun k_=>(P0_1_ k_\/w.heap.size<=k_)) (n:=t281.length) (c:=co41z) ?_).2.2;exact (Kd.Za (z3 HO33z.o BK5z.o (by decide) (.bool t280) (.slice Ao40z t281.length co41z) (.int .i64 t284)) pl));(case side2=>exact (Kd.Zd HO33z.o).2.1);rintro e w43z ⟨rfl,hb⟩;refine ⟨_,rfl,?_⟩;replace HO33z:=am (Kd.Za (Kd.Za (z3 HO33z.o BK5z.o (by decide) (.bool t280) (.slice Ao40z t281.length co41z) (.int .i64 t284)) pl) hb);replace BK5z:=am (Zc (g:=gb3z) (o:=.cells #[.bool t280,.slice Ao40z t281.length co41z,.int .i64 t284] 106 (0,0)) (by exact p3 BK5z) hb);replace BK10z:=bfb NB14z BK10z hb;replace HK:=am (Kept.below (S:=(fun k_=>P0_1_ k_)) (by repeat (first|(with_reducible first|exact HK.out|apply Kept.alloc|apply Kept.drewN|apply Kept.drew|refine Kept.setCell ?_ (.inr GW6z.o) _|refine Kept.setCell ?_ (.inr GW11z.o) _)|exact HK.out)) hb);replace HB:=bS hb;obtain ⟨hcz44z,hcz45z,hcz46z,hfz47z,hfz48z,hfz49z⟩:=cEc BK5z.o;obtain ⟨_,_,_,_,_,_⟩:=cEc BK10z.o)|(refine gL (some 5) Tryz.func104 #[.agg #[.bool a0_0,.slice Ao0z l0_1.length co1z,.int .i64 a0_2]] (h:=?_);(with_reducible refine (Zcl.calls a0_0 _ _ l0_1 a0_2 true _ ?side1 ?side2 A2.o).mono ?_);(case side1=>exact Kd.Zx (Kd.Zd HO0_1.o).2.2 pl);(case side2=>exact (Kd.Zd HO0_1.o).2.1);rintro e w23z ⟨rfl,hb⟩;refine ⟨_,rfl,?_⟩;replace HO0_1:=rbl HO0_1 hb;replace BK5z:=bb BK5z hb;replace BK10z:=bb BK10z hb;replace HK:=am (Kept.below (S:=(fun k_=>P0_1_ k_)) (by repeat (first|(with_reducible first|exact HK.out|apply Kept.alloc|apply Kept.drewN|apply Kept.drew|refine Kept.setCell ?_ (.inr GW6z.o) _|refine Kept.setCell ?_ (.inr GW11z.o) _)|exact HK.out)) hb);replace HB:=bS hb;obtain ⟨hcz24z,hcz25z,hcz26z,hfz27z,hfz28z,hfz29z⟩:=cEc BK10z.o))
 first
  | have q_:=A12;have q_:decide (1000 < t284)=false:=c40b0
    refine bodyPost_ret (Za7 rfl _ _ gb8z 24 #[.bool t280,.slice Ao40z t281.length co41z,.int .i64 t284] (0,0) _ rfl (by exact p3 BK10z) Tryz.underlying24 rfl (by kernel_rfl)) rfl ?_
    exact ⟨_,pE,by refine rp ?_;exact Kd.Zi (Kd.Zp (p:=⟨gb8z,2,none⟩) (Kd.Zp (p:=⟨gb8z,1,none⟩) (Kd.Zp (p:=⟨gb8z,0,none⟩) (Kd.Zaa HO33z.o BK10z.o (by decide)) (fun _ hk=>hk.2) (.bool t280)) (fun _ hk=>hk.2) (.slice Ao40z t281.length co41z)) (fun _ hk=>hk.2) (.int .i64 t284)) (fun _ hk=>hk.1),pB,by repeat (first|(with_reducible first|exact HK.out|apply Kept.alloc|apply Kept.drewN|apply Kept.drew|refine Kept.setCell ?_ (.inr GW6z.o) _|refine Kept.setCell ?_ (.inr GW11z.o) _)|exact HK.out)⟩
  | refine bodyPost_ret (Za7 rfl _ _ gb8z 24 #[.bool false,.slice none 0 0,.int .i64 0] (0,0) _ rfl (by exact p3 BK10z) Tryz.underlying24 rfl (by kernel_rfl)) rfl ?_
    exact ⟨_,pE,pN,pB,by repeat (first|(with_reducible first|exact HK.out|apply Kept.alloc|apply Kept.drewN|apply Kept.drew|refine Kept.setCell ?_ (.inr GW6z.o) _|refine Kept.setCell ?_ (.inr GW11z.o) _)|exact HK.out)⟩):P:=h
theorem Zcz.calls (k:Nat) (a0_0:Bool) (P0_1_:Nat->Prop) (u9000_:Value) (l0_1:List Int) (a0_2:Int) (r1:Bool) (r2:List Int) (r3:Int) (r4:Int) (w0 w:World) (hB:Below w0.heap.size w0 w) (ho0_1:Kd.R (Kd.int .u32) 85 w w0.heap.size P0_1_ u9000_ l0_1) (h:Zcz.f k a0_0 l0_1 a0_2=some (r1,r2,r3,r4)) :
  Calls Tryz.prog 100 #[.agg #[.bool a0_0,u9000_,.int .i64 a0_2]] w fun e w' => ∃ v1_:Value,e=.returned (.tuple #[.agg #[.bool r1,v1_,.int .i64 r3],.int .i64 r4])/\Kd.R (Kd.int .u32) 85 w' w0.heap.size (fun k_=>(P0_1_ k_\/w.heap.size<=k_)) v1_ r2/\Below w0.heap.size w0 w'/\Kept w w' (fun k_=>P0_1_ k_):=by
 have hu106:=Tryz.underlying106
 have hu24:=Tryz.underlying24
 have HO0_1:=am (show Kd.R (Kd.int .u32) 85 w w0.heap.size (fun k_=>(P0_1_ k_\/w.heap.size<=k_)) u9000_ l0_1 from Kd.Zi ho0_1 (fun k_ hk=>(.inl hk)))
 have HK:=am (Kept.refl w (fun k_=>P0_1_ k_))
 have HW0:=am hB.size
 have HB:=am hB
 clear hB
 have H:((Zcl.f a0_0 l0_1 a0_2).bind fun t279=>(if t279=true then (some (false,([]:List Int),0,0)) else ((Zbv.f k a0_0 l0_1 a0_2).bind fun bt280=>((Zcv.f k bt280.2.1).bind fun t285=>(if t285 > 300 then (some (false,([]:List Int),0,51)) else (if bt280.2.2 < (-1000) then (some (false,([]:List Int),0,52)) else (if bt280.2.2 > 1000 then (some (false,([]:List Int),0,52)) else (some (bt280.1,bt280.2.1,bt280.2.2,0)))))))))=some (r1,r2,r3,r4):=h
 clear h
 obtain ⟨t279,A2,H⟩:=ob H
 by_cases c3:t279=true
 ·subst c3
  rw [if_pos rfl] at H
  simp only [Option.some.injEq,Prod.mk.injEq] at H
  obtain ⟨rfl,rfl,rfl,rfl⟩:=H
  exact Zcz.leaf
 ·replace c3:=Bool.eq_false_iff.mpr c3
  subst c3
  rw [if_neg (show ¬ (false=true) by decide)] at H
  obtain ⟨⟨t280,t281,t284⟩,A11,H⟩:=ob H;(try dsimp only at H)
  obtain ⟨t285,A12,H⟩:=ob H
  by_cases c13:t285 > 300
  ·rw [if_pos c13] at H
   have c13b0:decide (300 < t285)=true:=decide_eq_true c13
   clear c13
   simp only [Option.some.injEq,Prod.mk.injEq] at H
   obtain ⟨rfl,rfl,rfl,rfl⟩:=H
   exact Zcz.leaf
  ·rw [if_neg c13] at H
   have c13b0:decide (300 < t285)=false:=decide_eq_false c13
   clear c13
   by_cases c26:t284 < (-1000)
   ·rw [if_pos c26] at H
    have c26b0:decide (t284 < (-1000))=true:=decide_eq_true c26
    clear c26
    simp only [Option.some.injEq,Prod.mk.injEq] at H
    obtain ⟨rfl,rfl,rfl,rfl⟩:=H
    exact Zcz.leaf
   ·rw [if_neg c26] at H
    have c26b0:decide (t284 < (-1000))=false:=decide_eq_false c26
    clear c26
    by_cases c40:t284 > 1000
    ·rw [if_pos c40] at H
     have c40b0:decide (1000 < t284)=true:=decide_eq_true c40
     clear c40
     simp only [Option.some.injEq,Prod.mk.injEq] at H
     obtain ⟨rfl,rfl,rfl,rfl⟩:=H
     exact Zcz.leaf
    ·rw [if_neg c40] at H
     have c40b0:decide (1000 < t284)=false:=decide_eq_false c40
     clear c40
     simp only [Option.some.injEq,Prod.mk.injEq] at H
     obtain ⟨rfl,rfl,rfl,rfl⟩:=H
     exact Zcz.leaf
def Zav.j0:Nat->Bool->List Int->Int->Bool->Option (Bool × List Int × Int × Int)
 | 0,_,_,_,_=>none
 | k+1,x0,x1,x2,x20=>if x20=true then (some (false,([]:List Int),0,52)) else ((Zag.f x1).bind fun t288=>((Zcz.f k x0 t288 x2).bind fun bt291=>(some (bt291.1,bt291.2.1,bt291.2.2.1,bt291.2.2.2))))
def Zav.f (k:Nat) (a0:Bool) (l1:List Int) (a2:Int):Option (Bool × List Int × Int × Int):=(Za0.f l1).bind fun t287=>(if t287=0 then (if a2 < (-4000) then (Zav.j0 k a0 l1 a2 true) else (Zav.j0 k a0 l1 a2 (decide (a2 > 4000)))) else (some (false,([]:List Int),0,t287)))
theorem Zav.calls (k:Nat) (a0:Bool) (A1:Option Addr) (c1:Nat) (l1:List Int) (a2:Int) (r1:Bool) (r2:List Int) (r3:Int) (r4:Int) (w:World) (hr1:Kd.C (Kd.int .u32) w A1 l1.length l1) (hc1:l1.length<=c1) (h:Zav.f k a0 l1 a2=some (r1,r2,r3,r4)) :
  Calls Tryz.prog 60 #[.bool a0,.slice A1 l1.length c1,.int .i64 a2] w fun e w' => ∃ v1_:Value,e=.returned (.tuple #[.agg #[.bool r1,v1_,.int .i64 r3],.int .i64 r4])/\Kd.R (Kd.int .u32) 85 w' w.heap.size (fun _=>True) v1_ r2/\Below w.heap.size w w':=by
 have hu24:=Tryz.underlying24
 have hu106:=Tryz.underlying106
 have HR1:=am hr1
 have HC1:=am hc1
 clear hr1 hc1
 have HB:=am (Below.refl w.heap.size w)
 have H:((Za0.f l1).bind fun t287=>(if t287=0 then (if a2 < (-4000) then (Zav.j0 k a0 l1 a2 true) else (Zav.j0 k a0 l1 a2 (decide (a2 > 4000)))) else (some (false,([]:List Int),0,t287))))=some (r1,r2,r3,r4):=h
 clear h
 obtain ⟨t287,A4,H⟩:=ob H
 by_cases c5:t287=0
 ·rw [if_pos c5] at H
  have c5b0:(t287 == 0)=true:=beq_iff_eq.mpr c5
  have c5b1:(t287 != 0)=false:=bne_eq_false_iff_eq.mpr c5
  clear c5
  have HC6:=am H
  clear H
  go_enter Tryz.func60,Tryz.ntmps60
  go_upto_region 4 with (first|((with_reducible refine gd 6 ?_);refine bx 6 #[.bool false,.slice none 0 0,.int .i64 0] 24 (h:=?_);intro gb286 hg w7 hbox hb;have BK286:=am hbox;have GW286:=gW hg;have GE286:=gW hg;replace HB:=bS hb;clear hb hbox hg)|(refine gL (some 10) Tryz.func108 #[.slice A1 l1.length c1] (h:=?_);(with_reducible refine (Za0.calls _ _ l1 t287 _ ?side1 ?side2 A4.o).mono ?_);(case side1=>exact cB HR1 HB);(case side2=>exact HC1.o);rintro e w' ⟨rfl,⟨nd,rfl⟩⟩;refine ⟨_,rfl,?_⟩))
  (try simp only [Act.put,List.setIfInBounds_toArray,List.set_cons_zero,List.set_cons_succ])
  go_cut [20] (fun v20 wc => ∃ (kq:Nat) (x20_5:Bool),v20=.bool x20_5/\Aside0 (Zav.j0 kq a0 l1 a2 x20_5=some (r1,r2,r3,r4))/\Aside0 (kq<=k)/\Aside0 (wc.heap[gb286]? = some (.cells #[.bool false,(.slice none 0 0),.int .i64 0] 24 (0,0)))/\Aside0 (Below w.heap.size w wc))
  case first =>
   have H:=HC6.o
   clear HC6
   by_cases c8:a2 < (-4000)
   ·rw [if_pos c8] at H
    have c8b0:decide (a2 < (-4000))=true:=decide_eq_true c8
    clear c8
    (first|rw [c8b0]|(simp only [Zcd,Zdb];rw [c8b0])|skip)
    have H':=am H
    clear H
    go_wp2
    go_meet
    case rel=>exact ⟨_,(true),pR,H',⟨by first|omega|exact Nat.le_refl _⟩,⟨Zc BK286.o pl⟩,⟨pB⟩⟩
   ·rw [if_neg c8] at H
    have c8b0:decide (a2 < (-4000))=false:=decide_eq_false c8
    clear c8
    (first|rw [c8b0]|(simp only [Zcd,Zdb];rw [c8b0])|skip)
    have H':=am H
    clear H
    go_wp2
    go_meet
    case rel=>exact ⟨_,(decide (a2 > 4000)),pR,H',⟨by first|omega|exact Nat.le_refl _⟩,⟨Zc BK286.o pl⟩,⟨pB⟩⟩
  case rest =>
   clear HC6
   obtain ⟨kq,x20_5,rfl,HA,HJ5,BK286,HB⟩:=hcut
   cases kq with
   | zero=>exact absurd HA.out (by simp [Zav.j0])
   | succ kj5 =>
    have H:=HA.out
    clear HA
    simp only [Zav.j0] at H
    by_cases c9:x20_5=true
    ·subst c9
     rw [if_pos rfl] at H
     simp only [Option.some.injEq,Prod.mk.injEq] at H
     obtain ⟨rfl,rfl,rfl,rfl⟩:=H
     obtain ⟨_,_,_,_,_,_⟩:=cEc BK286.o
     go_wp2
     refine bodyPost_ret (Za7 rfl _ _ gb286 24 #[.bool false,.slice none 0 0,.int .i64 0] (0,0) _ rfl (by exact p3 BK286) Tryz.underlying24 rfl (by kernel_rfl)) rfl ?_
     exact ⟨_,pE,pN,pB⟩
    ·replace c9:=Bool.eq_false_iff.mpr c9
     subst c9
     rw [if_neg (show ¬ (false=true) by decide)] at H
     obtain ⟨t288,A11,H⟩:=ob H
     obtain ⟨⟨t291,t292,t295,t296⟩,A12,H⟩:=ob H;(try dsimp only at H)
     simp only [Option.some.injEq,Prod.mk.injEq] at H
     obtain ⟨rfl,rfl,rfl,rfl⟩:=H
     go_wp2_with (first|(refine gL (some 24) Tryz.func102 #[.slice A1 l1.length c1] (h:=?_);(with_reducible refine (Zag.calls _ _ l1 t288 _ ?side1 ?side2 A11.o).mono ?_);(case side1=>exact cB HR1 HB);(case side2=>exact HC1.o);rintro e w13 ⟨v289,rfl,ho0,hb⟩;refine ⟨_,rfl,?_⟩;have HO290:=am (Kd.Zq ho0 (Zb pB));replace BK286:=bb BK286 hb;replace HB:=bS hb;obtain ⟨Ao14,co14,eo14⟩:=Kd.Zj HO290.o;subst eo14)|(refine gL (some 28) Tryz.func100 #[.agg #[.bool a0,.slice Ao14 t288.length co14,.int .i64 a2]] (h:=?_);(with_reducible refine (Zcz.calls kj5 a0 (fun k_=>some k_=(.slice Ao14 t288.length co14:Value).ownBlock) (.slice Ao14 t288.length co14) t288 a2 t291 t292 t295 t296 w _ ?side1 ?side2 A12.o).mono ?_);(case side1=>exact pB);(case side2=>exact Kd.Zbl rfl HO290.o);rintro e w15 ⟨v293,rfl,ho0,hb,hkp⟩;refine ⟨_,rfl,?_⟩;have HO294:=am (Kd.Zi (ok':=fun k_=>True) ho0 (fun k_ hk_=>trivial));replace BK286:=am (Zar (Zc BK286.o pl) hkp (fun e_=>Kd.R_ne HO290.o BK286.o (by decide) e_));replace HB:=am hb;clear HO290;obtain ⟨_,_,_,_,_,_⟩:=cEc BK286.o;obtain ⟨Ao17,co17,eo17⟩:=Kd.Zj HO294.o;subst eo17))
     refine bodyPost_ret (Za7 rfl _ _ gb286 24 #[.bool t291,.slice Ao17 t292.length co17,.int .i64 t295] (0,0) _ rfl (by exact p3 BK286) Tryz.underlying24 rfl (by kernel_rfl)) rfl ?_
     exact ⟨_,pE,by refine rp ?_;exact Kd.Zi (Kd.Zp (p:=⟨gb286,2,none⟩) (Kd.Zp (p:=⟨gb286,1,none⟩) (Kd.Zp (p:=⟨gb286,0,none⟩) (Kd.Zaa HO294.o BK286.o (by decide)) (fun _ hk=>hk.2) (.bool t291)) (fun _ hk=>hk.2) (.slice Ao17 t292.length co17)) (fun _ hk=>hk.2) (.int .i64 t295)) (fun _ hk=>trivial),pB⟩
 ·rw [if_neg c5] at H
  have c5b0:(t287 == 0)=false:=beq_eq_false_iff_ne.mpr c5
  have c5b1:(t287 != 0)=true:=bne_iff_ne.mpr c5
  simp only [Option.some.injEq,Prod.mk.injEq] at H
  obtain ⟨rfl,rfl,rfl,rfl⟩:=H
  go_enter Tryz.func60,Tryz.ntmps60
  go_wp2_with (first|((with_reducible refine gd 6 ?_);refine bx 6 #[.bool false,.slice none 0 0,.int .i64 0] 24 (h:=?_);intro gb286 hg w18 hbox hb;have BK286:=am hbox;have GW286:=gW hg;have GE286:=gW hg;replace HB:=bS hb;clear hb hbox hg)|(refine gL (some 10) Tryz.func108 #[.slice A1 l1.length c1] (h:=?_);(with_reducible refine (Za0.calls _ _ l1 t287 _ ?side1 ?side2 A4.o).mono ?_);(case side1=>exact cB HR1 HB);(case side2=>exact HC1.o);rintro e w' ⟨rfl,⟨nd,rfl⟩⟩;refine ⟨_,rfl,?_⟩;(try (rw [Zgt w18];generalize hq_:World.drewN w18 _=w18;replace BK286:Aside0 (w18.heap[gb286]? = some (.cells #[.bool false,.slice none 0 0,.int .i64 0] 24 (0,0))):=⟨by rw [<- hq_];exact (Zc BK286.o pl)⟩;replace HB:Aside0 (Below w.heap.size w w18):=⟨by rw [<- hq_];exact pB⟩;clear hq_));obtain ⟨_,_,_,_,_,_⟩:=cEc BK286.o))
  refine bodyPost_ret (Za7 rfl _ _ gb286 24 #[.bool false,.slice none 0 0,.int .i64 0] (0,0) _ rfl (by exact p3 BK286) Tryz.underlying24 rfl (by kernel_rfl)) rfl ?_
  exact ⟨_,pE,pN,pB⟩
end YtjbjkmccfocikaaGreatDoor.B
end
section
namespace YtjbjkmccfocikaaGreatDoor.P
open Go.RowKit YtjbjkmccfocikaaGreatDoor.B YtjbjkmccfocikaaGreatDoorW.PrintWords YtjbjkmccfocikaaGreatDoorW.PrintLast YtjbjkmccfocikaaGreatDoorW.PrintMore YtjbjkmccfocikaaGreatDoor.P.Nm
def chr (d:Int):UInt8:=UInt8.ofNat (48+d.toNat)
theorem Ze9 {n:Nat} (h:n ≠ 0):(decT n).data.toList=(digs n).reverse.map chr:=by
 unfold decT;rw [if_neg h];rfl
theorem Zks {d:Int} (h0:0<=d) (h1:d < 10):(chr d).toNat=48+d.toNat:=by
 unfold chr;simp;omega
theorem Zfa (n:Nat):(decT n).size=if n=0 then 1 else nd n:=by
 by_cases h:n=0
 ·subst h;rfl
 ·rw [if_neg h]
  show (decT n).data.size=_
  rw [<- Array.length_toList,Ze9 h];simp [nd]
theorem Zr5 {b:ByteArray} {l:List UInt8} (h:b.data.toList=l):b=⟨l.toArray⟩:=by
 cases b with|mk d=>subst h;rfl
theorem Zpi {n:Nat} (h:n ≠ 0):(⟨(Lib.trimRightB (decT n).data.toList 48).toArray⟩:ByteArray)=decT (core n):=by
 obtain ⟨h1,h2⟩:=Zki h
 have hc:=Ziz h
 symm
 refine Zr5 ?_
 rw [Ze9 hc,Ze9 h]
 unfold Lib.trimRightB
 rw [<- List.map_reverse,List.reverse_reverse]
 have hd:digs n=List.replicate (tz n) 0++digs (core n):=by
  conv=>lhs;rw [h1]
  exact Zgs hc _
 rw [hd,List.map_append,List.map_replicate,Zdp hc,List.map_cons]
 have e0:chr 0=48:=rfl
 have e1:(chr ((core n % 10:Nat):Int) == 48)=false:=by
  refine beq_eq_false_iff_ne.2 (fun q=>?_)
  have := congrArg UInt8.toNat q
  rw [Zks (by omega) (by omega)] at this
  have e48:(48:UInt8).toNat=48:=rfl
  rw [e48] at this
  omega
 have drop:∀ k (l:List UInt8),(List.replicate k (48:UInt8)++l).dropWhile (· == 48)=l.dropWhile (· == 48):=fun k l=>by
  induction k with
  | zero=>rfl
  | succ k ih=>rw [List.replicate_succ,List.cons_append,List.dropWhile_cons_of_pos (by rfl),ih]
 rw [e0,drop,List.dropWhile_cons_of_neg (by rw [e1];simp),List.map_reverse,List.map_cons]
theorem Zop (n:Nat):numT (decT n)=n:=by
 by_cases h:n=0
 ·subst h;rfl
 ·unfold numT
  rw [Ze9 h]
  have key:∀ l:List Int,Dg 10 l->(((l.reverse.map chr).foldl (fun n c=>n*10+(c.toNat - 48)) 0:Nat):Int)=val 10 l:=fun l=>by
   induction l with
   | nil=>intro _;rfl
   | cons x l ih =>
    intro hd
    have hx:=hd.head
    rw [List.reverse_cons,List.map_append,List.foldl_append,List.map_cons,List.map_nil,List.foldl_cons,List.foldl_nil,Zks hx.1 hx.2,Zb1,<- ih hd.tail]
    omega
  have := key (digs n) (Zc6 n)
  rw [Zcy] at this
  exact_mod_cast this
theorem Zpy (n:Nat):(decT n).data.toList.all isDig=true:=by
 by_cases h:n=0
 ·subst h;rfl
 ·rw [Ze9 h,List.all_eq_true]
  intro c hc
  obtain ⟨d,hd,rfl⟩:=List.mem_map.1 hc
  have hx:=Zc6 n d (List.mem_reverse.1 hd)
  unfold isDig
  rw [Zks hx.1 hx.2]
  simp;omega
theorem Zl0 (s:ByteArray) (a b:Nat):(s.extract a b).data.toList=(s.data.toList.drop a).take (b - a):=by
 rw [ByteArray.data_extract,Array.toList_extract]
def numF (v:Nat) (l:List UInt8):Nat:=l.foldl (fun n c=>n*10+(c.toNat - 48)) v
theorem Zqa (v:Nat):numF v []=v:=rfl
theorem Zhw (v:Nat) (c:UInt8) (l:List UInt8):numF v (c :: l)=numF (v*10+(c.toNat - 48)) l:=by unfold numF;rw [List.foldl_cons]
theorem Zp9 (v:Nat) (l m:List UInt8):numF v (l++m)=numF (numF v l) m:=by unfold numF;rw [List.foldl_append]
theorem Zha:∀ (l:List UInt8) (v:Nat),numF v l=v*10 ^ l.length+numF 0 l
 | [],v=>by simp [numF]
 | c :: l,v=>by
  rw [Zhw,Zhw,Zha l (v*10+_),Zha l (0*10+_),List.length_cons,Nat.pow_succ,Nat.add_mul,Nat.zero_mul,Nat.zero_add,Nat.mul_assoc v 10,Nat.mul_comm 10]
  omega
theorem Zhs {c:UInt8}:isDig c=true ↔ 48<=c.toNat/\c.toNat<=57:=by unfold isDig;simp
theorem Zoo:∀ (l:List UInt8),l.all isDig=true->numF 0 l < 10 ^ l.length
 | [],_=>by simp [numF]
 | c :: l,h=>by
  rw [List.all_cons,Bool.and_eq_true] at h
  have h1:=Zoo l h.2
  have h2:=Zhs.1 h.1
  rw [Zhw,Zha,List.length_cons,Nat.pow_succ]
  have := Nat.mul_le_mul_right (10 ^ l.length) (show 0*10+(c.toNat - 48)<=9 by omega)
  omega
theorem Zq2 (s:ByteArray) (h:s.size<=9223372036854775807):Zb9.f s=some (bytesOf s):=by unfold Zb9.f;rw [if_pos h]
theorem Zjq (s:ByteArray) (i:Nat) (c:UInt8) (r:List UInt8) (h:s.data.toList.drop i=c :: r):(bytesOf s).getD i 0=(c.toNat:Int):=by
 unfold bytesOf
 have h2:s.data.toList[i]? = some c:=by
  have := List.getElem?_drop (xs:=s.data.toList) (i:=i) (j:=0)
  rw [h] at this
  simpa using this.symm
 rw [List.getD,List.getElem?_map,h2];rfl
theorem Zmd (s:ByteArray) (hs:s.data.toList.all isDig=true) (hl:s.data.toList.length<=9):∀ (r:List UInt8) (i v:Nat),s.data.toList.drop i=r->i<=s.data.toList.length->v < 10 ^ i->Tells (fun k=>Zce.l0 k (v:Int) (bytesOf s) ((bytesOf s).length:Int) (i:Int)) (numF v r:Int)
 | [],i,v,hr,hi,hv=>by
  have hlen:(bytesOf s).length=s.data.toList.length:=by unfold bytesOf;rw [List.length_map]
  have hge:s.data.toList.length<=i:=List.drop_eq_nil_iff.1 hr
  refine Tells.succ ?_
  simp only [Zce.l0]
  exact Tells.ifn (by omega) (Tells.pure _)
 | c :: r,i,v,hr,hi,hv=>by
  have hlen:(bytesOf s).length=s.data.toList.length:=by unfold bytesOf;rw [List.length_map]
  have hlt:i < s.data.toList.length:=by
   have := congrArg List.length hr
   rw [List.length_drop,List.length_cons] at this
   omega
  have hc:isDig c=true:=List.all_eq_true.1 hs c (List.mem_of_mem_drop (by rw [hr];exact List.mem_cons_self))
  have hc2:=Zhs.1 hc
  have hv9:v < 100000000:=Nat.lt_of_lt_of_le hv (Nat.le_trans (Nat.pow_le_pow_right (by omega) (show i<=8 by omega)) (by decide))
  have ih:=Zmd s hs hl r (i+1) (v*10+(c.toNat - 48)) (by rw [<- List.drop_drop,hr];rfl) (by omega) (by rw [Nat.pow_succ];omega)
  have c1:(i:Int) < ((bytesOf s).length:Int):=by omega
  have c2:(0:Int)<=(i:Int):=by omega
  have e1:(((v:Int)*10) % 4294967296+(((c.toNat:Int) - 48) % 256)) % 4294967296=((v*10+(c.toNat - 48):Nat):Int):=by omega
  refine Tells.succ ?_
  simp only [Zce.l0]
  rw [rd_n,Zjq s i c r hr,e1,w64s (by omega)]
  exact Tells.ifp c1 (Tells.ifp c2 (Tells.ifp c1 ih))
theorem Zk4 (s:ByteArray) (hs:s.data.toList.all isDig=true) (hl:s.data.toList.length<=9):Tells (fun k=>Zce.f k s) (numF 0 s.data.toList:Int):=by
 unfold Zce.f
 have hsz:s.size=s.data.toList.length:=by rw [Array.length_toList];rfl
 rw [Zq2 s (by omega)]
 exact (Tells.pure _).bind (Zmd s hs hl s.data.toList 0 0 rfl (by omega) (by simp))
theorem Zi4:([1000000000]:List Int)=limbs 1000000000:=by decide +kernel
theorem Zqq (n:Nat) (h:n < 4294967296):Tells (fun k=>Zv.f k [(n:Int)]) (limbs n) :=
 Zdi (Dg.one (by omega) (by omega)) (by rw [val_one]) (by simp)
theorem Zpq {l:List UInt8} (h:l.all isDig=true) (n:Nat):(l.drop n).all isDig=true:=List.all_eq_true.2 fun x hx=>List.all_eq_true.1 h x (List.mem_of_mem_drop hx)
theorem Zlr {l:List UInt8} (h:l.all isDig=true) (n:Nat):(l.take n).all isDig=true:=List.all_eq_true.2 fun x hx=>List.all_eq_true.1 h x (List.mem_of_mem_take hx)
theorem Zlm:∀ (f:Nat) (s:ByteArray) (v:Nat),s.data.toList.length<=f->s.data.toList.all isDig=true->(v=0\/s.data.toList.length % 9=0)->nd v+s.data.toList.length<=100000 ->
  Tells (fun k=>Za1.l0 k s (limbs v)) (limbs (numF v s.data.toList),0)
 | f,s,v,hf,hs,hv,hl=>by
  have hsz:s.size=s.data.toList.length:=by rw [Array.length_toList];rfl
  by_cases h0:s.data.toList=[]
  ·refine Tells.succ ?_
   simp only [Za1.l0]
   refine Tells.ifp (by rw [<- h0];exact (Lib.toList_data s)) ((Tells.pure _).val ?_)
   rw [h0,Zqa]
  ·have hpos:0 < s.data.toList.length:=List.length_pos_iff.2 h0
   obtain ⟨f,rfl⟩:∃ g,f=g+1:=⟨f - 1,by omega⟩
   obtain ⟨n,hn⟩:∃ n,(s.data.toList.length - 1) % 9+1=n:=⟨_,rfl⟩
   have hn9:n<=9:=by omega
   have hnl:n<=s.data.toList.length:=by omega
   have hT:(s.extract 0 n).data.toList=s.data.toList.take n:=by rw [Zl0];simp
   have hD:(s.extract n s.size).data.toList=s.data.toList.drop n:=by
    rw [Zl0,hsz,List.take_of_length_le (by rw [List.length_drop];omega)]
   have hp:=Zk4 (s.extract 0 n) (by rw [hT];exact Zlr hs n) (by rw [hT,List.length_take];omega)
   rw [hT] at hp
   have hpl:=Zoo (s.data.toList.take n) (Zlr hs n)
   obtain ⟨p,hpp⟩:∃ p,numF 0 (s.data.toList.take n)=p:=⟨_,rfl⟩
   rw [hpp] at hp hpl
   rw [List.length_take,Nat.min_eq_left hnl] at hpl
   have hp9:p < 1000000000:=Nat.lt_of_lt_of_le hpl (Nat.le_trans (Nat.pow_le_pow_right (by omega) hn9) (by decide))
   have hv2:v*1000000000+p=numF v (s.data.toList.take n):=by
    rw [Zha,hpp,List.length_take,Nat.min_eq_left hnl]
    rcases hv with h|h
    ·rw [h];simp
    ·rw [show n=9 by omega]
   have hndv:nd (v*1000000000+p)<=nd v+9:=by
    refine Zgv ?_
    have := Zhu v
    rw [Nat.pow_add]
    have h9:(10:Nat) ^ 9=1000000000:=by decide
    rw [h9]
    have := Nat.mul_le_mul_right 1000000000 (show v+1<=10 ^ nd v by omega)
    omega
   have hv0:v=0->nd (v*1000000000+p)<=n:=fun e=>by
    subst e
    rw [Nat.zero_mul,Nat.zero_add]
    exact Zgv hpl
   have hndb:nd 1000000000<=10:=Zgv (by decide)
   have hndp:nd p<=9:=Zgv hp9
   have hm:=Zge (m:=v) (n:=1000000000) (by omega) (by omega)
   have ha:=Zjm (m:=v*1000000000) (n:=p) (Nat.le_trans (Zer (Nat.le_add_right _ p)) (by omega)) (by omega)
   have ih:=Zlm f (s.extract n s.size) (v*1000000000+p) (by rw [hD,List.length_drop];omega) (by rw [hD];exact Zpq hs n) (.inr (by rw [hD,List.length_drop];omega)) (by
    rw [hD,List.length_drop]
    rcases hv with h|h
    ·have := hv0 h;omega
    ·have:n=9:=by omega
     omega)
   rw [hD] at ih
   have ih:=ih.val (u:=(limbs (numF v s.data.toList),0)) (by rw [hv2,<- Zp9,List.take_append_drop])
   have e1:(s.size:Int) - 1=((s.data.toList.length - 1:Nat):Int):=by omega
   have e2:Int.tmod ((s.data.toList.length - 1:Nat):Int) 9=(((s.data.toList.length - 1) % 9:Nat):Int):=by rw [Int.tmod_eq_emod_of_nonneg (by omega)];omega
   have c1:(0:Int)<=(n:Int):=by omega
   have c2:(n:Int)<=(s.size:Int):=by omega
   refine Tells.succ ?_
   simp only [Za1.l0]
   rw [e1,w64c (by omega),e2,w64s (by omega),hn,Int.toNat_natCast,Zi4]
   refine Tells.ifn (fun q=>h0 (by rw [<- Lib.toList_data s];exact q)) (hm.bind (Tells.ifp c1 (Tells.ifp c2 (hp.bind ((Zqq p (by omega)).bind (ha.bind ih))))))
theorem Zmv (s:ByteArray) (h:s.data.toList.all isDig=true):Zb0.f (bytesOf s)=some false:=by
 unfold Zb0.f
 rw [Zjo (fun x=>decide (x < 48) || decide (57 < x)) (bytesOf s) (fun x _=>by
  unfold Zd0.f
  by_cases h1:x < 48
  ·rw [if_pos h1,decide_eq_true h1];rfl
  ·rw [if_neg h1,decide_eq_false h1];rfl)]
 congr 1
 rw [List.any_eq_false]
 intro x hx
 unfold bytesOf at hx
 obtain ⟨c,hc,rfl⟩:=List.mem_map.1 hx
 have := Zhs.1 (List.all_eq_true.1 h c hc)
 simp;omega
theorem Zko (s:ByteArray) (h:s.data.toList.all isDig=true) (h0:0 < s.size) (h1:s.size<=2400):Tells (fun k=>Za1.f k s) (limbs (numF 0 s.data.toList),0):=by
 have hsz:s.size=s.data.toList.length:=by rw [Array.length_toList];rfl
 unfold Za1.f
 rw [Zq2 s (by omega)]
 refine Tells.ifn (by omega) (Tells.ifn (by omega) ((Tells.pure _).bind ?_))
 rw [Zmv s h]
 exact (Tells.pure _).bind (Tells.ifn (by simp) (Zlm _ s 0 (Nat.le_refl _) h (.inl rfl) (by rw [Zom];omega)))
theorem Zms {n:Nat} (h:nd n<=2400):Tells (fun k=>Za1.f k (decT n)) (limbs n,0):=by
 have hs:=Zfa n
 have hpos:0 < (decT n).size:=by
  rw [hs];split
  ·omega
  ·rename_i h0;exact Zg5 h0
 have hle:(decT n).size<=2400:=by rw [hs];split <;> omega
 refine (Zko (decT n) (Zpy n) hpos hle).val ?_
 rw [show numF 0 (decT n).data.toList=n from Zop n]
theorem Ztk (a:Bool) (n:Nat) (e:Int):Zcl.f a (limbs n) e=some (decide (n=0)):=by
 unfold Zcl.f
 congr 1
 by_cases h:n=0
 ·subst h;rfl
 ·have:0 < (limbs n).length:=List.length_pos_iff.2 (Zdt h)
  rw [decide_eq_false h]
  exact beq_eq_false_iff_ne.2 (by omega)
theorem Zg4 {n:Nat} (h:(limbs n).length<=256):Tells (fun k=>Zcv.f k (limbs n)) (nd n:Int):=by
 unfold Zcv.f
 refine (Zf0 h).bind ?_
 by_cases h0:n=0
 ·subst h0
  exact Tells.ifp rfl (Tells.pure _)
 ·have hl:0 < (limbs n).length:=List.length_pos_iff.2 (Zdt h0)
  refine Tells.ifn (by omega) ((Tells.pure _).val ?_)
  rw [Zfa,if_neg h0]
theorem Zpw {n:Nat} (h:(limbs n).length<=256):(limbs (core n)).length<=256:=by
 refine Zfc (Nat.lt_of_le_of_lt (Zrv n) (Nat.lt_of_lt_of_le (Zl5 n) (Nat.pow_le_pow_right (by omega) h)))
theorem Zlb (a:Bool) {n:Nat} (e:Int) (h0:n ≠ 0) (h:(limbs n).length<=256) (hd:nd n<=2400) (he1 : -1000000000<=e) (he2:e<=1000000000):Tells (fun k=>Zbv.f k a (limbs n) e) (a,limbs (core n),e+tz n):=by
 have hs:=Zfa n
 have hs2:=Zfa (core n)
 have hnc:=Zi6 h0
 rw [if_neg h0] at hs
 rw [if_neg (Ziz h0)] at hs2
 unfold Zbv.f Zeu.f Zfo.f Zb4.f
 refine (Zf0 h).bind ((Tells.pure _).bind ?_)
 rw [if_pos ⟨rfl,by show (decT n).size<=_;omega⟩]
 refine (Tells.pure _).bind ?_
 simp only [Zpi h0]
 by_cases ht:tz n=0
 ·have hc:core n=n:=by
   have := (Zki h0).1
   rw [ht,Nat.pow_zero,Nat.mul_one] at this
   exact this.symm
  refine Tells.ifp (by rw [hc]) ((Tells.pure _).val ?_)
  rw [hc,ht];simp
 ·refine Tells.ifn (by omega) ?_
  have e1:((decT n).size:Int) - ((decT (core n)).size:Int)=(tz n:Int):=by omega
  refine (Zms (by omega)).bind ((Tells.pure _).bind ((Tells.pure _).val ?_))
  rw [e1,w64c (m:=tz n) (by omega),w64n (by omega) (by omega)]
theorem Zke (a:Bool) {n:Nat} (e:Int) (h:(limbs n).length<=256) (hd:nd n<=2400) (he1 : -1000000000<=e) (he2:e<=1000000000):Tells (fun k=>Zcz.f k a (limbs n) e) (outD (settleD ⟨a,n,e⟩)):=by
 unfold Zcz.f settleD
 rw [Ztk]
 refine (Tells.pure _).bind ?_
 simp only
 by_cases h0:n=0
 ·subst h0
  exact Tells.ifp rfl (Tells.pure _)
 ·rw [if_neg h0]
  have hcd:=Zi6 h0
  refine Tells.ifn (by simp [h0]) ((Zlb a e h0 h hd he1 he2).bind ((Zg4 (Zpw h)).bind ?_))
  dsimp only
  by_cases h3:300 < nd (core n)
  ·rw [if_pos h3]
   exact Tells.ifp (by omega) (Tells.pure _)
  ·rw [if_neg h3]
   refine Tells.ifn (by omega) ?_
   by_cases h4:e+tz n < -1000
   ·exact (Tells.ifp h4 (Tells.pure _)).val (by rw [if_pos (Or.inl h4)];rfl)
   ·refine Tells.ifn h4 ?_
    by_cases h5:1000 < e+tz n
    ·exact (Tells.ifp h5 (Tells.pure _)).val (by rw [if_pos (Or.inr h5)];rfl)
    ·exact (Tells.ifn h5 (Tells.pure _)).val (by rw [if_neg (by omega)])
theorem Zph {n:Nat} (h:(limbs n).length<=256):Tells (fun k=>Zeo.f k (limbs n)) (limbs (n / 10),decide (n % 10=0)):=by
 unfold Zeo.f
 have h10:(limbs 10).length<=256:=by decide +kernel
 refine (Zgn 10 (by omega)).bind ((Zhd h h10).bind ((Tells.pure _).val ?_))
 rw [if_neg (by omega)]
 dsimp only
 congr 1
 by_cases h0:n % 10=0
 ·rw [h0];rfl
 ·have:0 < (limbs (n % 10)).length:=List.length_pos_iff.2 (Zdt h0)
  rw [decide_eq_false h0]
  exact beq_eq_false_iff_ne.2 (by omega)
theorem Zjd (a:Bool) (l:List Int) (e:Int) (hd:Dg 4294967296 l) (hl:l.length<=9223372036854775807):Tells (fun k=>Zbs.f k a l e) (chk a l e):=by
 unfold Zbs.f
 rw [Zhc l hl]
 refine (Tells.pure _).bind ?_
 have bad:chk a l e=9->Tells (fun k=>Zbs.j0 k true a l e) (chk a l e):=fun h=>by
  rw [h]
  refine Tells.succ ?_
  simp only [Zbs.j0]
  exact Tells.ifp trivial (Tells.pure _)
 by_cases hc:chkL l=0
 ·refine Tells.ifp hc ?_
  by_cases h40:l.length<=40
  ·rw [decide_eq_false (show ¬ ((l.length:Int) > 40) by omega)]
   have hok:=(Zkr hd).1 hc
   obtain ⟨n,hn⟩:∃ n,num l=n:=⟨_,rfl⟩
   have hln:l=limbs n:=by rw [<- hn];exact (Zj1 hok).symm
   have hchk:chk a l e=if okB ⟨a,n,e⟩=true then 0 else 9:=by
    unfold chk
    rw [hn]
    by_cases h:okB ⟨a,n,e⟩=true
    ·rw [if_pos ⟨hc,h40,h⟩,if_pos h]
    ·rw [if_neg (fun q=>h q.2.2),if_neg h]
   rw [hchk]
   subst hln
   have h256:(limbs n).length<=256:=by omega
   unfold okB
   simp only
   refine Tells.succ ?_
   simp only [Zbs.j0]
   refine Tells.ifn (by simp) ?_
   by_cases h0:n=0
   ·subst h0
    rw [if_pos rfl]
    refine Tells.ifp rfl ?_
    cases a
    ·refine Tells.ifn (by simp) ?_
     by_cases he:e=0
     ·subst he;exact Tells.ifp rfl (Tells.pure _)
     ·refine Tells.ifn he ((Tells.pure _).val ?_)
      simp [he]
    ·exact Tells.ifp rfl (Tells.pure _)
   ·have hpos:0 < (limbs n).length:=List.length_pos_iff.2 (Zdt h0)
    rw [if_neg h0]
    refine Tells.ifn (by omega) ((Zph h256).bind ?_)
    dsimp only
    by_cases hz:n % 10=0
    ·rw [decide_eq_false (not_not_intro hz)]
     exact Tells.ifp (decide_eq_true hz) (Tells.pure _)
    ·rw [decide_eq_true hz]
     refine Tells.ifn (by simp [hz]) ((Zg4 h256).bind ?_)
     by_cases h3:nd n<=300
     ·rw [decide_eq_true h3]
      refine Tells.ifn (by omega) ?_
      by_cases h4:e < -1000
      ·rw [decide_eq_false (show ¬ (-1000<=e) by omega)]
       exact Tells.ifp h4 (Tells.pure _)
      ·rw [decide_eq_true (show -1000<=e by omega)]
       refine Tells.ifn h4 ?_
       by_cases h5:1000 < e
       ·rw [decide_eq_false (show ¬ (e<=1000) by omega)]
        exact Tells.ifp h5 (Tells.pure _)
       ·rw [decide_eq_true (show e<=1000 by omega)]
        exact Tells.ifn h5 (Tells.pure _)
     ·rw [decide_eq_false h3]
      exact Tells.ifp (by omega) (Tells.pure _)
  ·rw [decide_eq_true (show ((l.length:Int) > 40) by omega)]
   exact bad (by unfold chk;rw [if_neg (fun q=>h40 q.2.1)])
 ·exact Tells.ifn hc (bad (by unfold chk;rw [if_neg (fun q=>hc q.1)]))
theorem Zd5 {n:Nat} (h:nd n<=2304):(limbs n).length<=256:=Zij (by omega)
theorem Zrp (l:List Int) (h:l.length<=10000):Zag.f l=some l:=by unfold Zag.f;rw [if_pos (by omega)]
theorem Ziq (s:Bool) (n:Nat) (e:Int) (h:(limbs n).length<=256) (hd:nd n<=2400):Tells (fun k=>Zav.f k s (limbs n) e) (if e < -4000\/4000 < e then (false,[],0,52) else outD (settleD ⟨s,n,e⟩)):=by
 have bad:Tells (fun k=>Zav.j0 k s (limbs n) e true) (false,[],0,52):=by
  refine Tells.succ ?_
  simp only [Zav.j0]
  exact Tells.ifp trivial (Tells.pure _)
 unfold Zav.f
 rw [chkN h]
 refine (Tells.pure _).bind (Tells.ifp rfl ?_)
 by_cases h1:e < -4000
 ·rw [if_pos (.inl h1)]
  exact Tells.ifp h1 bad
 ·refine Tells.ifn h1 ?_
  by_cases h2:4000 < e
  ·rw [if_pos (.inr h2),decide_eq_true (show e > 4000 from h2)]
   exact bad
  ·rw [if_neg (by omega),decide_eq_false (show ¬ (e > 4000) from h2)]
   refine Tells.succ ?_
   simp only [Zav.j0]
   rw [Zrp _ (by omega)]
   exact Tells.ifn (by simp) ((Tells.pure _).bind ((Zke s e h hd (by omega) (by omega)).bind (Tells.pure _)))
end YtjbjkmccfocikaaGreatDoor.P
end
section
namespace YtjbjkmccfocikaaGreatDoor.B
open Go.RowKit Go.Shelf YtjbjkmccfocikaaGreatDoorW.PrintWords
theorem Zf7 (b o j:Nat):(⟨b,o,none⟩:Addr).add j=⟨b,o+j,none⟩:=by unfold Addr.add;split <;> simp_all
end YtjbjkmccfocikaaGreatDoor.B
end
section
namespace YtjbjkmccfocikaaGreatDoor.B
open Go.RowKit YtjbjkmccfocikaaGreatDoorW.PrintWords YtjbjkmccfocikaaGreatDoorW.PrintLast YtjbjkmccfocikaaGreatDoorW.PrintMore
attribute [local go_sem] Zb5 Zb7 Zcs Zct Zbn Zbo Zb6 Zb8
def Zaj.f (a0:ByteArray) (a1:Int):Option (Bool):=if a1 < (a0.size:Int) then (if 0<=a1 then (if (bt a0 a1) >= 48 then (some (decide ((bt a0 a1)<=57))) else (some false)) else (none)) else (some false)
theorem Zaj.calls (a0:ByteArray) (a1:Int) (r:Bool) (w:World) (h:Zaj.f a0 a1=some r) :
  Calls Tryz.prog 153 #[.string a0,.int .i64 a1] w fun e w'=>e=.returned (.bool r)/\Drawn0 w w':=by
 have H:(if a1 < (a0.size:Int) then (if 0<=a1 then (if (bt a0 a1) >= 48 then (some (decide ((bt a0 a1)<=57))) else (some false)) else (none)) else (some false))=some r:=h
 clear h
 by_cases c3:a1 < (a0.size:Int)
 ·rw [if_pos c3] at H
  have c3b0:decide (a1 < (a0.size:Int))=true:=decide_eq_true c3
  clear c3
  by_cases c4:0<=a1
  ·rw [if_pos c4] at H
   have c4b0:decide (0<=a1)=true:=decide_eq_true c4
   clear c4
   by_cases c6:(bt a0 a1) >= 48
   ·rw [if_pos c6] at H
    have c6b0:decide (48<=(bt a0 a1))=true:=decide_eq_true c6
    clear c6
    obtain rfl:=Option.some.inj H
    have p5:0<=(a1:Int):=of_decide_eq_true pQ
    have q5:a1 < (a0.size:Int):=of_decide_eq_true pQ
    have hx5:=Zdk a0 a1
    replace p5:=eq_true p5
    replace q5:=eq_true q5
    have p7:0<=(a1:Int):=of_decide_eq_true pQ
    have q7:a1 < (a0.size:Int):=of_decide_eq_true pQ
    have hx7:=Zdk a0 a1
    replace p7:=eq_true p7
    replace q7:=eq_true q7
    go_enter Tryz.func153,Tryz.ntmps153
    go_wp2
    go_ret
    exact ⟨pR,pD⟩
   ·rw [if_neg c6] at H
    have c6b0:decide (48<=(bt a0 a1))=false:=decide_eq_false c6
    clear c6
    obtain rfl:=Option.some.inj H
    have p5:0<=(a1:Int):=of_decide_eq_true pQ
    have q5:a1 < (a0.size:Int):=of_decide_eq_true pQ
    have hx5:=Zdk a0 a1
    replace p5:=eq_true p5
    replace q5:=eq_true q5
    go_enter Tryz.func153,Tryz.ntmps153
    go_wp2
    go_ret
    exact ⟨pR,pD⟩
  ·rw [if_neg c4] at H
   exact absurd H (by simp)
 ·rw [if_neg c3] at H
  have c3b0:decide (a1 < (a0.size:Int))=false:=decide_eq_false c3
  clear c3
  obtain rfl:=Option.some.inj H
  go_enter Tryz.func153,Tryz.ntmps153
  go_wp2
  go_ret
  exact ⟨pR,pD⟩
mutual
def Ze.j0:Nat->ByteArray->Int->Bool->Option (Int × Bool)
 | 0,_,_,_=>none
 | k+1,x0,x1,x15=>if x15=true then (Ze.j1 k x0 (wrap64 (x1+1))) else (Ze.j1 k x0 x1)
def Ze.j1:Nat->ByteArray->Int->Option (Int × Bool)
 | 0,_,_=>none
 | k+1,x0,x1=>(Zaj.f x0 x1).bind fun t534=>(if t534=true then (if 0<=x1 then (if x1 < (x0.size:Int) then (if (bt x0 x1)=48 then (Ze.j3 k x0 (wrap64 (x1+1))) else (Ze.l0 k x0 x1)) else (none)) else (none)) else (some (x1,false)))
def Ze.j3:Nat->ByteArray->Int->Option (Int × Bool)
 | 0,_,_=>none
 | k+1,x0,x1=>if x1 < (x0.size:Int) then (if 0<=x1 then (Ze.j4 k x0 x1 ((bt x0 x1) == 46)) else (none)) else (Ze.j4 k x0 x1 false)
def Ze.j4:Nat->ByteArray->Int->Bool->Option (Int × Bool)
 | 0,_,_,_=>none
 | k+1,x0,x1,x43=>if x43=true then ((Zaj.f x0 (wrap64 (x1+1))).bind fun t536=>(if t536=true then (Ze.l1 k x0 (wrap64 (x1+1))) else (some (wrap64 (x1+1),false)))) else (Ze.j6 k x0 x1)
def Ze.j6:Nat->ByteArray->Int->Option (Int × Bool)
 | 0,_,_=>none
 | k+1,x0,x1=>if x1 < (x0.size:Int) then (if 0<=x1 then (if (bt x0 x1)=101 then (Ze.j7 k x0 x1 true) else (Ze.j7 k x0 x1 ((bt x0 x1) == 69))) else (none)) else (Ze.j7 k x0 x1 false)
def Ze.j7:Nat->ByteArray->Int->Bool->Option (Int × Bool)
 | 0,_,_,_=>none
 | k+1,x0,x1,x71=>if x71=true then (if (wrap64 (x1+1)) < (x0.size:Int) then (if 0<=(wrap64 (x1+1)) then (if (bt x0 (wrap64 (x1+1)))=43 then (Ze.j8 k x0 (wrap64 (x1+1)) true) else (Ze.j8 k x0 (wrap64 (x1+1)) ((bt x0 (wrap64 (x1+1))) == 45))) else (none)) else (Ze.j8 k x0 (wrap64 (x1+1)) false)) else (some (x1,true))
def Ze.j8:Nat->ByteArray->Int->Bool->Option (Int × Bool)
 | 0,_,_,_=>none
 | k+1,x0,x1,x89=>if x89=true then (Ze.j9 k x0 (wrap64 (x1+1))) else (Ze.j9 k x0 x1)
def Ze.j9:Nat->ByteArray->Int->Option (Int × Bool)
 | 0,_,_=>none
 | k+1,x0,x1=>(Zaj.f x0 x1).bind fun t538=>(if t538=true then (Ze.l2 k x0 x1) else (some (x1,false)))
def Ze.l2:Nat->ByteArray->Int->Option (Int × Bool)
 | 0,_,_=>none
 | k+1,x0,x1=>(Zaj.f x0 x1).bind fun t539=>(if t539=true then (Ze.l2 k x0 (wrap64 (x1+1))) else (some (x1,true)))
def Ze.l1:Nat->ByteArray->Int->Option (Int × Bool)
 | 0,_,_=>none
 | k+1,x0,x1=>(Zaj.f x0 x1).bind fun t537=>(if t537=true then (Ze.l1 k x0 (wrap64 (x1+1))) else (Ze.j6 k x0 x1))
def Ze.l0:Nat->ByteArray->Int->Option (Int × Bool)
 | 0,_,_=>none
 | k+1,x0,x1=>(Zaj.f x0 x1).bind fun t535=>(if t535=true then (Ze.l0 k x0 (wrap64 (x1+1))) else (Ze.j3 k x0 x1))
end
def Ze.f (k:Nat) (a0:ByteArray) (a1:Int):Option (Int × Bool):=if a1 < (a0.size:Int) then (if 0<=a1 then (Ze.j0 k a0 a1 ((bt a0 a1) == 45)) else (none)) else (Ze.j0 k a0 a1 false)
theorem Ze.calls (k:Nat) (a0:ByteArray) (a1:Int) (r1:Int) (r2:Bool) (w:World) (h:Ze.f k a0 a1=some (r1,r2)) :
  Calls Tryz.prog 117 #[.string a0,.int .i64 a1] w fun e w'=>e=.returned (.tuple #[.int .i64 r1,.bool r2])/\Drawn0 w w':=by
 have H:(if a1 < (a0.size:Int) then (if 0<=a1 then (Ze.j0 k a0 a1 ((bt a0 a1) == 45)) else (none)) else (Ze.j0 k a0 a1 false))=some (r1,r2):=h
 clear h
 have HC3:=am H
 clear H
 go_enter Tryz.func117,Tryz.ntmps117
 go_upto_region 1 with (fail)
 go_cut [15] (fun v15 wc => ∃ (kq:Nat) (x15_2:Bool),v15=.bool x15_2/\Aside0 (Ze.j0 kq a0 a1 x15_2=some (r1,r2))/\Aside0 (kq<=k)/\Drawn0 w wc)
 case first =>
  have H:=HC3.o
  clear HC3
  by_cases c4:a1 < (a0.size:Int)
  ·rw [if_pos c4] at H
   have c4b0:decide (a1 < (a0.size:Int))=true:=decide_eq_true c4
   clear c4
   (first|rw [c4b0]|(simp only [Zcd,Zdb];rw [c4b0])|skip)
   by_cases c5:0<=a1
   ·rw [if_pos c5] at H
    have c5b0:decide (0<=a1)=true:=decide_eq_true c5
    clear c5
    have H':=am H
    clear H
    have p6:0<=(a1:Int):=of_decide_eq_true pQ
    have q6:a1 < (a0.size:Int):=of_decide_eq_true pQ
    have hx6:=Zdk a0 a1
    replace p6:=eq_true p6
    replace q6:=eq_true q6
    go_wp2
    go_meet
    case rel=>exact ⟨_,(((bt a0 a1) == 45)),pR,H',⟨by first|omega|exact Nat.le_refl _⟩,pD⟩
   ·rw [if_neg c5] at H
    exact absurd H (by simp)
  ·rw [if_neg c4] at H
   have c4b0:decide (a1 < (a0.size:Int))=false:=decide_eq_false c4
   clear c4
   (first|rw [c4b0]|(simp only [Zcd,Zdb];rw [c4b0])|skip)
   have H':=am H
   clear H
   go_wp2
   go_meet
   case rel=>exact ⟨_,(false),pR,H',⟨by first|omega|exact Nat.le_refl _⟩,pD⟩
 case rest =>
  clear HC3
  obtain ⟨kq,x15_2,rfl,HA,HJ2,⟨mc2,rfl⟩⟩:=hcut
  cases kq with
  | zero=>exact absurd HA.out (by simp [Ze.j0])
  | succ kj2 =>
   have H:=HA.out
   clear HA
   simp only [Ze.j0] at H
   have HC7:=am H
   clear H
   go_upto_if 15 with (fail)
   go_cut [1] (fun v1 wc => ∃ (kq:Nat) (x1_6:Int),v1=.int .i64 x1_6/\Aside0 (Ze.j1 kq a0 x1_6=some (r1,r2))/\Aside0 (kq<=kj2)/\Drawn0 w wc)
   case first =>
    have H:=HC7.o
    clear HC7
    by_cases c8:x15_2=true
    ·subst c8
     rw [if_pos rfl] at H
     have H':=am H
     clear H
     go_wp2
     go_meet
     case rel=>exact ⟨_,(wrap64 (a1+1)),pR,H',⟨by have := HJ2.o;first|omega|exact Nat.le_refl _⟩,pD⟩
    ·replace c8:=Bool.eq_false_iff.mpr c8
     subst c8
     rw [if_neg (show ¬ (false=true) by decide)] at H
     have H':=am H
     clear H
     go_wp2
     go_meet
     case rel=>exact ⟨_,(a1),pR,H',⟨by have := HJ2.o;first|omega|exact Nat.le_refl _⟩,pD⟩
   case rest =>
    clear HC7
    obtain ⟨kq,x1_6,rfl,HA,HJ6,⟨mc6,rfl⟩⟩:=hcut
    cases kq with
    | zero=>exact absurd HA.out (by simp [Ze.j1])
    | succ kj6 =>
     have H:=HA.out
     clear HA
     simp only [Ze.j1] at H
     obtain ⟨t534,A9,H⟩:=ob H
     by_cases c10:t534=true
     ·subst c10
      rw [if_pos rfl] at H
      by_cases c11:0<=x1_6
      ·rw [if_pos c11] at H
       have c11b0:decide (0<=x1_6)=true:=decide_eq_true c11
       clear c11
       by_cases c12:x1_6 < (a0.size:Int)
       ·rw [if_pos c12] at H
        have c12b0:decide (x1_6 < (a0.size:Int))=true:=decide_eq_true c12
        clear c12
        have HC14:=am H
        clear H
        go_upto_if 26 with (first|(refine gL (some 20) Tryz.func153 #[.string a0,.int .i64 x1_6] (h:=?_);(with_reducible refine (Zaj.calls a0 x1_6 true _ A9.o).mono ?_);rintro e w' ⟨rfl,⟨nd,rfl⟩⟩;refine ⟨_,rfl,?_⟩;have p13:0<=(x1_6:Int):=of_decide_eq_true pQ;have q13:x1_6 < (a0.size:Int):=of_decide_eq_true pQ;have hx13:=Zdk a0 x1_6;replace p13:=eq_true p13;replace q13:=eq_true q13))
        (try simp only [Act.put,List.setIfInBounds_toArray,List.set_cons_zero,List.set_cons_succ])
        go_cut [1] (fun v1 wc => ∃ (kq:Nat) (x1_13:Int),v1=.int .i64 x1_13/\Aside0 (Ze.j3 kq a0 x1_13=some (r1,r2))/\Aside0 (kq<=kj6)/\Drawn0 w wc)
        case first =>
         have H:=HC14.o
         clear HC14
         by_cases c15:(bt a0 x1_6)=48
         ·rw [if_pos c15] at H
          have c15b0:((bt a0 x1_6) == 48)=true:=beq_iff_eq.mpr c15
          have c15b1:((bt a0 x1_6) != 48)=false:=bne_eq_false_iff_eq.mpr c15
          clear c15
          (first|rw [c15b0]|(simp only [Zcd,Zdb];rw [c15b0])|skip)
          have H':=am H
          clear H
          go_wp2
          go_meet
          case rel=>exact ⟨_,(wrap64 (x1_6+1)),pR,H',⟨by have := HJ2.o;have := HJ6.o;first|omega|exact Nat.le_refl _⟩,pD⟩
         ·rw [if_neg c15] at H
          have c15b0:((bt a0 x1_6) == 48)=false:=beq_eq_false_iff_ne.mpr c15
          have c15b1:((bt a0 x1_6) != 48)=true:=bne_iff_ne.mpr c15
          (first|rw [c15b0]|(simp only [Zcd,Zdb];rw [c15b0])|skip)
          have H':=am H
          clear H
          go_wp2
          go_loopg [1] kj6 (fun kq v1 w' => ∃ (x1_3:Int),v1=.int .i64 x1_3/\Aside0 (Ze.l0 kq a0 x1_3=some (r1,r2))/\Aside0 (kq<=kj6)/\Drawn0 w w')
          case atStart=>exact ⟨(x1_6),pR,H',⟨Nat.le_refl _⟩,pD⟩
          case round =>
           clear H'
           obtain ⟨x1_3,rfl,HA,HK3,⟨m3,rfl⟩⟩:=hrel
           cases gk with
           | zero=>exact absurd HA.out (by simp [Ze.l0])
           | succ k3 =>
            have H:=HA.out
            clear HA
            simp only [Ze.l0] at H
            obtain ⟨t535,A16,H⟩:=ob H
            by_cases c17:t535=true
            ·subst c17
             rw [if_pos rfl] at H
             have H':=am H
             clear H
             go_wp2_with (first|(refine gL (some 31) Tryz.func153 #[.string a0,.int .i64 x1_3] (h:=?_);(with_reducible refine (Zaj.calls a0 x1_3 true _ A16.o).mono ?_);rintro e w' ⟨rfl,⟨nd,rfl⟩⟩;refine ⟨_,rfl,?_⟩))
             go_roundg k3
             case measure=>have := HJ2.o;have := HJ6.o;have := HK3.out;omega
             case rel=>exact ⟨(wrap64 (x1_3+1)),pR,H',⟨by have := HJ2.o;have := HJ6.o;have := HK3.out;omega⟩,pD⟩
            ·replace c17:=Bool.eq_false_iff.mpr c17
             subst c17
             rw [if_neg (show ¬ (false=true) by decide)] at H
             have H':=am H
             clear H
             go_wp2_with (first|(refine gL (some 31) Tryz.func153 #[.string a0,.int .i64 x1_3] (h:=?_);(with_reducible refine (Zaj.calls a0 x1_3 false _ A16.o).mono ?_);rintro e w' ⟨rfl,⟨nd,rfl⟩⟩;refine ⟨_,rfl,?_⟩))
             go_meet
             case rel=>exact ⟨_,(x1_3),pR,H',⟨by have := HJ2.o;have := HJ6.o;have := HK3.out;first|omega|exact Nat.le_refl _⟩,pD⟩
        case rest =>
         clear HC14
         obtain ⟨kq,x1_13,rfl,HA,HJ13,⟨mc13,rfl⟩⟩:=hcut
         cases kq with
         | zero=>exact absurd HA.out (by simp [Ze.j3])
         | succ kj13 =>
          have H:=HA.out
          clear HA
          simp only [Ze.j3] at H
          have HC18:=am H
          clear H
          go_upto_region 9 with (fail)
          go_cut [43] (fun v43 wc => ∃ (kq:Nat) (x43_17:Bool),v43=.bool x43_17/\Aside0 (Ze.j4 kq a0 x1_13 x43_17=some (r1,r2))/\Aside0 (kq<=kj13)/\Drawn0 w wc)
          case first =>
           have H:=HC18.o
           clear HC18
           by_cases c19:x1_13 < (a0.size:Int)
           ·rw [if_pos c19] at H
            have c19b0:decide (x1_13 < (a0.size:Int))=true:=decide_eq_true c19
            clear c19
            (first|rw [c19b0]|(simp only [Zcd,Zdb];rw [c19b0])|skip)
            by_cases c20:0<=x1_13
            ·rw [if_pos c20] at H
             have c20b0:decide (0<=x1_13)=true:=decide_eq_true c20
             clear c20
             have H':=am H
             clear H
             have p21:0<=(x1_13:Int):=of_decide_eq_true pQ
             have q21:x1_13 < (a0.size:Int):=of_decide_eq_true pQ
             have hx21:=Zdk a0 x1_13
             replace p21:=eq_true p21
             replace q21:=eq_true q21
             go_wp2
             go_meet
             case rel=>exact ⟨_,(((bt a0 x1_13) == 46)),pR,H',⟨by have := HJ2.o;have := HJ6.o;have := HJ13.o;first|omega|exact Nat.le_refl _⟩,pD⟩
            ·rw [if_neg c20] at H
             exact absurd H (by simp)
           ·rw [if_neg c19] at H
            have c19b0:decide (x1_13 < (a0.size:Int))=false:=decide_eq_false c19
            clear c19
            (first|rw [c19b0]|(simp only [Zcd,Zdb];rw [c19b0])|skip)
            have H':=am H
            clear H
            go_wp2
            go_meet
            case rel=>exact ⟨_,(false),pR,H',⟨by have := HJ2.o;have := HJ6.o;have := HJ13.o;first|omega|exact Nat.le_refl _⟩,pD⟩
          case rest =>
           clear HC18
           obtain ⟨kq,x43_17,rfl,HA,HJ17,⟨mc17,rfl⟩⟩:=hcut
           cases kq with
           | zero=>exact absurd HA.out (by simp [Ze.j4])
           | succ kj17 =>
            have H:=HA.out
            clear HA
            simp only [Ze.j4] at H
            have HC22:=am H
            clear H
            go_upto_if 43 with (fail)
            go_cut [1] (fun v1 wc => ∃ (kq:Nat) (x1_21:Int),v1=.int .i64 x1_21/\Aside0 (Ze.j6 kq a0 x1_21=some (r1,r2))/\Aside0 (kq<=kj17)/\Drawn0 w wc)
            case first =>
             have H:=HC22.o
             clear HC22
             by_cases c23:x43_17=true
             ·subst c23
              rw [if_pos rfl] at H
              obtain ⟨t536,A24,H⟩:=ob H
              by_cases c25:t536=true
              ·subst c25
               rw [if_pos rfl] at H
               have H':=am H
               clear H
               go_wp2_with (first|(refine gL (some 48) Tryz.func153 #[.string a0,.int .i64 (wrap64 (x1_13+1))] (h:=?_);(with_reducible refine (Zaj.calls a0 (wrap64 (x1_13+1)) true _ A24.o).mono ?_);rintro e w' ⟨rfl,⟨nd,rfl⟩⟩;refine ⟨_,rfl,?_⟩))
               go_loopg [1] kj17 (fun kq v1 w' => ∃ (x1_5:Int),v1=.int .i64 x1_5/\Aside0 (Ze.l1 kq a0 x1_5=some (r1,r2))/\Aside0 (kq<=kj17)/\Drawn0 w w')
               case atStart=>exact ⟨(wrap64 (x1_13+1)),pR,H',⟨Nat.le_refl _⟩,pD⟩
               case round =>
                clear H'
                obtain ⟨x1_5,rfl,HA,HK5,⟨m5,rfl⟩⟩:=hrel
                cases gk with
                | zero=>exact absurd HA.out (by simp [Ze.l1])
                | succ k5 =>
                 have H:=HA.out
                 clear HA
                 simp only [Ze.l1] at H
                 obtain ⟨t537,A26,H⟩:=ob H
                 by_cases c27:t537=true
                 ·subst c27
                  rw [if_pos rfl] at H
                  have H':=am H
                  clear H
                  go_wp2_with (first|(refine gL (some 53) Tryz.func153 #[.string a0,.int .i64 x1_5] (h:=?_);(with_reducible refine (Zaj.calls a0 x1_5 true _ A26.o).mono ?_);rintro e w' ⟨rfl,⟨nd,rfl⟩⟩;refine ⟨_,rfl,?_⟩))
                  go_roundg k5
                  case measure=>have := HJ2.o;have := HJ6.o;have := HJ13.o;have := HJ17.o;have := HK5.out;omega
                  case rel=>exact ⟨(wrap64 (x1_5+1)),pR,H',⟨by have := HJ2.o;have := HJ6.o;have := HJ13.o;have := HJ17.o;have := HK5.out;omega⟩,pD⟩
                 ·replace c27:=Bool.eq_false_iff.mpr c27
                  subst c27
                  rw [if_neg (show ¬ (false=true) by decide)] at H
                  have H':=am H
                  clear H
                  go_wp2_with (first|(refine gL (some 53) Tryz.func153 #[.string a0,.int .i64 x1_5] (h:=?_);(with_reducible refine (Zaj.calls a0 x1_5 false _ A26.o).mono ?_);rintro e w' ⟨rfl,⟨nd,rfl⟩⟩;refine ⟨_,rfl,?_⟩))
                  go_meet
                  case rel=>exact ⟨_,(x1_5),pR,H',⟨by have := HJ2.o;have := HJ6.o;have := HJ13.o;have := HJ17.o;have := HK5.out;first|omega|exact Nat.le_refl _⟩,pD⟩
              ·replace c25:=Bool.eq_false_iff.mpr c25
               subst c25
               rw [if_neg (show ¬ (false=true) by decide)] at H
               simp only [Option.some.injEq,Prod.mk.injEq] at H
               obtain ⟨rfl,rfl⟩:=H
               go_wp2_with (first|(refine gL (some 48) Tryz.func153 #[.string a0,.int .i64 (wrap64 (x1_13+1))] (h:=?_);(with_reducible refine (Zaj.calls a0 (wrap64 (x1_13+1)) false _ A24.o).mono ?_);rintro e w' ⟨rfl,⟨nd,rfl⟩⟩;refine ⟨_,rfl,?_⟩))
               go_ret2
               exact ⟨pR,pD⟩
             ·replace c23:=Bool.eq_false_iff.mpr c23
              subst c23
              rw [if_neg (show ¬ (false=true) by decide)] at H
              have H':=am H
              clear H
              go_wp2
              go_meet
              case rel=>exact ⟨_,(x1_13),pR,H',⟨by have := HJ2.o;have := HJ6.o;have := HJ13.o;have := HJ17.o;first|omega|exact Nat.le_refl _⟩,pD⟩
            case rest =>
             clear HC22
             obtain ⟨kq,x1_21,rfl,HA,HJ21,⟨mc21,rfl⟩⟩:=hcut
             cases kq with
             | zero=>exact absurd HA.out (by simp [Ze.j6])
             | succ kj21 =>
              have H:=HA.out
              clear HA
              simp only [Ze.j6] at H
              have HC28:=am H
              clear H
              go_upto_region 15 with (fail)
              go_cut [71] (fun v71 wc => ∃ (kq:Nat) (x71_27:Bool),v71=.bool x71_27/\Aside0 (Ze.j7 kq a0 x1_21 x71_27=some (r1,r2))/\Aside0 (kq<=kj21)/\Drawn0 w wc)
              case first =>
               have H:=HC28.o
               clear HC28
               by_cases c29:x1_21 < (a0.size:Int)
               ·rw [if_pos c29] at H
                have c29b0:decide (x1_21 < (a0.size:Int))=true:=decide_eq_true c29
                clear c29
                (first|rw [c29b0]|(simp only [Zcd,Zdb];rw [c29b0])|skip)
                by_cases c30:0<=x1_21
                ·rw [if_pos c30] at H
                 have c30b0:decide (0<=x1_21)=true:=decide_eq_true c30
                 clear c30
                 by_cases c32:(bt a0 x1_21)=101
                 ·rw [if_pos c32] at H
                  have c32b0:((bt a0 x1_21) == 101)=true:=beq_iff_eq.mpr c32
                  have c32b1:((bt a0 x1_21) != 101)=false:=bne_eq_false_iff_eq.mpr c32
                  clear c32
                  have H':=am H
                  clear H
                  have p31:0<=(x1_21:Int):=of_decide_eq_true pQ
                  have q31:x1_21 < (a0.size:Int):=of_decide_eq_true pQ
                  have hx31:=Zdk a0 x1_21
                  replace p31:=eq_true p31
                  replace q31:=eq_true q31
                  go_wp2
                  go_meet
                  case rel=>exact ⟨_,(true),pR,H',⟨by have := HJ2.o;have := HJ6.o;have := HJ13.o;have := HJ17.o;have := HJ21.o;first|omega|exact Nat.le_refl _⟩,pD⟩
                 ·rw [if_neg c32] at H
                  have c32b0:((bt a0 x1_21) == 101)=false:=beq_eq_false_iff_ne.mpr c32
                  have c32b1:((bt a0 x1_21) != 101)=true:=bne_iff_ne.mpr c32
                  have H':=am H
                  clear H
                  have p31:0<=(x1_21:Int):=of_decide_eq_true pQ
                  have q31:x1_21 < (a0.size:Int):=of_decide_eq_true pQ
                  have hx31:=Zdk a0 x1_21
                  replace p31:=eq_true p31
                  replace q31:=eq_true q31
                  have p33:0<=(x1_21:Int):=of_decide_eq_true pQ
                  have q33:x1_21 < (a0.size:Int):=of_decide_eq_true pQ
                  have hx33:=Zdk a0 x1_21
                  replace p33:=eq_true p33
                  replace q33:=eq_true q33
                  go_wp2
                  go_meet
                  case rel=>exact ⟨_,(((bt a0 x1_21) == 69)),pR,H',⟨by have := HJ2.o;have := HJ6.o;have := HJ13.o;have := HJ17.o;have := HJ21.o;first|omega|exact Nat.le_refl _⟩,pD⟩
                ·rw [if_neg c30] at H
                 exact absurd H (by simp)
               ·rw [if_neg c29] at H
                have c29b0:decide (x1_21 < (a0.size:Int))=false:=decide_eq_false c29
                clear c29
                (first|rw [c29b0]|(simp only [Zcd,Zdb];rw [c29b0])|skip)
                have H':=am H
                clear H
                go_wp2
                go_meet
                case rel=>exact ⟨_,(false),pR,H',⟨by have := HJ2.o;have := HJ6.o;have := HJ13.o;have := HJ17.o;have := HJ21.o;first|omega|exact Nat.le_refl _⟩,pD⟩
              case rest =>
               clear HC28
               obtain ⟨kq,x71_27,rfl,HA,HJ27,⟨mc27,rfl⟩⟩:=hcut
               cases kq with
               | zero=>exact absurd HA.out (by simp [Ze.j7])
               | succ kj27 =>
                have H:=HA.out
                clear HA
                simp only [Ze.j7] at H
                by_cases c34:x71_27=true
                ·subst c34
                 rw [if_pos rfl] at H
                 have HC35:=am H
                 clear H
                 go_upto_region 17 with (fail)
                 go_cut [89] (fun v89 wc => ∃ (kq:Nat) (x89_34:Bool),v89=.bool x89_34/\Aside0 (Ze.j8 kq a0 (wrap64 (x1_21+1)) x89_34=some (r1,r2))/\Aside0 (kq<=kj27)/\Drawn0 w wc)
                 case first =>
                  have H:=HC35.o
                  clear HC35
                  by_cases c36:(wrap64 (x1_21+1)) < (a0.size:Int)
                  ·rw [if_pos c36] at H
                   have c36b0:decide ((wrap64 (x1_21+1)) < (a0.size:Int))=true:=decide_eq_true c36
                   clear c36
                   (first|rw [c36b0]|(simp only [Zcd,Zdb];rw [c36b0])|skip)
                   obtain ⟨ji37,hji37⟩:∃ j_:Int,(wrap64 (x1_21+1))=j_:=⟨_,rfl⟩
                   replace H:(if 0<=(ji37) then (if (bt a0 (ji37))=43 then (Ze.j8 kj27 a0 ji37 true) else (Ze.j8 kj27 a0 ji37 ((bt a0 (ji37)) == 45))) else (none))=some (r1,r2):=by first|(rw [hji37] at H;exact H)|(simp only [hji37] at H ⊢;exact H)
                   (try rw [hji37] at c36b0)
                   have hji37w:(IntKind.i64.wrap (x1_21+1))=ji37:=(Zcd _).trans hji37
                   by_cases c38:0<=(ji37)
                   ·rw [if_pos c38] at H
                    have c38b0:decide (0<=(ji37))=true:=decide_eq_true c38
                    clear c38
                    by_cases c40:(bt a0 (ji37))=43
                    ·rw [if_pos c40] at H
                     have c40b0:((bt a0 (ji37)) == 43)=true:=beq_iff_eq.mpr c40
                     have c40b1:((bt a0 (ji37)) != 43)=false:=bne_eq_false_iff_eq.mpr c40
                     clear c40
                     have H':=am H
                     clear H
                     have p39:0<=((ji37):Int):=of_decide_eq_true pQ
                     have q39:(ji37) < (a0.size:Int):=of_decide_eq_true pQ
                     have hx39:=Zdk a0 (ji37)
                     replace p39:=eq_true p39
                     replace q39:=eq_true q39
                     go_wp2
                     go_meet
                     case rel=>exact ⟨_,(true),pR,(by first|exact H'|(have H_:=H'.out;simp only [<- hji37] at H_;exact ⟨H_⟩)|(refine ⟨?_⟩;have H_:=H'.out;simp only [<- hji37] at H_ ⊢;exact H_)),⟨by have := HJ2.o;have := HJ6.o;have := HJ13.o;have := HJ17.o;have := HJ21.o;have := HJ27.o;first|omega|exact Nat.le_refl _⟩,pD⟩
                    ·rw [if_neg c40] at H
                     have c40b0:((bt a0 (ji37)) == 43)=false:=beq_eq_false_iff_ne.mpr c40
                     have c40b1:((bt a0 (ji37)) != 43)=true:=bne_iff_ne.mpr c40
                     have H':=am H
                     clear H
                     have p39:0<=((ji37):Int):=of_decide_eq_true pQ
                     have q39:(ji37) < (a0.size:Int):=of_decide_eq_true pQ
                     have hx39:=Zdk a0 (ji37)
                     replace p39:=eq_true p39
                     replace q39:=eq_true q39
                     have p41:0<=((ji37):Int):=of_decide_eq_true pQ
                     have q41:(ji37) < (a0.size:Int):=of_decide_eq_true pQ
                     have hx41:=Zdk a0 (ji37)
                     replace p41:=eq_true p41
                     replace q41:=eq_true q41
                     go_wp2
                     go_meet
                     case rel=>exact ⟨_,(((bt a0 (ji37)) == 45)),(by first|rfl|(simp;done)|(simp only [<- hji37] <;> (first|rfl|simp))|(simp [*];done)),(by first|exact H'|(have H_:=H'.out;simp only [<- hji37] at H_;exact ⟨H_⟩)|(refine ⟨?_⟩;have H_:=H'.out;simp only [<- hji37] at H_ ⊢;exact H_)),⟨by have := HJ2.o;have := HJ6.o;have := HJ13.o;have := HJ17.o;have := HJ21.o;have := HJ27.o;first|omega|exact Nat.le_refl _⟩,pD⟩
                   ·rw [if_neg c38] at H
                    exact absurd H (by simp)
                  ·rw [if_neg c36] at H
                   have c36b0:decide ((wrap64 (x1_21+1)) < (a0.size:Int))=false:=decide_eq_false c36
                   clear c36
                   (first|rw [c36b0]|(simp only [Zcd,Zdb];rw [c36b0])|skip)
                   have H':=am H
                   clear H
                   go_wp2
                   go_meet
                   case rel=>exact ⟨_,(false),pR,H',⟨by have := HJ2.o;have := HJ6.o;have := HJ13.o;have := HJ17.o;have := HJ21.o;have := HJ27.o;first|omega|exact Nat.le_refl _⟩,pD⟩
                 case rest =>
                  clear HC35
                  obtain ⟨kq,x89_34,rfl,HA,HJ34,⟨mc34,rfl⟩⟩:=hcut
                  cases kq with
                  | zero=>exact absurd HA.out (by simp [Ze.j8])
                  | succ kj34 =>
                   have H:=HA.out
                   clear HA
                   simp only [Ze.j8] at H
                   have HC42:=am H
                   clear H
                   go_upto_if 89 with (fail)
                   go_cut [1] (fun v1 wc => ∃ (kq:Nat) (x1_41:Int),v1=.int .i64 x1_41/\Aside0 (Ze.j9 kq a0 x1_41=some (r1,r2))/\Aside0 (kq<=kj34)/\Drawn0 w wc)
                   case first =>
                    have H:=HC42.o
                    clear HC42
                    by_cases c43:x89_34=true
                    ·subst c43
                     rw [if_pos rfl] at H
                     have H':=am H
                     clear H
                     go_wp2
                     go_meet
                     case rel=>exact ⟨_,(wrap64 ((wrap64 (x1_21+1))+1)),pR,H',⟨by have := HJ2.o;have := HJ6.o;have := HJ13.o;have := HJ17.o;have := HJ21.o;have := HJ27.o;have := HJ34.o;first|omega|exact Nat.le_refl _⟩,pD⟩
                    ·replace c43:=Bool.eq_false_iff.mpr c43
                     subst c43
                     rw [if_neg (show ¬ (false=true) by decide)] at H
                     have H':=am H
                     clear H
                     go_wp2
                     go_meet
                     case rel=>exact ⟨_,((wrap64 (x1_21+1))),pR,H',⟨by have := HJ2.o;have := HJ6.o;have := HJ13.o;have := HJ17.o;have := HJ21.o;have := HJ27.o;have := HJ34.o;first|omega|exact Nat.le_refl _⟩,pD⟩
                   case rest =>
                    clear HC42
                    obtain ⟨kq,x1_41,rfl,HA,HJ41,⟨mc41,rfl⟩⟩:=hcut
                    cases kq with
                    | zero=>exact absurd HA.out (by simp [Ze.j9])
                    | succ kj41 =>
                     have H:=HA.out
                     clear HA
                     simp only [Ze.j9] at H
                     obtain ⟨t538,A44,H⟩:=ob H
                     by_cases c45:t538=true
                     ·subst c45
                      rw [if_pos rfl] at H
                      have H':=am H
                      clear H
                      go_wp2_with (first|(refine gL (some 94) Tryz.func153 #[.string a0,.int .i64 x1_41] (h:=?_);(with_reducible refine (Zaj.calls a0 x1_41 true _ A44.o).mono ?_);rintro e w' ⟨rfl,⟨nd,rfl⟩⟩;refine ⟨_,rfl,?_⟩))
                      go_loopg [1] kj41 (fun kq v1 w' => ∃ (x1_9:Int),v1=.int .i64 x1_9/\Aside0 (Ze.l2 kq a0 x1_9=some (r1,r2))/\Aside0 (kq<=kj41)/\Drawn0 w w')
                      case atStart=>exact ⟨(x1_41),pR,H',⟨Nat.le_refl _⟩,pD⟩
                      case round =>
                       clear H'
                       obtain ⟨x1_9,rfl,HA,HK9,⟨m9,rfl⟩⟩:=hrel
                       cases gk with
                       | zero=>exact absurd HA.out (by simp [Ze.l2])
                       | succ k9 =>
                        have H:=HA.out
                        clear HA
                        simp only [Ze.l2] at H
                        obtain ⟨t539,A46,H⟩:=ob H
                        by_cases c47:t539=true
                        ·subst c47
                         rw [if_pos rfl] at H
                         have H':=am H
                         clear H
                         go_wp2_with (first|(refine gL (some 99) Tryz.func153 #[.string a0,.int .i64 x1_9] (h:=?_);(with_reducible refine (Zaj.calls a0 x1_9 true _ A46.o).mono ?_);rintro e w' ⟨rfl,⟨nd,rfl⟩⟩;refine ⟨_,rfl,?_⟩))
                         go_roundg k9
                         case measure=>have := HJ2.o;have := HJ6.o;have := HJ13.o;have := HJ17.o;have := HJ21.o;have := HJ27.o;have := HJ34.o;have := HJ41.o;have := HK9.out;omega
                         case rel=>exact ⟨(wrap64 (x1_9+1)),pR,H',⟨by have := HJ2.o;have := HJ6.o;have := HJ13.o;have := HJ17.o;have := HJ21.o;have := HJ27.o;have := HJ34.o;have := HJ41.o;have := HK9.out;omega⟩,pD⟩
                        ·replace c47:=Bool.eq_false_iff.mpr c47
                         subst c47
                         rw [if_neg (show ¬ (false=true) by decide)] at H
                         simp only [Option.some.injEq,Prod.mk.injEq] at H
                         obtain ⟨rfl,rfl⟩:=H
                         go_wp2_with (first|(refine gL (some 99) Tryz.func153 #[.string a0,.int .i64 x1_9] (h:=?_);(with_reducible refine (Zaj.calls a0 x1_9 false _ A46.o).mono ?_);rintro e w' ⟨rfl,⟨nd,rfl⟩⟩;refine ⟨_,rfl,?_⟩))
                         go_ret2
                         exact ⟨pR,pD⟩
                     ·replace c45:=Bool.eq_false_iff.mpr c45
                      subst c45
                      rw [if_neg (show ¬ (false=true) by decide)] at H
                      simp only [Option.some.injEq,Prod.mk.injEq] at H
                      obtain ⟨rfl,rfl⟩:=H
                      go_wp2_with (first|(refine gL (some 94) Tryz.func153 #[.string a0,.int .i64 x1_41] (h:=?_);(with_reducible refine (Zaj.calls a0 x1_41 false _ A44.o).mono ?_);rintro e w' ⟨rfl,⟨nd,rfl⟩⟩;refine ⟨_,rfl,?_⟩))
                      go_ret2
                      exact ⟨pR,pD⟩
                ·replace c34:=Bool.eq_false_iff.mpr c34
                 subst c34
                 rw [if_neg (show ¬ (false=true) by decide)] at H
                 simp only [Option.some.injEq,Prod.mk.injEq] at H
                 obtain ⟨rfl,rfl⟩:=H
                 go_wp2
                 go_ret2
                 exact ⟨pR,pD⟩
       ·rw [if_neg c12] at H
        exact absurd H (by simp)
      ·rw [if_neg c11] at H
       exact absurd H (by simp)
     ·replace c10:=Bool.eq_false_iff.mpr c10
      subst c10
      rw [if_neg (show ¬ (false=true) by decide)] at H
      simp only [Option.some.injEq,Prod.mk.injEq] at H
      obtain ⟨rfl,rfl⟩:=H
      go_wp2_with (first|(refine gL (some 20) Tryz.func153 #[.string a0,.int .i64 x1_6] (h:=?_);(with_reducible refine (Zaj.calls a0 x1_6 false _ A9.o).mono ?_);rintro e w' ⟨rfl,⟨nd,rfl⟩⟩;refine ⟨_,rfl,?_⟩))
      go_ret2
      exact ⟨pR,pD⟩
mutual
def Zg.j0:Nat->ByteArray->Bool->Option (Bool × List Int × Int × Int)
 | 0,_,_=>none
 | k+1,x0,x18=>if x18=true then (some (false,([]:List Int),0,32)) else (if (x0.size:Int) > 2000 then (some (false,([]:List Int),0,5)) else (if 0 < (x0.size:Int) then (Zg.l0 k x0 ([]:List Int) false 0 ((bt x0 0) == 45) 0) else (none)))
def Zg.l0:Nat->ByteArray->List Int->Bool->Int->Bool->Int->Option (Bool × List Int × Int × Int)
 | 0,_,_,_,_,_,_=>none
 | k+1,x0,x7,x8,x9,x544000,x544002=>if x9 < (x0.size:Int) then (if 0<=x9 then (if (bt x0 x9)=101 then (Zg.j2 k x0 x7 x8 x9 false x544000 x544002) else (Zg.j2 k x0 x7 x8 x9 ((bt x0 x9) != 69) x544000 x544002)) else (none)) else (Zg.j2 k x0 x7 x8 x9 false x544000 x544002)
def Zg.j2:Nat->ByteArray->List Int->Bool->Int->Bool->Bool->Int->Option (Bool × List Int × Int × Int)
 | 0,_,_,_,_,_,_,_=>none
 | k+1,x0,x7,x8,x9,x52,x544000,x544002=>if x52=true then (if 0<=x9 then (if x9 < (x0.size:Int) then (if (bt x0 x9)=46 then (Zg.l0 k x0 x7 true (wrap64 (x9+1)) x544000 x544002) else (if (bt x0 x9)=45 then (Zg.l0 k x0 x7 x8 (wrap64 (x9+1)) x544000 x544002) else ((some (([((bt x0 x9) - 48) % 256]:List Int):List Int)).bind fun y544=>(if y544.length+x7.length < 17592186044416 then ((some (y544++x7:List Int)).bind fun y547=>(if x8=true then (Zg.l0 k x0 y547 x8 (wrap64 (x9+1)) x544000 (wrap64 (x544002 - 1))) else (Zg.l0 k x0 y547 x8 (wrap64 (x9+1)) x544000 x544002))) else (none))))) else (none)) else (none)) else (if x9 < (x0.size:Int) then (Zg.l1 k x0 x7 (wrap64 (x9+1)) false 0 0 x544000 x544002) else ((Zm.f k x544000 x7 x544002).bind fun bt562=>(some (bt562.1,bt562.2.1,bt562.2.2.1,bt562.2.2.2))))
def Zg.l1:Nat->ByteArray->List Int->Int->Bool->Int->Int->Bool->Int->Option (Bool × List Int × Int × Int)
 | 0,_,_,_,_,_,_,_,_=>none
 | k+1,x0,x7,x9,x10,x11,x12,x544000,x544002=>if x9 < (x0.size:Int) then (if 0<=x9 then (if (bt x0 x9)=45 then (Zg.l1 k x0 x7 (wrap64 (x9+1)) true x11 x12 x544000 x544002) else (if (bt x0 x9)=43 then (Zg.l1 k x0 x7 (wrap64 (x9+1)) x10 x11 x12 x544000 x544002) else (if x11 > 0 then (Zg.j4 k x0 x7 x9 x10 x11 x12 true x544000 x544002) else (Zg.j4 k x0 x7 x9 x10 x11 x12 ((bt x0 x9) != 48) x544000 x544002)))) else (none)) else (if x10=true then ((Zm.f k x544000 x7 (wrap64 (x544002+(wrap64 (-x11))))).bind fun bt550=>(some (bt550.1,bt550.2.1,bt550.2.2.1,bt550.2.2.2))) else ((Zm.f k x544000 x7 (wrap64 (x544002+x11))).bind fun bt556=>(some (bt556.1,bt556.2.1,bt556.2.2.1,bt556.2.2.2))))
def Zg.j4:Nat->ByteArray->List Int->Int->Bool->Int->Int->Bool->Bool->Int->Option (Bool × List Int × Int × Int)
 | 0,_,_,_,_,_,_,_,_,_=>none
 | k+1,x0,x7,x9,x10,x11,x12,x107,x544000,x544002=>if x107=true then (if (wrap64 (x12+1)) > 6 then (some (false,([]:List Int),0,52)) else (if 0<=x9 then (if x9 < (x0.size:Int) then (Zg.l1 k x0 x7 (wrap64 (x9+1)) x10 (wrap64 ((wrap64 (10*x11))+(((bt x0 x9) - 48) % 256))) (wrap64 (x12+1)) x544000 x544002) else (none)) else (none))) else (if x12 > 6 then (some (false,([]:List Int),0,52)) else (if 0<=x9 then (if x9 < (x0.size:Int) then (Zg.l1 k x0 x7 (wrap64 (x9+1)) x10 (wrap64 ((wrap64 (10*x11))+(((bt x0 x9) - 48) % 256))) x12 x544000 x544002) else (none)) else (none)))
end
def Zg.f (k:Nat) (a0:ByteArray):Option (Bool × List Int × Int × Int):=(Ze.f k a0 0).bind fun bt541=>(if bt541.2=true then (Zg.j0 k a0 (bt541.1 != (a0.size:Int))) else (Zg.j0 k a0 true))
theorem Zg.calls (k:Nat) (a0:ByteArray) (r1:Bool) (r2:List Int) (r3:Int) (r4:Int) (w:World) (h:Zg.f k a0=some (r1,r2,r3,r4)) :
  Calls Tryz.prog 58 #[.string a0] w fun e w' => ∃ v1_:Value,e=.returned (.tuple #[.agg #[.bool r1,v1_,.int .i64 r3],.int .i64 r4])/\Kd.R (Kd.int .u32) 85 w' w.heap.size (fun _=>True) v1_ r2/\Below w.heap.size w w':=by
 have hu24:=Tryz.underlying24
 have hu30:=Tryz.underlying30
 have HB:=am (Below.refl w.heap.size w)
 have H:((Ze.f k a0 0).bind fun bt541=>(if bt541.2=true then (Zg.j0 k a0 (bt541.1 != (a0.size:Int))) else (Zg.j0 k a0 true)))=some (r1,r2,r3,r4):=h
 clear h
 obtain ⟨⟨t541,t542⟩,A2,H⟩:=ob H;(try dsimp only at H)
 have HC3:=am H
 clear H
 go_enter Tryz.func58,Tryz.ntmps58
 go_upto_region 2 with (first|((with_reducible refine gd 2 ?_);(try (refine Zao (by rfl) ?_;dsimp only));refine bx 2 #[.bool false,.slice none 0 0,.int .i64 0] 24 (h:=?_);intro gb540 hg w4 hbox hb;have BK540:=am hbox;have GW540:=gW hg;replace HB:=bS hb;clear hb hbox hg)|(refine gL (some 15) Tryz.func117 #[.string a0,.int .i64 0] (h:=?_);(with_reducible refine (Ze.calls k a0 0 t541 t542 _ A2.o).mono ?_);rintro e w' ⟨rfl,⟨nd,rfl⟩⟩;refine ⟨_,rfl,?_⟩))
 (try simp only [Act.put,List.setIfInBounds_toArray,List.set_cons_zero,List.set_cons_succ])
 go_cut [18] (fun v18 wc => ∃ (kq:Nat) (x18_2:Bool),v18=.bool x18_2/\Aside0 (Zg.j0 kq a0 x18_2=some (r1,r2,r3,r4))/\Aside0 (kq<=k)/\Aside0 (wc.heap[gb540]? = some (.cells #[.bool false,(.slice none 0 0),.int .i64 0] 24 (0,0)))/\Aside0 (Below w.heap.size w wc))
 case first =>
  have H:=HC3.o
  clear HC3
  by_cases c5:t542=true
  ·subst c5
   rw [if_pos rfl] at H
   have H':=am H
   clear H
   go_wp2
   go_meet
   case rel=>exact ⟨_,((t541 != (a0.size:Int))),pR,H',⟨by first|omega|exact Nat.le_refl _⟩,⟨Zc BK540.o pl⟩,⟨pB⟩⟩
  ·replace c5:=Bool.eq_false_iff.mpr c5
   subst c5
   rw [if_neg (show ¬ (false=true) by decide)] at H
   have H':=am H
   clear H
   go_wp2
   go_meet
   case rel=>exact ⟨_,(true),pR,H',⟨by first|omega|exact Nat.le_refl _⟩,⟨Zc BK540.o pl⟩,⟨pB⟩⟩
 case rest =>
  clear HC3
  obtain ⟨kq,x18_2,rfl,HA,HJ2,BK540,HB⟩:=hcut
  cases kq with
  | zero=>exact absurd HA.out (by simp [Zg.j0])
  | succ kj2 =>
   have H:=HA.out
   clear HA
   simp only [Zg.j0] at H
   by_cases c6:x18_2=true
   ·subst c6
    rw [if_pos rfl] at H
    simp only [Option.some.injEq,Prod.mk.injEq] at H
    obtain ⟨rfl,rfl,rfl,rfl⟩:=H
    obtain ⟨_,_,_,_,_,_⟩:=cEc BK540.o
    go_wp2
    refine bodyPost_ret (Za7 rfl _ _ gb540 24 #[.bool false,.slice none 0 0,.int .i64 0] (0,0) _ rfl (by exact p3 BK540) Tryz.underlying24 rfl (by kernel_rfl)) rfl ?_
    exact ⟨_,pE,pN,pB⟩
   ·replace c6:=Bool.eq_false_iff.mpr c6
    subst c6
    rw [if_neg (show ¬ (false=true) by decide)] at H
    by_cases c8:(a0.size:Int) > 2000
    ·rw [if_pos c8] at H
     have c8b0:decide (2000 < (a0.size:Int))=true:=decide_eq_true c8
     have c8b1:decide (2000 < a0.size)=true:=decide_eq_true (by omega)
     clear c8
     simp only [Option.some.injEq,Prod.mk.injEq] at H
     obtain ⟨rfl,rfl,rfl,rfl⟩:=H
     obtain ⟨_,_,_,_,_,_⟩:=cEc BK540.o
     go_wp2
     refine bodyPost_ret (Za7 rfl _ _ gb540 24 #[.bool false,.slice none 0 0,.int .i64 0] (0,0) _ rfl (by exact p3 BK540) Tryz.underlying24 rfl (by kernel_rfl)) rfl ?_
     exact ⟨_,pE,pN,pB⟩
    ·rw [if_neg c8] at H
     have c8b0:decide (2000 < (a0.size:Int))=false:=decide_eq_false c8
     have c8b1:decide (2000 < a0.size)=false:=decide_eq_false (by omega)
     clear c8
     by_cases c10:0 < (a0.size:Int)
     ·rw [if_pos c10] at H
      have c10b0:decide (0 < (a0.size:Int))=true:=decide_eq_true c10
      have c10b1:decide (0 < a0.size)=true:=decide_eq_true (by omega)
      clear c10
      have H':=am H
      clear H
      have p11:0<=(0:Int):=(by omega)
      have q11:0 < a0.size:=(by have:(0:Int) < (a0.size:Int):=of_decide_eq_true pQ;omega)
      have hx11:∀ h:0 < a0.size,((a0[0]'h).toNat:Int)=bt a0 0:=Zdk a0 0
      clear p11
      have qi11:(0 < (a0.size:Int))=True:=eq_true (of_decide_eq_true pQ)
      replace q11:=eq_true q11
      go_wp2_with (first|((with_reducible refine gd 6 ?_);(try (refine Zao (by rfl) ?_;dsimp only));refine bx 6 #[.bool false,.slice none 0 0,.int .i64 0] 30 (h:=?_);intro gb543 hg w12 hbox hb;have BK543:=am hbox;have GW543:=gW hg;have NB540_543:=nL hg BK540;have NB543_540:=nG hg BK540;replace BK540:=bb BK540 hb;replace HB:=bS hb;clear hb hbox hg;have hnb13:=NB543_540.o;have hnc13:=NB540_543.o;obtain ⟨_,_,_,_,_,_⟩:=cEc BK543.o))
      go_loopg [7,8,9] kj2 (fun kq v7 v8 v9 w' => ∃ (x7_2:List Int) (x8_2:Bool) (x9_2:Int) (x544002_2:Int),v8=.bool x8_2/\v9=.int .i64 x9_2/\Aside0 (Zg.l0 kq a0 x7_2 x8_2 x9_2 ((bt a0 0) == 45) x544002_2=some (r1,r2,r3,r4))/\Aside0 (kq<=kj2)/\Aside0 (Kd.R (Kd.int .i64) 3 w' w.heap.size (fun _=>True) v7 x7_2)/\Aside0 (w'.heap[gb540]? = some (.cells #[.bool false,(.slice none 0 0),.int .i64 0] 24 (0,0)))/\Aside0 (w'.heap[gb543]? = some (.cells #[.bool ((bt a0 0) == 45),(.slice none 0 0),.int .i64 x544002_2] 30 (0,0)))/\Aside0 (Below w.heap.size w w'))
      case atStart=>exact ⟨(([]:List Int)),(false),(0),(0),pR,pR,H',⟨Nat.le_refl _⟩,⟨pN⟩,⟨bf NB540_543.o BK540.o⟩,⟨by exact p3 BK543⟩,⟨pB⟩⟩
      case round =>
       clear H'
       obtain ⟨x7_2,x8_2,x9_2,x544002_2,rfl,rfl,HA,HK2,HO_7,BK540,BK543,HB⟩:=hrel
       cases gk with
       | zero=>exact absurd HA.out (by simp [Zg.l0])
       | succ k2 =>
        have H:=HA.out
        clear HA
        simp only [Zg.l0] at H
        have HC15:=am H
        clear H
        go_upto_region 10 with (fail)
        go_cut [52] (fun v52 wc => ∃ (kq:Nat) (x52_14:Bool),v52=.bool x52_14/\Aside0 (Zg.j2 kq a0 x7_2 x8_2 x9_2 x52_14 ((bt a0 0) == 45) x544002_2=some (r1,r2,r3,r4))/\Aside0 (kq<=k2)/\Aside0 (Kd.R (Kd.int .i64) 3 wc w.heap.size (fun _=>True) u7 x7_2)/\Aside0 (wc.heap[gb540]? = some (.cells #[.bool false,(.slice none 0 0),.int .i64 0] 24 (0,0)))/\Aside0 (wc.heap[gb543]? = some (.cells #[.bool ((bt a0 0) == 45),(.slice none 0 0),.int .i64 x544002_2] 30 (0,0)))/\Aside0 (Below w.heap.size w wc))
        case first =>
         have H:=HC15.o
         clear HC15
         by_cases c16:x9_2 < (a0.size:Int)
         ·rw [if_pos c16] at H
          have c16b0:decide (x9_2 < (a0.size:Int))=true:=decide_eq_true c16
          clear c16
          (first|rw [c16b0]|(simp only [Zcd,Zdb];rw [c16b0])|skip)
          by_cases c17:0<=x9_2
          ·rw [if_pos c17] at H
           have c17b0:decide (0<=x9_2)=true:=decide_eq_true c17
           clear c17
           by_cases c19:(bt a0 x9_2)=101
           ·rw [if_pos c19] at H
            have c19b0:((bt a0 x9_2) == 101)=true:=beq_iff_eq.mpr c19
            have c19b1:((bt a0 x9_2) != 101)=false:=bne_eq_false_iff_eq.mpr c19
            clear c19
            have H':=am H
            clear H
            have p18:0<=(x9_2:Int):=of_decide_eq_true pQ
            have q18:x9_2 < (a0.size:Int):=of_decide_eq_true pQ
            have hx18:=Zdk a0 x9_2
            replace p18:=eq_true p18
            replace q18:=eq_true q18
            go_wp2
            go_meet
            case rel=>exact ⟨_,(false),pR,H',⟨by have := HJ2.o;have := HK2.out;first|omega|exact Nat.le_refl _⟩,⟨by refine rp ?_;exact HO_7.o⟩,⟨Zc BK540.o pl⟩,⟨Zc BK543.o pl⟩,⟨pB⟩⟩
           ·rw [if_neg c19] at H
            have c19b0:((bt a0 x9_2) == 101)=false:=beq_eq_false_iff_ne.mpr c19
            have c19b1:((bt a0 x9_2) != 101)=true:=bne_iff_ne.mpr c19
            have H':=am H
            clear H
            have p18:0<=(x9_2:Int):=of_decide_eq_true pQ
            have q18:x9_2 < (a0.size:Int):=of_decide_eq_true pQ
            have hx18:=Zdk a0 x9_2
            replace p18:=eq_true p18
            replace q18:=eq_true q18
            have p20:0<=(x9_2:Int):=of_decide_eq_true pQ
            have q20:x9_2 < (a0.size:Int):=of_decide_eq_true pQ
            have hx20:=Zdk a0 x9_2
            replace p20:=eq_true p20
            replace q20:=eq_true q20
            go_wp2
            go_meet
            case rel=>exact ⟨_,(((bt a0 x9_2) != 69)),pR,H',⟨by have := HJ2.o;have := HK2.out;first|omega|exact Nat.le_refl _⟩,⟨by refine rp ?_;exact HO_7.o⟩,⟨Zc BK540.o pl⟩,⟨Zc BK543.o pl⟩,⟨pB⟩⟩
          ·rw [if_neg c17] at H
           exact absurd H (by simp)
         ·rw [if_neg c16] at H
          have c16b0:decide (x9_2 < (a0.size:Int))=false:=decide_eq_false c16
          clear c16
          (first|rw [c16b0]|(simp only [Zcd,Zdb];rw [c16b0])|skip)
          have H':=am H
          clear H
          go_wp2
          go_meet
          case rel=>exact ⟨_,(false),pR,H',⟨by have := HJ2.o;have := HK2.out;first|omega|exact Nat.le_refl _⟩,⟨by refine rp ?_;exact HO_7.o⟩,⟨Zc BK540.o pl⟩,⟨Zc BK543.o pl⟩,⟨pB⟩⟩
        case rest =>
         clear HC15
         obtain ⟨kq,x52_14,rfl,HA,HJ14,HO_7,BK540,BK543,HB⟩:=hcut
         cases kq with
         | zero=>exact absurd HA.out (by simp [Zg.j2])
         | succ kj14 =>
          have H:=HA.out
          clear HA
          simp only [Zg.j2] at H
          by_cases c21:x52_14=true
          ·subst c21
           rw [if_pos rfl] at H
           by_cases c22:0<=x9_2
           ·rw [if_pos c22] at H
            have c22b0:decide (0<=x9_2)=true:=decide_eq_true c22
            clear c22
            by_cases c23:x9_2 < (a0.size:Int)
            ·rw [if_pos c23] at H
             have c23b0:decide (x9_2 < (a0.size:Int))=true:=decide_eq_true c23
             clear c23
             by_cases c25:(bt a0 x9_2)=46
             ·rw [if_pos c25] at H
              have c25b0:((bt a0 x9_2) == 46)=true:=beq_iff_eq.mpr c25
              have c25b1:((bt a0 x9_2) != 46)=false:=bne_eq_false_iff_eq.mpr c25
              clear c25
              have H':=am H
              clear H
              have p24:0<=(x9_2:Int):=of_decide_eq_true pQ
              have q24:x9_2 < (a0.size:Int):=of_decide_eq_true pQ
              have hx24:=Zdk a0 x9_2
              replace p24:=eq_true p24
              replace q24:=eq_true q24
              go_wp2
              go_roundg kj14
              case measure=>have := HJ2.o;have := HK2.out;have := HJ14.o;omega
              case rel=>exact ⟨(x7_2),(true),(wrap64 (x9_2+1)),(x544002_2),pR,pR,H',⟨by have := HJ2.o;have := HK2.out;have := HJ14.o;omega⟩,⟨by refine rp ?_;exact HO_7.o⟩,⟨Zc BK540.o pl⟩,⟨Zc BK543.o pl⟩,⟨pB⟩⟩
             ·rw [if_neg c25] at H
              have c25b0:((bt a0 x9_2) == 46)=false:=beq_eq_false_iff_ne.mpr c25
              have c25b1:((bt a0 x9_2) != 46)=true:=bne_iff_ne.mpr c25
              by_cases c27:(bt a0 x9_2)=45
              ·rw [if_pos c27] at H
               have c27b0:((bt a0 x9_2) == 45)=true:=beq_iff_eq.mpr c27
               have c27b1:((bt a0 x9_2) != 45)=false:=bne_eq_false_iff_eq.mpr c27
               clear c27
               have H':=am H
               clear H
               have p24:0<=(x9_2:Int):=of_decide_eq_true pQ
               have q24:x9_2 < (a0.size:Int):=of_decide_eq_true pQ
               have hx24:=Zdk a0 x9_2
               replace p24:=eq_true p24
               replace q24:=eq_true q24
               have p26:0<=(x9_2:Int):=of_decide_eq_true pQ
               have q26:x9_2 < (a0.size:Int):=of_decide_eq_true pQ
               have hx26:=Zdk a0 x9_2
               replace p26:=eq_true p26
               replace q26:=eq_true q26
               go_wp2
               go_roundg kj14
               case measure=>have := HJ2.o;have := HK2.out;have := HJ14.o;omega
               case rel=>exact ⟨(x7_2),(x8_2),(wrap64 (x9_2+1)),(x544002_2),pR,pR,H',⟨by have := HJ2.o;have := HK2.out;have := HJ14.o;omega⟩,⟨by refine rp ?_;exact HO_7.o⟩,⟨Zc BK540.o pl⟩,⟨Zc BK543.o pl⟩,⟨pB⟩⟩
              ·rw [if_neg c27] at H
               have c27b0:((bt a0 x9_2) == 45)=false:=beq_eq_false_iff_ne.mpr c27
               have c27b1:((bt a0 x9_2) != 45)=true:=bne_iff_ne.mpr c27
               obtain ⟨y544,hy544⟩:∃ y_:List Int,y_=(([((bt a0 x9_2) - 48) % 256]:List Int)):=⟨_,rfl⟩
               replace H:(if y544.length+x7_2.length < 17592186044416 then ((some (y544++x7_2:List Int)).bind fun y547=>(if x8_2=true then (Zg.l0 kj14 a0 y547 x8_2 (wrap64 (x9_2+1)) ((bt a0 0) == 45) (wrap64 (x544002_2 - 1))) else (Zg.l0 kj14 a0 y547 x8_2 (wrap64 (x9_2+1)) ((bt a0 0) == 45) x544002_2))) else (none))=some (r1,r2,r3,r4):=by have hy_:=hy544;exact pH
               have Ny544:=am hy544
               clear hy544
               by_cases c29:y544.length+x7_2.length < 17592186044416
               ·rw [if_pos c29] at H
                have LMc29:=am c29
                clear c29
                obtain ⟨y547,hy547⟩:∃ y_:List Int,y_=(y544++x7_2):=⟨_,rfl⟩
                replace H:(if x8_2=true then (Zg.l0 kj14 a0 y547 x8_2 (wrap64 (x9_2+1)) ((bt a0 0) == 45) (wrap64 (x544002_2 - 1))) else (Zg.l0 kj14 a0 y547 x8_2 (wrap64 (x9_2+1)) ((bt a0 0) == 45) x544002_2))=some (r1,r2,r3,r4):=by have hy_:=hy547;exact pH
                have Ny547:=am hy547
                clear hy547
                by_cases c30:x8_2=true
                ·subst c30
                 rw [if_pos rfl] at H
                 have H':=am H
                 clear H
                 have p24:0<=(x9_2:Int):=of_decide_eq_true pQ
                 have q24:x9_2 < (a0.size:Int):=of_decide_eq_true pQ
                 have hx24:=Zdk a0 x9_2
                 replace p24:=eq_true p24
                 replace q24:=eq_true q24
                 have p26:0<=(x9_2:Int):=of_decide_eq_true pQ
                 have q26:x9_2 < (a0.size:Int):=of_decide_eq_true pQ
                 have hx26:=Zdk a0 x9_2
                 replace p26:=eq_true p26
                 replace q26:=eq_true q26
                 have p28:0<=(x9_2:Int):=of_decide_eq_true pQ
                 have q28:x9_2 < (a0.size:Int):=of_decide_eq_true pQ
                 have hx28:=Zdk a0 x9_2
                 replace p28:=eq_true p28
                 replace q28:=eq_true q28
                 go_wp2_with (first|((with_reducible refine gd 70 ?_);(try (refine Zao (by rfl) ?_;dsimp only));refine Kd.Zg8 (Kd.int .i64) _ 3 ?hg (N:=70) ?hd (xs:=([((bt a0 x9_2) - 48) % 256]:List Int)) (inner:=[.int .i64 (((bt a0 x9_2) - 48) % 256)]) (ok:=fun _=>True) (okp:=fun _=>True) ?hr ?hp (fun _ hk=>hk) trivial (Below.refl _ _) (Nat.le_refl _) (by simp) ?_;(case hd=>rfl);(case hg=>rfl);(case hr=>first|(go_simp;done)|(go_simp;rfl));(case hp=>exact (Reps.one (show Kd.M (Kd.int .i64) _ _ _ (((bt a0 x9_2) - 48) % 256) [.int .i64 (((bt a0 x9_2) - 48) % 256)] from rfl) (Reps.none _ _)));intro v545 w31 ho32 hb hg_ hnew_;clear hg_ hnew_;(first|rw [<- Ny544.out] at ho32|(simp only [Int.reduceToNat] at ho32;rw [<- Ny544.out] at ho32));have HO546:=am (Kd.Zq (Kd.Zr ho32 (Kd.R_lt (Kd.Za HO_7.o pl))) (Zb pB));replace HO_7:=reR HO_7 ho32 hb;replace BK540:=bb BK540 hb;replace BK543:=bb BK543 hb;replace HB:=bS hb;clear hb ho32;obtain ⟨Ao34,co34,eo34⟩:=Kd.Zj HO_7.o;subst eo34)|((with_reducible refine Zan (b:=.append) (xs:=#[.tmp 70,.tmp 71]) rfl ?_);(try (refine Zao (by rfl) ?_;dsimp only));at_builtin;refine Kd.Zeb (Kd.int .i64) (w0:=w) w.heap.size rfl (.tmp 70) (.tmp 71) 28 3 (.int .i64 0) 8 rfl Tryz.underlying28 info3 rfl (by decide) (by omega) v545 y544 x7_2 _ _ _ (fun k_=>some k_ ≠ (.slice Ao34 x7_2.length co34:Value).ownBlock) (fun _=>False) rfl rfl ?aO ?aR (fun _ _ h=>h) (fun _ h=>h.elim) ?aF ?aB ?aS ?aL ?_;(case aR=>exact Kd.Zx (Kd.Zd HO_7.o).2.2 pl);(case aB=>exact pB);(case aF=>exact (fun k_ hk=>Kd.fresh' (Kd.R_lt (Kd.Za HO_7.o pl)) k_ hk));(case aO=>exact (Kd.Za (Kd.Zi HO546.o (fun _ hk=>hk.2)) pl));(case aS=>exact (Zb pB));(case aL=>have := LMc29.o;omega);intro v548 w33 ho hb hg hat;rw [<- Ny547.out] at ho;have HO549:=am ho;replace HO_7:=am (Kd.Zns (ok:=(fun _=>True)) (Kd.Za HO_7.o pl) hg hat);replace BK540:=am (Zf8 (g:=gb540) (o:=.cells #[.bool false,.slice none 0 0,.int .i64 0] 24 (0,0)) (Zc BK540.o pl) hg (Kd.R_ne HO546.o BK540.o (by decide)));replace BK543:=am (Zf8 (g:=gb543) (o:=.cells #[.bool ((bt a0 0) == 45),.slice none 0 0,.int .i64 x544002_2] 30 (0,0)) (Zc BK543.o pl) hg (Kd.R_ne HO546.o BK543.o (by decide)));replace HB:=am hb;clear HO546 ho hb hg hat;have hnb35:=NB543_540.o;have hnc35:=NB540_543.o;obtain ⟨_,_,_,_,_,_⟩:=cEc BK543.o))
                 go_roundg kj14
                 case measure=>have := HJ2.o;have := HK2.out;have := HJ14.o;omega
                 case rel=>exact ⟨(y547),(true),(wrap64 (x9_2+1)),(wrap64 (x544002_2 - 1)),pR,pR,H',⟨by have := HJ2.o;have := HK2.out;have := HJ14.o;omega⟩,⟨by refine rp ?_;exact Kd.Zi (Kd.Zp (p:=⟨gb543,2,none⟩) (Kd.Zaa HO549.o BK543.o (by decide)) (fun _ hk=>hk.2) (.int .i64 (wrap64 (x544002_2 - 1)))) (fun _ hk=>trivial)⟩,⟨bf NB540_543.o BK540.o⟩,⟨by refine bp ?_;refine Za3 (cs:=#[.bool ((bt a0 0) == 45),.slice none 0 0,.int .i64 x544002_2]) ?_ 2 _ rfl;exact bp BK543.o⟩,⟨pB⟩⟩
                ·replace c30:=Bool.eq_false_iff.mpr c30
                 subst c30
                 rw [if_neg (show ¬ (false=true) by decide)] at H
                 have H':=am H
                 clear H
                 have p24:0<=(x9_2:Int):=of_decide_eq_true pQ
                 have q24:x9_2 < (a0.size:Int):=of_decide_eq_true pQ
                 have hx24:=Zdk a0 x9_2
                 replace p24:=eq_true p24
                 replace q24:=eq_true q24
                 have p26:0<=(x9_2:Int):=of_decide_eq_true pQ
                 have q26:x9_2 < (a0.size:Int):=of_decide_eq_true pQ
                 have hx26:=Zdk a0 x9_2
                 replace p26:=eq_true p26
                 replace q26:=eq_true q26
                 have p28:0<=(x9_2:Int):=of_decide_eq_true pQ
                 have q28:x9_2 < (a0.size:Int):=of_decide_eq_true pQ
                 have hx28:=Zdk a0 x9_2
                 replace p28:=eq_true p28
                 replace q28:=eq_true q28
                 go_wp2_with (first|((with_reducible refine gd 70 ?_);(try (refine Zao (by rfl) ?_;dsimp only));refine Kd.Zg8 (Kd.int .i64) _ 3 ?hg (N:=70) ?hd (xs:=([((bt a0 x9_2) - 48) % 256]:List Int)) (inner:=[.int .i64 (((bt a0 x9_2) - 48) % 256)]) (ok:=fun _=>True) (okp:=fun _=>True) ?hr ?hp (fun _ hk=>hk) trivial (Below.refl _ _) (Nat.le_refl _) (by simp) ?_;(case hd=>rfl);(case hg=>rfl);(case hr=>first|(go_simp;done)|(go_simp;rfl));(case hp=>exact (Reps.one (show Kd.M (Kd.int .i64) _ _ _ (((bt a0 x9_2) - 48) % 256) [.int .i64 (((bt a0 x9_2) - 48) % 256)] from rfl) (Reps.none _ _)));intro v545 w37 ho38 hb hg_ hnew_;clear hg_ hnew_;(first|rw [<- Ny544.out] at ho38|(simp only [Int.reduceToNat] at ho38;rw [<- Ny544.out] at ho38));have HO546:=am (Kd.Zq (Kd.Zr ho38 (Kd.R_lt (Kd.Za HO_7.o pl))) (Zb pB));replace HO_7:=reR HO_7 ho38 hb;replace BK540:=bb BK540 hb;replace BK543:=bb BK543 hb;replace HB:=bS hb;clear hb ho38;obtain ⟨Ao40,co40,eo40⟩:=Kd.Zj HO_7.o;subst eo40)|((with_reducible refine Zan (b:=.append) (xs:=#[.tmp 70,.tmp 71]) rfl ?_);(try (refine Zao (by rfl) ?_;dsimp only));at_builtin;refine Kd.Zeb (Kd.int .i64) (w0:=w) w.heap.size rfl (.tmp 70) (.tmp 71) 28 3 (.int .i64 0) 8 rfl Tryz.underlying28 info3 rfl (by decide) (by omega) v545 y544 x7_2 _ _ _ (fun k_=>some k_ ≠ (.slice Ao40 x7_2.length co40:Value).ownBlock) (fun _=>False) rfl rfl ?aO ?aR (fun _ _ h=>h) (fun _ h=>h.elim) ?aF ?aB ?aS ?aL ?_;(case aR=>exact Kd.Zx (Kd.Zd HO_7.o).2.2 pl);(case aB=>exact pB);(case aF=>exact (fun k_ hk=>Kd.fresh' (Kd.R_lt (Kd.Za HO_7.o pl)) k_ hk));(case aO=>exact (Kd.Za (Kd.Zi HO546.o (fun _ hk=>hk.2)) pl));(case aS=>exact (Zb pB));(case aL=>have := LMc29.o;omega);intro v548 w39 ho hb hg hat;rw [<- Ny547.out] at ho;have HO549:=am ho;replace HO_7:=am (Kd.Zns (ok:=(fun _=>True)) (Kd.Za HO_7.o pl) hg hat);replace BK540:=am (Zf8 (g:=gb540) (o:=.cells #[.bool false,.slice none 0 0,.int .i64 0] 24 (0,0)) (Zc BK540.o pl) hg (Kd.R_ne HO546.o BK540.o (by decide)));replace BK543:=am (Zf8 (g:=gb543) (o:=.cells #[.bool ((bt a0 0) == 45),.slice none 0 0,.int .i64 x544002_2] 30 (0,0)) (Zc BK543.o pl) hg (Kd.R_ne HO546.o BK543.o (by decide)));replace HB:=am hb;clear HO546 ho hb hg hat))
                 go_roundg kj14
                 case measure=>have := HJ2.o;have := HK2.out;have := HJ14.o;omega
                 case rel=>exact ⟨(y547),(false),(wrap64 (x9_2+1)),(x544002_2),pR,pR,H',⟨by have := HJ2.o;have := HK2.out;have := HJ14.o;omega⟩,⟨by refine rp ?_;exact Kd.Zi HO549.o (fun _ hk=>trivial)⟩,⟨Zc BK540.o pl⟩,⟨Zc BK543.o pl⟩,⟨pB⟩⟩
               ·rw [if_neg c29] at H
                exact absurd H (by simp)
            ·rw [if_neg c23] at H
             exact absurd H (by simp)
           ·rw [if_neg c22] at H
            exact absurd H (by simp)
          ·replace c21:=Bool.eq_false_iff.mpr c21
           subst c21
           rw [if_neg (show ¬ (false=true) by decide)] at H
           by_cases c41:x9_2 < (a0.size:Int)
           ·rw [if_pos c41] at H
            have c41b0:decide (x9_2 < (a0.size:Int))=true:=decide_eq_true c41
            clear c41
            have H':=am H
            clear H
            go_wp2
            go_loopg [9,10,11,12] kj14 (fun kq v9 v10 v11 v12 w' => ∃ (x9_4:Int) (x10_4:Bool) (x11_4:Int) (x12_4:Int) (x541000_4:Bool) (x541002_4:Int),v9=.int .i64 x9_4/\v10=.bool x10_4/\v11=.int .i64 x11_4/\v12=.int .i64 x12_4/\Aside0 (Zg.l1 kq a0 x7_2 x9_4 x10_4 x11_4 x12_4 ((bt a0 0) == 45) x544002_2=some (r1,r2,r3,r4))/\Aside0 (kq<=kj14)/\Aside0 (Kd.R (Kd.int .i64) 3 w' w.heap.size (fun _=>True) u7 x7_2)/\Aside0 (w'.heap[gb540]? = some (.cells #[.bool x541000_4,(.slice none 0 0),.int .i64 x541002_4] 24 (0,0)))/\Aside0 (w'.heap[gb543]? = some (.cells #[.bool ((bt a0 0) == 45),(.slice none 0 0),.int .i64 x544002_2] 30 (0,0)))/\Aside0 (Below w.heap.size w w'))
            case atStart=>exact ⟨(wrap64 (x9_2+1)),(false),(0),(0),(false),(0),pR,pR,pR,pR,H',⟨Nat.le_refl _⟩,⟨by refine rp ?_;exact HO_7.o⟩,⟨Zc BK540.o pl⟩,⟨Zc BK543.o pl⟩,⟨pB⟩⟩
            case round =>
             clear H'
             obtain ⟨x9_4,x10_4,x11_4,x12_4,x541000_4,x541002_4,rfl,rfl,rfl,rfl,HA,HK4,HO_7,BK540,BK543,HB⟩:=hrel
             cases gk with
             | zero=>exact absurd HA.out (by simp [Zg.l1])
             | succ k4 =>
              have H:=HA.out
              clear HA
              simp only [Zg.l1] at H
              by_cases c42:x9_4 < (a0.size:Int)
              ·rw [if_pos c42] at H
               have c42b0:decide (x9_4 < (a0.size:Int))=true:=decide_eq_true c42
               clear c42
               by_cases c43:0<=x9_4
               ·rw [if_pos c43] at H
                have c43b0:decide (0<=x9_4)=true:=decide_eq_true c43
                clear c43
                by_cases c45:(bt a0 x9_4)=45
                ·rw [if_pos c45] at H
                 have c45b0:((bt a0 x9_4) == 45)=true:=beq_iff_eq.mpr c45
                 have c45b1:((bt a0 x9_4) != 45)=false:=bne_eq_false_iff_eq.mpr c45
                 clear c45
                 have H':=am H
                 clear H
                 have p44:0<=(x9_4:Int):=of_decide_eq_true pQ
                 have q44:x9_4 < (a0.size:Int):=of_decide_eq_true pQ
                 have hx44:=Zdk a0 x9_4
                 replace p44:=eq_true p44
                 replace q44:=eq_true q44
                 go_wp2
                 go_roundg k4
                 case measure=>have := HJ2.o;have := HK2.out;have := HJ14.o;have := HK4.out;omega
                 case rel=>exact ⟨(wrap64 (x9_4+1)),(true),(x11_4),(x12_4),(x541000_4),(x541002_4),pR,pR,pR,pR,H',⟨by have := HJ2.o;have := HK2.out;have := HJ14.o;have := HK4.out;omega⟩,⟨by refine rp ?_;exact HO_7.o⟩,⟨Zc BK540.o pl⟩,⟨Zc BK543.o pl⟩,⟨pB⟩⟩
                ·rw [if_neg c45] at H
                 have c45b0:((bt a0 x9_4) == 45)=false:=beq_eq_false_iff_ne.mpr c45
                 have c45b1:((bt a0 x9_4) != 45)=true:=bne_iff_ne.mpr c45
                 by_cases c47:(bt a0 x9_4)=43
                 ·rw [if_pos c47] at H
                  have c47b0:((bt a0 x9_4) == 43)=true:=beq_iff_eq.mpr c47
                  have c47b1:((bt a0 x9_4) != 43)=false:=bne_eq_false_iff_eq.mpr c47
                  clear c47
                  have H':=am H
                  clear H
                  have p44:0<=(x9_4:Int):=of_decide_eq_true pQ
                  have q44:x9_4 < (a0.size:Int):=of_decide_eq_true pQ
                  have hx44:=Zdk a0 x9_4
                  replace p44:=eq_true p44
                  replace q44:=eq_true q44
                  have p46:0<=(x9_4:Int):=of_decide_eq_true pQ
                  have q46:x9_4 < (a0.size:Int):=of_decide_eq_true pQ
                  have hx46:=Zdk a0 x9_4
                  replace p46:=eq_true p46
                  replace q46:=eq_true q46
                  go_wp2
                  go_roundg k4
                  case measure=>have := HJ2.o;have := HK2.out;have := HJ14.o;have := HK4.out;omega
                  case rel=>exact ⟨(wrap64 (x9_4+1)),(x10_4),(x11_4),(x12_4),(x541000_4),(x541002_4),pR,pR,pR,pR,H',⟨by have := HJ2.o;have := HK2.out;have := HJ14.o;have := HK4.out;omega⟩,⟨by refine rp ?_;exact HO_7.o⟩,⟨Zc BK540.o pl⟩,⟨Zc BK543.o pl⟩,⟨pB⟩⟩
                 ·rw [if_neg c47] at H
                  have c47b0:((bt a0 x9_4) == 43)=false:=beq_eq_false_iff_ne.mpr c47
                  have c47b1:((bt a0 x9_4) != 43)=true:=bne_iff_ne.mpr c47
                  have HC48:=am H
                  clear H
                  have p44:0<=(x9_4:Int):=of_decide_eq_true pQ
                  have q44:x9_4 < (a0.size:Int):=of_decide_eq_true pQ
                  have hx44:=Zdk a0 x9_4
                  replace p44:=eq_true p44
                  replace q44:=eq_true q44
                  have p46:0<=(x9_4:Int):=of_decide_eq_true pQ
                  have q46:x9_4 < (a0.size:Int):=of_decide_eq_true pQ
                  have hx46:=Zdk a0 x9_4
                  replace p46:=eq_true p46
                  replace q46:=eq_true q46
                  go_upto_region 26 with (fail)
                  go_cut [107] (fun v107 wc => ∃ (kq:Nat) (x107_47:Bool),v107=.bool x107_47/\Aside0 (Zg.j4 kq a0 x7_2 x9_4 x10_4 x11_4 x12_4 x107_47 ((bt a0 0) == 45) x544002_2=some (r1,r2,r3,r4))/\Aside0 (kq<=k4)/\Aside0 (Kd.R (Kd.int .i64) 3 wc w.heap.size (fun _=>True) u7 x7_2)/\Aside0 (wc.heap[gb540]? = some (.cells #[.bool x541000_4,(.slice none 0 0),.int .i64 x541002_4] 24 (0,0)))/\Aside0 (wc.heap[gb543]? = some (.cells #[.bool ((bt a0 0) == 45),(.slice none 0 0),.int .i64 x544002_2] 30 (0,0)))/\Aside0 (Below w.heap.size w wc))
                  case first =>
                   have H:=HC48.o
                   clear HC48
                   by_cases c49:x11_4 > 0
                   ·rw [if_pos c49] at H
                    have c49b0:decide (0 < x11_4)=true:=decide_eq_true c49
                    clear c49
                    (first|rw [c49b0]|(simp only [Zcd,Zdb];rw [c49b0])|skip)
                    have H':=am H
                    clear H
                    go_wp2
                    go_meet
                    case rel=>exact ⟨_,(true),pR,H',⟨by have := HJ2.o;have := HK2.out;have := HJ14.o;have := HK4.out;first|omega|exact Nat.le_refl _⟩,⟨by refine rp ?_;exact HO_7.o⟩,⟨Zc BK540.o pl⟩,⟨Zc BK543.o pl⟩,⟨pB⟩⟩
                   ·rw [if_neg c49] at H
                    have c49b0:decide (0 < x11_4)=false:=decide_eq_false c49
                    clear c49
                    (first|rw [c49b0]|(simp only [Zcd,Zdb];rw [c49b0])|skip)
                    have H':=am H
                    clear H
                    have p50:0<=(x9_4:Int):=of_decide_eq_true pQ
                    have q50:x9_4 < (a0.size:Int):=of_decide_eq_true pQ
                    have hx50:=Zdk a0 x9_4
                    replace p50:=eq_true p50
                    replace q50:=eq_true q50
                    go_wp2
                    go_meet
                    case rel=>exact ⟨_,(((bt a0 x9_4) != 48)),pR,H',⟨by have := HJ2.o;have := HK2.out;have := HJ14.o;have := HK4.out;first|omega|exact Nat.le_refl _⟩,⟨by refine rp ?_;exact HO_7.o⟩,⟨Zc BK540.o pl⟩,⟨Zc BK543.o pl⟩,⟨pB⟩⟩
                  case rest =>
                   clear HC48
                   obtain ⟨kq,x107_47,rfl,HA,HJ47,HO_7,BK540,BK543,HB⟩:=hcut
                   cases kq with
                   | zero=>exact absurd HA.out (by simp [Zg.j4])
                   | succ kj47 =>
                    have H:=HA.out
                    clear HA
                    simp only [Zg.j4] at H
                    by_cases c51:x107_47=true
                    ·subst c51
                     rw [if_pos rfl] at H
                     by_cases c52:(wrap64 (x12_4+1)) > 6
                     ·rw [if_pos c52] at H
                      have c52b0:decide (6 < (wrap64 (x12_4+1)))=true:=decide_eq_true c52
                      clear c52
                      simp only [Option.some.injEq,Prod.mk.injEq] at H
                      obtain ⟨rfl,rfl,rfl,rfl⟩:=H
                      have hnb53:=NB540_543.o
                      have hnc53:=NB543_540.o
                      obtain ⟨_,_,_,_,_,_⟩:=cEc BK540.o
                      go_wp2
                      refine bodyPost_ret (Za7 rfl _ _ gb540 24 #[.bool false,.slice none 0 0,.int .i64 0] (0,0) _ rfl (by exact p3 BK540) Tryz.underlying24 rfl (by kernel_rfl)) rfl ?_
                      exact ⟨_,pE,pN,pB⟩
                     ·rw [if_neg c52] at H
                      have c52b0:decide (6 < (wrap64 (x12_4+1)))=false:=decide_eq_false c52
                      clear c52
                      by_cases c55:0<=x9_4
                      ·rw [if_pos c55] at H
                       have c55b0:decide (0<=x9_4)=true:=decide_eq_true c55
                       clear c55
                       by_cases c56:x9_4 < (a0.size:Int)
                       ·rw [if_pos c56] at H
                        have c56b0:decide (x9_4 < (a0.size:Int))=true:=decide_eq_true c56
                        clear c56
                        have H':=am H
                        clear H
                        have p57:0<=(x9_4:Int):=of_decide_eq_true pQ
                        have q57:x9_4 < (a0.size:Int):=of_decide_eq_true pQ
                        have hx57:=Zdk a0 x9_4
                        replace p57:=eq_true p57
                        replace q57:=eq_true q57
                        go_wp2
                        go_roundg kj47
                        case measure=>have := HJ2.o;have := HK2.out;have := HJ14.o;have := HK4.out;have := HJ47.o;omega
                        case rel=>exact ⟨(wrap64 (x9_4+1)),(x10_4),(wrap64 ((wrap64 (10*x11_4))+(((bt a0 x9_4) - 48) % 256))),(wrap64 (x12_4+1)),(x541000_4),(x541002_4),pR,pR,pR,pR,H',⟨by have := HJ2.o;have := HK2.out;have := HJ14.o;have := HK4.out;have := HJ47.o;omega⟩,⟨by refine rp ?_;exact HO_7.o⟩,⟨Zc BK540.o pl⟩,⟨Zc BK543.o pl⟩,⟨pB⟩⟩
                       ·rw [if_neg c56] at H
                        exact absurd H (by simp)
                      ·rw [if_neg c55] at H
                       exact absurd H (by simp)
                    ·replace c51:=Bool.eq_false_iff.mpr c51
                     subst c51
                     rw [if_neg (show ¬ (false=true) by decide)] at H
                     by_cases c58:x12_4 > 6
                     ·rw [if_pos c58] at H
                      have c58b0:decide (6 < x12_4)=true:=decide_eq_true c58
                      clear c58
                      simp only [Option.some.injEq,Prod.mk.injEq] at H
                      obtain ⟨rfl,rfl,rfl,rfl⟩:=H
                      have hnb59:=NB540_543.o
                      have hnc59:=NB543_540.o
                      obtain ⟨_,_,_,_,_,_⟩:=cEc BK540.o
                      go_wp2
                      refine bodyPost_ret (Za7 rfl _ _ gb540 24 #[.bool false,.slice none 0 0,.int .i64 0] (0,0) _ rfl (by exact p3 BK540) Tryz.underlying24 rfl (by kernel_rfl)) rfl ?_
                      exact ⟨_,pE,pN,pB⟩
                     ·rw [if_neg c58] at H
                      have c58b0:decide (6 < x12_4)=false:=decide_eq_false c58
                      clear c58
                      by_cases c61:0<=x9_4
                      ·rw [if_pos c61] at H
                       have c61b0:decide (0<=x9_4)=true:=decide_eq_true c61
                       clear c61
                       by_cases c62:x9_4 < (a0.size:Int)
                       ·rw [if_pos c62] at H
                        have c62b0:decide (x9_4 < (a0.size:Int))=true:=decide_eq_true c62
                        clear c62
                        have H':=am H
                        clear H
                        have p63:0<=(x9_4:Int):=of_decide_eq_true pQ
                        have q63:x9_4 < (a0.size:Int):=of_decide_eq_true pQ
                        have hx63:=Zdk a0 x9_4
                        replace p63:=eq_true p63
                        replace q63:=eq_true q63
                        go_wp2
                        go_roundg kj47
                        case measure=>have := HJ2.o;have := HK2.out;have := HJ14.o;have := HK4.out;have := HJ47.o;omega
                        case rel=>exact ⟨(wrap64 (x9_4+1)),(x10_4),(wrap64 ((wrap64 (10*x11_4))+(((bt a0 x9_4) - 48) % 256))),(x12_4),(x541000_4),(x541002_4),pR,pR,pR,pR,H',⟨by have := HJ2.o;have := HK2.out;have := HJ14.o;have := HK4.out;have := HJ47.o;omega⟩,⟨by refine rp ?_;exact HO_7.o⟩,⟨Zc BK540.o pl⟩,⟨Zc BK543.o pl⟩,⟨pB⟩⟩
                       ·rw [if_neg c62] at H
                        exact absurd H (by simp)
                      ·rw [if_neg c61] at H
                       exact absurd H (by simp)
               ·rw [if_neg c43] at H
                exact absurd H (by simp)
              ·rw [if_neg c42] at H
               have c42b0:decide (x9_4 < (a0.size:Int))=false:=decide_eq_false c42
               clear c42
               by_cases c64:x10_4=true
               ·subst c64
                rw [if_pos rfl] at H
                obtain ⟨⟨t550,t551,t554,t555⟩,A65,H⟩:=ob H;(try dsimp only at H)
                simp only [Option.some.injEq,Prod.mk.injEq] at H
                obtain ⟨rfl,rfl,rfl,rfl⟩:=H
                have hnb66:=NB543_540.o
                have hnc66:=NB540_543.o
                obtain ⟨_,_,_,_,_,_⟩:=cEc BK543.o
                go_wp2_with (first|((with_reducible refine Zc0 (t:=3) (p:=128) rfl ?_);refine Zcp (t:=3) (p:=128) (v:=?vo_w68) (w1:=(wr.setCell ⟨gb543,2,none⟩ (.int .i64 (wrap64 (x544002_2+(wrap64 (-x11_4))))))) ?hg ?ho ?hn ?hr ?_;(case ho=>rfl);(case hg=>rfl);(case hn=>rfl);(case hr=>first|(go_simp;done)|(go_simp;rfl));intro w68 hw;replace HO_7:Aside0 (Kd.R (Kd.int .i64) 3 w68 w.heap.size (fun _=>True) u7 x7_2):=⟨(by rw [hw];exact (Kd.Za (Kd.Zi (Kd.Zp (p:=⟨gb543,2,none⟩) (Kd.Zaa HO_7.o BK543.o (by decide)) (fun _ hk=>hk.2) (.int .i64 (wrap64 (x544002_2+(wrap64 (-x11_4)))))) (fun _ hk=>trivial)) pl))⟩;replace BK540:Aside0 (w68.heap[gb540]? = some (.cells #[.bool x541000_4,.slice none 0 0,.int .i64 x541002_4] 24 (0,0))):=⟨(by rw [hw];exact (bf NB540_543.o BK540.o))⟩;replace BK543:Aside0 (w68.heap[gb543]? = some (.cells #[.bool ((bt a0 0) == 45),.slice none 0 0,.int .i64 (wrap64 (x544002_2+(wrap64 (-x11_4))))] 30 (0,0))):=⟨(by rw [hw];exact (by refine bp ?_;refine Za3 (cs:=#[.bool ((bt a0 0) == 45),.slice none 0 0,.int .i64 x544002_2]) ?_ 2 _ rfl;exact bp BK543.o))⟩;replace HB:Aside0 (Below w.heap.size w w68):=⟨(by rw [hw];exact pB)⟩;clear hw;obtain ⟨Ao69,co69,eo69⟩:=Kd.Zj HO_7.o;subst eo69;obtain ⟨_,_,_,_,_,_⟩:=cEc BK543.o)|((with_reducible refine Zc0 (t:=28) (p:=130) rfl ?_);refine Zcp (t:=28) (p:=130) (v:=?vo_w71) (w1:=(w68.setCell ⟨gb543,1,none⟩ (.slice Ao69 x7_2.length co69))) ?hg ?ho ?hn ?hr ?_;(case ho=>rfl);(case hg=>rfl);(case hn=>rfl);(case hr=>first|(go_simp;done)|(go_simp;rfl));intro w71 hw;replace HO_7:Aside0 (Kd.R (Kd.int .i64) 3 w71 w.heap.size (fun _=>True) (.slice Ao69 x7_2.length co69) x7_2):=⟨(by rw [hw];exact (Kd.Za (Kd.Zi (Kd.Zp (p:=⟨gb543,1,none⟩) (Kd.Zaa HO_7.o BK543.o (by decide)) (fun _ hk=>hk.2) (.slice Ao69 x7_2.length co69)) (fun _ hk=>trivial)) pl))⟩;replace BK540:Aside0 (w71.heap[gb540]? = some (.cells #[.bool x541000_4,.slice none 0 0,.int .i64 x541002_4] 24 (0,0))):=⟨(by rw [hw];exact (bf NB540_543.o BK540.o))⟩;replace BK543:Aside0 (w71.heap[gb543]? = some (.cells #[.bool ((bt a0 0) == 45),.slice Ao69 x7_2.length co69,.int .i64 (wrap64 (x544002_2+(wrap64 (-x11_4))))] 30 (0,0))):=⟨(by rw [hw];exact (by refine bp ?_;refine Za3 (cs:=#[.bool ((bt a0 0) == 45),.slice none 0 0,.int .i64 (wrap64 (x544002_2+(wrap64 (-x11_4))))]) ?_ 1 _ rfl;exact bp BK543.o))⟩;replace HB:Aside0 (Below w.heap.size w w71):=⟨(by rw [hw];exact pB)⟩;clear hw;obtain ⟨_,_,_,_,_,_⟩:=cEc BK543.o)|(refine gL (some 132) Tryz.func23 #[.agg #[.bool ((bt a0 0) == 45),.slice Ao69 x7_2.length co69,.int .i64 (wrap64 (x544002_2+(wrap64 (-x11_4))))]] (h:=?_);(with_reducible refine (Zm.calls k4 ((bt a0 0) == 45) (fun k_=>some k_=(.slice Ao69 x7_2.length co69:Value).ownBlock) (.slice Ao69 x7_2.length co69) x7_2 (wrap64 (x544002_2+(wrap64 (-x11_4)))) t550 t551 t554 t555 w _ ?side1 ?side2 A65.o).mono ?_);(case side1=>exact pB);(case side2=>exact Kd.Zbl rfl HO_7.o);rintro e w73 ⟨v552,rfl,ho0,hb,hkp⟩;refine ⟨_,rfl,?_⟩;have HO553:=am (Kd.Zi (ok':=fun k_=>True) ho0 (fun k_ hk_=>trivial));replace BK540:=am (Zar (Zc BK540.o pl) hkp (fun e_=>Kd.R_ne HO_7.o BK540.o (by decide) e_));replace BK543:=am (Zar (Zc BK543.o pl) hkp (fun e_=>Kd.R_ne HO_7.o BK543.o (by decide) e_));replace HB:=am hb;clear HO_7;obtain ⟨_,_,_,_,_,_⟩:=cEc BK540.o;obtain ⟨Ao75,co75,eo75⟩:=Kd.Zj HO553.o;subst eo75))
                refine bodyPost_ret (Za7 rfl _ _ gb540 24 #[.bool t550,.slice Ao75 t551.length co75,.int .i64 t554] (0,0) _ rfl (by exact p3 BK540) Tryz.underlying24 rfl (by kernel_rfl)) rfl ?_
                exact ⟨_,pE,by refine rp ?_;exact Kd.Zi (Kd.Zp (p:=⟨gb540,2,none⟩) (Kd.Zp (p:=⟨gb540,1,none⟩) (Kd.Zp (p:=⟨gb540,0,none⟩) (Kd.Zaa HO553.o BK540.o (by decide)) (fun _ hk=>hk.2) (.bool t550)) (fun _ hk=>hk.2) (.slice Ao75 t551.length co75)) (fun _ hk=>hk.2) (.int .i64 t554)) (fun _ hk=>trivial),pB⟩
               ·replace c64:=Bool.eq_false_iff.mpr c64
                subst c64
                rw [if_neg (show ¬ (false=true) by decide)] at H
                obtain ⟨⟨t556,t557,t560,t561⟩,A76,H⟩:=ob H;(try dsimp only at H)
                simp only [Option.some.injEq,Prod.mk.injEq] at H
                obtain ⟨rfl,rfl,rfl,rfl⟩:=H
                have hnb77:=NB543_540.o
                have hnc77:=NB540_543.o
                obtain ⟨_,_,_,_,_,_⟩:=cEc BK543.o
                go_wp2_with (first|((with_reducible refine Zc0 (t:=3) (p:=128) rfl ?_);refine Zcp (t:=3) (p:=128) (v:=?vo_w79) (w1:=(wr.setCell ⟨gb543,2,none⟩ (.int .i64 (wrap64 (x544002_2+x11_4))))) ?hg ?ho ?hn ?hr ?_;(case ho=>rfl);(case hg=>rfl);(case hn=>rfl);(case hr=>first|(go_simp;done)|(go_simp;rfl));intro w79 hw;replace HO_7:Aside0 (Kd.R (Kd.int .i64) 3 w79 w.heap.size (fun _=>True) u7 x7_2):=⟨(by rw [hw];exact (Kd.Za (Kd.Zi (Kd.Zp (p:=⟨gb543,2,none⟩) (Kd.Zaa HO_7.o BK543.o (by decide)) (fun _ hk=>hk.2) (.int .i64 (wrap64 (x544002_2+x11_4)))) (fun _ hk=>trivial)) pl))⟩;replace BK540:Aside0 (w79.heap[gb540]? = some (.cells #[.bool x541000_4,.slice none 0 0,.int .i64 x541002_4] 24 (0,0))):=⟨(by rw [hw];exact (bf NB540_543.o BK540.o))⟩;replace BK543:Aside0 (w79.heap[gb543]? = some (.cells #[.bool ((bt a0 0) == 45),.slice none 0 0,.int .i64 (wrap64 (x544002_2+x11_4))] 30 (0,0))):=⟨(by rw [hw];exact (by refine bp ?_;refine Za3 (cs:=#[.bool ((bt a0 0) == 45),.slice none 0 0,.int .i64 x544002_2]) ?_ 2 _ rfl;exact bp BK543.o))⟩;replace HB:Aside0 (Below w.heap.size w w79):=⟨(by rw [hw];exact pB)⟩;clear hw;obtain ⟨Ao80,co80,eo80⟩:=Kd.Zj HO_7.o;subst eo80;obtain ⟨_,_,_,_,_,_⟩:=cEc BK543.o)|((with_reducible refine Zc0 (t:=28) (p:=130) rfl ?_);refine Zcp (t:=28) (p:=130) (v:=?vo_w82) (w1:=(w79.setCell ⟨gb543,1,none⟩ (.slice Ao80 x7_2.length co80))) ?hg ?ho ?hn ?hr ?_;(case ho=>rfl);(case hg=>rfl);(case hn=>rfl);(case hr=>first|(go_simp;done)|(go_simp;rfl));intro w82 hw;replace HO_7:Aside0 (Kd.R (Kd.int .i64) 3 w82 w.heap.size (fun _=>True) (.slice Ao80 x7_2.length co80) x7_2):=⟨(by rw [hw];exact (Kd.Za (Kd.Zi (Kd.Zp (p:=⟨gb543,1,none⟩) (Kd.Zaa HO_7.o BK543.o (by decide)) (fun _ hk=>hk.2) (.slice Ao80 x7_2.length co80)) (fun _ hk=>trivial)) pl))⟩;replace BK540:Aside0 (w82.heap[gb540]? = some (.cells #[.bool x541000_4,.slice none 0 0,.int .i64 x541002_4] 24 (0,0))):=⟨(by rw [hw];exact (bf NB540_543.o BK540.o))⟩;replace BK543:Aside0 (w82.heap[gb543]? = some (.cells #[.bool ((bt a0 0) == 45),.slice Ao80 x7_2.length co80,.int .i64 (wrap64 (x544002_2+x11_4))] 30 (0,0))):=⟨(by rw [hw];exact (by refine bp ?_;refine Za3 (cs:=#[.bool ((bt a0 0) == 45),.slice none 0 0,.int .i64 (wrap64 (x544002_2+x11_4))]) ?_ 1 _ rfl;exact bp BK543.o))⟩;replace HB:Aside0 (Below w.heap.size w w82):=⟨(by rw [hw];exact pB)⟩;clear hw;obtain ⟨_,_,_,_,_,_⟩:=cEc BK543.o)|(refine gL (some 132) Tryz.func23 #[.agg #[.bool ((bt a0 0) == 45),.slice Ao80 x7_2.length co80,.int .i64 (wrap64 (x544002_2+x11_4))]] (h:=?_);(with_reducible refine (Zm.calls k4 ((bt a0 0) == 45) (fun k_=>some k_=(.slice Ao80 x7_2.length co80:Value).ownBlock) (.slice Ao80 x7_2.length co80) x7_2 (wrap64 (x544002_2+x11_4)) t556 t557 t560 t561 w _ ?side1 ?side2 A76.o).mono ?_);(case side1=>exact pB);(case side2=>exact Kd.Zbl rfl HO_7.o);rintro e w84 ⟨v558,rfl,ho0,hb,hkp⟩;refine ⟨_,rfl,?_⟩;have HO559:=am (Kd.Zi (ok':=fun k_=>True) ho0 (fun k_ hk_=>trivial));replace BK540:=am (Zar (Zc BK540.o pl) hkp (fun e_=>Kd.R_ne HO_7.o BK540.o (by decide) e_));replace BK543:=am (Zar (Zc BK543.o pl) hkp (fun e_=>Kd.R_ne HO_7.o BK543.o (by decide) e_));replace HB:=am hb;clear HO_7;obtain ⟨_,_,_,_,_,_⟩:=cEc BK540.o;obtain ⟨Ao86,co86,eo86⟩:=Kd.Zj HO559.o;subst eo86))
                refine bodyPost_ret (Za7 rfl _ _ gb540 24 #[.bool t556,.slice Ao86 t557.length co86,.int .i64 t560] (0,0) _ rfl (by exact p3 BK540) Tryz.underlying24 rfl (by kernel_rfl)) rfl ?_
                exact ⟨_,pE,by refine rp ?_;exact Kd.Zi (Kd.Zp (p:=⟨gb540,2,none⟩) (Kd.Zp (p:=⟨gb540,1,none⟩) (Kd.Zp (p:=⟨gb540,0,none⟩) (Kd.Zaa HO559.o BK540.o (by decide)) (fun _ hk=>hk.2) (.bool t556)) (fun _ hk=>hk.2) (.slice Ao86 t557.length co86)) (fun _ hk=>hk.2) (.int .i64 t560)) (fun _ hk=>trivial),pB⟩
           ·rw [if_neg c41] at H
            have c41b0:decide (x9_2 < (a0.size:Int))=false:=decide_eq_false c41
            clear c41
            obtain ⟨⟨t562,t563,t566,t567⟩,A87,H⟩:=ob H;(try dsimp only at H)
            simp only [Option.some.injEq,Prod.mk.injEq] at H
            obtain ⟨rfl,rfl,rfl,rfl⟩:=H
            obtain ⟨Ao88,co88,eo88⟩:=Kd.Zj HO_7.o
            subst eo88
            have hnb89:=NB543_540.o
            have hnc89:=NB540_543.o
            obtain ⟨_,_,_,_,_,_⟩:=cEc BK543.o
            go_wp2_with (first|((with_reducible refine Zc0 (t:=28) (p:=130) rfl ?_);refine Zcp (t:=28) (p:=130) (v:=?vo_w91) (w1:=(wc.setCell ⟨gb543,1,none⟩ (.slice Ao88 x7_2.length co88))) ?hg ?ho ?hn ?hr ?_;(case ho=>rfl);(case hg=>rfl);(case hn=>rfl);(case hr=>first|(go_simp;done)|(go_simp;rfl));intro w91 hw;replace HO_7:Aside0 (Kd.R (Kd.int .i64) 3 w91 w.heap.size (fun _=>True) (.slice Ao88 x7_2.length co88) x7_2):=⟨(by rw [hw];exact (Kd.Za (Kd.Zi (Kd.Zp (p:=⟨gb543,1,none⟩) (Kd.Zaa HO_7.o BK543.o (by decide)) (fun _ hk=>hk.2) (.slice Ao88 x7_2.length co88)) (fun _ hk=>trivial)) pl))⟩;replace BK540:Aside0 (w91.heap[gb540]? = some (.cells #[.bool false,.slice none 0 0,.int .i64 0] 24 (0,0))):=⟨(by rw [hw];exact (bf NB540_543.o BK540.o))⟩;replace BK543:Aside0 (w91.heap[gb543]? = some (.cells #[.bool ((bt a0 0) == 45),.slice Ao88 x7_2.length co88,.int .i64 x544002_2] 30 (0,0))):=⟨(by rw [hw];exact (by refine bp ?_;refine Za3 (cs:=#[.bool ((bt a0 0) == 45),.slice none 0 0,.int .i64 x544002_2]) ?_ 1 _ rfl;exact bp BK543.o))⟩;replace HB:Aside0 (Below w.heap.size w w91):=⟨(by rw [hw];exact pB)⟩;clear hw;obtain ⟨_,_,_,_,_,_⟩:=cEc BK543.o)|(refine gL (some 132) Tryz.func23 #[.agg #[.bool ((bt a0 0) == 45),.slice Ao88 x7_2.length co88,.int .i64 x544002_2]] (h:=?_);(with_reducible refine (Zm.calls kj14 ((bt a0 0) == 45) (fun k_=>some k_=(.slice Ao88 x7_2.length co88:Value).ownBlock) (.slice Ao88 x7_2.length co88) x7_2 x544002_2 t562 t563 t566 t567 w _ ?side1 ?side2 A87.o).mono ?_);(case side1=>exact pB);(case side2=>exact Kd.Zbl rfl HO_7.o);rintro e w93 ⟨v564,rfl,ho0,hb,hkp⟩;refine ⟨_,rfl,?_⟩;have HO565:=am (Kd.Zi (ok':=fun k_=>True) ho0 (fun k_ hk_=>trivial));replace BK540:=am (Zar (Zc BK540.o pl) hkp (fun e_=>Kd.R_ne HO_7.o BK540.o (by decide) e_));replace BK543:=am (Zar (Zc BK543.o pl) hkp (fun e_=>Kd.R_ne HO_7.o BK543.o (by decide) e_));replace HB:=am hb;clear HO_7;obtain ⟨_,_,_,_,_,_⟩:=cEc BK540.o;obtain ⟨Ao95,co95,eo95⟩:=Kd.Zj HO565.o;subst eo95))
            refine bodyPost_ret (Za7 rfl _ _ gb540 24 #[.bool t562,.slice Ao95 t563.length co95,.int .i64 t566] (0,0) _ rfl (by exact p3 BK540) Tryz.underlying24 rfl (by kernel_rfl)) rfl ?_
            exact ⟨_,pE,by refine rp ?_;exact Kd.Zi (Kd.Zp (p:=⟨gb540,2,none⟩) (Kd.Zp (p:=⟨gb540,1,none⟩) (Kd.Zp (p:=⟨gb540,0,none⟩) (Kd.Zaa HO565.o BK540.o (by decide)) (fun _ hk=>hk.2) (.bool t562)) (fun _ hk=>hk.2) (.slice Ao95 t563.length co95)) (fun _ hk=>hk.2) (.int .i64 t566)) (fun _ hk=>trivial),pB⟩
     ·rw [if_neg c10] at H
      exact absurd H (by simp)
def Zby.f (k:Nat) (a0:ByteArray):Option (Bool × List Int × Int):=(Zg.f k a0).bind fun bt569=>(some (bt569.1,bt569.2.1,bt569.2.2.1))
theorem Zby.calls (k:Nat) (a0:ByteArray) (r1:Bool) (r2:List Int) (r3:Int) (w:World) (h:Zby.f k a0=some (r1,r2,r3)) :
  Calls Tryz.prog 62 #[.string a0] w fun e w' => ∃ v1_:Value,e=.returned (.agg #[.bool r1,v1_,.int .i64 r3])/\Kd.R (Kd.int .u32) 85 w' w.heap.size (fun _=>True) v1_ r2/\Below w.heap.size w w':=by
 have hu24:=Tryz.underlying24
 have HB:=am (Below.refl w.heap.size w)
 have H:((Zg.f k a0).bind fun bt569=>(some (bt569.1,bt569.2.1,bt569.2.2.1)))=some (r1,r2,r3):=h
 clear h
 obtain ⟨⟨t569,t570,t573,t574⟩,A2,H⟩:=ob H;(try dsimp only at H)
 simp only [Option.some.injEq,Prod.mk.injEq] at H
 obtain ⟨rfl,rfl,rfl⟩:=H
 go_enter Tryz.func62,Tryz.ntmps62
 go_wp2_with (first|((with_reducible refine gd 2 ?_);refine bx 2 #[.bool false,.slice none 0 0,.int .i64 0] 24 (h:=?_);intro gb568 hg w3 hbox hb;have BK568:=am hbox;have GW568:=gW hg;replace HB:=bS hb;clear hb hbox hg)|(refine gL (some 7) Tryz.func58 #[.string a0] (h:=?_);(with_reducible refine (Zg.calls k a0 t569 t570 t573 t574 _ A2.o).mono ?_);rintro e w4 ⟨v571,rfl,ho0,hb⟩;refine ⟨_,rfl,?_⟩;have HO572:=am (Kd.Zq ho0 (Zb pB));replace BK568:=bb BK568 hb;replace HB:=bS hb)|((with_reducible refine gd 3 ?_);refine bx 3 #[.bool false,.slice none 0 0,.int .i64 0] 24 (h:=?_);intro gb575 hg w5 hbox hb;have BK575:=am hbox;have GW575:=gW hg;have NB568_575:=nL hg BK568;have NB575_568:=nG hg BK568;replace HO572:=rbl HO572 hb;replace BK568:=bb BK568 hb;replace HB:=bS hb;clear hb hbox hg;have hnb6:=NB575_568.o;have hnc6:=NB568_575.o;obtain ⟨_,_,_,_,_,_⟩:=cEc BK575.o;obtain ⟨Ao8,co8,eo8⟩:=Kd.Zj HO572.o;subst eo8;obtain ⟨_,_,_,_,_,_⟩:=cEc BK568.o))
 refine bodyPost_ret (results_cell_row rfl _ _ gb568 24 #[.bool t569,.slice Ao8 t570.length co8,.int .i64 t573] (0,0) _ rfl (by refine bp ?_;refine Za3 (cs:=#[.bool t569,.slice Ao8 t570.length co8,.int .i64 0]) ?_ 2 _ rfl;refine bp ?_;refine Za3 (cs:=#[.bool t569,.slice none 0 0,.int .i64 0]) ?_ 1 _ rfl;refine bp ?_;refine Za3 (cs:=#[.bool false,.slice none 0 0,.int .i64 0]) ?_ 0 _ rfl;refine bq ?_ NB568_575;refine bq ?_ NB568_575;refine bq ?_ NB568_575;exact bp BK568.o) Tryz.underlying24 rfl (by kernel_rfl)) rfl ?_
 exact ⟨_,pE,by refine rp ?_;exact Kd.Zi (Kd.Zp (p:=⟨gb568,2,none⟩) (Kd.Zp (p:=⟨gb568,1,none⟩) (Kd.Zp (p:=⟨gb568,0,none⟩) (Kd.Zp (p:=⟨gb575,2,none⟩) (Kd.Zp (p:=⟨gb575,1,none⟩) (Kd.Zp (p:=⟨gb575,0,none⟩) (Kd.Zaa (Kd.Zaa HO572.o BK575.o (by decide)) BK568.o (by decide)) (fun _ hk=>hk.1.2) (.bool t569)) (fun _ hk=>hk.1.2) (.slice Ao8 t570.length co8)) (fun _ hk=>hk.1.2) (.int .i64 t573)) (fun _ hk=>hk.2) (.bool t569)) (fun _ hk=>hk.2) (.slice Ao8 t570.length co8)) (fun _ hk=>hk.2) (.int .i64 t573)) (fun _ hk=>trivial),pB⟩
end YtjbjkmccfocikaaGreatDoor.B
end
section
namespace YtjbjkmccfocikaaGreatDoor.P.Nm
open Go.RowKit YtjbjkmccfocikaaGreatDoorW.PrintWords YtjbjkmccfocikaaGreatDoor.B YtjbjkmccfocikaaGreatDoor.P
structure RawD (l:List Int):Prop where
 dg:Dg 4294967296 l
 len:l.length<=9223372036854775807
theorem RawD.nil:RawD []:=⟨(fun x h=>absurd h (by simp)),(by simp)⟩
end YtjbjkmccfocikaaGreatDoor.P.Nm
end
section
namespace YtjbjkmccfocikaaGreatDoor.P.Nm
theorem Zl6 {n k:Nat} (h:10 ^ k<=n):k+1<=nd n:=by
 refine Nat.not_lt.1 (fun hlt=>?_)
 have h1:=Zhu n
 have h2:=Nat.pow_le_pow_right (n:=10) (by omega) (show nd n<=k by omega)
 omega
def dl (n:Nat):Nat:=if n=0 then 1 else nd n
theorem Zp2 {n:Nat} (h:n ≠ 0):dl n=nd n:=by unfold dl;rw [if_neg h]
theorem Zry:dl 0=1:=rfl
theorem Zob (n:Nat):dl n<=nd n+1:=by unfold dl;split <;> omega
def cutN (q:Nat):Nat:=dl q - 40
def padN (m n:Nat):Nat:=dl n+42 - dl m
def upB (high low cut:Nat) (rest:Bool):Bool :=
 if cut=0 then false else if 5*10 ^ (cut - 1) < low then true else if low=5*10 ^ (cut - 1) then (rest || decide (high % 2=1)) else false
def upN (b:Bool) (h:Nat):Nat:=if b then h+1 else h
def divD (D E:Dm):Dm :=
 let n:=padN D.n E.n
 let q:=D.n*10 ^ n / E.n
 let cut:=cutN q
 ⟨D.neg != E.neg,upN (upB (q / 10 ^ cut) (q % 10 ^ cut) cut (decide (D.n*10 ^ n % E.n ≠ 0))) (q / 10 ^ cut),D.e - E.e - n+cut⟩
def quotD (D E:Dm):Dm × Int:=settleD (divD D E)
theorem Zpf {a c:Dm} (h0:a.n ≠ 0) (h:settleD a=(c,0)):c=⟨a.neg,core a.n,a.e+tz a.n⟩:=by
 rcases Zd6 a with ⟨e,h1⟩|⟨e,_⟩|⟨e,_⟩|⟨e,_⟩ <;> rw [e] at h
 ·exact absurd h1 h0
 ·exact absurd (Prod.mk.inj h).2 (by decide)
 ·exact absurd (Prod.mk.inj h).2 (by decide)
 ·exact ((Prod.mk.inj h).1).symm
theorem Zqr (h cut:Nat) (r:Bool):upB h 0 cut r=false:=by
 have := Zcf (cut - 1)
 unfold upB
 split
 ·rfl
 ·rw [if_neg (by omega),if_neg (by omega)]
theorem Zqn {X E h l c r q:Nat} (hE:0 < E) (hc:0 < c) (hX:X=q*E+r) (hr:r < E) (hq:q=h*10 ^ c+l) (hl:l < 10 ^ c) :
  2*((X:Int) - ((upN (upB h l c (decide (r ≠ 0))) h*10 ^ c*E:Nat):Int)).natAbs<=10 ^ c*E:=by
 obtain ⟨k,rfl⟩:∃ k,c=k+1:=⟨c - 1,by omega⟩
 have hp:(10:Nat) ^ (k+1)=2*(5*10 ^ k):=by rw [Nat.pow_succ];omega
 have hH:0 < 5*10 ^ k:=by have := Zcf k;omega
 obtain ⟨H,hHe⟩:∃ H,5*10 ^ k=H:=⟨_,rfl⟩
 have e1:upB h l (k+1) (decide (r ≠ 0))=if H < l then true else if l=H then (decide (r ≠ 0) || decide (h % 2=1)) else false:=by
  unfold upB;rw [if_neg (by omega),Nat.add_sub_cancel,hHe]
 rw [e1,hp,hHe]
 rw [hp,hHe] at hq hl
 rw [hHe] at hH
 have hXe:X=h*(2*H)*E+l*E+r:=by rw [hX,hq,Nat.add_mul]
 obtain ⟨A,hA⟩:∃ A,h*(2*H)*E=A:=⟨_,rfl⟩
 have hB:(h+1)*(2*H)*E=A+2*(H*E):=by rw [Nat.add_mul,Nat.add_mul,hA,Nat.one_mul,Nat.mul_assoc]
 have hC:2*H*E=2*(H*E):=Nat.mul_assoc _ _ _
 rw [hA] at hXe
 have up1:upN true h=h+1:=rfl
 have up0:upN false h=h:=rfl
 have lt1:l < H->l*E+E<=H*E:=fun g=>by
  have := Nat.mul_le_mul_right E (show l+1<=H from g)
  rwa [Nat.add_mul,Nat.one_mul] at this
 have ge1:H<=l->H*E<=l*E:=fun g=>Nat.mul_le_mul_right E g
 have top:l*E+E<=2*(H*E):=by
  have := Nat.mul_le_mul_right E (show l+1<=2*H from hl)
  rwa [Nat.add_mul,Nat.one_mul,hC] at this
 rw [hC]
 by_cases h1:H < l
 ·rw [if_pos h1,up1,hB]
  have := ge1 (Nat.le_of_lt h1)
  omega
 ·rw [if_neg h1]
  by_cases h2:l=H
  ·rw [if_pos h2]
   have e2:l*E=H*E:=by rw [h2]
   by_cases h3:(decide (r ≠ 0) || decide (h % 2=1))=true
   ·rw [h3,up1,hB];omega
   ·rw [Bool.eq_false_iff.2 h3,up0,hA]
    have:r=0:=by
     rw [Bool.or_eq_true,not_or] at h3
     have := h3.1
     simp at this
     exact this
    omega
  ·rw [if_neg h2,up0,hA]
   have := lt1 (by omega)
   omega
theorem Zin {m E:Nat} (hm:m ≠ 0) (hE:E ≠ 0) :
  ∃ c,cutN (m*10 ^ padN m E / E)=c/\2<=c/\10 ^ 39<=m*10 ^ padN m E / E / 10 ^ c/\m*10 ^ padN m E / E / 10 ^ c < 10 ^ 40:=by
 have h1:10 ^ (nd E+41)<=m*10 ^ padN m E:=by
  have hk:=Zr6 hm
  have hmp:=Zg5 hm
  have hpd:nd E+41<=nd m - 1+padN m E:=by unfold padN;rw [Zp2 hm,Zp2 hE];omega
  refine Nat.le_trans (Nat.pow_le_pow_right (by omega) hpd) ?_
  rw [Nat.pow_add]
  exact Nat.mul_le_mul_right _ hk
 have h2:10 ^ 41<=m*10 ^ padN m E / E:=by
  rw [Nat.le_div_iff_mul_le (by omega)]
  refine Nat.le_trans ?_ h1
  rw [Nat.pow_add,Nat.mul_comm (10 ^ nd E)]
  exact Nat.mul_le_mul_left _ (Nat.le_of_lt (Zhu E))
 obtain ⟨q,hq⟩:∃ q,m*10 ^ padN m E / E=q:=⟨_,rfl⟩
 rw [hq] at h2 ⊢
 have hq0:q ≠ 0:=by have := Zcf 41;omega
 have h3:=Zl6 h2
 refine ⟨nd q - 40,by unfold cutN;rw [Zp2 hq0],by omega,?_,?_⟩
 ·rw [Nat.le_div_iff_mul_le (Zcf _),<- Nat.pow_add]
  have := Zr6 hq0
  rwa [show 39+(nd q - 40)=nd q - 1 by omega]
 ·rw [Nat.div_lt_iff_lt_mul (Zcf _),<- Nat.pow_add]
  have := Zhu q
  rwa [show 40+(nd q - 40)=nd q by omega]
theorem Zn7 {h:Nat} (h1:10 ^ 39<=h) (h2:h<=10 ^ 40):nd (core h)<=40/\40<=nd h:=by
 have h0:h ≠ 0:=by have := Zcf 39;omega
 refine ⟨?_,Zl6 h1⟩
 by_cases he:h=10 ^ 40
 ·have := Zkt (n:=h) (c:=1) (k:=40) (by decide) (by rw [he])
  rw [this.1];decide
 ·have := Zi6 h0
  have := Zgv (n:=h) (k:=40) (by omega)
  omega
theorem Ztj (b:Bool) (h:Nat):h<=upN b h/\upN b h<=h+1:=by cases b <;> simp [upN]
theorem Zq3 {D E:Dm} (hd:D.n ≠ 0) (h0:E.n ≠ 0):10 ^ 39<=(divD D E).n/\(divD D E).n<=10 ^ 40:=by
 obtain ⟨c,hc,_,h1,h2⟩:=Zin hd h0
 unfold divD
 simp only [hc]
 have := Ztj (upB (D.n*10 ^ padN D.n E.n / E.n / 10 ^ c) (D.n*10 ^ padN D.n E.n / E.n % 10 ^ c) c (decide (D.n*10 ^ padN D.n E.n % E.n ≠ 0))) (D.n*10 ^ padN D.n E.n / E.n / 10 ^ c)
 omega
theorem Zjw {D E:Dm} (hd:D.n=0):(divD D E).n=0:=by
 unfold divD
 simp only [hd,Nat.zero_mul,Nat.zero_div,Nat.zero_mod,cutN,Zry,Zqr];rfl
theorem Zql (D E:Dm) (h0:E.n ≠ 0):nd (quotD D E).1.n<=40:=by
 unfold quotD
 by_cases hd:D.n=0
 ·have := Zjw (D:=D) (E:=E) hd
  unfold settleD;rw [if_pos this];decide
 ·obtain ⟨h1,h2⟩:=Zq3 hd h0
  have := (Zn7 h1 h2).1
  rcases Zd6 (divD D E) with ⟨e,_⟩|⟨e,_⟩|⟨e,_⟩|⟨e,_⟩ <;> rw [e]
  ·decide
  ·decide
  ·decide
  ·exact this
theorem Zs3 (D E:Dm):(divD D E).e=D.e - E.e - padN D.n E.n+cutN (D.n*10 ^ padN D.n E.n / E.n):=rfl
theorem Zpz (D E:Dm):(divD D E).neg=(D.neg != E.neg):=rfl
theorem Zsg (a b:Bool) (x y:Nat):((if (a != b) then (-1:Int) else 1)*(x:Int))*((if b then (-1:Int) else 1)*(y:Int))=(if a then (-1:Int) else 1)*((x*y:Nat):Int):=by
 cases a <;> cases b <;> simp [Int.mul_neg,Int.neg_mul,Int.natCast_mul]
theorem Zsh (a:Bool) (x y:Nat):((if a then (-1:Int) else 1)*(x:Int) - (if a then (-1:Int) else 1)*(y:Int)).natAbs=((x:Int) - (y:Int)).natAbs:=by
 cases a
 ·simp
 ·simp only [if_true];omega
theorem Zqh {a b:Nat} (h:a<=b):(10:Nat) ^ a<=10 ^ b:=Nat.pow_le_pow_right (by omega) h
theorem Zo8 {D E q p d u room:Dm} (hD:OkD D) (hE:OkD E) (h0:E.n ≠ 0) (hq:quotD D E=(q,0)) (hq0:q.n ≠ 0)
  (hp:timesD q E=(p,0)) (hd:subD D p=(d,0)) (hu:settleD ⟨false,5,q.e - (40 - (nd q.n:Int)) - 1⟩=(u,0)) (hr:timesD u E=(room,0)) :
  (sc 6000 d).natAbs<=(sc 6000 room).natAbs:=by
 have oq:OkD q:=by have := Zd7 (divD D E);unfold quotD at hq;rw [hq] at this;exact this
 have op:OkD p:=by have := Zd7 (mulD q E);unfold timesD at hp;rw [hp] at this;exact this
 have ou:OkD u:=by have := Zd7 ⟨false,5,q.e - (40 - (nd q.n:Int)) - 1⟩;rw [hu] at this;exact this
 have l1:=hD.low;have l2:=hE.low;have l3:=oq.low;have l4:=op.low;have l5:=ou.low
 have g1:=hD.high;have g2:=hE.high;have g3:=oq.high
 have hDn:D.n ≠ 0:=fun e=>by
  have := Zjw (D:=D) (E:=E) e
  unfold quotD settleD at hq
  rw [if_pos this] at hq
  exact hq0 (by rw [<- (Prod.mk.inj hq).1];rfl)
 obtain ⟨b1,b2⟩:=Zq3 hDn h0
 have bn:(divD D E).n ≠ 0:=by have := Zcf 39;omega
 have hqe:=Zpf (a:=divD D E) bn hq
 have hplace:q.e - (40 - (nd q.n:Int))=(divD D E).e+nd (divD D E).n - 40:=by
  have := Zi6 bn
  rw [hqe]
  simp only
  omega
 have h40:=(Zn7 b1 b2).2
 have lend:=hD.len;have lene:=hE.len
 have hpad:padN D.n E.n<=342:=by unfold padN;rw [Zp2 h0];omega
 obtain ⟨c,hc,hc2,_,_⟩:=Zin hDn h0
 obtain ⟨n,hn⟩:∃ n,padN D.n E.n=n:=⟨_,rfl⟩
 have hxe:=Zs3 D E
 rw [hc,hn] at hxe
 rw [hn] at hpad hc
 have s1:sc 6000 d=sc 6000 D - sc 6000 p:=by
  have e1:=Zfg (K:=6000) (a:=plusD D (negD p)) (by rw [Zo2];show _<=min D.e p.e;omega) hd
  have e2:=Zmj (K:=6000) (a:=D) (b:=negD p) (by omega) (show -6000<=p.e by omega)
  rw [e1,e2,Zpe];omega
 have s2:sc 6000 p=sc 3000 q*sc 3000 E:=by
  have e1:=Zfg (K:=6000) (a:=mulD q E) (by show -6000<=q.e+E.e;omega) hp
  have := Zpd (K:=3000) (L:=3000) (a:=q) (b:=E) (by omega) (by omega)
  rw [e1];exact this
 have s3:sc 3000 q=sc 3000 (divD D E):=Zfg (K:=3000) (by rw [hxe];omega) hq
 have s4:sc 6000 room=sc 3000 u*sc 3000 E:=by
  have e1:=Zfg (K:=6000) (a:=mulD u E) (by show -6000<=u.e+E.e;omega) hr
  have := Zpd (K:=3000) (L:=3000) (a:=u) (b:=E) (by omega) (by omega)
  rw [e1];exact this
 have s5:sc 3000 u=sc 3000 ⟨false,5,q.e - (40 - (nd q.n:Int)) - 1⟩:=Zfg (K:=3000) (by show -3000<=q.e - (40 - (nd q.n:Int)) - 1;omega) hu
 obtain ⟨M,hM⟩:∃ M,(divD D E).n=M:=⟨_,rfl⟩
 obtain ⟨x,hx⟩:∃ x,(divD D E).e=x:=⟨_,rfl⟩
 rw [hx] at hxe hplace
 rw [hM] at hplace h40
 obtain ⟨y,hy⟩:∃ y:Nat,(E.e+3000).toNat=y:=⟨_,rfl⟩
 obtain ⟨W,hW⟩:∃ W:Nat,(D.e - (n:Int)+6000).toNat=W:=⟨_,rfl⟩
 have t1:(sc 6000 d).natAbs=(((D.n*10 ^ n:Nat):Int) - ((M*10 ^ c*E.n:Nat):Int)).natAbs*10 ^ W:=by
  rw [s1,s2,s3]
  unfold sc
  rw [Zpz,hM,hx,Zsg,Zsh,hy]
  have e1:(D.e+6000).toNat=n+W:=by omega
  have e2:(x+3000).toNat+y=c+W:=by omega
  have e3:D.n*10 ^ (D.e+6000).toNat=D.n*10 ^ n*10 ^ W:=by rw [e1,Nat.pow_add,Nat.mul_assoc]
  have e4:M*10 ^ (x+3000).toNat*(E.n*10 ^ y)=M*10 ^ c*E.n*10 ^ W:=by
   rw [Nat.mul_mul_mul_comm,<- Nat.pow_add,e2,Nat.pow_add,<- Nat.mul_assoc,Nat.mul_right_comm M (E.n)]
  rw [e3,e4]
  rw [Int.natCast_mul (D.n*10 ^ n),Int.natCast_mul (M*10 ^ c*E.n),<- Int.sub_mul,Int.natAbs_mul,Int.natAbs_natCast]
 have t2:2*(sc 6000 room).natAbs=10 ^ ((q.e - (40 - (nd q.n:Int))+3000).toNat+y)*E.n:=by
  rw [s4,s5,Int.natAbs_mul,Zmi,Zmi,hy]
  simp only
  obtain ⟨z,hz⟩:∃ z:Nat,(q.e - (40 - (nd q.n:Int)) - 1+3000).toNat=z:=⟨_,rfl⟩
  have e1:(q.e - (40 - (nd q.n:Int))+3000).toNat=z+1:=by omega
  rw [e1,hz,Nat.pow_add,Nat.pow_succ]
  have:2*(5*10 ^ z*(E.n*10 ^ y))=(2*5)*10 ^ z*(E.n*10 ^ y):=by rw [Nat.mul_assoc 2 5,Nat.mul_assoc 2]
  rw [this,Nat.mul_comm (10 ^ z) 10,Nat.mul_comm E.n,Nat.mul_assoc]
  simp only [Nat.mul_assoc]
  omega
 have hrd:2*(((D.n*10 ^ n:Nat):Int) - ((M*10 ^ c*E.n:Nat):Int)).natAbs<=10 ^ c*E.n:=by
  have := Zqn (X:=D.n*10 ^ n) (E:=E.n) (h:=D.n*10 ^ n / E.n / 10 ^ c) (l:=D.n*10 ^ n / E.n % 10 ^ c) (c:=c) (r:=D.n*10 ^ n % E.n) (q:=D.n*10 ^ n / E.n) (by omega) (by omega)
   (by rw [Nat.mul_comm (_ / _)];exact (Nat.div_add_mod _ _).symm) (Nat.mod_lt _ (by omega)) (by rw [Nat.mul_comm (_ / _)];exact (Nat.div_add_mod _ _).symm) (Nat.mod_lt _ (Zcf _))
  rw [<- hM]
  unfold divD
  simp only [hn,hc]
  exact this
 have hfin:2*(sc 6000 d).natAbs<=2*(sc 6000 room).natAbs:=by
  rw [t1,t2,<- Nat.mul_assoc]
  refine Nat.le_trans (Nat.mul_le_mul_right _ hrd) ?_
  rw [Nat.mul_right_comm,<- Nat.pow_add]
  exact Nat.mul_le_mul_right _ (Zqh (by omega))
 omega
def absD (a:Dm):Dm:=(settleD ⟨false,a.n,a.e⟩).1
theorem Zf1 {a:Dm} (h:OkD a):absD a=⟨false,a.n,a.e⟩/\OkD (absD a):=by
 have ok:OkD ⟨false,a.n,a.e⟩:=by
  refine ⟨fun e=>?_,h.last,h.len,h.low,h.high⟩
  have e':a.n=0:=e
  have := h.zero e'
  rw [this];rfl
 have e1:=Zkc ok
 have e2:absD a=⟨false,a.n,a.e⟩:=by unfold absD;rw [e1]
 exact ⟨e2,by rw [e2];exact ok⟩
theorem Zre (K:Int) (n:Nat) (e:Int):sc K ⟨false,n,e⟩=((n*10 ^ (e+K).toNat:Nat):Int):=by unfold sc;simp
theorem Zrr {a b:Dm} (ha:OkD a) (hb:OkD b) (h:(sc 6000 a).natAbs<=(sc 6000 b).natAbs):cmpD (absD a) (absD b)<=0:=by
 have l1:=ha.low;have l2:=hb.low
 have e1:=Zrq (K:=6000) (a:=⟨false,a.n,a.e⟩) (b:=⟨false,b.n,b.e⟩) (show -6000<=a.e by omega) (show -6000<=b.e by omega)
 rw [(Zf1 ha).1,(Zf1 hb).1,e1,Zre,Zre]
 rw [Zmi,Zmi] at h
 split
 ·omega
 ·rw [if_neg (by omega)];omega
end YtjbjkmccfocikaaGreatDoor.P.Nm
end
section
namespace YtjbjkmccfocikaaGreatDoor.B
open Go.RowKit YtjbjkmccfocikaaGreatDoorW.PrintWords YtjbjkmccfocikaaGreatDoorW.PrintLast YtjbjkmccfocikaaGreatDoorW.PrintMore
attribute [local go_sem] Zb5 Zb7 Zcs Zct Zbn Zbo Zb6 Zb8
def Zdv.f (k:Nat) (l0:List (S24)):Option (Int):=(Zcb.f k l0).bind fun t297=>(if t297=true then (some 9) else (some 0))
theorem Zdv.calls (k:Nat) (A0:Option Addr) (c0:Nat) (l0:List (S24)) (r:Int) (w:World) (hr0:Kd.C k24 w A0 l0.length l0) (hc0:l0.length<=c0) (h:Zdv.f k l0=some r) :
  Calls Tryz.prog 67 #[.slice A0 l0.length c0] w fun e w'=>e=.returned (.int .i64 r)/\Below w.heap.size w w':=by
 have HR0:=am hr0
 have HC0:=am hc0
 clear hr0 hc0
 have HB:=am (Below.refl w.heap.size w)
 have H:((Zcb.f k l0).bind fun t297=>(if t297=true then (some 9) else (some 0)))=some r:=h
 clear h
 obtain ⟨t297,A2,H⟩:=ob H
 by_cases c3:t297=true
 ·subst c3
  rw [if_pos rfl] at H
  obtain rfl:=Option.some.inj H
  go_enter Tryz.func67,Tryz.ntmps67
  go_wp2_with (first|(refine gL (some 4) Tryz.func123 #[.slice A0 l0.length c0,.func (.func 124) #[] #[]] (h:=?_);(with_reducible refine (Zcb.calls k _ _ l0 true _ ?side1 ?side2 A2.o).mono ?_);(case side1=>refine cp ?_;exact HR0.o);(case side2=>exact HC0.o);rintro e w4 ⟨rfl,hb⟩;refine ⟨_,rfl,?_⟩;replace HB:=bS hb))
  go_ret
  exact ⟨pE,pB⟩
 ·replace c3:=Bool.eq_false_iff.mpr c3
  subst c3
  rw [if_neg (show ¬ (false=true) by decide)] at H
  obtain rfl:=Option.some.inj H
  go_enter Tryz.func67,Tryz.ntmps67
  go_wp2_with (first|(refine gL (some 4) Tryz.func123 #[.slice A0 l0.length c0,.func (.func 124) #[] #[]] (h:=?_);(with_reducible refine (Zcb.calls k _ _ l0 false _ ?side1 ?side2 A2.o).mono ?_);(case side1=>refine cp ?_;exact HR0.o);(case side2=>exact HC0.o);rintro e w5 ⟨rfl,hb⟩;refine ⟨_,rfl,?_⟩;replace HB:=bS hb))
  go_ret
  exact ⟨pE,pB⟩
def Zcw.f (a0:ByteArray) (a1:Int):Option (ByteArray):=some a0
theorem Zcw.calls (a0:ByteArray) (a1:Int) (r:ByteArray) (w:World) (h:Zcw.f a0 a1=some r) :
  Calls Tryz.prog 125 #[.string a0,.int .i64 a1] w fun e w'=>e=.returned (.string r)/\Drawn0 w w':=by
 have H:(some a0)=some r:=h
 clear h
 obtain rfl:=Option.some.inj H
 go_enter Tryz.func125,Tryz.ntmps125
 go_wp2
 go_ret
 exact ⟨pR,pD⟩
end YtjbjkmccfocikaaGreatDoor.B
end
end Go.Proofs
