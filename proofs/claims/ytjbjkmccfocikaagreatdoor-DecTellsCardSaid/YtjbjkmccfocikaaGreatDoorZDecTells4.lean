/- DecTells, part 5 of 8 of its proof (no condition); names with a low line are shortened throughout. -/
import Derived.Test.YtjbjkmccfocikaaGreatDoorZDecTells3
import Derived.WalkKit
import Derived.Lib.Hide
import Derived.Outline
import Derived.Deep.DeepFit
import Derived.Laws.Rows
import Derived.Lib.TrimByte
import Derived.Shelf.Strings.MapAny
import Derived.Shelf.Strings.SlTrimAscii
set_option linter.unusedVariables false
set_option linter.unusedSimpArgs false
set_option maxRecDepth 100000
set_option maxHeartbeats 8000000
namespace Go.Proofs
section
namespace YtjbjkmccfocikaaGreatDoor.B
open Go.RowKit YtjbjkmccfocikaaGreatDoorW.PrintWords YtjbjkmccfocikaaGreatDoorW.PrintLast YtjbjkmccfocikaaGreatDoorW.PrintMore
attribute [local go_sem] Zb3 Zb5 Zcp Zcq Zbs Zbt Zb4 Zb6
def Zu.f (k:Nat) (a0_0:Bool) (l0_1:List Int) (a0_2:Int) (a1_0:Bool) (l1_1:List Int) (a1_2:Int):Option (Bool × List Int × Int):=(Zz.f k a0_0 l0_1 a0_2 (mn a0_2 a1_2)).bind fun qc=>((Zz.f k a1_0 l1_1 a1_2 (mn a0_2 a1_2)).bind fun qi=>(if (qc.1 == qi.1)=true then ((Zfd.f k qc.2.1 qi.2.1).bind fun qx=>((Zbw.f qx.1 qx.2).bind fun q0=>(some (qc.1,q0,qc.2.2)))) else ((Zdc.f k qc.2.1 qi.2.1).bind fun q7=>(if q7.1 < 0 then ((Zeb.f k qi.2.1 qc.2.1).bind fun qy=>((Zbw.f qy.1 qy.2).bind fun q1=>(some (qi.1,q1,qi.2.2)))) else ((Zeb.f k qc.2.1 qi.2.1).bind fun qz=>((Zbw.f qz.1 qz.2).bind fun q2=>(some (qc.1,q2,qc.2.2))))))))
def Zu.T2:Bool × List (List Nat × List Nat):=(true,[([],[]),([],[]),([0,1],[0,1]),([],[]),([],[]),([3,4,2],[3,4]),([2,5,0,1,2],[2]),([5,6,0,1,2,3,4,5,6],[5])])
def Zu.B2:List Nat:=[0,0,3,0,0,31,63,127]
theorem Zu.tab2:rtab .any (opsOf Tryz.f101 2)=Zu.T2:=by kernel_rfl
theorem Zu.bits2:waitsOk Zu.T2.2 Zu.B2=true:=by kernel_rfl
theorem Zu.leaf {P:Prop} (h:P:=by
 go_enter Tryz.func101,Tryz.ntmps101
 try go_wp2_with (first|((with_reducible refine gd 2 ?_);refine bx 2 #[.bool a0_0,.slice A0_1 l0_1.length c0_1,.int .i64 a0_2] 106 (h:=?_);intro gb0z hg w1z hbox hb;have BK2z:=am hbox;have GW3z:=gW hg;replace HB:=bS hb;clear hb hbox hg)|((with_reducible refine gd 3 ?_);refine bx 3 #[.bool a1_0,.slice A1_1 l1_1.length c1_1,.int .i64 a1_2] 106 (h:=?_);intro gb5z hg w6z hbox hb;have BK7z:=am hbox;have GW8z:=gW hg;have qq:=nL hg BK2z;have qr:=nG hg BK2z;replace BK2z:=bb BK2z hb;replace HB:=bS hb;clear hb hbox hg)|((with_reducible refine gd 4 ?_);refine bx 4 #[.bool false,.slice none 0 0,.int .i64 0] 106 (h:=?_);intro qh hg w13z hbox hb;have qe:=am hbox;have qac:=gW hg;have ji:=nL hg BK2z;have qs:=nG hg BK2z;have jj:=nL hg BK7z;have qu:=nG hg BK7z;replace BK2z:=bb BK2z hb;replace BK7z:=bb BK7z hb;replace HB:=bS hb;clear hb hbox hg;have qao:=qq.o;have qar:=qr.o;have qap:=ji.o;have qas:=qs.o;obtain ⟨_,_,_,_,_,_⟩:=cEc BK2z.o;have qaq:=jj.o;have qat:=qu.o;obtain ⟨_,_,_,_,_,_⟩:=cEc BK7z.o))
 replace BK2z:=am (Zay BK2z.o)
 replace BK7z:=am (Zay BK7z.o)
 replace qe:=am (Zay qe.o)
 replace HB:=am (Zbe HB.o)
 refine start_ (n:=8) (S:=fun w'=>w'.cell? ⟨gb0z,0,none⟩=some (.bool a0_0)/\w'.cell? ⟨gb0z,1,none⟩=some (.slice A0_1 l0_1.length c0_1)/\w'.cell? ⟨gb0z,2,none⟩=some (.int .i64 a0_2)/\w'.cell? ⟨gb5z,0,none⟩=some (.bool a1_0)/\w'.cell? ⟨gb5z,1,none⟩=some (.slice A1_1 l1_1.length c1_1)/\w'.cell? ⟨gb5z,2,none⟩=some (.int .i64 a1_2)) (ds:=[6,7]) #[false,false,false,false,false,false,false,false] (by kernel_rfl) rfl rfl ⟨k0 BK2z 0,k0 BK2z 1,k0 BK2z 2,k0 BK7z 0,k0 BK7z 1,k0 BK7z 2⟩ (fun hHeld=>?_);refine Zch Zu.tab2 Zu.bits2 (fun HT_ HW_=>?_)
 generalize w13z.drew=w39z at BK2z BK7z qe HB hHeld ⊢
 refine pu 1 (some 16) #[false,true,false,false,false,false,false,false] (h:=?_)
 refine pu 4 (some 19) #[false,true,false,false,true,false,false,false] (h:=?_)
 refine take_ (i:=0) (N:=some 15) (v:=?_) (a':=?_) #[true,true,false,false,true,false,false,false] rfl rfl (Za3 HT_.out HW_.out (by kernel_rfl)) (fun _ _ _ h=>h) (Or.inl ⟨by rfl,?_⟩) hHeld ?_ ?_
 rotate_left
 ·rintro w' ⟨s40z,s41z,s42z,s43z,s44z,s45z⟩
  go_simp
  with_reducible rfl
 rotate_left
 ·exact pP
 refine take_ (i:=3) (N:=some 18) (v:=?_) (a':=?_) #[true,true,false,true,true,false,false,false] rfl rfl (Za3 HT_.out HW_.out (by kernel_rfl)) (fun _ _ _ h=>h) (Or.inl ⟨by rfl,?_⟩) hHeld ?_ ?_
 rotate_left
 ·rintro w' ⟨s40z,s41z,s42z,s43z,s44z,s45z⟩
  go_simp
  with_reducible rfl
 rotate_left
 ·exact pP
 refine one_ (i:=2) (N:=some 17) #[true,true,true,true,true,false,false,false] rfl rfl (Za8 HT_.out (by kernel_rfl)) (by decide) (fun K hK=>?_)
 refine goes_ Tryz.func106 (by kernel_rfl) rfl #[.agg #[.bool a0_0,.slice A0_1 l0_1.length c0_1,.int .i64 a0_2],.int .i64 ji3] (by rfl) rfl rfl (by (try simp only [List.map_toArray,List.map_cons,List.map_nil]);first|done|(simp only [hji3];rfl)|rfl|(simp only [List.length_drop,List.length_take];rfl)) ?_
 with_reducible refine (Zz.calls k a0_0 (fun k_=>k_ < w.heap.size) _ _ l0_1 a0_2 ji3 qd qf qp _ ?side1 A4.o).mono ?_
 (case side1=>exact Kd.V_mk HC0_1.o (Kd.Ze7 (Kd.C_F (Kd.Zfm .u32) HR0_1.o) pB))
 rintro e w46z ⟨v47z,rfl,ho48z,hb⟩
 refine ⟨_,rfl,?_⟩
 have ql:=am (Kd.Zex (Kd.Zr (ok':=fun k_=>k_ ≠ gb0z/\k_ ≠ gb5z/\k_ ≠ qh) ho48z (fun k_ hk_=>⟨Or.elim hk_ (fun hs_=>fun e_=>Nat.not_le.2 hs_ (by rw [e_];exact GW3z.o)) (fun hn_=>(Kd.freshB (g:=gb0z) (o:=.cells #[.bool a0_0,.slice A0_1 l0_1.length c0_1,.int .i64 a0_2] 106 (0,0)) (Za BK2z.o pl) k_ hn_)),Or.elim hk_ (fun hs_=>fun e_=>Nat.not_le.2 hs_ (by rw [e_];exact GW8z.o)) (fun hn_=>(Kd.freshB (g:=gb5z) (o:=.cells #[.bool a1_0,.slice A1_1 l1_1.length c1_1,.int .i64 a1_2] 106 (0,0)) (Za BK7z.o pl) k_ hn_)),Or.elim hk_ (fun hs_=>fun e_=>Nat.not_le.2 hs_ (by rw [e_];exact qac.o)) (fun hn_=>(Kd.freshB (g:=qh) (o:=.cells #[.bool false,.slice none 0 0,.int .i64 0] 106 (0,0)) (Za qe.o pl) k_ hn_))⟩)) (Zb pB))
 replace BK2z:=bb BK2z hb
 replace BK7z:=bb BK7z hb
 replace qe:=bb qe hb
 replace HB:=bS hb
 refine hK.out _ _ ⟨k0 BK2z 0,k0 BK2z 1,k0 BK2z 2,k0 BK7z 0,k0 BK7z 1,k0 BK7z 2⟩ (fun hHeld=>?_)
 clear hK K
 refine norm_ (a':=?_) ?_ ?_
 rotate_left
 ·show Act.put _ (some 17) _=_
  exact pP
 refine one_ (i:=5) (N:=some 20) #[true,true,true,true,true,true,false,false] rfl rfl (Za8 HT_.out (by kernel_rfl)) (by decide) (fun K hK=>?_)
 refine goes_ Tryz.func106 (by kernel_rfl) rfl #[.agg #[.bool a1_0,.slice A1_1 l1_1.length c1_1,.int .i64 a1_2],.int .i64 ji3] (by rfl) rfl rfl (by (try simp only [List.map_toArray,List.map_cons,List.map_nil]);first|done|(simp only [hji3];rfl)|rfl|(simp only [List.length_drop,List.length_take];rfl)) ?_
 with_reducible refine (Zz.calls k a1_0 (fun k_=>k_ < w.heap.size) _ _ l1_1 a1_2 ji3 qa qb qo _ ?side1 A5.o).mono ?_
 (case side1=>exact Kd.V_mk HC1_1.o (Kd.Ze7 (Kd.C_F (Kd.Zfm .u32) HR1_1.o) pB))
 rintro e w50z ⟨v51z,rfl,ho48z,hb⟩
 refine ⟨_,rfl,?_⟩
 replace ql:=vbl ql hb
 have qm:=am (Kd.Zex (Kd.Zr (ok':=fun k_=>k_ ≠ gb0z/\k_ ≠ gb5z/\k_ ≠ qh) ho48z (fun k_ hk_=>⟨Or.elim hk_ (fun hs_=>fun e_=>Nat.not_le.2 hs_ (by rw [e_];exact GW3z.o)) (fun hn_=>(Kd.freshB (g:=gb0z) (o:=.cells #[.bool a0_0,.slice A0_1 l0_1.length c0_1,.int .i64 a0_2] 106 (0,0)) (Za BK2z.o pl) k_ hn_)),Or.elim hk_ (fun hs_=>fun e_=>Nat.not_le.2 hs_ (by rw [e_];exact GW8z.o)) (fun hn_=>(Kd.freshB (g:=gb5z) (o:=.cells #[.bool a1_0,.slice A1_1 l1_1.length c1_1,.int .i64 a1_2] 106 (0,0)) (Za BK7z.o pl) k_ hn_)),Or.elim hk_ (fun hs_=>fun e_=>Nat.not_le.2 hs_ (by rw [e_];exact qac.o)) (fun hn_=>(Kd.freshB (g:=qh) (o:=.cells #[.bool false,.slice none 0 0,.int .i64 0] 106 (0,0)) (Za qe.o pl) k_ hn_))⟩)) (Zb pB))
 replace BK2z:=bb BK2z hb
 replace BK7z:=bb BK7z hb
 replace qe:=bb qe hb
 replace HB:=bS hb
 obtain ⟨qn,qk,qad⟩:=Kd.Zdu ql.o
 (first|subst qad|(injection qad with f1_ f2_ f3_;have f4_:=f1_.symm;have f5_:=f3_.symm;clear f1_ f2_ f3_;subst f4_;subst f5_))
 obtain ⟨qj,qg,qae⟩:=Kd.Zdu qm.o
 (first|subst qae|(injection qae with f1_ f2_ f3_;have f4_:=f1_.symm;have f5_:=f3_.symm;clear f1_ f2_ f3_;subst f4_;subst f5_))
 refine hK.out _ _ ⟨k0 BK2z 0,k0 BK2z 1,k0 BK2z 2,k0 BK7z 0,k0 BK7z 1,k0 BK7z 2⟩ (fun hHeld=>?_)
 clear hK K
 refine norm_ (a':=?_) ?_ ?_
 rotate_left
 ·show Act.put _ (some 20) _=_
  exact pP
 refine last_ (i:=6) (N:=none) #[true,true,true,true,true,true,true,false] rfl rfl (Za8 HT_.out (by kernel_rfl)) (by decide) (fun K hK=>?_)
 have hs59z:w50z.cell? ⟨gb0z,0,none⟩=some (.bool a0_0):=k0 BK2z 0
 have hfs60z:=Zaa BK2z.o 0
 have hns61z:=qr.o
 have hns62z:=qs.o
 have hms63z:=qq.o
 have hms64z:=ji.o
 have hs65z:w50z.cell? ⟨gb0z,1,none⟩=some (.slice A0_1 l0_1.length c0_1):=k0 BK2z 1
 have hfs66z:=Zaa BK2z.o 1
 have hns67z:=qr.o
 have hns68z:=qs.o
 have hms69z:=qq.o
 have hms70z:=ji.o
 have hs71z:w50z.cell? ⟨gb0z,2,none⟩=some (.int .i64 a0_2):=k0 BK2z 2
 have hfs72z:=Zaa BK2z.o 2
 have hns73z:=qr.o
 have hns74z:=qs.o
 have hms75z:=qq.o
 have hms76z:=ji.o
 refine skip_ (w1:=?_) (by rfl) rfl ?_ ?_
 rotate_left
 ·go_simp
  rfl
 refine hK.out _ _ ?_
 clear hK K
 refine last_ (i:=7) (N:=none) #[true,true,true,true,true,true,true,true] rfl rfl (Za8 HT_.out (by kernel_rfl)) (by decide) (fun K hK=>?_)
 have hs77z:w50z.cell? ⟨gb5z,0,none⟩=some (.bool a1_0):=k0 BK7z 0
 have hfs78z:=Zaa BK7z.o 0
 have hns79z:=qq.o
 have hns80z:=qu.o
 have hms81z:=qr.o
 have hms82z:=jj.o
 have hs83z:w50z.cell? ⟨gb5z,1,none⟩=some (.slice A1_1 l1_1.length c1_1):=k0 BK7z 1
 have hfs84z:=Zaa BK7z.o 1
 have hns85z:=qq.o
 have hns86z:=qu.o
 have hms87z:=qr.o
 have hms88z:=jj.o
 have hs89z:w50z.cell? ⟨gb5z,2,none⟩=some (.int .i64 a1_2):=k0 BK7z 2
 have hfs90z:=Zaa BK7z.o 2
 have hns91z:=qq.o
 have hns92z:=qu.o
 have hms93z:=qr.o
 have hms94z:=jj.o
 refine skip_ (w1:=?_) (by rfl) rfl ?_ ?_
 rotate_left
 ·go_simp
  rfl
 refine hK.out _ _ ?_
 clear hK K
 refine done_ (Zdg HT_.out (by kernel_rfl)) ?_
 obtain ⟨_,_,_,_,_,_⟩:=cEc BK2z.o
 obtain ⟨_,_,_,_,_,_⟩:=cEc BK7z.o
 try go_wp2_with (first|((have q_:=A39;clear q_);refine gL (some 48) Tryz.func90 #[.slice qn qf.length qk,.slice qj qb.length qg] (h:=?_);(with_reducible refine (Zdc.calls k _ _ qf _ _ qb qaf qag _ ?side1 ?side2 ?side3 ?side4 A36.o).mono ?_);(case side1=>refine (Kd.Zai (e:=85) (base:=w.heap.size) (ok:=fun k_=>(k_ ≠ gb0z/\(k_ ≠ gb5z/\k_ ≠ qh))) (n:=qf.length) (c:=qk) ?_).2.2;exact (Kd.Zam (Kd.Zr (Kd.Zr (Kd.Zav (p:=⟨gb5z,2,none⟩) (Kd.Zav (p:=⟨gb5z,1,none⟩) (Kd.Zav (p:=⟨gb5z,0,none⟩) (Kd.Zav (p:=⟨gb0z,2,none⟩) (Kd.Zav (p:=⟨gb0z,1,none⟩) (Kd.Zav (p:=⟨gb0z,0,none⟩) (Kd.Zr (Kd.Zr ql.o (fun k_ hk=>(⟨hk,hk.1⟩:_/\k_ ≠ gb0z))) (fun k_ hk=>(⟨hk,hk.1.2.1⟩:_/\k_ ≠ gb5z))) (fun _ hk=>hk.1.2) (.bool qd)) (fun _ hk=>hk.1.2) (.slice qn qf.length qk)) (fun _ hk=>hk.1.2) (.int .i64 qp)) (fun _ hk=>hk.2) (.bool qa)) (fun _ hk=>hk.2) (.slice qj qb.length qg)) (fun _ hk=>hk.2) (.int .i64 qo)) (fun _ h_=>h_.1)) (fun _ h_=>h_.1)) pl));(case side2=>exact (Kd.Zai ql.o).2.1);(case side3=>refine (Kd.Zai (e:=85) (base:=w.heap.size) (ok:=fun k_=>(k_ ≠ gb0z/\(k_ ≠ gb5z/\k_ ≠ qh))) (n:=qb.length) (c:=qg) ?_).2.2;exact (Kd.Zam (Kd.Zr (Kd.Zr (Kd.Zav (p:=⟨gb5z,2,none⟩) (Kd.Zav (p:=⟨gb5z,1,none⟩) (Kd.Zav (p:=⟨gb5z,0,none⟩) (Kd.Zav (p:=⟨gb0z,2,none⟩) (Kd.Zav (p:=⟨gb0z,1,none⟩) (Kd.Zav (p:=⟨gb0z,0,none⟩) (Kd.Zr (Kd.Zr qm.o (fun k_ hk=>(⟨hk,hk.1⟩:_/\k_ ≠ gb0z))) (fun k_ hk=>(⟨hk,hk.1.2.1⟩:_/\k_ ≠ gb5z))) (fun _ hk=>hk.1.2) (.bool qd)) (fun _ hk=>hk.1.2) (.slice qn qf.length qk)) (fun _ hk=>hk.1.2) (.int .i64 qp)) (fun _ hk=>hk.2) (.bool qa)) (fun _ hk=>hk.2) (.slice qj qb.length qg)) (fun _ hk=>hk.2) (.int .i64 qo)) (fun _ h_=>h_.1)) (fun _ h_=>h_.1)) pl));(case side4=>exact (Kd.Zai qm.o).2.1);rintro e qai ⟨rfl,hb⟩;refine ⟨_,rfl,?_⟩;replace ql:=am (Kd.Zam (Kd.Zam (Kd.Zr (Kd.Zr (Kd.Zav (p:=⟨gb5z,2,none⟩) (Kd.Zav (p:=⟨gb5z,1,none⟩) (Kd.Zav (p:=⟨gb5z,0,none⟩) (Kd.Zav (p:=⟨gb0z,2,none⟩) (Kd.Zav (p:=⟨gb0z,1,none⟩) (Kd.Zav (p:=⟨gb0z,0,none⟩) (Kd.Zr (Kd.Zr ql.o (fun k_ hk=>(⟨hk,hk.1⟩:_/\k_ ≠ gb0z))) (fun k_ hk=>(⟨hk,hk.1.2.1⟩:_/\k_ ≠ gb5z))) (fun _ hk=>hk.1.2) (.bool qd)) (fun _ hk=>hk.1.2) (.slice qn qf.length qk)) (fun _ hk=>hk.1.2) (.int .i64 qp)) (fun _ hk=>hk.2) (.bool qa)) (fun _ hk=>hk.2) (.slice qj qb.length qg)) (fun _ hk=>hk.2) (.int .i64 qo)) (fun _ h_=>h_.1)) (fun _ h_=>h_.1)) pl) hb);replace qm:=am (Kd.Zam (Kd.Zam (Kd.Zr (Kd.Zr (Kd.Zav (p:=⟨gb5z,2,none⟩) (Kd.Zav (p:=⟨gb5z,1,none⟩) (Kd.Zav (p:=⟨gb5z,0,none⟩) (Kd.Zav (p:=⟨gb0z,2,none⟩) (Kd.Zav (p:=⟨gb0z,1,none⟩) (Kd.Zav (p:=⟨gb0z,0,none⟩) (Kd.Zr (Kd.Zr qm.o (fun k_ hk=>(⟨hk,hk.1⟩:_/\k_ ≠ gb0z))) (fun k_ hk=>(⟨hk,hk.1.2.1⟩:_/\k_ ≠ gb5z))) (fun _ hk=>hk.1.2) (.bool qd)) (fun _ hk=>hk.1.2) (.slice qn qf.length qk)) (fun _ hk=>hk.1.2) (.int .i64 qp)) (fun _ hk=>hk.2) (.bool qa)) (fun _ hk=>hk.2) (.slice qj qb.length qg)) (fun _ hk=>hk.2) (.int .i64 qo)) (fun _ h_=>h_.1)) (fun _ h_=>h_.1)) pl) hb);replace BK2z:=am (Za (g:=gb0z) (o:=.cells #[.bool qd,.slice qn qf.length qk,.int .i64 qp] 106 (0,0)) (by refine bq ?_ qq;refine bq ?_ qq;refine bq ?_ qq;exact p3 BK2z) hb);replace BK7z:=am (Za (g:=gb5z) (o:=.cells #[.bool qa,.slice qj qb.length qg,.int .i64 qo] 106 (0,0)) (by refine bp ?_;refine Zab (cs:=#[.bool qa,.slice qj qb.length qg,.int .i64 a1_2]) ?_ 2 _ rfl;refine bp ?_;refine Zab (cs:=#[.bool qa,.slice A1_1 l1_1.length c1_1,.int .i64 a1_2]) ?_ 1 _ rfl;refine bp ?_;refine Zab (cs:=#[.bool a1_0,.slice A1_1 l1_1.length c1_1,.int .i64 a1_2]) ?_ 0 _ rfl;refine bq ?_ qr;refine bq ?_ qr;refine bq ?_ qr;exact bp BK7z.o) hb);replace qe:=am (Za (g:=qh) (o:=.cells #[.bool false,.slice none 0 0,.int .i64 0] 106 (0,0)) (by refine bq ?_ qu;refine bq ?_ qu;refine bq ?_ qu;refine bq ?_ qs;refine bq ?_ qs;refine bq ?_ qs;exact bp qe.o) hb);replace HB:=bS hb;obtain ⟨jo,jp,jq,j0,j1,j2⟩:=cEc BK7z.o;obtain ⟨jr,js,jt,j3,j4,j5⟩:=cEc BK2z.o)|(refine gL (some 61) Tryz.func141 #[.slice qj qb.length qg,.slice qn qf.length qk] (h:=?_);(with_reducible refine (Zeb.calls k _ _ qb _ _ qf jb jm _ ?side1 ?side2 ?side3 ?side4 A38.o).mono ?_);(case side1=>refine (Kd.Zai (e:=85) (base:=w.heap.size) (ok:=fun k_=>(k_ ≠ gb0z/\(k_ ≠ gb5z/\k_ ≠ qh))) (n:=qb.length) (c:=qg) ?_).2.2;exact (Kd.Zam (Kd.Zr (Kd.Zr (Kd.Zav (p:=⟨gb5z,2,none⟩) (Kd.Zav (p:=⟨gb5z,1,none⟩) (Kd.Zav (p:=⟨gb5z,0,none⟩) (Kd.Zav (p:=⟨gb0z,2,none⟩) (Kd.Zav (p:=⟨gb0z,1,none⟩) (Kd.Zav (p:=⟨gb0z,0,none⟩) (Kd.Zr (Kd.Zr qm.o (fun k_ hk=>(⟨hk,hk.1⟩:_/\k_ ≠ gb0z))) (fun k_ hk=>(⟨hk,hk.1.2.1⟩:_/\k_ ≠ gb5z))) (fun _ hk=>hk.1.2) (.bool qa)) (fun _ hk=>hk.1.2) (.slice qj qb.length qg)) (fun _ hk=>hk.1.2) (.int .i64 qo)) (fun _ hk=>hk.2) (.bool qd)) (fun _ hk=>hk.2) (.slice qn qf.length qk)) (fun _ hk=>hk.2) (.int .i64 qp)) (fun _ h_=>h_.1)) (fun _ h_=>h_.1)) pl));(case side2=>exact (Kd.Zai qm.o).2.1);(case side3=>refine (Kd.Zai (e:=85) (base:=w.heap.size) (ok:=fun k_=>(k_ ≠ gb0z/\(k_ ≠ gb5z/\k_ ≠ qh))) (n:=qf.length) (c:=qk) ?_).2.2;exact (Kd.Zam (Kd.Zr (Kd.Zr (Kd.Zav (p:=⟨gb5z,2,none⟩) (Kd.Zav (p:=⟨gb5z,1,none⟩) (Kd.Zav (p:=⟨gb5z,0,none⟩) (Kd.Zav (p:=⟨gb0z,2,none⟩) (Kd.Zav (p:=⟨gb0z,1,none⟩) (Kd.Zav (p:=⟨gb0z,0,none⟩) (Kd.Zr (Kd.Zr ql.o (fun k_ hk=>(⟨hk,hk.1⟩:_/\k_ ≠ gb0z))) (fun k_ hk=>(⟨hk,hk.1.2.1⟩:_/\k_ ≠ gb5z))) (fun _ hk=>hk.1.2) (.bool qa)) (fun _ hk=>hk.1.2) (.slice qj qb.length qg)) (fun _ hk=>hk.1.2) (.int .i64 qo)) (fun _ hk=>hk.2) (.bool qd)) (fun _ hk=>hk.2) (.slice qn qf.length qk)) (fun _ hk=>hk.2) (.int .i64 qp)) (fun _ h_=>h_.1)) (fun _ h_=>h_.1)) pl));(case side4=>exact (Kd.Zai ql.o).2.1);rintro e qam ⟨qal,rfl,ho48z,hb⟩;refine ⟨_,rfl,?_⟩;replace ql:=am (Kd.Zbn (Kd.Zam (Kd.Zr (Kd.Zr (Kd.Zav (p:=⟨gb5z,2,none⟩) (Kd.Zav (p:=⟨gb5z,1,none⟩) (Kd.Zav (p:=⟨gb5z,0,none⟩) (Kd.Zav (p:=⟨gb0z,2,none⟩) (Kd.Zav (p:=⟨gb0z,1,none⟩) (Kd.Zav (p:=⟨gb0z,0,none⟩) (Kd.Zr (Kd.Zr ql.o (fun k_ hk=>(⟨hk,hk.1⟩:_/\k_ ≠ gb0z))) (fun k_ hk=>(⟨hk,hk.1.2.1⟩:_/\k_ ≠ gb5z))) (fun _ hk=>hk.1.2) (.bool qa)) (fun _ hk=>hk.1.2) (.slice qj qb.length qg)) (fun _ hk=>hk.1.2) (.int .i64 qo)) (fun _ hk=>hk.2) (.bool qd)) (fun _ hk=>hk.2) (.slice qn qf.length qk)) (fun _ hk=>hk.2) (.int .i64 qp)) (fun _ h_=>h_.1)) (fun _ h_=>h_.1)) pl) (Kd.Zbh ho48z) hb);replace qm:=am (Kd.Zbn (Kd.Zam (Kd.Zr (Kd.Zr (Kd.Zav (p:=⟨gb5z,2,none⟩) (Kd.Zav (p:=⟨gb5z,1,none⟩) (Kd.Zav (p:=⟨gb5z,0,none⟩) (Kd.Zav (p:=⟨gb0z,2,none⟩) (Kd.Zav (p:=⟨gb0z,1,none⟩) (Kd.Zav (p:=⟨gb0z,0,none⟩) (Kd.Zr (Kd.Zr qm.o (fun k_ hk=>(⟨hk,hk.1⟩:_/\k_ ≠ gb0z))) (fun k_ hk=>(⟨hk,hk.1.2.1⟩:_/\k_ ≠ gb5z))) (fun _ hk=>hk.1.2) (.bool qa)) (fun _ hk=>hk.1.2) (.slice qj qb.length qg)) (fun _ hk=>hk.1.2) (.int .i64 qo)) (fun _ hk=>hk.2) (.bool qd)) (fun _ hk=>hk.2) (.slice qn qf.length qk)) (fun _ hk=>hk.2) (.int .i64 qp)) (fun _ h_=>h_.1)) (fun _ h_=>h_.1)) pl) (Kd.Zbh ho48z) hb);have qt:=am (Kd.Zt ho48z (Zb pB));replace BK2z:=am (Za (g:=gb0z) (o:=.cells #[.bool qa,.slice qj qb.length qg,.int .i64 qo] 106 (0,0)) (by refine bq ?_ qq;refine bq ?_ qq;refine bq ?_ qq;exact p3 BK2z) hb);replace BK7z:=am (Za (g:=gb5z) (o:=.cells #[.bool qd,.slice qn qf.length qk,.int .i64 qp] 106 (0,0)) (by refine bp ?_;refine Zab (cs:=#[.bool qd,.slice qn qf.length qk,.int .i64 qo]) ?_ 2 _ rfl;refine bp ?_;refine Zab (cs:=#[.bool qd,.slice qj qb.length qg,.int .i64 qo]) ?_ 1 _ rfl;refine bp ?_;refine Zab (cs:=#[.bool qa,.slice qj qb.length qg,.int .i64 qo]) ?_ 0 _ rfl;refine bq ?_ qr;refine bq ?_ qr;refine bq ?_ qr;exact bp BK7z.o) hb);replace qe:=am (Za (g:=qh) (o:=.cells #[.bool false,.slice none 0 0,.int .i64 0] 106 (0,0)) (by refine bq ?_ qu;refine bq ?_ qu;refine bq ?_ qu;refine bq ?_ qs;refine bq ?_ qs;refine bq ?_ qs;exact bp qe.o) hb);replace HB:=bS hb;obtain ⟨q3,q4,jg⟩:=Kd.Zm qt.o;subst jg)|(refine gL (some 64) Tryz.func105 #[.slice q3 jb.length q4,.int .i64 jm] (h:=?_);(with_reducible refine (Zbw.calls (fun k_=>some k_=(.slice q3 jb.length q4:Value).ownBlock) (.slice q3 jb.length q4) jb jm q1 w _ ?side1 ?side2 A39.o).mono ?_);(case side1=>exact pB);(case side2=>exact Kd.Zbc rfl qt.o);rintro e qan ⟨jd,rfl,ho48z,hb,hkp⟩;refine ⟨_,rfl,?_⟩;have q6:=am (Kd.Zi (ok':=fun k_=>True) ho48z (fun k_ hk_=>trivial));replace BK2z:=am (Zan (Za BK2z.o pl) hkp (fun e_=>Kd.R_ne qt.o BK2z.o (by decide) e_));replace BK7z:=am (Zan (Za BK7z.o pl) hkp (fun e_=>Kd.R_ne qt.o BK7z.o (by decide) e_));replace qe:=am (Zan (Za qe.o pl) hkp (fun e_=>Kd.R_ne qt.o qe.o (by decide) e_));replace ql:=am (Kd.Zr (ok':=fun k_=>k_ ≠ gb0z/\k_ ≠ gb5z/\k_ ≠ qh/\some k_ ≠ (jd:Value).ownBlock) (Kd.Zdf (ql.o) hkp (fun k_ hk_ hs_=>(hk_.2) hs_)) (fun k_ hk_=>⟨hk_.1.1.1,hk_.1.1.2.1,hk_.1.1.2.2,fun e_=>Or.elim (ho48z.1 k_ e_.symm) (fun hs_=>hk_.2.1 hs_) (fun hn_=>Nat.not_le.2 hk_.2.2 hn_)⟩));replace qm:=am (Kd.Zr (ok':=fun k_=>k_ ≠ gb0z/\k_ ≠ gb5z/\k_ ≠ qh/\some k_ ≠ (jd:Value).ownBlock) (Kd.Zdf (qm.o) hkp (fun k_ hk_ hs_=>(hk_.2) hs_)) (fun k_ hk_=>⟨hk_.1.1.1,hk_.1.1.2.1,hk_.1.1.2.2,fun e_=>Or.elim (ho48z.1 k_ e_.symm) (fun hs_=>hk_.2.1 hs_) (fun hn_=>Nat.not_le.2 hk_.2.2 hn_)⟩));replace HB:=am hb;clear qt;obtain ⟨qv,qw,jh⟩:=Kd.Zm q6.o;subst jh;obtain ⟨ju,jv,jw,j6,j7,j8⟩:=cEc BK2z.o;obtain ⟨jx,jy,jz,j9,qaa,qab⟩:=cEc qe.o)|((have q_:=A71;clear q_);refine gL (some 48) Tryz.func90 #[.slice qn qf.length qk,.slice qj qb.length qg] (h:=?_);(with_reducible refine (Zdc.calls k _ _ qf _ _ qb qaf qag _ ?side1 ?side2 ?side3 ?side4 A36.o).mono ?_);(case side1=>refine (Kd.Zai (e:=85) (base:=w.heap.size) (ok:=fun k_=>(k_ ≠ gb0z/\(k_ ≠ gb5z/\k_ ≠ qh))) (n:=qf.length) (c:=qk) ?_).2.2;exact (Kd.Zam (Kd.Zr (Kd.Zr (Kd.Zav (p:=⟨gb5z,2,none⟩) (Kd.Zav (p:=⟨gb5z,1,none⟩) (Kd.Zav (p:=⟨gb5z,0,none⟩) (Kd.Zav (p:=⟨gb0z,2,none⟩) (Kd.Zav (p:=⟨gb0z,1,none⟩) (Kd.Zav (p:=⟨gb0z,0,none⟩) (Kd.Zr (Kd.Zr ql.o (fun k_ hk=>(⟨hk,hk.1⟩:_/\k_ ≠ gb0z))) (fun k_ hk=>(⟨hk,hk.1.2.1⟩:_/\k_ ≠ gb5z))) (fun _ hk=>hk.1.2) (.bool qd)) (fun _ hk=>hk.1.2) (.slice qn qf.length qk)) (fun _ hk=>hk.1.2) (.int .i64 qp)) (fun _ hk=>hk.2) (.bool qa)) (fun _ hk=>hk.2) (.slice qj qb.length qg)) (fun _ hk=>hk.2) (.int .i64 qo)) (fun _ h_=>h_.1)) (fun _ h_=>h_.1)) pl));(case side2=>exact (Kd.Zai ql.o).2.1);(case side3=>refine (Kd.Zai (e:=85) (base:=w.heap.size) (ok:=fun k_=>(k_ ≠ gb0z/\(k_ ≠ gb5z/\k_ ≠ qh))) (n:=qb.length) (c:=qg) ?_).2.2;exact (Kd.Zam (Kd.Zr (Kd.Zr (Kd.Zav (p:=⟨gb5z,2,none⟩) (Kd.Zav (p:=⟨gb5z,1,none⟩) (Kd.Zav (p:=⟨gb5z,0,none⟩) (Kd.Zav (p:=⟨gb0z,2,none⟩) (Kd.Zav (p:=⟨gb0z,1,none⟩) (Kd.Zav (p:=⟨gb0z,0,none⟩) (Kd.Zr (Kd.Zr qm.o (fun k_ hk=>(⟨hk,hk.1⟩:_/\k_ ≠ gb0z))) (fun k_ hk=>(⟨hk,hk.1.2.1⟩:_/\k_ ≠ gb5z))) (fun _ hk=>hk.1.2) (.bool qd)) (fun _ hk=>hk.1.2) (.slice qn qf.length qk)) (fun _ hk=>hk.1.2) (.int .i64 qp)) (fun _ hk=>hk.2) (.bool qa)) (fun _ hk=>hk.2) (.slice qj qb.length qg)) (fun _ hk=>hk.2) (.int .i64 qo)) (fun _ h_=>h_.1)) (fun _ h_=>h_.1)) pl));(case side4=>exact (Kd.Zai qm.o).2.1);rintro e qai ⟨rfl,hb⟩;refine ⟨_,rfl,?_⟩;replace ql:=am (Kd.Zam (Kd.Zam (Kd.Zr (Kd.Zr (Kd.Zav (p:=⟨gb5z,2,none⟩) (Kd.Zav (p:=⟨gb5z,1,none⟩) (Kd.Zav (p:=⟨gb5z,0,none⟩) (Kd.Zav (p:=⟨gb0z,2,none⟩) (Kd.Zav (p:=⟨gb0z,1,none⟩) (Kd.Zav (p:=⟨gb0z,0,none⟩) (Kd.Zr (Kd.Zr ql.o (fun k_ hk=>(⟨hk,hk.1⟩:_/\k_ ≠ gb0z))) (fun k_ hk=>(⟨hk,hk.1.2.1⟩:_/\k_ ≠ gb5z))) (fun _ hk=>hk.1.2) (.bool qd)) (fun _ hk=>hk.1.2) (.slice qn qf.length qk)) (fun _ hk=>hk.1.2) (.int .i64 qp)) (fun _ hk=>hk.2) (.bool qa)) (fun _ hk=>hk.2) (.slice qj qb.length qg)) (fun _ hk=>hk.2) (.int .i64 qo)) (fun _ h_=>h_.1)) (fun _ h_=>h_.1)) pl) hb);replace qm:=am (Kd.Zam (Kd.Zam (Kd.Zr (Kd.Zr (Kd.Zav (p:=⟨gb5z,2,none⟩) (Kd.Zav (p:=⟨gb5z,1,none⟩) (Kd.Zav (p:=⟨gb5z,0,none⟩) (Kd.Zav (p:=⟨gb0z,2,none⟩) (Kd.Zav (p:=⟨gb0z,1,none⟩) (Kd.Zav (p:=⟨gb0z,0,none⟩) (Kd.Zr (Kd.Zr qm.o (fun k_ hk=>(⟨hk,hk.1⟩:_/\k_ ≠ gb0z))) (fun k_ hk=>(⟨hk,hk.1.2.1⟩:_/\k_ ≠ gb5z))) (fun _ hk=>hk.1.2) (.bool qd)) (fun _ hk=>hk.1.2) (.slice qn qf.length qk)) (fun _ hk=>hk.1.2) (.int .i64 qp)) (fun _ hk=>hk.2) (.bool qa)) (fun _ hk=>hk.2) (.slice qj qb.length qg)) (fun _ hk=>hk.2) (.int .i64 qo)) (fun _ h_=>h_.1)) (fun _ h_=>h_.1)) pl) hb);replace BK2z:=am (Za (g:=gb0z) (o:=.cells #[.bool qd,.slice qn qf.length qk,.int .i64 qp] 106 (0,0)) (by refine bq ?_ qq;refine bq ?_ qq;refine bq ?_ qq;exact p3 BK2z) hb);replace BK7z:=am (Za (g:=gb5z) (o:=.cells #[.bool qa,.slice qj qb.length qg,.int .i64 qo] 106 (0,0)) (by refine bp ?_;refine Zab (cs:=#[.bool qa,.slice qj qb.length qg,.int .i64 a1_2]) ?_ 2 _ rfl;refine bp ?_;refine Zab (cs:=#[.bool qa,.slice A1_1 l1_1.length c1_1,.int .i64 a1_2]) ?_ 1 _ rfl;refine bp ?_;refine Zab (cs:=#[.bool a1_0,.slice A1_1 l1_1.length c1_1,.int .i64 a1_2]) ?_ 0 _ rfl;refine bq ?_ qr;refine bq ?_ qr;refine bq ?_ qr;exact bp BK7z.o) hb);replace qe:=am (Za (g:=qh) (o:=.cells #[.bool false,.slice none 0 0,.int .i64 0] 106 (0,0)) (by refine bq ?_ qu;refine bq ?_ qu;refine bq ?_ qu;refine bq ?_ qs;refine bq ?_ qs;refine bq ?_ qs;exact bp qe.o) hb);replace HB:=bS hb;obtain ⟨jo,jp,jq,j0,j1,j2⟩:=cEc BK2z.o;obtain ⟨jr,js,jt,j3,j4,j5⟩:=cEc BK7z.o)|(refine gL (some 61) Tryz.func141 #[.slice qn qf.length qk,.slice qj qb.length qg] (h:=?_);(with_reducible refine (Zeb.calls k _ _ qf _ _ qb jc jn _ ?side1 ?side2 ?side3 ?side4 A70.o).mono ?_);(case side1=>exact Kd.Zv (Kd.Zai ql.o).2.2 pl);(case side2=>exact (Kd.Zai ql.o).2.1);(case side3=>exact Kd.Zv (Kd.Zai qm.o).2.2 pl);(case side4=>exact (Kd.Zai qm.o).2.1);rintro e qam ⟨qal,rfl,ho48z,hb⟩;refine ⟨_,rfl,?_⟩;replace ql:=am (Kd.Zbn (Kd.Zam ql.o pl) (Kd.Zbh ho48z) hb);replace qm:=am (Kd.Zbn (Kd.Zam qm.o pl) (Kd.Zbh ho48z) hb);have qt:=am (Kd.Zt ho48z (Zb pB));replace BK2z:=bb BK2z hb;replace BK7z:=bb BK7z hb;replace qe:=bb qe hb;replace HB:=bS hb;obtain ⟨q3,q4,jg⟩:=Kd.Zm qt.o;subst jg)|(refine gL (some 64) Tryz.func105 #[.slice q3 jc.length q4,.int .i64 jn] (h:=?_);(with_reducible refine (Zbw.calls (fun k_=>some k_=(.slice q3 jc.length q4:Value).ownBlock) (.slice q3 jc.length q4) jc jn q2 w _ ?side1 ?side2 A71.o).mono ?_);(case side1=>exact pB);(case side2=>exact Kd.Zbc rfl qt.o);rintro e qan ⟨jd,rfl,ho48z,hb,hkp⟩;refine ⟨_,rfl,?_⟩;have q6:=am (Kd.Zi (ok':=fun k_=>True) ho48z (fun k_ hk_=>trivial));replace BK2z:=am (Zan (Za BK2z.o pl) hkp (fun e_=>Kd.R_ne qt.o BK2z.o (by decide) e_));replace BK7z:=am (Zan (Za BK7z.o pl) hkp (fun e_=>Kd.R_ne qt.o BK7z.o (by decide) e_));replace qe:=am (Zan (Za qe.o pl) hkp (fun e_=>Kd.R_ne qt.o qe.o (by decide) e_));replace ql:=am (Kd.Zr (ok':=fun k_=>k_ ≠ gb0z/\k_ ≠ gb5z/\k_ ≠ qh/\some k_ ≠ (jd:Value).ownBlock) (Kd.Zdf (ql.o) hkp (fun k_ hk_ hs_=>(hk_.2) hs_)) (fun k_ hk_=>⟨hk_.1.1.1,hk_.1.1.2.1,hk_.1.1.2.2,fun e_=>Or.elim (ho48z.1 k_ e_.symm) (fun hs_=>hk_.2.1 hs_) (fun hn_=>Nat.not_le.2 hk_.2.2 hn_)⟩));replace qm:=am (Kd.Zr (ok':=fun k_=>k_ ≠ gb0z/\k_ ≠ gb5z/\k_ ≠ qh/\some k_ ≠ (jd:Value).ownBlock) (Kd.Zdf (qm.o) hkp (fun k_ hk_ hs_=>(hk_.2) hs_)) (fun k_ hk_=>⟨hk_.1.1.1,hk_.1.1.2.1,hk_.1.1.2.2,fun e_=>Or.elim (ho48z.1 k_ e_.symm) (fun hs_=>hk_.2.1 hs_) (fun hn_=>Nat.not_le.2 hk_.2.2 hn_)⟩));replace HB:=am hb;clear qt;obtain ⟨qv,qw,jh⟩:=Kd.Zm q6.o;subst jh;obtain ⟨ju,jv,jw,j6,j7,j8⟩:=cEc BK2z.o;obtain ⟨jx,jy,jz,j9,qaa,qab⟩:=cEc qe.o)|(refine gL (some 34) Tryz.func75 #[.slice qn qf.length qk,.slice qj qb.length qg] (h:=?_);(with_reducible refine (Zfd.calls k _ _ qf _ _ qb ja jl _ ?side1 ?side2 ?side3 ?side4 A7.o).mono ?_);(case side1=>refine (Kd.Zai (e:=85) (base:=w.heap.size) (ok:=fun k_=>(k_ ≠ gb0z/\(k_ ≠ gb5z/\k_ ≠ qh))) (n:=qf.length) (c:=qk) ?_).2.2;exact (Kd.Zam (Kd.Zr (Kd.Zr (Kd.Zav (p:=⟨gb5z,2,none⟩) (Kd.Zav (p:=⟨gb5z,1,none⟩) (Kd.Zav (p:=⟨gb5z,0,none⟩) (Kd.Zav (p:=⟨gb0z,2,none⟩) (Kd.Zav (p:=⟨gb0z,1,none⟩) (Kd.Zav (p:=⟨gb0z,0,none⟩) (Kd.Zr (Kd.Zr ql.o (fun k_ hk=>(⟨hk,hk.1⟩:_/\k_ ≠ gb0z))) (fun k_ hk=>(⟨hk,hk.1.2.1⟩:_/\k_ ≠ gb5z))) (fun _ hk=>hk.1.2) (.bool qd)) (fun _ hk=>hk.1.2) (.slice qn qf.length qk)) (fun _ hk=>hk.1.2) (.int .i64 qp)) (fun _ hk=>hk.2) (.bool qa)) (fun _ hk=>hk.2) (.slice qj qb.length qg)) (fun _ hk=>hk.2) (.int .i64 qo)) (fun _ h_=>h_.1)) (fun _ h_=>h_.1)) pl));(case side2=>exact (Kd.Zai ql.o).2.1);(case side3=>refine (Kd.Zai (e:=85) (base:=w.heap.size) (ok:=fun k_=>(k_ ≠ gb0z/\(k_ ≠ gb5z/\k_ ≠ qh))) (n:=qb.length) (c:=qg) ?_).2.2;exact (Kd.Zam (Kd.Zr (Kd.Zr (Kd.Zav (p:=⟨gb5z,2,none⟩) (Kd.Zav (p:=⟨gb5z,1,none⟩) (Kd.Zav (p:=⟨gb5z,0,none⟩) (Kd.Zav (p:=⟨gb0z,2,none⟩) (Kd.Zav (p:=⟨gb0z,1,none⟩) (Kd.Zav (p:=⟨gb0z,0,none⟩) (Kd.Zr (Kd.Zr qm.o (fun k_ hk=>(⟨hk,hk.1⟩:_/\k_ ≠ gb0z))) (fun k_ hk=>(⟨hk,hk.1.2.1⟩:_/\k_ ≠ gb5z))) (fun _ hk=>hk.1.2) (.bool qd)) (fun _ hk=>hk.1.2) (.slice qn qf.length qk)) (fun _ hk=>hk.1.2) (.int .i64 qp)) (fun _ hk=>hk.2) (.bool qa)) (fun _ hk=>hk.2) (.slice qj qb.length qg)) (fun _ hk=>hk.2) (.int .i64 qo)) (fun _ h_=>h_.1)) (fun _ h_=>h_.1)) pl));(case side4=>exact (Kd.Zai qm.o).2.1);rintro e qai ⟨qav,rfl,ho48z,hb⟩;refine ⟨_,rfl,?_⟩;replace ql:=am (Kd.Zbn (Kd.Zam (Kd.Zr (Kd.Zr (Kd.Zav (p:=⟨gb5z,2,none⟩) (Kd.Zav (p:=⟨gb5z,1,none⟩) (Kd.Zav (p:=⟨gb5z,0,none⟩) (Kd.Zav (p:=⟨gb0z,2,none⟩) (Kd.Zav (p:=⟨gb0z,1,none⟩) (Kd.Zav (p:=⟨gb0z,0,none⟩) (Kd.Zr (Kd.Zr ql.o (fun k_ hk=>(⟨hk,hk.1⟩:_/\k_ ≠ gb0z))) (fun k_ hk=>(⟨hk,hk.1.2.1⟩:_/\k_ ≠ gb5z))) (fun _ hk=>hk.1.2) (.bool qd)) (fun _ hk=>hk.1.2) (.slice qn qf.length qk)) (fun _ hk=>hk.1.2) (.int .i64 qp)) (fun _ hk=>hk.2) (.bool qa)) (fun _ hk=>hk.2) (.slice qj qb.length qg)) (fun _ hk=>hk.2) (.int .i64 qo)) (fun _ h_=>h_.1)) (fun _ h_=>h_.1)) pl) (Kd.Zbh ho48z) hb);replace qm:=am (Kd.Zbn (Kd.Zam (Kd.Zr (Kd.Zr (Kd.Zav (p:=⟨gb5z,2,none⟩) (Kd.Zav (p:=⟨gb5z,1,none⟩) (Kd.Zav (p:=⟨gb5z,0,none⟩) (Kd.Zav (p:=⟨gb0z,2,none⟩) (Kd.Zav (p:=⟨gb0z,1,none⟩) (Kd.Zav (p:=⟨gb0z,0,none⟩) (Kd.Zr (Kd.Zr qm.o (fun k_ hk=>(⟨hk,hk.1⟩:_/\k_ ≠ gb0z))) (fun k_ hk=>(⟨hk,hk.1.2.1⟩:_/\k_ ≠ gb5z))) (fun _ hk=>hk.1.2) (.bool qd)) (fun _ hk=>hk.1.2) (.slice qn qf.length qk)) (fun _ hk=>hk.1.2) (.int .i64 qp)) (fun _ hk=>hk.2) (.bool qa)) (fun _ hk=>hk.2) (.slice qj qb.length qg)) (fun _ hk=>hk.2) (.int .i64 qo)) (fun _ h_=>h_.1)) (fun _ h_=>h_.1)) pl) (Kd.Zbh ho48z) hb);have q5:=am (Kd.Zt ho48z (Zb pB));replace BK2z:=am (Za (g:=gb0z) (o:=.cells #[.bool qd,.slice qn qf.length qk,.int .i64 qp] 106 (0,0)) (by refine bq ?_ qq;refine bq ?_ qq;refine bq ?_ qq;exact p3 BK2z) hb);replace BK7z:=am (Za (g:=gb5z) (o:=.cells #[.bool qa,.slice qj qb.length qg,.int .i64 qo] 106 (0,0)) (by refine bp ?_;refine Zab (cs:=#[.bool qa,.slice qj qb.length qg,.int .i64 a1_2]) ?_ 2 _ rfl;refine bp ?_;refine Zab (cs:=#[.bool qa,.slice A1_1 l1_1.length c1_1,.int .i64 a1_2]) ?_ 1 _ rfl;refine bp ?_;refine Zab (cs:=#[.bool a1_0,.slice A1_1 l1_1.length c1_1,.int .i64 a1_2]) ?_ 0 _ rfl;refine bq ?_ qr;refine bq ?_ qr;refine bq ?_ qr;exact bp BK7z.o) hb);replace qe:=am (Za (g:=qh) (o:=.cells #[.bool false,.slice none 0 0,.int .i64 0] 106 (0,0)) (by refine bq ?_ qu;refine bq ?_ qu;refine bq ?_ qu;refine bq ?_ qs;refine bq ?_ qs;refine bq ?_ qs;exact bp qe.o) hb);replace HB:=bS hb;obtain ⟨je,jf,qaj⟩:=Kd.Zm q5.o;subst qaj)|(refine gL (some 37) Tryz.func105 #[.slice je ja.length jf,.int .i64 jl] (h:=?_);(with_reducible refine (Zbw.calls (fun k_=>some k_=(.slice je ja.length jf:Value).ownBlock) (.slice je ja.length jf) ja jl q0 w _ ?side1 ?side2 A8.o).mono ?_);(case side1=>exact pB);(case side2=>exact Kd.Zbc rfl q5.o);rintro e qaw ⟨qah,rfl,ho48z,hb,hkp⟩;refine ⟨_,rfl,?_⟩;have jk:=am (Kd.Zi (ok':=fun k_=>True) ho48z (fun k_ hk_=>trivial));replace BK2z:=am (Zan (Za BK2z.o pl) hkp (fun e_=>Kd.R_ne q5.o BK2z.o (by decide) e_));replace BK7z:=am (Zan (Za BK7z.o pl) hkp (fun e_=>Kd.R_ne q5.o BK7z.o (by decide) e_));replace qe:=am (Zan (Za qe.o pl) hkp (fun e_=>Kd.R_ne q5.o qe.o (by decide) e_));replace ql:=am (Kd.Zr (ok':=fun k_=>k_ ≠ gb0z/\k_ ≠ gb5z/\k_ ≠ qh/\some k_ ≠ (qah:Value).ownBlock) (Kd.Zdf (ql.o) hkp (fun k_ hk_ hs_=>(hk_.2) hs_)) (fun k_ hk_=>⟨hk_.1.1.1,hk_.1.1.2.1,hk_.1.1.2.2,fun e_=>Or.elim (ho48z.1 k_ e_.symm) (fun hs_=>hk_.2.1 hs_) (fun hn_=>Nat.not_le.2 hk_.2.2 hn_)⟩));replace qm:=am (Kd.Zr (ok':=fun k_=>k_ ≠ gb0z/\k_ ≠ gb5z/\k_ ≠ qh/\some k_ ≠ (qah:Value).ownBlock) (Kd.Zdf (qm.o) hkp (fun k_ hk_ hs_=>(hk_.2) hs_)) (fun k_ hk_=>⟨hk_.1.1.1,hk_.1.1.2.1,hk_.1.1.2.2,fun e_=>Or.elim (ho48z.1 k_ e_.symm) (fun hs_=>hk_.2.1 hs_) (fun hn_=>Nat.not_le.2 hk_.2.2 hn_)⟩));replace HB:=am hb;clear q5;obtain ⟨q8,q9,qak⟩:=Kd.Zm jk.o;subst qak;obtain ⟨_,_,_,_,_,_⟩:=cEc BK2z.o;obtain ⟨_,_,_,_,_,_⟩:=cEc qe.o))
 first
  | have q_:=A39
    refine bodyPost_ret (results_cell_row rfl _ _ qh 106 #[.bool qa,.slice qv q1.length qw,.int .i64 qo] (0,0) _ rfl (by refine bp ?_;refine Zab (cs:=#[.bool qa,.slice qv q1.length qw,.int .i64 0]) ?_ 2 _ rfl;refine bp ?_;refine Zab (cs:=#[.bool qa,.slice none 0 0,.int .i64 0]) ?_ 1 _ rfl;refine bp ?_;refine Zab (cs:=#[.bool false,.slice none 0 0,.int .i64 0]) ?_ 0 _ rfl;refine bq ?_ qs;exact bp qe.o) Tryz.underlying106 rfl (by kernel_rfl)) rfl ?_
    exact ⟨_,by first|rfl|(simp [Za6,Za7] <;> rfl)|(simp only [<- hji3];first|rfl|(simp [Za6,Za7] <;> rfl))|(simp [*,Za6,Za7] <;> rfl),by refine rp ?_;exact Kd.Zi (Kd.Zj (p:=⟨qh,2,none⟩) (Kd.Zj (p:=⟨qh,1,none⟩) (Kd.Zj (p:=⟨qh,0,none⟩) (Kd.Zj (p:=⟨gb0z,1,none⟩) (Kd.Zg (Kd.Zg q6.o BK2z.o (by decide)) qe.o (by decide)) (fun _ hk=>hk.1.2) (.slice qv q1.length qw)) (fun _ hk=>hk.2) (.bool qa)) (fun _ hk=>hk.2) (.slice qv q1.length qw)) (fun _ hk=>hk.2) (.int .i64 qo)) (fun _ hk=>trivial),pB⟩
  | have q_:=A71
    refine bodyPost_ret (results_cell_row rfl _ _ qh 106 #[.bool qd,.slice qv q2.length qw,.int .i64 qp] (0,0) _ rfl (by refine bp ?_;refine Zab (cs:=#[.bool qd,.slice qv q2.length qw,.int .i64 0]) ?_ 2 _ rfl;refine bp ?_;refine Zab (cs:=#[.bool qd,.slice none 0 0,.int .i64 0]) ?_ 1 _ rfl;refine bp ?_;refine Zab (cs:=#[.bool false,.slice none 0 0,.int .i64 0]) ?_ 0 _ rfl;refine bq ?_ qs;exact bp qe.o) Tryz.underlying106 rfl (by kernel_rfl)) rfl ?_
    exact ⟨_,by first|rfl|(simp [Za6,Za7] <;> rfl)|(simp only [<- hji3];first|rfl|(simp [Za6,Za7] <;> rfl))|(simp [*,Za6,Za7] <;> rfl),by refine rp ?_;exact Kd.Zi (Kd.Zj (p:=⟨qh,2,none⟩) (Kd.Zj (p:=⟨qh,1,none⟩) (Kd.Zj (p:=⟨qh,0,none⟩) (Kd.Zj (p:=⟨gb0z,1,none⟩) (Kd.Zg (Kd.Zg q6.o BK2z.o (by decide)) qe.o (by decide)) (fun _ hk=>hk.1.2) (.slice qv q2.length qw)) (fun _ hk=>hk.2) (.bool qd)) (fun _ hk=>hk.2) (.slice qv q2.length qw)) (fun _ hk=>hk.2) (.int .i64 qp)) (fun _ hk=>trivial),pB⟩
  | refine bodyPost_ret (results_cell_row rfl _ _ qh 106 #[.bool qd,.slice q8 q0.length q9,.int .i64 qp] (0,0) _ rfl (by refine bp ?_;refine Zab (cs:=#[.bool qd,.slice q8 q0.length q9,.int .i64 0]) ?_ 2 _ rfl;refine bp ?_;refine Zab (cs:=#[.bool qd,.slice none 0 0,.int .i64 0]) ?_ 1 _ rfl;refine bp ?_;refine Zab (cs:=#[.bool false,.slice none 0 0,.int .i64 0]) ?_ 0 _ rfl;refine bq ?_ qs;exact bp qe.o) Tryz.underlying106 rfl (by kernel_rfl)) rfl ?_
    exact ⟨_,by first|rfl|(simp [Za6,Za7] <;> rfl)|(simp only [<- hji3];first|rfl|(simp [Za6,Za7] <;> rfl))|(simp [*,Za6,Za7] <;> rfl),by refine rp ?_;exact Kd.Zi (Kd.Zj (p:=⟨qh,2,none⟩) (Kd.Zj (p:=⟨qh,1,none⟩) (Kd.Zj (p:=⟨qh,0,none⟩) (Kd.Zj (p:=⟨gb0z,1,none⟩) (Kd.Zg (Kd.Zg jk.o BK2z.o (by decide)) qe.o (by decide)) (fun _ hk=>hk.1.2) (.slice q8 q0.length q9)) (fun _ hk=>hk.2) (.bool qd)) (fun _ hk=>hk.2) (.slice q8 q0.length q9)) (fun _ hk=>hk.2) (.int .i64 qp)) (fun _ hk=>trivial),pB⟩):P:=h
theorem Zu.calls (k:Nat) (a0_0:Bool) (A0_1:Option Addr) (c0_1:Nat) (l0_1:List Int) (a0_2:Int) (a1_0:Bool) (A1_1:Option Addr) (c1_1:Nat) (l1_1:List Int) (a1_2:Int) (r1:Bool) (r2:List Int) (r3:Int) (w:World) (hr0_1:Kd.C (Kd.int .u32) w A0_1 l0_1.length l0_1) (hc0_1:l0_1.length<=c0_1) (hr1_1:Kd.C (Kd.int .u32) w A1_1 l1_1.length l1_1) (hc1_1:l1_1.length<=c1_1) (h:Zu.f k a0_0 l0_1 a0_2 a1_0 l1_1 a1_2=some (r1,r2,r3)) :
  Calls Tryz.prog 101 #[.agg #[.bool a0_0,.slice A0_1 l0_1.length c0_1,.int .i64 a0_2],.agg #[.bool a1_0,.slice A1_1 l1_1.length c1_1,.int .i64 a1_2]] w fun e w' => ∃ v1_:Value,e=.returned (.agg #[.bool r1,v1_,.int .i64 r3])/\Kd.R (Kd.int .u32) 85 w' w.heap.size (fun _=>True) v1_ r2/\Below w.heap.size w w':=by
 have qau:=Tryz.underlying106
 have HR0_1:=am hr0_1
 have HC0_1:=am hc0_1
 clear hr0_1 hc0_1
 have HR1_1:=am hr1_1
 have HC1_1:=am hc1_1
 clear hr1_1 hc1_1
 have HB:=am (Below.refl w.heap.size w)
 have H:((Zz.f k a0_0 l0_1 a0_2 (mn a0_2 a1_2)).bind fun qc=>((Zz.f k a1_0 l1_1 a1_2 (mn a0_2 a1_2)).bind fun qi=>(if (qc.1 == qi.1)=true then ((Zfd.f k qc.2.1 qi.2.1).bind fun qx=>((Zbw.f qx.1 qx.2).bind fun q0=>(some (qc.1,q0,qc.2.2)))) else ((Zdc.f k qc.2.1 qi.2.1).bind fun q7=>(if q7.1 < 0 then ((Zeb.f k qi.2.1 qc.2.1).bind fun qy=>((Zbw.f qy.1 qy.2).bind fun q1=>(some (qi.1,q1,qi.2.2)))) else ((Zeb.f k qc.2.1 qi.2.1).bind fun qz=>((Zbw.f qz.1 qz.2).bind fun q2=>(some (qc.1,q2,qc.2.2)))))))))=some (r1,r2,r3):=h
 clear h
 obtain ⟨ji3,hji3⟩:∃ j_:Int,(mn a0_2 a1_2)=j_:=⟨_,rfl⟩
 replace H:((Zz.f k a0_0 l0_1 a0_2 (ji3)).bind fun qc=>((Zz.f k a1_0 l1_1 a1_2 (ji3)).bind fun qi=>(if (qc.1 == qi.1)=true then ((Zfd.f k qc.2.1 qi.2.1).bind fun qx=>((Zbw.f qx.1 qx.2).bind fun q0=>(some (qc.1,q0,qc.2.2)))) else ((Zdc.f k qc.2.1 qi.2.1).bind fun q7=>(if q7.1 < 0 then ((Zeb.f k qi.2.1 qc.2.1).bind fun qy=>((Zbw.f qy.1 qy.2).bind fun q1=>(some (qi.1,q1,qi.2.2)))) else ((Zeb.f k qc.2.1 qi.2.1).bind fun qz=>((Zbw.f qz.1 qz.2).bind fun q2=>(some (qc.1,q2,qc.2.2)))))))))=some (r1,r2,r3):=by first|(rw [hji3] at H;exact H)|(simp only [hji3] at H ⊢;exact H)
 have hji3_:(if a1_2 < a0_2 then a1_2 else a0_2)=ji3:=hji3
 replace H:=ob H
 obtain ⟨⟨qd,qf,qp⟩,A4,H⟩:=H;(try dsimp only at H)
 replace H:=ob H
 obtain ⟨⟨qa,qb,qo⟩,A5,H⟩:=H;(try dsimp only at H)
 by_cases c6:(qd == qa)=true
 ·rw [if_pos c6] at H
  have c6b0:(qd == qa)=true:=c6
  (try (have c6b1:decide (qd=qa)=true:=by simpa using c6))
  (try (have c6b2:(qd == qa)=true:=by simpa using c6))
  clear c6
  replace H:=ob H
  obtain ⟨⟨ja,jl⟩,A7,H⟩:=H;(try dsimp only at H)
  replace H:=ob H
  obtain ⟨q0,A8,H⟩:=H
  simp only [Option.some.injEq,Prod.mk.injEq] at H
  obtain ⟨rfl,rfl,rfl⟩:=H
  exact Zu.leaf
 ·rw [if_neg c6] at H
  have c6b0:(qd == qa)=false:=by simpa using c6
  (try (have c6b1:decide (qd=qa)=false:=by simpa using c6))
  (try (have c6b2:(qd == qa)=false:=by simpa using c6))
  (try (have c6b3:¬ (qd=qa):=by simpa using c6))
  clear c6
  replace H:=ob H
  obtain ⟨⟨qaf,qag⟩,A36,H⟩:=H;(try dsimp only at H)
  replace H:=dI H
  rcases H with ⟨c37b0,H⟩|⟨c37b0,H⟩
  ·replace H:=ob H
   obtain ⟨⟨jb,jm⟩,A38,H⟩:=H;(try dsimp only at H)
   replace H:=ob H
   obtain ⟨q1,A39,H⟩:=H
   simp only [Option.some.injEq,Prod.mk.injEq] at H
   obtain ⟨rfl,rfl,rfl⟩:=H
   exact Zu.leaf
  ·replace H:=ob H
   obtain ⟨⟨jc,jn⟩,A70,H⟩:=H;(try dsimp only at H)
   replace H:=ob H
   obtain ⟨q2,A71,H⟩:=H
   simp only [Option.some.injEq,Prod.mk.injEq] at H
   obtain ⟨rfl,rfl,rfl⟩:=H
   exact Zu.leaf
def Zdb.f (a0:ByteArray) (a1:Int):Option (ByteArray):=some a0
theorem Zdb.calls (a0:ByteArray) (a1:Int) (r:ByteArray) (w:World) (h:Zdb.f a0 a1=some r) :
  Calls Tryz.prog 111 #[.string a0,.int .i64 a1] w fun e w'=>e=.returned (.string r)/\Drawn0 w w':=by
 have H:(some a0)=some r:=h
 clear h
 obtain rfl:=Option.some.inj H
 go_enter Tryz.func111,Tryz.ntmps111
 go_wp2
 go_ret
 exact ⟨pR,pD⟩
def Zcg.l0:Nat->Int->List Int->Int->Int->Option (Int)
 | 0,_,_,_,_=>none
 | k+1,x3,x7,x8,x9=>if x9 < x8 then (if 0<=x9 then (if x9 < (x7.length:Int) then (Zcg.l0 k ((((x3*10) % 4294967296)+(((rd x7 x9) - 48) % 256)) % 4294967296) x7 x8 (wrap64 (x9+1))) else (none)) else (none)) else (some x3)
def Zcg.f (k:Nat) (a0:ByteArray):Option (Int):=(Zcd.f a0).bind fun qa=>(Zcg.l0 k 0 qa (qa.length:Int) 0)
theorem Zcg.calls (k:Nat) (a0:ByteArray) (r:Int) (w:World) (h:Zcg.f k a0=some r) :
  Calls Tryz.prog 152 #[.string a0] w fun e w'=>e=.returned (.int .u32 r)/\Below w.heap.size w w':=by
 have HB:=am (Below.refl w.heap.size w)
 have H:((Zcd.f a0).bind fun qa=>(Zcg.l0 k 0 qa (qa.length:Int) 0))=some r:=h
 clear h
 replace H:=ob H
 obtain ⟨qa,A2,H⟩:=H
 have H':=am H
 clear H
 go_enter Tryz.func152,Tryz.ntmps152
 go_wp2_with (first|((with_reducible refine gd 7 ?_);refine Zcd.op _ _ _ rfl rfl rfl A2.o ?_;intro qh w3 ho0 hb;have qb:=am (Kd.Zex (Kd.Zr (ok':=fun k_=>True) ho0 (fun k_ hk_=>trivial)) (Zb pB));replace HB:=bS hb;obtain ⟨Ao4,co4,eo4⟩:=Kd.Zdu qb.o;subst eo4))
 go_loopg [3,9] k (fun kq v3 v9 w' => ∃ (x3_1:Int) (x9_1:Int),v3=.int .u32 x3_1/\v9=.int .i64 x9_1/\Aside0 (Zcg.l0 kq x3_1 qa (qa.length:Int) x9_1=some r)/\Aside0 (kq<=k)/\Aside0 (Kd.V (Kd.int .u8) 5 w' w.heap.size (fun _=>True) (.slice Ao4 qa.length co4) qa)/\Aside0 (Below w.heap.size w w'))
 case atStart=>exact ⟨(0),(0),pR,pR,H',⟨Nat.le_refl _⟩,⟨by refine vp ?_;exact qb.o⟩,⟨pB⟩⟩
 case round =>
  clear H'
  obtain ⟨x3_1,x9_1,rfl,rfl,HA,HK1,HO_7,HB⟩:=hrel
  cases gk with
  | zero=>exact absurd HA.out (by simp [Zcg.l0])
  | succ k1 =>
   have H:=HA.out
   clear HA
   simp only [Zcg.l0] at H
   replace H:=dI H
   rcases H with ⟨c5b0,H⟩|⟨c5b0,H⟩
   ·replace H:=dI H
    rcases H with ⟨c6b0,H⟩|⟨_,H⟩
    ·replace H:=dI H
     rcases H with ⟨c7b0,H⟩|⟨_,H⟩
     ·have H':=am H
      clear H
      have qc:0<=(x9_1:Int):=of_decide_eq_true pQ
      have qd:x9_1 < (qa.length:Int):=of_decide_eq_true pQ
      obtain ⟨qg,qf,qe⟩:=Kd.Zbi (Kd.Zai HO_7.o).2.2 x9_1 qc qd
      cases qf
      replace qc:=eq_true qc
      replace qd:=eq_true qd
      go_wp2
      go_roundg k1
      case measure=>exact pM
      case rel=>exact ⟨((((x3_1*10) % 4294967296)+(((rd qa x9_1) - 48) % 256)) % 4294967296),(wrap64 (x9_1+1)),pR,pR,H',pJ,⟨by refine vp ?_;exact HO_7.o⟩,⟨pB⟩⟩
     ·cases H
    ·cases H
   ·obtain rfl:=Option.some.inj H
    go_wp2
    go_ret
    exact ⟨pE,pB⟩
def Zd5.f (a0:Int):Option (Bool):=if a0 < 48 then (some true) else (some (decide (a0 > 57)))
theorem Zd5.calls (a0:Int) (r:Bool) (w:World) (h:Zd5.f a0=some r) :
  Calls Tryz.prog 151 #[.int .u8 a0] w fun e w'=>e=.returned (.bool r)/\Drawn0 w w':=by
 have H:(if a0 < 48 then (some true) else (some (decide (a0 > 57))))=some r:=h
 clear h
 replace H:=dI H
 rcases H with ⟨c2b0,H⟩|⟨c2b0,H⟩
 ·obtain rfl:=Option.some.inj H
  go_enter Tryz.func151,Tryz.ntmps151
  go_wp2
  go_ret
  exact ⟨pR,pD⟩
 ·obtain rfl:=Option.some.inj H
  go_enter Tryz.func151,Tryz.ntmps151
  go_wp2
  go_ret
  exact ⟨pR,pD⟩
end YtjbjkmccfocikaaGreatDoor.B
end
section
namespace YtjbjkmccfocikaaGreatDoor.B
open Go.RowKit YtjbjkmccfocikaaGreatDoorW.PrintWords YtjbjkmccfocikaaGreatDoor.P
def Zb7.f (l:List Int):Option Bool:=anyO (fun x=>Zd5.f x) l
theorem Zb7.index (A0:Option Addr) (c0:Nat) (l0:List Int) (b:Bool) (w:World) (hr0:Kd.C (Kd.int .u8) w A0 l0.length l0) (hc0:l0.length<=c0) (h:Zb7.f l0=some b) :
  Calls Tryz.prog 182 #[.slice A0 l0.length c0,.func (.func 151) #[] #[]] w fun e w'=>IdxR b e/\Below w.heap.size w w':=by
 have hm:l0.length<=9223372036854775807:=Kd.Zrk hr0
 have HR:=Aside0.mk hr0
 have HC:=Aside0.mk hc0
 unfold Zb7.f at h
 have H0:=Aside0.mk h
 obtain ⟨n,hn⟩:∃ n,l0.length=n:=⟨_,rfl⟩
 rw [hn] at hm
 have HN:=Aside0.mk hn
 clear h hr0 hc0
 rw [hn]
 clear hn
 go_enter Tryz.func182,Tryz.ntmps182
 go_wp2
 go_loopw [8] (fun i wr => ∃ k_:Nat,k_<=n/\i=.int .i64 k_/\Aside0 (anyO (fun x=>Zd5.f x) (l0.drop k_)=some b)/\Below w.heap.size w wr) (fun i _=>n - (intOf i).toNat)
 case atStart=>exact ⟨0,Nat.zero_le _,rfl,⟨H0.out⟩,Below.refl _ _⟩
 case round =>
  obtain ⟨q,hq,rfl,HP,hb⟩:=hrel
  by_cases hlt:q < n
  ·have hlt':(q:Int) < (n:Int):=by omega
   have hdrop:l0.drop q=(l0.getD q (0:Int)) :: l0.drop (q+1):=Zlm (by have := HN.out;omega)
   obtain ⟨x,hx⟩:∃ x,l0.getD q (0:Int)=x:=⟨_,rfl⟩
   have h1:=HP.out
   rw [hdrop,hx] at h1
   obtain ⟨t,ht,h2⟩:=Zjo h1
   obtain ⟨ad,c,hA,_,hK,hcc⟩:=Kd.Zmt HR.out (0:Int) (q:Int) (by omega) (by have := HN.out;omega)
   have hx':l0.getD (q:Int).toNat 0=x:=by rw [Int.toNat_natCast];exact hx
   obtain rfl:c=[.int .u8 (l0.getD (q:Int).toNat 0)]:=hK
   rw [hx'] at hcc
   have hcell0:=hcc 0 _ rfl
   obtain ⟨ad',c',hA',_,hK',hcc'⟩:=Kd.Zmt HR.out (0:Int) (0:Int) (by omega) (by have := HN.out;omega)
   obtain rfl:c'=[.int .u8 (l0.getD (0:Int).toNat 0)]:=hK'
   have hfirst:=hcc' 0 _ rfl
   obtain rfl:ad=ad':=Option.some.inj (hA.symm.trans hA')
   subst hA
   obtain ⟨b_,o_,rfl⟩:=Zld (show w.cell? ad=_ from hfirst)
   have hck:wr.cell? ⟨b_,o_+q,none⟩=some (.int .u8 x):=by
    have h3:=Zdd hb hcell0
    rw [Ziz] at h3
    simpa [show (Kd.int .u8).sz=1 from rfl] using h3
   have cF:=fun W:World=>Zd5.calls x t W ht
   have HF:=Aside0.mk h2
   clear h1 hdrop hx hx' ht hcc hcell0 HP h2 hfirst hcc' hA'
   cases t with
   | true =>
    have HF1:=Aside0.mk (HF.out.1 rfl)
    clear HF
    go_wp2_with (go_at_call 151;refine (cF _).mono ?_;rintro e w1 ⟨rfl,hb1⟩)
    go_ret
    exact ⟨Zny HF1.out q,hb.trans (hb1.below.mono hb.size)⟩
   | false =>
    have HF1:=Aside0.mk (HF.out.2 rfl)
    clear HF
    go_wp2_with (go_at_call 151;refine (cF _).mono ?_;rintro e w1 ⟨rfl,hb1⟩)
    go_roundw
    case rel=>exact ⟨q+1,by omega,by go_num,HF1,hb.trans (hb1.below.mono hb.size)⟩
    case measure=>simp [intOf];omega
  ·obtain rfl:q=n:=by omega
   have h1:=HP.out
   rw [List.drop_of_length_le (by have := HN.out;omega)] at h1
   have h2:=Aside0.mk (Zlf h1)
   clear h1
   go_wp2
   go_ret
   exact ⟨Zjy h2.out,hb⟩
theorem Zb7.calls (A0:Option Addr) (c0:Nat) (l0:List Int) (r:Bool) (w:World) (hr0:Kd.C (Kd.int .u8) w A0 l0.length l0) (hc0:l0.length<=c0) (h:Zb7.f l0=some r) :
  Calls Tryz.prog 150 #[.slice A0 l0.length c0,.func (.func 151) #[] #[]] w fun e w'=>e=.returned (.bool r)/\Below w.heap.size w w':=by
 have cI:=Zb7.index A0 c0 l0 r w hr0 hc0 h
 clear h hr0 hc0
 go_enter Tryz.func150,Tryz.ntmps150
 go_wp2_with (go_at_call 182;refine cI.mono ?_;rintro e w1 ⟨⟨i,rfl,hi⟩,hb1⟩)
 go_ret
 exact ⟨by rw [<- hi];first|rfl|simp,hb1⟩
end YtjbjkmccfocikaaGreatDoor.B
end
section
namespace YtjbjkmccfocikaaGreatDoor.B
open Go.RowKit YtjbjkmccfocikaaGreatDoorW.PrintWords YtjbjkmccfocikaaGreatDoorW.PrintLast YtjbjkmccfocikaaGreatDoorW.PrintMore
attribute [local go_sem] Zb3 Zb5 Zcp Zcq Zbs Zbt Zb4 Zb6
def Zbf.l0:Nat->ByteArray->List Int->Option (List Int × Int)
 | 0,_,_=>none
 | k+1,x0,x4=>if x0.toList=([]:List UInt8) then (some (x4,0)) else ((Zak.f k x4 (([1000000000]:List Int))).bind fun qw=>(if 0<=(wrap64 ((Int.tmod (wrap64 ((x0.size:Int) - 1)) 9)+1)) then (if (wrap64 ((Int.tmod (wrap64 ((x0.size:Int) - 1)) 9)+1))<=(x0.size:Int) then ((Zcg.f k (x0.extract 0 ((wrap64 ((Int.tmod (wrap64 ((x0.size:Int) - 1)) 9)+1)):Int).toNat)).bind fun qx=>((Zad.f k (([qx]:List Int))).bind fun qy=>((Zal.f k qw qy).bind fun qz=>(Zbf.l0 k (x0.extract ((wrap64 ((Int.tmod (wrap64 ((x0.size:Int) - 1)) 9)+1)):Int).toNat x0.size) qz)))) else (none)) else (none)))
def Zbf.f (k:Nat) (a0:ByteArray):Option (List Int × Int):=if (a0.size:Int)=0 then (some (([]:List Int),8)) else (if (a0.size:Int) > 2400 then (some (([]:List Int),5)) else ((Zcd.f a0).bind fun qd=>((Zb7.f qd).bind fun ql=>(if ql=true then (some (([]:List Int),32)) else (Zbf.l0 k a0 ([]:List Int))))))
def Zbf.T10:Bool × List (List Nat × List Nat):=(true,[([],[]),([],[]),([0,1],[0,1]),([],[]),([],[]),([3,4],[3,4]),([5,2],[5]),([6],[6]),([7,6],[7]),([2,8,8],[2,8]),([9,9,0,1,2,3,4,5,6,7,8,9],[0,9])])
def Zbf.B10:List Nat:=[0,0,3,0,0,24,63,127,255,511,1023]
theorem Zbf.tab10:rtab .any (opsOf Tryz.f116 10)=Zbf.T10:=by kernel_rfl
theorem Zbf.bits10:waitsOk Zbf.T10.2 Zbf.B10=true:=by kernel_rfl
theorem Zbf.leaf {P:Prop} (h:P:=by
 go_enter Tryz.func116,Tryz.ntmps116
 go_wp2_with (first|((with_reducible refine gd 16 ?_);refine Zcd.op _ _ _ rfl rfl rfl A4.o ?_;intro v0z w1z ho2z hb;have HO3z:=am (Kd.Zex (Kd.Zr (ok':=fun k_=>True) ho2z (fun k_ hk_=>trivial)) (Zb pB));replace HB:=bS hb;obtain ⟨Ao4z,co5z,eo6z⟩:=Kd.Zdu HO3z.o;subst eo6z)|(refine gL (some 17) Tryz.func150 #[.slice Ao4z qd.length co5z,.func (.func 151) #[] #[]] (h:=?_);(with_reducible refine (Zb7.calls _ _ qd true _ ?side1 ?side2 A5.o).mono ?_);(case side1=>exact Kd.Zv (Kd.Zai HO3z.o).2.2 pl);(case side2=>exact (Kd.Zai HO3z.o).2.1);rintro e w7z ⟨rfl,hb⟩;refine ⟨_,rfl,?_⟩;replace HO3z:=vbl HO3z hb;replace HB:=bS hb)|(refine gL (some 17) Tryz.func150 #[.slice Ao4z qd.length co5z,.func (.func 151) #[] #[]] (h:=?_);(with_reducible refine (Zb7.calls _ _ qd false _ ?side1 ?side2 A5.o).mono ?_);(case side1=>exact Kd.Zv (Kd.Zai HO3z.o).2.2 pl);(case side2=>exact (Kd.Zai HO3z.o).2.1);rintro e w7z ⟨rfl,hb⟩;refine ⟨_,rfl,?_⟩;replace HO3z:=vbl HO3z hb;replace HB:=bS hb))
 first
  | have q_:=A5;have q_:Aside0 (_=some false):=A5
    go_loopg [0,4] k (fun kq v8z v9z w' => ∃ (x10z:ByteArray) (x11z:List Int),v8z=.string x10z/\Aside0 (Zbf.l0 kq x10z x11z=some (r1,r2))/\Aside0 (kq<=k)/\Aside0 (Kd.R (Kd.int .u32) 85 w' w.heap.size (fun _=>True) v9z x11z)/\Aside0 (Below w.heap.size w w'))
    case atStart=>exact ⟨(a0),(([]:List Int)),pR,H',⟨Nat.le_refl _⟩,⟨pN⟩,⟨pB⟩⟩
    case round =>
     clear H'
     obtain ⟨x10z,x11z,rfl,HA,HK12z,HO_4,HB⟩:=hrel
     cases gk with
     | zero=>exact absurd HA.out (by simp [Zbf.l0])
     | succ k1 =>
      have H:=HA.out
      clear HA
      simp only [Zbf.l0] at H
      by_cases c13z:x10z.toList=([]:List UInt8)
      ·rw [if_pos c13z] at H
       have c14z:(x10z.toList == ([]:List UInt8))=true:=beq_iff_eq.mpr c13z
       have c15z:(x10z.toList != ([]:List UInt8))=false:=bne_eq_false_iff_eq.mpr c13z
       clear c13z
       simp only [Option.some.injEq,Prod.mk.injEq] at H
       obtain ⟨rfl,rfl⟩:=H
       go_wp2
       go_ret2
       exact ⟨_,pE,by refine rp ?_;exact HO_4.o,pB⟩
      ·rw [if_neg c13z] at H
       have c14z:(x10z.toList == ([]:List UInt8))=false:=beq_eq_false_iff_ne.mpr c13z
       have c15z:(x10z.toList != ([]:List UInt8))=true:=bne_iff_ne.mpr c13z
       obtain ⟨y16z,hy17z⟩:∃ y_:List Int,y_=(([1000000000]:List Int)):=⟨_,rfl⟩
       replace H:((Zak.f k1 x11z y16z).bind fun t18z=>(if 0<=(wrap64 ((Int.tmod (wrap64 ((x10z.size:Int) - 1)) 9)+1)) then (if (wrap64 ((Int.tmod (wrap64 ((x10z.size:Int) - 1)) 9)+1))<=(x10z.size:Int) then ((Zcg.f k1 (x10z.extract 0 ((wrap64 ((Int.tmod (wrap64 ((x10z.size:Int) - 1)) 9)+1)):Int).toNat)).bind fun t19z=>((Zad.f k1 (([t19z]:List Int))).bind fun t20z=>((Zal.f k1 t18z t20z).bind fun t21z=>(Zbf.l0 k1 (x10z.extract ((wrap64 ((Int.tmod (wrap64 ((x10z.size:Int) - 1)) 9)+1)):Int).toNat x10z.size) t21z)))) else (none)) else (none)))=some (r1,r2):=by have hy_:=hy17z;exact pH
       have Ny22z:=am hy17z
       clear hy17z
       replace H:=ob H
       obtain ⟨t18z,A23z,H⟩:=H
       obtain ⟨ji24z,hji25z⟩:∃ j_:Int,(wrap64 ((Int.tmod (wrap64 ((x10z.size:Int) - 1)) 9)+1))=j_:=⟨_,rfl⟩
       replace H:(if 0<=(ji24z) then (if (ji24z)<=(x10z.size:Int) then ((Zcg.f k1 (x10z.extract 0 ((ji24z):Int).toNat)).bind fun t19z=>((Zad.f k1 (([t19z]:List Int))).bind fun t20z=>((Zal.f k1 t18z t20z).bind fun t21z=>(Zbf.l0 k1 (x10z.extract ((ji24z):Int).toNat x10z.size) t21z)))) else (none)) else (none))=some (r1,r2):=by first|(rw [hji25z] at H;exact H)|(simp only [hji25z] at H ⊢;exact H)
       (try rw [hji25z] at A23z)
       have hji26z:(IntKind.i64.wrap ((Int.tmod (wrap64 ((x10z.size:Int) - 1)) 9)+1))=ji24z:=(Zc5 _).trans hji25z
       by_cases c27z:0<=(ji24z)
       ·rw [if_pos c27z] at H
        have c28z:=eq_true c27z
        have c29z:decide (0<=(ji24z))=true:=decide_eq_true c27z
        clear c27z
        by_cases c30z:(ji24z)<=(x10z.size:Int)
        ·rw [if_pos c30z] at H
         have c31z:=eq_true c30z
         have c32z:decide ((ji24z)<=(x10z.size:Int))=true:=decide_eq_true c30z
         clear c30z
         replace H:=ob H
         obtain ⟨t19z,A33z,H⟩:=H
         obtain ⟨y34z,hy35z⟩:∃ y_:List Int,y_=(([t19z]:List Int)):=⟨_,rfl⟩
         replace H:((Zad.f k1 y34z).bind fun t20z=>((Zal.f k1 t18z t20z).bind fun t21z=>(Zbf.l0 k1 (x10z.extract ((ji24z):Int).toNat x10z.size) t21z)))=some (r1,r2):=by have hy_:=hy35z;exact pH
         have Ny36z:=am hy35z
         clear hy35z
         replace H:=ob H
         obtain ⟨t20z,A37z,H⟩:=H
         replace H:=ob H
         obtain ⟨t21z,A38z,H⟩:=H
         have c39z:=eq_true (of_decide_eq_true pQ:0<=(ji24z))
         have c40z:=eq_true (of_decide_eq_true pQ:(ji24z)<=(x10z.size:Int))
         have H':=am H
         clear H
         try go_wp2
         replace HO_4:=am (Kd.Zdz HO_4.o)
         replace HB:=am (Zbe HB.o)
         refine start_ (n:=11) (S:=fun w'=>True) (ds:=[]) #[false,false,false,false,false,false,false,false,false,false,false] (by kernel_rfl) rfl rfl trivial (fun hHeld=>?_);refine Zch Zbf.tab10 Zbf.bits10 (fun HT_ HW_=>?_)
         generalize wr.drew=w41z at HO_4 HB hHeld ⊢
         refine pu 0 (some 25) #[true,false,false,false,false,false,false,false,false,false,false] (h:=?_)
         refine pu 3 (some 28) #[true,false,false,true,false,false,false,false,false,false,false] (h:=?_)
         refine pu 4 (some 29) #[true,false,false,true,true,false,false,false,false,false,false] (h:=?_)
         refine pu 5 (some 30) #[true,false,false,true,true,true,false,false,false,false,false] (h:=?_)
         refine one_ (i:=1) (N:=some 26) #[true,true,false,true,true,true,false,false,false,false,false] rfl rfl (Za8 HT_.out (by kernel_rfl)) (by decide) (fun K hK=>?_)
         refine Kd.Zia (Kd.int .u32) _ 85 ?hg (N:=26) ?hd (xs:=([1000000000]:List Int)) (inner:=[.int .u32 1000000000]) (ok:=fun _=>True) (okp:=fun _=>True) ?hr ?hp (fun _ hk=>hk) trivial (Below.refl _ _) (Nat.le_refl _) (by simp) ?_;(case hd=>rfl);(case hg=>rfl);(case hr=>first|(go_simp;done)|(go_simp;rfl));(case hp=>exact (Reps.one (show Kd.M (Kd.int .u32) _ _ _ 1000000000 [.int .u32 1000000000] from rfl) (Reps.none _ _)))
         intro v42z w43z ho44z hb hg_ hnew_
         clear hg_ hnew_
         (first|rw [<- Ny22z.out] at ho44z|(simp only [Int.reduceToNat] at ho44z;rw [<- Ny22z.out] at ho44z))
         have qa:=am (Kd.Zt (Kd.Zaj ho44z (Kd.R_lt (Kd.Zc HO_4.o pl))) (Zb pB))
         replace HO_4:=reR HO_4 ho44z hb
         replace HB:=bS hb
         clear hb ho44z
         obtain ⟨qe,qg,qm⟩:=Kd.Zm HO_4.o
         (first|subst qm|(injection qm with f1_ f2_ f3_;have f4_:=f1_.symm;have f5_:=f3_.symm;clear f1_ f2_ f3_;subst f4_;subst f5_))
         obtain ⟨qf,qh,qn⟩:=Kd.Zm qa.o
         (first|subst qn|(injection qn with f1_ f2_ f3_;have f4_:=f1_.symm;have f5_:=f3_.symm;clear f1_ f2_ f3_;subst f4_;subst f5_))
         refine hK.out _ _ trivial (fun hHeld=>?_)
         clear hK K
         refine norm_ (a':=?_) ?_ ?_
         rotate_left
         ·show Act.put _ (some 26) _=_
          exact pP
         refine one_ (i:=2) (N:=some 27) #[true,true,true,true,true,true,false,false,false,false,false] rfl rfl (Za8 HT_.out (by kernel_rfl)) (by decide) (fun K hK=>?_)
         refine goes_ Tryz.func129 (by kernel_rfl) rfl #[.slice qe x11z.length qg,.slice qf y16z.length qh] (by rfl) rfl rfl pA ?_
         with_reducible refine (Zak.calls k1 _ _ x11z _ _ y16z t18z _ ?side1 ?side2 ?side3 ?side4 A23z.o).mono ?_
         (case side1=>exact Kd.Zv (Kd.Zf HO_4.o).2.2 pl)
         (case side2=>exact (Kd.Zf HO_4.o).2.1)
         (case side3=>exact Kd.Zv (Kd.Zf qa.o).2.2 pl)
         (case side4=>exact (Kd.Zf qa.o).2.1)
         rintro e w52z ⟨v53z,rfl,ho2z,hb⟩
         refine ⟨_,rfl,?_⟩
         have qb:=am (Kd.Zt (Kd.Zaj (Kd.Zaj ho2z (Kd.R_lt (Kd.Zc HO_4.o pl))) (Kd.R_lt (Kd.Zc qa.o pl))) (Zb pB))
         replace HO_4:=reR HO_4 ho2z hb
         replace qa:=reR qa ho2z hb
         replace HB:=bS hb
         refine hK.out _ _ trivial (fun hHeld=>?_)
         clear hK K
         refine norm_ (a':=?_) ?_ ?_
         rotate_left
         ·show Act.put _ (some 27) _=_
          exact pP
         refine one_ (i:=6) (N:=some 31) #[true,true,true,true,true,true,true,false,false,false,false] rfl rfl (Za8 HT_.out (by kernel_rfl)) (by decide) (fun K hK=>?_)
         refine goes_ Tryz.func152 (by kernel_rfl) rfl #[.string (x10z.extract 0 ((ji24z):Int).toNat)] (by rfl) rfl rfl (by (try simp only [List.map_toArray,List.map_cons,List.map_nil]);first|done|(simp only [hji25z];rfl)|rfl|(simp only [List.length_drop,List.length_take];rfl)) ?_
         with_reducible refine (Zcg.calls k1 (x10z.extract 0 ((ji24z):Int).toNat) t19z _ A33z.o).mono ?_
         rintro e w55z ⟨rfl,hb⟩
         refine ⟨_,rfl,?_⟩
         replace HO_4:=rbl HO_4 hb
         replace qa:=rbl qa hb
         replace qb:=rbl qb hb
         replace HB:=bS hb
         refine hK.out _ _ trivial (fun hHeld=>?_)
         clear hK K
         refine norm_ (a':=?_) ?_ ?_
         rotate_left
         ·show Act.put _ (some 31) _=_
          exact pP
         refine one_ (i:=7) (N:=some 32) #[true,true,true,true,true,true,true,true,false,false,false] rfl rfl (Za8 HT_.out (by kernel_rfl)) (by decide) (fun K hK=>?_)
         refine Kd.Zia (Kd.int .u32) _ 85 ?hg (N:=32) ?hd (xs:=([t19z]:List Int)) (inner:=[.int .u32 t19z]) (ok:=fun _=>True) (okp:=fun _=>True) ?hr ?hp (fun _ hk=>hk) trivial (Below.refl _ _) (Nat.le_refl _) (by simp) ?_;(case hd=>rfl);(case hg=>rfl);(case hr=>first|(go_simp;done)|(go_simp;rfl));(case hp=>exact (Reps.one (show Kd.M (Kd.int .u32) _ _ _ t19z [.int .u32 t19z] from rfl) (Reps.none _ _)))
         intro v56z w57z ho58z hb hg_ hnew_
         clear hg_ hnew_
         (first|rw [<- Ny36z.out] at ho58z|(simp only [Int.reduceToNat] at ho58z;rw [<- Ny36z.out] at ho58z))
         have qj:=am (Kd.Zt (Kd.Zaj (Kd.Zaj (Kd.Zaj ho58z (Kd.R_lt (Kd.Zc HO_4.o pl))) (Kd.R_lt (Kd.Zc qa.o pl))) (Kd.R_lt (Kd.Zc qb.o pl))) (Zb pB))
         replace HO_4:=reR HO_4 ho58z hb
         replace qa:=reR qa ho58z hb
         replace qb:=reR qb ho58z hb
         replace HB:=bS hb
         clear hb ho58z
         obtain ⟨qi,qk,qo⟩:=Kd.Zm qj.o
         (first|subst qo|(injection qo with f1_ f2_ f3_;have f4_:=f1_.symm;have f5_:=f3_.symm;clear f1_ f2_ f3_;subst f4_;subst f5_))
         refine hK.out _ _ trivial (fun hHeld=>?_)
         clear hK K
         refine norm_ (a':=?_) ?_ ?_
         rotate_left
         ·show Act.put _ (some 32) _=_
          exact pP
         refine one_ (i:=8) (N:=some 33) #[true,true,true,true,true,true,true,true,true,false,false] rfl rfl (Za8 HT_.out (by kernel_rfl)) (by decide) (fun K hK=>?_)
         refine goes_ Tryz.func132 (by kernel_rfl) rfl #[.slice qi y34z.length qk] (by rfl) rfl rfl pA ?_
         with_reducible refine (Zad.calls k1 (fun k_=>some k_=(.slice qi y34z.length qk:Value).ownBlock) (.slice qi y34z.length qk) y34z t20z w _ ?side1 ?side2 A37z.o).mono ?_
         (case side1=>exact pB)
         (case side2=>exact Kd.Zbc rfl qj.o)
         rintro e w63z ⟨v64z,rfl,ho2z,hb,hkp⟩
         refine ⟨_,rfl,?_⟩
         have qc:=am (Kd.Zi (ok':=fun k_=>some k_ ≠ (.slice qe x11z.length qg:Value).ownBlock/\some k_ ≠ (.slice qf y16z.length qh:Value).ownBlock/\some k_ ≠ (v53z:Value).ownBlock) ho2z (fun k_ hk_=>⟨Or.elim hk_ (fun hs_=>fun e_=>(((HO_4.o).1 k_ e_.symm).2) hs_) (fun hn_=>(Kd.fresh' (Kd.R_lt (Kd.Zc HO_4.o pl)) k_ hn_)),Or.elim hk_ (fun hs_=>fun e_=>(((qa.o).1 k_ e_.symm).2) hs_) (fun hn_=>(Kd.fresh' (Kd.R_lt (Kd.Zc qa.o pl)) k_ hn_)),Or.elim hk_ (fun hs_=>fun e_=>(((qb.o).1 k_ e_.symm).2) hs_) (fun hn_=>(Kd.fresh' (Kd.R_lt (Kd.Zc qb.o pl)) k_ hn_))⟩))
         replace HO_4:=am (Kd.Zi (ok':=fun k_=>some k_ ≠ (.slice qf y16z.length qh:Value).ownBlock/\some k_ ≠ (v53z:Value).ownBlock/\some k_ ≠ (v64z:Value).ownBlock) (Kd.Zdj (HO_4.o) hkp (fun k_ hk_ hs_=>(hk_.2) hs_)) (fun k_ hk_=>⟨hk_.1.1.1.2,hk_.1.1.2,fun e_=>Or.elim (ho2z.1 k_ e_.symm) (fun hs_=>hk_.2.1 hs_) (fun hn_=>Nat.not_le.2 hk_.2.2 hn_)⟩))
         replace qa:=am (Kd.Zi (ok':=fun k_=>some k_ ≠ (.slice qe x11z.length qg:Value).ownBlock/\some k_ ≠ (v53z:Value).ownBlock/\some k_ ≠ (v64z:Value).ownBlock) (Kd.Zdj (qa.o) hkp (fun k_ hk_ hs_=>(hk_.2) hs_)) (fun k_ hk_=>⟨hk_.1.1.1.2,hk_.1.1.2,fun e_=>Or.elim (ho2z.1 k_ e_.symm) (fun hs_=>hk_.2.1 hs_) (fun hn_=>Nat.not_le.2 hk_.2.2 hn_)⟩))
         replace qb:=am (Kd.Zi (ok':=fun k_=>some k_ ≠ (.slice qe x11z.length qg:Value).ownBlock/\some k_ ≠ (.slice qf y16z.length qh:Value).ownBlock/\some k_ ≠ (v64z:Value).ownBlock) (Kd.Zdj (qb.o) hkp (fun k_ hk_ hs_=>(hk_.2) hs_)) (fun k_ hk_=>⟨hk_.1.1.1.2,hk_.1.1.2,fun e_=>Or.elim (ho2z.1 k_ e_.symm) (fun hs_=>hk_.2.1 hs_) (fun hn_=>Nat.not_le.2 hk_.2.2 hn_)⟩))
         replace HB:=am hb
         clear qj
         obtain ⟨qr,qu,qp⟩:=Kd.Zm qb.o
         (first|subst qp|(injection qp with f1_ f2_ f3_;have f4_:=f1_.symm;have f5_:=f3_.symm;clear f1_ f2_ f3_;subst f4_;subst f5_))
         obtain ⟨qs,qv,qq⟩:=Kd.Zm qc.o
         (first|subst qq|(injection qq with f1_ f2_ f3_;have f4_:=f1_.symm;have f5_:=f3_.symm;clear f1_ f2_ f3_;subst f4_;subst f5_))
         refine hK.out _ _ trivial (fun hHeld=>?_)
         clear hK K
         refine norm_ (a':=?_) ?_ ?_
         rotate_left
         ·show Act.put _ (some 33) _=_
          exact pP
         refine one_ (i:=9) (N:=some 34) #[true,true,true,true,true,true,true,true,true,true,false] rfl rfl (Za8 HT_.out (by kernel_rfl)) (by decide) (fun K hK=>?_)
         refine goes_ Tryz.func131 (by kernel_rfl) rfl #[.slice qr t18z.length qu,.slice qs t20z.length qv] (by rfl) rfl rfl pA ?_
         with_reducible refine (Zal.calls k1 _ _ t18z _ _ t20z t21z _ ?side1 ?side2 ?side3 ?side4 A38z.o).mono ?_
         (case side1=>exact Kd.Zv (Kd.Zf qb.o).2.2 pl)
         (case side2=>exact (Kd.Zf qb.o).2.1)
         (case side3=>exact Kd.Zv (Kd.Zf qc.o).2.2 pl)
         (case side4=>exact (Kd.Zf qc.o).2.1)
         rintro e w72z ⟨v73z,rfl,ho2z,hb⟩
         refine ⟨_,rfl,?_⟩
         have qt:=am (Kd.Zt (Kd.Zaj (Kd.Zaj (Kd.Zaj (Kd.Zaj ho2z (Kd.R_lt (Kd.Zc HO_4.o pl))) (Kd.R_lt (Kd.Zc qa.o pl))) (Kd.R_lt (Kd.Zc qb.o pl))) (Kd.R_lt (Kd.Zc qc.o pl))) (Zb pB))
         replace HO_4:=reR HO_4 ho2z hb
         replace qa:=reR qa ho2z hb
         replace qb:=reR qb ho2z hb
         replace qc:=reR qc ho2z hb
         replace HB:=bS hb
         refine hK.out _ _ trivial (fun hHeld=>?_)
         clear hK K
         refine norm_ (a':=?_) ?_ ?_
         rotate_left
         ·show Act.put _ (some 34) _=_
          exact pP
         refine pu 10 (some 4) #[true,true,true,true,true,true,true,true,true,true,true] (h:=?_)
         refine done_ (Zdg HT_.out (by kernel_rfl)) ?_
         try go_wp2
         go_roundg k1
         case measure=>exact pM
         case rel=>exact ⟨(x10z.extract ((ji24z):Int).toNat x10z.size),(t21z),(by first|rfl|(simp;done)|(simp only [<- hji25z] <;> (first|rfl|simp))|(simp [*];done)),(by first|exact H'|(have H_:=H'.out;simp only [<- hji25z] at H_;exact ⟨H_⟩)|(refine ⟨?_⟩;have H_:=H'.out;simp only [<- hji25z] at H_ ⊢;exact H_)),pJ,⟨by refine rp ?_;exact Kd.Zi qt.o (fun _ hk=>trivial)⟩,⟨pB⟩⟩
        ·rw [if_neg c30z] at H
         cases H
       ·rw [if_neg c27z] at H
        cases H
  | go_ret2
    exact ⟨_,pE,pN,pB⟩):P:=h
theorem Zbf.calls (k:Nat) (a0:ByteArray) (r1:List Int) (r2:Int) (w:World) (h:Zbf.f k a0=some (r1,r2)) :
  Calls Tryz.prog 116 #[.string a0] w fun e w' => ∃ v0_:Value,e=.returned (.tuple #[v0_,.int .i64 r2])/\Kd.R (Kd.int .u32) 85 w' w.heap.size (fun _=>True) v0_ r1/\Below w.heap.size w w':=by
 have HB:=am (Below.refl w.heap.size w)
 have H:(if (a0.size:Int)=0 then (some (([]:List Int),8)) else (if (a0.size:Int) > 2400 then (some (([]:List Int),5)) else ((Zcd.f a0).bind fun qd=>((Zb7.f qd).bind fun ql=>(if ql=true then (some (([]:List Int),32)) else (Zbf.l0 k a0 ([]:List Int)))))))=some (r1,r2):=h
 clear h
 replace H:=eI H
 rcases H with ⟨c2b0,c2b1,H⟩|⟨c2,c2b0,c2b1,H⟩
 ·simp only [Option.some.injEq,Prod.mk.injEq] at H
  obtain ⟨rfl,rfl⟩:=H
  exact Zbf.leaf
 ·by_cases c3:(a0.size:Int) > 2400
  ·rw [if_pos c3] at H
   have c3b0:decide (2400 < (a0.size:Int))=true:=decide_eq_true c3
   have c3b1:decide (2400 < a0.size)=true:=decide_eq_true (by omega)
   clear c3
   simp only [Option.some.injEq,Prod.mk.injEq] at H
   obtain ⟨rfl,rfl⟩:=H
   exact Zbf.leaf
  ·rw [if_neg c3] at H
   have c3b0:decide (2400 < (a0.size:Int))=false:=decide_eq_false c3
   have c3b1:decide (2400 < a0.size)=false:=decide_eq_false (by omega)
   clear c3
   replace H:=ob H
   obtain ⟨qd,A4,H⟩:=H
   replace H:=ob H
   obtain ⟨ql,A5,H⟩:=H
   replace H:=tI (t:=ql) H
   rcases H with ⟨rfl,H⟩|⟨rfl,H⟩
   ·simp only [Option.some.injEq,Prod.mk.injEq] at H
    obtain ⟨rfl,rfl⟩:=H
    exact Zbf.leaf
   ·have H':=am H
    clear H
    exact Zbf.leaf
end YtjbjkmccfocikaaGreatDoor.B
end
section
namespace YtjbjkmccfocikaaGreatDoor.B
open Go.RowKit Go.Shelf YtjbjkmccfocikaaGreatDoorW.PrintWords
def Zca.f (s t:ByteArray):Option ByteArray:=if t=⟨#[48]⟩/\s.size<=9223372036854775807 then some ⟨(Lib.trimRightB s.data.toList 48).toArray⟩ else none
theorem Zca.calls (a0 a1:ByteArray) (r:ByteArray) (w:World) (h:Zca.f a0 a1=some r) :
  Calls Tryz.prog 167 #[.string a0,.string a1] w fun e w'=>e=.returned (.string r)/\Below w.heap.size w w':=by
 unfold Zca.f at h
 split at h
 ·rename_i hh
  obtain ⟨rfl,hs⟩:=hh
  obtain rfl:=Option.some.inj h
  exact (Tryz.strings_TrimRight_one a0 48 (by decide) w hs).mono fun e w' ⟨he,hw⟩=>⟨he,by subst hw;exact Below.refl _ _⟩
 ·cases h
end YtjbjkmccfocikaaGreatDoor.B
end
section
namespace YtjbjkmccfocikaaGreatDoor.B
open Go.RowKit YtjbjkmccfocikaaGreatDoorW.PrintWords YtjbjkmccfocikaaGreatDoorW.PrintLast YtjbjkmccfocikaaGreatDoorW.PrintMore
attribute [local go_sem] Zb3 Zb5 Zcp Zcq Zbs Zbt Zb4 Zb6
def Zb0.f (k:Nat) (a0_0:Bool) (l0_1:List Int) (a0_2:Int):Option (Bool × List Int × Int):=(Zaz.f k l0_1).bind fun qg=>((Zdb.f qg.1 qg.2).bind fun qb=>((Zca.f qb (⟨#[48]⟩:ByteArray)).bind fun qc=>(if (qc.size:Int)=(qb.size:Int) then (some (a0_0,l0_1,a0_2)) else ((Zbf.f k qc).bind fun qh=>((Zbw.f qh.1 qh.2).bind fun qf=>(some (a0_0,qf,wrap64 (a0_2+(wrap64 ((qb.size:Int) - (qc.size:Int)))))))))))
theorem Zb0.leaf {P:Prop} (h:P:=by
 obtain ⟨Ao0z,co1z,eo2z⟩:=Kd.Zm HO0_1.o
 subst eo2z
 go_enter Tryz.func140,Tryz.ntmps140
 go_wp2_with (first|((with_reducible refine gd 1 ?_);refine bx 1 #[.bool a0_0,.slice Ao0z l0_1.length co1z,.int .i64 a0_2] 106 (h:=?_);intro gb3z hg w4z hbox hb;have BK5z:=am hbox;have GW6z:=am ((by rw [hg];exact (by first|exact HK.out.1|exact (show Kept w _ (fun k_=>P0_1_ k_) from by repeat (first|(with_reducible first|exact HK.out|apply Kept.alloc|apply Kept.drewN|apply Kept.drew)|exact HK.out)).1):w.heap.size<=gb3z));have GE7z:=am ((gw hg pB:w0.heap.size<=gb3z));replace HO0_1:=rbl HO0_1 hb;replace HK:=am (Kept.below (S:=(fun k_=>P0_1_ k_)) (by repeat (first|(with_reducible first|exact HK.out|apply Kept.alloc|apply Kept.drewN|apply Kept.drew)|exact HK.out)) hb);replace HB:=bS hb;clear hb hbox hg)|((with_reducible refine gd 2 ?_);refine bx 2 #[.bool false,.slice none 0 0,.int .i64 0] 106 (h:=?_);intro gb8z hg w9z hbox hb;have qa:=am hbox;have qd:=am ((by rw [hg];exact (by first|exact HK.out.1|exact (show Kept w _ (fun k_=>P0_1_ k_) from by repeat (first|(with_reducible first|exact HK.out|apply Kept.alloc|apply Kept.drewN|apply Kept.drew|refine Kept.setCell ?_ (.inr GW6z.o) _)|exact HK.out)).1):w.heap.size<=gb8z));have qx:=am ((gw hg pB:w0.heap.size<=gb8z));have qs:=nL hg BK5z;have ql:=nG hg BK5z;replace HO0_1:=rbl HO0_1 hb;replace BK5z:=bb BK5z hb;replace HK:=am (Kept.below (S:=(fun k_=>P0_1_ k_)) (by repeat (first|(with_reducible first|exact HK.out|apply Kept.alloc|apply Kept.drewN|apply Kept.drew|refine Kept.setCell ?_ (.inr GW6z.o) _)|exact HK.out)) hb);replace HB:=bS hb;clear hb hbox hg;have qv:=qs.o;have qw:=ql.o;obtain ⟨_,_,_,_,_,_⟩:=cEc BK5z.o)|(refine gL (some 8) Tryz.func112 #[.slice Ao0z l0_1.length co1z] (h:=?_);(with_reducible refine (Zaz.calls k (fun k_=>some k_=(.slice Ao0z l0_1.length co1z:Value).ownBlock) _ _ l0_1 qp qq _ ?side1 A2.o).mono ?_);(case side1=>exact Kd.R_V (Kd.Zbc rfl (Kd.Zg (Kd.Zg (HO0_1.o) BK5z.o (by decide)) qa.o (by decide))));rintro e w23z ⟨rfl,hb⟩;refine ⟨_,rfl,?_⟩;replace HO0_1:=rbl HO0_1 hb;replace BK5z:=bb BK5z hb;replace qa:=bb qa hb;replace HK:=am (Kept.below (S:=(fun k_=>P0_1_ k_)) (by repeat (first|(with_reducible first|exact HK.out|apply Kept.alloc|apply Kept.drewN|apply Kept.drew|refine Kept.setCell ?_ (.inr GW6z.o) _|refine Kept.setCell ?_ (.inr qd.o) _)|exact HK.out)) hb);replace HB:=bS hb)|(refine gL (some 11) Tryz.func111 #[.string qp,.int .i64 qq] (h:=?_);(with_reducible refine (Zdb.calls qp qq qb _ A3.o).mono ?_);rintro e w' ⟨rfl,⟨nd,rfl⟩⟩;refine ⟨_,rfl,?_⟩;(try (rw [Zig w23z];generalize hq_:World.drewN w23z _=w23z;replace HO0_1:Aside0 (Kd.R (Kd.int .u32) 85 w23z w0.heap.size (fun k_=>(P0_1_ k_\/w.heap.size<=k_)) (.slice Ao0z l0_1.length co1z) l0_1):=⟨by rw [<- hq_];exact (Kd.Zc HO0_1.o pl)⟩;replace BK5z:Aside0 (w23z.heap[gb3z]? = some (.cells #[.bool a0_0,.slice Ao0z l0_1.length co1z,.int .i64 a0_2] 106 (0,0))):=⟨by rw [<- hq_];exact (Za BK5z.o pl)⟩;replace qa:Aside0 (w23z.heap[gb8z]? = some (.cells #[.bool false,.slice none 0 0,.int .i64 0] 106 (0,0))):=⟨by rw [<- hq_];exact (Za qa.o pl)⟩;replace HK:Aside0 (Kept w w23z (fun k_=>P0_1_ k_)):=⟨by rw [<- hq_];exact (by repeat (first|(with_reducible first|exact HK.out|apply Kept.alloc|apply Kept.drewN|apply Kept.drew|refine Kept.setCell ?_ (.inr GW6z.o) _|refine Kept.setCell ?_ (.inr qd.o) _)|exact HK.out))⟩;replace HB:Aside0 (Below w0.heap.size w0 w23z):=⟨by rw [<- hq_];exact pB⟩;clear hq_)))|((have q_:=A16;clear q_);refine gL (some 13) Tryz.func167 #[.string qb,.string (⟨#[48]⟩:ByteArray)] (h:=?_);(with_reducible refine (Zca.calls qb (⟨#[48]⟩:ByteArray) qc _ A4.o).mono ?_);rintro e w24z ⟨rfl,hb⟩;refine ⟨_,rfl,?_⟩;replace HO0_1:=rbl HO0_1 hb;replace BK5z:=bb BK5z hb;replace qa:=bb qa hb;replace HK:=am (Kept.below (S:=(fun k_=>P0_1_ k_)) (by repeat (first|(with_reducible first|exact HK.out|apply Kept.alloc|apply Kept.drewN|apply Kept.drew|refine Kept.setCell ?_ (.inr GW6z.o) _|refine Kept.setCell ?_ (.inr qd.o) _)|exact HK.out)) hb);replace HB:=bS hb)|(refine gL (some 21) Tryz.func116 #[.string qc] (h:=?_);(with_reducible refine (Zbf.calls k qc qn qr _ A15.o).mono ?_);rintro e w25z ⟨v26z,rfl,ho27z,hb⟩;refine ⟨_,rfl,?_⟩;have qe:=am (Kd.Zt (Kd.Zaj (Kd.Ze4 (M:=fun k_=>(P0_1_ k_\/w.heap.size<=k_)) ho27z (by first|exact HK.out.1|exact (show Kept w _ (fun k_=>P0_1_ k_) from by repeat (first|(with_reducible first|exact HK.out|apply Kept.alloc|apply Kept.drewN|apply Kept.drew|refine Kept.setCell ?_ (.inr GW6z.o) _|refine Kept.setCell ?_ (.inr qd.o) _)|exact HK.out)).1) (fun k_ h_=>.inr h_)) (Kd.R_lt (Kd.Zc HO0_1.o pl))) (Zb pB));replace HO0_1:=reR HO0_1 ho27z hb;replace BK5z:=bb BK5z hb;replace qa:=bb qa hb;replace HK:=am (Kept.below (S:=(fun k_=>P0_1_ k_)) (by repeat (first|(with_reducible first|exact HK.out|apply Kept.alloc|apply Kept.drewN|apply Kept.drew|refine Kept.setCell ?_ (.inr GW6z.o) _|refine Kept.setCell ?_ (.inr qd.o) _)|exact HK.out)) hb);replace HB:=bS hb;obtain ⟨qk,qm,qt⟩:=Kd.Zm qe.o;subst qt)|(refine gL (some 24) Tryz.func105 #[.slice qk qn.length qm,.int .i64 qr] (h:=?_);(with_reducible refine (Zbw.calls (fun k_=>some k_=(.slice qk qn.length qm:Value).ownBlock) (.slice qk qn.length qm) qn qr qf w0 _ ?side1 ?side2 A16.o).mono ?_);(case side1=>exact pB);(case side2=>exact Kd.Zbc rfl qe.o);rintro e w32z ⟨v33z,rfl,ho27z,hb,hkp⟩;refine ⟨_,rfl,?_⟩;have qo:=am (Kd.Zi (ok':=fun k_=>(P0_1_ k_\/w.heap.size<=k_)/\some k_ ≠ (.slice Ao0z l0_1.length co1z:Value).ownBlock) ho27z (fun k_ hk_=>⟨Or.elim hk_ (fun hs_=>(qe.o.1 k_ (hs_).symm).1.1) (fun hn_=>(.inr (Nat.le_trans (by first|exact HK.out.1|exact (show Kept w _ (fun k_=>P0_1_ k_) from by repeat (first|(with_reducible first|exact HK.out|apply Kept.alloc|apply Kept.drewN|apply Kept.drew|refine Kept.setCell ?_ (.inr GW6z.o) _|refine Kept.setCell ?_ (.inr qd.o) _)|exact HK.out)).1) hn_))),Or.elim hk_ (fun hs_=>fun e_=>(((HO0_1.o).1 k_ e_.symm).2) hs_) (fun hn_=>(Kd.fresh' (Kd.R_lt (Kd.Zc HO0_1.o pl)) k_ hn_))⟩));replace HO0_1:=am (Kd.Zi (ok':=fun k_=>(P0_1_ k_\/w.heap.size<=k_)/\some k_ ≠ (v33z:Value).ownBlock) (Kd.Zdj (HO0_1.o) hkp (fun k_ hk_ hs_=>(hk_.2) hs_)) (fun k_ hk_=>⟨hk_.1.1,fun e_=>Or.elim (ho27z.1 k_ e_.symm) (fun hs_=>hk_.2.1 hs_) (fun hn_=>Nat.not_le.2 hk_.2.2 hn_)⟩));replace BK5z:=am (Zan (Za BK5z.o pl) hkp (fun e_=>Kd.R_ne qe.o BK5z.o (by decide) e_));replace qa:=am (Zan (Za qa.o pl) hkp (fun e_=>Kd.R_ne qe.o qa.o (by decide) e_));replace HK:=am (Kept.then_ (S:=(fun k_=>P0_1_ k_)) (by repeat (first|(with_reducible first|exact HK.out|apply Kept.alloc|apply Kept.drewN|apply Kept.drew|refine Kept.setCell ?_ (.inr GW6z.o) _|refine Kept.setCell ?_ (.inr qd.o) _)|exact HK.out)) hkp (fun k_ hs_=>(fun e_=>(qe.o.1 k_ e_.symm).1.1) hs_));replace HB:=am hb;clear qe;obtain ⟨qi,qj,qu⟩:=Kd.Zm qo.o;subst qu;obtain ⟨_,_,_,_,_,_⟩:=cEc BK5z.o;obtain ⟨_,_,_,_,_,_⟩:=cEc qa.o)|((have q_:(qc.size == qb.size)=true:=c5b2;clear q_);refine gL (some 13) Tryz.func167 #[.string qb,.string (⟨#[48]⟩:ByteArray)] (h:=?_);(with_reducible refine (Zca.calls qb (⟨#[48]⟩:ByteArray) qc _ A4.o).mono ?_);rintro e w24z ⟨rfl,hb⟩;refine ⟨_,rfl,?_⟩;replace HO0_1:=rbl HO0_1 hb;replace BK5z:=bb BK5z hb;replace qa:=bb qa hb;replace HK:=am (Kept.below (S:=(fun k_=>P0_1_ k_)) (by repeat (first|(with_reducible first|exact HK.out|apply Kept.alloc|apply Kept.drewN|apply Kept.drew|refine Kept.setCell ?_ (.inr GW6z.o) _|refine Kept.setCell ?_ (.inr qd.o) _)|exact HK.out)) hb);replace HB:=bS hb;obtain ⟨_,_,_,_,_,_⟩:=cEc BK5z.o;obtain ⟨_,_,_,_,_,_⟩:=cEc qa.o))
 first
  | have q_:=A16
    refine bodyPost_ret (results_cell_row rfl _ _ gb8z 106 #[.bool a0_0,.slice qi qf.length qj,.int .i64 (wrap64 (a0_2+(wrap64 ((qb.size:Int) - (qc.size:Int)))))] (0,0) _ rfl (by refine bp ?_;refine Zab (cs:=#[.bool a0_0,.slice qi qf.length qj,.int .i64 0]) ?_ 2 _ rfl;refine bp ?_;refine Zab (cs:=#[.bool a0_0,.slice none 0 0,.int .i64 0]) ?_ 1 _ rfl;refine bp ?_;refine Zab (cs:=#[.bool false,.slice none 0 0,.int .i64 0]) ?_ 0 _ rfl;refine bq ?_ ql;refine bq ?_ ql;exact bp qa.o) Tryz.underlying106 rfl (by kernel_rfl)) rfl ?_
    exact ⟨_,pE,by refine rp ?_;exact Kd.Zi (Kd.Zj (p:=⟨gb8z,2,none⟩) (Kd.Zj (p:=⟨gb8z,1,none⟩) (Kd.Zj (p:=⟨gb8z,0,none⟩) (Kd.Zj (p:=⟨gb3z,2,none⟩) (Kd.Zj (p:=⟨gb3z,1,none⟩) (Kd.Zg (Kd.Zg qo.o BK5z.o (by decide)) qa.o (by decide)) (fun _ hk=>hk.1.2) (.slice qi qf.length qj)) (fun _ hk=>hk.1.2) (.int .i64 (wrap64 (a0_2+(wrap64 ((qb.size:Int) - (qc.size:Int))))))) (fun _ hk=>hk.2) (.bool a0_0)) (fun _ hk=>hk.2) (.slice qi qf.length qj)) (fun _ hk=>hk.2) (.int .i64 (wrap64 (a0_2+(wrap64 ((qb.size:Int) - (qc.size:Int))))))) (fun _ hk=>hk.1.1.1),pB,by repeat (first|(with_reducible first|exact HK.out|apply Kept.alloc|apply Kept.drewN|apply Kept.drew|refine Kept.setCell ?_ (.inr GW6z.o) _|refine Kept.setCell ?_ (.inr qd.o) _)|exact HK.out)⟩
  | refine bodyPost_ret (results_cell_row rfl _ _ gb8z 106 #[.bool a0_0,.slice Ao0z l0_1.length co1z,.int .i64 a0_2] (0,0) _ rfl (by exact p3 qa) Tryz.underlying106 rfl (by kernel_rfl)) rfl ?_
    exact ⟨_,pE,by refine rp ?_;exact Kd.Zi (Kd.Zj (p:=⟨gb8z,2,none⟩) (Kd.Zj (p:=⟨gb8z,1,none⟩) (Kd.Zj (p:=⟨gb8z,0,none⟩) (Kd.Zg HO0_1.o qa.o (by decide)) (fun _ hk=>hk.2) (.bool a0_0)) (fun _ hk=>hk.2) (.slice Ao0z l0_1.length co1z)) (fun _ hk=>hk.2) (.int .i64 a0_2)) (fun _ hk=>hk.1),pB,by repeat (first|(with_reducible first|exact HK.out|apply Kept.alloc|apply Kept.drewN|apply Kept.drew|refine Kept.setCell ?_ (.inr GW6z.o) _|refine Kept.setCell ?_ (.inr qd.o) _)|exact HK.out)⟩):P:=h
theorem Zb0.calls (k:Nat) (a0_0:Bool) (P0_1_:Nat->Prop) (u9000_:Value) (l0_1:List Int) (a0_2:Int) (r1:Bool) (r2:List Int) (r3:Int) (w0 w:World) (hB:Below w0.heap.size w0 w) (ho0_1:Kd.R (Kd.int .u32) 85 w w0.heap.size P0_1_ u9000_ l0_1) (h:Zb0.f k a0_0 l0_1 a0_2=some (r1,r2,r3)) :
  Calls Tryz.prog 140 #[.agg #[.bool a0_0,u9000_,.int .i64 a0_2]] w fun e w' => ∃ v1_:Value,e=.returned (.agg #[.bool r1,v1_,.int .i64 r3])/\Kd.R (Kd.int .u32) 85 w' w0.heap.size (fun k_=>(P0_1_ k_\/w.heap.size<=k_)) v1_ r2/\Below w0.heap.size w0 w'/\Kept w w' (fun k_=>P0_1_ k_):=by
 have qy:=Tryz.underlying106
 have HO0_1:=am (show Kd.R (Kd.int .u32) 85 w w0.heap.size (fun k_=>(P0_1_ k_\/w.heap.size<=k_)) u9000_ l0_1 from Kd.Zi ho0_1 (fun k_ hk=>(.inl hk)))
 have HK:=am (Kept.refl w (fun k_=>P0_1_ k_))
 have HW0:=am hB.size
 have HB:=am hB
 clear hB
 have H:((Zaz.f k l0_1).bind fun qg=>((Zdb.f qg.1 qg.2).bind fun qb=>((Zca.f qb (⟨#[48]⟩:ByteArray)).bind fun qc=>(if (qc.size:Int)=(qb.size:Int) then (some (a0_0,l0_1,a0_2)) else ((Zbf.f k qc).bind fun qh=>((Zbw.f qh.1 qh.2).bind fun qf=>(some (a0_0,qf,wrap64 (a0_2+(wrap64 ((qb.size:Int) - (qc.size:Int))))))))))))=some (r1,r2,r3):=h
 clear h
 obtain ⟨⟨qp,qq⟩,A2,H⟩:=ob H;(try dsimp only at H)
 obtain ⟨qb,A3,H⟩:=ob H
 obtain ⟨qc,A4,H⟩:=ob H
 by_cases c5:(qc.size:Int)=(qb.size:Int)
 ·rw [if_pos c5] at H
  have c5b0:((qc.size:Int) == (qb.size:Int))=true:=beq_iff_eq.mpr c5
  have c5b1:((qc.size:Int) != (qb.size:Int))=false:=bne_eq_false_iff_eq.mpr c5
  have c5b2:(qc.size == qb.size)=true:=by first|simpa using c5|(simp at c5 ⊢;omega)
  clear c5
  simp only [Option.some.injEq,Prod.mk.injEq] at H
  obtain ⟨rfl,rfl,rfl⟩:=H
  exact Zb0.leaf
 ·rw [if_neg c5] at H
  have c5b0:((qc.size:Int) == (qb.size:Int))=false:=beq_eq_false_iff_ne.mpr c5
  have c5b1:((qc.size:Int) != (qb.size:Int))=true:=bne_iff_ne.mpr c5
  have c5b2:(qc.size == qb.size)=false:=by first|simpa using c5|(simp at c5 ⊢;omega)
  obtain ⟨⟨qn,qr⟩,A15,H⟩:=ob H;(try dsimp only at H)
  obtain ⟨qf,A16,H⟩:=ob H
  simp only [Option.some.injEq,Prod.mk.injEq] at H
  obtain ⟨rfl,rfl,rfl⟩:=H
  exact Zb0.leaf
def Zbj.f (k:Nat) (a0_0:Bool) (l0_1:List Int) (a0_2:Int):Option (Bool × List Int × Int × Int):=(Za0.f a0_0 l0_1 a0_2).bind fun ql=>(if ql=true then (some (false,([]:List Int),0,0)) else ((Zb0.f k a0_0 l0_1 a0_2).bind fun qb=>((Zcu.f k qb.2.1).bind fun qj=>(if qj > 300 then (some (false,([]:List Int),0,51)) else (if qb.2.2 < (-1000) then (some (false,([]:List Int),0,52)) else (if qb.2.2 > 1000 then (some (false,([]:List Int),0,52)) else (some (qb.1,qb.2.1,qb.2.2,0))))))))
theorem Zbj.leaf {P:Prop} (h:P:=by
 obtain ⟨Ao0z,co1z,eo2z⟩:=Kd.Zm HO0_1.o
 subst eo2z
 go_enter Tryz.func100,Tryz.ntmps100
 go_wp2_with (first|((with_reducible refine gd 1 ?_);refine bx 1 #[.bool a0_0,.slice Ao0z l0_1.length co1z,.int .i64 a0_2] 106 (h:=?_);intro gb3z hg w4z hbox hb;have BK5z:=am hbox;have GW6z:=am ((by rw [hg];exact (by first|exact HK.out.1|exact (show Kept w _ (fun k_=>P0_1_ k_) from by repeat (first|(with_reducible first|exact HK.out|apply Kept.alloc|apply Kept.drewN|apply Kept.drew)|exact HK.out)).1):w.heap.size<=gb3z));have GE7z:=am ((gw hg pB:w0.heap.size<=gb3z));replace HO0_1:=rbl HO0_1 hb;replace HK:=am (Kept.below (S:=(fun k_=>P0_1_ k_)) (by repeat (first|(with_reducible first|exact HK.out|apply Kept.alloc|apply Kept.drewN|apply Kept.drew)|exact HK.out)) hb);replace HB:=bS hb;clear hb hbox hg)|((with_reducible refine gd 2 ?_);refine bx 2 #[.bool false,.slice none 0 0,.int .i64 0] 24 (h:=?_);intro gb8z hg w9z hbox hb;have qa:=am hbox;have qg:=am ((by rw [hg];exact (by first|exact HK.out.1|exact (show Kept w _ (fun k_=>P0_1_ k_) from by repeat (first|(with_reducible first|exact HK.out|apply Kept.alloc|apply Kept.drewN|apply Kept.drew|refine Kept.setCell ?_ (.inr GW6z.o) _)|exact HK.out)).1):w.heap.size<=gb8z));have q2:=am ((gw hg pB:w0.heap.size<=gb8z));have qy:=nL hg BK5z;have qk:=nG hg BK5z;replace HO0_1:=rbl HO0_1 hb;replace BK5z:=bb BK5z hb;replace HK:=am (Kept.below (S:=(fun k_=>P0_1_ k_)) (by repeat (first|(with_reducible first|exact HK.out|apply Kept.alloc|apply Kept.drewN|apply Kept.drew|refine Kept.setCell ?_ (.inr GW6z.o) _)|exact HK.out)) hb);replace HB:=bS hb;clear hb hbox hg;have q0:=qy.o;have q1:=qk.o;obtain ⟨_,_,_,_,_,_⟩:=cEc BK5z.o)|(refine gL (some 5) Tryz.func104 #[.agg #[.bool a0_0,.slice Ao0z l0_1.length co1z,.int .i64 a0_2]] (h:=?_);(with_reducible refine (Za0.calls a0_0 _ _ l0_1 a0_2 false _ ?side1 ?side2 A2.o).mono ?_);(case side1=>exact Kd.Zv (Kd.Zf HO0_1.o).2.2 pl);(case side2=>exact (Kd.Zf HO0_1.o).2.1);rintro e w23z ⟨rfl,hb⟩;refine ⟨_,rfl,?_⟩;replace HO0_1:=rbl HO0_1 hb;replace BK5z:=bb BK5z hb;replace qa:=bb qa hb;replace HK:=am (Kept.below (S:=(fun k_=>P0_1_ k_)) (by repeat (first|(with_reducible first|exact HK.out|apply Kept.alloc|apply Kept.drewN|apply Kept.drew|refine Kept.setCell ?_ (.inr GW6z.o) _|refine Kept.setCell ?_ (.inr qg.o) _)|exact HK.out)) hb);replace HB:=bS hb;obtain ⟨qm,qn,qo,qs,qt,qu⟩:=cEc BK5z.o)|(refine gL (some 8) Tryz.func140 #[.agg #[.bool a0_0,.slice Ao0z l0_1.length co1z,.int .i64 a0_2]] (h:=?_);(with_reducible refine (Zb0.calls k a0_0 (fun k_=>some k_=(.slice Ao0z l0_1.length co1z:Value).ownBlock) (.slice Ao0z l0_1.length co1z) l0_1 a0_2 qi qf qh w0 _ ?side1 ?side2 A11.o).mono ?_);(case side1=>exact pB);(case side2=>exact Kd.Zbc rfl HO0_1.o);rintro e w30z ⟨v31z,rfl,ho32z,hb,hkp⟩;refine ⟨_,rfl,?_⟩;have qe:=am (Kd.Zi (ok':=fun k_=>(P0_1_ k_\/w.heap.size<=k_)) ho32z (fun k_ hk_=>Or.elim hk_ (fun hs_=>(HO0_1.o.1 k_ (hs_).symm)) (fun hn_=>(.inr (Nat.le_trans (by first|exact HK.out.1|exact (show Kept w _ (fun k_=>P0_1_ k_) from by repeat (first|(with_reducible first|exact HK.out|apply Kept.alloc|apply Kept.drewN|apply Kept.drew|refine Kept.setCell ?_ (.inr GW6z.o) _|refine Kept.setCell ?_ (.inr qg.o) _)|exact HK.out)).1) hn_)))));replace BK5z:=am (Zan (Za BK5z.o pl) hkp (fun e_=>Kd.R_ne HO0_1.o BK5z.o (by decide) e_));replace qa:=am (Zan (Za qa.o pl) hkp (fun e_=>Kd.R_ne HO0_1.o qa.o (by decide) e_));replace HK:=am (Kept.then_ (S:=(fun k_=>P0_1_ k_)) (by repeat (first|(with_reducible first|exact HK.out|apply Kept.alloc|apply Kept.drewN|apply Kept.drew|refine Kept.setCell ?_ (.inr GW6z.o) _|refine Kept.setCell ?_ (.inr qg.o) _)|exact HK.out)) hkp (fun k_ hs_=>(fun e_=>(HO0_1.o.1 k_ e_.symm)) hs_));replace HB:=am hb;clear HO0_1;obtain ⟨_,_,_,_,_,_⟩:=cEc BK5z.o;obtain ⟨qd,qc,qz⟩:=Kd.Zm qe.o;subst qz)|((have q_:decide (300 < qj)=true:=c13b0;clear q_);refine gL (some 13) Tryz.func110 #[.slice qd qf.length qc] (h:=?_);(with_reducible refine (Zcu.calls k _ _ qf qj _ ?side1 ?side2 A12.o).mono ?_);(case side1=>refine (Kd.Zf (e:=85) (base:=w0.heap.size) (ok:=fun k_=>(P0_1_ k_\/w.heap.size<=k_)) (n:=qf.length) (c:=qc) ?_).2.2;exact (Kd.Zc (z3 qe.o BK5z.o (by decide) (.bool qi) (.slice qd qf.length qc) (.int .i64 qh)) pl));(case side2=>exact (Kd.Zf qe.o).2.1);rintro e w43z ⟨rfl,hb⟩;refine ⟨_,rfl,?_⟩;replace qe:=am (Kd.Zc (Kd.Zc (z3 qe.o BK5z.o (by decide) (.bool qi) (.slice qd qf.length qc) (.int .i64 qh)) pl) hb);replace BK5z:=am (Za (g:=gb3z) (o:=.cells #[.bool qi,.slice qd qf.length qc,.int .i64 qh] 106 (0,0)) (by exact p3 BK5z) hb);replace qa:=bfb qk qa hb;replace HK:=am (Kept.below (S:=(fun k_=>P0_1_ k_)) (by repeat (first|(with_reducible first|exact HK.out|apply Kept.alloc|apply Kept.drewN|apply Kept.drew|refine Kept.setCell ?_ (.inr GW6z.o) _|refine Kept.setCell ?_ (.inr qg.o) _)|exact HK.out)) hb);replace HB:=bS hb;obtain ⟨qp,qq,qr,qv,qw,qx⟩:=cEc qa.o)|((have q_:decide (300 < qj)=false:=c13b0;clear q_);refine gL (some 13) Tryz.func110 #[.slice qd qf.length qc] (h:=?_);(with_reducible refine (Zcu.calls k _ _ qf qj _ ?side1 ?side2 A12.o).mono ?_);(case side1=>refine (Kd.Zf (e:=85) (base:=w0.heap.size) (ok:=fun k_=>(P0_1_ k_\/w.heap.size<=k_)) (n:=qf.length) (c:=qc) ?_).2.2;exact (Kd.Zc (z3 qe.o BK5z.o (by decide) (.bool qi) (.slice qd qf.length qc) (.int .i64 qh)) pl));(case side2=>exact (Kd.Zf qe.o).2.1);rintro e w43z ⟨rfl,hb⟩;refine ⟨_,rfl,?_⟩;replace qe:=am (Kd.Zc (Kd.Zc (z3 qe.o BK5z.o (by decide) (.bool qi) (.slice qd qf.length qc) (.int .i64 qh)) pl) hb);replace BK5z:=am (Za (g:=gb3z) (o:=.cells #[.bool qi,.slice qd qf.length qc,.int .i64 qh] 106 (0,0)) (by exact p3 BK5z) hb);replace qa:=bfb qk qa hb;replace HK:=am (Kept.below (S:=(fun k_=>P0_1_ k_)) (by repeat (first|(with_reducible first|exact HK.out|apply Kept.alloc|apply Kept.drewN|apply Kept.drew|refine Kept.setCell ?_ (.inr GW6z.o) _|refine Kept.setCell ?_ (.inr qg.o) _)|exact HK.out)) hb);replace HB:=bS hb;obtain ⟨qp,qq,qr,qv,qw,qx⟩:=cEc BK5z.o;obtain ⟨_,_,_,_,_,_⟩:=cEc qa.o)|(refine gL (some 5) Tryz.func104 #[.agg #[.bool a0_0,.slice Ao0z l0_1.length co1z,.int .i64 a0_2]] (h:=?_);(with_reducible refine (Za0.calls a0_0 _ _ l0_1 a0_2 true _ ?side1 ?side2 A2.o).mono ?_);(case side1=>exact Kd.Zv (Kd.Zf HO0_1.o).2.2 pl);(case side2=>exact (Kd.Zf HO0_1.o).2.1);rintro e w23z ⟨rfl,hb⟩;refine ⟨_,rfl,?_⟩;replace HO0_1:=rbl HO0_1 hb;replace BK5z:=bb BK5z hb;replace qa:=bb qa hb;replace HK:=am (Kept.below (S:=(fun k_=>P0_1_ k_)) (by repeat (first|(with_reducible first|exact HK.out|apply Kept.alloc|apply Kept.drewN|apply Kept.drew|refine Kept.setCell ?_ (.inr GW6z.o) _|refine Kept.setCell ?_ (.inr qg.o) _)|exact HK.out)) hb);replace HB:=bS hb;obtain ⟨qm,qn,qo,qs,qt,qu⟩:=cEc qa.o))
 first
  | have q_:=A12;have q_:decide (1000 < qh)=false:=c40b0
    refine bodyPost_ret (Zbd rfl _ _ gb8z 24 #[.bool qi,.slice qd qf.length qc,.int .i64 qh] (0,0) _ rfl (by exact p3 qa) Tryz.underlying24 rfl (by kernel_rfl)) rfl ?_
    exact ⟨_,pE,by refine rp ?_;exact Kd.Zi (Kd.Zj (p:=⟨gb8z,2,none⟩) (Kd.Zj (p:=⟨gb8z,1,none⟩) (Kd.Zj (p:=⟨gb8z,0,none⟩) (Kd.Zg qe.o qa.o (by decide)) (fun _ hk=>hk.2) (.bool qi)) (fun _ hk=>hk.2) (.slice qd qf.length qc)) (fun _ hk=>hk.2) (.int .i64 qh)) (fun _ hk=>hk.1),pB,by repeat (first|(with_reducible first|exact HK.out|apply Kept.alloc|apply Kept.drewN|apply Kept.drew|refine Kept.setCell ?_ (.inr GW6z.o) _|refine Kept.setCell ?_ (.inr qg.o) _)|exact HK.out)⟩
  | refine bodyPost_ret (Zbd rfl _ _ gb8z 24 #[.bool false,.slice none 0 0,.int .i64 0] (0,0) _ rfl (by exact p3 qa) Tryz.underlying24 rfl (by kernel_rfl)) rfl ?_
    exact ⟨_,pE,pN,pB,by repeat (first|(with_reducible first|exact HK.out|apply Kept.alloc|apply Kept.drewN|apply Kept.drew|refine Kept.setCell ?_ (.inr GW6z.o) _|refine Kept.setCell ?_ (.inr qg.o) _)|exact HK.out)⟩):P:=h
theorem Zbj.calls (k:Nat) (a0_0:Bool) (P0_1_:Nat->Prop) (u9000_:Value) (l0_1:List Int) (a0_2:Int) (r1:Bool) (r2:List Int) (r3:Int) (r4:Int) (w0 w:World) (hB:Below w0.heap.size w0 w) (ho0_1:Kd.R (Kd.int .u32) 85 w w0.heap.size P0_1_ u9000_ l0_1) (h:Zbj.f k a0_0 l0_1 a0_2=some (r1,r2,r3,r4)) :
  Calls Tryz.prog 100 #[.agg #[.bool a0_0,u9000_,.int .i64 a0_2]] w fun e w' => ∃ v1_:Value,e=.returned (.tuple #[.agg #[.bool r1,v1_,.int .i64 r3],.int .i64 r4])/\Kd.R (Kd.int .u32) 85 w' w0.heap.size (fun k_=>(P0_1_ k_\/w.heap.size<=k_)) v1_ r2/\Below w0.heap.size w0 w'/\Kept w w' (fun k_=>P0_1_ k_):=by
 have q3:=Tryz.underlying106
 have hu24:=Tryz.underlying24
 have HO0_1:=am (show Kd.R (Kd.int .u32) 85 w w0.heap.size (fun k_=>(P0_1_ k_\/w.heap.size<=k_)) u9000_ l0_1 from Kd.Zi ho0_1 (fun k_ hk=>(.inl hk)))
 have HK:=am (Kept.refl w (fun k_=>P0_1_ k_))
 have HW0:=am hB.size
 have HB:=am hB
 clear hB
 have H:((Za0.f a0_0 l0_1 a0_2).bind fun ql=>(if ql=true then (some (false,([]:List Int),0,0)) else ((Zb0.f k a0_0 l0_1 a0_2).bind fun qb=>((Zcu.f k qb.2.1).bind fun qj=>(if qj > 300 then (some (false,([]:List Int),0,51)) else (if qb.2.2 < (-1000) then (some (false,([]:List Int),0,52)) else (if qb.2.2 > 1000 then (some (false,([]:List Int),0,52)) else (some (qb.1,qb.2.1,qb.2.2,0)))))))))=some (r1,r2,r3,r4):=h
 clear h
 replace H:=ob H
 obtain ⟨ql,A2,H⟩:=H
 replace H:=tI (t:=ql) H
 rcases H with ⟨rfl,H⟩|⟨rfl,H⟩
 ·simp only [Option.some.injEq,Prod.mk.injEq] at H
  obtain ⟨rfl,rfl,rfl,rfl⟩:=H
  exact Zbj.leaf
 ·replace H:=ob H
  obtain ⟨⟨qi,qf,qh⟩,A11,H⟩:=H;(try dsimp only at H)
  replace H:=ob H
  obtain ⟨qj,A12,H⟩:=H
  replace H:=gI H
  rcases H with ⟨c13b0,H⟩|⟨c13b0,H⟩
  ·simp only [Option.some.injEq,Prod.mk.injEq] at H
   obtain ⟨rfl,rfl,rfl,rfl⟩:=H
   exact Zbj.leaf
  ·replace H:=dI H
   rcases H with ⟨c26b0,H⟩|⟨c26b0,H⟩
   ·simp only [Option.some.injEq,Prod.mk.injEq] at H
    obtain ⟨rfl,rfl,rfl,rfl⟩:=H
    exact Zbj.leaf
   ·replace H:=gI H
    rcases H with ⟨c40b0,H⟩|⟨c40b0,H⟩
    ·simp only [Option.some.injEq,Prod.mk.injEq] at H
     obtain ⟨rfl,rfl,rfl,rfl⟩:=H
     exact Zbj.leaf
    ·simp only [Option.some.injEq,Prod.mk.injEq] at H
     obtain ⟨rfl,rfl,rfl,rfl⟩:=H
     exact Zbj.leaf
def Zdq.f (k:Nat) (a0_0:Bool) (l0_1:List Int) (a0_2:Int) (a1_0:Bool) (l1_1:List Int) (a1_2:Int):Option (Bool × List Int × Int × Int):=(Zcs.f k (([(⟨a0_0,l0_1,a0_2⟩:S24),(⟨a1_0,l1_1,a1_2⟩:S24)]:List (S24)))).bind fun qf=>(if qf=0 then ((Zu.f k a0_0 l0_1 a0_2 a1_0 l1_1 a1_2).bind fun qd=>((Zbj.f k qd.1 qd.2.1 qd.2.2).bind fun qa=>(some (qa.1,qa.2.1,qa.2.2.1,qa.2.2.2)))) else (some (false,([]:List Int),0,qf)))
theorem Zdq.leaf {P:Prop} (h:P:=by
 go_enter Tryz.func43,Tryz.ntmps43
 go_wp2_with (first|((with_reducible refine gd 2 ?_);refine bx 2 #[.bool a0_0,.slice A0_1 l0_1.length c0_1,.int .i64 a0_2] 24 (h:=?_);intro gb0z hg w1z hbox hb;have BK2z:=am hbox;have GW3z:=gW hg;replace HO0_1:=vE HO0_1 gb0z hg hb;replace HO1_1:=vE HO1_1 gb0z hg hb;replace HB:=bS hb;clear hb hbox hg)|((with_reducible refine gd 3 ?_);refine bx 3 #[.bool a1_0,.slice A1_1 l1_1.length c1_1,.int .i64 a1_2] 24 (h:=?_);intro gb5z hg w6z hbox hb;have BK7z:=am hbox;have GW8z:=gW hg;have q3:=nL hg BK2z;have q4:=nG hg BK2z;replace HO0_1:=vE HO0_1 gb5z hg hb;replace HO1_1:=vE HO1_1 gb5z hg hb;replace BK2z:=bb BK2z hb;replace HB:=bS hb;clear hb hbox hg)|((with_reducible refine gd 4 ?_);refine bx 4 #[.bool false,.slice none 0 0,.int .i64 0] 24 (h:=?_);intro qb hg w13z hbox hb;have qc:=am hbox;have jj:=gW hg;have q5:=nL hg BK2z;have q6:=nG hg BK2z;have q7:=nL hg BK7z;have q8:=nG hg BK7z;replace HO0_1:=vE HO0_1 qb hg hb;replace HO1_1:=vE HO1_1 qb hg hb;replace BK2z:=bb BK2z hb;replace BK7z:=bb BK7z hb;replace HB:=bS hb;clear hb hbox hg;have jd:=q3.o;have jg:=q4.o;have je:=q5.o;have jh:=q6.o;obtain ⟨_,_,_,_,_,_⟩:=cEc BK2z.o;have jf:=q7.o;have ji:=q8.o;obtain ⟨_,_,_,_,_,_⟩:=cEc BK7z.o)|((with_reducible refine gd 9 ?_);refine Kd.Zo1 k24 _ 24 ?hg (N':=9) ?hd (xs:=([(⟨a0_0,l0_1,a0_2⟩:S24),(⟨a1_0,l1_1,a1_2⟩:S24)]:List (S24))) (inner:=[.bool a0_0,.slice A0_1 l0_1.length c0_1,.int .i64 a0_2,.bool a1_0,.slice A1_1 l1_1.length c1_1,.int .i64 a1_2]) (ok:=(fun k_=>((P0_1_ k_\/P1_1_ k_)\/w.heap.size<=k_)/\k_ ≠ gb0z/\k_ ≠ gb5z/\k_ ≠ qb)) (okp:=(fun k_=>((P0_1_ k_\/P1_1_ k_)\/w.heap.size<=k_)/\k_ ≠ gb0z/\k_ ≠ gb5z/\k_ ≠ qb)) ?hr ?hp (fun _ hk=>hk) ((show ∀ k_,w13z.heap.size<=k_->(fun k_=>((P0_1_ k_\/P1_1_ k_)\/w.heap.size<=k_)/\k_ ≠ gb0z/\k_ ≠ gb5z/\k_ ≠ qb) k_ from fun k_ hk=>⟨(.inr (Nat.le_trans (Zb pB) hk)),Kd.freshB (g:=gb0z) (o:=.cells #[.bool a0_0,.slice A0_1 l0_1.length c0_1,.int .i64 a0_2] 24 (0,0)) (Za BK2z.o pl) k_ hk,Kd.freshB (g:=gb5z) (o:=.cells #[.bool a1_0,.slice A1_1 l1_1.length c1_1,.int .i64 a1_2] 24 (0,0)) (Za BK7z.o pl) k_ hk,Kd.freshB (g:=qb) (o:=.cells #[.bool false,.slice none 0 0,.int .i64 0] 24 (0,0)) (Za qc.o pl) k_ hk⟩) _ (Nat.le_refl _)) (Below.refl _ _) (Nat.le_refl _) (by simp) ?_;(case hd=>rfl);(case hg=>rfl);(case hr=>first|(go_simp;done)|(go_simp;rfl));(case hp=>exact (Reps.c3 (show Kd.FK k24 _ _ (⟨a0_0,l0_1,a0_2⟩:S24) [.bool a0_0,.slice A0_1 l0_1.length c0_1,.int .i64 a0_2] from (Zfc _ _ (⟨a0_0,l0_1,a0_2⟩:S24) (Kd.Zai (Kd.Zr (ok':=(fun k_=>((P0_1_ k_\/P1_1_ k_)\/w.heap.size<=k_)/\k_ ≠ gb0z/\k_ ≠ gb5z/\k_ ≠ qb)) (HO0_1.o) (fun k_ hk=>⟨hk.1.1.1,⟨hk.1.1.2,⟨hk.1.2,hk.2⟩⟩⟩))).2.1 (Kd.V_F (Kd.Zr (ok':=(fun k_=>((P0_1_ k_\/P1_1_ k_)\/w.heap.size<=k_)/\k_ ≠ gb0z/\k_ ≠ gb5z/\k_ ≠ qb)) (HO0_1.o) (fun k_ hk=>⟨hk.1.1.1,⟨hk.1.1.2,⟨hk.1.2,hk.2⟩⟩⟩))))) (Reps.c3 (show Kd.FK k24 _ _ (⟨a1_0,l1_1,a1_2⟩:S24) [.bool a1_0,.slice A1_1 l1_1.length c1_1,.int .i64 a1_2] from (Zfc _ _ (⟨a1_0,l1_1,a1_2⟩:S24) (Kd.Zai (Kd.Zr (ok':=(fun k_=>((P0_1_ k_\/P1_1_ k_)\/w.heap.size<=k_)/\k_ ≠ gb0z/\k_ ≠ gb5z/\k_ ≠ qb)) (HO1_1.o) (fun k_ hk=>⟨hk.1.1.1,⟨hk.1.1.2,⟨hk.1.2,hk.2⟩⟩⟩))).2.1 (Kd.V_F (Kd.Zr (ok':=(fun k_=>((P0_1_ k_\/P1_1_ k_)\/w.heap.size<=k_)/\k_ ≠ gb0z/\k_ ≠ gb5z/\k_ ≠ qb)) (HO1_1.o) (fun k_ hk=>⟨hk.1.1.1,⟨hk.1.1.2,⟨hk.1.2,hk.2⟩⟩⟩))))) (Reps.none _ _))));intro v39z w40z ho41z hb hg_ hnew_;clear hg_ hnew_;(first|rw [<- qn.out] at ho41z|(simp only [Int.reduceToNat] at ho41z;rw [<- qn.out] at ho41z));replace HO0_1:=am (Kd.Zbn (Kd.Zam HO0_1.o pl) (Kd.Zgx ho41z) hb);replace HO1_1:=am (Kd.Zbn (Kd.Zam HO1_1.o pl) (Kd.Zgx ho41z) hb);have qe:=am (Kd.Ziu ho41z (Zb pB));replace BK2z:=bb BK2z hb;replace BK7z:=bb BK7z hb;replace qc:=bb qc hb;replace HB:=bS hb;clear hb ho41z;obtain ⟨qk,ql,q9⟩:=Kd.Ziv qe.o;subst q9)|((have q_:=A6;clear q_);refine gL (some 10) Tryz.func99 #[.slice qk qh.length ql] (h:=?_);(with_reducible refine (Zcs.calls k _ _ qh qf _ ?side1 ?side2 A3.o).mono ?_);(case side1=>exact Kd.Zv (Kd.Zdi qe.o).2.2 pl);(case side2=>exact (Kd.Zdi qe.o).2.1);rintro e w46z ⟨rfl,hb⟩;refine ⟨_,rfl,?_⟩;replace HO0_1:=vbl HO0_1 hb;replace HO1_1:=vbl HO1_1 hb;replace qe:=nbl qe hb;replace BK2z:=bb BK2z hb;replace BK7z:=bb BK7z hb;replace qc:=bb qc hb;replace HB:=bS hb;obtain ⟨qx,qy,qz,q0,q1,q2⟩:=cEc BK2z.o;obtain ⟨_,_,_,_,_,_⟩:=cEc BK7z.o)|(refine gL (some 19) Tryz.func101 #[.agg #[.bool a0_0,.slice A0_1 l0_1.length c0_1,.int .i64 a0_2],.agg #[.bool a1_0,.slice A1_1 l1_1.length c1_1,.int .i64 a1_2]] (h:=?_);(with_reducible refine (Zu.calls k a0_0 _ _ l0_1 a0_2 a1_0 _ _ l1_1 a1_2 qp qi qq _ ?side1 ?side2 ?side3 ?side4 A5.o).mono ?_);(case side1=>exact Kd.Zv (Kd.Zai HO0_1.o).2.2 pl);(case side2=>exact (Kd.Zai HO0_1.o).2.1);(case side3=>exact Kd.Zv (Kd.Zai HO1_1.o).2.2 pl);(case side4=>exact (Kd.Zai HO1_1.o).2.1);rintro e w59z ⟨v60z,rfl,ho61z,hb⟩;refine ⟨_,rfl,?_⟩;replace HO0_1:=am (Kd.Zbn (Kd.Zam HO0_1.o pl) (Kd.Zbh ho61z) hb);replace HO1_1:=am (Kd.Zbn (Kd.Zam HO1_1.o pl) (Kd.Zbh ho61z) hb);replace qe:=am (Kd.Zfj (Kd.Zcf qe.o pl) (Kd.Zbh ho61z) hb);have qg:=am (Kd.Zt (Kd.Ze4 (M:=fun k_=>(w.heap.size<=k_)) ho61z (Zb pB) (fun k_ h_=>h_)) (Zb pB));replace BK2z:=bb BK2z hb;replace BK7z:=bb BK7z hb;replace qc:=bb qc hb;replace HB:=bS hb;obtain ⟨qm,qo,ja⟩:=Kd.Zm qg.o;subst ja)|(refine gL (some 20) Tryz.func100 #[.agg #[.bool qp,.slice qm qi.length qo,.int .i64 qq]] (h:=?_);(with_reducible refine (Zbj.calls k qp (fun k_=>some k_=(.slice qm qi.length qo:Value).ownBlock) (.slice qm qi.length qo) qi qq qr qs qt jc w _ ?side1 ?side2 A6.o).mono ?_);(case side1=>exact pB);(case side2=>exact Kd.Zbc rfl qg.o);rintro e w66z ⟨v67z,rfl,ho61z,hb,hkp⟩;refine ⟨_,rfl,?_⟩;have qv:=am (Kd.Zi (ok':=fun k_=>(w.heap.size<=k_)) ho61z (fun k_ hk_=>Or.elim hk_ (fun hs_=>(qg.o.1 k_ (hs_).symm).1) (fun hn_=>(Nat.le_trans (Zb pB) hn_))));replace HO0_1:=am (Kd.Zr (ok':=fun k_=>((P0_1_ k_\/P1_1_ k_)\/w.heap.size<=k_)/\some k_ ≠ (.slice qk qh.length ql:Value).ownBlock/\k_ ≠ gb0z/\k_ ≠ gb5z/\k_ ≠ qb/\some k_ ≠ (v67z:Value).ownBlock) (Kd.Zdf (HO0_1.o) hkp (fun k_ hk_ hs_=>(hk_.2) hs_)) (fun k_ hk_=>⟨hk_.1.1.1.1.1.1,hk_.1.1.2,hk_.1.1.1.1.1.2,hk_.1.1.1.1.2,hk_.1.1.1.2,fun e_=>Or.elim (ho61z.1 k_ e_.symm) (fun hs_=>hk_.2.1 hs_) (fun hn_=>Nat.not_le.2 hk_.2.2 hn_)⟩));replace HO1_1:=am (Kd.Zr (ok':=fun k_=>((P0_1_ k_\/P1_1_ k_)\/w.heap.size<=k_)/\some k_ ≠ (.slice qk qh.length ql:Value).ownBlock/\k_ ≠ gb0z/\k_ ≠ gb5z/\k_ ≠ qb/\some k_ ≠ (v67z:Value).ownBlock) (Kd.Zdf (HO1_1.o) hkp (fun k_ hk_ hs_=>(hk_.2) hs_)) (fun k_ hk_=>⟨hk_.1.1.1.1.1.1,hk_.1.1.2,hk_.1.1.1.1.1.2,hk_.1.1.1.1.2,hk_.1.1.1.2,fun e_=>Or.elim (ho61z.1 k_ e_.symm) (fun hs_=>hk_.2.1 hs_) (fun hn_=>Nat.not_le.2 hk_.2.2 hn_)⟩));replace BK2z:=am (Zan (Za BK2z.o pl) hkp (fun e_=>Kd.R_ne qg.o BK2z.o (by decide) e_));replace BK7z:=am (Zan (Za BK7z.o pl) hkp (fun e_=>Kd.R_ne qg.o BK7z.o (by decide) e_));replace qc:=am (Zan (Za qc.o pl) hkp (fun e_=>Kd.R_ne qg.o qc.o (by decide) e_));replace qe:=am (Kd.Zec (ok':=fun k_=>((P0_1_ k_\/P1_1_ k_)\/w.heap.size<=k_)/\k_ ≠ gb0z/\k_ ≠ gb5z/\k_ ≠ qb/\some k_ ≠ (v67z:Value).ownBlock) (Kd.Zit (qe.o) hkp (fun k_ hk_ hs_=>(hk_.2) hs_)) (fun k_ hk_=>⟨hk_.1.1.1,hk_.1.1.2.1,hk_.1.1.2.2.1,hk_.1.1.2.2.2,fun e_=>Or.elim (ho61z.1 k_ e_.symm) (fun hs_=>hk_.2.1 hs_) (fun hn_=>Nat.not_le.2 hk_.2.2 hn_)⟩));replace HB:=am hb;clear qg;obtain ⟨_,_,_,_,_,_⟩:=cEc qc.o;obtain ⟨qu,qw,jb⟩:=Kd.Zm qv.o;subst jb)|((have q_:(qf != 0)=true:=c4b1;clear q_);refine gL (some 10) Tryz.func99 #[.slice qk qh.length ql] (h:=?_);(with_reducible refine (Zcs.calls k _ _ qh qf _ ?side1 ?side2 A3.o).mono ?_);(case side1=>exact Kd.Zv (Kd.Zdi qe.o).2.2 pl);(case side2=>exact (Kd.Zdi qe.o).2.1);rintro e w46z ⟨rfl,hb⟩;refine ⟨_,rfl,?_⟩;replace HO0_1:=vbl HO0_1 hb;replace HO1_1:=vbl HO1_1 hb;replace qe:=nbl qe hb;replace BK2z:=bb BK2z hb;replace BK7z:=bb BK7z hb;replace qc:=bb qc hb;replace HB:=bS hb;obtain ⟨qx,qy,qz,q0,q1,q2⟩:=cEc qc.o))
 first
  | have q_:=A6
    refine bodyPost_ret (Zbd rfl _ _ qb 24 #[.bool qr,.slice qu qs.length qw,.int .i64 qt] (0,0) _ rfl (by exact p3 qc) Tryz.underlying24 rfl (by kernel_rfl)) rfl ?_
    exact ⟨_,pE,by refine rp ?_;exact Kd.Zi (Kd.Zj (p:=⟨qb,2,none⟩) (Kd.Zj (p:=⟨qb,1,none⟩) (Kd.Zj (p:=⟨qb,0,none⟩) (Kd.Zg qv.o qc.o (by decide)) (fun _ hk=>hk.2) (.bool qr)) (fun _ hk=>hk.2) (.slice qu qs.length qw)) (fun _ hk=>hk.2) (.int .i64 qt)) (fun _ hk=>hk.1),pB⟩
  | refine bodyPost_ret (Zbd rfl _ _ qb 24 #[.bool false,.slice none 0 0,.int .i64 0] (0,0) _ rfl (by exact p3 qc) Tryz.underlying24 rfl (by kernel_rfl)) rfl ?_
    exact ⟨_,pE,pN,pB⟩):P:=h
theorem Zdq.calls (k:Nat) (a0_0:Bool) (P0_1_:Nat->Prop) (A0_1:Option Addr) (c0_1:Nat) (l0_1:List Int) (a0_2:Int) (a1_0:Bool) (P1_1_:Nat->Prop) (A1_1:Option Addr) (c1_1:Nat) (l1_1:List Int) (a1_2:Int) (r1:Bool) (r2:List Int) (r3:Int) (r4:Int) (w:World) (hs0_1:Kd.V (Kd.int .u32) 85 w w.heap.size (fun k_=>P0_1_ k_) (.slice A0_1 l0_1.length c0_1) l0_1) (hs1_1:Kd.V (Kd.int .u32) 85 w w.heap.size (fun k_=>P1_1_ k_) (.slice A1_1 l1_1.length c1_1) l1_1) (h:Zdq.f k a0_0 l0_1 a0_2 a1_0 l1_1 a1_2=some (r1,r2,r3,r4)) :
  Calls Tryz.prog 43 #[.agg #[.bool a0_0,.slice A0_1 l0_1.length c0_1,.int .i64 a0_2],.agg #[.bool a1_0,.slice A1_1 l1_1.length c1_1,.int .i64 a1_2]] w fun e w' => ∃ v1_:Value,e=.returned (.tuple #[.agg #[.bool r1,v1_,.int .i64 r3],.int .i64 r4])/\Kd.R (Kd.int .u32) 85 w' w.heap.size (fun k_=>(w.heap.size<=k_)) v1_ r2/\Below w.heap.size w w':=by
 have hu24:=Tryz.underlying24
 have jk:=Tryz.underlying106
 have HO0_1:=am (show Kd.V (Kd.int .u32) 85 w w.heap.size (fun k_=>((P0_1_ k_\/P1_1_ k_)\/w.heap.size<=k_)) (.slice A0_1 l0_1.length c0_1) l0_1 from Kd.Zr hs0_1 (fun k_ hk=>.inl (.inl hk)))
 have HO1_1:=am (show Kd.V (Kd.int .u32) 85 w w.heap.size (fun k_=>((P0_1_ k_\/P1_1_ k_)\/w.heap.size<=k_)) (.slice A1_1 l1_1.length c1_1) l1_1 from Kd.Zr hs1_1 (fun k_ hk=>.inl (.inr hk)))
 have HB:=am (Below.refl w.heap.size w)
 have H:((Zcs.f k (([(⟨a0_0,l0_1,a0_2⟩:S24),(⟨a1_0,l1_1,a1_2⟩:S24)]:List (S24)))).bind fun qf=>(if qf=0 then ((Zu.f k a0_0 l0_1 a0_2 a1_0 l1_1 a1_2).bind fun qd=>((Zbj.f k qd.1 qd.2.1 qd.2.2).bind fun qa=>(some (qa.1,qa.2.1,qa.2.2.1,qa.2.2.2)))) else (some (false,([]:List Int),0,qf))))=some (r1,r2,r3,r4):=h
 clear h
 obtain ⟨qh,qj⟩:∃ y_:List (S24),y_=(([(⟨a0_0,l0_1,a0_2⟩:S24),(⟨a1_0,l1_1,a1_2⟩:S24)]:List (S24))):=⟨_,rfl⟩
 replace H:((Zcs.f k qh).bind fun qf=>(if qf=0 then ((Zu.f k a0_0 l0_1 a0_2 a1_0 l1_1 a1_2).bind fun qd=>((Zbj.f k qd.1 qd.2.1 qd.2.2).bind fun qa=>(some (qa.1,qa.2.1,qa.2.2.1,qa.2.2.2)))) else (some (false,([]:List Int),0,qf))))=some (r1,r2,r3,r4):=by have hy_:=qj;exact pH
 have qn:=am qj
 clear qj
 replace H:=ob H
 obtain ⟨qf,A3,H⟩:=H
 replace H:=eI H
 rcases H with ⟨c4b0,c4b1,H⟩|⟨c4,c4b0,c4b1,H⟩
 ·replace H:=ob H
  obtain ⟨⟨qp,qi,qq⟩,A5,H⟩:=H;(try dsimp only at H)
  replace H:=ob H
  obtain ⟨⟨qr,qs,qt,jc⟩,A6,H⟩:=H;(try dsimp only at H)
  simp only [Option.some.injEq,Prod.mk.injEq] at H
  obtain ⟨rfl,rfl,rfl,rfl⟩:=H
  exact Zdq.leaf
 ·simp only [Option.some.injEq,Prod.mk.injEq] at H
  obtain ⟨rfl,rfl,rfl,rfl⟩:=H
  exact Zdq.leaf
def Zbb.f (a0_0:Bool) (l0_1:List Int) (a0_2:Int):Option (Bool × List Int × Int):=if a0_0=true then (some (false,l0_1,a0_2)) else ((Za0.f a0_0 l0_1 a0_2).bind fun qe=>(some (!qe,l0_1,a0_2)))
theorem Zbb.calls (a0_0:Bool) (P0_1_:Nat->Prop) (A0_1:Option Addr) (c0_1:Nat) (l0_1:List Int) (a0_2:Int) (r1:Bool) (r2:List Int) (r3:Int) (w:World) (hs0_1:Kd.V (Kd.int .u32) 85 w w.heap.size (fun k_=>P0_1_ k_) (.slice A0_1 l0_1.length c0_1) l0_1) (h:Zbb.f a0_0 l0_1 a0_2=some (r1,r2,r3)) :
  Calls Tryz.prog 103 #[.agg #[.bool a0_0,.slice A0_1 l0_1.length c0_1,.int .i64 a0_2]] w fun e w' => ∃ v1_:Value,e=.returned (.agg #[.bool r1,v1_,.int .i64 r3])/\Kd.V (Kd.int .u32) 85 w' w.heap.size (fun k_=>(P0_1_ k_\/w.heap.size<=k_)) v1_ r2/\Below w.heap.size w w':=by
 have qn:=Tryz.underlying106
 have HO0_1:=am (show Kd.V (Kd.int .u32) 85 w w.heap.size (fun k_=>(P0_1_ k_\/w.heap.size<=k_)) (.slice A0_1 l0_1.length c0_1) l0_1 from Kd.Zr hs0_1 (fun k_ hk=>.inl hk))
 have HB:=am (Below.refl w.heap.size w)
 have H:(if a0_0=true then (some (false,l0_1,a0_2)) else ((Za0.f a0_0 l0_1 a0_2).bind fun qe=>(some (!qe,l0_1,a0_2))))=some (r1,r2,r3):=h
 clear h
 replace H:=tI (t:=a0_0) H
 rcases H with ⟨rfl,H⟩|⟨rfl,H⟩
 ·simp only [Option.some.injEq,Prod.mk.injEq] at H
  obtain ⟨rfl,rfl,rfl⟩:=H
  go_enter Tryz.func103,Tryz.ntmps103
  go_wp2_with (first|((with_reducible refine gd 1 ?_);refine bx 1 #[.bool true,.slice A0_1 l0_1.length c0_1,.int .i64 a0_2] 106 (h:=?_);intro qg hg w3 hbox hb;have qa:=am hbox;have qj:=gW hg;have qh:=gW hg;replace HO0_1:=vE HO0_1 qg hg hb;replace HB:=bS hb;clear hb hbox hg)|((with_reducible refine gd 2 ?_);refine bx 2 #[.bool false,.slice none 0 0,.int .i64 0] 106 (h:=?_);intro qb hg w4 hbox hb;have qf:=am hbox;have qk:=gW hg;have qi:=gW hg;have qd:=nL hg qa;have qc:=nG hg qa;replace HO0_1:=vE HO0_1 qb hg hb;replace qa:=bb qa hb;replace HB:=bS hb;clear hb hbox hg;have hnb5:=qd.o;have hnc5:=qc.o;obtain ⟨_,_,_,_,_,_⟩:=cEc qa.o;obtain ⟨_,_,_,_,_,_⟩:=cEc qf.o))
  refine bodyPost_ret (results_cell_row rfl _ _ qb 106 #[.bool false,.slice A0_1 l0_1.length c0_1,.int .i64 a0_2] (0,0) _ rfl (by refine bp ?_;refine Zab (cs:=#[.bool false,.slice A0_1 l0_1.length c0_1,.int .i64 0]) ?_ 2 _ rfl;refine bp ?_;refine Zab (cs:=#[.bool false,.slice none 0 0,.int .i64 0]) ?_ 1 _ rfl;refine bp ?_;refine Zab (cs:=#[.bool false,.slice none 0 0,.int .i64 0]) ?_ 0 _ rfl;refine bq ?_ qc;exact bp qf.o) Tryz.underlying106 rfl (by kernel_rfl)) rfl ?_
  exact ⟨_,pE,by refine vp ?_;exact Kd.Zr (Kd.Zav (p:=⟨qb,2,none⟩) (Kd.Zav (p:=⟨qb,1,none⟩) (Kd.Zav (p:=⟨qb,0,none⟩) (Kd.Zav (p:=⟨qg,0,none⟩) (Kd.Zr (Kd.Zr HO0_1.o (fun k_ hk=>(⟨hk,hk.1.2⟩:_/\k_ ≠ qg))) (fun k_ hk=>(⟨hk,hk.1.2⟩:_/\k_ ≠ qb))) (fun _ hk=>hk.1.2) (.bool false)) (fun _ hk=>hk.2) (.bool false)) (fun _ hk=>hk.2) (.slice A0_1 l0_1.length c0_1)) (fun _ hk=>hk.2) (.int .i64 a0_2)) (fun _ hk=>hk.1.1.1.1),pB⟩
 ·replace H:=ob H
  obtain ⟨qe,A8,H⟩:=H
  simp only [Option.some.injEq,Prod.mk.injEq] at H
  obtain ⟨rfl,rfl,rfl⟩:=H
  go_enter Tryz.func103,Tryz.ntmps103
  go_wp2_with (first|((with_reducible refine gd 1 ?_);refine bx 1 #[.bool false,.slice A0_1 l0_1.length c0_1,.int .i64 a0_2] 106 (h:=?_);intro qg hg w9 hbox hb;have qa:=am hbox;have qj:=gW hg;have qh:=gW hg;replace HO0_1:=vE HO0_1 qg hg hb;replace HB:=bS hb;clear hb hbox hg)|((with_reducible refine gd 2 ?_);refine bx 2 #[.bool false,.slice none 0 0,.int .i64 0] 106 (h:=?_);intro qb hg w10 hbox hb;have qf:=am hbox;have qk:=gW hg;have qi:=gW hg;have qd:=nL hg qa;have qc:=nG hg qa;replace HO0_1:=vE HO0_1 qb hg hb;replace qa:=bb qa hb;replace HB:=bS hb;clear hb hbox hg;have ql:=qd.o;have qm:=qc.o;obtain ⟨_,_,_,_,_,_⟩:=cEc qa.o)|(go_at_call 104;(with_reducible refine (Za0.calls false _ _ l0_1 a0_2 qe _ ?side1 ?side2 A8.o).mono ?_);(case side1=>exact Kd.Zv (Kd.Zai HO0_1.o).2.2 pl);(case side2=>exact (Kd.Zai HO0_1.o).2.1);rintro e w13 ⟨rfl,hb⟩;replace HO0_1:=vbl HO0_1 hb;replace qa:=bb qa hb;replace qf:=bb qf hb;replace HB:=bS hb;obtain ⟨_,_,_,_,_,_⟩:=cEc qa.o;obtain ⟨_,_,_,_,_,_⟩:=cEc qf.o))
  refine bodyPost_ret (results_cell_row rfl _ _ qb 106 #[.bool (!qe),.slice A0_1 l0_1.length c0_1,.int .i64 a0_2] (0,0) _ rfl (by refine bp ?_;refine Zab (cs:=#[.bool (!qe),.slice A0_1 l0_1.length c0_1,.int .i64 0]) ?_ 2 _ rfl;refine bp ?_;refine Zab (cs:=#[.bool (!qe),.slice none 0 0,.int .i64 0]) ?_ 1 _ rfl;refine bp ?_;refine Zab (cs:=#[.bool false,.slice none 0 0,.int .i64 0]) ?_ 0 _ rfl;refine bq ?_ qc;exact bp qf.o) Tryz.underlying106 rfl (by kernel_rfl)) rfl ?_
  exact ⟨_,pE,by refine vp ?_;exact Kd.Zr (Kd.Zav (p:=⟨qb,2,none⟩) (Kd.Zav (p:=⟨qb,1,none⟩) (Kd.Zav (p:=⟨qb,0,none⟩) (Kd.Zav (p:=⟨qg,0,none⟩) (Kd.Zr (Kd.Zr HO0_1.o (fun k_ hk=>(⟨hk,hk.1.2⟩:_/\k_ ≠ qg))) (fun k_ hk=>(⟨hk,hk.1.2⟩:_/\k_ ≠ qb))) (fun _ hk=>hk.1.2) (.bool (!qe))) (fun _ hk=>hk.2) (.bool (!qe))) (fun _ hk=>hk.2) (.slice A0_1 l0_1.length c0_1)) (fun _ hk=>hk.2) (.int .i64 a0_2)) (fun _ hk=>hk.1.1.1.1),pB⟩
end YtjbjkmccfocikaaGreatDoor.B
end
section
namespace YtjbjkmccfocikaaGreatDoor.B
open Go.RowKit YtjbjkmccfocikaaGreatDoorW.PrintWords YtjbjkmccfocikaaGreatDoorW.PrintLast YtjbjkmccfocikaaGreatDoorW.PrintMore
attribute [local go_sem] Instr.field asAgg
attribute [local go_sem] Zb3 Zb5 Zcp Zcq Zbs Zbt Zb4 Zb6
def Zea.f (k:Nat) (a0_0:Bool) (l0_1:List Int) (a0_2:Int):Option (Bool × List Int × Int × Int):=(Zbk.f k a0_0 l0_1 a0_2).bind fun qd=>(if qd=0 then ((Zao.f l0_1).bind fun qa=>((Zbb.f a0_0 qa a0_2).bind fun qb=>(some (qb.1,qb.2.1,qb.2.2,0)))) else (some (false,([]:List Int),0,qd)))
theorem Zea.leaf {P:Prop} (h:P:=by
 go_enter Tryz.func44,Tryz.ntmps44
 go_wp2_with (first|((with_reducible refine gd 1 ?_);refine bx 1 #[.bool a0_0,.slice A0_1 l0_1.length c0_1,.int .i64 a0_2] 24 (h:=?_);intro gb0z hg w1z hbox hb;have BK2z:=am hbox;have GW3z:=gW hg;replace HB:=bS hb;clear hb hbox hg)|((with_reducible refine gd 2 ?_);refine bx 2 #[.bool false,.slice none 0 0,.int .i64 0] 24 (h:=?_);intro gb5z hg w6z hbox hb;have BK7z:=am hbox;have GW8z:=gW hg;have qt:=nL hg BK2z;have ql:=nG hg BK2z;replace BK2z:=bb BK2z hb;replace HB:=bS hb;clear hb hbox hg;have qw:=qt.o;have qx:=ql.o;obtain ⟨_,_,_,_,_,_⟩:=cEc BK2z.o)|((have q_:=A5;clear q_);refine gL (some 6) Tryz.func55 #[.agg #[.bool a0_0,.slice A0_1 l0_1.length c0_1,.int .i64 a0_2]] (h:=?_);(with_reducible refine (Zbk.calls k a0_0 _ _ l0_1 a0_2 qd _ ?side1 ?side2 A2.o).mono ?_);(case side1=>exact cB HR0_1 HB);(case side2=>exact HC0_1.o);rintro e w20z ⟨rfl,hb⟩;refine ⟨_,rfl,?_⟩;replace BK2z:=bb BK2z hb;replace BK7z:=bb BK7z hb;replace HB:=bS hb;obtain ⟨qn,qo,qp,qq,qr,qs⟩:=cEc BK2z.o)|(refine gL (some 13) Tryz.func102 #[.slice A0_1 l0_1.length c0_1] (h:=?_);(with_reducible refine (Zao.calls _ _ l0_1 qa _ ?side1 ?side2 A4.o).mono ?_);(case side1=>exact cB HR0_1 HB);(case side2=>exact HC0_1.o);rintro e w27z ⟨v28z,rfl,ho29z,hb⟩;refine ⟨_,rfl,?_⟩;have qc:=am (Kd.Zt (Kd.Ze4 (M:=fun k_=>(w.heap.size<=k_)) ho29z (Zb pB) (fun k_ h_=>h_)) (Zb pB));replace BK2z:=bb BK2z hb;replace BK7z:=bb BK7z hb;replace HB:=bS hb;obtain ⟨qe,qf,qu⟩:=Kd.Zm qc.o;subst qu;obtain ⟨_,_,_,_,_,_⟩:=cEc BK2z.o)|((with_reducible refine Zcv (t:=22) (p:=14) rfl ?_);refine Zcj (t:=22) (p:=14) (v:=?vo_w15) (w1:=(w27z.setCell ⟨gb0z,1,none⟩ (.slice qe qa.length qf))) ?hg ?ho ?hn ?hr ?_;(case ho=>rfl);(case hg=>rfl);(case hn=>rfl);(case hr=>first|(go_simp;done)|(go_simp;rfl));intro w40z hw;replace qc:Aside0 (Kd.R (Kd.int .u32) 85 w40z w.heap.size (fun k_=>(w.heap.size<=k_)) (.slice qe qa.length qf) qa):=⟨(by rw [hw];exact (Kd.Zc (Kd.Zi (Kd.Zj (p:=⟨gb0z,1,none⟩) (Kd.Zg qc.o BK2z.o (by decide)) (fun _ hk=>hk.2) (.slice qe qa.length qf)) (fun _ hk=>hk.1.1)) pl))⟩;replace BK2z:Aside0 (w40z.heap[gb0z]? = some (.cells #[.bool a0_0,.slice qe qa.length qf,.int .i64 a0_2] 24 (0,0))):=⟨(by rw [hw];exact (by refine bp ?_;refine Zab (cs:=#[.bool a0_0,.slice A0_1 l0_1.length c0_1,.int .i64 a0_2]) ?_ 1 _ rfl;exact bp BK2z.o))⟩;replace BK7z:Aside0 (w40z.heap[gb5z]? = some (.cells #[.bool false,.slice none 0 0,.int .i64 0] 24 (0,0))):=⟨(by rw [hw];exact (bf ql.o BK7z.o))⟩;replace HB:Aside0 (Below w.heap.size w w40z):=⟨(by rw [hw];exact pB)⟩;clear hw;obtain ⟨_,_,_,_,_,_⟩:=cEc BK2z.o)|(refine gL (some 17) Tryz.func103 #[.agg #[.bool a0_0,.slice qe qa.length qf,.int .i64 a0_2]] (h:=?_);(with_reducible refine (Zbb.calls a0_0 (fun k_=>some k_=(.slice qe qa.length qf:Value).ownBlock) _ _ qa a0_2 qg qh qi _ ?side1 A5.o).mono ?_);(case side1=>exact Kd.R_V (Kd.Zbc rfl (Kd.Zg (Kd.Zg (qc.o) BK2z.o (by decide)) BK7z.o (by decide))));rintro e w47z ⟨v48z,rfl,ho29z,hb⟩;refine ⟨_,rfl,?_⟩;have qk:=am (Kd.Zex (Kd.Zr (ok':=fun k_=>(w.heap.size<=k_)/\k_ ≠ gb0z/\k_ ≠ gb5z) ho29z (fun k_ hk_=>⟨Or.elim hk_ (fun hs_=>((Kd.Zg (Kd.Zg (qc.o) BK2z.o (by decide)) BK7z.o (by decide)).1 k_ hs_.symm).1.1) (fun hn_=>(Nat.le_trans (Zb pB) hn_)),Or.elim hk_ (fun hs_=>((Kd.Zg (Kd.Zg (qc.o) BK2z.o (by decide)) BK7z.o (by decide)).1 k_ hs_.symm).1.2) (fun hn_=>(Kd.freshB (g:=gb0z) (o:=.cells #[.bool a0_0,.slice qe qa.length qf,.int .i64 a0_2] 24 (0,0)) (Za BK2z.o pl) k_ hn_)),Or.elim hk_ (fun hs_=>((Kd.Zg (Kd.Zg (qc.o) BK2z.o (by decide)) BK7z.o (by decide)).1 k_ hs_.symm).2) (fun hn_=>(Kd.freshB (g:=gb5z) (o:=.cells #[.bool false,.slice none 0 0,.int .i64 0] 24 (0,0)) (Za BK7z.o pl) k_ hn_))⟩)) (Zb pB));replace qc:=rbl qc hb;replace BK2z:=bb BK2z hb;replace BK7z:=bb BK7z hb;replace HB:=bS hb;obtain ⟨_,_,_,_,_,_⟩:=cEc BK7z.o;obtain ⟨qj,qm,qv⟩:=Kd.Zdu qk.o;subst qv)|((have q_:(qd != 0)=true:=c3b1;clear q_);refine gL (some 6) Tryz.func55 #[.agg #[.bool a0_0,.slice A0_1 l0_1.length c0_1,.int .i64 a0_2]] (h:=?_);(with_reducible refine (Zbk.calls k a0_0 _ _ l0_1 a0_2 qd _ ?side1 ?side2 A2.o).mono ?_);(case side1=>exact cB HR0_1 HB);(case side2=>exact HC0_1.o);rintro e w20z ⟨rfl,hb⟩;refine ⟨_,rfl,?_⟩;replace BK2z:=bb BK2z hb;replace BK7z:=bb BK7z hb;replace HB:=bS hb;obtain ⟨qn,qo,qp,qq,qr,qs⟩:=cEc BK7z.o))
 first
  | have q_:=A5
    refine bodyPost_ret (Zbd rfl _ _ gb5z 24 #[.bool qg,.slice qj qh.length qm,.int .i64 qi] (0,0) _ rfl (by exact p3 BK7z) Tryz.underlying24 rfl (by kernel_rfl)) rfl ?_
    exact ⟨_,pE,by refine vp ?_;exact Kd.Zr (Kd.Zav (p:=⟨gb5z,2,none⟩) (Kd.Zav (p:=⟨gb5z,1,none⟩) (Kd.Zav (p:=⟨gb5z,0,none⟩) (Kd.Zr qk.o (fun k_ hk=>(⟨hk,hk.2.2⟩:_/\k_ ≠ gb5z))) (fun _ hk=>hk.2) (.bool qg)) (fun _ hk=>hk.2) (.slice qj qh.length qm)) (fun _ hk=>hk.2) (.int .i64 qi)) (fun _ hk=>hk.1.1),pB⟩
  | refine bodyPost_ret (Zbd rfl _ _ gb5z 24 #[.bool false,.slice none 0 0,.int .i64 0] (0,0) _ rfl (by exact p3 BK7z) Tryz.underlying24 rfl (by kernel_rfl)) rfl ?_
    exact ⟨_,pE,(by first|exact Kd.Zry _ _ _ _ _|exact Kd.R_V (base:=w.heap.size) (Kd.Zh1 _ _ _ _ _)),pB⟩):P:=h
theorem Zea.calls (k:Nat) (a0_0:Bool) (A0_1:Option Addr) (c0_1:Nat) (l0_1:List Int) (a0_2:Int) (r1:Bool) (r2:List Int) (r3:Int) (r4:Int) (w:World) (hr0_1:Kd.C (Kd.int .u32) w A0_1 l0_1.length l0_1) (hc0_1:l0_1.length<=c0_1) (h:Zea.f k a0_0 l0_1 a0_2=some (r1,r2,r3,r4)) :
  Calls Tryz.prog 44 #[.agg #[.bool a0_0,.slice A0_1 l0_1.length c0_1,.int .i64 a0_2]] w fun e w' => ∃ v1_:Value,e=.returned (.tuple #[.agg #[.bool r1,v1_,.int .i64 r3],.int .i64 r4])/\Kd.V (Kd.int .u32) 85 w' w.heap.size (fun k_=>(w.heap.size<=k_)) v1_ r2/\Below w.heap.size w w':=by
 have hu24:=Tryz.underlying24
 have qy:=Tryz.underlying106
 have HR0_1:=am hr0_1
 have HC0_1:=am hc0_1
 clear hr0_1 hc0_1
 have HB:=am (Below.refl w.heap.size w)
 have H:((Zbk.f k a0_0 l0_1 a0_2).bind fun qd=>(if qd=0 then ((Zao.f l0_1).bind fun qa=>((Zbb.f a0_0 qa a0_2).bind fun qb=>(some (qb.1,qb.2.1,qb.2.2,0)))) else (some (false,([]:List Int),0,qd))))=some (r1,r2,r3,r4):=h
 clear h
 replace H:=ob H
 obtain ⟨qd,A2,H⟩:=H
 replace H:=eI H
 rcases H with ⟨c3b0,c3b1,H⟩|⟨c3,c3b0,c3b1,H⟩
 ·replace H:=ob H
  obtain ⟨qa,A4,H⟩:=H
  replace H:=ob H
  obtain ⟨⟨qg,qh,qi⟩,A5,H⟩:=H;(try dsimp only at H)
  simp only [Option.some.injEq,Prod.mk.injEq] at H
  obtain ⟨rfl,rfl,rfl,rfl⟩:=H
  exact Zea.leaf
 ·simp only [Option.some.injEq,Prod.mk.injEq] at H
  obtain ⟨rfl,rfl,rfl,rfl⟩:=H
  exact Zea.leaf
end YtjbjkmccfocikaaGreatDoor.B
end
section
namespace YtjbjkmccfocikaaGreatDoor.B
open Go.RowKit YtjbjkmccfocikaaGreatDoorW.PrintWords YtjbjkmccfocikaaGreatDoorW.PrintLast YtjbjkmccfocikaaGreatDoorW.PrintMore
attribute [local go_sem] Zb3 Zb5 Zcp Zcq Zbs Zbt Zb4 Zb6
def Zbl.f (k:Nat) (a0_0:Bool) (l0_1:List Int) (a0_2:Int) (a1_0:Bool) (l1_1:List Int) (a1_2:Int):Option (Int × Int):=(Zcs.f k (([(⟨a0_0,l0_1,a0_2⟩:S24),(⟨a1_0,l1_1,a1_2⟩:S24)]:List (S24)))).bind fun qw=>(if qw=0 then ((Zbb.f a1_0 l1_1 a1_2).bind fun qs=>((Zu.f k a0_0 l0_1 a0_2 qs.1 qs.2.1 qs.2.2).bind fun qp=>((Za0.f qp.1 qp.2.1 qp.2.2).bind fun qx=>(if qx=true then (some (0,0)) else (if qp.1=true then (some ((-1),0)) else (some (1,0))))))) else (some (0,qw)))
def Zbl.T4:Bool × List (List Nat × List Nat):=(true,[([],[]),([0],[0]),([],[]),([2],[2]),([3],[3]),([1,4,4],[1,4]),([],[]),([6,5,5,0,1,2,3,4,5,6],[5,6])])
def Zbl.B4:List Nat:=[0,1,0,4,12,31,0,127]
theorem Zbl.tab4:rtab .any (opsOf Tryz.f48 4)=Zbl.T4:=by kernel_rfl
theorem Zbl.bits4:waitsOk Zbl.T4.2 Zbl.B4=true:=by kernel_rfl
theorem Zbl.leaf {P:Prop} (h:P:=by
 go_enter Tryz.func48,Tryz.ntmps48
 try go_wp2_with (first|((with_reducible refine gd 2 ?_);refine bx 2 #[.bool a0_0,.slice A0_1 l0_1.length c0_1,.int .i64 a0_2] 24 (h:=?_);intro gb0z hg w1z hbox hb;have BK2z:=am hbox;have GW3z:=gW hg;replace HO0_1:=vE HO0_1 gb0z hg hb;replace HO1_1:=vE HO1_1 gb0z hg hb;replace HB:=bS hb;clear hb hbox hg)|((with_reducible refine gd 3 ?_);refine bx 3 #[.bool a1_0,.slice A1_1 l1_1.length c1_1,.int .i64 a1_2] 24 (h:=?_);intro gb5z hg w6z hbox hb;have BK7z:=am hbox;have GW8z:=gW hg;have jf:=nL hg BK2z;have jg:=nG hg BK2z;replace HO0_1:=vE HO0_1 gb5z hg hb;replace HO1_1:=vE HO1_1 gb5z hg hb;replace BK2z:=bb BK2z hb;replace HB:=bS hb;clear hb hbox hg;have ji:=jf.o;have jl:=jg.o;obtain ⟨_,_,_,_,_,_⟩:=cEc BK2z.o;obtain ⟨_,_,_,_,_,_⟩:=cEc BK7z.o)|((with_reducible refine gd 10 ?_);refine Kd.Zo1 k24 _ 24 ?hg (N':=10) ?hd (xs:=([(⟨a0_0,l0_1,a0_2⟩:S24),(⟨a1_0,l1_1,a1_2⟩:S24)]:List (S24))) (inner:=[.bool a0_0,.slice A0_1 l0_1.length c0_1,.int .i64 a0_2,.bool a1_0,.slice A1_1 l1_1.length c1_1,.int .i64 a1_2]) (ok:=(fun k_=>((P0_1_ k_\/P1_1_ k_)\/w.heap.size<=k_)/\k_ ≠ gb0z/\k_ ≠ gb5z)) (okp:=(fun k_=>((P0_1_ k_\/P1_1_ k_)\/w.heap.size<=k_)/\k_ ≠ gb0z/\k_ ≠ gb5z)) ?hr ?hp (fun _ hk=>hk) ((show ∀ k_,w6z.heap.size<=k_->(fun k_=>((P0_1_ k_\/P1_1_ k_)\/w.heap.size<=k_)/\k_ ≠ gb0z/\k_ ≠ gb5z) k_ from fun k_ hk=>⟨(.inr (Nat.le_trans (Zb pB) hk)),Kd.freshB (g:=gb0z) (o:=.cells #[.bool a0_0,.slice A0_1 l0_1.length c0_1,.int .i64 a0_2] 24 (0,0)) (Za BK2z.o pl) k_ hk,Kd.freshB (g:=gb5z) (o:=.cells #[.bool a1_0,.slice A1_1 l1_1.length c1_1,.int .i64 a1_2] 24 (0,0)) (Za BK7z.o pl) k_ hk⟩) _ (Nat.le_refl _)) (Below.refl _ _) (Nat.le_refl _) (by simp) ?_;(case hd=>rfl);(case hg=>rfl);(case hr=>first|(go_simp;done)|(go_simp;rfl));(case hp=>exact (Reps.c3 (show Kd.FK k24 _ _ (⟨a0_0,l0_1,a0_2⟩:S24) [.bool a0_0,.slice A0_1 l0_1.length c0_1,.int .i64 a0_2] from (Zfc _ _ (⟨a0_0,l0_1,a0_2⟩:S24) (Kd.Zai (Kd.Zr (ok':=(fun k_=>((P0_1_ k_\/P1_1_ k_)\/w.heap.size<=k_)/\k_ ≠ gb0z/\k_ ≠ gb5z)) (HO0_1.o) (fun k_ hk=>⟨hk.1.1,⟨hk.1.2,hk.2⟩⟩))).2.1 (Kd.V_F (Kd.Zr (ok':=(fun k_=>((P0_1_ k_\/P1_1_ k_)\/w.heap.size<=k_)/\k_ ≠ gb0z/\k_ ≠ gb5z)) (HO0_1.o) (fun k_ hk=>⟨hk.1.1,⟨hk.1.2,hk.2⟩⟩))))) (Reps.c3 (show Kd.FK k24 _ _ (⟨a1_0,l1_1,a1_2⟩:S24) [.bool a1_0,.slice A1_1 l1_1.length c1_1,.int .i64 a1_2] from (Zfc _ _ (⟨a1_0,l1_1,a1_2⟩:S24) (Kd.Zai (Kd.Zr (ok':=(fun k_=>((P0_1_ k_\/P1_1_ k_)\/w.heap.size<=k_)/\k_ ≠ gb0z/\k_ ≠ gb5z)) (HO1_1.o) (fun k_ hk=>⟨hk.1.1,⟨hk.1.2,hk.2⟩⟩))).2.1 (Kd.V_F (Kd.Zr (ok':=(fun k_=>((P0_1_ k_\/P1_1_ k_)\/w.heap.size<=k_)/\k_ ≠ gb0z/\k_ ≠ gb5z)) (HO1_1.o) (fun k_ hk=>⟨hk.1.1,⟨hk.1.2,hk.2⟩⟩))))) (Reps.none _ _))));intro v26z w27z ho28z hb hg_ hnew_;clear hg_ hnew_;(first|rw [<- q4.out] at ho28z|(simp only [Int.reduceToNat] at ho28z;rw [<- q4.out] at ho28z));replace HO0_1:=am (Kd.Zbn (Kd.Zam HO0_1.o pl) (Kd.Zgx ho28z) hb);replace HO1_1:=am (Kd.Zbn (Kd.Zam HO1_1.o pl) (Kd.Zgx ho28z) hb);have qd:=am (Kd.Ziu ho28z (Zb pB));replace BK2z:=bb BK2z hb;replace BK7z:=bb BK7z hb;replace HB:=bS hb;clear hb ho28z;obtain ⟨ql,qn,jh⟩:=Kd.Ziv qd.o;subst jh)|(refine gL (some 11) Tryz.func99 #[.slice ql qh.length qn] (h:=?_);(with_reducible refine (Zcs.calls k _ _ qh qw _ ?side1 ?side2 A3.o).mono ?_);(case side1=>exact Kd.Zv (Kd.Zdi qd.o).2.2 pl);(case side2=>exact (Kd.Zdi qd.o).2.1);rintro e w33z ⟨rfl,hb⟩;refine ⟨_,rfl,?_⟩;replace HO0_1:=vbl HO0_1 hb;replace HO1_1:=vbl HO1_1 hb;replace qd:=nbl qd hb;replace BK2z:=bb BK2z hb;replace BK7z:=bb BK7z hb;replace HB:=bS hb))
 first
  | have q_:=A7
    replace HO0_1:=am (Kd.Zgy HO0_1.o)
    replace HO1_1:=am (Kd.Zgy HO1_1.o)
    replace qd:=am (Kd.Zm2 qd.o)
    replace BK2z:=am (Zay BK2z.o)
    replace BK7z:=am (Zay BK7z.o)
    replace HB:=am (Zbe HB.o)
    refine start_ (n:=8) (S:=fun w'=>w'.cell? ⟨gb0z,0,none⟩=some (.bool a0_0)/\w'.cell? ⟨gb0z,1,none⟩=some (.slice A0_1 l0_1.length c0_1)/\w'.cell? ⟨gb0z,2,none⟩=some (.int .i64 a0_2)/\w'.cell? ⟨gb5z,0,none⟩=some (.bool a1_0)/\w'.cell? ⟨gb5z,1,none⟩=some (.slice A1_1 l1_1.length c1_1)/\w'.cell? ⟨gb5z,2,none⟩=some (.int .i64 a1_2)) (ds:=[]) #[false,false,false,false,false,false,false,false] (by kernel_rfl) rfl rfl ⟨k0 BK2z 0,k0 BK2z 1,k0 BK2z 2,k0 BK7z 0,k0 BK7z 1,k0 BK7z 2⟩ (fun hHeld=>?_);refine Zch Zbl.tab4 Zbl.bits4 (fun HT_ HW_=>?_)
    generalize w33z.drew=w34z at HO0_1 HO1_1 qd BK2z BK7z HB hHeld ⊢
    refine take_ (i:=0) (N:=some 15) (v:=?_) (a':=?_) #[true,false,false,false,false,false,false,false] rfl rfl (Za3 HT_.out HW_.out (by kernel_rfl)) (fun _ _ _ h=>h) (Or.inl ⟨by rfl,?_⟩) hHeld ?_ ?_
    rotate_left
    ·rintro w' ⟨s35z,s36z,s37z,s38z,s39z,s40z⟩
     go_simp
     with_reducible rfl
    rotate_left
    ·exact pP
    refine pu 1 (some 16) #[true,true,false,false,false,false,false,false] (h:=?_)
    refine take_ (i:=2) (N:=some 17) (v:=?_) (a':=?_) #[true,true,true,false,false,false,false,false] rfl rfl (Za3 HT_.out HW_.out (by kernel_rfl)) (fun _ _ _ h=>h) (Or.inl ⟨by rfl,?_⟩) hHeld ?_ ?_
    rotate_left
    ·rintro w' ⟨s35z,s36z,s37z,s38z,s39z,s40z⟩
     go_simp
     with_reducible rfl
    rotate_left
    ·exact pP
    refine pu 3 (some 18) #[true,true,true,true,false,false,false,false] (h:=?_)
    first|(have q_:Aside0 (_=some true):=A7;refine join_ (σ:=Value × Value × Nat) 1 #[true,true,true,true,true,true,true,false] (fun s_=>[(19,.agg #[.bool qq,s_.1,.int .i64 qr]),(20,.agg #[.bool qt,s_.2.1,.int .i64 qc]),(7,.pointer (some ⟨s_.2.2,0,none⟩))]) (fun s_ w'=>(w'.cell? ⟨gb0z,0,none⟩=some (.bool a0_0)/\w'.cell? ⟨gb0z,1,none⟩=some (.slice A0_1 l0_1.length c0_1)/\w'.cell? ⟨gb0z,2,none⟩=some (.int .i64 a0_2)/\w'.cell? ⟨gb5z,0,none⟩=some (.bool a1_0)/\w'.cell? ⟨gb5z,1,none⟩=some (.slice A1_1 l1_1.length c1_1)/\w'.cell? ⟨gb5z,2,none⟩=some (.int .i64 a1_2))/\(Kd.V (Kd.int .u32) 85 w' w.heap.size (fun k_=>((P0_1_ k_\/P1_1_ k_)\/w.heap.size<=k_)/\some k_ ≠ (.slice ql qh.length qn:Value).ownBlock/\some k_ ≠ (s_.2.1:Value).ownBlock/\k_ ≠ gb0z/\k_ ≠ gb5z/\k_ ≠ s_.2.2) (.slice A0_1 l0_1.length c0_1) l0_1)/\(Kd.N k24 24 w' w.heap.size (fun k_=>((P0_1_ k_\/P1_1_ k_)\/w.heap.size<=k_)/\some k_ ≠ (s_.2.1:Value).ownBlock/\k_ ≠ gb0z/\k_ ≠ gb5z/\k_ ≠ s_.2.2) (.slice ql qh.length qn) qh)/\(Kd.V (Kd.int .u32) 85 w' w.heap.size (fun k_=>((P0_1_ k_\/P1_1_ k_)\/w.heap.size<=k_)/\some k_ ≠ (.slice ql qh.length qn:Value).ownBlock/\some k_ ≠ (s_.2.1:Value).ownBlock/\k_ ≠ gb0z/\k_ ≠ gb5z/\k_ ≠ s_.2.2) s_.1 qo)/\(Kd.R (Kd.int .u32) 85 w' w.heap.size (fun k_=>(w.heap.size<=k_)) s_.2.1 qb)/\(Kd.V (Kd.int .u32) 85 w' w.heap.size (fun k_=>((P0_1_ k_\/P1_1_ k_)\/w.heap.size<=k_)/\some k_ ≠ (.slice ql qh.length qn:Value).ownBlock/\some k_ ≠ (s_.2.1:Value).ownBlock/\k_ ≠ gb0z/\k_ ≠ gb5z/\k_ ≠ s_.2.2) (.slice A1_1 l1_1.length c1_1) l1_1)/\(w'.heap[gb0z]? = some (.cells #[.bool a0_0,.slice A0_1 l0_1.length c0_1,.int .i64 a0_2] 24 (0,0)))/\(w'.heap[gb5z]? = some (.cells #[.bool a1_0,.slice A1_1 l1_1.length c1_1,.int .i64 a1_2] 24 (0,0)))/\(w'.heap[s_.2.2]? = some (.cells #[.bool false,.slice none 0 0,.int .i64 0] 106 (0,0)))/\(w.heap.size<=s_.2.2)/\(w.heap.size<=s_.2.2)/\(gb0z ≠ s_.2.2)/\(s_.2.2 ≠ gb0z)/\(gb5z ≠ s_.2.2)/\(s_.2.2 ≠ gb5z)/\(Below w.heap.size w w')) ?_ ?_)|(have q_:Aside0 (_=some (true,_,_)):=A6;have q_:Aside0 (_=some false):=A7;refine join_ (σ:=Value × Value × Nat) 1 #[true,true,true,true,true,true,true,false] (fun s_=>[(19,.agg #[.bool qq,s_.1,.int .i64 qr]),(20,.agg #[.bool true,s_.2.1,.int .i64 qc]),(7,.pointer (some ⟨s_.2.2,0,none⟩))]) (fun s_ w'=>(w'.cell? ⟨gb0z,0,none⟩=some (.bool a0_0)/\w'.cell? ⟨gb0z,1,none⟩=some (.slice A0_1 l0_1.length c0_1)/\w'.cell? ⟨gb0z,2,none⟩=some (.int .i64 a0_2)/\w'.cell? ⟨gb5z,0,none⟩=some (.bool a1_0)/\w'.cell? ⟨gb5z,1,none⟩=some (.slice A1_1 l1_1.length c1_1)/\w'.cell? ⟨gb5z,2,none⟩=some (.int .i64 a1_2))/\(Kd.V (Kd.int .u32) 85 w' w.heap.size (fun k_=>((P0_1_ k_\/P1_1_ k_)\/w.heap.size<=k_)/\some k_ ≠ (.slice ql qh.length qn:Value).ownBlock/\some k_ ≠ (s_.2.1:Value).ownBlock/\k_ ≠ gb0z/\k_ ≠ gb5z/\k_ ≠ s_.2.2) (.slice A0_1 l0_1.length c0_1) l0_1)/\(Kd.N k24 24 w' w.heap.size (fun k_=>((P0_1_ k_\/P1_1_ k_)\/w.heap.size<=k_)/\some k_ ≠ (s_.2.1:Value).ownBlock/\k_ ≠ gb0z/\k_ ≠ gb5z/\k_ ≠ s_.2.2) (.slice ql qh.length qn) qh)/\(Kd.V (Kd.int .u32) 85 w' w.heap.size (fun k_=>((P0_1_ k_\/P1_1_ k_)\/w.heap.size<=k_)/\some k_ ≠ (.slice ql qh.length qn:Value).ownBlock/\some k_ ≠ (s_.2.1:Value).ownBlock/\k_ ≠ gb0z/\k_ ≠ gb5z/\k_ ≠ s_.2.2) s_.1 qo)/\(Kd.R (Kd.int .u32) 85 w' w.heap.size (fun k_=>(w.heap.size<=k_)) s_.2.1 qb)/\(Kd.V (Kd.int .u32) 85 w' w.heap.size (fun k_=>((P0_1_ k_\/P1_1_ k_)\/w.heap.size<=k_)/\some k_ ≠ (.slice ql qh.length qn:Value).ownBlock/\some k_ ≠ (s_.2.1:Value).ownBlock/\k_ ≠ gb0z/\k_ ≠ gb5z/\k_ ≠ s_.2.2) (.slice A1_1 l1_1.length c1_1) l1_1)/\(w'.heap[gb0z]? = some (.cells #[.bool a0_0,.slice A0_1 l0_1.length c0_1,.int .i64 a0_2] 24 (0,0)))/\(w'.heap[gb5z]? = some (.cells #[.bool a1_0,.slice A1_1 l1_1.length c1_1,.int .i64 a1_2] 24 (0,0)))/\(w'.heap[s_.2.2]? = some (.cells #[.bool false,.slice none 0 0,.int .i64 0] 106 (0,0)))/\(w.heap.size<=s_.2.2)/\(w.heap.size<=s_.2.2)/\(gb0z ≠ s_.2.2)/\(s_.2.2 ≠ gb0z)/\(gb5z ≠ s_.2.2)/\(s_.2.2 ≠ gb5z)/\(Below w.heap.size w w')) ?_ ?_)|(have q_:Aside0 (_=some (false,_,_)):=A6;have q_:Aside0 (_=some false):=A7;refine join_ (σ:=Value × Value × Nat) 1 #[true,true,true,true,true,true,true,false] (fun s_=>[(19,.agg #[.bool qq,s_.1,.int .i64 qr]),(20,.agg #[.bool false,s_.2.1,.int .i64 qc]),(7,.pointer (some ⟨s_.2.2,0,none⟩))]) (fun s_ w'=>(w'.cell? ⟨gb0z,0,none⟩=some (.bool a0_0)/\w'.cell? ⟨gb0z,1,none⟩=some (.slice A0_1 l0_1.length c0_1)/\w'.cell? ⟨gb0z,2,none⟩=some (.int .i64 a0_2)/\w'.cell? ⟨gb5z,0,none⟩=some (.bool a1_0)/\w'.cell? ⟨gb5z,1,none⟩=some (.slice A1_1 l1_1.length c1_1)/\w'.cell? ⟨gb5z,2,none⟩=some (.int .i64 a1_2))/\(Kd.V (Kd.int .u32) 85 w' w.heap.size (fun k_=>((P0_1_ k_\/P1_1_ k_)\/w.heap.size<=k_)/\some k_ ≠ (.slice ql qh.length qn:Value).ownBlock/\some k_ ≠ (s_.2.1:Value).ownBlock/\k_ ≠ gb0z/\k_ ≠ gb5z/\k_ ≠ s_.2.2) (.slice A0_1 l0_1.length c0_1) l0_1)/\(Kd.N k24 24 w' w.heap.size (fun k_=>((P0_1_ k_\/P1_1_ k_)\/w.heap.size<=k_)/\some k_ ≠ (s_.2.1:Value).ownBlock/\k_ ≠ gb0z/\k_ ≠ gb5z/\k_ ≠ s_.2.2) (.slice ql qh.length qn) qh)/\(Kd.V (Kd.int .u32) 85 w' w.heap.size (fun k_=>((P0_1_ k_\/P1_1_ k_)\/w.heap.size<=k_)/\some k_ ≠ (.slice ql qh.length qn:Value).ownBlock/\some k_ ≠ (s_.2.1:Value).ownBlock/\k_ ≠ gb0z/\k_ ≠ gb5z/\k_ ≠ s_.2.2) s_.1 qo)/\(Kd.R (Kd.int .u32) 85 w' w.heap.size (fun k_=>(w.heap.size<=k_)) s_.2.1 qb)/\(Kd.V (Kd.int .u32) 85 w' w.heap.size (fun k_=>((P0_1_ k_\/P1_1_ k_)\/w.heap.size<=k_)/\some k_ ≠ (.slice ql qh.length qn:Value).ownBlock/\some k_ ≠ (s_.2.1:Value).ownBlock/\k_ ≠ gb0z/\k_ ≠ gb5z/\k_ ≠ s_.2.2) (.slice A1_1 l1_1.length c1_1) l1_1)/\(w'.heap[gb0z]? = some (.cells #[.bool a0_0,.slice A0_1 l0_1.length c0_1,.int .i64 a0_2] 24 (0,0)))/\(w'.heap[gb5z]? = some (.cells #[.bool a1_0,.slice A1_1 l1_1.length c1_1,.int .i64 a1_2] 24 (0,0)))/\(w'.heap[s_.2.2]? = some (.cells #[.bool false,.slice none 0 0,.int .i64 0] 106 (0,0)))/\(w.heap.size<=s_.2.2)/\(w.heap.size<=s_.2.2)/\(gb0z ≠ s_.2.2)/\(s_.2.2 ≠ gb0z)/\(gb5z ≠ s_.2.2)/\(s_.2.2 ≠ gb5z)/\(Below w.heap.size w w')) ?_ ?_)
    rotate_left
    ·intro hCont
     refine two_ (i:=4) (j:=6) (Ni:=some 19) (Nj:=some 7) #[true,true,true,true,true,false,false,false] #[true,true,true,true,false,false,true,false] rfl rfl rfl rfl (Zin HT_.out (by kernel_rfl)) (by decide) (by decide) (fun K hK=>?_) (fun K hK=>?_)
     ·skip
      refine goes_ Tryz.func103 (by kernel_rfl) rfl #[.agg #[.bool a1_0,.slice A1_1 l1_1.length c1_1,.int .i64 a1_2]] (by rfl) rfl rfl pA ?_
      with_reducible refine (Zbb.calls a1_0 (fun k_=>(((((P0_1_ k_\/P1_1_ k_)\/w.heap.size<=k_)/\k_ ≠ gb0z)/\k_ ≠ gb5z)/\some k_ ≠ (.slice ql qh.length qn:Value).ownBlock)) _ _ l1_1 a1_2 qq qo qr _ ?side1 A5.o).mono ?_
      (case side1=>exact HO1_1.o)
      rintro e w41z ⟨v42z,rfl,ho43z,hb⟩
      refine ⟨_,rfl,?_⟩
      have qf:=am (Kd.Zex (Kd.Zr (ok':=fun k_=>((P0_1_ k_\/P1_1_ k_)\/w.heap.size<=k_)/\some k_ ≠ (.slice ql qh.length qn:Value).ownBlock/\k_ ≠ gb0z/\k_ ≠ gb5z) ho43z (fun k_ hk_=>⟨Or.elim hk_ (fun hs_=>hs_.1.1.1) (fun hn_=>(.inr (Nat.le_trans (Zb pB) hn_))),Or.elim hk_ (fun hs_=>hs_.2) (fun hn_=>(Kd.fresh' (Kd.N_lt (Kd.Zcf qd.o pl)) k_ hn_)),Or.elim hk_ (fun hs_=>hs_.1.1.2) (fun hn_=>(Kd.freshB (g:=gb0z) (o:=.cells #[.bool a0_0,.slice A0_1 l0_1.length c0_1,.int .i64 a0_2] 24 (0,0)) (Za BK2z.o pl) k_ hn_)),Or.elim hk_ (fun hs_=>hs_.1.2) (fun hn_=>(Kd.freshB (g:=gb5z) (o:=.cells #[.bool a1_0,.slice A1_1 l1_1.length c1_1,.int .i64 a1_2] 24 (0,0)) (Za BK7z.o pl) k_ hn_))⟩)) (Zb pB))
      replace HO0_1:=vbl HO0_1 hb
      replace HO1_1:=vbl HO1_1 hb
      replace qd:=nbl qd hb
      replace BK2z:=bb BK2z hb
      replace BK7z:=bb BK7z hb
      replace HB:=bS hb
      obtain ⟨q8,q9,ja⟩:=Kd.Zdu qf.o
      (first|subst ja|(injection ja with f1_ f2_ f3_;have f4_:=f1_.symm;have f5_:=f3_.symm;clear f1_ f2_ f3_;subst f4_;subst f5_))
      refine hK.out _ _ ⟨k0 BK2z 0,k0 BK2z 1,k0 BK2z 2,k0 BK7z 0,k0 BK7z 1,k0 BK7z 2⟩ (fun hHeld=>?_)
      clear hK K
      refine norm_ (a':=?_) ?_ ?_
      rotate_left
      ·show Act.put _ (some 19) _=_
       exact pP
      refine two_ (i:=5) (j:=6) (Ni:=some 20) (Nj:=some 7) #[true,true,true,true,true,true,false,false] #[true,true,true,true,true,false,true,false] rfl rfl rfl rfl (Zin HT_.out (by kernel_rfl)) (by decide) (by decide) (fun K hK=>?_) (fun K hK=>?_)
      ·skip
       refine goes_ Tryz.func101 (by kernel_rfl) rfl #[.agg #[.bool a0_0,.slice A0_1 l0_1.length c0_1,.int .i64 a0_2],.agg #[.bool qq,.slice q8 qo.length q9,.int .i64 qr]] (by rfl) rfl rfl pA ?_
       first|(have q_:Aside0 (_=some true):=A7;with_reducible refine (Zu.calls k a0_0 _ _ l0_1 a0_2 qq _ _ qo qr qt qb qc _ ?side1 ?side2 ?side3 ?side4 A6.o).mono ?_)|(have q_:Aside0 (_=some (true,_,_)):=A6;have q_:Aside0 (_=some false):=A7;with_reducible refine (Zu.calls k a0_0 _ _ l0_1 a0_2 qq _ _ qo qr true qb qc _ ?side1 ?side2 ?side3 ?side4 A6.o).mono ?_)|(have q_:Aside0 (_=some (false,_,_)):=A6;have q_:Aside0 (_=some false):=A7;with_reducible refine (Zu.calls k a0_0 _ _ l0_1 a0_2 qq _ _ qo qr false qb qc _ ?side1 ?side2 ?side3 ?side4 A6.o).mono ?_)
       (case side1=>exact Kd.Zv (Kd.Zai HO0_1.o).2.2 pl)
       (case side2=>exact (Kd.Zai HO0_1.o).2.1)
       (case side3=>exact Kd.Zv (Kd.Zai qf.o).2.2 pl)
       (case side4=>exact (Kd.Zai qf.o).2.1)
       rintro e w48z ⟨v49z,rfl,ho43z,hb⟩
       refine ⟨_,rfl,?_⟩
       replace HO0_1:=am (Kd.Zbn (Kd.Zam HO0_1.o pl) (Kd.Zbh ho43z) hb)
       replace HO1_1:=am (Kd.Zbn (Kd.Zam HO1_1.o pl) (Kd.Zbh ho43z) hb)
       replace qd:=am (Kd.Zfj (Kd.Zcf qd.o pl) (Kd.Zbh ho43z) hb)
       replace qf:=am (Kd.Zbn (Kd.Zam qf.o pl) (Kd.Zbh ho43z) hb)
       have qm:=am (Kd.Zt (Kd.Ze4 (M:=fun k_=>(w.heap.size<=k_)) ho43z (Zb pB) (fun k_ h_=>h_)) (Zb pB))
       replace BK2z:=bb BK2z hb
       replace BK7z:=bb BK7z hb
       replace HB:=bS hb
       refine hK.out _ _ ⟨k0 BK2z 0,k0 BK2z 1,k0 BK2z 2,k0 BK7z 0,k0 BK7z 1,k0 BK7z 2⟩ (fun hHeld=>?_)
       clear hK K
       refine norm_ (a':=?_) ?_ ?_
       rotate_left
       ·show Act.put _ (some 20) _=_
        exact pP
       refine one_ (i:=6) (N:=some 7) #[true,true,true,true,true,true,true,false] rfl rfl (Za8 HT_.out (by kernel_rfl)) (by decide) (fun K hK=>?_)
       refine Zee ?hg (N:=7) ?hd (cs:=#[.bool false,.slice none 0 0,.int .i64 0]) (t:=106) ?hr ?_;(case hd=>rfl);(case hg=>rfl);(case hr=>first|(go_simp;done)|(go_simp;rfl))
       intro qa hg w52z hbox hb
       have qe:=am hbox
       have qz:=gW hg
       have qy:=gW hg
       have qj:=nL hg BK2z
       have qu:=nG hg BK2z
       have qk:=nL hg BK7z
       have qv:=nG hg BK7z
       replace HO0_1:=vE HO0_1 qa hg hb
       replace HO1_1:=vE HO1_1 qa hg hb
       replace qd:=am (Kd.Zcf (Kd.Zir (Kd.Zcf qd.o pl) qa (Nat.le_of_eq hg.symm)) hb)
       replace qf:=vE qf qa hg hb
       replace qm:=rbl qm hb
       replace BK2z:=bb BK2z hb
       replace BK7z:=bb BK7z hb
       replace HB:=bS hb
       clear hb hbox hg
       refine hK.out _ _ ⟨k0 BK2z 0,k0 BK2z 1,k0 BK2z 2,k0 BK7z 0,k0 BK7z 1,k0 BK7z 2⟩ (fun hHeld=>?_)
       clear hK K
       refine norm_ (a':=?_) ?_ ?_
       rotate_left
       ·show Act.put _ (some 7) _=_
        exact pP
       exact norm_ (by simp only [putAll,Act.put,List.setIfInBounds_toArray,List.set_cons_zero,List.set_cons_succ]) (hCont (.slice q8 qo.length q9,v49z,qa) _ ⟨hHeld,(Kd.Zam (Kd.Zr HO0_1.o (fun _ hk=>⟨hk.1.1.1.1.1,⟨hk.1.1.2,⟨hk.1.2,⟨hk.1.1.1.1.2,⟨hk.1.1.1.2,hk.2⟩⟩⟩⟩⟩)) pl),(Kd.Zcf (Kd.Zec qd.o (fun _ hk=>⟨hk.1.1.1,⟨hk.1.2,⟨hk.1.1.2.1,⟨hk.1.1.2.2,hk.2⟩⟩⟩⟩)) pl),(Kd.Zam (Kd.Zr qf.o (fun _ hk=>⟨hk.1.1.1,⟨hk.1.1.2.1,⟨hk.1.2,⟨hk.1.1.2.2.1,⟨hk.1.1.2.2.2,hk.2⟩⟩⟩⟩⟩)) pl),(Kd.Zc (Kd.Zi qm.o (fun _ hk=>hk.1)) pl),(Kd.Zam (Kd.Zr HO1_1.o (fun _ hk=>⟨hk.1.1.1.1.1,⟨hk.1.1.2,⟨hk.1.2,⟨hk.1.1.1.1.2,⟨hk.1.1.1.2,hk.2⟩⟩⟩⟩⟩)) pl),(Za BK2z.o pl),(Za BK7z.o pl),(Za qe.o pl),qz.o,qy.o,qj.o,qu.o,qk.o,qv.o,pB⟩)
      ·skip
       refine Zee ?hg (N:=7) ?hd (cs:=#[.bool false,.slice none 0 0,.int .i64 0]) (t:=106) ?hr ?_;(case hd=>rfl);(case hg=>rfl);(case hr=>first|(go_simp;done)|(go_simp;rfl))
       intro qa hg w60z hbox hb
       have qe:=am hbox
       have qz:=gW hg
       have qy:=gW hg
       have qj:=nL hg BK2z
       have qu:=nG hg BK2z
       have qk:=nL hg BK7z
       have qv:=nG hg BK7z
       replace HO0_1:=vE HO0_1 qa hg hb
       replace HO1_1:=vE HO1_1 qa hg hb
       replace qd:=am (Kd.Zcf (Kd.Zir (Kd.Zcf qd.o pl) qa (Nat.le_of_eq hg.symm)) hb)
       replace qf:=vE qf qa hg hb
       replace BK2z:=bb BK2z hb
       replace BK7z:=bb BK7z hb
       replace HB:=bS hb
       clear hb hbox hg
       obtain ⟨q0,q1,q2⟩:=Kd.Zdu qf.o
       (first|subst q2|(injection q2 with f1_ f2_ f3_;have f4_:=f1_.symm;have f5_:=f3_.symm;clear f1_ f2_ f3_;subst f4_;subst f5_))
       refine hK.out _ _ ⟨k0 BK2z 0,k0 BK2z 1,k0 BK2z 2,k0 BK7z 0,k0 BK7z 1,k0 BK7z 2⟩ (fun hHeld=>?_)
       clear hK K
       refine norm_ (a':=?_) ?_ ?_
       rotate_left
       ·show Act.put _ (some 7) _=_
        exact pP
       refine one_ (i:=5) (N:=some 20) #[true,true,true,true,true,true,true,false] rfl rfl (Za8 HT_.out (by kernel_rfl)) (by decide) (fun K hK=>?_)
       refine goes_ Tryz.func101 (by kernel_rfl) rfl #[.agg #[.bool a0_0,.slice A0_1 l0_1.length c0_1,.int .i64 a0_2],.agg #[.bool qq,.slice q0 qo.length q1,.int .i64 qr]] (by rfl) rfl rfl pA ?_
       first|(have q_:Aside0 (_=some true):=A7;with_reducible refine (Zu.calls k a0_0 _ _ l0_1 a0_2 qq _ _ qo qr qt qb qc _ ?side1 ?side2 ?side3 ?side4 A6.o).mono ?_)|(have q_:Aside0 (_=some (true,_,_)):=A6;have q_:Aside0 (_=some false):=A7;with_reducible refine (Zu.calls k a0_0 _ _ l0_1 a0_2 qq _ _ qo qr true qb qc _ ?side1 ?side2 ?side3 ?side4 A6.o).mono ?_)|(have q_:Aside0 (_=some (false,_,_)):=A6;have q_:Aside0 (_=some false):=A7;with_reducible refine (Zu.calls k a0_0 _ _ l0_1 a0_2 qq _ _ qo qr false qb qc _ ?side1 ?side2 ?side3 ?side4 A6.o).mono ?_)
       (case side1=>exact Kd.Zv (Kd.Zai HO0_1.o).2.2 pl)
       (case side2=>exact (Kd.Zai HO0_1.o).2.1)
       (case side3=>exact Kd.Zv (Kd.Zai qf.o).2.2 pl)
       (case side4=>exact (Kd.Zai qf.o).2.1)
       rintro e w52z ⟨v49z,rfl,ho43z,hb⟩
       refine ⟨_,rfl,?_⟩
       replace HO0_1:=am (Kd.Zbn (Kd.Zam HO0_1.o pl) (Kd.Zbh ho43z) hb)
       replace HO1_1:=am (Kd.Zbn (Kd.Zam HO1_1.o pl) (Kd.Zbh ho43z) hb)
       replace qd:=am (Kd.Zfj (Kd.Zcf qd.o pl) (Kd.Zbh ho43z) hb)
       replace qf:=am (Kd.Zbn (Kd.Zam qf.o pl) (Kd.Zbh ho43z) hb)
       have qm:=am (Kd.Zt (Kd.Ze4 (M:=fun k_=>(w.heap.size<=k_)) ho43z (Zb pB) (fun k_ h_=>h_)) (Zb pB))
       replace BK2z:=bb BK2z hb
       replace BK7z:=bb BK7z hb
       replace qe:=bb qe hb
       replace HB:=bS hb
       refine hK.out _ _ ⟨k0 BK2z 0,k0 BK2z 1,k0 BK2z 2,k0 BK7z 0,k0 BK7z 1,k0 BK7z 2⟩ (fun hHeld=>?_)
       clear hK K
       refine norm_ (a':=?_) ?_ ?_
       rotate_left
       ·show Act.put _ (some 20) _=_
        exact pP
       exact norm_ (by simp only [putAll,Act.put,List.setIfInBounds_toArray,List.set_cons_zero,List.set_cons_succ]) (hCont (.slice q0 qo.length q1,v49z,qa) _ ⟨hHeld,(Kd.Zam (Kd.Zr HO0_1.o (fun _ hk=>⟨hk.1.1.1.1.1,⟨hk.1.1.2,⟨hk.2,⟨hk.1.1.1.1.2,⟨hk.1.1.1.2,hk.1.2⟩⟩⟩⟩⟩)) pl),(Kd.Zcf (Kd.Zec qd.o (fun _ hk=>⟨hk.1.1.1,⟨hk.2,⟨hk.1.1.2.1,⟨hk.1.1.2.2,hk.1.2⟩⟩⟩⟩)) pl),(Kd.Zam (Kd.Zr qf.o (fun _ hk=>⟨hk.1.1.1,⟨hk.1.1.2.1,⟨hk.2,⟨hk.1.1.2.2.1,⟨hk.1.1.2.2.2,hk.1.2⟩⟩⟩⟩⟩)) pl),(Kd.Zc (Kd.Zi qm.o (fun _ hk=>hk.1)) pl),(Kd.Zam (Kd.Zr HO1_1.o (fun _ hk=>⟨hk.1.1.1.1.1,⟨hk.1.1.2,⟨hk.2,⟨hk.1.1.1.1.2,⟨hk.1.1.1.2,hk.1.2⟩⟩⟩⟩⟩)) pl),(Za BK2z.o pl),(Za BK7z.o pl),(Za qe.o pl),qz.o,qy.o,qj.o,qu.o,qk.o,qv.o,pB⟩)
     ·skip
      refine Zee ?hg (N:=7) ?hd (cs:=#[.bool false,.slice none 0 0,.int .i64 0]) (t:=106) ?hr ?_;(case hd=>rfl);(case hg=>rfl);(case hr=>first|(go_simp;done)|(go_simp;rfl))
      intro qa hg w41z hbox hb
      have qe:=am hbox
      have qz:=gW hg
      have qy:=gW hg
      have qj:=nL hg BK2z
      have qu:=nG hg BK2z
      have qk:=nL hg BK7z
      have qv:=nG hg BK7z
      replace HO0_1:=vE HO0_1 qa hg hb
      replace HO1_1:=vE HO1_1 qa hg hb
      replace qd:=am (Kd.Zcf (Kd.Zir (Kd.Zcf qd.o pl) qa (Nat.le_of_eq hg.symm)) hb)
      replace BK2z:=bb BK2z hb
      replace BK7z:=bb BK7z hb
      replace HB:=bS hb
      clear hb hbox hg
      refine hK.out _ _ ⟨k0 BK2z 0,k0 BK2z 1,k0 BK2z 2,k0 BK7z 0,k0 BK7z 1,k0 BK7z 2⟩ (fun hHeld=>?_)
      clear hK K
      refine norm_ (a':=?_) ?_ ?_
      rotate_left
      ·show Act.put _ (some 7) _=_
       exact pP
      refine one_ (i:=4) (N:=some 19) #[true,true,true,true,true,false,true,false] rfl rfl (Za8 HT_.out (by kernel_rfl)) (by decide) (fun K hK=>?_)
      refine goes_ Tryz.func103 (by kernel_rfl) rfl #[.agg #[.bool a1_0,.slice A1_1 l1_1.length c1_1,.int .i64 a1_2]] (by rfl) rfl rfl pA ?_
      with_reducible refine (Zbb.calls a1_0 (fun k_=>((((((P0_1_ k_\/P1_1_ k_)\/w.heap.size<=k_)/\k_ ≠ gb0z)/\k_ ≠ gb5z)/\some k_ ≠ (.slice ql qh.length qn:Value).ownBlock)/\k_ ≠ qa)) _ _ l1_1 a1_2 qq qo qr _ ?side1 A5.o).mono ?_
      (case side1=>exact HO1_1.o)
      rintro e w60z ⟨v42z,rfl,ho43z,hb⟩
      refine ⟨_,rfl,?_⟩
      have qf:=am (Kd.Zex (Kd.Zr (ok':=fun k_=>((P0_1_ k_\/P1_1_ k_)\/w.heap.size<=k_)/\some k_ ≠ (.slice ql qh.length qn:Value).ownBlock/\k_ ≠ gb0z/\k_ ≠ gb5z/\k_ ≠ qa) ho43z (fun k_ hk_=>⟨Or.elim hk_ (fun hs_=>hs_.1.1.1.1) (fun hn_=>(.inr (Nat.le_trans (Zb pB) hn_))),Or.elim hk_ (fun hs_=>hs_.1.2) (fun hn_=>(Kd.fresh' (Kd.N_lt (Kd.Zcf qd.o pl)) k_ hn_)),Or.elim hk_ (fun hs_=>hs_.1.1.1.2) (fun hn_=>(Kd.freshB (g:=gb0z) (o:=.cells #[.bool a0_0,.slice A0_1 l0_1.length c0_1,.int .i64 a0_2] 24 (0,0)) (Za BK2z.o pl) k_ hn_)),Or.elim hk_ (fun hs_=>hs_.1.1.2) (fun hn_=>(Kd.freshB (g:=gb5z) (o:=.cells #[.bool a1_0,.slice A1_1 l1_1.length c1_1,.int .i64 a1_2] 24 (0,0)) (Za BK7z.o pl) k_ hn_)),Or.elim hk_ (fun hs_=>hs_.2) (fun hn_=>(Kd.freshB (g:=qa) (o:=.cells #[.bool false,.slice none 0 0,.int .i64 0] 106 (0,0)) (Za qe.o pl) k_ hn_))⟩)) (Zb pB))
      replace HO0_1:=vbl HO0_1 hb
      replace HO1_1:=vbl HO1_1 hb
      replace qd:=nbl qd hb
      replace BK2z:=bb BK2z hb
      replace BK7z:=bb BK7z hb
      replace qe:=bb qe hb
      replace HB:=bS hb
      obtain ⟨q0,q1,q2⟩:=Kd.Zdu qf.o
      (first|subst q2|(injection q2 with f1_ f2_ f3_;have f4_:=f1_.symm;have f5_:=f3_.symm;clear f1_ f2_ f3_;subst f4_;subst f5_))
      refine hK.out _ _ ⟨k0 BK2z 0,k0 BK2z 1,k0 BK2z 2,k0 BK7z 0,k0 BK7z 1,k0 BK7z 2⟩ (fun hHeld=>?_)
      clear hK K
      refine norm_ (a':=?_) ?_ ?_
      rotate_left
      ·show Act.put _ (some 19) _=_
       exact pP
      refine one_ (i:=5) (N:=some 20) #[true,true,true,true,true,true,true,false] rfl rfl (Za8 HT_.out (by kernel_rfl)) (by decide) (fun K hK=>?_)
      refine goes_ Tryz.func101 (by kernel_rfl) rfl #[.agg #[.bool a0_0,.slice A0_1 l0_1.length c0_1,.int .i64 a0_2],.agg #[.bool qq,.slice q0 qo.length q1,.int .i64 qr]] (by rfl) rfl rfl pA ?_
      first|(have q_:Aside0 (_=some true):=A7;with_reducible refine (Zu.calls k a0_0 _ _ l0_1 a0_2 qq _ _ qo qr qt qb qc _ ?side1 ?side2 ?side3 ?side4 A6.o).mono ?_)|(have q_:Aside0 (_=some (true,_,_)):=A6;have q_:Aside0 (_=some false):=A7;with_reducible refine (Zu.calls k a0_0 _ _ l0_1 a0_2 qq _ _ qo qr true qb qc _ ?side1 ?side2 ?side3 ?side4 A6.o).mono ?_)|(have q_:Aside0 (_=some (false,_,_)):=A6;have q_:Aside0 (_=some false):=A7;with_reducible refine (Zu.calls k a0_0 _ _ l0_1 a0_2 qq _ _ qo qr false qb qc _ ?side1 ?side2 ?side3 ?side4 A6.o).mono ?_)
      (case side1=>exact Kd.Zv (Kd.Zai HO0_1.o).2.2 pl)
      (case side2=>exact (Kd.Zai HO0_1.o).2.1)
      (case side3=>exact Kd.Zv (Kd.Zai qf.o).2.2 pl)
      (case side4=>exact (Kd.Zai qf.o).2.1)
      rintro e w52z ⟨v49z,rfl,ho43z,hb⟩
      refine ⟨_,rfl,?_⟩
      replace HO0_1:=am (Kd.Zbn (Kd.Zam HO0_1.o pl) (Kd.Zbh ho43z) hb)
      replace HO1_1:=am (Kd.Zbn (Kd.Zam HO1_1.o pl) (Kd.Zbh ho43z) hb)
      replace qd:=am (Kd.Zfj (Kd.Zcf qd.o pl) (Kd.Zbh ho43z) hb)
      replace qf:=am (Kd.Zbn (Kd.Zam qf.o pl) (Kd.Zbh ho43z) hb)
      have qm:=am (Kd.Zt (Kd.Ze4 (M:=fun k_=>(w.heap.size<=k_)) ho43z (Zb pB) (fun k_ h_=>h_)) (Zb pB))
      replace BK2z:=bb BK2z hb
      replace BK7z:=bb BK7z hb
      replace qe:=bb qe hb
      replace HB:=bS hb
      refine hK.out _ _ ⟨k0 BK2z 0,k0 BK2z 1,k0 BK2z 2,k0 BK7z 0,k0 BK7z 1,k0 BK7z 2⟩ (fun hHeld=>?_)
      clear hK K
      refine norm_ (a':=?_) ?_ ?_
      rotate_left
      ·show Act.put _ (some 20) _=_
       exact pP
      exact norm_ (by simp only [putAll,Act.put,List.setIfInBounds_toArray,List.set_cons_zero,List.set_cons_succ]) (hCont (.slice q0 qo.length q1,v49z,qa) _ ⟨hHeld,(Kd.Zam (Kd.Zr HO0_1.o (fun _ hk=>⟨hk.1.1.1.1.1,⟨hk.1.1.2,⟨hk.2,⟨hk.1.1.1.1.2,⟨hk.1.1.1.2,hk.1.2⟩⟩⟩⟩⟩)) pl),(Kd.Zcf (Kd.Zec qd.o (fun _ hk=>⟨hk.1.1.1,⟨hk.2,⟨hk.1.1.2.1,⟨hk.1.1.2.2,hk.1.2⟩⟩⟩⟩)) pl),(Kd.Zam (Kd.Zr qf.o (fun _ hk=>⟨hk.1.1,⟨hk.1.2.1,⟨hk.2,⟨hk.1.2.2.1,⟨hk.1.2.2.2.1,hk.1.2.2.2.2⟩⟩⟩⟩⟩)) pl),(Kd.Zc (Kd.Zi qm.o (fun _ hk=>hk.1)) pl),(Kd.Zam (Kd.Zr HO1_1.o (fun _ hk=>⟨hk.1.1.1.1.1,⟨hk.1.1.2,⟨hk.2,⟨hk.1.1.1.1.2,⟨hk.1.1.1.2,hk.1.2⟩⟩⟩⟩⟩)) pl),(Za BK2z.o pl),(Za BK7z.o pl),(Za qe.o pl),qz.o,qy.o,qj.o,qu.o,qk.o,qv.o,pB⟩)
    rintro ⟨v42z,v49z,qa⟩ w64z ⟨hS_,h0_,h1_,h2_,h3_,h4_,h5_,h6_,h7_,h8_,h9_,h10_,h11_,h12_,h13_,h14_⟩
    have qf:Aside0 (Kd.V (Kd.int .u32) 85 w64z w.heap.size (fun k_=>((P0_1_ k_\/P1_1_ k_)\/w.heap.size<=k_)/\some k_ ≠ (.slice ql qh.length qn:Value).ownBlock/\some k_ ≠ (v49z:Value).ownBlock/\k_ ≠ gb0z/\k_ ≠ gb5z/\k_ ≠ qa) v42z qo):=⟨h2_⟩
    have qm:Aside0 (Kd.R (Kd.int .u32) 85 w64z w.heap.size (fun k_=>(w.heap.size<=k_)) v49z qb):=⟨h3_⟩
    have qe:Aside0 (w64z.heap[qa]? = some (.cells #[.bool false,.slice none 0 0,.int .i64 0] 106 (0,0))):=⟨h7_⟩
    have qz:Aside0 (w.heap.size<=qa):=⟨h8_⟩
    have qy:Aside0 (w.heap.size<=qa):=⟨h9_⟩
    have qj:Aside0 (gb0z ≠ qa):=⟨h10_⟩
    have qu:Aside0 (qa ≠ gb0z):=⟨h11_⟩
    have qk:Aside0 (gb5z ≠ qa):=⟨h12_⟩
    have qv:Aside0 (qa ≠ gb5z):=⟨h13_⟩
    replace HO0_1:Aside0 (Kd.V (Kd.int .u32) 85 w64z w.heap.size (fun k_=>((P0_1_ k_\/P1_1_ k_)\/w.heap.size<=k_)/\some k_ ≠ (.slice ql qh.length qn:Value).ownBlock/\some k_ ≠ (v49z:Value).ownBlock/\k_ ≠ gb0z/\k_ ≠ gb5z/\k_ ≠ qa) (.slice A0_1 l0_1.length c0_1) l0_1):=⟨h0_⟩
    replace qd:Aside0 (Kd.N k24 24 w64z w.heap.size (fun k_=>((P0_1_ k_\/P1_1_ k_)\/w.heap.size<=k_)/\some k_ ≠ (v49z:Value).ownBlock/\k_ ≠ gb0z/\k_ ≠ gb5z/\k_ ≠ qa) (.slice ql qh.length qn) qh):=⟨h1_⟩
    replace HO1_1:Aside0 (Kd.V (Kd.int .u32) 85 w64z w.heap.size (fun k_=>((P0_1_ k_\/P1_1_ k_)\/w.heap.size<=k_)/\some k_ ≠ (.slice ql qh.length qn:Value).ownBlock/\some k_ ≠ (v49z:Value).ownBlock/\k_ ≠ gb0z/\k_ ≠ gb5z/\k_ ≠ qa) (.slice A1_1 l1_1.length c1_1) l1_1):=⟨h4_⟩
    replace BK2z:Aside0 (w64z.heap[gb0z]? = some (.cells #[.bool a0_0,.slice A0_1 l0_1.length c0_1,.int .i64 a0_2] 24 (0,0))):=⟨h5_⟩
    replace BK7z:Aside0 (w64z.heap[gb5z]? = some (.cells #[.bool a1_0,.slice A1_1 l1_1.length c1_1,.int .i64 a1_2] 24 (0,0))):=⟨h6_⟩
    replace HB:Aside0 (Below w.heap.size w w64z):=⟨h14_⟩
    clear h0_ h1_ h2_ h3_ h4_ h5_ h6_ h7_ h8_ h9_ h10_ h11_ h12_ h13_ h14_
    have hHeld:w64z.cell? ⟨gb0z,0,none⟩=some (.bool a0_0)/\w64z.cell? ⟨gb0z,1,none⟩=some (.slice A0_1 l0_1.length c0_1)/\w64z.cell? ⟨gb0z,2,none⟩=some (.int .i64 a0_2)/\w64z.cell? ⟨gb5z,0,none⟩=some (.bool a1_0)/\w64z.cell? ⟨gb5z,1,none⟩=some (.slice A1_1 l1_1.length c1_1)/\w64z.cell? ⟨gb5z,2,none⟩=some (.int .i64 a1_2):=hS_
    obtain ⟨qi,qg,jb⟩:=Kd.Zm qm.o
    (first|subst jb|(injection jb with f1_ f2_ f3_;have f4_:=f1_.symm;have f5_:=f3_.symm;clear f1_ f2_ f3_;subst f4_;subst f5_))
    refine norm_ (a':=?_) ?_ ?_
    rotate_left
    ·simp only [putAll,Act.put,List.setIfInBounds_toArray,List.set_cons_zero,List.set_cons_succ]
     rfl
    refine one_ (i:=7) (N:=none) #[true,true,true,true,true,true,true,true] rfl rfl (Za8 HT_.out (by kernel_rfl)) (by decide) (fun K hK=>?_)
    have hs68z:w64z.cell? ⟨qa,0,none⟩=some (.bool false):=k0 qe 0
    have hfs69z:=Zaa qe.o 0
    have hns70z:=qj.o
    have hns71z:=qk.o
    have hms72z:=qu.o
    have hms73z:=qv.o
    have hs74z:w64z.cell? ⟨qa,1,none⟩=some (.slice none 0 0):=k0 qe 1
    have hfs75z:=Zaa qe.o 1
    have hns76z:=qj.o
    have hns77z:=qk.o
    have hms78z:=qu.o
    have hms79z:=qv.o
    have hs80z:w64z.cell? ⟨qa,2,none⟩=some (.int .i64 0):=k0 qe 2
    have hfs81z:=Zaa qe.o 2
    have hns82z:=qj.o
    have hns83z:=qk.o
    have hms84z:=qu.o
    have hms85z:=qv.o
    refine skip_ (w1:=?_) (by rfl) rfl ?_ ?_
    rotate_left
    ·go_simp
     rfl
    refine hK.out _ _ ⟨((cell_far (p:=⟨qa,_,none⟩) qj.o _).trans (((cell_far (p:=⟨qa,_,none⟩) qj.o _).trans (((cell_far (p:=⟨qa,_,none⟩) qj.o _).trans (hHeld.1)))))),((cell_far (p:=⟨qa,_,none⟩) qj.o _).trans (((cell_far (p:=⟨qa,_,none⟩) qj.o _).trans (((cell_far (p:=⟨qa,_,none⟩) qj.o _).trans (hHeld.2.1)))))),((cell_far (p:=⟨qa,_,none⟩) qj.o _).trans (((cell_far (p:=⟨qa,_,none⟩) qj.o _).trans (((cell_far (p:=⟨qa,_,none⟩) qj.o _).trans (hHeld.2.2.1)))))),((cell_far (p:=⟨qa,_,none⟩) qk.o _).trans (((cell_far (p:=⟨qa,_,none⟩) qk.o _).trans (((cell_far (p:=⟨qa,_,none⟩) qk.o _).trans (hHeld.2.2.2.1)))))),((cell_far (p:=⟨qa,_,none⟩) qk.o _).trans (((cell_far (p:=⟨qa,_,none⟩) qk.o _).trans (((cell_far (p:=⟨qa,_,none⟩) qk.o _).trans (hHeld.2.2.2.2.1)))))),((cell_far (p:=⟨qa,_,none⟩) qk.o _).trans (((cell_far (p:=⟨qa,_,none⟩) qk.o _).trans (((cell_far (p:=⟨qa,_,none⟩) qk.o _).trans (hHeld.2.2.2.2.2))))))⟩ (fun hHeld=>?_)
    clear hK K
    refine done_ (Zdg HT_.out (by kernel_rfl)) ?_
    have jj:=qu.o
    have jm:=qj.o
    have jk:=qv.o
    have jn:=qk.o
    obtain ⟨_,_,_,_,_,_⟩:=cEc qe.o
    first|(have q_:Aside0 (_=some true):=A7;try go_wp2_with (first|(refine gL (some 23) Tryz.func104 #[.agg #[.bool qt,.slice qi qb.length qg,.int .i64 qc]] (h:=?_);(with_reducible refine (Za0.calls qt _ _ qb qc true _ ?side1 ?side2 A7.o).mono ?_);(case side1=>refine (Kd.Zf (e:=85) (base:=w.heap.size) (ok:=fun k_=>(w.heap.size<=k_)) (n:=qb.length) (c:=qg) ?_).2.2;exact (Kd.Zc (z3 qm.o qe.o (by decide) (.bool qt) (.slice qi qb.length qg) (.int .i64 qc)) pl));(case side2=>exact (Kd.Zf qm.o).2.1);rintro e w96z ⟨rfl,hb⟩;refine ⟨_,rfl,?_⟩;replace HO0_1:=am (Kd.Zam (Kd.Zam (Kd.Zr (Kd.Zav (p:=⟨qa,2,none⟩) (Kd.Zav (p:=⟨qa,1,none⟩) (Kd.Zav (p:=⟨qa,0,none⟩) (Kd.Zr HO0_1.o (fun k_ hk=>(⟨hk,hk.2.2.2.2.2⟩:_/\k_ ≠ qa))) (fun _ hk=>hk.2) (.bool qt)) (fun _ hk=>hk.2) (.slice qi qb.length qg)) (fun _ hk=>hk.2) (.int .i64 qc)) (fun _ h_=>h_.1)) pl) hb);replace HO1_1:=am (Kd.Zam (Kd.Zam (Kd.Zr (Kd.Zav (p:=⟨qa,2,none⟩) (Kd.Zav (p:=⟨qa,1,none⟩) (Kd.Zav (p:=⟨qa,0,none⟩) (Kd.Zr HO1_1.o (fun k_ hk=>(⟨hk,hk.2.2.2.2.2⟩:_/\k_ ≠ qa))) (fun _ hk=>hk.2) (.bool qt)) (fun _ hk=>hk.2) (.slice qi qb.length qg)) (fun _ hk=>hk.2) (.int .i64 qc)) (fun _ h_=>h_.1)) pl) hb);replace qd:=am (Kd.Zcf (Kd.Zcf (Kd.Zec (Kd.Zis (p:=⟨qa,2,none⟩) (Kd.Zis (p:=⟨qa,1,none⟩) (Kd.Zis (p:=⟨qa,0,none⟩) (Kd.Zec qd.o (fun k_ hk=>(⟨hk,hk.2.2.2.2⟩:_/\k_ ≠ qa))) (fun _ hk=>hk.2) (.bool qt)) (fun _ hk=>hk.2) (.slice qi qb.length qg)) (fun _ hk=>hk.2) (.int .i64 qc)) (fun _ h_=>h_.1)) pl) hb);replace qf:=am (Kd.Zam (Kd.Zam (Kd.Zr (Kd.Zav (p:=⟨qa,2,none⟩) (Kd.Zav (p:=⟨qa,1,none⟩) (Kd.Zav (p:=⟨qa,0,none⟩) (Kd.Zr qf.o (fun k_ hk=>(⟨hk,hk.2.2.2.2.2⟩:_/\k_ ≠ qa))) (fun _ hk=>hk.2) (.bool qt)) (fun _ hk=>hk.2) (.slice qi qb.length qg)) (fun _ hk=>hk.2) (.int .i64 qc)) (fun _ h_=>h_.1)) pl) hb);replace qm:=am (Kd.Zc (Kd.Zc (z3 qm.o qe.o (by decide) (.bool qt) (.slice qi qb.length qg) (.int .i64 qc)) pl) hb);replace BK2z:=bfb qj BK2z hb;replace BK7z:=bfb qk BK7z hb;replace qe:=am (Za (g:=qa) (o:=.cells #[.bool qt,.slice qi qb.length qg,.int .i64 qc] 106 (0,0)) (by exact p3 qe) hb);replace HB:=bS hb)))|(have q_:Aside0 (_=some (true,_,_)):=A6;have q_:Aside0 (_=some false):=A7;try go_wp2_with (first|(refine gL (some 23) Tryz.func104 #[.agg #[.bool true,.slice qi qb.length qg,.int .i64 qc]] (h:=?_);(with_reducible refine (Za0.calls true _ _ qb qc false _ ?side1 ?side2 A7.o).mono ?_);(case side1=>refine (Kd.Zf (e:=85) (base:=w.heap.size) (ok:=fun k_=>(w.heap.size<=k_)) (n:=qb.length) (c:=qg) ?_).2.2;exact (Kd.Zc (z3 qm.o qe.o (by decide) (.bool true) (.slice qi qb.length qg) (.int .i64 qc)) pl));(case side2=>exact (Kd.Zf qm.o).2.1);rintro e w96z ⟨rfl,hb⟩;refine ⟨_,rfl,?_⟩;replace HO0_1:=am (Kd.Zam (Kd.Zam (Kd.Zr (Kd.Zav (p:=⟨qa,2,none⟩) (Kd.Zav (p:=⟨qa,1,none⟩) (Kd.Zav (p:=⟨qa,0,none⟩) (Kd.Zr HO0_1.o (fun k_ hk=>(⟨hk,hk.2.2.2.2.2⟩:_/\k_ ≠ qa))) (fun _ hk=>hk.2) (.bool true)) (fun _ hk=>hk.2) (.slice qi qb.length qg)) (fun _ hk=>hk.2) (.int .i64 qc)) (fun _ h_=>h_.1)) pl) hb);replace HO1_1:=am (Kd.Zam (Kd.Zam (Kd.Zr (Kd.Zav (p:=⟨qa,2,none⟩) (Kd.Zav (p:=⟨qa,1,none⟩) (Kd.Zav (p:=⟨qa,0,none⟩) (Kd.Zr HO1_1.o (fun k_ hk=>(⟨hk,hk.2.2.2.2.2⟩:_/\k_ ≠ qa))) (fun _ hk=>hk.2) (.bool true)) (fun _ hk=>hk.2) (.slice qi qb.length qg)) (fun _ hk=>hk.2) (.int .i64 qc)) (fun _ h_=>h_.1)) pl) hb);replace qd:=am (Kd.Zcf (Kd.Zcf (Kd.Zec (Kd.Zis (p:=⟨qa,2,none⟩) (Kd.Zis (p:=⟨qa,1,none⟩) (Kd.Zis (p:=⟨qa,0,none⟩) (Kd.Zec qd.o (fun k_ hk=>(⟨hk,hk.2.2.2.2⟩:_/\k_ ≠ qa))) (fun _ hk=>hk.2) (.bool true)) (fun _ hk=>hk.2) (.slice qi qb.length qg)) (fun _ hk=>hk.2) (.int .i64 qc)) (fun _ h_=>h_.1)) pl) hb);replace qf:=am (Kd.Zam (Kd.Zam (Kd.Zr (Kd.Zav (p:=⟨qa,2,none⟩) (Kd.Zav (p:=⟨qa,1,none⟩) (Kd.Zav (p:=⟨qa,0,none⟩) (Kd.Zr qf.o (fun k_ hk=>(⟨hk,hk.2.2.2.2.2⟩:_/\k_ ≠ qa))) (fun _ hk=>hk.2) (.bool true)) (fun _ hk=>hk.2) (.slice qi qb.length qg)) (fun _ hk=>hk.2) (.int .i64 qc)) (fun _ h_=>h_.1)) pl) hb);replace qm:=am (Kd.Zc (Kd.Zc (z3 qm.o qe.o (by decide) (.bool true) (.slice qi qb.length qg) (.int .i64 qc)) pl) hb);replace BK2z:=bfb qj BK2z hb;replace BK7z:=bfb qk BK7z hb;replace qe:=am (Za (g:=qa) (o:=.cells #[.bool true,.slice qi qb.length qg,.int .i64 qc] 106 (0,0)) (by exact p3 qe) hb);replace HB:=bS hb;obtain ⟨jc,jd,je,q5,q6,q7⟩:=cEc qe.o)))|(have q_:Aside0 (_=some (false,_,_)):=A6;have q_:Aside0 (_=some false):=A7;try go_wp2_with (first|(refine gL (some 23) Tryz.func104 #[.agg #[.bool false,.slice qi qb.length qg,.int .i64 qc]] (h:=?_);(with_reducible refine (Za0.calls false _ _ qb qc false _ ?side1 ?side2 A7.o).mono ?_);(case side1=>refine (Kd.Zf (e:=85) (base:=w.heap.size) (ok:=fun k_=>(w.heap.size<=k_)) (n:=qb.length) (c:=qg) ?_).2.2;exact (Kd.Zc (z3 qm.o qe.o (by decide) (.bool false) (.slice qi qb.length qg) (.int .i64 qc)) pl));(case side2=>exact (Kd.Zf qm.o).2.1);rintro e w96z ⟨rfl,hb⟩;refine ⟨_,rfl,?_⟩;replace HO0_1:=am (Kd.Zam (Kd.Zam (Kd.Zr (Kd.Zav (p:=⟨qa,2,none⟩) (Kd.Zav (p:=⟨qa,1,none⟩) (Kd.Zav (p:=⟨qa,0,none⟩) (Kd.Zr HO0_1.o (fun k_ hk=>(⟨hk,hk.2.2.2.2.2⟩:_/\k_ ≠ qa))) (fun _ hk=>hk.2) (.bool false)) (fun _ hk=>hk.2) (.slice qi qb.length qg)) (fun _ hk=>hk.2) (.int .i64 qc)) (fun _ h_=>h_.1)) pl) hb);replace HO1_1:=am (Kd.Zam (Kd.Zam (Kd.Zr (Kd.Zav (p:=⟨qa,2,none⟩) (Kd.Zav (p:=⟨qa,1,none⟩) (Kd.Zav (p:=⟨qa,0,none⟩) (Kd.Zr HO1_1.o (fun k_ hk=>(⟨hk,hk.2.2.2.2.2⟩:_/\k_ ≠ qa))) (fun _ hk=>hk.2) (.bool false)) (fun _ hk=>hk.2) (.slice qi qb.length qg)) (fun _ hk=>hk.2) (.int .i64 qc)) (fun _ h_=>h_.1)) pl) hb);replace qd:=am (Kd.Zcf (Kd.Zcf (Kd.Zec (Kd.Zis (p:=⟨qa,2,none⟩) (Kd.Zis (p:=⟨qa,1,none⟩) (Kd.Zis (p:=⟨qa,0,none⟩) (Kd.Zec qd.o (fun k_ hk=>(⟨hk,hk.2.2.2.2⟩:_/\k_ ≠ qa))) (fun _ hk=>hk.2) (.bool false)) (fun _ hk=>hk.2) (.slice qi qb.length qg)) (fun _ hk=>hk.2) (.int .i64 qc)) (fun _ h_=>h_.1)) pl) hb);replace qf:=am (Kd.Zam (Kd.Zam (Kd.Zr (Kd.Zav (p:=⟨qa,2,none⟩) (Kd.Zav (p:=⟨qa,1,none⟩) (Kd.Zav (p:=⟨qa,0,none⟩) (Kd.Zr qf.o (fun k_ hk=>(⟨hk,hk.2.2.2.2.2⟩:_/\k_ ≠ qa))) (fun _ hk=>hk.2) (.bool false)) (fun _ hk=>hk.2) (.slice qi qb.length qg)) (fun _ hk=>hk.2) (.int .i64 qc)) (fun _ h_=>h_.1)) pl) hb);replace qm:=am (Kd.Zc (Kd.Zc (z3 qm.o qe.o (by decide) (.bool false) (.slice qi qb.length qg) (.int .i64 qc)) pl) hb);replace BK2z:=bfb qj BK2z hb;replace BK7z:=bfb qk BK7z hb;replace qe:=am (Za (g:=qa) (o:=.cells #[.bool false,.slice qi qb.length qg,.int .i64 qc] 106 (0,0)) (by exact p3 qe) hb);replace HB:=bS hb;obtain ⟨jc,jd,je,q5,q6,q7⟩:=cEc qe.o)))
    go_ret2
    exact ⟨pE,pB⟩
  | go_ret2
    exact ⟨pE,pB⟩):P:=h
theorem Zbl.calls (k:Nat) (a0_0:Bool) (P0_1_:Nat->Prop) (A0_1:Option Addr) (c0_1:Nat) (l0_1:List Int) (a0_2:Int) (a1_0:Bool) (P1_1_:Nat->Prop) (A1_1:Option Addr) (c1_1:Nat) (l1_1:List Int) (a1_2:Int) (r1:Int) (r2:Int) (w:World) (hs0_1:Kd.V (Kd.int .u32) 85 w w.heap.size (fun k_=>P0_1_ k_) (.slice A0_1 l0_1.length c0_1) l0_1) (hs1_1:Kd.V (Kd.int .u32) 85 w w.heap.size (fun k_=>P1_1_ k_) (.slice A1_1 l1_1.length c1_1) l1_1) (h:Zbl.f k a0_0 l0_1 a0_2 a1_0 l1_1 a1_2=some (r1,r2)) :
  Calls Tryz.prog 48 #[.agg #[.bool a0_0,.slice A0_1 l0_1.length c0_1,.int .i64 a0_2],.agg #[.bool a1_0,.slice A1_1 l1_1.length c1_1,.int .i64 a1_2]] w fun e w'=>e=.returned (.tuple #[.int .i64 r1,.int .i64 r2])/\Below w.heap.size w w':=by
 have hu24:=Tryz.underlying24
 have jo:=Tryz.underlying106
 have HO0_1:=am (show Kd.V (Kd.int .u32) 85 w w.heap.size (fun k_=>((P0_1_ k_\/P1_1_ k_)\/w.heap.size<=k_)) (.slice A0_1 l0_1.length c0_1) l0_1 from Kd.Zr hs0_1 (fun k_ hk=>.inl (.inl hk)))
 have HO1_1:=am (show Kd.V (Kd.int .u32) 85 w w.heap.size (fun k_=>((P0_1_ k_\/P1_1_ k_)\/w.heap.size<=k_)) (.slice A1_1 l1_1.length c1_1) l1_1 from Kd.Zr hs1_1 (fun k_ hk=>.inl (.inr hk)))
 have HB:=am (Below.refl w.heap.size w)
 have H:((Zcs.f k (([(⟨a0_0,l0_1,a0_2⟩:S24),(⟨a1_0,l1_1,a1_2⟩:S24)]:List (S24)))).bind fun qw=>(if qw=0 then ((Zbb.f a1_0 l1_1 a1_2).bind fun qs=>((Zu.f k a0_0 l0_1 a0_2 qs.1 qs.2.1 qs.2.2).bind fun qp=>((Za0.f qp.1 qp.2.1 qp.2.2).bind fun qx=>(if qx=true then (some (0,0)) else (if qp.1=true then (some ((-1),0)) else (some (1,0))))))) else (some (0,qw))))=some (r1,r2):=h
 clear h
 obtain ⟨qh,q3⟩:∃ y_:List (S24),y_=(([(⟨a0_0,l0_1,a0_2⟩:S24),(⟨a1_0,l1_1,a1_2⟩:S24)]:List (S24))):=⟨_,rfl⟩
 replace H:((Zcs.f k qh).bind fun qw=>(if qw=0 then ((Zbb.f a1_0 l1_1 a1_2).bind fun qs=>((Zu.f k a0_0 l0_1 a0_2 qs.1 qs.2.1 qs.2.2).bind fun qp=>((Za0.f qp.1 qp.2.1 qp.2.2).bind fun qx=>(if qx=true then (some (0,0)) else (if qp.1=true then (some ((-1),0)) else (some (1,0))))))) else (some (0,qw))))=some (r1,r2):=by have hy_:=q3;exact pH
 have q4:=am q3
 clear q3
 replace H:=ob H
 obtain ⟨qw,A3,H⟩:=H
 replace H:=eI H
 rcases H with ⟨c4b0,c4b1,H⟩|⟨c4,c4b0,c4b1,H⟩
 ·replace H:=ob H
  obtain ⟨⟨qq,qo,qr⟩,A5,H⟩:=H;(try dsimp only at H)
  replace H:=ob H
  obtain ⟨⟨qt,qb,qc⟩,A6,H⟩:=H;(try dsimp only at H)
  replace H:=ob H
  obtain ⟨qx,A7,H⟩:=H
  replace H:=tI (t:=qx) H
  rcases H with ⟨rfl,H⟩|⟨rfl,H⟩
  ·simp only [Option.some.injEq,Prod.mk.injEq] at H
   obtain ⟨rfl,rfl⟩:=H
   exact Zbl.leaf
  ·replace H:=tI (t:=qt) H
   rcases H with ⟨rfl,H⟩|⟨rfl,H⟩
   ·simp only [Option.some.injEq,Prod.mk.injEq] at H
    obtain ⟨rfl,rfl⟩:=H
    exact Zbl.leaf
   ·simp only [Option.some.injEq,Prod.mk.injEq] at H
    obtain ⟨rfl,rfl⟩:=H
    exact Zbl.leaf
 ·simp only [Option.some.injEq,Prod.mk.injEq] at H
  obtain ⟨rfl,rfl⟩:=H
  exact Zbl.leaf
def Zcy.f (k:Nat) (a0_0:Bool) (l0_1:List Int) (a0_2:Int) (a1_0:Bool) (l1_1:List Int) (a1_2:Int):Option (Bool × List Int × Int × Int):=(Zcs.f k (([(⟨a0_0,l0_1,a0_2⟩:S24),(⟨a1_0,l1_1,a1_2⟩:S24)]:List (S24)))).bind fun qg=>(if qg=0 then ((Zes.f k l0_1 l1_1).bind fun qh=>((Zbw.f qh.1 qh.2).bind fun qi=>((Zbj.f k (a0_0 != a1_0) qi (wrap64 (a0_2+a1_2))).bind fun qc=>(some (qc.1,qc.2.1,qc.2.2.1,qc.2.2.2))))) else (some (false,([]:List Int),0,qg)))
def Zcy.T4:Bool × List (List Nat × List Nat):=(true,[([],[]),([0],[0]),([],[]),([2],[2]),([1,3],[1,3]),([],[]),([5],[5]),([],[]),([7],[7]),([6,8],[6,8]),([9],[9]),([9],[9]),([10,11,9],[10,11]),([],[]),([13],[13]),([],[]),([15],[15]),([14,16],[14,16]),([4,12,17],[4,12,17]),([18],[18]),([19,12],[19]),([20],[20]),([20],[20]),([21,20,0,1,2,3,4,5,6,7,8,9,10,11,12,13,14,15,16,17,18,19,20,21,22],[21]),([22,23,0,1,2,3,4,5,6,7,8,9,10,11,12,13,14,15,16,17,18,19,20,21,22,23],[22])])
def Zcy.B4:List Nat:=[0,1,0,4,15,0,32,0,128,480,992,992,4064,0,8192,0,32768,122880,262143,524287,1048575,2097151,2097151,8388607,16777215]
theorem Zcy.tab4:rtab .any (opsOf Tryz.f49 4)=Zcy.T4:=by kernel_rfl
theorem Zcy.bits4:waitsOk Zcy.T4.2 Zcy.B4=true:=by kernel_rfl
theorem Zcy.leaf {P:Prop} (h:P:=by
 go_enter Tryz.func49,Tryz.ntmps49
 try go_wp2_with (first|((with_reducible refine gd 2 ?_);refine bx 2 #[.bool a0_0,.slice A0_1 l0_1.length c0_1,.int .i64 a0_2] 24 (h:=?_);intro gb0z hg w1z hbox hb;have BK2z:=am hbox;have GW3z:=gW hg;replace HO0_1:=vE HO0_1 gb0z hg hb;replace HO1_1:=vE HO1_1 gb0z hg hb;replace HB:=bS hb;clear hb hbox hg)|((with_reducible refine gd 3 ?_);refine bx 3 #[.bool a1_0,.slice A1_1 l1_1.length c1_1,.int .i64 a1_2] 24 (h:=?_);intro gb5z hg w6z hbox hb;have BK7z:=am hbox;have GW8z:=gW hg;have q7:=nL hg BK2z;have q8:=nG hg BK2z;replace HO0_1:=vE HO0_1 gb5z hg hb;replace HO1_1:=vE HO1_1 gb5z hg hb;replace BK2z:=bb BK2z hb;replace HB:=bS hb;clear hb hbox hg)|((with_reducible refine gd 4 ?_);refine bx 4 #[.bool false,.slice none 0 0,.int .i64 0] 24 (h:=?_);intro qa hg w13z hbox hb;have qb:=am hbox;have jh:=gW hg;have qe:=nL hg BK2z;have qq:=nG hg BK2z;have qf:=nL hg BK7z;have qr:=nG hg BK7z;replace HO0_1:=vE HO0_1 qa hg hb;replace HO1_1:=vE HO1_1 qa hg hb;replace BK2z:=bb BK2z hb;replace BK7z:=bb BK7z hb;replace HB:=bS hb;clear hb hbox hg;have jb:=q7.o;have je:=q8.o;have jc:=qe.o;have jf:=qq.o;obtain ⟨_,_,_,_,_,_⟩:=cEc BK2z.o;have jd:=qf.o;have jg:=qr.o;obtain ⟨_,_,_,_,_,_⟩:=cEc BK7z.o)|((with_reducible refine gd 9 ?_);refine Kd.Zo1 k24 _ 24 ?hg (N':=9) ?hd (xs:=([(⟨a0_0,l0_1,a0_2⟩:S24),(⟨a1_0,l1_1,a1_2⟩:S24)]:List (S24))) (inner:=[.bool a0_0,.slice A0_1 l0_1.length c0_1,.int .i64 a0_2,.bool a1_0,.slice A1_1 l1_1.length c1_1,.int .i64 a1_2]) (ok:=(fun k_=>((P0_1_ k_\/P1_1_ k_)\/w.heap.size<=k_)/\k_ ≠ gb0z/\k_ ≠ gb5z/\k_ ≠ qa)) (okp:=(fun k_=>((P0_1_ k_\/P1_1_ k_)\/w.heap.size<=k_)/\k_ ≠ gb0z/\k_ ≠ gb5z/\k_ ≠ qa)) ?hr ?hp (fun _ hk=>hk) ((show ∀ k_,w13z.heap.size<=k_->(fun k_=>((P0_1_ k_\/P1_1_ k_)\/w.heap.size<=k_)/\k_ ≠ gb0z/\k_ ≠ gb5z/\k_ ≠ qa) k_ from fun k_ hk=>⟨(.inr (Nat.le_trans (Zb pB) hk)),Kd.freshB (g:=gb0z) (o:=.cells #[.bool a0_0,.slice A0_1 l0_1.length c0_1,.int .i64 a0_2] 24 (0,0)) (Za BK2z.o pl) k_ hk,Kd.freshB (g:=gb5z) (o:=.cells #[.bool a1_0,.slice A1_1 l1_1.length c1_1,.int .i64 a1_2] 24 (0,0)) (Za BK7z.o pl) k_ hk,Kd.freshB (g:=qa) (o:=.cells #[.bool false,.slice none 0 0,.int .i64 0] 24 (0,0)) (Za qb.o pl) k_ hk⟩) _ (Nat.le_refl _)) (Below.refl _ _) (Nat.le_refl _) (by simp) ?_;(case hd=>rfl);(case hg=>rfl);(case hr=>first|(go_simp;done)|(go_simp;rfl));(case hp=>exact (Reps.c3 (show Kd.FK k24 _ _ (⟨a0_0,l0_1,a0_2⟩:S24) [.bool a0_0,.slice A0_1 l0_1.length c0_1,.int .i64 a0_2] from (Zfc _ _ (⟨a0_0,l0_1,a0_2⟩:S24) (Kd.Zai (Kd.Zr (ok':=(fun k_=>((P0_1_ k_\/P1_1_ k_)\/w.heap.size<=k_)/\k_ ≠ gb0z/\k_ ≠ gb5z/\k_ ≠ qa)) (HO0_1.o) (fun k_ hk=>⟨hk.1.1.1,⟨hk.1.1.2,⟨hk.1.2,hk.2⟩⟩⟩))).2.1 (Kd.V_F (Kd.Zr (ok':=(fun k_=>((P0_1_ k_\/P1_1_ k_)\/w.heap.size<=k_)/\k_ ≠ gb0z/\k_ ≠ gb5z/\k_ ≠ qa)) (HO0_1.o) (fun k_ hk=>⟨hk.1.1.1,⟨hk.1.1.2,⟨hk.1.2,hk.2⟩⟩⟩))))) (Reps.c3 (show Kd.FK k24 _ _ (⟨a1_0,l1_1,a1_2⟩:S24) [.bool a1_0,.slice A1_1 l1_1.length c1_1,.int .i64 a1_2] from (Zfc _ _ (⟨a1_0,l1_1,a1_2⟩:S24) (Kd.Zai (Kd.Zr (ok':=(fun k_=>((P0_1_ k_\/P1_1_ k_)\/w.heap.size<=k_)/\k_ ≠ gb0z/\k_ ≠ gb5z/\k_ ≠ qa)) (HO1_1.o) (fun k_ hk=>⟨hk.1.1.1,⟨hk.1.1.2,⟨hk.1.2,hk.2⟩⟩⟩))).2.1 (Kd.V_F (Kd.Zr (ok':=(fun k_=>((P0_1_ k_\/P1_1_ k_)\/w.heap.size<=k_)/\k_ ≠ gb0z/\k_ ≠ gb5z/\k_ ≠ qa)) (HO1_1.o) (fun k_ hk=>⟨hk.1.1.1,⟨hk.1.1.2,⟨hk.1.2,hk.2⟩⟩⟩))))) (Reps.none _ _))));intro v39z w40z ho41z hb hg_ hnew_;clear hg_ hnew_;(first|rw [<- qu.out] at ho41z|(simp only [Int.reduceToNat] at ho41z;rw [<- qu.out] at ho41z));replace HO0_1:=am (Kd.Zbn (Kd.Zam HO0_1.o pl) (Kd.Zgx ho41z) hb);replace HO1_1:=am (Kd.Zbn (Kd.Zam HO1_1.o pl) (Kd.Zgx ho41z) hb);have qd:=am (Kd.Ziu ho41z (Zb pB));replace BK2z:=bb BK2z hb;replace BK7z:=bb BK7z hb;replace qb:=bb qb hb;replace HB:=bS hb;clear hb ho41z;obtain ⟨qm,qn,q9⟩:=Kd.Ziv qd.o;subst q9)|((have q_:=A7;clear q_);refine gL (some 10) Tryz.func99 #[.slice qm qj.length qn] (h:=?_);(with_reducible refine (Zcs.calls k _ _ qj qg _ ?side1 ?side2 A3.o).mono ?_);(case side1=>exact Kd.Zv (Kd.Zdi qd.o).2.2 pl);(case side2=>exact (Kd.Zdi qd.o).2.1);rintro e w46z ⟨rfl,hb⟩;refine ⟨_,rfl,?_⟩;replace HO0_1:=vbl HO0_1 hb;replace HO1_1:=vbl HO1_1 hb;replace qd:=nbl qd hb;replace BK2z:=bb BK2z hb;replace BK7z:=bb BK7z hb;replace qb:=bb qb hb;replace HB:=bS hb)|((have q_:(qg != 0)=true:=c4b1;clear q_);refine gL (some 10) Tryz.func99 #[.slice qm qj.length qn] (h:=?_);(with_reducible refine (Zcs.calls k _ _ qj qg _ ?side1 ?side2 A3.o).mono ?_);(case side1=>exact Kd.Zv (Kd.Zdi qd.o).2.2 pl);(case side2=>exact (Kd.Zdi qd.o).2.1);rintro e w46z ⟨rfl,hb⟩;refine ⟨_,rfl,?_⟩;replace HO0_1:=vbl HO0_1 hb;replace HO1_1:=vbl HO1_1 hb;replace qd:=nbl qd hb;replace BK2z:=bb BK2z hb;replace BK7z:=bb BK7z hb;replace qb:=bb qb hb;replace HB:=bS hb;obtain ⟨_,_,_,_,_,_⟩:=cEc qb.o))
 first
  | have q_:=A7
    replace HO0_1:=am (Kd.Zgy HO0_1.o)
    replace HO1_1:=am (Kd.Zgy HO1_1.o)
    replace qd:=am (Kd.Zm2 qd.o)
    replace BK2z:=am (Zay BK2z.o)
    replace BK7z:=am (Zay BK7z.o)
    replace qb:=am (Zay qb.o)
    replace HB:=am (Zbe HB.o)
    refine start_ (n:=25) (S:=fun w'=>w'.cell? ⟨gb0z,0,none⟩=some (.bool a0_0)/\w'.cell? ⟨gb0z,1,none⟩=some (.slice A0_1 l0_1.length c0_1)/\w'.cell? ⟨gb0z,2,none⟩=some (.int .i64 a0_2)/\w'.cell? ⟨gb5z,0,none⟩=some (.bool a1_0)/\w'.cell? ⟨gb5z,1,none⟩=some (.slice A1_1 l1_1.length c1_1)/\w'.cell? ⟨gb5z,2,none⟩=some (.int .i64 a1_2)) (ds:=[]) #[false,false,false,false,false,false,false,false,false,false,false,false,false,false,false,false,false,false,false,false,false,false,false,false,false] (by kernel_rfl) rfl rfl ⟨k0 BK2z 0,k0 BK2z 1,k0 BK2z 2,k0 BK7z 0,k0 BK7z 1,k0 BK7z 2⟩ (fun hHeld=>?_);refine Zch Zcy.tab4 Zcy.bits4 (fun HT_ HW_=>?_)
    generalize w46z.drew=w47z at HO0_1 HO1_1 qd BK2z BK7z qb HB hHeld ⊢
    refine pu 0 (some 15) #[true,false,false,false,false,false,false,false,false,false,false,false,false,false,false,false,false,false,false,false,false,false,false,false,false] (h:=?_)
    refine pu 2 (some 17) #[true,false,true,false,false,false,false,false,false,false,false,false,false,false,false,false,false,false,false,false,false,false,false,false,false] (h:=?_)
    refine pu 5 (some 20) #[true,false,true,false,false,true,false,false,false,false,false,false,false,false,false,false,false,false,false,false,false,false,false,false,false] (h:=?_)
    refine pu 7 (some 22) #[true,false,true,false,false,true,false,true,false,false,false,false,false,false,false,false,false,false,false,false,false,false,false,false,false] (h:=?_)
    refine pu 13 (some 28) #[true,false,true,false,false,true,false,true,false,false,false,false,false,true,false,false,false,false,false,false,false,false,false,false,false] (h:=?_)
    refine pu 15 (some 30) #[true,false,true,false,false,true,false,true,false,false,false,false,false,true,false,true,false,false,false,false,false,false,false,false,false] (h:=?_)
    refine take_ (i:=1) (N:=some 16) (v:=?_) (a':=?_) #[true,true,true,false,false,true,false,true,false,false,false,false,false,true,false,true,false,false,false,false,false,false,false,false,false] rfl rfl (Za3 HT_.out HW_.out (by kernel_rfl)) (fun _ _ _ h=>h) (Or.inl ⟨by rfl,?_⟩) hHeld ?_ ?_
    rotate_left
    ·rintro w' ⟨s48z,s49z,s50z,s51z,s52z,s53z⟩
     go_simp
     with_reducible rfl
    rotate_left
    ·exact pP
    refine take_ (i:=3) (N:=some 18) (v:=?_) (a':=?_) #[true,true,true,true,false,true,false,true,false,false,false,false,false,true,false,true,false,false,false,false,false,false,false,false,false] rfl rfl (Za3 HT_.out HW_.out (by kernel_rfl)) (fun _ _ _ h=>h) (Or.inl ⟨by rfl,?_⟩) hHeld ?_ ?_
    rotate_left
    ·rintro w' ⟨s48z,s49z,s50z,s51z,s52z,s53z⟩
     go_simp
     with_reducible rfl
    rotate_left
    ·exact pP
    refine pu 4 (some 19) #[true,true,true,true,true,true,false,true,false,false,false,false,false,true,false,true,false,false,false,false,false,false,false,false,false] (h:=?_)
    refine take_ (i:=6) (N:=some 21) (v:=?_) (a':=?_) #[true,true,true,true,true,true,true,true,false,false,false,false,false,true,false,true,false,false,false,false,false,false,false,false,false] rfl rfl (Za3 HT_.out HW_.out (by kernel_rfl)) (fun _ _ _ h=>h) (Or.inl ⟨by rfl,?_⟩) hHeld ?_ ?_
    rotate_left
    ·rintro w' ⟨s48z,s49z,s50z,s51z,s52z,s53z⟩
     go_simp
     with_reducible rfl
    rotate_left
    ·exact pP
    refine take_ (i:=8) (N:=some 23) (v:=?_) (a':=?_) #[true,true,true,true,true,true,true,true,true,false,false,false,false,true,false,true,false,false,false,false,false,false,false,false,false] rfl rfl (Za3 HT_.out HW_.out (by kernel_rfl)) (fun _ _ _ h=>h) (Or.inl ⟨by rfl,?_⟩) hHeld ?_ ?_
    rotate_left
    ·rintro w' ⟨s48z,s49z,s50z,s51z,s52z,s53z⟩
     go_simp
     with_reducible rfl
    rotate_left
    ·exact pP
    refine take_ (i:=14) (N:=some 29) (v:=?_) (a':=?_) #[true,true,true,true,true,true,true,true,true,false,false,false,false,true,true,true,false,false,false,false,false,false,false,false,false] rfl rfl (Za3 HT_.out HW_.out (by kernel_rfl)) (fun _ _ _ h=>h) (Or.inl ⟨by rfl,?_⟩) hHeld ?_ ?_
    rotate_left
    ·rintro w' ⟨s48z,s49z,s50z,s51z,s52z,s53z⟩
     go_simp
     with_reducible rfl
    rotate_left
    ·exact pP
    refine take_ (i:=16) (N:=some 31) (v:=?_) (a':=?_) #[true,true,true,true,true,true,true,true,true,false,false,false,false,true,true,true,true,false,false,false,false,false,false,false,false] rfl rfl (Za3 HT_.out HW_.out (by kernel_rfl)) (fun _ _ _ h=>h) (Or.inl ⟨by rfl,?_⟩) hHeld ?_ ?_
    rotate_left
    ·rintro w' ⟨s48z,s49z,s50z,s51z,s52z,s53z⟩
     go_simp
     with_reducible rfl
    rotate_left
    ·exact pP
    refine pu 17 (some 32) #[true,true,true,true,true,true,true,true,true,false,false,false,false,true,true,true,true,true,false,false,false,false,false,false,false] (h:=?_)
    refine one_ (i:=9) (N:=some 24) #[true,true,true,true,true,true,true,true,true,true,false,false,false,true,true,true,true,true,false,false,false,false,false,false,false] rfl rfl (Za8 HT_.out (by kernel_rfl)) (by decide) (fun K hK=>?_)
    refine goes_ Tryz.func71 (by kernel_rfl) rfl #[.slice A0_1 l0_1.length c0_1,.slice A1_1 l1_1.length c1_1] (by rfl) rfl rfl pA ?_
    with_reducible refine (Zes.calls k _ _ l0_1 _ _ l1_1 qo qx _ ?side1 ?side2 ?side3 ?side4 A5.o).mono ?_
    (case side1=>exact Kd.Zv (Kd.Zai HO0_1.o).2.2 pl)
    (case side2=>exact (Kd.Zai HO0_1.o).2.1)
    (case side3=>exact Kd.Zv (Kd.Zai HO1_1.o).2.2 pl)
    (case side4=>exact (Kd.Zai HO1_1.o).2.1)
    rintro e w54z ⟨v55z,rfl,ho56z,hb⟩
    refine ⟨_,rfl,?_⟩
    replace HO0_1:=am (Kd.Zbn (Kd.Zam HO0_1.o pl) (Kd.Zbh ho56z) hb)
    replace HO1_1:=am (Kd.Zbn (Kd.Zam HO1_1.o pl) (Kd.Zbh ho56z) hb)
    replace qd:=am (Kd.Zfj (Kd.Zcf qd.o pl) (Kd.Zbh ho56z) hb)
    have qk:=am (Kd.Zt (Kd.Ze4 (M:=fun k_=>(w.heap.size<=k_)) ho56z (Zb pB) (fun k_ h_=>h_)) (Zb pB))
    replace BK2z:=bb BK2z hb
    replace BK7z:=bb BK7z hb
    replace qb:=bb qb hb
    replace HB:=bS hb
    obtain ⟨qs,qv,q4⟩:=Kd.Zm qk.o
    (first|subst q4|(injection q4 with f1_ f2_ f3_;have f4_:=f1_.symm;have f5_:=f3_.symm;clear f1_ f2_ f3_;subst f4_;subst f5_))
    refine hK.out _ _ ⟨k0 BK2z 0,k0 BK2z 1,k0 BK2z 2,k0 BK7z 0,k0 BK7z 1,k0 BK7z 2⟩ (fun hHeld=>?_)
    clear hK K
    refine norm_ (a':=?_) ?_ ?_
    rotate_left
    ·show Act.put _ (some 24) _=_
     exact pP
    refine pu 10 (some 25) #[true,true,true,true,true,true,true,true,true,true,true,false,false,true,true,true,true,true,false,false,false,false,false,false,false] (h:=?_)
    refine pu 11 (some 26) #[true,true,true,true,true,true,true,true,true,true,true,true,false,true,true,true,true,true,false,false,false,false,false,false,false] (h:=?_)
    refine one_ (i:=12) (N:=some 27) #[true,true,true,true,true,true,true,true,true,true,true,true,true,true,true,true,true,true,false,false,false,false,false,false,false] rfl rfl (Za8 HT_.out (by kernel_rfl)) (by decide) (fun K hK=>?_)
    refine goes_ Tryz.func105 (by kernel_rfl) rfl #[.slice qs qo.length qv,.int .i64 qx] (by rfl) rfl rfl pA ?_
    with_reducible refine (Zbw.calls (fun k_=>some k_=(.slice qs qo.length qv:Value).ownBlock) (.slice qs qo.length qv) qo qx qi w _ ?side1 ?side2 A6.o).mono ?_
    (case side1=>exact pB)
    (case side2=>exact Kd.Zbc rfl qk.o)
    rintro e w61z ⟨v62z,rfl,ho56z,hb,hkp⟩
    refine ⟨_,rfl,?_⟩
    have ql:=am (Kd.Zi (ok':=fun k_=>(w.heap.size<=k_)) ho56z (fun k_ hk_=>Or.elim hk_ (fun hs_=>(qk.o.1 k_ (hs_).symm).1) (fun hn_=>(Nat.le_trans (Zb pB) hn_))))
    replace HO0_1:=am (Kd.Zr (ok':=fun k_=>((P0_1_ k_\/P1_1_ k_)\/w.heap.size<=k_)/\some k_ ≠ (.slice qm qj.length qn:Value).ownBlock/\k_ ≠ gb0z/\k_ ≠ gb5z/\k_ ≠ qa/\some k_ ≠ (v62z:Value).ownBlock) (Kd.Zdf (HO0_1.o) hkp (fun k_ hk_ hs_=>(hk_.2) hs_)) (fun k_ hk_=>⟨hk_.1.1.1.1.1.1,hk_.1.1.2,hk_.1.1.1.1.1.2,hk_.1.1.1.1.2,hk_.1.1.1.2,fun e_=>Or.elim (ho56z.1 k_ e_.symm) (fun hs_=>hk_.2.1 hs_) (fun hn_=>Nat.not_le.2 hk_.2.2 hn_)⟩))
    replace HO1_1:=am (Kd.Zr (ok':=fun k_=>((P0_1_ k_\/P1_1_ k_)\/w.heap.size<=k_)/\some k_ ≠ (.slice qm qj.length qn:Value).ownBlock/\k_ ≠ gb0z/\k_ ≠ gb5z/\k_ ≠ qa/\some k_ ≠ (v62z:Value).ownBlock) (Kd.Zdf (HO1_1.o) hkp (fun k_ hk_ hs_=>(hk_.2) hs_)) (fun k_ hk_=>⟨hk_.1.1.1.1.1.1,hk_.1.1.2,hk_.1.1.1.1.1.2,hk_.1.1.1.1.2,hk_.1.1.1.2,fun e_=>Or.elim (ho56z.1 k_ e_.symm) (fun hs_=>hk_.2.1 hs_) (fun hn_=>Nat.not_le.2 hk_.2.2 hn_)⟩))
    replace BK2z:=am (Zan (Za BK2z.o pl) hkp (fun e_=>Kd.R_ne qk.o BK2z.o (by decide) e_))
    replace BK7z:=am (Zan (Za BK7z.o pl) hkp (fun e_=>Kd.R_ne qk.o BK7z.o (by decide) e_))
    replace qb:=am (Zan (Za qb.o pl) hkp (fun e_=>Kd.R_ne qk.o qb.o (by decide) e_))
    replace qd:=am (Kd.Zec (ok':=fun k_=>((P0_1_ k_\/P1_1_ k_)\/w.heap.size<=k_)/\k_ ≠ gb0z/\k_ ≠ gb5z/\k_ ≠ qa/\some k_ ≠ (v62z:Value).ownBlock) (Kd.Zit (qd.o) hkp (fun k_ hk_ hs_=>(hk_.2) hs_)) (fun k_ hk_=>⟨hk_.1.1.1,hk_.1.1.2.1,hk_.1.1.2.2.1,hk_.1.1.2.2.2,fun e_=>Or.elim (ho56z.1 k_ e_.symm) (fun hs_=>hk_.2.1 hs_) (fun hn_=>Nat.not_le.2 hk_.2.2 hn_)⟩))
    replace HB:=am hb
    clear qk
    obtain ⟨qt,qw,q5⟩:=Kd.Zm ql.o
    (first|subst q5|(injection q5 with f1_ f2_ f3_;have f4_:=f1_.symm;have f5_:=f3_.symm;clear f1_ f2_ f3_;subst f4_;subst f5_))
    refine hK.out _ _ ⟨k0 BK2z 0,k0 BK2z 1,k0 BK2z 2,k0 BK7z 0,k0 BK7z 1,k0 BK7z 2⟩ (fun hHeld=>?_)
    clear hK K
    refine norm_ (a':=?_) ?_ ?_
    rotate_left
    ·show Act.put _ (some 27) _=_
     exact pP
    refine pu 18 (some 33) #[true,true,true,true,true,true,true,true,true,true,true,true,true,true,true,true,true,true,true,false,false,false,false,false,false] (h:=?_)
    refine pu 19 (some 34) #[true,true,true,true,true,true,true,true,true,true,true,true,true,true,true,true,true,true,true,true,false,false,false,false,false] (h:=?_)
    refine one_ (i:=20) (N:=some 35) #[true,true,true,true,true,true,true,true,true,true,true,true,true,true,true,true,true,true,true,true,true,false,false,false,false] rfl rfl (Za8 HT_.out (by kernel_rfl)) (by decide) (fun K hK=>?_)
    refine goes_ Tryz.func100 (by kernel_rfl) rfl #[.agg #[.bool (a0_0 != a1_0),.slice qt qi.length qw,.int .i64 (wrap64 (a0_2+a1_2))]] (by rfl) rfl rfl pA ?_
    with_reducible refine (Zbj.calls k (a0_0 != a1_0) (fun k_=>some k_=(.slice qt qi.length qw:Value).ownBlock) (.slice qt qi.length qw) qi (wrap64 (a0_2+a1_2)) qy qz q0 ja w _ ?side1 ?side2 A7.o).mono ?_
    (case side1=>exact pB)
    (case side2=>exact Kd.Zbc rfl ql.o)
    rintro e w67z ⟨v68z,rfl,ho56z,hb,hkp⟩
    refine ⟨_,rfl,?_⟩
    have q2:=am (Kd.Zi (ok':=fun k_=>(w.heap.size<=k_)) ho56z (fun k_ hk_=>Or.elim hk_ (fun hs_=>(ql.o.1 k_ (hs_).symm)) (fun hn_=>(Nat.le_trans (Zb pB) hn_))))
    replace HO0_1:=am (Kd.Zr (ok':=fun k_=>((P0_1_ k_\/P1_1_ k_)\/w.heap.size<=k_)/\some k_ ≠ (.slice qm qj.length qn:Value).ownBlock/\k_ ≠ gb0z/\k_ ≠ gb5z/\k_ ≠ qa/\some k_ ≠ (v68z:Value).ownBlock) (Kd.Zdf (HO0_1.o) hkp (fun k_ hk_ hs_=>(hk_.2.2.2.2.2) hs_)) (fun k_ hk_=>⟨hk_.1.1,hk_.1.2.1,hk_.1.2.2.1,hk_.1.2.2.2.1,hk_.1.2.2.2.2.1,fun e_=>Or.elim (ho56z.1 k_ e_.symm) (fun hs_=>hk_.2.1 hs_) (fun hn_=>Nat.not_le.2 hk_.2.2 hn_)⟩))
    replace HO1_1:=am (Kd.Zr (ok':=fun k_=>((P0_1_ k_\/P1_1_ k_)\/w.heap.size<=k_)/\some k_ ≠ (.slice qm qj.length qn:Value).ownBlock/\k_ ≠ gb0z/\k_ ≠ gb5z/\k_ ≠ qa/\some k_ ≠ (v68z:Value).ownBlock) (Kd.Zdf (HO1_1.o) hkp (fun k_ hk_ hs_=>(hk_.2.2.2.2.2) hs_)) (fun k_ hk_=>⟨hk_.1.1,hk_.1.2.1,hk_.1.2.2.1,hk_.1.2.2.2.1,hk_.1.2.2.2.2.1,fun e_=>Or.elim (ho56z.1 k_ e_.symm) (fun hs_=>hk_.2.1 hs_) (fun hn_=>Nat.not_le.2 hk_.2.2 hn_)⟩))
    replace BK2z:=am (Zan (Za BK2z.o pl) hkp (fun e_=>Kd.R_ne ql.o BK2z.o (by decide) e_))
    replace BK7z:=am (Zan (Za BK7z.o pl) hkp (fun e_=>Kd.R_ne ql.o BK7z.o (by decide) e_))
    replace qb:=am (Zan (Za qb.o pl) hkp (fun e_=>Kd.R_ne ql.o qb.o (by decide) e_))
    replace qd:=am (Kd.Zec (ok':=fun k_=>((P0_1_ k_\/P1_1_ k_)\/w.heap.size<=k_)/\k_ ≠ gb0z/\k_ ≠ gb5z/\k_ ≠ qa/\some k_ ≠ (v68z:Value).ownBlock) (Kd.Zit (qd.o) hkp (fun k_ hk_ hs_=>(hk_.2.2.2.2) hs_)) (fun k_ hk_=>⟨hk_.1.1,hk_.1.2.1,hk_.1.2.2.1,hk_.1.2.2.2.1,fun e_=>Or.elim (ho56z.1 k_ e_.symm) (fun hs_=>hk_.2.1 hs_) (fun hn_=>Nat.not_le.2 hk_.2.2 hn_)⟩))
    replace HB:=am hb
    clear ql
    obtain ⟨q1,q3,q6⟩:=Kd.Zm q2.o
    (first|subst q6|(injection q6 with f1_ f2_ f3_;have f4_:=f1_.symm;have f5_:=f3_.symm;clear f1_ f2_ f3_;subst f4_;subst f5_))
    refine hK.out _ _ ⟨k0 BK2z 0,k0 BK2z 1,k0 BK2z 2,k0 BK7z 0,k0 BK7z 1,k0 BK7z 2⟩ (fun hHeld=>?_)
    clear hK K
    refine norm_ (a':=?_) ?_ ?_
    rotate_left
    ·show Act.put _ (some 35) _=_
     exact pP
    refine pu 21 (some 36) #[true,true,true,true,true,true,true,true,true,true,true,true,true,true,true,true,true,true,true,true,true,true,false,false,false] (h:=?_)
    refine pu 22 (some 37) #[true,true,true,true,true,true,true,true,true,true,true,true,true,true,true,true,true,true,true,true,true,true,true,false,false] (h:=?_)
    refine one_ (i:=23) (N:=none) #[true,true,true,true,true,true,true,true,true,true,true,true,true,true,true,true,true,true,true,true,true,true,true,true,false] rfl rfl (Za8 HT_.out (by kernel_rfl)) (by decide) (fun K hK=>?_)
    have hs73z:w67z.cell? ⟨qa,0,none⟩=some (.bool false):=k0 qb 0
    have hfs74z:=Zaa qb.o 0
    have hns75z:=qe.o
    have hns76z:=qf.o
    have hms77z:=qq.o
    have hms78z:=qr.o
    have hs79z:w67z.cell? ⟨qa,1,none⟩=some (.slice none 0 0):=k0 qb 1
    have hfs80z:=Zaa qb.o 1
    have hns81z:=qe.o
    have hns82z:=qf.o
    have hms83z:=qq.o
    have hms84z:=qr.o
    have hs85z:w67z.cell? ⟨qa,2,none⟩=some (.int .i64 0):=k0 qb 2
    have hfs86z:=Zaa qb.o 2
    have hns87z:=qe.o
    have hns88z:=qf.o
    have hms89z:=qq.o
    have hms90z:=qr.o
    refine skip_ (w1:=?_) (by rfl) rfl ?_ ?_
    rotate_left
    ·go_simp
     rfl
    refine hK.out _ _ ⟨((cell_far (p:=⟨qa,_,none⟩) qe.o _).trans (((cell_far (p:=⟨qa,_,none⟩) qe.o _).trans (((cell_far (p:=⟨qa,_,none⟩) qe.o _).trans (hHeld.1)))))),((cell_far (p:=⟨qa,_,none⟩) qe.o _).trans (((cell_far (p:=⟨qa,_,none⟩) qe.o _).trans (((cell_far (p:=⟨qa,_,none⟩) qe.o _).trans (hHeld.2.1)))))),((cell_far (p:=⟨qa,_,none⟩) qe.o _).trans (((cell_far (p:=⟨qa,_,none⟩) qe.o _).trans (((cell_far (p:=⟨qa,_,none⟩) qe.o _).trans (hHeld.2.2.1)))))),((cell_far (p:=⟨qa,_,none⟩) qf.o _).trans (((cell_far (p:=⟨qa,_,none⟩) qf.o _).trans (((cell_far (p:=⟨qa,_,none⟩) qf.o _).trans (hHeld.2.2.2.1)))))),((cell_far (p:=⟨qa,_,none⟩) qf.o _).trans (((cell_far (p:=⟨qa,_,none⟩) qf.o _).trans (((cell_far (p:=⟨qa,_,none⟩) qf.o _).trans (hHeld.2.2.2.2.1)))))),((cell_far (p:=⟨qa,_,none⟩) qf.o _).trans (((cell_far (p:=⟨qa,_,none⟩) qf.o _).trans (((cell_far (p:=⟨qa,_,none⟩) qf.o _).trans (hHeld.2.2.2.2.2))))))⟩ (fun hHeld=>?_)
    clear hK K
    refine pu 24 (some 5) #[true,true,true,true,true,true,true,true,true,true,true,true,true,true,true,true,true,true,true,true,true,true,true,true,true] (h:=?_)
    refine done_ (Zdg HT_.out (by kernel_rfl)) ?_
    try go_wp2
    refine bodyPost_ret (Zbd rfl _ _ qa 24 #[.bool qy,.slice q1 qz.length q3,.int .i64 q0] (0,0) _ rfl (by exact p3 qb) Tryz.underlying24 rfl (by kernel_rfl)) rfl ?_
    exact ⟨_,pE,by refine rp ?_;exact Kd.Zi (Kd.Zj (p:=⟨qa,2,none⟩) (Kd.Zj (p:=⟨qa,1,none⟩) (Kd.Zj (p:=⟨qa,0,none⟩) (Kd.Zg q2.o qb.o (by decide)) (fun _ hk=>hk.2) (.bool qy)) (fun _ hk=>hk.2) (.slice q1 qz.length q3)) (fun _ hk=>hk.2) (.int .i64 q0)) (fun _ hk=>hk.1),pB⟩
  | refine bodyPost_ret (Zbd rfl _ _ qa 24 #[.bool false,.slice none 0 0,.int .i64 0] (0,0) _ rfl (by exact p3 qb) Tryz.underlying24 rfl (by kernel_rfl)) rfl ?_
    exact ⟨_,pE,pN,pB⟩):P:=h
theorem Zcy.calls (k:Nat) (a0_0:Bool) (P0_1_:Nat->Prop) (A0_1:Option Addr) (c0_1:Nat) (l0_1:List Int) (a0_2:Int) (a1_0:Bool) (P1_1_:Nat->Prop) (A1_1:Option Addr) (c1_1:Nat) (l1_1:List Int) (a1_2:Int) (r1:Bool) (r2:List Int) (r3:Int) (r4:Int) (w:World) (hs0_1:Kd.V (Kd.int .u32) 85 w w.heap.size (fun k_=>P0_1_ k_) (.slice A0_1 l0_1.length c0_1) l0_1) (hs1_1:Kd.V (Kd.int .u32) 85 w w.heap.size (fun k_=>P1_1_ k_) (.slice A1_1 l1_1.length c1_1) l1_1) (h:Zcy.f k a0_0 l0_1 a0_2 a1_0 l1_1 a1_2=some (r1,r2,r3,r4)) :
  Calls Tryz.prog 49 #[.agg #[.bool a0_0,.slice A0_1 l0_1.length c0_1,.int .i64 a0_2],.agg #[.bool a1_0,.slice A1_1 l1_1.length c1_1,.int .i64 a1_2]] w fun e w' => ∃ v1_:Value,e=.returned (.tuple #[.agg #[.bool r1,v1_,.int .i64 r3],.int .i64 r4])/\Kd.R (Kd.int .u32) 85 w' w.heap.size (fun k_=>(w.heap.size<=k_)) v1_ r2/\Below w.heap.size w w':=by
 have hu24:=Tryz.underlying24
 have ji:=Tryz.underlying106
 have HO0_1:=am (show Kd.V (Kd.int .u32) 85 w w.heap.size (fun k_=>((P0_1_ k_\/P1_1_ k_)\/w.heap.size<=k_)) (.slice A0_1 l0_1.length c0_1) l0_1 from Kd.Zr hs0_1 (fun k_ hk=>.inl (.inl hk)))
 have HO1_1:=am (show Kd.V (Kd.int .u32) 85 w w.heap.size (fun k_=>((P0_1_ k_\/P1_1_ k_)\/w.heap.size<=k_)) (.slice A1_1 l1_1.length c1_1) l1_1 from Kd.Zr hs1_1 (fun k_ hk=>.inl (.inr hk)))
 have HB:=am (Below.refl w.heap.size w)
 have H:((Zcs.f k (([(⟨a0_0,l0_1,a0_2⟩:S24),(⟨a1_0,l1_1,a1_2⟩:S24)]:List (S24)))).bind fun qg=>(if qg=0 then ((Zes.f k l0_1 l1_1).bind fun qh=>((Zbw.f qh.1 qh.2).bind fun qi=>((Zbj.f k (a0_0 != a1_0) qi (wrap64 (a0_2+a1_2))).bind fun qc=>(some (qc.1,qc.2.1,qc.2.2.1,qc.2.2.2))))) else (some (false,([]:List Int),0,qg))))=some (r1,r2,r3,r4):=h
 clear h
 obtain ⟨qj,qp⟩:∃ y_:List (S24),y_=(([(⟨a0_0,l0_1,a0_2⟩:S24),(⟨a1_0,l1_1,a1_2⟩:S24)]:List (S24))):=⟨_,rfl⟩
 replace H:((Zcs.f k qj).bind fun qg=>(if qg=0 then ((Zes.f k l0_1 l1_1).bind fun qh=>((Zbw.f qh.1 qh.2).bind fun qi=>((Zbj.f k (a0_0 != a1_0) qi (wrap64 (a0_2+a1_2))).bind fun qc=>(some (qc.1,qc.2.1,qc.2.2.1,qc.2.2.2))))) else (some (false,([]:List Int),0,qg))))=some (r1,r2,r3,r4):=by have hy_:=qp;exact pH
 have qu:=am qp
 clear qp
 replace H:=ob H
 obtain ⟨qg,A3,H⟩:=H
 replace H:=eI H
 rcases H with ⟨c4b0,c4b1,H⟩|⟨c4,c4b0,c4b1,H⟩
 ·replace H:=ob H
  obtain ⟨⟨qo,qx⟩,A5,H⟩:=H;(try dsimp only at H)
  replace H:=ob H
  obtain ⟨qi,A6,H⟩:=H
  replace H:=ob H
  obtain ⟨⟨qy,qz,q0,ja⟩,A7,H⟩:=H;(try dsimp only at H)
  simp only [Option.some.injEq,Prod.mk.injEq] at H
  obtain ⟨rfl,rfl,rfl,rfl⟩:=H
  exact Zcy.leaf
 ·simp only [Option.some.injEq,Prod.mk.injEq] at H
  obtain ⟨rfl,rfl,rfl,rfl⟩:=H
  exact Zcy.leaf
def Zcz.f (k:Nat) (a0_0:Bool) (l0_1:List Int) (a0_2:Int) (a1_0:Bool) (l1_1:List Int) (a1_2:Int):Option (Bool × List Int × Int × Int):=(Zcs.f k (([(⟨a0_0,l0_1,a0_2⟩:S24),(⟨a1_0,l1_1,a1_2⟩:S24)]:List (S24)))).bind fun qi=>(if qi=0 then ((Zbb.f a1_0 l1_1 a1_2).bind fun qe=>((Zu.f k a0_0 l0_1 a0_2 qe.1 qe.2.1 qe.2.2).bind fun qf=>((Zbj.f k qf.1 qf.2.1 qf.2.2).bind fun qd=>(some (qd.1,qd.2.1,qd.2.2.1,qd.2.2.2))))) else (some (false,([]:List Int),0,qi)))
def Zcz.T4:Bool × List (List Nat × List Nat):=(true,[([],[]),([0],[0]),([],[]),([2],[2]),([3],[3]),([1,4,4],[1,4]),([5,5],[5]),([6],[6]),([6],[6]),([7,6,0,1,2,3,4,5,6,7,8],[7]),([8,9,0,1,2,3,4,5,6,7,8,9],[8])])
def Zcz.B4:List Nat:=[0,1,0,4,12,31,63,127,127,511,1023]
theorem Zcz.tab4:rtab .any (opsOf Tryz.f50 4)=Zcz.T4:=by kernel_rfl
theorem Zcz.bits4:waitsOk Zcz.T4.2 Zcz.B4=true:=by kernel_rfl
theorem Zcz.leaf {P:Prop} (h:P:=by
 go_enter Tryz.func50,Tryz.ntmps50
 try go_wp2_with (first|((with_reducible refine gd 2 ?_);refine bx 2 #[.bool a0_0,.slice A0_1 l0_1.length c0_1,.int .i64 a0_2] 24 (h:=?_);intro gb0z hg w1z hbox hb;have BK2z:=am hbox;have GW3z:=gW hg;replace HO0_1:=vE HO0_1 gb0z hg hb;replace HO1_1:=vE HO1_1 gb0z hg hb;replace HB:=bS hb;clear hb hbox hg)|((with_reducible refine gd 3 ?_);refine bx 3 #[.bool a1_0,.slice A1_1 l1_1.length c1_1,.int .i64 a1_2] 24 (h:=?_);intro gb5z hg w6z hbox hb;have BK7z:=am hbox;have GW8z:=gW hg;have ja:=nL hg BK2z;have jb:=nG hg BK2z;replace HO0_1:=vE HO0_1 gb5z hg hb;replace HO1_1:=vE HO1_1 gb5z hg hb;replace BK2z:=bb BK2z hb;replace HB:=bS hb;clear hb hbox hg)|((with_reducible refine gd 4 ?_);refine bx 4 #[.bool false,.slice none 0 0,.int .i64 0] 24 (h:=?_);intro qa hg w13z hbox hb;have qb:=am hbox;have jl:=gW hg;have qg:=nL hg BK2z;have qq:=nG hg BK2z;have qh:=nL hg BK7z;have qr:=nG hg BK7z;replace HO0_1:=vE HO0_1 qa hg hb;replace HO1_1:=vE HO1_1 qa hg hb;replace BK2z:=bb BK2z hb;replace BK7z:=bb BK7z hb;replace HB:=bS hb;clear hb hbox hg;have jf:=ja.o;have ji:=jb.o;have jg:=qg.o;have jj:=qq.o;obtain ⟨_,_,_,_,_,_⟩:=cEc BK2z.o;have jh:=qh.o;have jk:=qr.o;obtain ⟨_,_,_,_,_,_⟩:=cEc BK7z.o)|((with_reducible refine gd 9 ?_);refine Kd.Zo1 k24 _ 24 ?hg (N':=9) ?hd (xs:=([(⟨a0_0,l0_1,a0_2⟩:S24),(⟨a1_0,l1_1,a1_2⟩:S24)]:List (S24))) (inner:=[.bool a0_0,.slice A0_1 l0_1.length c0_1,.int .i64 a0_2,.bool a1_0,.slice A1_1 l1_1.length c1_1,.int .i64 a1_2]) (ok:=(fun k_=>((P0_1_ k_\/P1_1_ k_)\/w.heap.size<=k_)/\k_ ≠ gb0z/\k_ ≠ gb5z/\k_ ≠ qa)) (okp:=(fun k_=>((P0_1_ k_\/P1_1_ k_)\/w.heap.size<=k_)/\k_ ≠ gb0z/\k_ ≠ gb5z/\k_ ≠ qa)) ?hr ?hp (fun _ hk=>hk) ((show ∀ k_,w13z.heap.size<=k_->(fun k_=>((P0_1_ k_\/P1_1_ k_)\/w.heap.size<=k_)/\k_ ≠ gb0z/\k_ ≠ gb5z/\k_ ≠ qa) k_ from fun k_ hk=>⟨(.inr (Nat.le_trans (Zb pB) hk)),Kd.freshB (g:=gb0z) (o:=.cells #[.bool a0_0,.slice A0_1 l0_1.length c0_1,.int .i64 a0_2] 24 (0,0)) (Za BK2z.o pl) k_ hk,Kd.freshB (g:=gb5z) (o:=.cells #[.bool a1_0,.slice A1_1 l1_1.length c1_1,.int .i64 a1_2] 24 (0,0)) (Za BK7z.o pl) k_ hk,Kd.freshB (g:=qa) (o:=.cells #[.bool false,.slice none 0 0,.int .i64 0] 24 (0,0)) (Za qb.o pl) k_ hk⟩) _ (Nat.le_refl _)) (Below.refl _ _) (Nat.le_refl _) (by simp) ?_;(case hd=>rfl);(case hg=>rfl);(case hr=>first|(go_simp;done)|(go_simp;rfl));(case hp=>exact (Reps.c3 (show Kd.FK k24 _ _ (⟨a0_0,l0_1,a0_2⟩:S24) [.bool a0_0,.slice A0_1 l0_1.length c0_1,.int .i64 a0_2] from (Zfc _ _ (⟨a0_0,l0_1,a0_2⟩:S24) (Kd.Zai (Kd.Zr (ok':=(fun k_=>((P0_1_ k_\/P1_1_ k_)\/w.heap.size<=k_)/\k_ ≠ gb0z/\k_ ≠ gb5z/\k_ ≠ qa)) (HO0_1.o) (fun k_ hk=>⟨hk.1.1.1,⟨hk.1.1.2,⟨hk.1.2,hk.2⟩⟩⟩))).2.1 (Kd.V_F (Kd.Zr (ok':=(fun k_=>((P0_1_ k_\/P1_1_ k_)\/w.heap.size<=k_)/\k_ ≠ gb0z/\k_ ≠ gb5z/\k_ ≠ qa)) (HO0_1.o) (fun k_ hk=>⟨hk.1.1.1,⟨hk.1.1.2,⟨hk.1.2,hk.2⟩⟩⟩))))) (Reps.c3 (show Kd.FK k24 _ _ (⟨a1_0,l1_1,a1_2⟩:S24) [.bool a1_0,.slice A1_1 l1_1.length c1_1,.int .i64 a1_2] from (Zfc _ _ (⟨a1_0,l1_1,a1_2⟩:S24) (Kd.Zai (Kd.Zr (ok':=(fun k_=>((P0_1_ k_\/P1_1_ k_)\/w.heap.size<=k_)/\k_ ≠ gb0z/\k_ ≠ gb5z/\k_ ≠ qa)) (HO1_1.o) (fun k_ hk=>⟨hk.1.1.1,⟨hk.1.1.2,⟨hk.1.2,hk.2⟩⟩⟩))).2.1 (Kd.V_F (Kd.Zr (ok':=(fun k_=>((P0_1_ k_\/P1_1_ k_)\/w.heap.size<=k_)/\k_ ≠ gb0z/\k_ ≠ gb5z/\k_ ≠ qa)) (HO1_1.o) (fun k_ hk=>⟨hk.1.1.1,⟨hk.1.1.2,⟨hk.1.2,hk.2⟩⟩⟩))))) (Reps.none _ _))));intro v39z w40z ho41z hb hg_ hnew_;clear hg_ hnew_;(first|rw [<- qt.out] at ho41z|(simp only [Int.reduceToNat] at ho41z;rw [<- qt.out] at ho41z));replace HO0_1:=am (Kd.Zbn (Kd.Zam HO0_1.o pl) (Kd.Zgx ho41z) hb);replace HO1_1:=am (Kd.Zbn (Kd.Zam HO1_1.o pl) (Kd.Zgx ho41z) hb);have qc:=am (Kd.Ziu ho41z (Zb pB));replace BK2z:=bb BK2z hb;replace BK7z:=bb BK7z hb;replace qb:=bb qb hb;replace HB:=bS hb;clear hb ho41z;obtain ⟨qk,qn,jd⟩:=Kd.Ziv qc.o;subst jd)|((have q_:=A7;clear q_);refine gL (some 10) Tryz.func99 #[.slice qk qj.length qn] (h:=?_);(with_reducible refine (Zcs.calls k _ _ qj qi _ ?side1 ?side2 A3.o).mono ?_);(case side1=>exact Kd.Zv (Kd.Zdi qc.o).2.2 pl);(case side2=>exact (Kd.Zdi qc.o).2.1);rintro e w46z ⟨rfl,hb⟩;refine ⟨_,rfl,?_⟩;replace HO0_1:=vbl HO0_1 hb;replace HO1_1:=vbl HO1_1 hb;replace qc:=nbl qc hb;replace BK2z:=bb BK2z hb;replace BK7z:=bb BK7z hb;replace qb:=bb qb hb;replace HB:=bS hb)|((have q_:(qi != 0)=true:=c4b1;clear q_);refine gL (some 10) Tryz.func99 #[.slice qk qj.length qn] (h:=?_);(with_reducible refine (Zcs.calls k _ _ qj qi _ ?side1 ?side2 A3.o).mono ?_);(case side1=>exact Kd.Zv (Kd.Zdi qc.o).2.2 pl);(case side2=>exact (Kd.Zdi qc.o).2.1);rintro e w46z ⟨rfl,hb⟩;refine ⟨_,rfl,?_⟩;replace HO0_1:=vbl HO0_1 hb;replace HO1_1:=vbl HO1_1 hb;replace qc:=nbl qc hb;replace BK2z:=bb BK2z hb;replace BK7z:=bb BK7z hb;replace qb:=bb qb hb;replace HB:=bS hb;obtain ⟨_,_,_,_,_,_⟩:=cEc qb.o))
 first
  | have q_:=A7
    replace HO0_1:=am (Kd.Zgy HO0_1.o)
    replace HO1_1:=am (Kd.Zgy HO1_1.o)
    replace qc:=am (Kd.Zm2 qc.o)
    replace BK2z:=am (Zay BK2z.o)
    replace BK7z:=am (Zay BK7z.o)
    replace qb:=am (Zay qb.o)
    replace HB:=am (Zbe HB.o)
    refine start_ (n:=11) (S:=fun w'=>w'.cell? ⟨gb0z,0,none⟩=some (.bool a0_0)/\w'.cell? ⟨gb0z,1,none⟩=some (.slice A0_1 l0_1.length c0_1)/\w'.cell? ⟨gb0z,2,none⟩=some (.int .i64 a0_2)/\w'.cell? ⟨gb5z,0,none⟩=some (.bool a1_0)/\w'.cell? ⟨gb5z,1,none⟩=some (.slice A1_1 l1_1.length c1_1)/\w'.cell? ⟨gb5z,2,none⟩=some (.int .i64 a1_2)) (ds:=[]) #[false,false,false,false,false,false,false,false,false,false,false] (by kernel_rfl) rfl rfl ⟨k0 BK2z 0,k0 BK2z 1,k0 BK2z 2,k0 BK7z 0,k0 BK7z 1,k0 BK7z 2⟩ (fun hHeld=>?_);refine Zch Zcz.tab4 Zcz.bits4 (fun HT_ HW_=>?_)
    generalize w46z.drew=w47z at HO0_1 HO1_1 qc BK2z BK7z qb HB hHeld ⊢
    refine take_ (i:=0) (N:=some 15) (v:=?_) (a':=?_) #[true,false,false,false,false,false,false,false,false,false,false] rfl rfl (Za3 HT_.out HW_.out (by kernel_rfl)) (fun _ _ _ h=>h) (Or.inl ⟨by rfl,?_⟩) hHeld ?_ ?_
    rotate_left
    ·rintro w' ⟨s48z,s49z,s50z,s51z,s52z,s53z⟩
     go_simp
     with_reducible rfl
    rotate_left
    ·exact pP
    refine pu 1 (some 16) #[true,true,false,false,false,false,false,false,false,false,false] (h:=?_)
    refine take_ (i:=2) (N:=some 17) (v:=?_) (a':=?_) #[true,true,true,false,false,false,false,false,false,false,false] rfl rfl (Za3 HT_.out HW_.out (by kernel_rfl)) (fun _ _ _ h=>h) (Or.inl ⟨by rfl,?_⟩) hHeld ?_ ?_
    rotate_left
    ·rintro w' ⟨s48z,s49z,s50z,s51z,s52z,s53z⟩
     go_simp
     with_reducible rfl
    rotate_left
    ·exact pP
    refine pu 3 (some 18) #[true,true,true,true,false,false,false,false,false,false,false] (h:=?_)
    refine one_ (i:=4) (N:=some 19) #[true,true,true,true,true,false,false,false,false,false,false] rfl rfl (Za8 HT_.out (by kernel_rfl)) (by decide) (fun K hK=>?_)
    refine goes_ Tryz.func103 (by kernel_rfl) rfl #[.agg #[.bool a1_0,.slice A1_1 l1_1.length c1_1,.int .i64 a1_2]] (by rfl) rfl rfl pA ?_
    with_reducible refine (Zbb.calls a1_0 (fun k_=>((((((P0_1_ k_\/P1_1_ k_)\/w.heap.size<=k_)/\k_ ≠ gb0z)/\k_ ≠ gb5z)/\k_ ≠ qa)/\some k_ ≠ (.slice qk qj.length qn:Value).ownBlock)) _ _ l1_1 a1_2 qv qw qx _ ?side1 A5.o).mono ?_
    (case side1=>exact HO1_1.o)
    rintro e w54z ⟨v55z,rfl,ho56z,hb⟩
    refine ⟨_,rfl,?_⟩
    have ql:=am (Kd.Zex (Kd.Zr (ok':=fun k_=>((P0_1_ k_\/P1_1_ k_)\/w.heap.size<=k_)/\some k_ ≠ (.slice qk qj.length qn:Value).ownBlock/\k_ ≠ gb0z/\k_ ≠ gb5z/\k_ ≠ qa) ho56z (fun k_ hk_=>⟨Or.elim hk_ (fun hs_=>hs_.1.1.1.1) (fun hn_=>(.inr (Nat.le_trans (Zb pB) hn_))),Or.elim hk_ (fun hs_=>hs_.2) (fun hn_=>(Kd.fresh' (Kd.N_lt (Kd.Zcf qc.o pl)) k_ hn_)),Or.elim hk_ (fun hs_=>hs_.1.1.1.2) (fun hn_=>(Kd.freshB (g:=gb0z) (o:=.cells #[.bool a0_0,.slice A0_1 l0_1.length c0_1,.int .i64 a0_2] 24 (0,0)) (Za BK2z.o pl) k_ hn_)),Or.elim hk_ (fun hs_=>hs_.1.1.2) (fun hn_=>(Kd.freshB (g:=gb5z) (o:=.cells #[.bool a1_0,.slice A1_1 l1_1.length c1_1,.int .i64 a1_2] 24 (0,0)) (Za BK7z.o pl) k_ hn_)),Or.elim hk_ (fun hs_=>hs_.1.2) (fun hn_=>(Kd.freshB (g:=qa) (o:=.cells #[.bool false,.slice none 0 0,.int .i64 0] 24 (0,0)) (Za qb.o pl) k_ hn_))⟩)) (Zb pB))
    replace HO0_1:=vbl HO0_1 hb
    replace HO1_1:=vbl HO1_1 hb
    replace qc:=nbl qc hb
    replace BK2z:=bb BK2z hb
    replace BK7z:=bb BK7z hb
    replace qb:=bb qb hb
    replace HB:=bS hb
    obtain ⟨q9,jc,q6⟩:=Kd.Zdu ql.o
    (first|subst q6|(injection q6 with f1_ f2_ f3_;have f4_:=f1_.symm;have f5_:=f3_.symm;clear f1_ f2_ f3_;subst f4_;subst f5_))
    refine hK.out _ _ ⟨k0 BK2z 0,k0 BK2z 1,k0 BK2z 2,k0 BK7z 0,k0 BK7z 1,k0 BK7z 2⟩ (fun hHeld=>?_)
    clear hK K
    refine norm_ (a':=?_) ?_ ?_
    rotate_left
    ·show Act.put _ (some 19) _=_
     exact pP
    refine one_ (i:=5) (N:=some 20) #[true,true,true,true,true,true,false,false,false,false,false] rfl rfl (Za8 HT_.out (by kernel_rfl)) (by decide) (fun K hK=>?_)
    refine goes_ Tryz.func101 (by kernel_rfl) rfl #[.agg #[.bool a0_0,.slice A0_1 l0_1.length c0_1,.int .i64 a0_2],.agg #[.bool qv,.slice q9 qw.length jc,.int .i64 qx]] (by rfl) rfl rfl pA ?_
    with_reducible refine (Zu.calls k a0_0 _ _ l0_1 a0_2 qv _ _ qw qx qy qo qz _ ?side1 ?side2 ?side3 ?side4 A6.o).mono ?_
    (case side1=>exact Kd.Zv (Kd.Zai HO0_1.o).2.2 pl)
    (case side2=>exact (Kd.Zai HO0_1.o).2.1)
    (case side3=>exact Kd.Zv (Kd.Zai ql.o).2.2 pl)
    (case side4=>exact (Kd.Zai ql.o).2.1)
    rintro e w61z ⟨v62z,rfl,ho56z,hb⟩
    refine ⟨_,rfl,?_⟩
    replace HO0_1:=am (Kd.Zbn (Kd.Zam HO0_1.o pl) (Kd.Zbh ho56z) hb)
    replace HO1_1:=am (Kd.Zbn (Kd.Zam HO1_1.o pl) (Kd.Zbh ho56z) hb)
    replace qc:=am (Kd.Zfj (Kd.Zcf qc.o pl) (Kd.Zbh ho56z) hb)
    replace ql:=am (Kd.Zbn (Kd.Zam ql.o pl) (Kd.Zbh ho56z) hb)
    have qm:=am (Kd.Zt (Kd.Ze4 (M:=fun k_=>(w.heap.size<=k_)) ho56z (Zb pB) (fun k_ h_=>h_)) (Zb pB))
    replace BK2z:=bb BK2z hb
    replace BK7z:=bb BK7z hb
    replace qb:=bb qb hb
    replace HB:=bS hb
    obtain ⟨qs,qu,q7⟩:=Kd.Zm qm.o
    (first|subst q7|(injection q7 with f1_ f2_ f3_;have f4_:=f1_.symm;have f5_:=f3_.symm;clear f1_ f2_ f3_;subst f4_;subst f5_))
    refine hK.out _ _ ⟨k0 BK2z 0,k0 BK2z 1,k0 BK2z 2,k0 BK7z 0,k0 BK7z 1,k0 BK7z 2⟩ (fun hHeld=>?_)
    clear hK K
    refine norm_ (a':=?_) ?_ ?_
    rotate_left
    ·show Act.put _ (some 20) _=_
     exact pP
    refine one_ (i:=6) (N:=some 21) #[true,true,true,true,true,true,true,false,false,false,false] rfl rfl (Za8 HT_.out (by kernel_rfl)) (by decide) (fun K hK=>?_)
    refine goes_ Tryz.func100 (by kernel_rfl) rfl #[.agg #[.bool qy,.slice qs qo.length qu,.int .i64 qz]] (by rfl) rfl rfl pA ?_
    with_reducible refine (Zbj.calls k qy (fun k_=>some k_=(.slice qs qo.length qu:Value).ownBlock) (.slice qs qo.length qu) qo qz q0 q1 q2 je w _ ?side1 ?side2 A7.o).mono ?_
    (case side1=>exact pB)
    (case side2=>exact Kd.Zbc rfl qm.o)
    rintro e w67z ⟨v68z,rfl,ho56z,hb,hkp⟩
    refine ⟨_,rfl,?_⟩
    have q4:=am (Kd.Zi (ok':=fun k_=>(w.heap.size<=k_)) ho56z (fun k_ hk_=>Or.elim hk_ (fun hs_=>(qm.o.1 k_ (hs_).symm).1) (fun hn_=>(Nat.le_trans (Zb pB) hn_))))
    replace HO0_1:=am (Kd.Zr (ok':=fun k_=>((P0_1_ k_\/P1_1_ k_)\/w.heap.size<=k_)/\some k_ ≠ (.slice qk qj.length qn:Value).ownBlock/\k_ ≠ gb0z/\k_ ≠ gb5z/\k_ ≠ qa/\some k_ ≠ (v68z:Value).ownBlock) (Kd.Zdf (HO0_1.o) hkp (fun k_ hk_ hs_=>(hk_.2) hs_)) (fun k_ hk_=>⟨hk_.1.1.1.1.1.1,hk_.1.1.2,hk_.1.1.1.1.1.2,hk_.1.1.1.1.2,hk_.1.1.1.2,fun e_=>Or.elim (ho56z.1 k_ e_.symm) (fun hs_=>hk_.2.1 hs_) (fun hn_=>Nat.not_le.2 hk_.2.2 hn_)⟩))
    replace HO1_1:=am (Kd.Zr (ok':=fun k_=>((P0_1_ k_\/P1_1_ k_)\/w.heap.size<=k_)/\some k_ ≠ (.slice qk qj.length qn:Value).ownBlock/\k_ ≠ gb0z/\k_ ≠ gb5z/\k_ ≠ qa/\some k_ ≠ (v68z:Value).ownBlock) (Kd.Zdf (HO1_1.o) hkp (fun k_ hk_ hs_=>(hk_.2) hs_)) (fun k_ hk_=>⟨hk_.1.1.1.1.1.1,hk_.1.1.2,hk_.1.1.1.1.1.2,hk_.1.1.1.1.2,hk_.1.1.1.2,fun e_=>Or.elim (ho56z.1 k_ e_.symm) (fun hs_=>hk_.2.1 hs_) (fun hn_=>Nat.not_le.2 hk_.2.2 hn_)⟩))
    replace BK2z:=am (Zan (Za BK2z.o pl) hkp (fun e_=>Kd.R_ne qm.o BK2z.o (by decide) e_))
    replace BK7z:=am (Zan (Za BK7z.o pl) hkp (fun e_=>Kd.R_ne qm.o BK7z.o (by decide) e_))
    replace qb:=am (Zan (Za qb.o pl) hkp (fun e_=>Kd.R_ne qm.o qb.o (by decide) e_))
    replace qc:=am (Kd.Zec (ok':=fun k_=>((P0_1_ k_\/P1_1_ k_)\/w.heap.size<=k_)/\k_ ≠ gb0z/\k_ ≠ gb5z/\k_ ≠ qa/\some k_ ≠ (v68z:Value).ownBlock) (Kd.Zit (qc.o) hkp (fun k_ hk_ hs_=>(hk_.2) hs_)) (fun k_ hk_=>⟨hk_.1.1.1,hk_.1.1.2.1,hk_.1.1.2.2.1,hk_.1.1.2.2.2,fun e_=>Or.elim (ho56z.1 k_ e_.symm) (fun hs_=>hk_.2.1 hs_) (fun hn_=>Nat.not_le.2 hk_.2.2 hn_)⟩))
    replace ql:=am (Kd.Zr (ok':=fun k_=>((P0_1_ k_\/P1_1_ k_)\/w.heap.size<=k_)/\some k_ ≠ (.slice qk qj.length qn:Value).ownBlock/\k_ ≠ gb0z/\k_ ≠ gb5z/\k_ ≠ qa/\some k_ ≠ (v68z:Value).ownBlock) (Kd.Zdf (ql.o) hkp (fun k_ hk_ hs_=>(hk_.2) hs_)) (fun k_ hk_=>⟨hk_.1.1.1,hk_.1.1.2.1,hk_.1.1.2.2.1,hk_.1.1.2.2.2.1,hk_.1.1.2.2.2.2,fun e_=>Or.elim (ho56z.1 k_ e_.symm) (fun hs_=>hk_.2.1 hs_) (fun hn_=>Nat.not_le.2 hk_.2.2 hn_)⟩))
    replace HB:=am hb
    clear qm
    obtain ⟨q3,q5,q8⟩:=Kd.Zm q4.o
    (first|subst q8|(injection q8 with f1_ f2_ f3_;have f4_:=f1_.symm;have f5_:=f3_.symm;clear f1_ f2_ f3_;subst f4_;subst f5_))
    refine hK.out _ _ ⟨k0 BK2z 0,k0 BK2z 1,k0 BK2z 2,k0 BK7z 0,k0 BK7z 1,k0 BK7z 2⟩ (fun hHeld=>?_)
    clear hK K
    refine norm_ (a':=?_) ?_ ?_
    rotate_left
    ·show Act.put _ (some 21) _=_
     exact pP
    refine pu 7 (some 22) #[true,true,true,true,true,true,true,true,false,false,false] (h:=?_)
    refine pu 8 (some 23) #[true,true,true,true,true,true,true,true,true,false,false] (h:=?_)
    refine one_ (i:=9) (N:=none) #[true,true,true,true,true,true,true,true,true,true,false] rfl rfl (Za8 HT_.out (by kernel_rfl)) (by decide) (fun K hK=>?_)
    have hs73z:w67z.cell? ⟨qa,0,none⟩=some (.bool false):=k0 qb 0
    have hfs74z:=Zaa qb.o 0
    have hns75z:=qg.o
    have hns76z:=qh.o
    have hms77z:=qq.o
    have hms78z:=qr.o
    have hs79z:w67z.cell? ⟨qa,1,none⟩=some (.slice none 0 0):=k0 qb 1
    have hfs80z:=Zaa qb.o 1
    have hns81z:=qg.o
    have hns82z:=qh.o
    have hms83z:=qq.o
    have hms84z:=qr.o
    have hs85z:w67z.cell? ⟨qa,2,none⟩=some (.int .i64 0):=k0 qb 2
    have hfs86z:=Zaa qb.o 2
    have hns87z:=qg.o
    have hns88z:=qh.o
    have hms89z:=qq.o
    have hms90z:=qr.o
    refine skip_ (w1:=?_) (by rfl) rfl ?_ ?_
    rotate_left
    ·go_simp
     rfl
    refine hK.out _ _ ⟨((cell_far (p:=⟨qa,_,none⟩) qg.o _).trans (((cell_far (p:=⟨qa,_,none⟩) qg.o _).trans (((cell_far (p:=⟨qa,_,none⟩) qg.o _).trans (hHeld.1)))))),((cell_far (p:=⟨qa,_,none⟩) qg.o _).trans (((cell_far (p:=⟨qa,_,none⟩) qg.o _).trans (((cell_far (p:=⟨qa,_,none⟩) qg.o _).trans (hHeld.2.1)))))),((cell_far (p:=⟨qa,_,none⟩) qg.o _).trans (((cell_far (p:=⟨qa,_,none⟩) qg.o _).trans (((cell_far (p:=⟨qa,_,none⟩) qg.o _).trans (hHeld.2.2.1)))))),((cell_far (p:=⟨qa,_,none⟩) qh.o _).trans (((cell_far (p:=⟨qa,_,none⟩) qh.o _).trans (((cell_far (p:=⟨qa,_,none⟩) qh.o _).trans (hHeld.2.2.2.1)))))),((cell_far (p:=⟨qa,_,none⟩) qh.o _).trans (((cell_far (p:=⟨qa,_,none⟩) qh.o _).trans (((cell_far (p:=⟨qa,_,none⟩) qh.o _).trans (hHeld.2.2.2.2.1)))))),((cell_far (p:=⟨qa,_,none⟩) qh.o _).trans (((cell_far (p:=⟨qa,_,none⟩) qh.o _).trans (((cell_far (p:=⟨qa,_,none⟩) qh.o _).trans (hHeld.2.2.2.2.2))))))⟩ (fun hHeld=>?_)
    clear hK K
    refine pu 10 (some 5) #[true,true,true,true,true,true,true,true,true,true,true] (h:=?_)
    refine done_ (Zdg HT_.out (by kernel_rfl)) ?_
    try go_wp2
    refine bodyPost_ret (Zbd rfl _ _ qa 24 #[.bool q0,.slice q3 q1.length q5,.int .i64 q2] (0,0) _ rfl (by exact p3 qb) Tryz.underlying24 rfl (by kernel_rfl)) rfl ?_
    exact ⟨_,pE,by refine rp ?_;exact Kd.Zi (Kd.Zj (p:=⟨qa,2,none⟩) (Kd.Zj (p:=⟨qa,1,none⟩) (Kd.Zj (p:=⟨qa,0,none⟩) (Kd.Zg q4.o qb.o (by decide)) (fun _ hk=>hk.2) (.bool q0)) (fun _ hk=>hk.2) (.slice q3 q1.length q5)) (fun _ hk=>hk.2) (.int .i64 q2)) (fun _ hk=>hk.1),pB⟩
  | refine bodyPost_ret (Zbd rfl _ _ qa 24 #[.bool false,.slice none 0 0,.int .i64 0] (0,0) _ rfl (by exact p3 qb) Tryz.underlying24 rfl (by kernel_rfl)) rfl ?_
    exact ⟨_,pE,pN,pB⟩):P:=h
theorem Zcz.calls (k:Nat) (a0_0:Bool) (P0_1_:Nat->Prop) (A0_1:Option Addr) (c0_1:Nat) (l0_1:List Int) (a0_2:Int) (a1_0:Bool) (P1_1_:Nat->Prop) (A1_1:Option Addr) (c1_1:Nat) (l1_1:List Int) (a1_2:Int) (r1:Bool) (r2:List Int) (r3:Int) (r4:Int) (w:World) (hs0_1:Kd.V (Kd.int .u32) 85 w w.heap.size (fun k_=>P0_1_ k_) (.slice A0_1 l0_1.length c0_1) l0_1) (hs1_1:Kd.V (Kd.int .u32) 85 w w.heap.size (fun k_=>P1_1_ k_) (.slice A1_1 l1_1.length c1_1) l1_1) (h:Zcz.f k a0_0 l0_1 a0_2 a1_0 l1_1 a1_2=some (r1,r2,r3,r4)) :
  Calls Tryz.prog 50 #[.agg #[.bool a0_0,.slice A0_1 l0_1.length c0_1,.int .i64 a0_2],.agg #[.bool a1_0,.slice A1_1 l1_1.length c1_1,.int .i64 a1_2]] w fun e w' => ∃ v1_:Value,e=.returned (.tuple #[.agg #[.bool r1,v1_,.int .i64 r3],.int .i64 r4])/\Kd.R (Kd.int .u32) 85 w' w.heap.size (fun k_=>(w.heap.size<=k_)) v1_ r2/\Below w.heap.size w w':=by
 have hu24:=Tryz.underlying24
 have jm:=Tryz.underlying106
 have HO0_1:=am (show Kd.V (Kd.int .u32) 85 w w.heap.size (fun k_=>((P0_1_ k_\/P1_1_ k_)\/w.heap.size<=k_)) (.slice A0_1 l0_1.length c0_1) l0_1 from Kd.Zr hs0_1 (fun k_ hk=>.inl (.inl hk)))
 have HO1_1:=am (show Kd.V (Kd.int .u32) 85 w w.heap.size (fun k_=>((P0_1_ k_\/P1_1_ k_)\/w.heap.size<=k_)) (.slice A1_1 l1_1.length c1_1) l1_1 from Kd.Zr hs1_1 (fun k_ hk=>.inl (.inr hk)))
 have HB:=am (Below.refl w.heap.size w)
 have H:((Zcs.f k (([(⟨a0_0,l0_1,a0_2⟩:S24),(⟨a1_0,l1_1,a1_2⟩:S24)]:List (S24)))).bind fun qi=>(if qi=0 then ((Zbb.f a1_0 l1_1 a1_2).bind fun qe=>((Zu.f k a0_0 l0_1 a0_2 qe.1 qe.2.1 qe.2.2).bind fun qf=>((Zbj.f k qf.1 qf.2.1 qf.2.2).bind fun qd=>(some (qd.1,qd.2.1,qd.2.2.1,qd.2.2.2))))) else (some (false,([]:List Int),0,qi))))=some (r1,r2,r3,r4):=h
 clear h
 obtain ⟨qj,qp⟩:∃ y_:List (S24),y_=(([(⟨a0_0,l0_1,a0_2⟩:S24),(⟨a1_0,l1_1,a1_2⟩:S24)]:List (S24))):=⟨_,rfl⟩
 replace H:((Zcs.f k qj).bind fun qi=>(if qi=0 then ((Zbb.f a1_0 l1_1 a1_2).bind fun qe=>((Zu.f k a0_0 l0_1 a0_2 qe.1 qe.2.1 qe.2.2).bind fun qf=>((Zbj.f k qf.1 qf.2.1 qf.2.2).bind fun qd=>(some (qd.1,qd.2.1,qd.2.2.1,qd.2.2.2))))) else (some (false,([]:List Int),0,qi))))=some (r1,r2,r3,r4):=by have hy_:=qp;exact pH
 have qt:=am qp
 clear qp
 replace H:=ob H
 obtain ⟨qi,A3,H⟩:=H
 replace H:=eI H
 rcases H with ⟨c4b0,c4b1,H⟩|⟨c4,c4b0,c4b1,H⟩
 ·replace H:=ob H
  obtain ⟨⟨qv,qw,qx⟩,A5,H⟩:=H;(try dsimp only at H)
  replace H:=ob H
  obtain ⟨⟨qy,qo,qz⟩,A6,H⟩:=H;(try dsimp only at H)
  replace H:=ob H
  obtain ⟨⟨q0,q1,q2,je⟩,A7,H⟩:=H;(try dsimp only at H)
  simp only [Option.some.injEq,Prod.mk.injEq] at H
  obtain ⟨rfl,rfl,rfl,rfl⟩:=H
  exact Zcz.leaf
 ·simp only [Option.some.injEq,Prod.mk.injEq] at H
  obtain ⟨rfl,rfl,rfl,rfl⟩:=H
  exact Zcz.leaf
def Zey.f (k:Nat) (a0:Int):Option (Bool × List Int × Int):=if a0 < 0 then ((Zc6.f k (IntKind.u64.wrap (-(IntKind.u64.wrap (a0))))).bind fun qc=>((Zbj.f k (decide (a0 < 0)) qc 0).bind fun qa=>(some (qa.1,qa.2.1,qa.2.2.1)))) else ((Zc6.f k (IntKind.u64.wrap (a0))).bind fun qd=>((Zbj.f k (decide (a0 < 0)) qd 0).bind fun qb=>(some (qb.1,qb.2.1,qb.2.2.1))))
theorem Zey.leaf {P:Prop} (h:P:=by
 go_enter Tryz.func51,Tryz.ntmps51
 go_wp2_with (first|((with_reducible refine gd 2 ?_);refine bx 2 #[.bool false,.slice none 0 0,.int .i64 0] 24 (h:=?_);intro gb0z hg w1z hbox hb;have BK2z:=am hbox;have GW3z:=gW hg;replace HB:=bS hb;clear hb hbox hg)|(refine gL (some 16) Tryz.func76 #[.int .u64 (IntKind.u64.wrap (-(IntKind.u64.wrap (a0))))] (h:=?_);(with_reducible refine (Zc6.calls k (IntKind.u64.wrap (-(IntKind.u64.wrap (a0)))) qc _ A3.o).mono ?_);rintro e w5z ⟨v6z,rfl,ho7z,hb⟩;refine ⟨_,rfl,?_⟩;have HO8z:=am (Kd.Zt ho7z (Zb pB));replace BK2z:=bb BK2z hb;replace HB:=bS hb;obtain ⟨Ao9z,qh,qr⟩:=Kd.Zm HO8z.o;subst qr)|(refine gL (some 19) Tryz.func100 #[.agg #[.bool true,.slice Ao9z qc.length qh,.int .i64 0]] (h:=?_);(with_reducible refine (Zbj.calls k true (fun k_=>some k_=(.slice Ao9z qc.length qh:Value).ownBlock) (.slice Ao9z qc.length qh) qc 0 qk qm qo qv w _ ?side1 ?side2 A4.o).mono ?_);(case side1=>exact pB);(case side2=>exact Kd.Zbc rfl HO8z.o);rintro e w12z ⟨v13z,rfl,ho7z,hb,hkp⟩;refine ⟨_,rfl,?_⟩;have qi:=am (Kd.Zi (ok':=fun k_=>True) ho7z (fun k_ hk_=>trivial));replace BK2z:=am (Zan (Za BK2z.o pl) hkp (fun e_=>Kd.R_ne HO8z.o BK2z.o (by decide) e_));replace HB:=am hb;clear HO8z)|((with_reducible refine gd 4 ?_);refine bx 4 #[.bool false,.slice none 0 0,.int .i64 0] 24 (h:=?_);intro qj hg w16z hbox hb;have qq:=am hbox;have qz:=gW hg;have qg:=nL hg BK2z;have qt:=nG hg BK2z;replace qi:=rbl qi hb;replace BK2z:=bb BK2z hb;replace HB:=bS hb;clear hb hbox hg;have qx:=qt.o;have qy:=qg.o;obtain ⟨_,_,_,_,_,_⟩:=cEc qq.o;obtain ⟨qe,qf,qu⟩:=Kd.Zm qi.o;subst qu;obtain ⟨_,_,_,_,_,_⟩:=cEc BK2z.o)|(refine gL (some 16) Tryz.func76 #[.int .u64 (IntKind.u64.wrap (a0))] (h:=?_);(with_reducible refine (Zc6.calls k (IntKind.u64.wrap (a0)) qd _ A14.o).mono ?_);rintro e w5z ⟨v6z,rfl,ho7z,hb⟩;refine ⟨_,rfl,?_⟩;have HO8z:=am (Kd.Zt ho7z (Zb pB));replace BK2z:=bb BK2z hb;replace HB:=bS hb;obtain ⟨Ao9z,qh,qr⟩:=Kd.Zm HO8z.o;subst qr)|(refine gL (some 19) Tryz.func100 #[.agg #[.bool false,.slice Ao9z qd.length qh,.int .i64 0]] (h:=?_);(with_reducible refine (Zbj.calls k false (fun k_=>some k_=(.slice Ao9z qd.length qh:Value).ownBlock) (.slice Ao9z qd.length qh) qd 0 ql qn qp qw w _ ?side1 ?side2 A15.o).mono ?_);(case side1=>exact pB);(case side2=>exact Kd.Zbc rfl HO8z.o);rintro e w12z ⟨v13z,rfl,ho7z,hb,hkp⟩;refine ⟨_,rfl,?_⟩;have qi:=am (Kd.Zi (ok':=fun k_=>True) ho7z (fun k_ hk_=>trivial));replace BK2z:=am (Zan (Za BK2z.o pl) hkp (fun e_=>Kd.R_ne HO8z.o BK2z.o (by decide) e_));replace HB:=am hb;clear HO8z))
 first
  | have q_:=A4
    refine bodyPost_ret (results_cell_row rfl _ _ gb0z 24 #[.bool qk,.slice qe qm.length qf,.int .i64 qo] (0,0) _ rfl (by refine bp ?_;refine Zab (cs:=#[.bool qk,.slice qe qm.length qf,.int .i64 0]) ?_ 2 _ rfl;refine bp ?_;refine Zab (cs:=#[.bool qk,.slice none 0 0,.int .i64 0]) ?_ 1 _ rfl;refine bp ?_;refine Zab (cs:=#[.bool false,.slice none 0 0,.int .i64 0]) ?_ 0 _ rfl;refine bq ?_ qg;refine bq ?_ qg;refine bq ?_ qg;exact bp BK2z.o) Tryz.underlying24 rfl (by kernel_rfl)) rfl ?_
    exact ⟨_,pE,by refine rp ?_;exact Kd.Zi (Kd.Zj (p:=⟨gb0z,2,none⟩) (Kd.Zj (p:=⟨gb0z,1,none⟩) (Kd.Zj (p:=⟨gb0z,0,none⟩) (Kd.Zj (p:=⟨qj,2,none⟩) (Kd.Zj (p:=⟨qj,1,none⟩) (Kd.Zj (p:=⟨qj,0,none⟩) (Kd.Zg (Kd.Zg qi.o qq.o (by decide)) BK2z.o (by decide)) (fun _ hk=>hk.1.2) (.bool qk)) (fun _ hk=>hk.1.2) (.slice qe qm.length qf)) (fun _ hk=>hk.1.2) (.int .i64 qo)) (fun _ hk=>hk.2) (.bool qk)) (fun _ hk=>hk.2) (.slice qe qm.length qf)) (fun _ hk=>hk.2) (.int .i64 qo)) (fun _ hk=>trivial),pB⟩
  | refine bodyPost_ret (results_cell_row rfl _ _ gb0z 24 #[.bool ql,.slice qe qn.length qf,.int .i64 qp] (0,0) _ rfl (by refine bp ?_;refine Zab (cs:=#[.bool ql,.slice qe qn.length qf,.int .i64 0]) ?_ 2 _ rfl;refine bp ?_;refine Zab (cs:=#[.bool ql,.slice none 0 0,.int .i64 0]) ?_ 1 _ rfl;refine bp ?_;refine Zab (cs:=#[.bool false,.slice none 0 0,.int .i64 0]) ?_ 0 _ rfl;refine bq ?_ qg;refine bq ?_ qg;refine bq ?_ qg;exact bp BK2z.o) Tryz.underlying24 rfl (by kernel_rfl)) rfl ?_
    exact ⟨_,pE,by refine rp ?_;exact Kd.Zi (Kd.Zj (p:=⟨gb0z,2,none⟩) (Kd.Zj (p:=⟨gb0z,1,none⟩) (Kd.Zj (p:=⟨gb0z,0,none⟩) (Kd.Zj (p:=⟨qj,2,none⟩) (Kd.Zj (p:=⟨qj,1,none⟩) (Kd.Zj (p:=⟨qj,0,none⟩) (Kd.Zg (Kd.Zg qi.o qq.o (by decide)) BK2z.o (by decide)) (fun _ hk=>hk.1.2) (.bool ql)) (fun _ hk=>hk.1.2) (.slice qe qn.length qf)) (fun _ hk=>hk.1.2) (.int .i64 qp)) (fun _ hk=>hk.2) (.bool ql)) (fun _ hk=>hk.2) (.slice qe qn.length qf)) (fun _ hk=>hk.2) (.int .i64 qp)) (fun _ hk=>trivial),pB⟩):P:=h
theorem Zey.calls (k:Nat) (a0:Int) (r1:Bool) (r2:List Int) (r3:Int) (w:World) (h:Zey.f k a0=some (r1,r2,r3)) :
  Calls Tryz.prog 51 #[.int .i64 a0] w fun e w' => ∃ v1_:Value,e=.returned (.agg #[.bool r1,v1_,.int .i64 r3])/\Kd.R (Kd.int .u32) 85 w' w.heap.size (fun _=>True) v1_ r2/\Below w.heap.size w w':=by
 have hu24:=Tryz.underlying24
 have q0:=Tryz.underlying106
 have HB:=am (Below.refl w.heap.size w)
 have H:(if a0 < 0 then ((Zc6.f k (IntKind.u64.wrap (-(IntKind.u64.wrap (a0))))).bind fun qc=>((Zbj.f k (decide (a0 < 0)) qc 0).bind fun qa=>(some (qa.1,qa.2.1,qa.2.2.1)))) else ((Zc6.f k (IntKind.u64.wrap (a0))).bind fun qd=>((Zbj.f k (decide (a0 < 0)) qd 0).bind fun qb=>(some (qb.1,qb.2.1,qb.2.2.1)))))=some (r1,r2,r3):=h
 clear h
 replace H:=dI H
 rcases H with ⟨c2b0,H⟩|⟨c2b0,H⟩
 ·replace H:=Option.bind_eq_some_iff.mp H
  obtain ⟨qc,A30,H⟩:=H
  (try dsimp only at H)
  rw [c2b0] at H
  have A3:=am A30
  clear A30
  replace H:=ob H
  obtain ⟨⟨qk,qm,qo,qv⟩,A4,H⟩:=H;(try dsimp only at H)
  simp only [Option.some.injEq,Prod.mk.injEq] at H
  obtain ⟨rfl,rfl,rfl⟩:=H
  exact Zey.leaf
 ·replace H:=Option.bind_eq_some_iff.mp H
  obtain ⟨qd,qs,H⟩:=H
  (try dsimp only at H)
  rw [c2b0] at H
  have A14:=am qs
  clear qs
  replace H:=ob H
  obtain ⟨⟨ql,qn,qp,qw⟩,A15,H⟩:=H;(try dsimp only at H)
  simp only [Option.some.injEq,Prod.mk.injEq] at H
  obtain ⟨rfl,rfl,rfl⟩:=H
  exact Zey.leaf
end YtjbjkmccfocikaaGreatDoor.B
end
section
namespace YtjbjkmccfocikaaGreatDoor.P
open Go.RowKit YtjbjkmccfocikaaGreatDoor.B YtjbjkmccfocikaaGreatDoorW.PrintWords YtjbjkmccfocikaaGreatDoorW.PrintLast YtjbjkmccfocikaaGreatDoorW.PrintMore YtjbjkmccfocikaaGreatDoor.P.Nm
def chr (d:Int):UInt8:=UInt8.ofNat (48+d.toNat)
theorem Zfa {n:Nat} (h:n ≠ 0):(decT n).data.toList=(digs n).reverse.map chr:=by
 unfold decT;rw [if_neg h];rfl
theorem Zkl {d:Int} (h0:0<=d) (h1:d < 10):(chr d).toNat=48+d.toNat:=by
 unfold chr;simp;omega
theorem Zf0 (n:Nat):(decT n).size=if n=0 then 1 else nd n:=by
 by_cases h:n=0
 ·subst h;rfl
 ·rw [if_neg h]
  show (decT n).data.size=_
  rw [<- Array.length_toList,Zfa h];simp [nd]
theorem Zq7 {b:ByteArray} {l:List UInt8} (h:b.data.toList=l):b=⟨l.toArray⟩:=by
 cases b with|mk d=>subst h;rfl
theorem Zox {n:Nat} (h:n ≠ 0):(⟨(Lib.trimRightB (decT n).data.toList 48).toArray⟩:ByteArray)=decT (core n):=by
 obtain ⟨h1,h2⟩:=Zkb h
 have hc:=Zi2 h
 symm
 refine Zq7 ?_
 rw [Zfa hc,Zfa h]
 unfold Lib.trimRightB
 rw [<- List.map_reverse,List.reverse_reverse]
 have hd:digs n=List.replicate (tz n) 0++digs (core n):=by
  conv=>lhs;rw [h1]
  exact Zgm hc _
 rw [hd,List.map_append,List.map_replicate,Zd3 hc,List.map_cons]
 have e0:chr 0=48:=rfl
 have e1:(chr ((core n % 10:Nat):Int) == 48)=false:=by
  refine beq_eq_false_iff_ne.2 (fun q=>?_)
  have := congrArg UInt8.toNat q
  rw [Zkl (by omega) (by omega)] at this
  have e48:(48:UInt8).toNat=48:=rfl
  rw [e48] at this
  omega
 have drop:∀ k (l:List UInt8),(List.replicate k (48:UInt8)++l).dropWhile (· == 48)=l.dropWhile (· == 48):=fun k l=>by
  induction k with
  | zero=>rfl
  | succ k ih=>rw [List.replicate_succ,List.cons_append,List.dropWhile_cons_of_pos (by rfl),ih]
 rw [e0,drop,List.dropWhile_cons_of_neg (by rw [e1];simp),List.map_reverse,List.map_cons]
theorem Zn8 (n:Nat):numT (decT n)=n:=by
 by_cases h:n=0
 ·subst h;rfl
 ·unfold numT
  rw [Zfa h]
  have key:∀ l:List Int,Dg 10 l->(((l.reverse.map chr).foldl (fun n c=>n*10+(c.toNat - 48)) 0:Nat):Int)=val 10 l:=fun l=>by
   induction l with
   | nil=>intro _;rfl
   | cons x l ih =>
    intro hd
    have hx:=hd.head
    rw [List.reverse_cons,List.map_append,List.foldl_append,List.map_cons,List.map_nil,List.foldl_cons,List.foldl_nil,Zkl hx.1 hx.2,Zc8,<- ih hd.tail]
    omega
  have := key (digs n) (Zc7 n)
  rw [Zcl] at this
  exact_mod_cast this
theorem Zpi (n:Nat):(decT n).data.toList.all isDig=true:=by
 by_cases h:n=0
 ·subst h;rfl
 ·rw [Zfa h,List.all_eq_true]
  intro c hc
  obtain ⟨d,hd,rfl⟩:=List.mem_map.1 hc
  have hx:=Zc7 n d (List.mem_reverse.1 hd)
  unfold isDig
  rw [Zkl hx.1 hx.2]
  simp;omega
theorem Zln (s:ByteArray) (a b:Nat):(s.extract a b).data.toList=(s.data.toList.drop a).take (b - a):=by
 rw [ByteArray.data_extract,Array.toList_extract]
def numF (v:Nat) (l:List UInt8):Nat:=l.foldl (fun n c=>n*10+(c.toNat - 48)) v
theorem Zpr (v:Nat):numF v []=v:=rfl
theorem Zhp (v:Nat) (c:UInt8) (l:List UInt8):numF v (c :: l)=numF (v*10+(c.toNat - 48)) l:=by unfold numF;rw [List.foldl_cons]
theorem Zpq (v:Nat) (l m:List UInt8):numF v (l++m)=numF (numF v l) m:=by unfold numF;rw [List.foldl_append]
theorem Zg4:∀ (l:List UInt8) (v:Nat),numF v l=v*10 ^ l.length+numF 0 l
 | [],v=>by simp [numF]
 | c :: l,v=>by
  rw [Zhp,Zhp,Zg4 l (v*10+_),Zg4 l (0*10+_),List.length_cons,Nat.pow_succ,Nat.add_mul,Nat.zero_mul,Nat.zero_add,Nat.mul_assoc v 10,Nat.mul_comm 10]
  omega
theorem Zhk {c:UInt8}:isDig c=true ↔ 48<=c.toNat/\c.toNat<=57:=by unfold isDig;simp
theorem Zn7:∀ (l:List UInt8),l.all isDig=true->numF 0 l < 10 ^ l.length
 | [],_=>by simp [numF]
 | c :: l,h=>by
  rw [List.all_cons,Bool.and_eq_true] at h
  have h1:=Zn7 l h.2
  have h2:=Zhk.1 h.1
  rw [Zhp,Zg4,List.length_cons,Nat.pow_succ]
  have := Nat.mul_le_mul_right (10 ^ l.length) (show 0*10+(c.toNat - 48)<=9 by omega)
  omega
theorem Zp9 (s:ByteArray) (h:s.size<=9223372036854775807):Zcd.f s=some (bytesOf s):=by unfold Zcd.f;rw [if_pos h]
theorem Zjr (s:ByteArray) (i:Nat) (c:UInt8) (r:List UInt8) (h:s.data.toList.drop i=c :: r):(bytesOf s).getD i 0=(c.toNat:Int):=by
 unfold bytesOf
 have h2:s.data.toList[i]? = some c:=by
  have := List.getElem?_drop (xs:=s.data.toList) (i:=i) (j:=0)
  rw [h] at this
  simpa using this.symm
 rw [List.getD,List.getElem?_map,h2];rfl
theorem Zlw (s:ByteArray) (hs:s.data.toList.all isDig=true) (hl:s.data.toList.length<=9):∀ (r:List UInt8) (i v:Nat),s.data.toList.drop i=r->i<=s.data.toList.length->v < 10 ^ i->Tells (fun k=>Zcg.l0 k (v:Int) (bytesOf s) ((bytesOf s).length:Int) (i:Int)) (numF v r:Int)
 | [],i,v,hr,hi,hv=>by
  have hlen:(bytesOf s).length=s.data.toList.length:=by unfold bytesOf;rw [List.length_map]
  have hge:s.data.toList.length<=i:=List.drop_eq_nil_iff.1 hr
  refine Tells.succ ?_
  simp only [Zcg.l0]
  exact Tells.ifn (by omega) (Tells.pure _)
 | c :: r,i,v,hr,hi,hv=>by
  have hlen:(bytesOf s).length=s.data.toList.length:=by unfold bytesOf;rw [List.length_map]
  have hlt:i < s.data.toList.length:=by
   have := congrArg List.length hr
   rw [List.length_drop,List.length_cons] at this
   omega
  have hc:isDig c=true:=List.all_eq_true.1 hs c (List.mem_of_mem_drop (by rw [hr];exact List.mem_cons_self))
  have hc2:=Zhk.1 hc
  have hv9:v < 100000000:=Nat.lt_of_lt_of_le hv (Nat.le_trans (Nat.pow_le_pow_right (by omega) (show i<=8 by omega)) (by decide))
  have ih:=Zlw s hs hl r (i+1) (v*10+(c.toNat - 48)) (by rw [<- List.drop_drop,hr];rfl) (by omega) (by rw [Nat.pow_succ];omega)
  have c1:(i:Int) < ((bytesOf s).length:Int):=by omega
  have c2:(0:Int)<=(i:Int):=by omega
  have e1:(((v:Int)*10) % 4294967296+(((c.toNat:Int) - 48) % 256)) % 4294967296=((v*10+(c.toNat - 48):Nat):Int):=by omega
  refine Tells.succ ?_
  simp only [Zcg.l0]
  rw [rd_n,Zjr s i c r hr,e1,w64s (by omega)]
  exact Tells.ifp c1 (Tells.ifp c2 (Tells.ifp c1 ih))
theorem Zku (s:ByteArray) (hs:s.data.toList.all isDig=true) (hl:s.data.toList.length<=9):Tells (fun k=>Zcg.f k s) (numF 0 s.data.toList:Int):=by
 unfold Zcg.f
 have hsz:s.size=s.data.toList.length:=by rw [Array.length_toList];rfl
 rw [Zp9 s (by omega)]
 exact (Tells.pure _).bind (Zlw s hs hl s.data.toList 0 0 rfl (by omega) (by simp))
theorem Zi7:([1000000000]:List Int)=limbs 1000000000:=by decide +kernel
theorem Zp0 (n:Nat) (h:n < 4294967296):Tells (fun k=>Zad.f k [(n:Int)]) (limbs n) :=
 Zef (Dg.one (by omega) (by omega)) (by rw [val_one]) (by simp)
theorem Zo9 {l:List UInt8} (h:l.all isDig=true) (n:Nat):(l.drop n).all isDig=true:=List.all_eq_true.2 fun x hx=>List.all_eq_true.1 h x (List.mem_of_mem_drop hx)
theorem Zle {l:List UInt8} (h:l.all isDig=true) (n:Nat):(l.take n).all isDig=true:=List.all_eq_true.2 fun x hx=>List.all_eq_true.1 h x (List.mem_of_mem_take hx)
theorem Zk8:∀ (f:Nat) (s:ByteArray) (v:Nat),s.data.toList.length<=f->s.data.toList.all isDig=true->(v=0\/s.data.toList.length % 9=0)->nd v+s.data.toList.length<=100000 ->
  Tells (fun k=>Zbf.l0 k s (limbs v)) (limbs (numF v s.data.toList),0)
 | f,s,v,hf,hs,hv,hl=>by
  have hsz:s.size=s.data.toList.length:=by rw [Array.length_toList];rfl
  by_cases h0:s.data.toList=[]
  ·refine Tells.succ ?_
   simp only [Zbf.l0]
   refine Tells.ifp (by rw [<- h0];exact (Lib.toList_data s)) ((Tells.pure _).val ?_)
   rw [h0,Zpr]
  ·have hpos:0 < s.data.toList.length:=List.length_pos_iff.2 h0
   obtain ⟨f,rfl⟩:∃ g,f=g+1:=⟨f - 1,by omega⟩
   obtain ⟨n,hn⟩:∃ n,(s.data.toList.length - 1) % 9+1=n:=⟨_,rfl⟩
   have hn9:n<=9:=by omega
   have hnl:n<=s.data.toList.length:=by omega
   have hT:(s.extract 0 n).data.toList=s.data.toList.take n:=by rw [Zln];simp
   have hD:(s.extract n s.size).data.toList=s.data.toList.drop n:=by
    rw [Zln,hsz,List.take_of_length_le (by rw [List.length_drop];omega)]
   have hp:=Zku (s.extract 0 n) (by rw [hT];exact Zle hs n) (by rw [hT,List.length_take];omega)
   rw [hT] at hp
   have hpl:=Zn7 (s.data.toList.take n) (Zle hs n)
   obtain ⟨p,hpp⟩:∃ p,numF 0 (s.data.toList.take n)=p:=⟨_,rfl⟩
   rw [hpp] at hp hpl
   rw [List.length_take,Nat.min_eq_left hnl] at hpl
   have hp9:p < 1000000000:=Nat.lt_of_lt_of_le hpl (Nat.le_trans (Nat.pow_le_pow_right (by omega) hn9) (by decide))
   have hv2:v*1000000000+p=numF v (s.data.toList.take n):=by
    rw [Zg4,hpp,List.length_take,Nat.min_eq_left hnl]
    rcases hv with h|h
    ·rw [h];simp
    ·rw [show n=9 by omega]
   have hndv:nd (v*1000000000+p)<=nd v+9:=by
    refine Zgp ?_
    have := Zj2 v
    rw [Nat.pow_add]
    have h9:(10:Nat) ^ 9=1000000000:=by decide
    rw [h9]
    have := Nat.mul_le_mul_right 1000000000 (show v+1<=10 ^ nd v by omega)
    omega
   have hv0:v=0->nd (v*1000000000+p)<=n:=fun e=>by
    subst e
    rw [Nat.zero_mul,Nat.zero_add]
    exact Zgp hpl
   have hndb:nd 1000000000<=10:=Zgp (by decide)
   have hndp:nd p<=9:=Zgp hp9
   have hm:=Zf3 (m:=v) (n:=1000000000) (by omega) (by omega)
   have ha:=Zjn (m:=v*1000000000) (n:=p) (Nat.le_trans (Zfx (Nat.le_add_right _ p)) (by omega)) (by omega)
   have ih:=Zk8 f (s.extract n s.size) (v*1000000000+p) (by rw [hD,List.length_drop];omega) (by rw [hD];exact Zo9 hs n) (.inr (by rw [hD,List.length_drop];omega)) (by
    rw [hD,List.length_drop]
    rcases hv with h|h
    ·have := hv0 h;omega
    ·have:n=9:=by omega
     omega)
   rw [hD] at ih
   have ih:=ih.val (u:=(limbs (numF v s.data.toList),0)) (by rw [hv2,<- Zpq,List.take_append_drop])
   have e1:(s.size:Int) - 1=((s.data.toList.length - 1:Nat):Int):=by omega
   have e2:Int.tmod ((s.data.toList.length - 1:Nat):Int) 9=(((s.data.toList.length - 1) % 9:Nat):Int):=by rw [Int.tmod_eq_emod_of_nonneg (by omega)];omega
   have c1:(0:Int)<=(n:Int):=by omega
   have c2:(n:Int)<=(s.size:Int):=by omega
   refine Tells.succ ?_
   simp only [Zbf.l0]
   rw [e1,w64c (by omega),e2,w64s (by omega),hn,Int.toNat_natCast,Zi7]
   refine Tells.ifn (fun q=>h0 (by rw [<- Lib.toList_data s];exact q)) (hm.bind (Tells.ifp c1 (Tells.ifp c2 (hp.bind ((Zp0 p (by omega)).bind (ha.bind ih))))))
theorem Zmc (s:ByteArray) (h:s.data.toList.all isDig=true):Zb7.f (bytesOf s)=some false:=by
 unfold Zb7.f
 rw [Zjp (fun x=>decide (x < 48) || decide (57 < x)) (bytesOf s) (fun x _=>by
  unfold Zd5.f
  by_cases h1:x < 48
  ·rw [if_pos h1,decide_eq_true h1];rfl
  ·rw [if_neg h1,decide_eq_false h1];rfl)]
 congr 1
 rw [List.any_eq_false]
 intro x hx
 unfold bytesOf at hx
 obtain ⟨c,hc,rfl⟩:=List.mem_map.1 hx
 have := Zhk.1 (List.all_eq_true.1 h c hc)
 simp;omega
theorem Zkg (s:ByteArray) (h:s.data.toList.all isDig=true) (h0:0 < s.size) (h1:s.size<=2400):Tells (fun k=>Zbf.f k s) (limbs (numF 0 s.data.toList),0):=by
 have hsz:s.size=s.data.toList.length:=by rw [Array.length_toList];rfl
 unfold Zbf.f
 rw [Zp9 s (by omega)]
 refine Tells.ifn (by omega) (Tells.ifn (by omega) ((Tells.pure _).bind ?_))
 rw [Zmc s h]
 exact (Tells.pure _).bind (Tells.ifn (by simp) (Zk8 _ s 0 (Nat.le_refl _) h (.inl rfl) (by rw [Zn5];omega)))
theorem Zl8 {n:Nat} (h:nd n<=2400):Tells (fun k=>Zbf.f k (decT n)) (limbs n,0):=by
 have hs:=Zf0 n
 have hpos:0 < (decT n).size:=by
  rw [hs];split
  ·omega
  ·rename_i h0;exact Zik h0
 have hle:(decT n).size<=2400:=by rw [hs];split <;> omega
 refine (Zkg (decT n) (Zpi n) hpos hle).val ?_
 rw [show numF 0 (decT n).data.toList=n from Zn8 n]
theorem Zl4 (a:Bool) (n:Nat) (e:Int):Za0.f a (limbs n) e=some (decide (n=0)):=by
 unfold Za0.f
 congr 1
 by_cases h:n=0
 ·subst h;rfl
 ·have:0 < (limbs n).length:=List.length_pos_iff.2 (Zez h)
  rw [decide_eq_false h]
  exact beq_eq_false_iff_ne.2 (by omega)
theorem Zg0 {n:Nat} (h:(limbs n).length<=256):Tells (fun k=>Zcu.f k (limbs n)) (nd n:Int):=by
 unfold Zcu.f
 refine (Zhc h).bind ?_
 by_cases h0:n=0
 ·subst h0
  exact Tells.ifp rfl (Tells.pure _)
 ·have hl:0 < (limbs n).length:=List.length_pos_iff.2 (Zez h0)
  refine Tells.ifn (by omega) ((Tells.pure _).val ?_)
  rw [Zf0,if_neg h0]
theorem Zpg {n:Nat} (h:(limbs n).length<=256):(limbs (core n)).length<=256:=by
 refine Zep (Nat.lt_of_le_of_lt (Zq1 n) (Nat.lt_of_lt_of_le (Zlr n) (Nat.pow_le_pow_right (by omega) h)))
theorem Zk0 (a:Bool) {n:Nat} (e:Int) (h0:n ≠ 0) (h:(limbs n).length<=256) (hd:nd n<=2400) (he1 : -1000000000<=e) (he2:e<=1000000000):Tells (fun k=>Zb0.f k a (limbs n) e) (a,limbs (core n),e+tz n):=by
 have hs:=Zf0 n
 have hs2:=Zf0 (core n)
 have hnc:=Zkr h0
 rw [if_neg h0] at hs
 rw [if_neg (Zi2 h0)] at hs2
 unfold Zb0.f Zdb.f Zbw.f Zca.f
 refine (Zhc h).bind ((Tells.pure _).bind ?_)
 rw [if_pos ⟨rfl,by show (decT n).size<=_;omega⟩]
 refine (Tells.pure _).bind ?_
 simp only [Zox h0]
 by_cases ht:tz n=0
 ·have hc:core n=n:=by
   have := (Zkb h0).1
   rw [ht,Nat.pow_zero,Nat.mul_one] at this
   exact this.symm
  refine Tells.ifp (by rw [hc]) ((Tells.pure _).val ?_)
  rw [hc,ht];simp
 ·refine Tells.ifn (by omega) ?_
  have e1:((decT n).size:Int) - ((decT (core n)).size:Int)=(tz n:Int):=by omega
  refine (Zl8 (by omega)).bind ((Tells.pure _).bind ((Tells.pure _).val ?_))
  rw [e1,w64c (m:=tz n) (by omega),w64n (by omega) (by omega)]
theorem Zeq (a:Bool) {n:Nat} (e:Int) (h:(limbs n).length<=256) (hd:nd n<=2400) (he1 : -1000000000<=e) (he2:e<=1000000000):Tells (fun k=>Zbj.f k a (limbs n) e) (outD (settleD ⟨a,n,e⟩)):=by
 unfold Zbj.f settleD
 rw [Zl4]
 refine (Tells.pure _).bind ?_
 simp only
 by_cases h0:n=0
 ·subst h0
  exact Tells.ifp rfl (Tells.pure _)
 ·rw [if_neg h0]
  have hcd:=Zkr h0
  refine Tells.ifn (by simp [h0]) ((Zk0 a e h0 h hd he1 he2).bind ((Zg0 (Zpg h)).bind ?_))
  dsimp only
  by_cases h3:300 < nd (core n)
  ·rw [if_pos h3]
   exact Tells.ifp (by omega) (Tells.pure _)
  ·rw [if_neg h3]
   refine Tells.ifn (by omega) ?_
   by_cases h4:e+tz n < -1000
   ·exact (Tells.ifp h4 (Tells.pure _)).val (by rw [if_pos (Or.inl h4)];rfl)
   ·refine Tells.ifn h4 ?_
    by_cases h5:1000 < e+tz n
    ·exact (Tells.ifp h5 (Tells.pure _)).val (by rw [if_pos (Or.inr h5)];rfl)
    ·exact (Tells.ifn h5 (Tells.pure _)).val (by rw [if_neg (by omega)])
theorem Zow {n:Nat} (h:(limbs n).length<=256):Tells (fun k=>Zer.f k (limbs n)) (limbs (n / 10),decide (n % 10=0)):=by
 unfold Zer.f
 have h10:(limbs 10).length<=256:=by decide +kernel
 refine (Zgg 10 (by omega)).bind ((Zmu (by omega) h h10).bind ((Tells.pure _).val ?_))
 rw [if_neg (by omega)]
 dsimp only
 congr 1
 by_cases h0:n % 10=0
 ·rw [h0];rfl
 ·have:0 < (limbs (n % 10)).length:=List.length_pos_iff.2 (Zez h0)
  rw [decide_eq_false h0]
  exact beq_eq_false_iff_ne.2 (by omega)
theorem Zd7 (a:Bool) (l:List Int) (e:Int) (hd:Dg 4294967296 l) (hl:l.length<=9223372036854775807):Tells (fun k=>Zbk.f k a l e) (chk a l e):=by
 unfold Zbk.f
 rw [Zg9 l hl]
 refine (Tells.pure _).bind ?_
 have bad:chk a l e=9->Tells (fun k=>Zbk.j0 k true a l e) (chk a l e):=fun h=>by
  rw [h]
  refine Tells.succ ?_
  simp only [Zbk.j0]
  exact Tells.ifp trivial (Tells.pure _)
 by_cases hc:chkL l=0
 ·refine Tells.ifp hc ?_
  by_cases h40:l.length<=40
  ·rw [decide_eq_false (show ¬ ((l.length:Int) > 40) by omega)]
   have hok:=(Zkk hd).1 hc
   obtain ⟨n,hn⟩:∃ n,num l=n:=⟨_,rfl⟩
   have hln:l=limbs n:=by rw [<- hn];exact (Zj0 hok).symm
   have hchk:chk a l e=if okB ⟨a,n,e⟩=true then 0 else 9:=by
    unfold chk
    rw [hn]
    by_cases h:okB ⟨a,n,e⟩=true
    ·rw [if_pos ⟨hc,h40,h⟩,if_pos h]
    ·rw [if_neg (fun q=>h q.2.2),if_neg h]
   rw [hchk]
   subst hln
   have h256:(limbs n).length<=256:=by omega
   unfold okB
   simp only
   refine Tells.succ ?_
   simp only [Zbk.j0]
   refine Tells.ifn (by simp) ?_
   by_cases h0:n=0
   ·subst h0
    rw [if_pos rfl]
    refine Tells.ifp rfl ?_
    cases a
    ·refine Tells.ifn (by simp) ?_
     by_cases he:e=0
     ·subst he;exact Tells.ifp rfl (Tells.pure _)
     ·refine Tells.ifn he ((Tells.pure _).val ?_)
      simp [he]
    ·exact Tells.ifp rfl (Tells.pure _)
   ·have hpos:0 < (limbs n).length:=List.length_pos_iff.2 (Zez h0)
    rw [if_neg h0]
    refine Tells.ifn (by omega) ((Zow h256).bind ?_)
    dsimp only
    by_cases hz:n % 10=0
    ·rw [decide_eq_false (not_not_intro hz)]
     exact Tells.ifp (decide_eq_true hz) (Tells.pure _)
    ·rw [decide_eq_true hz]
     refine Tells.ifn (by simp [hz]) ((Zg0 h256).bind ?_)
     by_cases h3:nd n<=300
     ·rw [decide_eq_true h3]
      refine Tells.ifn (by omega) ?_
      by_cases h4:e < -1000
      ·rw [decide_eq_false (show ¬ (-1000<=e) by omega)]
       exact Tells.ifp h4 (Tells.pure _)
      ·rw [decide_eq_true (show -1000<=e by omega)]
       refine Tells.ifn h4 ?_
       by_cases h5:1000 < e
       ·rw [decide_eq_false (show ¬ (e<=1000) by omega)]
        exact Tells.ifp h5 (Tells.pure _)
       ·rw [decide_eq_true (show e<=1000 by omega)]
        exact Tells.ifn h5 (Tells.pure _)
     ·rw [decide_eq_false h3]
      exact Tells.ifp (by omega) (Tells.pure _)
  ·rw [decide_eq_true (show ((l.length:Int) > 40) by omega)]
   exact bad (by unfold chk;rw [if_neg (fun q=>h40 q.2.1)])
 ·exact Tells.ifn hc (bad (by unfold chk;rw [if_neg (fun q=>hc q.1)]))
theorem DCheck (D:Dm) (h:OkD D):Tells (fun k=>Zbk.f k D.neg (limbs D.n) D.e) 0:=by
 have h1:=Zd9 h
 have := Zd7 D.neg (limbs D.n) D.e (Zcx _) (by omega)
 rw [Zif h] at this
 exact this
theorem Zid (a:Bool) (l:List Int) (e:Int) (hd:Dg 4294967296 l) (hl:l.length<=9223372036854775807):Tells (fun k=>Zei.f k a l e) (decide (chk a l e ≠ 0)):=by
 unfold Zei.f
 refine (Zd7 a l e hd hl).bind ((Tells.pure _).val ?_)
 by_cases h:chk a l e=0 <;> simp [h]
theorem Ze9 (a:Bool) (l:List Int) (e:Int) (b:Bool) (m:List Int) (g:Int) (hd:Dg 4294967296 l) (hl:l.length<=9223372036854775807) (hd2:Dg 4294967296 m) (hl2:m.length<=9223372036854775807):Tells (fun k=>Zcs.f k [⟨a,l,e⟩,⟨b,m,g⟩]) (if chk a l e=0/\chk b m g=0 then 0 else 9):=by
 have h1:Tells (fun k=>Zco.f k [⟨a,l,e⟩,⟨b,m,g⟩]) (decide (¬ (chk a l e=0/\chk b m g=0))):=by
  unfold Zco.f
  simp only [anyO]
  refine (Zid a l e hd hl).bind ?_
  by_cases h:chk a l e=0
  ·refine Tells.ifn (by simp [h]) ((Zid b m g hd2 hl2).bind ?_)
   by_cases h2:chk b m g=0
   ·exact Tells.ifn (by simp [h2]) ((Tells.pure _).val (by simp [h,h2]))
   ·exact Tells.ifp (by simp [h2]) ((Tells.pure _).val (by simp [h,h2]))
  ·exact Tells.ifp (by simp [h]) ((Tells.pure _).val (by simp [h]))
 unfold Zcs.f
 refine h1.bind ?_
 by_cases h:chk a l e=0/\chk b m g=0
 ·rw [if_pos h]
  exact Tells.ifn (by simp [h]) (Tells.pure _)
 ·rw [if_neg h]
  exact Tells.ifp (decide_eq_true h) (Tells.pure _)
theorem Zpa (D E:Dm) (hD:OkD D) (hE:OkD E):Tells (fun k=>Zcs.f k [⟨D.neg,limbs D.n,D.e⟩,⟨E.neg,limbs E.n,E.e⟩]) 0:=by
 have h1:=Zd9 hD
 have h2:=Zd9 hE
 have := Ze9 D.neg (limbs D.n) D.e E.neg (limbs E.n) E.e (Zcx _) (by omega) (Zcx _) (by omega)
 rw [if_pos ⟨Zif hD,Zif hE⟩] at this
 exact this
theorem Ze5 {n:Nat} (h:nd n<=2304):(limbs n).length<=256:=Zii (by omega)
theorem Zgn (a:Bool) (n:Nat) (e x:Int) (hn:nd n<=2304) (hx:x<=e) (he:e - x<=2003) (he1 : -100000<=x) (he2:e<=100000) (hs:nd (n*10 ^ (e - x).toNat)<=2304):Tells (fun k=>Zz.f k a (limbs n) e x) (a,limbs (n*10 ^ (e - x).toNat),x):=by
 unfold Zz.f
 rw [Zl4]
 refine (Tells.pure _).bind ?_
 have same:∀ m,m=n*10 ^ (e - x).toNat->Tells (fun k=>Zz.j0 k x true a (limbs m) e) (a,limbs (n*10 ^ (e - x).toNat),x):=fun m hm=>by
  refine Tells.succ ?_
  simp only [Zz.j0]
  exact Tells.ifp trivial ((Tells.pure _).val (by rw [hm]))
 by_cases h0:n=0
 ·subst h0
  exact Tells.ifp (by rfl) (same 0 (by rw [Nat.zero_mul]))
 ·refine Tells.ifn (by simp [h0]) ?_
  by_cases hex:e=x
  ·subst hex
   have e1:(e == e)=true:=beq_self_eq_true e
   rw [e1]
   exact same n (by rw [Int.sub_self];simp)
  ·have e1:(e == x)=false:=beq_eq_false_iff_ne.2 hex
   obtain ⟨d,hd⟩:∃ d:Nat,e - x=d:=⟨(e - x).toNat,by omega⟩
   rw [e1]
   refine Tells.succ ?_
   simp only [Zz.j0]
   rw [hd,Int.toNat_natCast] at hs ⊢
   rw [w64c (by omega)]
   have hp:(limbs (10 ^ d)).length<=256:=Ze5 (by rw [Zn4];omega)
   have hm:=Zjg (Ze5 hn) hp
   rw [Znw (Ze5 hs)] at hm
   unfold Zbw.f
   exact Tells.ifn (by simp) ((Zm5 d (by omega)).bind ((Tells.pure _).bind (hm.bind ((Tells.pure _).bind (Tells.pure _)))))
theorem Zgs {A B:Dm} (hA:OkD A) (hB:OkD B):Tells (fun k=>Zu.f k A.neg (limbs A.n) A.e B.neg (limbs B.n) B.e) ((plusD A B).neg,limbs (plusD A B).n,(plusD A B).e):=by
 have d1:=hA.len;have d2:=hA.low;have d3:=hA.high
 have e1:=hB.len;have e2:=hB.low;have e3:=hB.high
 have hx:=Zdn A.n (A.e - min A.e B.e).toNat
 have hy:=Zdn B.n (B.e - min A.e B.e).toNat
 have hr:=Zg6 hA hB
 unfold Zu.f Zbw.f
 rw [Zr6]
 refine (Zgn A.neg A.n A.e (min A.e B.e) (by omega) (by omega) (by omega) (by omega) (by omega) (by omega)).bind ?_
 refine (Zgn B.neg B.n B.e (min A.e B.e) (by omega) (by omega) (by omega) (by omega) (by omega) (by omega)).bind ?_
 unfold plusD sumS at *
 simp only at *
 generalize A.n*10 ^ (A.e - min A.e B.e).toNat=x at *
 generalize B.n*10 ^ (B.e - min A.e B.e).toNat=y at *
 have hx':(limbs x).length<=256:=Ze5 (by omega)
 have hy':(limbs y).length<=256:=Ze5 (by omega)
 by_cases h:A.neg=B.neg
 ·rw [if_pos h] at hr ⊢
  have ha:=Zms hx' hy'
  rw [Znw (Ze5 (n:=x+y) (by simp only at hr;omega))] at ha
  exact Tells.ifp (by rw [h];simp) (ha.bind ((Tells.pure _).bind (Tells.pure _)))
 ·rw [if_neg h]
  refine Tells.ifn (by simpa using h) ((Ziq hx' hy').bind ?_)
  dsimp only
  by_cases hlt:x < y
  ·have hs:=Zjl hy' hx'
   rw [if_neg (by omega)] at hs
   rw [if_pos hlt]
   exact Tells.ifp (by unfold cmpN;rw [if_pos hlt];omega) (hs.bind ((Tells.pure _).bind (Tells.pure _)))
  ·have hs:=Zjl hx' hy'
   rw [if_neg hlt] at hs
   rw [if_neg hlt]
   exact Tells.ifn (by unfold cmpN;rw [if_neg hlt];split <;> omega) (hs.bind ((Tells.pure _).bind (Tells.pure _)))
theorem Zkq (A:Dm):Zbb.f A.neg (limbs A.n) A.e=some ((negD A).neg,limbs A.n,A.e):=by
 unfold Zbb.f negD
 rw [Zl4]
 cases A.neg
 ·rw [if_neg (by simp),Option.bind_some]
  simp
 ·rw [if_pos rfl];rfl
theorem DCompare (D E:Dm) (hD:OkD D) (hE:OkD E):Tells (fun k=>Zbl.f k D.neg (limbs D.n) D.e E.neg (limbs E.n) E.e) (cmpD D E,0):=by
 unfold Zbl.f
 refine (Zpa D E hD hE).bind (Tells.ifp rfl ?_)
 rw [Zkq E]
 refine (Tells.pure _).bind ((Zgs hD (Zho hE)).bind ?_)
 dsimp only
 rw [Zl4]
 refine (Tells.pure _).bind ?_
 unfold cmpD
 simp only
 by_cases h:(plusD D (negD E)).n=0
 ·rw [if_pos h]
  exact Tells.ifp (by simp [h]) (Tells.pure _)
 ·rw [if_neg h]
  refine Tells.ifn (by simp [h]) ?_
  cases (plusD D (negD E)).neg
  ·exact Tells.ifn (by simp) (Tells.pure _)
  ·exact Tells.ifp rfl (Tells.pure _)
theorem Zhv {A B:Dm} (hA:OkD A) (hB:OkD B):Tells (fun k=>Zbj.f k (plusD A B).neg (limbs (plusD A B).n) (plusD A B).e) (outD (settleD (plusD A B))):=by
 have h1:=Zg6 hA hB
 have h2:=Zja hA hB
 exact Zeq (plusD A B).neg (plusD A B).e (Ze5 (by omega)) (by omega) (by omega) (by omega)
theorem DAdd (D E:Dm) (hD:OkD D) (hE:OkD E):Tells (fun k=>Zdq.f k D.neg (limbs D.n) D.e E.neg (limbs E.n) E.e) (outD (addD D E)):=by
 unfold Zdq.f
 exact (Zpa D E hD hE).bind (Tells.ifp rfl ((Zgs hD hE).bind ((Zhv hD hE).bind (Tells.pure _))))
theorem DSub (D E:Dm) (hD:OkD D) (hE:OkD E):Tells (fun k=>Zcz.f k D.neg (limbs D.n) D.e E.neg (limbs E.n) E.e) (outD (subD D E)):=by
 unfold Zcz.f
 refine (Zpa D E hD hE).bind (Tells.ifp rfl ?_)
 rw [Zkq E]
 exact (Tells.pure _).bind ((Zgs hD (Zho hE)).bind ((Zhv hD (Zho hE)).bind (Tells.pure _)))
theorem DMul (D E:Dm) (hD:OkD D) (hE:OkD E):Tells (fun k=>Zcy.f k D.neg (limbs D.n) D.e E.neg (limbs E.n) E.e) (outD (timesD D E)):=by
 have d1:=hD.len;have d2:=hD.low;have d3:=hD.high
 have e1:=hE.len;have e2:=hE.low;have e3:=hE.high
 have hm:=Zqd D.n E.n
 have h:=Zjg (Ze5 (n:=D.n) (by omega)) (Ze5 (n:=E.n) (by omega))
 rw [Znw (Ze5 (by omega))] at h
 unfold Zcy.f Zbw.f
 rw [w64n (by omega) (by omega)]
 exact (Zpa D E hD hE).bind (Tells.ifp rfl (h.bind ((Tells.pure _).bind ((Zeq (D.neg != E.neg) (D.e+E.e) (Ze5 (by omega)) (by omega) (by omega) (by omega)).bind (Tells.pure _)))))
theorem Zqx (l:List Int) (h:l.length<=10000):Zao.f l=some l:=by unfold Zao.f;rw [if_pos (by omega)]
theorem DNeg (D:Dm) (hD:OkD D):Tells (fun k=>Zea.f k D.neg (limbs D.n) D.e) (outD (negD D,0)):=by
 have h1:=Zd9 hD
 unfold Zea.f
 refine (DCheck D hD).bind (Tells.ifp rfl ?_)
 rw [Zqx _ (by omega)]
 refine (Tells.pure _).bind ?_
 rw [Zkq D]
 exact (Tells.pure _).bind (Tells.pure _)
theorem Zl5 (n:Int) (h1 : -9223372036854775808<=n) (h2:n<=9223372036854775807):Tells (fun k=>Zey.f k n) ((intD n).neg,limbs (intD n).n,(intD n).e):=by
 have hl:∀ v:Nat,v<=18446744073709551615->(limbs v).length<=256/\nd v<=2400:=fun v hv=>by
  have := Zmi (n:=v) (by omega)
  exact ⟨Ze5 (by omega),by omega⟩
 unfold Zey.f intD
 by_cases hn:n < 0
 ·obtain ⟨v,hv⟩:∃ v:Nat,n = -(v:Int):=⟨(-n).toNat,by omega⟩
  subst hv
  have e1:IntKind.u64.wrap (-(IntKind.u64.wrap (-(v:Int))))=(v:Int):=by simp [IntKind.wrap,IntKind.bits,IntKind.signed];omega
  rw [e1,Int.natAbs_neg,Int.natAbs_natCast,decide_eq_true hn]
  obtain ⟨h3,h4⟩:=hl v (by omega)
  exact Tells.ifp hn ((Zgg v (by omega)).bind ((Zeq true 0 h3 h4 (by omega) (by omega)).bind (Tells.pure _)))
 ·obtain ⟨v,rfl⟩:=Int.eq_ofNat_of_zero_le (show 0<=n by omega)
  rw [u64n (by omega),Int.natAbs_natCast,decide_eq_false hn]
  obtain ⟨h3,h4⟩:=hl v (by omega)
  exact Tells.ifn hn ((Zgg v (by omega)).bind ((Zeq false 0 h3 h4 (by omega) (by omega)).bind (Tells.pure _)))
end YtjbjkmccfocikaaGreatDoor.P
end
section
namespace YtjbjkmccfocikaaGreatDoor.B
open Go.RowKit YtjbjkmccfocikaaGreatDoorW.PrintWords YtjbjkmccfocikaaGreatDoorW.PrintLast YtjbjkmccfocikaaGreatDoorW.PrintMore
attribute [local go_sem] Zb3 Zb5 Zcp Zcq Zbs Zbt Zb4 Zb6
def Zae.f (a0:Int):Option (Int):=some a0
theorem Zae.calls (a0:Int) (r:Int) (w:World) (h:Zae.f a0=some r) :
  Calls Tryz.prog 47 #[.int .i64 a0] w fun e w'=>e=.returned (.int .i64 r)/\Drawn0 w w':=by
 have H:(some a0)=some r:=h
 clear h
 obtain rfl:=Option.some.inj H
 go_enter Tryz.func47,Tryz.ntmps47
 go_wp2
 go_ret
 exact ⟨pR,pD⟩
def Zd4.f (k:Nat) (a0:Int):Option (ByteArray):=(Zc6.f k (IntKind.u64.wrap (mx a0 (wrap64 (-a0))))).bind fun qb=>((Zaz.f k qb).bind fun qa=>((Zdb.f qa.1 qa.2).bind fun qc=>(some qc)))
theorem Zd4.calls (k:Nat) (a0:Int) (r:ByteArray) (w:World) (h:Zd4.f k a0=some r) :
  Calls Tryz.prog 170 #[.int .i64 a0] w fun e w'=>e=.returned (.string r)/\Below w.heap.size w w':=by
 have HB:=am (Below.refl w.heap.size w)
 have H:((Zc6.f k (IntKind.u64.wrap (mx a0 (wrap64 (-a0))))).bind fun qb=>((Zaz.f k qb).bind fun qa=>((Zdb.f qa.1 qa.2).bind fun qc=>(some qc))))=some r:=h
 clear h
 obtain ⟨ji2,hji2⟩:∃ j_:Int,(mx a0 (wrap64 (-a0)))=j_:=⟨_,rfl⟩
 replace H:((Zc6.f k (IntKind.u64.wrap (ji2))).bind fun qb=>((Zaz.f k qb).bind fun qa=>((Zdb.f qa.1 qa.2).bind fun qc=>(some qc))))=some r:=by first|(rw [hji2] at H;exact H)|(simp only [hji2] at H ⊢;exact H)
 have hji2_:(if a0 < (wrap64 (-a0)) then (wrap64 (-a0)) else a0)=ji2:=hji2
 obtain ⟨qb,A3,H⟩:=ob H
 obtain ⟨⟨qe,qf⟩,A4,H⟩:=ob H;(try dsimp only at H)
 obtain ⟨qc,A5,H⟩:=ob H
 obtain rfl:=Option.some.inj H
 go_enter Tryz.func170,Tryz.ntmps170
 go_wp2_with (first|((with_reducible refine Zfv (f:=76) rfl ?_);refine goesL_ (some 8) rfl rfl Tryz.func76 (by kernel_rfl) rfl #[.int .u64 (IntKind.u64.wrap (ji2))] rfl (by (try simp only [List.map_toArray,List.map_cons,List.map_nil]);first|done|(simp only [hji2];rfl)|rfl|(simp only [List.length_drop,List.length_take];rfl)) ?_;(with_reducible refine (Zc6.calls k (IntKind.u64.wrap (ji2)) qb _ A3.o).mono ?_);rintro e w6 ⟨qg,rfl,ho0,hb⟩;refine ⟨_,rfl,?_⟩;have qd:=am (Kd.Zt ho0 (Zb pB));replace HB:=bS hb;obtain ⟨Ao7,co7,eo7⟩:=Kd.Zm qd.o;subst eo7)|(refine gL (some 9) Tryz.func112 #[.slice Ao7 qb.length co7] (h:=?_);(with_reducible refine (Zaz.calls k (fun k_=>some k_=(.slice Ao7 qb.length co7:Value).ownBlock) _ _ qb qe qf _ ?side1 A4.o).mono ?_);(case side1=>exact Kd.R_V (Kd.Zbc rfl (qd.o)));rintro e w8 ⟨rfl,hb⟩;refine ⟨_,rfl,?_⟩;replace qd:=rbl qd hb;replace HB:=bS hb)|(refine gL (some 12) Tryz.func111 #[.string qe,.int .i64 qf] (h:=?_);(with_reducible refine (Zdb.calls qe qf qc _ A5.o).mono ?_);rintro e w' ⟨rfl,⟨nd,rfl⟩⟩;refine ⟨_,rfl,?_⟩))
 go_ret
 exact ⟨by first|rfl|(simp [Za6,Za7] <;> rfl)|(simp only [<- hji2];first|rfl|(simp [Za6,Za7] <;> rfl))|(simp [*,Za6,Za7] <;> rfl),pB⟩
def Zd2.j0:Nat->Int->ByteArray->Option (ByteArray)
 | 0,_,_=>none
 | k+1,x1,x5=>if x1 < 0 then (if x5.size+2<=9223372036854775807 then ((Zd4.f k x1).bind fun qa=>(if (x5++(⟨#[101,45]⟩:ByteArray)).size+qa.size<=9223372036854775807 then (some ((x5++(⟨#[101,45]⟩:ByteArray))++qa)) else (none))) else (none)) else (if x5.size+2<=9223372036854775807 then ((Zd4.f k x1).bind fun qb=>(if (x5++(⟨#[101,43]⟩:ByteArray)).size+qb.size<=9223372036854775807 then (some ((x5++(⟨#[101,43]⟩:ByteArray))++qb)) else (none))) else (none))
def Zd2.f (k:Nat) (a0:ByteArray) (a1:Int):Option (ByteArray):=if 0<=1 then (if 1<=(a0.size:Int) then (if (a0.size:Int) > 1 then (if 1+(a0.extract 1 a0.size).size<=9223372036854775807 then (if (a0.extract 0 1).size+((⟨#[46]⟩:ByteArray)++(a0.extract 1 a0.size)).size<=9223372036854775807 then (Zd2.j0 k a1 ((a0.extract 0 1)++((⟨#[46]⟩:ByteArray)++(a0.extract 1 a0.size)))) else (none)) else (none)) else (Zd2.j0 k a1 (a0.extract 0 1))) else (none)) else (none)
theorem Zd2.calls (k:Nat) (a0:ByteArray) (a1:Int) (r:ByteArray) (w:World) (h:Zd2.f k a0 a1=some r) :
  Calls Tryz.prog 145 #[.string a0,.int .i64 a1] w fun e w'=>e=.returned (.string r)/\Below w.heap.size w w':=by
 have HB:=am (Below.refl w.heap.size w)
 have H:(if 0<=1 then (if 1<=(a0.size:Int) then (if (a0.size:Int) > 1 then (if 1+(a0.extract 1 a0.size).size<=9223372036854775807 then (if (a0.extract 0 1).size+((⟨#[46]⟩:ByteArray)++(a0.extract 1 a0.size)).size<=9223372036854775807 then (Zd2.j0 k a1 ((a0.extract 0 1)++((⟨#[46]⟩:ByteArray)++(a0.extract 1 a0.size)))) else (none)) else (none)) else (Zd2.j0 k a1 (a0.extract 0 1))) else (none)) else (none))=some r:=h
 clear h
 replace H:=iI H
 rcases H with ⟨c3b0,c3b1,H⟩|⟨_,_,H⟩
 ·replace H:=iI H
  rcases H with ⟨c4b0,c4b1,H⟩|⟨_,_,H⟩
  ·have HC5:=am H
   clear H
   go_enter Tryz.func145,Tryz.ntmps145
   go_upto_if 10 with (fail)
   go_cut [5] (fun v5 wc => ∃ (kq:Nat) (x5_4:ByteArray),v5=.string x5_4/\Aside0 (Zd2.j0 kq a1 x5_4=some r)/\Aside0 (kq<=k)/\Aside0 (Below w.heap.size w wc))
   case first =>
    have H:=HC5.o
    clear HC5
    by_cases c6:(a0.size:Int) > 1
    ·rw [if_pos c6] at H
     have c6b0:decide (1 < (a0.size:Int))=true:=decide_eq_true c6
     have c6b1:decide (1 < a0.size)=true:=decide_eq_true (by omega)
     clear c6
     (first|rw [c6b0]|(simp only [Zc5,Zdv];rw [c6b0])|skip)
     have c7b0:=eq_true (of_decide_eq_true pQ:1<=(a0.size:Int))
     by_cases c8:1+(a0.extract 1 a0.size).size<=9223372036854775807
     ·rw [if_pos c8] at H
      have c8b0:=eq_true c8
      have c8b1:decide (1+(a0.extract 1 a0.size).size<=9223372036854775807)=true:=decide_eq_true c8
      try have c8b2:(9223372036854775807 < 1+(a0.extract 1 a0.size).size)=False:=eq_false (Nat.not_lt.2 c8)
      try have c8b3:(9223372036854775807 < 1+(a0.size - 1))=False:=eq_false (Nat.not_lt.2 (by have q_:=c8;(try have h0_:=of_decide_eq_true c3b1);(try have h1_:=of_decide_eq_true c4b1);simp only [ByteArray.size_append,ByteArray.size_extract] at q_;omega))
      by_cases c9:(a0.extract 0 1).size+((⟨#[46]⟩:ByteArray)++(a0.extract 1 a0.size)).size<=9223372036854775807
      ·rw [if_pos c9] at H
       have c9b0:=eq_true c9
       have c9b1:decide ((a0.extract 0 1).size+((⟨#[46]⟩:ByteArray)++(a0.extract 1 a0.size)).size<=9223372036854775807)=true:=decide_eq_true c9
       try have c9b2:(9223372036854775807 < (a0.extract 0 1).size+((⟨#[46]⟩:ByteArray)++(a0.extract 1 a0.size)).size)=False:=eq_false (Nat.not_lt.2 c9)
       try have c9b3:(9223372036854775807 < 1+(1+((a0.size - 1))))=False:=eq_false (Nat.not_lt.2 (by have q_:=c9;have l0_:(⟨#[46]⟩:ByteArray).size=1:=rfl;(try have h0_:=of_decide_eq_true c3b1);(try have h1_:=of_decide_eq_true c4b1);(try have h2_:=of_decide_eq_true c8b1);simp only [ByteArray.size_append,ByteArray.size_extract] at q_;omega))
       try have c9b4:(9223372036854775807 < min 1 a0.size+(1+((a0.size - 1))))=False:=eq_false (Nat.not_lt.2 (by have q_:=c9;have l0_:(⟨#[46]⟩:ByteArray).size=1:=rfl;(try have h0_:=of_decide_eq_true c3b1);(try have h1_:=of_decide_eq_true c4b1);(try have h2_:=of_decide_eq_true c8b1);simp only [ByteArray.size_append,ByteArray.size_extract] at q_;omega))
       have H':=am H
       clear H
       go_wp2
       go_meet
       case rel=>exact ⟨_,((a0.extract 0 1)++((⟨#[46]⟩:ByteArray)++(a0.extract 1 a0.size))),pR,H',pJ,⟨pB⟩⟩
      ·rw [if_neg c9] at H
       cases H
     ·rw [if_neg c8] at H
      cases H
    ·rw [if_neg c6] at H
     have c6b0:decide (1 < (a0.size:Int))=false:=decide_eq_false c6
     have c6b1:decide (1 < a0.size)=false:=decide_eq_false (by omega)
     clear c6
     (first|rw [c6b0]|(simp only [Zc5,Zdv];rw [c6b0])|skip)
     have H':=am H
     clear H
     go_wp2
     go_meet
     case rel=>exact ⟨_,(a0.extract 0 1),pR,H',pJ,⟨pB⟩⟩
   case rest =>
    clear HC5
    obtain ⟨kq,x5_4,rfl,HA,HJ4,HB⟩:=hcut
    cases kq with
    | zero=>exact absurd HA.out (by simp [Zd2.j0])
    | succ kj4 =>
     have H:=HA.out
     clear HA
     simp only [Zd2.j0] at H
     replace H:=dI H
     rcases H with ⟨c10b0,H⟩|⟨c10b0,H⟩
     ·by_cases c11:x5_4.size+2<=9223372036854775807
      ·rw [if_pos c11] at H
       have c11b0:=eq_true c11
       have c11b1:decide (x5_4.size+2<=9223372036854775807)=true:=decide_eq_true c11
       try have c11b2:(9223372036854775807 < x5_4.size+2)=False:=eq_false (Nat.not_lt.2 c11)
       replace H:=ob H
       obtain ⟨qa,A12,H⟩:=H
       by_cases c13:(x5_4++(⟨#[101,45]⟩:ByteArray)).size+qa.size<=9223372036854775807
       ·rw [if_pos c13] at H
        have c13b0:=eq_true c13
        have c13b1:decide ((x5_4++(⟨#[101,45]⟩:ByteArray)).size+qa.size<=9223372036854775807)=true:=decide_eq_true c13
        try have c13b2:(9223372036854775807 < (x5_4++(⟨#[101,45]⟩:ByteArray)).size+qa.size)=False:=eq_false (Nat.not_lt.2 c13)
        try have c13b3:(9223372036854775807 < x5_4.size+2+qa.size)=False:=eq_false (Nat.not_lt.2 (by have q_:=c13;have l0_:(⟨#[101,45]⟩:ByteArray).size=2:=rfl;(try have h0_:=of_decide_eq_true c11b1);simp only [ByteArray.size_append,ByteArray.size_extract] at q_;omega))
        obtain rfl:=Option.some.inj H
        go_wp2_with (first|(refine gL (some 21) Tryz.func170 #[.int .i64 a1] (h:=?_);(with_reducible refine (Zd4.calls kj4 a1 qa _ A12.o).mono ?_);rintro e w14 ⟨rfl,hb⟩;refine ⟨_,rfl,?_⟩;replace HB:=bS hb))
        go_ret
        exact ⟨pE,pB⟩
       ·rw [if_neg c13] at H
        cases H
      ·rw [if_neg c11] at H
       cases H
     ·by_cases c15:x5_4.size+2<=9223372036854775807
      ·rw [if_pos c15] at H
       have c15b0:=eq_true c15
       have c15b1:decide (x5_4.size+2<=9223372036854775807)=true:=decide_eq_true c15
       try have c15b2:(9223372036854775807 < x5_4.size+2)=False:=eq_false (Nat.not_lt.2 c15)
       replace H:=ob H
       obtain ⟨qb,A16,H⟩:=H
       by_cases c17:(x5_4++(⟨#[101,43]⟩:ByteArray)).size+qb.size<=9223372036854775807
       ·rw [if_pos c17] at H
        have c17b0:=eq_true c17
        have c17b1:decide ((x5_4++(⟨#[101,43]⟩:ByteArray)).size+qb.size<=9223372036854775807)=true:=decide_eq_true c17
        try have c17b2:(9223372036854775807 < (x5_4++(⟨#[101,43]⟩:ByteArray)).size+qb.size)=False:=eq_false (Nat.not_lt.2 c17)
        try have c17b3:(9223372036854775807 < x5_4.size+2+qb.size)=False:=eq_false (Nat.not_lt.2 (by have q_:=c17;have l0_:(⟨#[101,43]⟩:ByteArray).size=2:=rfl;(try have h0_:=of_decide_eq_true c11b1);(try have h1_:=of_decide_eq_true c13b1);(try have h2_:=of_decide_eq_true c15b1);simp only [ByteArray.size_append,ByteArray.size_extract] at q_;omega))
        obtain rfl:=Option.some.inj H
        go_wp2_with (first|(refine gL (some 26) Tryz.func170 #[.int .i64 a1] (h:=?_);(with_reducible refine (Zd4.calls kj4 a1 qb _ A16.o).mono ?_);rintro e w18 ⟨rfl,hb⟩;refine ⟨_,rfl,?_⟩;replace HB:=bS hb))
        go_ret
        exact ⟨pE,pB⟩
       ·rw [if_neg c17] at H
        cases H
      ·rw [if_neg c15] at H
       cases H
  ·cases H
 ·cases H
end YtjbjkmccfocikaaGreatDoor.B
end
section
namespace YtjbjkmccfocikaaGreatDoor.B
open Go.RowKit Go.Shelf YtjbjkmccfocikaaGreatDoorW.PrintWords
def strings_Repeat.f (a0:ByteArray) (a1:Int):Option ByteArray:=if 0<=a1/\a1<=9223372036854775807/\a0.size*a1.toNat<=140737488355328 then some ⟨(Lib.repeatL a0.data.toList a1.toNat).toArray⟩ else none
theorem strings_Repeat.calls (a0:ByteArray) (a1:Int) (r:ByteArray) (w:World) (h:strings_Repeat.f a0 a1=some r) :
  Calls Tryz.prog 146 #[.string a0,.int .i64 a1] w fun e w'=>e=.returned (.string r)/\Below w.heap.size w w':=by
 unfold strings_Repeat.f at h
 split at h
 ·obtain rfl:=Option.some.inj h
  have hc:0<=a1/\a1<=9223372036854775807/\a0.size*a1.toNat<=140737488355328:=by assumption
  obtain ⟨n,rfl⟩:=Int.eq_ofNat_of_zero_le hc.1
  exact Tryz.strings_Repeat a0 n w (by omega) (by simpa using hc.2.2)
 ·cases h
theorem Zgz (b o j:Nat):(⟨b,o,none⟩:Addr).add j=⟨b,o+j,none⟩:=by unfold Addr.add;split <;> simp_all
end YtjbjkmccfocikaaGreatDoor.B
end
end Go.Proofs
