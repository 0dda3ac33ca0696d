/- QuotNear, part 6 of 8 of its proof (no condition); names with a low line are shortened throughout. -/
import Derived.Test.YtjbjkmccfocikaaGreatDoorZQuotNear4
import Derived.KernelRfl
set_option linter.unusedVariables false
set_option linter.unusedSimpArgs false
set_option maxRecDepth 100000
set_option maxHeartbeats 8000000
namespace Go.Proofs
section
namespace YtjbjkmccfocikaaGreatDoor.B
open Go.RowKit YtjbjkmccfocikaaGreatDoorW.PrintWords YtjbjkmccfocikaaGreatDoorW.PrintLast YtjbjkmccfocikaaGreatDoorW.PrintMore
attribute [local go_sem] Zb7 Zb9 Zcr Zcs Zbp Zbq Zb8 Zca
def Zbu.f (k:Nat) (a0_0:Bool) (l0_1:List Int) (a0_2:Int) (a1_0:Bool) (l1_1:List Int) (a1_2:Int):Option (Bool × List Int × Int × Int):=(Zes.f k (([(⟨a0_0,l0_1,a0_2⟩:S24),(⟨a1_0,l1_1,a1_2⟩:S24)]:List (S24)))).bind fun q1=>(if q1=0 then (if (l1_1.length:Int)=0 then (some (false,([]:List Int),0,53)) else ((Zbz.f k l1_1).bind fun ja=>((Zbz.f k l0_1).bind fun jb=>((Zbs.f k (mx (wrap64 ((wrap64 ((wrap64 (ja - jb))+40))+2)) 0)).bind fun qq=>((Zc2.f k l0_1 qq).bind fun q5=>((Zp.f q5.1 q5.2).bind fun qy=>((Zdi.f k qy l1_1).bind fun q6=>((Zco.f k q6.1 40).bind fun qc=>((Zbk.f k qc.1 qc.2.1 qc.2.2 (decide ((q6.2.1.length:Int) > 0))).bind fun jl=>(if jl=true then ((Zcj.f k 1).bind fun qv=>((Zed.f k qc.1 qv).bind fun qx=>((Zp.f qx.1 qx.2).bind fun jh=>((Zaq.f k (a0_0 != a1_0) jh (wrap64 ((wrap64 ((wrap64 (a0_2 - a1_2)) - (mx (wrap64 ((wrap64 ((wrap64 (ja - jb))+40))+2)) 0)))+qc.2.2))).bind fun qk=>(some (qk.1,qk.2.1,qk.2.2.1,qk.2.2.2)))))) else ((Zaq.f k (a0_0 != a1_0) qc.1 (wrap64 ((wrap64 ((wrap64 (a0_2 - a1_2)) - (mx (wrap64 ((wrap64 ((wrap64 (ja - jb))+40))+2)) 0)))+qc.2.2))).bind fun ql=>(some (ql.1,ql.2.1,ql.2.2.1,ql.2.2.2))))))))))))) else (some (false,([]:List Int),0,q1)))
def Zbu.T6:Bool × List (List Nat × List Nat):=(true,[([],[]),([0],[0]),([1],[1]),([],[]),([3],[3]),([4,2],[4]),([2,5],[2,5]),([6],[6]),([7],[7]),([8],[8]),([9,5,0,1,2,3,4,5,6,7,8,9],[9])])
def Zbu.B6:List Nat:=[0,1,3,0,8,31,63,127,255,511,1023]
theorem Zbu.tab6:rtab .any (opsOf Tryz.f19 6)=Zbu.T6:=by kernel_rfl
theorem Zbu.bits6:waitsOk Zbu.T6.2 Zbu.B6=true:=by kernel_rfl
def Zbu.T7:Bool × List (List Nat × List Nat):=(true,[([],[]),([0],[0]),([],[]),([2],[2]),([1,3,3],[1,3]),([4],[4]),([4],[4]),([5,6,4],[5,6]),([],[]),([8],[8]),([7,9,7],[7,9]),([10],[10]),([11],[11]),([11],[11]),([11],[11]),([12,10,0,1,2,3,4,5,6,7,8,9,10,11,12],[12]),([13,15,0,1,2,3,4,5,6,7,8,9,10,11,12,13,15],[13]),([14,16,0,1,2,3,4,5,6,7,8,9,10,11,12,13,14,15,16],[14])])
def Zbu.B7:List Nat:=[0,1,0,4,15,31,31,127,0,256,1023,2047,4095,4095,4095,8191,49151,131071]
theorem Zbu.tab7:rtab .any (opsOf Tryz.f19 7)=Zbu.T7:=by kernel_rfl
theorem Zbu.bits7:waitsOk Zbu.T7.2 Zbu.B7=true:=by kernel_rfl
theorem Zbu.leaf {P:Prop} (h:P:=by
 go_enter Tryz.func19,Tryz.ntmps19
 try go_wp2_with (first|((with_reducible refine gd 2 ?_);refine bx 2 #[.bool a0_0,.slice A0_1 l0_1.length c0_1,.int .i64 a0_2] 24 (h:=?_);intro gb0z hg w1z hbox hb;have BK2z:=am hbox;have GW3z:=gW hg;replace HO0_1:=vE HO0_1 gb0z hg hb;replace HO1_1:=vE HO1_1 gb0z hg hb;replace HB:=bS hb;clear hb hbox hg)|((with_reducible refine gd 3 ?_);refine bx 3 #[.bool a1_0,.slice A1_1 l1_1.length c1_1,.int .i64 a1_2] 24 (h:=?_);intro gb5z hg w6z hbox hb;have BK7z:=am hbox;have GW8z:=gW hg;have qay:=nL hg BK2z;have qaz:=nG hg BK2z;replace HO0_1:=vE HO0_1 gb5z hg hb;replace HO1_1:=vE HO1_1 gb5z hg hb;replace BK2z:=bb BK2z hb;replace HB:=bS hb;clear hb hbox hg)|((with_reducible refine gd 4 ?_);refine bx 4 #[.bool false,.slice none 0 0,.int .i64 0] 24 (h:=?_);intro qj hg w13z hbox hb;have qa:=am hbox;have qbi:=gW hg;have qa0:=nL hg BK2z;have qa1:=nG hg BK2z;have qa2:=nL hg BK7z;have qa3:=nG hg BK7z;replace HO0_1:=vE HO0_1 qj hg hb;replace HO1_1:=vE HO1_1 qj hg hb;replace BK2z:=bb BK2z hb;replace BK7z:=bb BK7z hb;replace HB:=bS hb;clear hb hbox hg;have qa9:=qay.o;have qbc:=qaz.o;have qba:=qa0.o;have qbd:=qa1.o;obtain ⟨_,_,_,_,_,_⟩:=cEc BK2z.o;have qbb:=qa2.o;have qbe:=qa3.o;obtain ⟨_,_,_,_,_,_⟩:=cEc BK7z.o)|((with_reducible refine gd 16 ?_);refine Kd.Zs2 k24 _ 24 ?hg (N':=16) ?hd (xs:=([(⟨a0_0,l0_1,a0_2⟩:S24),(⟨a1_0,l1_1,a1_2⟩:S24)]:List (S24))) (inner:=[.bool a0_0,.slice A0_1 l0_1.length c0_1,.int .i64 a0_2,.bool a1_0,.slice A1_1 l1_1.length c1_1,.int .i64 a1_2]) (ok:=(fun k_=>((P0_1_ k_\/P1_1_ k_)\/w.heap.size<=k_)/\k_ ≠ gb0z/\k_ ≠ gb5z/\k_ ≠ qj)) (okp:=(fun k_=>((P0_1_ k_\/P1_1_ k_)\/w.heap.size<=k_)/\k_ ≠ gb0z/\k_ ≠ gb5z/\k_ ≠ qj)) ?hr ?hp (fun _ hk=>hk) ((show ∀ k_,w13z.heap.size<=k_->(fun k_=>((P0_1_ k_\/P1_1_ k_)\/w.heap.size<=k_)/\k_ ≠ gb0z/\k_ ≠ gb5z/\k_ ≠ qj) k_ from fun k_ hk=>⟨(.inr (Nat.le_trans (Zd pB) hk)),Kd.freshB (g:=gb0z) (o:=.cells #[.bool a0_0,.slice A0_1 l0_1.length c0_1,.int .i64 a0_2] 24 (0,0)) (Zb BK2z.o pl) k_ hk,Kd.freshB (g:=gb5z) (o:=.cells #[.bool a1_0,.slice A1_1 l1_1.length c1_1,.int .i64 a1_2] 24 (0,0)) (Zb BK7z.o pl) k_ hk,Kd.freshB (g:=qj) (o:=.cells #[.bool false,.slice none 0 0,.int .i64 0] 24 (0,0)) (Zb qa.o pl) k_ hk⟩) _ (Nat.le_refl _)) (Below.refl _ _) (Nat.le_refl _) (by simp) ?_;(case hd=>rfl);(case hg=>rfl);(case hr=>first|(go_simp;done)|(go_simp;rfl));(case hp=>exact (Reps.c3 (show Kd.FK k24 _ _ (⟨a0_0,l0_1,a0_2⟩:S24) [.bool a0_0,.slice A0_1 l0_1.length c0_1,.int .i64 a0_2] from (Zoe _ _ (⟨a0_0,l0_1,a0_2⟩:S24) (Kd.Zci (Kd.Zdu (ok':=(fun k_=>((P0_1_ k_\/P1_1_ k_)\/w.heap.size<=k_)/\k_ ≠ gb0z/\k_ ≠ gb5z/\k_ ≠ qj)) (HO0_1.o) (fun k_ hk=>⟨hk.1.1.1,⟨hk.1.1.2,⟨hk.1.2,hk.2⟩⟩⟩))).2.1 (Kd.V_F (Kd.Zdu (ok':=(fun k_=>((P0_1_ k_\/P1_1_ k_)\/w.heap.size<=k_)/\k_ ≠ gb0z/\k_ ≠ gb5z/\k_ ≠ qj)) (HO0_1.o) (fun k_ hk=>⟨hk.1.1.1,⟨hk.1.1.2,⟨hk.1.2,hk.2⟩⟩⟩))))) (Reps.c3 (show Kd.FK k24 _ _ (⟨a1_0,l1_1,a1_2⟩:S24) [.bool a1_0,.slice A1_1 l1_1.length c1_1,.int .i64 a1_2] from (Zoe _ _ (⟨a1_0,l1_1,a1_2⟩:S24) (Kd.Zci (Kd.Zdu (ok':=(fun k_=>((P0_1_ k_\/P1_1_ k_)\/w.heap.size<=k_)/\k_ ≠ gb0z/\k_ ≠ gb5z/\k_ ≠ qj)) (HO1_1.o) (fun k_ hk=>⟨hk.1.1.1,⟨hk.1.1.2,⟨hk.1.2,hk.2⟩⟩⟩))).2.1 (Kd.V_F (Kd.Zdu (ok':=(fun k_=>((P0_1_ k_\/P1_1_ k_)\/w.heap.size<=k_)/\k_ ≠ gb0z/\k_ ≠ gb5z/\k_ ≠ qj)) (HO1_1.o) (fun k_ hk=>⟨hk.1.1.1,⟨hk.1.1.2,⟨hk.1.2,hk.2⟩⟩⟩))))) (Reps.none _ _))));intro v39z w40z ho41z hb hg_ hnew_;clear hg_ hnew_;(first|rw [<- qac.out] at ho41z|(simp only [Int.reduceToNat] at ho41z;rw [<- qac.out] at ho41z));replace HO0_1:=am (Kd.Zdh (Kd.Zcq HO0_1.o pl) (Kd.Zqk ho41z) hb);replace HO1_1:=am (Kd.Zdh (Kd.Zcq HO1_1.o pl) (Kd.Zqk ho41z) hb);have qb:=am (Kd.Zq4 ho41z (Zd pB));replace BK2z:=bb BK2z hb;replace BK7z:=bb BK7z hb;replace qa:=bb qa hb;replace HB:=bS hb;clear hb ho41z;obtain ⟨ji,jk,qa4⟩:=Kd.Zq5 qb.o;subst qa4)|((have q_:((l1_1.length:Int) != 0)=false:=c5b1;clear q_);refine gL (some 17) Tryz.func67 #[.slice ji jm.length jk] (h:=?_);(with_reducible refine (Zes.calls k _ _ jm q1 _ ?side1 ?side2 A3.o).mono ?_);(case side1=>exact Kd.Zn (Kd.Zfm qb.o).2.2 pl);(case side2=>exact (Kd.Zfm qb.o).2.1);rintro e w46z ⟨rfl,hb⟩;refine ⟨_,rfl,?_⟩;replace HO0_1:=vbl HO0_1 hb;replace HO1_1:=vbl HO1_1 hb;replace qb:=nbl qb hb;replace BK2z:=bb BK2z hb;replace BK7z:=bb BK7z hb;replace qa:=bb qa hb;replace HB:=bS hb;obtain ⟨jx,jy,jz,j0,j1,j2⟩:=cEc BK7z.o;obtain ⟨_,_,_,_,_,_⟩:=cEc qa.o)|((have q_:=A28;clear q_);refine gL (some 17) Tryz.func67 #[.slice ji jm.length jk] (h:=?_);(with_reducible refine (Zes.calls k _ _ jm q1 _ ?side1 ?side2 A3.o).mono ?_);(case side1=>exact Kd.Zn (Kd.Zfm qb.o).2.2 pl);(case side2=>exact (Kd.Zfm qb.o).2.1);rintro e w46z ⟨rfl,hb⟩;refine ⟨_,rfl,?_⟩;replace HO0_1:=vbl HO0_1 hb;replace HO1_1:=vbl HO1_1 hb;replace qb:=nbl qb hb;replace BK2z:=bb BK2z hb;replace BK7z:=bb BK7z hb;replace qa:=bb qa hb;replace HB:=bS hb;obtain ⟨jx,jy,jz,j0,j1,j2⟩:=cEc BK7z.o)|((have q_:(q1 != 0)=true:=c4b1;clear q_);refine gL (some 17) Tryz.func67 #[.slice ji jm.length jk] (h:=?_);(with_reducible refine (Zes.calls k _ _ jm q1 _ ?side1 ?side2 A3.o).mono ?_);(case side1=>exact Kd.Zn (Kd.Zfm qb.o).2.2 pl);(case side2=>exact (Kd.Zfm qb.o).2.1);rintro e w46z ⟨rfl,hb⟩;refine ⟨_,rfl,?_⟩;replace HO0_1:=vbl HO0_1 hb;replace HO1_1:=vbl HO1_1 hb;replace qb:=nbl qb hb;replace BK2z:=bb BK2z hb;replace BK7z:=bb BK7z hb;replace qa:=bb qa hb;replace HB:=bS hb;obtain ⟨jx,jy,jz,j0,j1,j2⟩:=cEc qa.o))
 first
  | have q_:=A28
    replace HO0_1:=am (Kd.Zls HO0_1.o)
    replace HO1_1:=am (Kd.Zls HO1_1.o)
    replace qb:=am (Kd.Zql qb.o)
    replace BK2z:=am (Zar BK2z.o)
    replace BK7z:=am (Zar BK7z.o)
    replace qa:=am (Zar qa.o)
    replace HB:=am (Zav HB.o)
    refine start_ (n:=11) (S:=fun w'=>w'.cell? ⟨gb5z,0,none⟩=some (.bool a1_0)/\w'.cell? ⟨gb5z,1,none⟩=some (.slice A1_1 l1_1.length c1_1)/\w'.cell? ⟨gb5z,2,none⟩=some (.int .i64 a1_2)/\w'.cell? ⟨gb0z,0,none⟩=some (.bool a0_0)/\w'.cell? ⟨gb0z,1,none⟩=some (.slice A0_1 l0_1.length c0_1)/\w'.cell? ⟨gb0z,2,none⟩=some (.int .i64 a0_2)) (ds:=[]) #[false,false,false,false,false,false,false,false,false,false,false] (by kernel_rfl) rfl rfl ⟨k0 BK7z 0,k0 BK7z 1,k0 BK7z 2,k0 BK2z 0,k0 BK2z 1,k0 BK2z 2⟩ (fun hHeld=>?_);refine Zb6 Zbu.tab6 Zbu.bits6 (fun HT_ HW_=>?_)
    generalize w46z.drew=w53z at HO0_1 HO1_1 qb BK2z BK7z qa HB hHeld ⊢
    refine pu 0 (some 27) #[true,false,false,false,false,false,false,false,false,false,false] (h:=?_)
    refine pu 3 (some 30) #[true,false,false,true,false,false,false,false,false,false,false] (h:=?_)
    refine take_ (i:=1) (N:=some 28) (v:=?_) (a':=?_) #[true,true,false,true,false,false,false,false,false,false,false] rfl rfl (Zay HT_.out HW_.out (by kernel_rfl)) (fun _ _ _ h=>h) (Or.inl ⟨by rfl,?_⟩) hHeld ?_ ?_
    rotate_left
    ·rintro w' ⟨s54z,s55z,s56z,s57z,s58z,s59z⟩
     go_simp
     with_reducible rfl
    rotate_left
    ·exact pP
    refine take_ (i:=4) (N:=some 31) (v:=?_) (a':=?_) #[true,true,false,true,true,false,false,false,false,false,false] rfl rfl (Zay HT_.out HW_.out (by kernel_rfl)) (fun _ _ _ h=>h) (Or.inl ⟨by rfl,?_⟩) hHeld ?_ ?_
    rotate_left
    ·rintro w' ⟨s54z,s55z,s56z,s57z,s58z,s59z⟩
     go_simp
     with_reducible rfl
    rotate_left
    ·exact pP
    refine one_ (i:=2) (N:=some 29) #[true,true,true,true,true,false,false,false,false,false,false] rfl rfl (Zbh HT_.out (by kernel_rfl)) (by decide) (fun K hK=>?_)
    refine goes_ Tryz.func68 (by kernel_rfl) rfl #[.slice A1_1 l1_1.length c1_1] (by rfl) rfl rfl pA ?_
    with_reducible refine (Zbz.calls k _ _ l1_1 ja _ ?side1 ?side2 A20.o).mono ?_
    (case side1=>exact Kd.Zn (Kd.Zci HO1_1.o).2.2 pl)
    (case side2=>exact (Kd.Zci HO1_1.o).2.1)
    rintro e w60z ⟨rfl,hb⟩
    refine ⟨_,rfl,?_⟩
    replace HO0_1:=vbl HO0_1 hb
    replace HO1_1:=vbl HO1_1 hb
    replace qb:=nbl qb hb
    replace BK2z:=bb BK2z hb
    replace BK7z:=bb BK7z hb
    replace qa:=bb qa hb
    replace HB:=bS hb
    refine hK.out _ _ ⟨k0 BK7z 0,k0 BK7z 1,k0 BK7z 2,k0 BK2z 0,k0 BK2z 1,k0 BK2z 2⟩ (fun hHeld=>?_)
    clear hK K
    refine norm_ (a':=?_) ?_ ?_
    rotate_left
    ·show Act.put _ (some 29) _=_
     exact pP
    refine one_ (i:=5) (N:=some 32) #[true,true,true,true,true,true,false,false,false,false,false] rfl rfl (Zbh HT_.out (by kernel_rfl)) (by decide) (fun K hK=>?_)
    refine goes_ Tryz.func68 (by kernel_rfl) rfl #[.slice A0_1 l0_1.length c0_1] (by rfl) rfl rfl pA ?_
    with_reducible refine (Zbz.calls k _ _ l0_1 jb _ ?side1 ?side2 A21.o).mono ?_
    (case side1=>exact Kd.Zn (Kd.Zci HO0_1.o).2.2 pl)
    (case side2=>exact (Kd.Zci HO0_1.o).2.1)
    rintro e w61z ⟨rfl,hb⟩
    refine ⟨_,rfl,?_⟩
    replace HO0_1:=vbl HO0_1 hb
    replace HO1_1:=vbl HO1_1 hb
    replace qb:=nbl qb hb
    replace BK2z:=bb BK2z hb
    replace BK7z:=bb BK7z hb
    replace qa:=bb qa hb
    replace HB:=bS hb
    refine hK.out _ _ ⟨k0 BK7z 0,k0 BK7z 1,k0 BK7z 2,k0 BK2z 0,k0 BK2z 1,k0 BK2z 2⟩ (fun hHeld=>?_)
    clear hK K
    refine norm_ (a':=?_) ?_ ?_
    rotate_left
    ·show Act.put _ (some 32) _=_
     exact pP
    refine pu 6 (some 33) #[true,true,true,true,true,true,true,false,false,false,false] (h:=?_)
    refine pu 7 (some 34) #[true,true,true,true,true,true,true,true,false,false,false] (h:=?_)
    refine pu 8 (some 35) #[true,true,true,true,true,true,true,true,true,false,false] (h:=?_)
    refine pu 9 (some 36) #[true,true,true,true,true,true,true,true,true,true,false] (h:=?_)
    refine pu 10 (some 7) #[true,true,true,true,true,true,true,true,true,true,true] (h:=?_)
    refine done_ (Zde HT_.out (by kernel_rfl)) ?_
    try go_wp2
    replace HO0_1:=am (Kd.Zls HO0_1.o)
    replace HO1_1:=am (Kd.Zls HO1_1.o)
    replace qb:=am (Kd.Zql qb.o)
    replace BK2z:=am (Zar BK2z.o)
    replace BK7z:=am (Zar BK7z.o)
    replace qa:=am (Zar qa.o)
    replace HB:=am (Zav HB.o)
    refine start_ (n:=18) (S:=fun w'=>w'.cell? ⟨gb0z,0,none⟩=some (.bool a0_0)/\w'.cell? ⟨gb0z,1,none⟩=some (.slice A0_1 l0_1.length c0_1)/\w'.cell? ⟨gb0z,2,none⟩=some (.int .i64 a0_2)/\w'.cell? ⟨gb5z,0,none⟩=some (.bool a1_0)/\w'.cell? ⟨gb5z,1,none⟩=some (.slice A1_1 l1_1.length c1_1)/\w'.cell? ⟨gb5z,2,none⟩=some (.int .i64 a1_2)) (ds:=[]) #[false,false,false,false,false,false,false,false,false,false,false,false,false,false,false,false,false,false] (by kernel_rfl) rfl rfl ⟨k0 BK2z 0,k0 BK2z 1,k0 BK2z 2,k0 BK7z 0,k0 BK7z 1,k0 BK7z 2⟩ (fun hHeld=>?_);refine Zb6 Zbu.tab7 Zbu.bits7 (fun HT_ HW_=>?_)
    generalize w61z.drew=w62z at HO0_1 HO1_1 qb BK2z BK7z qa HB hHeld ⊢
    refine pu 0 (some 38) #[true,false,false,false,false,false,false,false,false,false,false,false,false,false,false,false,false,false] (h:=?_)
    refine pu 2 (some 40) #[true,false,true,false,false,false,false,false,false,false,false,false,false,false,false,false,false,false] (h:=?_)
    refine pu 8 (some 46) #[true,false,true,false,false,false,false,false,true,false,false,false,false,false,false,false,false,false] (h:=?_)
    refine take_ (i:=1) (N:=some 39) (v:=?_) (a':=?_) #[true,true,true,false,false,false,false,false,true,false,false,false,false,false,false,false,false,false] rfl rfl (Zay HT_.out HW_.out (by kernel_rfl)) (fun _ _ _ h=>h) (Or.inl ⟨by rfl,?_⟩) hHeld ?_ ?_
    rotate_left
    ·rintro w' ⟨s54z,s55z,s56z,s57z,s58z,s59z⟩
     go_simp
     with_reducible rfl
    rotate_left
    ·exact pP
    refine take_ (i:=9) (N:=some 47) (v:=?_) (a':=?_) #[true,true,true,false,false,false,false,false,true,true,false,false,false,false,false,false,false,false] rfl rfl (Zay HT_.out HW_.out (by kernel_rfl)) (fun _ _ _ h=>h) (Or.inl ⟨by rfl,?_⟩) hHeld ?_ ?_
    rotate_left
    ·rintro w' ⟨s54z,s55z,s56z,s57z,s58z,s59z⟩
     go_simp
     with_reducible rfl
    rotate_left
    ·exact pP
    refine one_ (i:=3) (N:=some 41) #[true,true,true,true,false,false,false,false,true,true,false,false,false,false,false,false,false,false] rfl rfl (Zbh HT_.out (by kernel_rfl)) (by decide) (fun K hK=>?_)
    refine goes_ Tryz.func72 (by kernel_rfl) rfl #[.int .i64 ji22] (by rfl) rfl rfl (by (try simp only [List.map_toArray,List.map_cons,List.map_nil]);first|done|(simp only [hji22];rfl)|rfl|(simp only [List.length_drop,List.length_take];rfl)) ?_
    with_reducible refine (Zbs.calls k ji22 qq _ A23.o).mono ?_
    rintro e w63z ⟨v64z,rfl,ho65z,hb⟩
    refine ⟨_,rfl,?_⟩
    replace HO0_1:=am (Kd.Zdh (Kd.Zcq HO0_1.o pl) (Kd.Zaz ho65z) hb)
    replace HO1_1:=am (Kd.Zdh (Kd.Zcq HO1_1.o pl) (Kd.Zaz ho65z) hb)
    replace qb:=am (Kd.Zfl (Kd.Zd3 qb.o pl) (Kd.Zaz ho65z) hb)
    have qd:=am (Kd.Zo (Kd.Zex (M:=fun k_=>(w.heap.size<=k_)) ho65z (Zd pB) (fun k_ h_=>h_)) (Zd pB))
    replace BK2z:=bb BK2z hb
    replace BK7z:=bb BK7z hb
    replace qa:=bb qa hb
    replace HB:=bS hb
    obtain ⟨qs,qu,qad⟩:=Kd.Zj qd.o
    (first|subst qad|(injection qad with f1_ f2_ f3_;have f4_:=f1_.symm;have f5_:=f3_.symm;clear f1_ f2_ f3_;subst f4_;subst f5_))
    refine hK.out _ _ ⟨k0 BK2z 0,k0 BK2z 1,k0 BK2z 2,k0 BK7z 0,k0 BK7z 1,k0 BK7z 2⟩ (fun hHeld=>?_)
    clear hK K
    refine norm_ (a':=?_) ?_ ?_
    rotate_left
    ·show Act.put _ (some 41) _=_
     exact pP
    refine one_ (i:=4) (N:=some 42) #[true,true,true,true,true,false,false,false,true,true,false,false,false,false,false,false,false,false] rfl rfl (Zbh HT_.out (by kernel_rfl)) (by decide) (fun K hK=>?_)
    refine goes_ Tryz.func71 (by kernel_rfl) rfl #[.slice A0_1 l0_1.length c0_1,.slice qs qq.length qu] (by rfl) rfl rfl pA ?_
    with_reducible refine (Zc2.calls k _ _ l0_1 _ _ qq j4 qap _ ?side1 ?side2 ?side3 ?side4 A24.o).mono ?_
    (case side1=>exact Kd.Zn (Kd.Zci HO0_1.o).2.2 pl)
    (case side2=>exact (Kd.Zci HO0_1.o).2.1)
    (case side3=>exact Kd.Zn (Kd.Zc qd.o).2.2 pl)
    (case side4=>exact (Kd.Zc qd.o).2.1)
    rintro e w70z ⟨v71z,rfl,ho65z,hb⟩
    refine ⟨_,rfl,?_⟩
    have jj:=am (Kd.Zo (Kd.Zs (Kd.Zex (M:=fun k_=>(w.heap.size<=k_)) ho65z (Zd pB) (fun k_ h_=>h_)) (Kd.R_lt (Kd.Za qd.o pl))) (Zd pB))
    replace HO0_1:=am (Kd.Zdh (Kd.Zcq HO0_1.o pl) (Kd.Zaz ho65z) hb)
    replace HO1_1:=am (Kd.Zdh (Kd.Zcq HO1_1.o pl) (Kd.Zaz ho65z) hb)
    replace qb:=am (Kd.Zfl (Kd.Zd3 qb.o pl) (Kd.Zaz ho65z) hb)
    replace qd:=reR qd ho65z hb
    replace BK2z:=bb BK2z hb
    replace BK7z:=bb BK7z hb
    replace qa:=bb qa hb
    replace HB:=bS hb
    obtain ⟨js,jw,qae⟩:=Kd.Zj jj.o
    (first|subst qae|(injection qae with f1_ f2_ f3_;have f4_:=f1_.symm;have f5_:=f3_.symm;clear f1_ f2_ f3_;subst f4_;subst f5_))
    refine hK.out _ _ ⟨k0 BK2z 0,k0 BK2z 1,k0 BK2z 2,k0 BK7z 0,k0 BK7z 1,k0 BK7z 2⟩ (fun hHeld=>?_)
    clear hK K
    refine norm_ (a':=?_) ?_ ?_
    rotate_left
    ·show Act.put _ (some 42) _=_
     exact pP
    refine pu 5 (some 43) #[true,true,true,true,true,true,false,false,true,true,false,false,false,false,false,false,false,false] (h:=?_)
    refine pu 6 (some 44) #[true,true,true,true,true,true,true,false,true,true,false,false,false,false,false,false,false,false] (h:=?_)
    refine one_ (i:=7) (N:=some 45) #[true,true,true,true,true,true,true,true,true,true,false,false,false,false,false,false,false,false] rfl rfl (Zbh HT_.out (by kernel_rfl)) (by decide) (fun K hK=>?_)
    refine goes_ Tryz.func70 (by kernel_rfl) rfl #[.slice js j4.length jw,.int .i64 qap] (by rfl) rfl rfl pA ?_
    with_reducible refine (Zp.calls (fun k_=>some k_=(.slice js j4.length jw:Value).ownBlock) (.slice js j4.length jw) j4 qap qy w _ ?side1 ?side2 A25.o).mono ?_
    (case side1=>exact pB)
    (case side2=>exact Kd.Zbj rfl jj.o)
    rintro e w76z ⟨v77z,rfl,ho65z,hb,hkp⟩
    refine ⟨_,rfl,?_⟩
    have qe:=am (Kd.Zh (ok':=fun k_=>(w.heap.size<=k_)/\some k_ ≠ (.slice qs qq.length qu:Value).ownBlock) ho65z (fun k_ hk_=>⟨Or.elim hk_ (fun hs_=>(jj.o.1 k_ (hs_).symm).1.1) (fun hn_=>(Nat.le_trans (Zd pB) hn_)),Or.elim hk_ (fun hs_=>fun e_=>(((qd.o).1 k_ e_.symm).2) hs_) (fun hn_=>(Kd.fresh' (Kd.R_lt (Kd.Za qd.o pl)) k_ hn_))⟩))
    replace HO0_1:=am (Kd.Zdu (ok':=fun k_=>((P0_1_ k_\/P1_1_ k_)\/w.heap.size<=k_)/\some k_ ≠ (.slice ji jm.length jk:Value).ownBlock/\some k_ ≠ (.slice qs qq.length qu:Value).ownBlock/\k_ ≠ gb0z/\k_ ≠ gb5z/\k_ ≠ qj/\some k_ ≠ (v77z:Value).ownBlock) (Kd.Zhm (HO0_1.o) hkp (fun k_ hk_ hs_=>(hk_.2) hs_)) (fun k_ hk_=>⟨hk_.1.1.1.1.1.1.1,hk_.1.1.1.2,hk_.1.1.2,hk_.1.1.1.1.1.1.2,hk_.1.1.1.1.1.2,hk_.1.1.1.1.2,fun e_=>Or.elim (ho65z.1 k_ e_.symm) (fun hs_=>hk_.2.1 hs_) (fun hn_=>Nat.not_le.2 hk_.2.2 hn_)⟩))
    replace HO1_1:=am (Kd.Zdu (ok':=fun k_=>((P0_1_ k_\/P1_1_ k_)\/w.heap.size<=k_)/\some k_ ≠ (.slice ji jm.length jk:Value).ownBlock/\some k_ ≠ (.slice qs qq.length qu:Value).ownBlock/\k_ ≠ gb0z/\k_ ≠ gb5z/\k_ ≠ qj/\some k_ ≠ (v77z:Value).ownBlock) (Kd.Zhm (HO1_1.o) hkp (fun k_ hk_ hs_=>(hk_.2) hs_)) (fun k_ hk_=>⟨hk_.1.1.1.1.1.1.1,hk_.1.1.1.2,hk_.1.1.2,hk_.1.1.1.1.1.1.2,hk_.1.1.1.1.1.2,hk_.1.1.1.1.2,fun e_=>Or.elim (ho65z.1 k_ e_.symm) (fun hs_=>hk_.2.1 hs_) (fun hn_=>Nat.not_le.2 hk_.2.2 hn_)⟩))
    replace BK2z:=am (Za0 (Zb BK2z.o pl) hkp (fun e_=>Kd.R_ne jj.o BK2z.o (by decide) e_))
    replace BK7z:=am (Za0 (Zb BK7z.o pl) hkp (fun e_=>Kd.R_ne jj.o BK7z.o (by decide) e_))
    replace qa:=am (Za0 (Zb qa.o pl) hkp (fun e_=>Kd.R_ne jj.o qa.o (by decide) e_))
    replace qb:=am (Kd.Zhg (ok':=fun k_=>((P0_1_ k_\/P1_1_ k_)\/w.heap.size<=k_)/\some k_ ≠ (.slice qs qq.length qu:Value).ownBlock/\k_ ≠ gb0z/\k_ ≠ gb5z/\k_ ≠ qj/\some k_ ≠ (v77z:Value).ownBlock) (Kd.Znh (qb.o) hkp (fun k_ hk_ hs_=>(hk_.2) hs_)) (fun k_ hk_=>⟨hk_.1.1.1.1,hk_.1.1.2,hk_.1.1.1.2.1,hk_.1.1.1.2.2.1,hk_.1.1.1.2.2.2,fun e_=>Or.elim (ho65z.1 k_ e_.symm) (fun hs_=>hk_.2.1 hs_) (fun hn_=>Nat.not_le.2 hk_.2.2 hn_)⟩))
    replace qd:=am (Kd.Zh (ok':=fun k_=>(w.heap.size<=k_)/\some k_ ≠ (v77z:Value).ownBlock) (Kd.Zcb (qd.o) hkp (fun k_ hk_ hs_=>(hk_.2) hs_)) (fun k_ hk_=>⟨hk_.1.1.1,fun e_=>Or.elim (ho65z.1 k_ e_.symm) (fun hs_=>hk_.2.1 hs_) (fun hn_=>Nat.not_le.2 hk_.2.2 hn_)⟩))
    replace HB:=am hb
    clear jj
    obtain ⟨q3,q7,qaf⟩:=Kd.Zj qe.o
    (first|subst qaf|(injection qaf with f1_ f2_ f3_;have f4_:=f1_.symm;have f5_:=f3_.symm;clear f1_ f2_ f3_;subst f4_;subst f5_))
    refine hK.out _ _ ⟨k0 BK2z 0,k0 BK2z 1,k0 BK2z 2,k0 BK7z 0,k0 BK7z 1,k0 BK7z 2⟩ (fun hHeld=>?_)
    clear hK K
    refine norm_ (a':=?_) ?_ ?_
    rotate_left
    ·show Act.put _ (some 45) _=_
     exact pP
    refine one_ (i:=10) (N:=some 48) #[true,true,true,true,true,true,true,true,true,true,true,false,false,false,false,false,false,false] rfl rfl (Zbh HT_.out (by kernel_rfl)) (by decide) (fun K hK=>?_)
    refine goes_ Tryz.func69 (by kernel_rfl) rfl #[.slice q3 qy.length q7,.slice A1_1 l1_1.length c1_1] (by rfl) rfl rfl pA ?_
    with_reducible refine (Zdi.calls k _ _ qy _ _ l1_1 jg q2 qbf _ ?side1 ?side2 ?side3 ?side4 A26.o).mono ?_
    (case side1=>exact Kd.Zn (Kd.Zc qe.o).2.2 pl)
    (case side2=>exact (Kd.Zc qe.o).2.1)
    (case side3=>exact Kd.Zn (Kd.Zci HO1_1.o).2.2 pl)
    (case side4=>exact (Kd.Zci HO1_1.o).2.1)
    rintro e w82z ⟨v83z,v84z,rfl,ho65z,ho85z,hb⟩
    refine ⟨_,rfl,?_⟩
    have qg:=am (Kd.Zo (Kd.Zs (Kd.Zs (Kd.Zex (M:=fun k_=>(w.heap.size<=k_)) ho65z (Zd pB) (fun k_ h_=>h_)) (Kd.R_lt (Kd.Za qd.o pl))) (Kd.R_lt (Kd.Za qe.o pl))) (Zd pB))
    have qh:=am (Kd.Zo (Kd.Zs (Kd.Zs (Kd.Zex (M:=fun k_=>(w.heap.size<=k_)) ho85z (Zd pB) (fun k_ h_=>h_)) (Kd.R_lt (Kd.Za qd.o pl))) (Kd.R_lt (Kd.Za qe.o pl))) (Zd pB))
    replace HO0_1:=am (Kd.Zdu (Kd.Zg1 (Kd.Zg1 (Kd.Zpk (Kd.Zcq HO0_1.o pl) hb) (Kd.Zaz ho65z)) (Kd.Zaz ho85z)) (fun _ h_=>h_.1))
    replace HO1_1:=am (Kd.Zdu (Kd.Zg1 (Kd.Zg1 (Kd.Zpk (Kd.Zcq HO1_1.o pl) hb) (Kd.Zaz ho65z)) (Kd.Zaz ho85z)) (fun _ h_=>h_.1))
    replace qb:=am (Kd.Zhg (Kd.Zlm (Kd.Zlm (Kd.Zr6 (Kd.Zd3 qb.o pl) hb) (Kd.Zaz ho65z)) (Kd.Zaz ho85z)) (fun _ h_=>h_.1))
    replace qd:=am (Kd.Zh (Kd.Zda (Kd.Zda (Kd.Zf2 (Kd.Za qd.o pl) hb) (Kd.Zaz ho65z)) (Kd.Zaz ho85z)) (fun _ h_=>h_.1))
    replace qe:=am (Kd.Zh (Kd.Zda (Kd.Zda (Kd.Zf2 (Kd.Za qe.o pl) hb) (Kd.Zaz ho65z)) (Kd.Zaz ho85z)) (fun _ h_=>h_.1))
    replace BK2z:=bb BK2z hb
    replace BK7z:=bb BK7z hb
    replace qa:=bb qa hb
    replace HB:=bS hb
    refine hK.out _ _ ⟨k0 BK2z 0,k0 BK2z 1,k0 BK2z 2,k0 BK7z 0,k0 BK7z 1,k0 BK7z 2⟩ (fun hHeld=>?_)
    clear hK K
    refine norm_ (a':=?_) ?_ ?_
    rotate_left
    ·show Act.put _ (some 48) _=_
     exact pP
    refine pu 11 (some 37) #[true,true,true,true,true,true,true,true,true,true,true,true,false,false,false,false,false,false] (h:=?_)
    refine pu 12 (some 49) #[true,true,true,true,true,true,true,true,true,true,true,true,true,false,false,false,false,false] (h:=?_)
    refine pu 13 (some 50) #[true,true,true,true,true,true,true,true,true,true,true,true,true,true,false,false,false,false] (h:=?_)
    refine pu 14 (some 51) #[true,true,true,true,true,true,true,true,true,true,true,true,true,true,true,false,false,false] (h:=?_)
    refine pu 15 (some 8) #[true,true,true,true,true,true,true,true,true,true,true,true,true,true,true,true,false,false] (h:=?_)
    refine pu 16 (some 9) #[true,true,true,true,true,true,true,true,true,true,true,true,true,true,true,true,true,false] (h:=?_)
    refine pu 17 (some 10) #[true,true,true,true,true,true,true,true,true,true,true,true,true,true,true,true,true,true] (h:=?_)
    refine done_ (Zde HT_.out (by kernel_rfl)) ?_
    obtain ⟨q4,q8,qa5⟩:=Kd.Zj qg.o
    subst qa5
    try go_wp2_with (first|(refine gL (some 54) Tryz.func73 #[.slice q4 jg.length q8,.int .i64 40] (h:=?_);(with_reducible refine (Zco.calls k _ _ jg 40 q0 jf jn _ ?side1 ?side2 A27.o).mono ?_);(case side1=>exact Kd.Zn (Kd.Zc qg.o).2.2 pl);(case side2=>exact (Kd.Zc qg.o).2.1);rintro e w91z ⟨v92z,v93z,rfl,ho65z,ho85z,hb⟩;refine ⟨_,rfl,?_⟩;have qf:=am (Kd.Zo (Kd.Zs (Kd.Zs (Kd.Zs (Kd.Zs (Kd.Zex (M:=fun k_=>(w.heap.size<=k_)) ho65z (Zd pB) (fun k_ h_=>h_)) (Kd.R_lt (Kd.Za qd.o pl))) (Kd.R_lt (Kd.Za qe.o pl))) (Kd.R_lt (Kd.Za qg.o pl))) (Kd.R_lt (Kd.Za qh.o pl))) (Zd pB));have qi:=am (Kd.Zo (Kd.Zs (Kd.Zs (Kd.Zs (Kd.Zs (Kd.Zex (M:=fun k_=>(w.heap.size<=k_)) ho85z (Zd pB) (fun k_ h_=>h_)) (Kd.R_lt (Kd.Za qd.o pl))) (Kd.R_lt (Kd.Za qe.o pl))) (Kd.R_lt (Kd.Za qg.o pl))) (Kd.R_lt (Kd.Za qh.o pl))) (Zd pB));replace HO0_1:=am (Kd.Zdu (Kd.Zg1 (Kd.Zg1 (Kd.Zpk (Kd.Zcq HO0_1.o pl) hb) (Kd.Zaz ho65z)) (Kd.Zaz ho85z)) (fun _ h_=>h_.1));replace HO1_1:=am (Kd.Zdu (Kd.Zg1 (Kd.Zg1 (Kd.Zpk (Kd.Zcq HO1_1.o pl) hb) (Kd.Zaz ho65z)) (Kd.Zaz ho85z)) (fun _ h_=>h_.1));replace qb:=am (Kd.Zhg (Kd.Zlm (Kd.Zlm (Kd.Zr6 (Kd.Zd3 qb.o pl) hb) (Kd.Zaz ho65z)) (Kd.Zaz ho85z)) (fun _ h_=>h_.1));replace qd:=am (Kd.Zh (Kd.Zda (Kd.Zda (Kd.Zf2 (Kd.Za qd.o pl) hb) (Kd.Zaz ho65z)) (Kd.Zaz ho85z)) (fun _ h_=>h_.1));replace qe:=am (Kd.Zh (Kd.Zda (Kd.Zda (Kd.Zf2 (Kd.Za qe.o pl) hb) (Kd.Zaz ho65z)) (Kd.Zaz ho85z)) (fun _ h_=>h_.1));replace qg:=am (Kd.Zh (Kd.Zda (Kd.Zda (Kd.Zf2 (Kd.Za qg.o pl) hb) (Kd.Zaz ho65z)) (Kd.Zaz ho85z)) (fun _ h_=>h_.1));replace qh:=am (Kd.Zh (Kd.Zda (Kd.Zda (Kd.Zf2 (Kd.Za qh.o pl) hb) (Kd.Zaz ho65z)) (Kd.Zaz ho85z)) (fun _ h_=>h_.1));replace BK2z:=bb BK2z hb;replace BK7z:=bb BK7z hb;replace qa:=bb qa hb;replace HB:=bS hb;obtain ⟨jc,jd,qa6⟩:=Kd.Zj qh.o;subst qa6;obtain ⟨qw,qm,qai⟩:=Kd.Zj qf.o;subst qai;obtain ⟨qo,qp,qaj⟩:=Kd.Zj qi.o;subst qaj)|(refine gL (some 64) Tryz.func74 #[.slice qw q0.length qm,.slice qo jf.length qp,.int .i64 jn,.bool (decide (0 < q2.length))] (h:=?_);(with_reducible refine (Zbk.calls k _ _ q0 _ _ jf jn (decide (0 < q2.length)) true _ ?side1 ?side2 ?side3 ?side4 A28.o).mono ?_);(case side1=>exact Kd.Zn (Kd.Zc qf.o).2.2 pl);(case side2=>exact (Kd.Zc qf.o).2.1);(case side3=>exact Kd.Zn (Kd.Zc qi.o).2.2 pl);(case side4=>exact (Kd.Zc qi.o).2.1);rintro e qa7 ⟨rfl,hb⟩;refine ⟨_,rfl,?_⟩;replace HO0_1:=vbl HO0_1 hb;replace HO1_1:=vbl HO1_1 hb;replace qb:=nbl qb hb;replace qd:=rbl qd hb;replace qe:=rbl qe hb;replace qg:=rbl qg hb;replace qh:=rbl qh hb;replace qf:=rbl qf hb;replace qi:=rbl qi hb;replace BK2z:=bb BK2z hb;replace BK7z:=bb BK7z hb;replace qa:=bb qa hb;replace HB:=bS hb)|(refine gL (some 66) Tryz.func76 #[.int .u64 1] (h:=?_);(with_reducible refine (Zcj.calls k 1 qv _ A30.o).mono ?_);rintro e qbm ⟨qbj,rfl,ho65z,hb⟩;refine ⟨_,rfl,?_⟩;have qn:=am (Kd.Zo (Kd.Zs (Kd.Zs (Kd.Zs (Kd.Zs (Kd.Zs (Kd.Zs (Kd.Zex (M:=fun k_=>(w.heap.size<=k_)) ho65z (Zd pB) (fun k_ h_=>h_)) (Kd.R_lt (Kd.Za qd.o pl))) (Kd.R_lt (Kd.Za qe.o pl))) (Kd.R_lt (Kd.Za qg.o pl))) (Kd.R_lt (Kd.Za qh.o pl))) (Kd.R_lt (Kd.Za qf.o pl))) (Kd.R_lt (Kd.Za qi.o pl))) (Zd pB));replace HO0_1:=am (Kd.Zdh (Kd.Zcq HO0_1.o pl) (Kd.Zaz ho65z) hb);replace HO1_1:=am (Kd.Zdh (Kd.Zcq HO1_1.o pl) (Kd.Zaz ho65z) hb);replace qb:=am (Kd.Zfl (Kd.Zd3 qb.o pl) (Kd.Zaz ho65z) hb);replace qd:=reR qd ho65z hb;replace qe:=reR qe ho65z hb;replace qg:=reR qg ho65z hb;replace qh:=reR qh ho65z hb;replace qf:=reR qf ho65z hb;replace qi:=reR qi ho65z hb;replace BK2z:=bb BK2z hb;replace BK7z:=bb BK7z hb;replace qa:=bb qa hb;replace HB:=bS hb;obtain ⟨qr,qt,qak⟩:=Kd.Zj qn.o;subst qak)|(refine gL (some 67) Tryz.func75 #[.slice qw q0.length qm,.slice qr qv.length qt] (h:=?_);(with_reducible refine (Zed.calls k _ _ q0 _ _ qv j5 qaq _ ?side1 ?side2 ?side3 ?side4 A31.o).mono ?_);(case side1=>exact Kd.Zn (Kd.Zc qf.o).2.2 pl);(case side2=>exact (Kd.Zc qf.o).2.1);(case side3=>exact Kd.Zn (Kd.Zc qn.o).2.2 pl);(case side4=>exact (Kd.Zc qn.o).2.1);rintro e qbn ⟨qbk,rfl,ho65z,hb⟩;refine ⟨_,rfl,?_⟩;have je:=am (Kd.Zo (Kd.Zs (Kd.Zs (Kd.Zs (Kd.Zs (Kd.Zs (Kd.Zs (Kd.Zs (Kd.Zex (M:=fun k_=>(w.heap.size<=k_)) ho65z (Zd pB) (fun k_ h_=>h_)) (Kd.R_lt (Kd.Za qd.o pl))) (Kd.R_lt (Kd.Za qe.o pl))) (Kd.R_lt (Kd.Za qg.o pl))) (Kd.R_lt (Kd.Za qh.o pl))) (Kd.R_lt (Kd.Za qf.o pl))) (Kd.R_lt (Kd.Za qi.o pl))) (Kd.R_lt (Kd.Za qn.o pl))) (Zd pB));replace HO0_1:=am (Kd.Zdh (Kd.Zcq HO0_1.o pl) (Kd.Zaz ho65z) hb);replace HO1_1:=am (Kd.Zdh (Kd.Zcq HO1_1.o pl) (Kd.Zaz ho65z) hb);replace qb:=am (Kd.Zfl (Kd.Zd3 qb.o pl) (Kd.Zaz ho65z) hb);replace qd:=reR qd ho65z hb;replace qe:=reR qe ho65z hb;replace qg:=reR qg ho65z hb;replace qh:=reR qh ho65z hb;replace qf:=reR qf ho65z hb;replace qi:=reR qi ho65z hb;replace qn:=reR qn ho65z hb;replace BK2z:=bb BK2z hb;replace BK7z:=bb BK7z hb;replace qa:=bb qa hb;replace HB:=bS hb;obtain ⟨jo,jp,qal⟩:=Kd.Zj je.o;subst qal)|(refine gL (some 70) Tryz.func70 #[.slice jo j5.length jp,.int .i64 qaq] (h:=?_);(with_reducible refine (Zp.calls (fun k_=>some k_=(.slice jo j5.length jp:Value).ownBlock) (.slice jo j5.length jp) j5 qaq jh w _ ?side1 ?side2 A32.o).mono ?_);(case side1=>exact pB);(case side2=>exact Kd.Zbj rfl je.o);rintro e qa8 ⟨q9,rfl,ho65z,hb,hkp⟩;refine ⟨_,rfl,?_⟩;have qz:=am (Kd.Zh (ok':=fun k_=>(w.heap.size<=k_)/\some k_ ≠ (.slice qs qq.length qu:Value).ownBlock/\some k_ ≠ (.slice q3 qy.length q7:Value).ownBlock/\some k_ ≠ (.slice q4 jg.length q8:Value).ownBlock/\some k_ ≠ (.slice jc q2.length jd:Value).ownBlock/\some k_ ≠ (.slice qw q0.length qm:Value).ownBlock/\some k_ ≠ (.slice qo jf.length qp:Value).ownBlock/\some k_ ≠ (.slice qr qv.length qt:Value).ownBlock) ho65z (fun k_ hk_=>⟨Or.elim hk_ (fun hs_=>(je.o.1 k_ (hs_).symm).1.1.1.1.1.1.1.1) (fun hn_=>(Nat.le_trans (Zd pB) hn_)),Or.elim hk_ (fun hs_=>fun e_=>(((qd.o).1 k_ e_.symm).2) hs_) (fun hn_=>(Kd.fresh' (Kd.R_lt (Kd.Za qd.o pl)) k_ hn_)),Or.elim hk_ (fun hs_=>fun e_=>(((qe.o).1 k_ e_.symm).2) hs_) (fun hn_=>(Kd.fresh' (Kd.R_lt (Kd.Za qe.o pl)) k_ hn_)),Or.elim hk_ (fun hs_=>fun e_=>(((qg.o).1 k_ e_.symm).2) hs_) (fun hn_=>(Kd.fresh' (Kd.R_lt (Kd.Za qg.o pl)) k_ hn_)),Or.elim hk_ (fun hs_=>fun e_=>(((qh.o).1 k_ e_.symm).2) hs_) (fun hn_=>(Kd.fresh' (Kd.R_lt (Kd.Za qh.o pl)) k_ hn_)),Or.elim hk_ (fun hs_=>fun e_=>(((qf.o).1 k_ e_.symm).2) hs_) (fun hn_=>(Kd.fresh' (Kd.R_lt (Kd.Za qf.o pl)) k_ hn_)),Or.elim hk_ (fun hs_=>fun e_=>(((qi.o).1 k_ e_.symm).2) hs_) (fun hn_=>(Kd.fresh' (Kd.R_lt (Kd.Za qi.o pl)) k_ hn_)),Or.elim hk_ (fun hs_=>fun e_=>(((qn.o).1 k_ e_.symm).2) hs_) (fun hn_=>(Kd.fresh' (Kd.R_lt (Kd.Za qn.o pl)) k_ hn_))⟩));replace HO0_1:=am (Kd.Zdu (ok':=fun k_=>((P0_1_ k_\/P1_1_ k_)\/w.heap.size<=k_)/\some k_ ≠ (.slice ji jm.length jk:Value).ownBlock/\some k_ ≠ (.slice qs qq.length qu:Value).ownBlock/\some k_ ≠ (.slice q3 qy.length q7:Value).ownBlock/\some k_ ≠ (.slice q4 jg.length q8:Value).ownBlock/\some k_ ≠ (.slice jc q2.length jd:Value).ownBlock/\some k_ ≠ (.slice qw q0.length qm:Value).ownBlock/\some k_ ≠ (.slice qo jf.length qp:Value).ownBlock/\some k_ ≠ (.slice qr qv.length qt:Value).ownBlock/\k_ ≠ gb0z/\k_ ≠ gb5z/\k_ ≠ qj/\some k_ ≠ (q9:Value).ownBlock) (Kd.Zhm (HO0_1.o) hkp (fun k_ hk_ hs_=>(hk_.2) hs_)) (fun k_ hk_=>⟨hk_.1.1.1.1.1.1.1.1,hk_.1.1.1.1.1.1.1.2.1,hk_.1.1.1.1.1.1.1.2.2.1,hk_.1.1.1.1.1.1.1.2.2.2.2.2.2,hk_.1.1.1.1.1.1.2,hk_.1.1.1.1.1.2,hk_.1.1.1.1.2,hk_.1.1.1.2,hk_.1.1.2,hk_.1.1.1.1.1.1.1.2.2.2.1,hk_.1.1.1.1.1.1.1.2.2.2.2.1,hk_.1.1.1.1.1.1.1.2.2.2.2.2.1,fun e_=>Or.elim (ho65z.1 k_ e_.symm) (fun hs_=>hk_.2.1 hs_) (fun hn_=>Nat.not_le.2 hk_.2.2 hn_)⟩));replace HO1_1:=am (Kd.Zdu (ok':=fun k_=>((P0_1_ k_\/P1_1_ k_)\/w.heap.size<=k_)/\some k_ ≠ (.slice ji jm.length jk:Value).ownBlock/\some k_ ≠ (.slice qs qq.length qu:Value).ownBlock/\some k_ ≠ (.slice q3 qy.length q7:Value).ownBlock/\some k_ ≠ (.slice q4 jg.length q8:Value).ownBlock/\some k_ ≠ (.slice jc q2.length jd:Value).ownBlock/\some k_ ≠ (.slice qw q0.length qm:Value).ownBlock/\some k_ ≠ (.slice qo jf.length qp:Value).ownBlock/\some k_ ≠ (.slice qr qv.length qt:Value).ownBlock/\k_ ≠ gb0z/\k_ ≠ gb5z/\k_ ≠ qj/\some k_ ≠ (q9:Value).ownBlock) (Kd.Zhm (HO1_1.o) hkp (fun k_ hk_ hs_=>(hk_.2) hs_)) (fun k_ hk_=>⟨hk_.1.1.1.1.1.1.1.1,hk_.1.1.1.1.1.1.1.2.1,hk_.1.1.1.1.1.1.1.2.2.1,hk_.1.1.1.1.1.1.1.2.2.2.2.2.2,hk_.1.1.1.1.1.1.2,hk_.1.1.1.1.1.2,hk_.1.1.1.1.2,hk_.1.1.1.2,hk_.1.1.2,hk_.1.1.1.1.1.1.1.2.2.2.1,hk_.1.1.1.1.1.1.1.2.2.2.2.1,hk_.1.1.1.1.1.1.1.2.2.2.2.2.1,fun e_=>Or.elim (ho65z.1 k_ e_.symm) (fun hs_=>hk_.2.1 hs_) (fun hn_=>Nat.not_le.2 hk_.2.2 hn_)⟩));replace BK2z:=am (Za0 (Zb BK2z.o pl) hkp (fun e_=>Kd.R_ne je.o BK2z.o (by decide) e_));replace BK7z:=am (Za0 (Zb BK7z.o pl) hkp (fun e_=>Kd.R_ne je.o BK7z.o (by decide) e_));replace qa:=am (Za0 (Zb qa.o pl) hkp (fun e_=>Kd.R_ne je.o qa.o (by decide) e_));replace qb:=am (Kd.Zhg (ok':=fun k_=>((P0_1_ k_\/P1_1_ k_)\/w.heap.size<=k_)/\some k_ ≠ (.slice qs qq.length qu:Value).ownBlock/\some k_ ≠ (.slice q3 qy.length q7:Value).ownBlock/\some k_ ≠ (.slice q4 jg.length q8:Value).ownBlock/\some k_ ≠ (.slice jc q2.length jd:Value).ownBlock/\some k_ ≠ (.slice qw q0.length qm:Value).ownBlock/\some k_ ≠ (.slice qo jf.length qp:Value).ownBlock/\some k_ ≠ (.slice qr qv.length qt:Value).ownBlock/\k_ ≠ gb0z/\k_ ≠ gb5z/\k_ ≠ qj/\some k_ ≠ (q9:Value).ownBlock) (Kd.Znh (qb.o) hkp (fun k_ hk_ hs_=>(hk_.2) hs_)) (fun k_ hk_=>⟨hk_.1.1.1.1.1.1.1.1,hk_.1.1.1.1.1.1.1.2.1,hk_.1.1.1.1.1.1.1.2.2.2.2.2,hk_.1.1.1.1.1.1.2,hk_.1.1.1.1.1.2,hk_.1.1.1.1.2,hk_.1.1.1.2,hk_.1.1.2,hk_.1.1.1.1.1.1.1.2.2.1,hk_.1.1.1.1.1.1.1.2.2.2.1,hk_.1.1.1.1.1.1.1.2.2.2.2.1,fun e_=>Or.elim (ho65z.1 k_ e_.symm) (fun hs_=>hk_.2.1 hs_) (fun hn_=>Nat.not_le.2 hk_.2.2 hn_)⟩));replace qd:=am (Kd.Zh (ok':=fun k_=>(w.heap.size<=k_)/\some k_ ≠ (.slice q3 qy.length q7:Value).ownBlock/\some k_ ≠ (.slice q4 jg.length q8:Value).ownBlock/\some k_ ≠ (.slice jc q2.length jd:Value).ownBlock/\some k_ ≠ (.slice qw q0.length qm:Value).ownBlock/\some k_ ≠ (.slice qo jf.length qp:Value).ownBlock/\some k_ ≠ (.slice qr qv.length qt:Value).ownBlock/\some k_ ≠ (q9:Value).ownBlock) (Kd.Zcb (qd.o) hkp (fun k_ hk_ hs_=>(hk_.2) hs_)) (fun k_ hk_=>⟨hk_.1.1.1.1.1.1.1.1,hk_.1.1.1.1.1.1.1.2,hk_.1.1.1.1.1.1.2,hk_.1.1.1.1.1.2,hk_.1.1.1.1.2,hk_.1.1.1.2,hk_.1.1.2,fun e_=>Or.elim (ho65z.1 k_ e_.symm) (fun hs_=>hk_.2.1 hs_) (fun hn_=>Nat.not_le.2 hk_.2.2 hn_)⟩));replace qe:=am (Kd.Zh (ok':=fun k_=>(w.heap.size<=k_)/\some k_ ≠ (.slice qs qq.length qu:Value).ownBlock/\some k_ ≠ (.slice q4 jg.length q8:Value).ownBlock/\some k_ ≠ (.slice jc q2.length jd:Value).ownBlock/\some k_ ≠ (.slice qw q0.length qm:Value).ownBlock/\some k_ ≠ (.slice qo jf.length qp:Value).ownBlock/\some k_ ≠ (.slice qr qv.length qt:Value).ownBlock/\some k_ ≠ (q9:Value).ownBlock) (Kd.Zcb (qe.o) hkp (fun k_ hk_ hs_=>(hk_.2) hs_)) (fun k_ hk_=>⟨hk_.1.1.1.1.1.1.1.1,hk_.1.1.1.1.1.1.1.2,hk_.1.1.1.1.1.1.2,hk_.1.1.1.1.1.2,hk_.1.1.1.1.2,hk_.1.1.1.2,hk_.1.1.2,fun e_=>Or.elim (ho65z.1 k_ e_.symm) (fun hs_=>hk_.2.1 hs_) (fun hn_=>Nat.not_le.2 hk_.2.2 hn_)⟩));replace qg:=am (Kd.Zh (ok':=fun k_=>(w.heap.size<=k_)/\some k_ ≠ (.slice qs qq.length qu:Value).ownBlock/\some k_ ≠ (.slice q3 qy.length q7:Value).ownBlock/\some k_ ≠ (.slice jc q2.length jd:Value).ownBlock/\some k_ ≠ (.slice qw q0.length qm:Value).ownBlock/\some k_ ≠ (.slice qo jf.length qp:Value).ownBlock/\some k_ ≠ (.slice qr qv.length qt:Value).ownBlock/\some k_ ≠ (q9:Value).ownBlock) (Kd.Zcb (qg.o) hkp (fun k_ hk_ hs_=>(hk_.2) hs_)) (fun k_ hk_=>⟨hk_.1.1.1.1.1.1.1.1,hk_.1.1.1.1.1.1.2,hk_.1.1.1.1.1.2,hk_.1.1.1.1.1.1.1.2,hk_.1.1.1.1.2,hk_.1.1.1.2,hk_.1.1.2,fun e_=>Or.elim (ho65z.1 k_ e_.symm) (fun hs_=>hk_.2.1 hs_) (fun hn_=>Nat.not_le.2 hk_.2.2 hn_)⟩));replace qh:=am (Kd.Zh (ok':=fun k_=>(w.heap.size<=k_)/\some k_ ≠ (.slice qs qq.length qu:Value).ownBlock/\some k_ ≠ (.slice q3 qy.length q7:Value).ownBlock/\some k_ ≠ (.slice q4 jg.length q8:Value).ownBlock/\some k_ ≠ (.slice qw q0.length qm:Value).ownBlock/\some k_ ≠ (.slice qo jf.length qp:Value).ownBlock/\some k_ ≠ (.slice qr qv.length qt:Value).ownBlock/\some k_ ≠ (q9:Value).ownBlock) (Kd.Zcb (qh.o) hkp (fun k_ hk_ hs_=>(hk_.2) hs_)) (fun k_ hk_=>⟨hk_.1.1.1.1.1.1.1.1,hk_.1.1.1.1.1.1.2,hk_.1.1.1.1.1.2,hk_.1.1.1.1.1.1.1.2,hk_.1.1.1.1.2,hk_.1.1.1.2,hk_.1.1.2,fun e_=>Or.elim (ho65z.1 k_ e_.symm) (fun hs_=>hk_.2.1 hs_) (fun hn_=>Nat.not_le.2 hk_.2.2 hn_)⟩));replace qf:=am (Kd.Zh (ok':=fun k_=>(w.heap.size<=k_)/\some k_ ≠ (.slice qs qq.length qu:Value).ownBlock/\some k_ ≠ (.slice q3 qy.length q7:Value).ownBlock/\some k_ ≠ (.slice q4 jg.length q8:Value).ownBlock/\some k_ ≠ (.slice jc q2.length jd:Value).ownBlock/\some k_ ≠ (.slice qo jf.length qp:Value).ownBlock/\some k_ ≠ (.slice qr qv.length qt:Value).ownBlock/\some k_ ≠ (q9:Value).ownBlock) (Kd.Zcb (qf.o) hkp (fun k_ hk_ hs_=>(hk_.2) hs_)) (fun k_ hk_=>⟨hk_.1.1.1.1.1.1.1.1,hk_.1.1.1.1.1.1.2,hk_.1.1.1.1.1.2,hk_.1.1.1.1.2,hk_.1.1.1.2,hk_.1.1.1.1.1.1.1.2,hk_.1.1.2,fun e_=>Or.elim (ho65z.1 k_ e_.symm) (fun hs_=>hk_.2.1 hs_) (fun hn_=>Nat.not_le.2 hk_.2.2 hn_)⟩));replace qi:=am (Kd.Zh (ok':=fun k_=>(w.heap.size<=k_)/\some k_ ≠ (.slice qs qq.length qu:Value).ownBlock/\some k_ ≠ (.slice q3 qy.length q7:Value).ownBlock/\some k_ ≠ (.slice q4 jg.length q8:Value).ownBlock/\some k_ ≠ (.slice jc q2.length jd:Value).ownBlock/\some k_ ≠ (.slice qw q0.length qm:Value).ownBlock/\some k_ ≠ (.slice qr qv.length qt:Value).ownBlock/\some k_ ≠ (q9:Value).ownBlock) (Kd.Zcb (qi.o) hkp (fun k_ hk_ hs_=>(hk_.2) hs_)) (fun k_ hk_=>⟨hk_.1.1.1.1.1.1.1.1,hk_.1.1.1.1.1.1.2,hk_.1.1.1.1.1.2,hk_.1.1.1.1.2,hk_.1.1.1.2,hk_.1.1.1.1.1.1.1.2,hk_.1.1.2,fun e_=>Or.elim (ho65z.1 k_ e_.symm) (fun hs_=>hk_.2.1 hs_) (fun hn_=>Nat.not_le.2 hk_.2.2 hn_)⟩));replace qn:=am (Kd.Zh (ok':=fun k_=>(w.heap.size<=k_)/\some k_ ≠ (.slice qs qq.length qu:Value).ownBlock/\some k_ ≠ (.slice q3 qy.length q7:Value).ownBlock/\some k_ ≠ (.slice q4 jg.length q8:Value).ownBlock/\some k_ ≠ (.slice jc q2.length jd:Value).ownBlock/\some k_ ≠ (.slice qw q0.length qm:Value).ownBlock/\some k_ ≠ (.slice qo jf.length qp:Value).ownBlock/\some k_ ≠ (q9:Value).ownBlock) (Kd.Zcb (qn.o) hkp (fun k_ hk_ hs_=>(hk_.2) hs_)) (fun k_ hk_=>⟨hk_.1.1.1.1.1.1.1.1.1,hk_.1.1.1.1.1.1.1.2,hk_.1.1.1.1.1.1.2,hk_.1.1.1.1.1.2,hk_.1.1.1.1.2,hk_.1.1.1.2,hk_.1.1.2,fun e_=>Or.elim (ho65z.1 k_ e_.symm) (fun hs_=>hk_.2.1 hs_) (fun hn_=>Nat.not_le.2 hk_.2.2 hn_)⟩));replace HB:=am hb;clear je;obtain ⟨j6,j7,j8,j9,qaa,qab⟩:=cEc BK2z.o;obtain ⟨_,_,_,_,_,_⟩:=cEc BK7z.o;obtain ⟨qag,qah,qan⟩:=Kd.Zj qz.o;subst qan)|((with_reducible refine Zd5 (f:=60) rfl ?_);refine goesL_ (some 86) rfl rfl Tryz.func60 (by kernel_rfl) rfl #[.bool (a0_0 != a1_0),.slice qag jh.length qah,.int .i64 (wrap64 ((wrap64 ((wrap64 (a0_2 - a1_2)) - (ji22)))+jn))] rfl (by (try simp only [List.map_toArray,List.map_cons,List.map_nil]);first|done|(simp only [hji22];rfl)|rfl|(simp only [List.length_drop,List.length_take];rfl)) ?_;(with_reducible refine (Zaq.calls k (a0_0 != a1_0) _ _ jh (wrap64 ((wrap64 ((wrap64 (a0_2 - a1_2)) - (ji22)))+jn)) qar qas qat qbg _ ?side1 ?side2 A33.o).mono ?_);(case side1=>exact Kd.Zn (Kd.Zc qz.o).2.2 pl);(case side2=>exact (Kd.Zc qz.o).2.1);rintro e qbo ⟨qbl,rfl,ho65z,hb⟩;refine ⟨_,rfl,?_⟩;have jt:=am (Kd.Zo (Kd.Zs (Kd.Zs (Kd.Zs (Kd.Zs (Kd.Zs (Kd.Zs (Kd.Zs (Kd.Zs (Kd.Zex (M:=fun k_=>(w.heap.size<=k_)) ho65z (Zd pB) (fun k_ h_=>h_)) (Kd.R_lt (Kd.Za qd.o pl))) (Kd.R_lt (Kd.Za qe.o pl))) (Kd.R_lt (Kd.Za qg.o pl))) (Kd.R_lt (Kd.Za qh.o pl))) (Kd.R_lt (Kd.Za qf.o pl))) (Kd.R_lt (Kd.Za qi.o pl))) (Kd.R_lt (Kd.Za qn.o pl))) (Kd.R_lt (Kd.Za qz.o pl))) (Zd pB));replace HO0_1:=am (Kd.Zdh (Kd.Zcq HO0_1.o pl) (Kd.Zaz ho65z) hb);replace HO1_1:=am (Kd.Zdh (Kd.Zcq HO1_1.o pl) (Kd.Zaz ho65z) hb);replace qb:=am (Kd.Zfl (Kd.Zd3 qb.o pl) (Kd.Zaz ho65z) hb);replace qd:=reR qd ho65z hb;replace qe:=reR qe ho65z hb;replace qg:=reR qg ho65z hb;replace qh:=reR qh ho65z hb;replace qf:=reR qf ho65z hb;replace qi:=reR qi ho65z hb;replace qn:=reR qn ho65z hb;replace qz:=reR qz ho65z hb;replace BK2z:=bb BK2z hb;replace BK7z:=bb BK7z hb;replace qa:=bb qa hb;replace HB:=bS hb;obtain ⟨_,_,_,_,_,_⟩:=cEc qa.o;obtain ⟨jr,jv,qao⟩:=Kd.Zj jt.o;subst qao)|(refine gL (some 64) Tryz.func74 #[.slice qw q0.length qm,.slice qo jf.length qp,.int .i64 jn,.bool (decide (0 < q2.length))] (h:=?_);(with_reducible refine (Zbk.calls k _ _ q0 _ _ jf jn (decide (0 < q2.length)) false _ ?side1 ?side2 ?side3 ?side4 A28.o).mono ?_);(case side1=>exact Kd.Zn (Kd.Zc qf.o).2.2 pl);(case side2=>exact (Kd.Zc qf.o).2.1);(case side3=>exact Kd.Zn (Kd.Zc qi.o).2.2 pl);(case side4=>exact (Kd.Zc qi.o).2.1);rintro e qa7 ⟨rfl,hb⟩;refine ⟨_,rfl,?_⟩;replace HO0_1:=vbl HO0_1 hb;replace HO1_1:=vbl HO1_1 hb;replace qb:=nbl qb hb;replace qd:=rbl qd hb;replace qe:=rbl qe hb;replace qg:=rbl qg hb;replace qh:=rbl qh hb;replace qf:=rbl qf hb;replace qi:=rbl qi hb;replace BK2z:=bb BK2z hb;replace BK7z:=bb BK7z hb;replace qa:=bb qa hb;replace HB:=bS hb;obtain ⟨_,_,_,_,_,_⟩:=cEc BK2z.o;obtain ⟨_,_,_,_,_,_⟩:=cEc BK7z.o)|((with_reducible refine Zd5 (f:=60) rfl ?_);refine goesL_ (some 86) rfl rfl Tryz.func60 (by kernel_rfl) rfl #[.bool (a0_0 != a1_0),.slice qw q0.length qm,.int .i64 (wrap64 ((wrap64 ((wrap64 (a0_2 - a1_2)) - (ji22)))+jn))] rfl (by (try simp only [List.map_toArray,List.map_cons,List.map_nil]);first|done|(simp only [hji22];rfl)|rfl|(simp only [List.length_drop,List.length_take];rfl)) ?_;(with_reducible refine (Zaq.calls k (a0_0 != a1_0) _ _ q0 (wrap64 ((wrap64 ((wrap64 (a0_2 - a1_2)) - (ji22)))+jn)) qau qav qaw qbh _ ?side1 ?side2 A75.o).mono ?_);(case side1=>exact Kd.Zn (Kd.Zc qf.o).2.2 pl);(case side2=>exact (Kd.Zc qf.o).2.1);rintro e qa8 ⟨q9,rfl,ho65z,hb⟩;refine ⟨_,rfl,?_⟩;have qz:=am (Kd.Zo (Kd.Zs (Kd.Zs (Kd.Zs (Kd.Zs (Kd.Zs (Kd.Zs (Kd.Zex (M:=fun k_=>(w.heap.size<=k_)) ho65z (Zd pB) (fun k_ h_=>h_)) (Kd.R_lt (Kd.Za qd.o pl))) (Kd.R_lt (Kd.Za qe.o pl))) (Kd.R_lt (Kd.Za qg.o pl))) (Kd.R_lt (Kd.Za qh.o pl))) (Kd.R_lt (Kd.Za qf.o pl))) (Kd.R_lt (Kd.Za qi.o pl))) (Zd pB));replace HO0_1:=am (Kd.Zdh (Kd.Zcq HO0_1.o pl) (Kd.Zaz ho65z) hb);replace HO1_1:=am (Kd.Zdh (Kd.Zcq HO1_1.o pl) (Kd.Zaz ho65z) hb);replace qb:=am (Kd.Zfl (Kd.Zd3 qb.o pl) (Kd.Zaz ho65z) hb);replace qd:=reR qd ho65z hb;replace qe:=reR qe ho65z hb;replace qg:=reR qg ho65z hb;replace qh:=reR qh ho65z hb;replace qf:=reR qf ho65z hb;replace qi:=reR qi ho65z hb;replace BK2z:=bb BK2z hb;replace BK7z:=bb BK7z hb;replace qa:=bb qa hb;replace HB:=bS hb;obtain ⟨j6,j7,j8,j9,qaa,qab⟩:=cEc qa.o;obtain ⟨jq,ju,qam⟩:=Kd.Zj qz.o;subst qam))
    first
     | have q_:=A33
       refine bodyPost_ret (Za1 rfl _ _ qj 24 #[.bool qar,.slice jr qas.length jv,.int .i64 qat] (0,0) _ rfl (by exact p3 qa) Tryz.underlying24 rfl (by kernel_rfl)) rfl ?_
       exact ⟨_,by first|rfl|(simp [Zak,Zal] <;> rfl)|(simp only [<- hji22];first|rfl|(simp [Zak,Zal] <;> rfl))|(simp [*,Zak,Zal] <;> rfl),by refine rp ?_;exact Kd.Zh (Kd.Zr (p:=⟨qj,2,none⟩) (Kd.Zr (p:=⟨qj,1,none⟩) (Kd.Zr (p:=⟨qj,0,none⟩) (Kd.Zaa jt.o qa.o (by decide)) (fun _ hk=>hk.2) (.bool qar)) (fun _ hk=>hk.2) (.slice jr qas.length jv)) (fun _ hk=>hk.2) (.int .i64 qat)) (fun _ hk=>hk.1.1.1.1.1.1.1.1.1.1),pB⟩
     | refine bodyPost_ret (Za1 rfl _ _ qj 24 #[.bool qau,.slice jq qav.length ju,.int .i64 qaw] (0,0) _ rfl (by exact p3 qa) Tryz.underlying24 rfl (by kernel_rfl)) rfl ?_
       exact ⟨_,by first|rfl|(simp [Zak,Zal] <;> rfl)|(simp only [<- hji22];first|rfl|(simp [Zak,Zal] <;> rfl))|(simp [*,Zak,Zal] <;> rfl),by refine rp ?_;exact Kd.Zh (Kd.Zr (p:=⟨qj,2,none⟩) (Kd.Zr (p:=⟨qj,1,none⟩) (Kd.Zr (p:=⟨qj,0,none⟩) (Kd.Zaa qz.o qa.o (by decide)) (fun _ hk=>hk.2) (.bool qau)) (fun _ hk=>hk.2) (.slice jq qav.length ju)) (fun _ hk=>hk.2) (.int .i64 qaw)) (fun _ hk=>hk.1.1.1.1.1.1.1.1),pB⟩
  | refine bodyPost_ret (Za1 rfl _ _ qj 24 #[.bool false,.slice none 0 0,.int .i64 0] (0,0) _ rfl (by exact p3 qa) Tryz.underlying24 rfl (by kernel_rfl)) rfl ?_
    exact ⟨_,pE,pN,pB⟩):P:=h
theorem Zbu.calls (k:Nat) (a0_0:Bool) (P0_1_:Nat->Prop) (A0_1:Option Addr) (c0_1:Nat) (l0_1:List Int) (a0_2:Int) (a1_0:Bool) (P1_1_:Nat->Prop) (A1_1:Option Addr) (c1_1:Nat) (l1_1:List Int) (a1_2:Int) (r1:Bool) (r2:List Int) (r3:Int) (r4:Int) (w:World) (hs0_1:Kd.V (Kd.int .u32) 85 w w.heap.size (fun k_=>P0_1_ k_) (.slice A0_1 l0_1.length c0_1) l0_1) (hs1_1:Kd.V (Kd.int .u32) 85 w w.heap.size (fun k_=>P1_1_ k_) (.slice A1_1 l1_1.length c1_1) l1_1) (h:Zbu.f k a0_0 l0_1 a0_2 a1_0 l1_1 a1_2=some (r1,r2,r3,r4)) :
  Calls Tryz.prog 19 #[.agg #[.bool a0_0,.slice A0_1 l0_1.length c0_1,.int .i64 a0_2],.agg #[.bool a1_0,.slice A1_1 l1_1.length c1_1,.int .i64 a1_2]] w fun e w' => ∃ v1_:Value,e=.returned (.tuple #[.agg #[.bool r1,v1_,.int .i64 r3],.int .i64 r4])/\Kd.R (Kd.int .u32) 85 w' w.heap.size (fun k_=>(w.heap.size<=k_)) v1_ r2/\Below w.heap.size w w':=by
 have hu24:=Tryz.underlying24
 have HO0_1:=am (show Kd.V (Kd.int .u32) 85 w w.heap.size (fun k_=>((P0_1_ k_\/P1_1_ k_)\/w.heap.size<=k_)) (.slice A0_1 l0_1.length c0_1) l0_1 from Kd.Zdu hs0_1 (fun k_ hk=>.inl (.inl hk)))
 have HO1_1:=am (show Kd.V (Kd.int .u32) 85 w w.heap.size (fun k_=>((P0_1_ k_\/P1_1_ k_)\/w.heap.size<=k_)) (.slice A1_1 l1_1.length c1_1) l1_1 from Kd.Zdu hs1_1 (fun k_ hk=>.inl (.inr hk)))
 have HB:=am (Below.refl w.heap.size w)
 have H:((Zes.f k (([(⟨a0_0,l0_1,a0_2⟩:S24),(⟨a1_0,l1_1,a1_2⟩:S24)]:List (S24)))).bind fun q1=>(if q1=0 then (if (l1_1.length:Int)=0 then (some (false,([]:List Int),0,53)) else ((Zbz.f k l1_1).bind fun ja=>((Zbz.f k l0_1).bind fun jb=>((Zbs.f k (mx (wrap64 ((wrap64 ((wrap64 (ja - jb))+40))+2)) 0)).bind fun qq=>((Zc2.f k l0_1 qq).bind fun q5=>((Zp.f q5.1 q5.2).bind fun qy=>((Zdi.f k qy l1_1).bind fun q6=>((Zco.f k q6.1 40).bind fun qc=>((Zbk.f k qc.1 qc.2.1 qc.2.2 (decide ((q6.2.1.length:Int) > 0))).bind fun jl=>(if jl=true then ((Zcj.f k 1).bind fun qv=>((Zed.f k qc.1 qv).bind fun qx=>((Zp.f qx.1 qx.2).bind fun jh=>((Zaq.f k (a0_0 != a1_0) jh (wrap64 ((wrap64 ((wrap64 (a0_2 - a1_2)) - (mx (wrap64 ((wrap64 ((wrap64 (ja - jb))+40))+2)) 0)))+qc.2.2))).bind fun qk=>(some (qk.1,qk.2.1,qk.2.2.1,qk.2.2.2)))))) else ((Zaq.f k (a0_0 != a1_0) qc.1 (wrap64 ((wrap64 ((wrap64 (a0_2 - a1_2)) - (mx (wrap64 ((wrap64 ((wrap64 (ja - jb))+40))+2)) 0)))+qc.2.2))).bind fun ql=>(some (ql.1,ql.2.1,ql.2.2.1,ql.2.2.2))))))))))))) else (some (false,([]:List Int),0,q1))))=some (r1,r2,r3,r4):=h
 clear h
 obtain ⟨jm,j3⟩:∃ y_:List (S24),y_=(([(⟨a0_0,l0_1,a0_2⟩:S24),(⟨a1_0,l1_1,a1_2⟩:S24)]:List (S24))):=⟨_,rfl⟩
 replace H:((Zes.f k jm).bind fun q1=>(if q1=0 then (if (l1_1.length:Int)=0 then (some (false,([]:List Int),0,53)) else ((Zbz.f k l1_1).bind fun ja=>((Zbz.f k l0_1).bind fun jb=>((Zbs.f k (mx (wrap64 ((wrap64 ((wrap64 (ja - jb))+40))+2)) 0)).bind fun qq=>((Zc2.f k l0_1 qq).bind fun q5=>((Zp.f q5.1 q5.2).bind fun qy=>((Zdi.f k qy l1_1).bind fun q6=>((Zco.f k q6.1 40).bind fun qc=>((Zbk.f k qc.1 qc.2.1 qc.2.2 (decide ((q6.2.1.length:Int) > 0))).bind fun jl=>(if jl=true then ((Zcj.f k 1).bind fun qv=>((Zed.f k qc.1 qv).bind fun qx=>((Zp.f qx.1 qx.2).bind fun jh=>((Zaq.f k (a0_0 != a1_0) jh (wrap64 ((wrap64 ((wrap64 (a0_2 - a1_2)) - (mx (wrap64 ((wrap64 ((wrap64 (ja - jb))+40))+2)) 0)))+qc.2.2))).bind fun qk=>(some (qk.1,qk.2.1,qk.2.2.1,qk.2.2.2)))))) else ((Zaq.f k (a0_0 != a1_0) qc.1 (wrap64 ((wrap64 ((wrap64 (a0_2 - a1_2)) - (mx (wrap64 ((wrap64 ((wrap64 (ja - jb))+40))+2)) 0)))+qc.2.2))).bind fun ql=>(some (ql.1,ql.2.1,ql.2.2.1,ql.2.2.2))))))))))))) else (some (false,([]:List Int),0,q1))))=some (r1,r2,r3,r4):=by have hy_:=j3;exact pH
 have qac:=am j3
 clear j3
 obtain ⟨q1,A3,H⟩:=ob H
 by_cases c4:q1=0
 ·rw [if_pos c4] at H
  have c4b0:(q1 == 0)=true:=beq_iff_eq.mpr c4
  have c4b1:(q1 != 0)=false:=bne_eq_false_iff_eq.mpr c4
  clear c4
  by_cases c5:(l1_1.length:Int)=0
  ·rw [if_pos c5] at H
   have c5b0:((l1_1.length:Int) == 0)=true:=beq_iff_eq.mpr c5
   have c5b1:((l1_1.length:Int) != 0)=false:=bne_eq_false_iff_eq.mpr c5
   clear c5
   simp only [Option.some.injEq,Prod.mk.injEq] at H
   obtain ⟨rfl,rfl,rfl,rfl⟩:=H
   exact Zbu.leaf
  ·rw [if_neg c5] at H
   have c5b0:((l1_1.length:Int) == 0)=false:=beq_eq_false_iff_ne.mpr c5
   have c5b1:((l1_1.length:Int) != 0)=true:=bne_iff_ne.mpr c5
   have c5b2:¬ (l1_1=[]):=fun h_=>c5 (by rw [h_];rfl)
   obtain ⟨ja,A20,H⟩:=ob H
   obtain ⟨jb,A21,H⟩:=ob H
   obtain ⟨ji22,hji22⟩:∃ j_:Int,(mx (wrap64 ((wrap64 ((wrap64 (ja - jb))+40))+2)) 0)=j_:=⟨_,rfl⟩
   replace H:((Zbs.f k (ji22)).bind fun qq=>((Zc2.f k l0_1 qq).bind fun q5=>((Zp.f q5.1 q5.2).bind fun qy=>((Zdi.f k qy l1_1).bind fun q6=>((Zco.f k q6.1 40).bind fun qc=>((Zbk.f k qc.1 qc.2.1 qc.2.2 (decide ((q6.2.1.length:Int) > 0))).bind fun jl=>(if jl=true then ((Zcj.f k 1).bind fun qv=>((Zed.f k qc.1 qv).bind fun qx=>((Zp.f qx.1 qx.2).bind fun jh=>((Zaq.f k (a0_0 != a1_0) jh (wrap64 ((wrap64 ((wrap64 (a0_2 - a1_2)) - (ji22)))+qc.2.2))).bind fun qk=>(some (qk.1,qk.2.1,qk.2.2.1,qk.2.2.2)))))) else ((Zaq.f k (a0_0 != a1_0) qc.1 (wrap64 ((wrap64 ((wrap64 (a0_2 - a1_2)) - (ji22)))+qc.2.2))).bind fun ql=>(some (ql.1,ql.2.1,ql.2.2.1,ql.2.2.2))))))))))=some (r1,r2,r3,r4):=by first|(rw [hji22] at H;exact H)|(simp only [hji22] at H ⊢;exact H)
   (try rw [hji22] at A3)
   (try rw [hji22] at A20)
   (try rw [hji22] at A21)
   (try (have hji22l:0<=ji22:=by (rw [<- hji22];unfold mx;(repeat' split) <;> omega)))
   (try (have hji22m:0<=ji22:=by omega))
   have hji22_:(if (wrap64 ((wrap64 ((wrap64 (ja - jb))+40))+2)) < 0 then 0 else (wrap64 ((wrap64 ((wrap64 (ja - jb))+40))+2)))=ji22:=hji22
   obtain ⟨qq,A23,H⟩:=ob H
   obtain ⟨⟨j4,qap⟩,A24,H⟩:=ob H;(try dsimp only at H)
   obtain ⟨qy,A25,H⟩:=ob H
   replace H:=Option.bind_eq_some_iff.mp H
   obtain ⟨⟨jg,q2,qbf⟩,qax,H⟩:=H
   replace H:((Zco.f k jg 40).bind fun qc=>((Zbk.f k qc.1 qc.2.1 qc.2.2 (decide (0 < q2.length))).bind fun jl=>(if jl=true then ((Zcj.f k 1).bind fun qv=>((Zed.f k qc.1 qv).bind fun qx=>((Zp.f qx.1 qx.2).bind fun jh=>((Zaq.f k (a0_0 != a1_0) jh (wrap64 ((wrap64 ((wrap64 (a0_2 - a1_2)) - (ji22)))+qc.2.2))).bind fun qk=>(some (qk.1,qk.2.1,qk.2.2.1,qk.2.2.2)))))) else ((Zaq.f k (a0_0 != a1_0) qc.1 (wrap64 ((wrap64 ((wrap64 (a0_2 - a1_2)) - (ji22)))+qc.2.2))).bind fun ql=>(some (ql.1,ql.2.1,ql.2.2.1,ql.2.2.2))))))=some (r1,r2,r3,r4):=by rw [show decide (0 < q2.length)=decide ((q2.length:Int) > 0) by simp];exact H
   have A26:=am qax
   clear qax
   obtain ⟨⟨q0,jf,jn⟩,A27,H⟩:=ob H;(try dsimp only at H)
   obtain ⟨jl,A28,H⟩:=ob H
   by_cases c29:jl=true
   ·subst c29
    rw [if_pos rfl] at H
    obtain ⟨qv,A30,H⟩:=ob H
    obtain ⟨⟨j5,qaq⟩,A31,H⟩:=ob H;(try dsimp only at H)
    obtain ⟨jh,A32,H⟩:=ob H
    obtain ⟨⟨qar,qas,qat,qbg⟩,A33,H⟩:=ob H;(try dsimp only at H)
    simp only [Option.some.injEq,Prod.mk.injEq] at H
    obtain ⟨rfl,rfl,rfl,rfl⟩:=H
    exact Zbu.leaf
   ·replace c29:=Bool.eq_false_iff.mpr c29
    subst c29
    rw [if_neg (show ¬ (false=true) by decide)] at H
    obtain ⟨⟨qau,qav,qaw,qbh⟩,A75,H⟩:=ob H;(try dsimp only at H)
    simp only [Option.some.injEq,Prod.mk.injEq] at H
    obtain ⟨rfl,rfl,rfl,rfl⟩:=H
    exact Zbu.leaf
 ·rw [if_neg c4] at H
  have c4b0:(q1 == 0)=false:=beq_eq_false_iff_ne.mpr c4
  have c4b1:(q1 != 0)=true:=bne_iff_ne.mpr c4
  simp only [Option.some.injEq,Prod.mk.injEq] at H
  obtain ⟨rfl,rfl,rfl,rfl⟩:=H
  exact Zbu.leaf
def Zcf.f (k:Nat) (a0_0:Bool) (l0_1:List Int) (a0_2:Int):Option (Bool × List Int × Int × Int):=(Zbg.f k a0_0 l0_1 a0_2).bind fun qe=>(if qe=0 then (if a0_0=true then (some (false,([]:List Int),0,4)) else ((Zbz.f k l0_1).bind fun qf=>((Zbs.f k (wrap64 ((mx (wrap64 (80 - qf)) 0)+(Go.bits .and .i64 (wrap64 (a0_2 - (mx (wrap64 (80 - qf)) 0))) 1)))).bind fun qj=>((Zc2.f k l0_1 qj).bind fun qg=>((Zp.f qg.1 qg.2).bind fun qk=>((Zfq.f k qk).bind fun qh=>((Zp.f qh.1 qh.2).bind fun qm=>((Zco.f k qm 40).bind fun qi=>((Zaq.f k false qi.1 (wrap64 ((wrap64 (Int.tdiv (wrap64 (a0_2 - (wrap64 ((mx (wrap64 (80 - qf)) 0)+(Go.bits .and .i64 (wrap64 (a0_2 - (mx (wrap64 (80 - qf)) 0))) 1))))) 2))+qi.2.2))).bind fun qc=>(some (qc.1,qc.2.1,qc.2.2.1,qc.2.2.2))))))))))) else (some (false,([]:List Int),0,qe)))
def Zcf.T8:Bool × List (List Nat × List Nat):=(true,[([],[]),([0],[0]),([],[]),([2],[2]),([1,3,3],[1,3]),([4],[4]),([4],[4]),([5,6,4],[5,6]),([7,7],[7]),([8],[8]),([8],[8]),([9,10,8],[9,10]),([11,11,0,1,2,3,4,5,6,7,8,9,10,11],[11])])
def Zcf.B8:List Nat:=[0,1,0,4,15,31,31,127,255,511,511,2047,4095]
theorem Zcf.tab8:rtab .any (opsOf Tryz.f26 8)=Zcf.T8:=by kernel_rfl
theorem Zcf.bits8:waitsOk Zcf.T8.2 Zcf.B8=true:=by kernel_rfl
theorem Zcf.leaf {P:Prop} (h:P:=by
 go_enter Tryz.func26,Tryz.ntmps26
 try go_wp2_with (first|((with_reducible refine gd 1 ?_);refine bx 1 #[.bool false,.slice A0_1 l0_1.length c0_1,.int .i64 a0_2] 24 (h:=?_);intro gb0z hg w1z hbox hb;have BK2z:=am hbox;have GW3z:=gW hg;have GE4z:=gW hg;replace HB:=bS hb;clear hb hbox hg)|((with_reducible refine gd 2 ?_);refine bx 2 #[.bool false,.slice none 0 0,.int .i64 0] 24 (h:=?_);intro gb5z hg w6z hbox hb;have BK7z:=am hbox;have GW8z:=gW hg;have jq:=nL hg BK2z;have jr:=nG hg BK2z;replace BK2z:=bb BK2z hb;replace HB:=bS hb;clear hb hbox hg;have jx:=jq.o;have jy:=jr.o;obtain ⟨_,_,_,_,_,_⟩:=cEc BK2z.o)|(refine gL (some 11) Tryz.func55 #[.agg #[.bool false,.slice A0_1 l0_1.length c0_1,.int .i64 a0_2]] (h:=?_);(with_reducible refine (Zbg.calls k false _ _ l0_1 a0_2 qe _ ?side1 ?side2 A2.o).mono ?_);(case side1=>exact cB HR0_1 HB);(case side2=>exact HC0_1.o);rintro e w20z ⟨rfl,hb⟩;refine ⟨_,rfl,?_⟩;replace BK2z:=bb BK2z hb;replace BK7z:=bb BK7z hb;replace HB:=bS hb;obtain ⟨qy,qz,q0,q1,q2,q3⟩:=cEc BK2z.o)|(refine gL (some 21) Tryz.func68 #[.slice A0_1 l0_1.length c0_1] (h:=?_);(with_reducible refine (Zbz.calls k _ _ l0_1 qf _ ?side1 ?side2 A12.o).mono ?_);(case side1=>exact cB HR0_1 HB);(case side2=>exact HC0_1.o);rintro e w27z ⟨rfl,hb⟩;refine ⟨_,rfl,?_⟩;replace BK2z:=bb BK2z hb;replace BK7z:=bb BK7z hb;replace HB:=bS hb;obtain ⟨jd,je,_,jf,jg,_⟩:=cEc BK2z.o)|((with_reducible refine gd 1 ?_);refine bx 1 #[.bool true,.slice A0_1 l0_1.length c0_1,.int .i64 a0_2] 24 (h:=?_);intro gb0z hg w1z hbox hb;have BK2z:=am hbox;have GW3z:=gW hg;have GE4z:=gW hg;replace HB:=bS hb;clear hb hbox hg)|(refine gL (some 11) Tryz.func55 #[.agg #[.bool true,.slice A0_1 l0_1.length c0_1,.int .i64 a0_2]] (h:=?_);(with_reducible refine (Zbg.calls k true _ _ l0_1 a0_2 qe _ ?side1 ?side2 A2.o).mono ?_);(case side1=>exact cB HR0_1 HB);(case side2=>exact HC0_1.o);rintro e w20z ⟨rfl,hb⟩;refine ⟨_,rfl,?_⟩;replace BK2z:=bb BK2z hb;replace BK7z:=bb BK7z hb;replace HB:=bS hb;obtain ⟨qy,qz,q0,q1,q2,q3⟩:=cEc BK2z.o;obtain ⟨_,jd,je,_,jf,jg⟩:=cEc BK7z.o)|((with_reducible refine gd 1 ?_);refine bx 1 #[.bool a0_0,.slice A0_1 l0_1.length c0_1,.int .i64 a0_2] 24 (h:=?_);intro gb0z hg w1z hbox hb;have BK2z:=am hbox;have GW3z:=gW hg;have GE4z:=gW hg;replace HB:=bS hb;clear hb hbox hg)|(refine gL (some 11) Tryz.func55 #[.agg #[.bool a0_0,.slice A0_1 l0_1.length c0_1,.int .i64 a0_2]] (h:=?_);(with_reducible refine (Zbg.calls k a0_0 _ _ l0_1 a0_2 qe _ ?side1 ?side2 A2.o).mono ?_);(case side1=>exact cB HR0_1 HB);(case side2=>exact HC0_1.o);rintro e w20z ⟨rfl,hb⟩;refine ⟨_,rfl,?_⟩;replace BK2z:=bb BK2z hb;replace BK7z:=bb BK7z hb;replace HB:=bS hb;obtain ⟨qy,qz,q0,q1,q2,q3⟩:=cEc BK7z.o))
 first
  | have q_:=A20
    replace BK2z:=am (Zar BK2z.o)
    replace BK7z:=am (Zar BK7z.o)
    replace HB:=am (Zav HB.o)
    refine start_ (n:=13) (S:=fun w'=>w'.cell? ⟨gb0z,0,none⟩=some (.bool false)/\w'.cell? ⟨gb0z,1,none⟩=some (.slice A0_1 l0_1.length c0_1)/\w'.cell? ⟨gb0z,2,none⟩=some (.int .i64 a0_2)) (ds:=[]) #[false,false,false,false,false,false,false,false,false,false,false,false,false] (by kernel_rfl) rfl rfl ⟨k0 BK2z 0,k0 BK2z 1,k0 BK2z 2⟩ (fun hHeld=>?_);refine Zb6 Zcf.tab8 Zcf.bits8 (fun HT_ HW_=>?_)
    generalize w27z.drew=w34z at BK2z BK7z HB hHeld ⊢
    refine pu 0 (some 31) #[true,false,false,false,false,false,false,false,false,false,false,false,false] (h:=?_)
    refine pu 2 (some 33) #[true,false,true,false,false,false,false,false,false,false,false,false,false] (h:=?_)
    refine take_ (i:=1) (N:=some 32) (v:=?_) (a':=?_) #[true,true,true,false,false,false,false,false,false,false,false,false,false] rfl rfl (Zay HT_.out HW_.out (by kernel_rfl)) (fun _ _ _ h=>h) (Or.inl ⟨by rfl,?_⟩) hHeld ?_ ?_
    rotate_left
    ·rintro w' ⟨s35z,s36z,s37z⟩
     go_simp
     with_reducible rfl
    rotate_left
    ·exact pP
    refine one_ (i:=3) (N:=some 34) #[true,true,true,true,false,false,false,false,false,false,false,false,false] rfl rfl (Zbh HT_.out (by kernel_rfl)) (by decide) (fun K hK=>?_)
    refine goes_ Tryz.func72 (by kernel_rfl) rfl #[.int .i64 (wrap64 ((ji13)+(Go.bits .and .i64 (wrap64 (a0_2 - (ji13))) 1)))] (by rfl) rfl rfl (by (try simp only [List.map_toArray,List.map_cons,List.map_nil]);first|done|(simp only [hji13];rfl)|rfl|(simp only [List.length_drop,List.length_take];rfl)) ?_
    with_reducible refine (Zbs.calls k (wrap64 ((ji13)+(Go.bits .and .i64 (wrap64 (a0_2 - (ji13))) 1))) qj _ A14.o).mono ?_
    rintro e w38z ⟨v39z,rfl,ho40z,hb⟩
    refine ⟨_,rfl,?_⟩
    have qa:=am (Kd.Zo ho40z (Zd pB))
    replace BK2z:=bb BK2z hb
    replace BK7z:=bb BK7z hb
    replace HB:=bS hb
    obtain ⟨qp,qq,q9⟩:=Kd.Zj qa.o
    (first|subst q9|(injection q9 with f1_ f2_ f3_;have f4_:=f1_.symm;have f5_:=f3_.symm;clear f1_ f2_ f3_;subst f4_;subst f5_))
    refine hK.out _ _ ⟨k0 BK2z 0,k0 BK2z 1,k0 BK2z 2⟩ (fun hHeld=>?_)
    clear hK K
    refine norm_ (a':=?_) ?_ ?_
    rotate_left
    ·show Act.put _ (some 34) _=_
     exact pP
    refine one_ (i:=4) (N:=some 35) #[true,true,true,true,true,false,false,false,false,false,false,false,false] rfl rfl (Zbh HT_.out (by kernel_rfl)) (by decide) (fun K hK=>?_)
    refine goes_ Tryz.func71 (by kernel_rfl) rfl #[.slice A0_1 l0_1.length c0_1,.slice qp qj.length qq] (by rfl) rfl rfl pA ?_
    with_reducible refine (Zc2.calls k _ _ l0_1 _ _ qj q4 jh _ ?side1 ?side2 ?side3 ?side4 A15.o).mono ?_
    (case side1=>exact cB HR0_1 HB)
    (case side2=>exact HC0_1.o)
    (case side3=>exact Kd.Zn (Kd.Zc qa.o).2.2 pl)
    (case side4=>exact (Kd.Zc qa.o).2.1)
    rintro e w45z ⟨v46z,rfl,ho40z,hb⟩
    refine ⟨_,rfl,?_⟩
    have qn:=am (Kd.Zo (Kd.Zs ho40z (Kd.R_lt (Kd.Za qa.o pl))) (Zd pB))
    replace qa:=reR qa ho40z hb
    replace BK2z:=bb BK2z hb
    replace BK7z:=bb BK7z hb
    replace HB:=bS hb
    obtain ⟨qr,qv,ja⟩:=Kd.Zj qn.o
    (first|subst ja|(injection ja with f1_ f2_ f3_;have f4_:=f1_.symm;have f5_:=f3_.symm;clear f1_ f2_ f3_;subst f4_;subst f5_))
    refine hK.out _ _ ⟨k0 BK2z 0,k0 BK2z 1,k0 BK2z 2⟩ (fun hHeld=>?_)
    clear hK K
    refine norm_ (a':=?_) ?_ ?_
    rotate_left
    ·show Act.put _ (some 35) _=_
     exact pP
    refine pu 5 (some 36) #[true,true,true,true,true,true,false,false,false,false,false,false,false] (h:=?_)
    refine pu 6 (some 37) #[true,true,true,true,true,true,true,false,false,false,false,false,false] (h:=?_)
    refine one_ (i:=7) (N:=some 38) #[true,true,true,true,true,true,true,true,false,false,false,false,false] rfl rfl (Zbh HT_.out (by kernel_rfl)) (by decide) (fun K hK=>?_)
    refine goes_ Tryz.func70 (by kernel_rfl) rfl #[.slice qr q4.length qv,.int .i64 jh] (by rfl) rfl rfl pA ?_
    with_reducible refine (Zp.calls (fun k_=>some k_=(.slice qr q4.length qv:Value).ownBlock) (.slice qr q4.length qv) q4 jh qk w _ ?side1 ?side2 A16.o).mono ?_
    (case side1=>exact pB)
    (case side2=>exact Kd.Zbj rfl qn.o)
    rintro e w51z ⟨v52z,rfl,ho40z,hb,hkp⟩
    refine ⟨_,rfl,?_⟩
    have qb:=am (Kd.Zh (ok':=fun k_=>some k_ ≠ (.slice qp qj.length qq:Value).ownBlock) ho40z (fun k_ hk_=>Or.elim hk_ (fun hs_=>fun e_=>(((qa.o).1 k_ e_.symm).2) hs_) (fun hn_=>(Kd.fresh' (Kd.R_lt (Kd.Za qa.o pl)) k_ hn_))))
    replace BK2z:=am (Za0 (Zb BK2z.o pl) hkp (fun e_=>Kd.R_ne qn.o BK2z.o (by decide) e_))
    replace BK7z:=am (Za0 (Zb BK7z.o pl) hkp (fun e_=>Kd.R_ne qn.o BK7z.o (by decide) e_))
    replace qa:=am (Kd.Zh (ok':=fun k_=>some k_ ≠ (v52z:Value).ownBlock) (Kd.Zcb (qa.o) hkp (fun k_ hk_ hs_=>(hk_.2) hs_)) (fun k_ hk_=>fun e_=>Or.elim (ho40z.1 k_ e_.symm) (fun hs_=>hk_.2.1 hs_) (fun hn_=>Nat.not_le.2 hk_.2.2 hn_)))
    replace HB:=am hb
    clear qn
    obtain ⟨qs,qw,jb⟩:=Kd.Zj qb.o
    (first|subst jb|(injection jb with f1_ f2_ f3_;have f4_:=f1_.symm;have f5_:=f3_.symm;clear f1_ f2_ f3_;subst f4_;subst f5_))
    refine hK.out _ _ ⟨k0 BK2z 0,k0 BK2z 1,k0 BK2z 2⟩ (fun hHeld=>?_)
    clear hK K
    refine norm_ (a':=?_) ?_ ?_
    rotate_left
    ·show Act.put _ (some 38) _=_
     exact pP
    refine one_ (i:=8) (N:=some 39) #[true,true,true,true,true,true,true,true,true,false,false,false,false] rfl rfl (Zbh HT_.out (by kernel_rfl)) (by decide) (fun K hK=>?_)
    refine goes_ Tryz.func82 (by kernel_rfl) rfl #[.slice qs qk.length qw] (by rfl) rfl rfl pA ?_
    with_reducible refine (Zfq.calls k _ _ qk q5 ji _ ?side1 ?side2 A17.o).mono ?_
    (case side1=>exact Kd.Zn (Kd.Zc qb.o).2.2 pl)
    (case side2=>exact (Kd.Zc qb.o).2.1)
    rintro e w57z ⟨v58z,rfl,ho40z,hb⟩
    refine ⟨_,rfl,?_⟩
    have qo:=am (Kd.Zo (Kd.Zs (Kd.Zs ho40z (Kd.R_lt (Kd.Za qa.o pl))) (Kd.R_lt (Kd.Za qb.o pl))) (Zd pB))
    replace qa:=reR qa ho40z hb
    replace qb:=reR qb ho40z hb
    replace BK2z:=bb BK2z hb
    replace BK7z:=bb BK7z hb
    replace HB:=bS hb
    obtain ⟨qt,qx,jc⟩:=Kd.Zj qo.o
    (first|subst jc|(injection jc with f1_ f2_ f3_;have f4_:=f1_.symm;have f5_:=f3_.symm;clear f1_ f2_ f3_;subst f4_;subst f5_))
    refine hK.out _ _ ⟨k0 BK2z 0,k0 BK2z 1,k0 BK2z 2⟩ (fun hHeld=>?_)
    clear hK K
    refine norm_ (a':=?_) ?_ ?_
    rotate_left
    ·show Act.put _ (some 39) _=_
     exact pP
    refine pu 9 (some 40) #[true,true,true,true,true,true,true,true,true,true,false,false,false] (h:=?_)
    refine pu 10 (some 41) #[true,true,true,true,true,true,true,true,true,true,true,false,false] (h:=?_)
    refine one_ (i:=11) (N:=some 42) #[true,true,true,true,true,true,true,true,true,true,true,true,false] rfl rfl (Zbh HT_.out (by kernel_rfl)) (by decide) (fun K hK=>?_)
    refine goes_ Tryz.func70 (by kernel_rfl) rfl #[.slice qt q5.length qx,.int .i64 ji] (by rfl) rfl rfl pA ?_
    with_reducible refine (Zp.calls (fun k_=>some k_=(.slice qt q5.length qx:Value).ownBlock) (.slice qt q5.length qx) q5 ji qm w _ ?side1 ?side2 A18.o).mono ?_
    (case side1=>exact pB)
    (case side2=>exact Kd.Zbj rfl qo.o)
    rintro e w63z ⟨v64z,rfl,ho40z,hb,hkp⟩
    refine ⟨_,rfl,?_⟩
    have qd:=am (Kd.Zh (ok':=fun k_=>some k_ ≠ (.slice qp qj.length qq:Value).ownBlock/\some k_ ≠ (.slice qs qk.length qw:Value).ownBlock) ho40z (fun k_ hk_=>⟨Or.elim hk_ (fun hs_=>fun e_=>(((qa.o).1 k_ e_.symm).2) hs_) (fun hn_=>(Kd.fresh' (Kd.R_lt (Kd.Za qa.o pl)) k_ hn_)),Or.elim hk_ (fun hs_=>fun e_=>(((qb.o).1 k_ e_.symm).2) hs_) (fun hn_=>(Kd.fresh' (Kd.R_lt (Kd.Za qb.o pl)) k_ hn_))⟩))
    replace BK2z:=am (Za0 (Zb BK2z.o pl) hkp (fun e_=>Kd.R_ne qo.o BK2z.o (by decide) e_))
    replace BK7z:=am (Za0 (Zb BK7z.o pl) hkp (fun e_=>Kd.R_ne qo.o BK7z.o (by decide) e_))
    replace qa:=am (Kd.Zh (ok':=fun k_=>some k_ ≠ (.slice qs qk.length qw:Value).ownBlock/\some k_ ≠ (v64z:Value).ownBlock) (Kd.Zcb (qa.o) hkp (fun k_ hk_ hs_=>(hk_.2) hs_)) (fun k_ hk_=>⟨hk_.1.1,fun e_=>Or.elim (ho40z.1 k_ e_.symm) (fun hs_=>hk_.2.1 hs_) (fun hn_=>Nat.not_le.2 hk_.2.2 hn_)⟩))
    replace qb:=am (Kd.Zh (ok':=fun k_=>some k_ ≠ (.slice qp qj.length qq:Value).ownBlock/\some k_ ≠ (v64z:Value).ownBlock) (Kd.Zcb (qb.o) hkp (fun k_ hk_ hs_=>(hk_.2) hs_)) (fun k_ hk_=>⟨hk_.1.1,fun e_=>Or.elim (ho40z.1 k_ e_.symm) (fun hs_=>hk_.2.1 hs_) (fun hn_=>Nat.not_le.2 hk_.2.2 hn_)⟩))
    replace HB:=am hb
    clear qo
    refine hK.out _ _ ⟨k0 BK2z 0,k0 BK2z 1,k0 BK2z 2⟩ (fun hHeld=>?_)
    clear hK K
    refine norm_ (a':=?_) ?_ ?_
    rotate_left
    ·show Act.put _ (some 42) _=_
     exact pP
    refine pu 12 (some 6) #[true,true,true,true,true,true,true,true,true,true,true,true,true] (h:=?_)
    refine done_ (Zde HT_.out (by kernel_rfl)) ?_
    obtain ⟨jo,js,ju⟩:=Kd.Zj qd.o
    subst ju
    try go_wp2_with (first|(refine gL (some 45) Tryz.func73 #[.slice jo qm.length js,.int .i64 40] (h:=?_);(with_reducible refine (Zco.calls k _ _ qm 40 jj jz jk _ ?side1 ?side2 A19.o).mono ?_);(case side1=>exact Kd.Zn (Kd.Zc qd.o).2.2 pl);(case side2=>exact (Kd.Zc qd.o).2.1);rintro e w69z ⟨v70z,v71z,rfl,ho40z,ho72z,hb⟩;refine ⟨_,rfl,?_⟩;have ql:=am (Kd.Zo (Kd.Zs (Kd.Zs (Kd.Zs ho40z (Kd.R_lt (Kd.Za qa.o pl))) (Kd.R_lt (Kd.Za qb.o pl))) (Kd.R_lt (Kd.Za qd.o pl))) (Zd pB));have qu:=am (Kd.Zo (Kd.Zs (Kd.Zs (Kd.Zs ho72z (Kd.R_lt (Kd.Za qa.o pl))) (Kd.R_lt (Kd.Za qb.o pl))) (Kd.R_lt (Kd.Za qd.o pl))) (Zd pB));replace qa:=am (Kd.Zh (Kd.Zda (Kd.Zda (Kd.Zf2 (Kd.Za qa.o pl) hb) (Kd.Zaz ho40z)) (Kd.Zaz ho72z)) (fun _ h_=>h_.1));replace qb:=am (Kd.Zh (Kd.Zda (Kd.Zda (Kd.Zf2 (Kd.Za qb.o pl) hb) (Kd.Zaz ho40z)) (Kd.Zaz ho72z)) (fun _ h_=>h_.1));replace qd:=am (Kd.Zh (Kd.Zda (Kd.Zda (Kd.Zf2 (Kd.Za qd.o pl) hb) (Kd.Zaz ho40z)) (Kd.Zaz ho72z)) (fun _ h_=>h_.1));replace BK2z:=bb BK2z hb;replace BK7z:=bb BK7z hb;replace HB:=bS hb;obtain ⟨_,_,_,_,_,_⟩:=cEc BK2z.o;obtain ⟨jp,jt,jv⟩:=Kd.Zj ql.o;subst jv)|((with_reducible refine Zd5 (f:=60) rfl ?_);refine goesL_ (some 57) rfl rfl Tryz.func60 (by kernel_rfl) rfl #[.bool false,.slice jp jj.length jt,.int .i64 (wrap64 ((wrap64 (Int.tdiv (wrap64 (a0_2 - (wrap64 ((ji13)+(Go.bits .and .i64 (wrap64 (a0_2 - (ji13))) 1))))) 2))+jk))] rfl (by (try simp only [List.map_toArray,List.map_cons,List.map_nil]);first|done|(simp only [hji13];rfl)|rfl|(simp only [List.length_drop,List.length_take];rfl)) ?_;(with_reducible refine (Zaq.calls k false _ _ jj (wrap64 ((wrap64 (Int.tdiv (wrap64 (a0_2 - (wrap64 ((ji13)+(Go.bits .and .i64 (wrap64 (a0_2 - (ji13))) 1))))) 2))+jk)) jl jm jn j0 _ ?side1 ?side2 A20.o).mono ?_);(case side1=>exact Kd.Zn (Kd.Zc ql.o).2.2 pl);(case side2=>exact (Kd.Zc ql.o).2.1);rintro e w84z ⟨v85z,rfl,ho40z,hb⟩;refine ⟨_,rfl,?_⟩;have q7:=am (Kd.Zo (Kd.Zs (Kd.Zs (Kd.Zs (Kd.Zs (Kd.Zs ho40z (Kd.R_lt (Kd.Za qa.o pl))) (Kd.R_lt (Kd.Za qb.o pl))) (Kd.R_lt (Kd.Za qd.o pl))) (Kd.R_lt (Kd.Za ql.o pl))) (Kd.R_lt (Kd.Za qu.o pl))) (Zd pB));replace qa:=reR qa ho40z hb;replace qb:=reR qb ho40z hb;replace qd:=reR qd ho40z hb;replace ql:=reR ql ho40z hb;replace qu:=reR qu ho40z hb;replace BK2z:=bb BK2z hb;replace BK7z:=bb BK7z hb;replace HB:=bS hb;obtain ⟨_,_,_,_,_,_⟩:=cEc BK7z.o;obtain ⟨q6,q8,jw⟩:=Kd.Zj q7.o;subst jw))
    refine bodyPost_ret (Za1 rfl _ _ gb5z 24 #[.bool jl,.slice q6 jm.length q8,.int .i64 jn] (0,0) _ rfl (by exact p3 BK7z) Tryz.underlying24 rfl (by kernel_rfl)) rfl ?_
    exact ⟨_,by first|rfl|(simp [Zak,Zal] <;> rfl)|(simp only [<- hji13];first|rfl|(simp [Zak,Zal] <;> rfl))|(simp [*,Zak,Zal] <;> rfl),by refine rp ?_;exact Kd.Zh (Kd.Zr (p:=⟨gb5z,2,none⟩) (Kd.Zr (p:=⟨gb5z,1,none⟩) (Kd.Zr (p:=⟨gb5z,0,none⟩) (Kd.Zaa q7.o BK7z.o (by decide)) (fun _ hk=>hk.2) (.bool jl)) (fun _ hk=>hk.2) (.slice q6 jm.length q8)) (fun _ hk=>hk.2) (.int .i64 jn)) (fun _ hk=>trivial),pB⟩
  | refine bodyPost_ret (Za1 rfl _ _ gb5z 24 #[.bool false,.slice none 0 0,.int .i64 0] (0,0) _ rfl (by exact p3 BK7z) Tryz.underlying24 rfl (by kernel_rfl)) rfl ?_
    exact ⟨_,pE,pN,pB⟩):P:=h
theorem Zcf.calls (k:Nat) (a0_0:Bool) (A0_1:Option Addr) (c0_1:Nat) (l0_1:List Int) (a0_2:Int) (r1:Bool) (r2:List Int) (r3:Int) (r4:Int) (w:World) (hr0_1:Kd.C (Kd.int .u32) w A0_1 l0_1.length l0_1) (hc0_1:l0_1.length<=c0_1) (h:Zcf.f k a0_0 l0_1 a0_2=some (r1,r2,r3,r4)) :
  Calls Tryz.prog 26 #[.agg #[.bool a0_0,.slice A0_1 l0_1.length c0_1,.int .i64 a0_2]] w fun e w' => ∃ v1_:Value,e=.returned (.tuple #[.agg #[.bool r1,v1_,.int .i64 r3],.int .i64 r4])/\Kd.R (Kd.int .u32) 85 w' w.heap.size (fun _=>True) v1_ r2/\Below w.heap.size w w':=by
 have hu24:=Tryz.underlying24
 have HR0_1:=am hr0_1
 have HC0_1:=am hc0_1
 clear hr0_1 hc0_1
 have HB:=am (Below.refl w.heap.size w)
 have H:((Zbg.f k a0_0 l0_1 a0_2).bind fun qe=>(if qe=0 then (if a0_0=true then (some (false,([]:List Int),0,4)) else ((Zbz.f k l0_1).bind fun qf=>((Zbs.f k (wrap64 ((mx (wrap64 (80 - qf)) 0)+(Go.bits .and .i64 (wrap64 (a0_2 - (mx (wrap64 (80 - qf)) 0))) 1)))).bind fun qj=>((Zc2.f k l0_1 qj).bind fun qg=>((Zp.f qg.1 qg.2).bind fun qk=>((Zfq.f k qk).bind fun qh=>((Zp.f qh.1 qh.2).bind fun qm=>((Zco.f k qm 40).bind fun qi=>((Zaq.f k false qi.1 (wrap64 ((wrap64 (Int.tdiv (wrap64 (a0_2 - (wrap64 ((mx (wrap64 (80 - qf)) 0)+(Go.bits .and .i64 (wrap64 (a0_2 - (mx (wrap64 (80 - qf)) 0))) 1))))) 2))+qi.2.2))).bind fun qc=>(some (qc.1,qc.2.1,qc.2.2.1,qc.2.2.2))))))))))) else (some (false,([]:List Int),0,qe))))=some (r1,r2,r3,r4):=h
 clear h
 obtain ⟨qe,A2,H⟩:=ob H
 by_cases c3:qe=0
 ·rw [if_pos c3] at H
  have c3b0:(qe == 0)=true:=beq_iff_eq.mpr c3
  have c3b1:(qe != 0)=false:=bne_eq_false_iff_eq.mpr c3
  clear c3
  by_cases c4:a0_0=true
  ·subst c4
   rw [if_pos rfl] at H
   simp only [Option.some.injEq,Prod.mk.injEq] at H
   obtain ⟨rfl,rfl,rfl,rfl⟩:=H
   exact Zcf.leaf
  ·replace c4:=Bool.eq_false_iff.mpr c4
   subst c4
   rw [if_neg (show ¬ (false=true) by decide)] at H
   obtain ⟨qf,A12,H⟩:=ob H
   obtain ⟨ji13,hji13⟩:∃ j_:Int,(mx (wrap64 (80 - qf)) 0)=j_:=⟨_,rfl⟩
   replace H:((Zbs.f k (wrap64 ((ji13)+(Go.bits .and .i64 (wrap64 (a0_2 - (ji13))) 1)))).bind fun qj=>((Zc2.f k l0_1 qj).bind fun qg=>((Zp.f qg.1 qg.2).bind fun qk=>((Zfq.f k qk).bind fun qh=>((Zp.f qh.1 qh.2).bind fun qm=>((Zco.f k qm 40).bind fun qi=>((Zaq.f k false qi.1 (wrap64 ((wrap64 (Int.tdiv (wrap64 (a0_2 - (wrap64 ((ji13)+(Go.bits .and .i64 (wrap64 (a0_2 - (ji13))) 1))))) 2))+qi.2.2))).bind fun qc=>(some (qc.1,qc.2.1,qc.2.2.1,qc.2.2.2)))))))))=some (r1,r2,r3,r4):=by first|(rw [hji13] at H;exact H)|(simp only [hji13] at H ⊢;exact H)
   (try rw [hji13] at A2)
   (try rw [hji13] at A12)
   (try (have hji13l:0<=ji13:=by (rw [<- hji13];unfold mx;(repeat' split) <;> omega)))
   (try (have hji13m:0<=ji13:=by omega))
   have hji13_:(if (wrap64 (80 - qf)) < 0 then 0 else (wrap64 (80 - qf)))=ji13:=hji13
   obtain ⟨qj,A14,H⟩:=ob H
   obtain ⟨⟨q4,jh⟩,A15,H⟩:=ob H;(try dsimp only at H)
   obtain ⟨qk,A16,H⟩:=ob H
   obtain ⟨⟨q5,ji⟩,A17,H⟩:=ob H;(try dsimp only at H)
   obtain ⟨qm,A18,H⟩:=ob H
   obtain ⟨⟨jj,jz,jk⟩,A19,H⟩:=ob H;(try dsimp only at H)
   obtain ⟨⟨jl,jm,jn,j0⟩,A20,H⟩:=ob H;(try dsimp only at H)
   simp only [Option.some.injEq,Prod.mk.injEq] at H
   obtain ⟨rfl,rfl,rfl,rfl⟩:=H
   exact Zcf.leaf
 ·rw [if_neg c3] at H
  have c3b0:(qe == 0)=false:=beq_eq_false_iff_ne.mpr c3
  have c3b1:(qe != 0)=true:=bne_iff_ne.mpr c3
  simp only [Option.some.injEq,Prod.mk.injEq] at H
  obtain ⟨rfl,rfl,rfl,rfl⟩:=H
  exact Zcf.leaf
def Za9.f (k:Nat) (a0_0:Bool) (l0_1:List Int) (a0_2:Int) (a1_0:Bool) (l1_1:List Int) (a1_2:Int):Option (Int):=(Zai.f k a0_0 l0_1 a0_2 a1_0 l1_1 a1_2).bind fun qe=>(some qe)
theorem Za9.calls (k:Nat) (a0_0:Bool) (A0_1:Option Addr) (c0_1:Nat) (l0_1:List Int) (a0_2:Int) (a1_0:Bool) (A1_1:Option Addr) (c1_1:Nat) (l1_1:List Int) (a1_2:Int) (r:Int) (w:World) (hr0_1:Kd.C (Kd.int .u32) w A0_1 l0_1.length l0_1) (hc0_1:l0_1.length<=c0_1) (hr1_1:Kd.C (Kd.int .u32) w A1_1 l1_1.length l1_1) (hc1_1:l1_1.length<=c1_1) (h:Za9.f k a0_0 l0_1 a0_2 a1_0 l1_1 a1_2=some r) :
  Calls Tryz.prog 25 #[.agg #[.bool a0_0,.slice A0_1 l0_1.length c0_1,.int .i64 a0_2],.agg #[.bool a1_0,.slice A1_1 l1_1.length c1_1,.int .i64 a1_2]] w fun e w'=>e=.returned (.int .i64 r)/\Below w.heap.size w w':=by
 have hu24:=Tryz.underlying24
 have HR0_1:=am hr0_1
 have HC0_1:=am hc0_1
 clear hr0_1 hc0_1
 have HR1_1:=am hr1_1
 have HC1_1:=am hc1_1
 clear hr1_1 hc1_1
 have HB:=am (Below.refl w.heap.size w)
 have H:((Zai.f k a0_0 l0_1 a0_2 a1_0 l1_1 a1_2).bind fun qe=>(some qe))=some r:=h
 clear h
 obtain ⟨qe,A3,H⟩:=ob H
 obtain rfl:=Option.some.inj H
 go_enter Tryz.func25,Tryz.ntmps25
 go_wp2_with (first|((with_reducible refine gd 2 ?_);refine bx 2 #[.bool a0_0,.slice A0_1 l0_1.length c0_1,.int .i64 a0_2] 24 (h:=?_);intro qh hg w4 hbox hb;have qa:=am hbox;have qf:=gW hg;replace HB:=bS hb;clear hb hbox hg)|((with_reducible refine gd 3 ?_);refine bx 3 #[.bool a1_0,.slice A1_1 l1_1.length c1_1,.int .i64 a1_2] 24 (h:=?_);intro qi hg w5 hbox hb;have qd:=am hbox;have qg:=gW hg;have qb:=nL hg qa;have qc:=nG hg qa;replace qa:=bb qa hb;replace HB:=bS hb;clear hb hbox hg;have hnb6:=qb.o;have hnc6:=qc.o;obtain ⟨_,_,_,_,_,_⟩:=cEc qa.o;obtain ⟨_,_,_,_,_,_⟩:=cEc qd.o)|(refine gL (some 7) Tryz.func81 #[.agg #[.bool a0_0,.slice A0_1 l0_1.length c0_1,.int .i64 a0_2],.agg #[.bool a1_0,.slice A1_1 l1_1.length c1_1,.int .i64 a1_2]] (h:=?_);(with_reducible refine (Zai.calls k a0_0 _ _ l0_1 a0_2 a1_0 _ _ l1_1 a1_2 qe _ ?side1 ?side2 ?side3 ?side4 A3.o).mono ?_);(case side1=>exact cB HR0_1 HB);(case side2=>exact HC0_1.o);(case side3=>exact cB HR1_1 HB);(case side4=>exact HC1_1.o);rintro e w9 ⟨rfl,hb⟩;refine ⟨_,rfl,?_⟩;replace qa:=bb qa hb;replace qd:=bb qd hb;replace HB:=bS hb))
 go_ret
 exact ⟨pE,pB⟩
def Zan.f (k:Nat) (a0_0:Bool) (l0_1:List Int) (a0_2:Int):Option (List Int × List Int × Int):=if a0_2 >= 0 then ((Zbs.f k a0_2).bind fun qb=>((Zc2.f k l0_1 qb).bind fun qc=>((Zp.f qc.1 qc.2).bind fun qh=>(some (qh,([]:List Int),0))))) else ((Zbs.f k (wrap64 (-a0_2))).bind fun qe=>((Zdi.f k l0_1 qe).bind fun qd=>(some (qd.1,qd.2.1,wrap64 (-a0_2)))))
def Zan.T2:Bool × List (List Nat × List Nat):=(true,[([],[]),([0],[0]),([],[]),([2],[2]),([3],[3]),([1,4,4],[1,4]),([5],[5]),([5],[5]),([6,7,5],[6,7]),([8,8,0,1,2,3,4,5,6,7,8],[8]),([9,0,1,2,3,4,5,6,7,8,9],[]),([10,0,1,2,3,4,5,6,7,8,9,10],[])])
def Zan.B2:List Nat:=[0,1,0,4,12,31,63,63,255,511,1023,2047]
theorem Zan.tab2:rtab .any (opsOf Tryz.f83 2)=Zan.T2:=by kernel_rfl
theorem Zan.bits2:waitsOk Zan.T2.2 Zan.B2=true:=by kernel_rfl
def Zan.T3:Bool × List (List Nat × List Nat):=(true,[([],[]),([0],[0]),([],[]),([2],[2]),([3],[3]),([4],[4]),([1,5,5],[1,5]),([6],[6]),([7],[7]),([7],[7]),([7],[7]),([8,6,0,1,2,3,4,5,6,7,8],[8]),([9,11,0,1,2,3,4,5,6,7,8,9,11],[9])])
def Zan.B3:List Nat:=[0,1,0,4,12,28,63,127,255,255,255,511,3071]
theorem Zan.tab3:rtab .any (opsOf Tryz.f83 3)=Zan.T3:=by kernel_rfl
theorem Zan.bits3:waitsOk Zan.T3.2 Zan.B3=true:=by kernel_rfl
def Zan.T4:Bool × List (List Nat × List Nat):=(true,[([],[]),([],[]),([],[]),([2],[2]),([3],[3]),([0,0],[0]),([1,5,0,1,5],[1]),([4,6,0,1,2,3,4,5,6],[4])])
def Zan.B4:List Nat:=[0,0,0,4,12,1,35,127]
theorem Zan.tab4:rtab .any (opsOf Tryz.f83 4)=Zan.T4:=by kernel_rfl
theorem Zan.bits4:waitsOk Zan.T4.2 Zan.B4=true:=by kernel_rfl
theorem Zan.leaf {P:Prop} (h:P:=by
 go_enter Tryz.func83,Tryz.ntmps83
 try go_wp2_with (first|((with_reducible refine gd 1 ?_);refine bx 1 #[.bool a0_0,.slice A0_1 l0_1.length c0_1,.int .i64 a0_2] 24 (h:=?_);intro gb0z hg w1z hbox hb;have BK2z:=am hbox;have GW3z:=gW hg;replace HB:=bS hb;clear hb hbox hg;obtain ⟨_,_,_,_,_,_⟩:=cEc BK2z.o))
 replace BK2z:=am (Zar BK2z.o)
 replace HB:=am (Zav HB.o)
 first
  | have q_:=A5
    refine start_ (n:=12) (S:=fun w'=>w'.cell? ⟨gb0z,0,none⟩=some (.bool a0_0)/\w'.cell? ⟨gb0z,1,none⟩=some (.slice A0_1 l0_1.length c0_1)/\w'.cell? ⟨gb0z,2,none⟩=some (.int .i64 a0_2)) (ds:=[]) #[false,false,false,false,false,false,false,false,false,false,false,false] (by kernel_rfl) rfl rfl ⟨k0 BK2z 0,k0 BK2z 1,k0 BK2z 2⟩ (fun hHeld=>?_);refine Zb6 Zan.tab2 Zan.bits2 (fun HT_ HW_=>?_)
    generalize w1z.drew=w11z at BK2z HB hHeld ⊢
    refine pu 0 (some 8) #[true,false,false,false,false,false,false,false,false,false,false,false] (h:=?_)
    refine pu 2 (some 10) #[true,false,true,false,false,false,false,false,false,false,false,false] (h:=?_)
    refine take_ (i:=1) (N:=some 9) (v:=?_) (a':=?_) #[true,true,true,false,false,false,false,false,false,false,false,false] rfl rfl (Zay HT_.out HW_.out (by kernel_rfl)) (fun _ _ _ h=>h) (Or.inl ⟨by rfl,?_⟩) hHeld ?_ ?_
    rotate_left
    ·rintro w' ⟨s12z,s13z,s14z⟩
     go_simp
     with_reducible rfl
    rotate_left
    ·exact pP
    refine take_ (i:=3) (N:=some 11) (v:=?_) (a':=?_) #[true,true,true,true,false,false,false,false,false,false,false,false] rfl rfl (Zay HT_.out HW_.out (by kernel_rfl)) (fun _ _ _ h=>h) (Or.inl ⟨by rfl,?_⟩) hHeld ?_ ?_
    rotate_left
    ·rintro w' ⟨s12z,s13z,s14z⟩
     go_simp
     with_reducible rfl
    rotate_left
    ·exact pP
    refine one_ (i:=4) (N:=some 12) #[true,true,true,true,true,false,false,false,false,false,false,false] rfl rfl (Zbh HT_.out (by kernel_rfl)) (by decide) (fun K hK=>?_)
    refine goes_ Tryz.func72 (by kernel_rfl) rfl #[.int .i64 a0_2] (by rfl) rfl rfl pA ?_
    with_reducible refine (Zbs.calls k a0_2 qb _ A3.o).mono ?_
    rintro e w15z ⟨v16z,rfl,ho17z,hb⟩
    refine ⟨_,rfl,?_⟩
    have qa:=am (Kd.Zo ho17z (Zd pB))
    replace BK2z:=bb BK2z hb
    replace HB:=bS hb
    obtain ⟨qi,qm,qf⟩:=Kd.Zj qa.o
    (first|subst qf|(injection qf with f1_ f2_ f3_;have f4_:=f1_.symm;have f5_:=f3_.symm;clear f1_ f2_ f3_;subst f4_;subst f5_))
    refine hK.out _ _ ⟨k0 BK2z 0,k0 BK2z 1,k0 BK2z 2⟩ (fun hHeld=>?_)
    clear hK K
    refine norm_ (a':=?_) ?_ ?_
    rotate_left
    ·show Act.put _ (some 12) _=_
     exact pP
    refine one_ (i:=5) (N:=some 13) #[true,true,true,true,true,true,false,false,false,false,false,false] rfl rfl (Zbh HT_.out (by kernel_rfl)) (by decide) (fun K hK=>?_)
    refine goes_ Tryz.func71 (by kernel_rfl) rfl #[.slice A0_1 l0_1.length c0_1,.slice qi qb.length qm] (by rfl) rfl rfl pA ?_
    with_reducible refine (Zc2.calls k _ _ l0_1 _ _ qb qg qp _ ?side1 ?side2 ?side3 ?side4 A4.o).mono ?_
    (case side1=>exact cB HR0_1 HB)
    (case side2=>exact HC0_1.o)
    (case side3=>exact Kd.Zn (Kd.Zc qa.o).2.2 pl)
    (case side4=>exact (Kd.Zc qa.o).2.1)
    rintro e w22z ⟨v23z,rfl,ho17z,hb⟩
    refine ⟨_,rfl,?_⟩
    have qj:=am (Kd.Zo (Kd.Zs ho17z (Kd.R_lt (Kd.Za qa.o pl))) (Zd pB))
    replace qa:=reR qa ho17z hb
    replace BK2z:=bb BK2z hb
    replace HB:=bS hb
    obtain ⟨qn,qo,qq⟩:=Kd.Zj qj.o
    (first|subst qq|(injection qq with f1_ f2_ f3_;have f4_:=f1_.symm;have f5_:=f3_.symm;clear f1_ f2_ f3_;subst f4_;subst f5_))
    refine hK.out _ _ ⟨k0 BK2z 0,k0 BK2z 1,k0 BK2z 2⟩ (fun hHeld=>?_)
    clear hK K
    refine norm_ (a':=?_) ?_ ?_
    rotate_left
    ·show Act.put _ (some 13) _=_
     exact pP
    refine pu 6 (some 14) #[true,true,true,true,true,true,true,false,false,false,false,false] (h:=?_)
    refine pu 7 (some 15) #[true,true,true,true,true,true,true,true,false,false,false,false] (h:=?_)
    refine one_ (i:=8) (N:=some 16) #[true,true,true,true,true,true,true,true,true,false,false,false] rfl rfl (Zbh HT_.out (by kernel_rfl)) (by decide) (fun K hK=>?_)
    refine goes_ Tryz.func70 (by kernel_rfl) rfl #[.slice qn qg.length qo,.int .i64 qp] (by rfl) rfl rfl pA ?_
    with_reducible refine (Zp.calls (fun k_=>some k_=(.slice qn qg.length qo:Value).ownBlock) (.slice qn qg.length qo) qg qp qh w _ ?side1 ?side2 A5.o).mono ?_
    (case side1=>exact pB)
    (case side2=>exact Kd.Zbj rfl qj.o)
    rintro e w28z ⟨v29z,rfl,ho17z,hb,hkp⟩
    refine ⟨_,rfl,?_⟩
    have qr:=am (Kd.Zh (ok':=fun k_=>some k_ ≠ (.slice qi qb.length qm:Value).ownBlock) ho17z (fun k_ hk_=>Or.elim hk_ (fun hs_=>fun e_=>(((qa.o).1 k_ e_.symm).2) hs_) (fun hn_=>(Kd.fresh' (Kd.R_lt (Kd.Za qa.o pl)) k_ hn_))))
    replace BK2z:=am (Za0 (Zb BK2z.o pl) hkp (fun e_=>Kd.R_ne qj.o BK2z.o (by decide) e_))
    replace qa:=am (Kd.Zh (ok':=fun k_=>some k_ ≠ (v29z:Value).ownBlock) (Kd.Zcb (qa.o) hkp (fun k_ hk_ hs_=>(hk_.2) hs_)) (fun k_ hk_=>fun e_=>Or.elim (ho17z.1 k_ e_.symm) (fun hs_=>hk_.2.1 hs_) (fun hn_=>Nat.not_le.2 hk_.2.2 hn_)))
    replace HB:=am hb
    clear qj
    refine hK.out _ _ ⟨k0 BK2z 0,k0 BK2z 1,k0 BK2z 2⟩ (fun hHeld=>?_)
    clear hK K
    refine norm_ (a':=?_) ?_ ?_
    rotate_left
    ·show Act.put _ (some 16) _=_
     exact pP
    refine pu 9 (some 2) #[true,true,true,true,true,true,true,true,true,true,false,false] (h:=?_)
    refine pu 10 (some 3) #[true,true,true,true,true,true,true,true,true,true,true,false] (h:=?_)
    refine pu 11 (some 4) #[true,true,true,true,true,true,true,true,true,true,true,true] (h:=?_)
    refine done_ (Zde HT_.out (by kernel_rfl)) ?_
    try go_wp2
    go_ret3
    exact ⟨_,_,pE,by refine rp ?_;exact Kd.Zh qr.o (fun _ hk=>(by simp [Value.ownBlock])),pN,pB⟩
  | refine start_ (n:=13) (S:=fun w'=>w'.cell? ⟨gb0z,0,none⟩=some (.bool a0_0)/\w'.cell? ⟨gb0z,1,none⟩=some (.slice A0_1 l0_1.length c0_1)/\w'.cell? ⟨gb0z,2,none⟩=some (.int .i64 a0_2)) (ds:=[]) #[false,false,false,false,false,false,false,false,false,false,false,false,false] (by kernel_rfl) rfl rfl ⟨k0 BK2z 0,k0 BK2z 1,k0 BK2z 2⟩ (fun hHeld=>?_);refine Zb6 Zan.tab3 Zan.bits3 (fun HT_ HW_=>?_)
    generalize w1z.drew=w11z at BK2z HB hHeld ⊢
    refine pu 0 (some 18) #[true,false,false,false,false,false,false,false,false,false,false,false,false] (h:=?_)
    refine pu 2 (some 20) #[true,false,true,false,false,false,false,false,false,false,false,false,false] (h:=?_)
    refine take_ (i:=1) (N:=some 19) (v:=?_) (a':=?_) #[true,true,true,false,false,false,false,false,false,false,false,false,false] rfl rfl (Zay HT_.out HW_.out (by kernel_rfl)) (fun _ _ _ h=>h) (Or.inl ⟨by rfl,?_⟩) hHeld ?_ ?_
    rotate_left
    ·rintro w' ⟨s12z,s13z,s14z⟩
     go_simp
     with_reducible rfl
    rotate_left
    ·exact pP
    refine take_ (i:=3) (N:=some 21) (v:=?_) (a':=?_) #[true,true,true,true,false,false,false,false,false,false,false,false,false] rfl rfl (Zay HT_.out HW_.out (by kernel_rfl)) (fun _ _ _ h=>h) (Or.inl ⟨by rfl,?_⟩) hHeld ?_ ?_
    rotate_left
    ·rintro w' ⟨s12z,s13z,s14z⟩
     go_simp
     with_reducible rfl
    rotate_left
    ·exact pP
    refine pu 4 (some 22) #[true,true,true,true,true,false,false,false,false,false,false,false,false] (h:=?_)
    refine one_ (i:=5) (N:=some 23) #[true,true,true,true,true,true,false,false,false,false,false,false,false] rfl rfl (Zbh HT_.out (by kernel_rfl)) (by decide) (fun K hK=>?_)
    refine goes_ Tryz.func72 (by kernel_rfl) rfl #[.int .i64 (wrap64 (-a0_2))] (by rfl) rfl rfl pA ?_
    with_reducible refine (Zbs.calls k (wrap64 (-a0_2)) qe _ A14.o).mono ?_
    rintro e w15z ⟨v16z,rfl,ho17z,hb⟩
    refine ⟨_,rfl,?_⟩
    have qa:=am (Kd.Zo ho17z (Zd pB))
    replace BK2z:=bb BK2z hb
    replace HB:=bS hb
    obtain ⟨qi,qm,qf⟩:=Kd.Zj qa.o
    (first|subst qf|(injection qf with f1_ f2_ f3_;have f4_:=f1_.symm;have f5_:=f3_.symm;clear f1_ f2_ f3_;subst f4_;subst f5_))
    refine hK.out _ _ ⟨k0 BK2z 0,k0 BK2z 1,k0 BK2z 2⟩ (fun hHeld=>?_)
    clear hK K
    refine norm_ (a':=?_) ?_ ?_
    rotate_left
    ·show Act.put _ (some 23) _=_
     exact pP
    refine one_ (i:=6) (N:=some 24) #[true,true,true,true,true,true,true,false,false,false,false,false,false] rfl rfl (Zbh HT_.out (by kernel_rfl)) (by decide) (fun K hK=>?_)
    refine goes_ Tryz.func69 (by kernel_rfl) rfl #[.slice A0_1 l0_1.length c0_1,.slice qi qe.length qm] (by rfl) rfl rfl pA ?_
    with_reducible refine (Zdi.calls k _ _ l0_1 _ _ qe qs qt qu _ ?side1 ?side2 ?side3 ?side4 A15.o).mono ?_
    (case side1=>exact cB HR0_1 HB)
    (case side2=>exact HC0_1.o)
    (case side3=>exact Kd.Zn (Kd.Zc qa.o).2.2 pl)
    (case side4=>exact (Kd.Zc qa.o).2.1)
    rintro e w22z ⟨v23z,v24z,rfl,ho17z,ho25z,hb⟩
    refine ⟨_,rfl,?_⟩
    have qk:=am (Kd.Zo (Kd.Zs ho17z (Kd.R_lt (Kd.Za qa.o pl))) (Zd pB))
    have ql:=am (Kd.Zo (Kd.Zs ho25z (Kd.R_lt (Kd.Za qa.o pl))) (Zd pB))
    replace qa:=am (Kd.Zh (Kd.Zda (Kd.Zda (Kd.Zf2 (Kd.Za qa.o pl) hb) (Kd.Zaz ho17z)) (Kd.Zaz ho25z)) (fun _ h_=>h_.1))
    replace BK2z:=bb BK2z hb
    replace HB:=bS hb
    refine hK.out _ _ ⟨k0 BK2z 0,k0 BK2z 1,k0 BK2z 2⟩ (fun hHeld=>?_)
    clear hK K
    refine norm_ (a':=?_) ?_ ?_
    rotate_left
    ·show Act.put _ (some 24) _=_
     exact pP
    refine pu 7 (some 17) #[true,true,true,true,true,true,true,true,false,false,false,false,false] (h:=?_)
    refine pu 8 (some 25) #[true,true,true,true,true,true,true,true,true,false,false,false,false] (h:=?_)
    refine pu 9 (some 26) #[true,true,true,true,true,true,true,true,true,true,false,false,false] (h:=?_)
    refine pu 10 (some 27) #[true,true,true,true,true,true,true,true,true,true,true,false,false] (h:=?_)
    refine pu 11 (some 2) #[true,true,true,true,true,true,true,true,true,true,true,true,false] (h:=?_)
    refine pu 12 (some 3) #[true,true,true,true,true,true,true,true,true,true,true,true,true] (h:=?_)
    refine done_ (Zde HT_.out (by kernel_rfl)) ?_
    try go_wp2
    replace qa:=am (Kd.Zc1 qa.o)
    replace qk:=am (Kd.Zc1 qk.o)
    replace ql:=am (Kd.Zc1 ql.o)
    replace BK2z:=am (Zar BK2z.o)
    replace HB:=am (Zav HB.o)
    refine start_ (n:=8) (S:=fun w'=>w'.cell? ⟨gb0z,0,none⟩=some (.bool a0_0)/\w'.cell? ⟨gb0z,1,none⟩=some (.slice A0_1 l0_1.length c0_1)/\w'.cell? ⟨gb0z,2,none⟩=some (.int .i64 a0_2)) (ds:=[]) #[false,false,false,false,false,false,false,false] (by kernel_rfl) rfl rfl ⟨k0 BK2z 0,k0 BK2z 1,k0 BK2z 2⟩ (fun hHeld=>?_);refine Zb6 Zan.tab4 Zan.bits4 (fun HT_ HW_=>?_)
    generalize w22z.drew=w28z at qa qk ql BK2z HB hHeld ⊢
    refine pu 0 (some 28) #[true,false,false,false,false,false,false,false] (h:=?_)
    refine pu 1 (some 29) #[true,true,false,false,false,false,false,false] (h:=?_)
    refine pu 2 (some 30) #[true,true,true,false,false,false,false,false] (h:=?_)
    refine pu 5 (some 2) #[true,true,true,false,false,true,false,false] (h:=?_)
    refine pu 6 (some 3) #[true,true,true,false,false,true,true,false] (h:=?_)
    refine take_ (i:=3) (N:=some 31) (v:=?_) (a':=?_) #[true,true,true,true,false,true,true,false] rfl rfl (Zay HT_.out HW_.out (by kernel_rfl)) (fun _ _ _ h=>h) (Or.inl ⟨by rfl,?_⟩) hHeld ?_ ?_
    rotate_left
    ·rintro w' ⟨s12z,s13z,s14z⟩
     go_simp
     with_reducible rfl
    rotate_left
    ·exact pP
    refine pu 4 (some 32) #[true,true,true,true,true,true,true,false] (h:=?_)
    refine pu 7 (some 4) #[true,true,true,true,true,true,true,true] (h:=?_)
    refine done_ (Zde HT_.out (by kernel_rfl)) ?_
    try go_wp2
    go_ret3
    exact ⟨_,_,pE,by refine rp ?_;exact Kd.Zh qk.o (fun _ hk=>hk.1),by refine rp ?_;exact Kd.Zh ql.o (fun _ hk=>hk.1),pB⟩):P:=h
theorem Zan.calls (k:Nat) (a0_0:Bool) (A0_1:Option Addr) (c0_1:Nat) (l0_1:List Int) (a0_2:Int) (r1:List Int) (r2:List Int) (r3:Int) (w:World) (hr0_1:Kd.C (Kd.int .u32) w A0_1 l0_1.length l0_1) (hc0_1:l0_1.length<=c0_1) (h:Zan.f k a0_0 l0_1 a0_2=some (r1,r2,r3)) :
  Calls Tryz.prog 83 #[.agg #[.bool a0_0,.slice A0_1 l0_1.length c0_1,.int .i64 a0_2]] w fun e w' => ∃ v0_ v1_:Value,e=.returned (.tuple #[v0_,v1_,.int .i64 r3])/\Kd.R (Kd.int .u32) 85 w' w.heap.size (fun k_=>some k_ ≠ (v1_:Value).ownBlock) v0_ r1/\Kd.R (Kd.int .u32) 85 w' w.heap.size (fun k_=>some k_ ≠ (v0_:Value).ownBlock) v1_ r2/\Below w.heap.size w w':=by
 have hu24:=Tryz.underlying24
 have HR0_1:=am hr0_1
 have HC0_1:=am hc0_1
 clear hr0_1 hc0_1
 have HB:=am (Below.refl w.heap.size w)
 have H:(if a0_2 >= 0 then ((Zbs.f k a0_2).bind fun qb=>((Zc2.f k l0_1 qb).bind fun qc=>((Zp.f qc.1 qc.2).bind fun qh=>(some (qh,([]:List Int),0))))) else ((Zbs.f k (wrap64 (-a0_2))).bind fun qe=>((Zdi.f k l0_1 qe).bind fun qd=>(some (qd.1,qd.2.1,wrap64 (-a0_2))))))=some (r1,r2,r3):=h
 clear h
 by_cases c2:a0_2 >= 0
 ·rw [if_pos c2] at H
  have c2b0:decide (0<=a0_2)=true:=decide_eq_true c2
  clear c2
  obtain ⟨qb,A3,H⟩:=ob H
  obtain ⟨⟨qg,qp⟩,A4,H⟩:=ob H;(try dsimp only at H)
  obtain ⟨qh,A5,H⟩:=ob H
  simp only [Option.some.injEq,Prod.mk.injEq] at H
  obtain ⟨rfl,rfl,rfl⟩:=H
  exact Zan.leaf
 ·rw [if_neg c2] at H
  have c2b0:decide (0<=a0_2)=false:=decide_eq_false c2
  clear c2
  obtain ⟨qe,A14,H⟩:=ob H
  obtain ⟨⟨qs,qt,qu⟩,A15,H⟩:=ob H;(try dsimp only at H)
  simp only [Option.some.injEq,Prod.mk.injEq] at H
  obtain ⟨rfl,rfl,rfl⟩:=H
  exact Zan.leaf
end YtjbjkmccfocikaaGreatDoor.B
end
section
namespace YtjbjkmccfocikaaGreatDoor.P.Nm
open Go.RowKit YtjbjkmccfocikaaGreatDoorW.PrintWords YtjbjkmccfocikaaGreatDoorW.PrintLast YtjbjkmccfocikaaGreatDoorW.PrintMore YtjbjkmccfocikaaGreatDoor.B YtjbjkmccfocikaaGreatDoor.P
theorem Zgx {n:Nat} (h:n<=2400):Tells (fun k=>Zbs.f k (n:Int)) (limbs (10 ^ n)):=by
 unfold Zbs.f Zp.f
 exact (Znj n h).bind ((Tells.pure _).bind (Tells.pure _))
def wholeN (D:Dm):Nat:=if 0<=D.e then D.n*10 ^ D.e.toNat else D.n / 10 ^ (-D.e).toNat
def lowN (D:Dm):Nat:=if 0<=D.e then 0 else D.n % 10 ^ (-D.e).toNat
theorem Zh8 {D:Dm} (hD:OkD D):nd (wholeN D)<=1300/\nd (lowN D)<=300:=by
 have l1:=hD.len;have l2:=hD.high
 unfold wholeN lowN
 split
 ·exact ⟨Nat.le_trans (Zd7 _ _) (by omega),by decide⟩
 ·exact ⟨Nat.le_trans (Zev (Nat.div_le_self _ _)) (by omega),Nat.le_trans (Zev (Nat.mod_le _ _)) (by omega)⟩
theorem QSplit {D:Dm} (hD:OkD D):Tells (fun k=>Zan.f k D.neg (limbs D.n) D.e) (limbs (wholeN D),limbs (lowN D),((-D.e).toNat:Int)):=by
 have l1:=hD.len;have l2:=hD.high;have l3:=hD.low
 have hw:=Zh8 hD
 unfold Zan.f Zp.f wholeN lowN
 unfold wholeN at hw
 by_cases h:0<=D.e
 ·rw [if_pos h] at hw
  rw [if_pos h,if_pos h]
  have hm:=Zjh (m:=D.n) (n:=10 ^ D.e.toNat) (Zfb (by omega)) (Zfb (by rw [Zj2];omega))
  rw [Zoa (Zfb (by omega))] at hm
  have hp:=Zgx (n:=D.e.toNat) (by omega)
  rw [Int.toNat_of_nonneg h] at hp
  have e0:(((-D.e).toNat:Nat):Int)=0:=by omega
  rw [e0]
  exact Tells.ifp h (hp.bind (hm.bind ((Tells.pure _).bind (Tells.pure _))))
 ·rw [if_neg h,if_neg h]
  have hp:=Zgx (n:=(-D.e).toNat) (by omega)
  have e1:(((-D.e).toNat:Nat):Int) = -D.e:=by omega
  rw [e1] at hp
  have hd:=Zjf (m:=D.n) (n:=10 ^ (-D.e).toNat) (Zfb (by omega)) (Zfb (by rw [Zj2];omega))
  have hp0:10 ^ (-D.e).toNat ≠ 0:=by have := Zdf (-D.e).toNat;omega
  rw [if_neg hp0] at hd
  rw [w64n (by omega) (by omega),e1]
  exact Tells.ifn (by omega) (hp.bind (hd.bind (Tells.pure _)))
theorem Rorder {D E:Dm} (hD:OkD D) (hE:OkD E):Tells (fun k=>Za9.f k D.neg (limbs D.n) D.e E.neg (limbs E.n) E.e) (cmpD D E):=by
 unfold Za9.f
 exact (ROrder D E hD hE).bind (Tells.pure _)
end YtjbjkmccfocikaaGreatDoor.P.Nm
end
section
namespace YtjbjkmccfocikaaGreatDoor.P.Nm
open Go.RowKit YtjbjkmccfocikaaGreatDoorW.PrintWords YtjbjkmccfocikaaGreatDoor.B YtjbjkmccfocikaaGreatDoor.P
theorem Tells.at {α:Type} {f:Nat->Option α} {v:α} (n:Nat) (h:∀ k,f (k+n)=some v):Tells f v:=⟨n,fun k hk=>by
 obtain ⟨j,rfl⟩:∃ j,k=j+n:=⟨k - n,by omega⟩
 exact h j⟩
end YtjbjkmccfocikaaGreatDoor.P.Nm
end
section
namespace YtjbjkmccfocikaaGreatDoor.B
open Go.RowKit YtjbjkmccfocikaaGreatDoorW.PrintWords YtjbjkmccfocikaaGreatDoorW.PrintLast YtjbjkmccfocikaaGreatDoorW.PrintMore
attribute [local go_sem] Zb7 Zb9 Zcr Zcs Zbp Zbq Zb8 Zca
def Zao.f (a0:Int):Option (Int):=some a0
theorem Zao.calls (a0:Int) (r:Int) (w:World) (h:Zao.f a0=some r) :
  Calls Tryz.prog 20 #[.int .i64 a0] w fun e w'=>e=.returned (.int .i64 r)/\Drawn0 w w':=by
 have H:(some a0)=some r:=h
 clear h
 obtain rfl:=Option.some.inj H
 go_enter Tryz.func20,Tryz.ntmps20
 go_wp2
 go_ret
 exact ⟨pR,pD⟩
def Zba.l0:Nat->Int->ByteArray->Int->Option (ByteArray)
 | 0,_,_,_=>none
 | k+1,x0,x3,x4=>if x4 < x0 then (if x3.size+1<=9223372036854775807 then (Zba.l0 k x0 (x3++(⟨#[48]⟩:ByteArray)) (wrap64 (x4+1))) else (none)) else (some x3)
def Zba.f (k:Nat) (a0:Int):Option (ByteArray):=Zba.l0 k a0 (⟨#[]⟩:ByteArray) 0
theorem Zba.calls (k:Nat) (a0:Int) (r:ByteArray) (w:World) (h:Zba.f k a0=some r) :
  Calls Tryz.prog 119 #[.int .i64 a0] w fun e w'=>e=.returned (.string r)/\Drawn0 w w':=by
 have H:(Zba.l0 k a0 (⟨#[]⟩:ByteArray) 0)=some r:=h
 clear h
 have H':=am H
 clear H
 go_enter Tryz.func119,Tryz.ntmps119
 go_wp2
 go_loopg [3,4] k (fun kq v3 v4 w' => ∃ (x3_1:ByteArray) (x4_1:Int),v3=.string x3_1/\v4=.int .i64 x4_1/\Aside0 (Zba.l0 kq a0 x3_1 x4_1=some r)/\Aside0 (kq<=k)/\Drawn0 w w')
 case atStart=>exact ⟨((⟨#[]⟩:ByteArray)),(0),pR,pR,H',⟨Nat.le_refl _⟩,pD⟩
 case round =>
  clear H'
  obtain ⟨x3_1,x4_1,rfl,rfl,HA,HK1,⟨m1,rfl⟩⟩:=hrel
  cases gk with
  | zero=>exact absurd HA.out (by simp [Zba.l0])
  | succ k1 =>
   have H:=HA.out
   clear HA
   simp only [Zba.l0] at H
   by_cases c2:x4_1 < a0
   ·rw [if_pos c2] at H
    have c2b0:decide (x4_1 < a0)=true:=decide_eq_true c2
    clear c2
    by_cases c3:x3_1.size+1<=9223372036854775807
    ·rw [if_pos c3] at H
     have c3b0:=eq_true c3
     have c3b1:decide (x3_1.size+1<=9223372036854775807)=true:=decide_eq_true c3
     try have c3b2:(9223372036854775807 < x3_1.size+1)=False:=eq_false (Nat.not_lt.2 c3)
     have H':=am H
     clear H
     go_wp2
     go_roundg k1
     case measure=>have := HK1.out;omega
     case rel=>exact ⟨(x3_1++(⟨#[48]⟩:ByteArray)),(wrap64 (x4_1+1)),pR,pR,H',⟨by have := HK1.out;omega⟩,pD⟩
    ·rw [if_neg c3] at H
     exact absurd H (by simp)
   ·rw [if_neg c2] at H
    have c2b0:decide (x4_1 < a0)=false:=decide_eq_false c2
    clear c2
    obtain rfl:=Option.some.inj H
    go_wp2
    go_ret
    exact ⟨pR,pD⟩
def Zbe.f:Nat->Int->Option (ByteArray)
 | 0,_=>none
 | k+1,a0=>if a0 < 10 then (some (strOfNums (([(wrap64 (48+a0)) % 256]:List Int)))) else ((Zbe.f k (wrap64 (Int.tdiv a0 10))).bind fun qa=>((Zbe.f k (Int.tmod a0 10)).bind fun qb=>(if qa.size+qb.size<=9223372036854775807 then (some (qa++qb)) else (none))))
theorem Zbe.calls (k:Nat):∀ (a0:Int) (r:ByteArray) (w:World) (h:Zbe.f k a0=some r),
  Calls Tryz.prog 120 #[.int .i64 a0] w fun e w'=>e=.returned (.string r)/\Below w.heap.size w w':=by
 induction k using Nat.strongRecOn with
 | _ k ih =>
 intro a0 r w h
 cases k with
 | zero=>exact absurd h (by simp [Zbe.f])
 | succ k =>
 simp only [Zbe.f] at h
 have HB:=am (Below.refl w.heap.size w)
 have H:(if a0 < 10 then (some (strOfNums (([(wrap64 (48+a0)) % 256]:List Int)))) else ((Zbe.f k (wrap64 (Int.tdiv a0 10))).bind fun qa=>((Zbe.f k (Int.tmod a0 10)).bind fun qb=>(if qa.size+qb.size<=9223372036854775807 then (some (qa++qb)) else (none)))))=some r:=h
 clear h
 by_cases c2:a0 < 10
 ·rw [if_pos c2] at H
  have c2b0:decide (a0 < 10)=true:=decide_eq_true c2
  clear c2
  obtain ⟨qf,qc⟩:∃ y_:List Int,y_=(([(wrap64 (48+a0)) % 256]:List Int)):=⟨_,rfl⟩
  replace H:(some (strOfNums qf))=some r:=by have hy_:=qc;exact pH
  have qd:=am qc
  clear qc
  obtain rfl:=Option.some.inj H
  go_enter Tryz.func120,Tryz.ntmps120
  go_wp2_with (first|((with_reducible refine gd 8 ?_);refine Kd.Zf1 (Kd.int .u8) _ 5 ?hg (N:=8) ?hd (xs:=([(wrap64 (48+a0)) % 256]:List Int)) (inner:=[.int .u8 ((wrap64 (48+a0)) % 256)]) (ok:=fun _=>True) (okp:=fun _=>True) ?hr ?hp (fun _ hk=>hk) trivial (Below.refl _ _) (Nat.le_refl _) (by simp) ?_;(case hd=>rfl);(case hg=>rfl);(case hr=>first|(go_simp;done)|(go_simp;rfl));(case hp=>exact (Reps.one (show Kd.M (Kd.int .u8) _ _ _ ((wrap64 (48+a0)) % 256) [.int .u8 ((wrap64 (48+a0)) % 256)] from rfl) (Reps.none _ _)));intro qg w3 ho4 hb hg_ hnew_;clear hg_ hnew_;(first|rw [<- qd.out] at ho4|(simp only [Int.reduceToNat] at ho4;rw [<- qd.out] at ho4));have qe:=am (Kd.Zo ho4 (Zd pB));replace HB:=bS hb;clear hb ho4;have hcv5:=Zgw (P:=Tryz.prog) Tryz.underlying146 Tryz.underlying5 Tryz.underlying9 (Kd.Zdx qe.o)))
  go_ret
  exact ⟨pE,pB⟩
 ·rw [if_neg c2] at H
  have c2b0:decide (a0 < 10)=false:=decide_eq_false c2
  clear c2
  obtain ⟨qa,A6,H⟩:=ob H
  obtain ⟨qb,A7,H⟩:=ob H
  by_cases c8:qa.size+qb.size<=9223372036854775807
  ·rw [if_pos c8] at H
   have c8b0:=eq_true c8
   have c8b1:decide (qa.size+qb.size<=9223372036854775807)=true:=decide_eq_true c8
   try have c8b2:(9223372036854775807 < qa.size+qb.size)=False:=eq_false (Nat.not_lt.2 c8)
   obtain rfl:=Option.some.inj H
   go_enter Tryz.func120,Tryz.ntmps120
   go_wp2_with (first|(refine gL (some 12) Tryz.func120 #[.int .i64 (wrap64 (Int.tdiv a0 10))] (h:=?_);(with_reducible refine (ih k (by omega) (wrap64 (Int.tdiv a0 10)) qa _ A6.o).mono ?_);rintro e w9 ⟨rfl,hb⟩;refine ⟨_,rfl,?_⟩;replace HB:=bS hb)|(refine gL (some 15) Tryz.func120 #[.int .i64 (Int.tmod a0 10)] (h:=?_);(with_reducible refine (ih k (by omega) (Int.tmod a0 10) qb _ A7.o).mono ?_);rintro e w10 ⟨rfl,hb⟩;refine ⟨_,rfl,?_⟩;replace HB:=bS hb))
   go_ret
   exact ⟨pE,pB⟩
  ·rw [if_neg c8] at H
   exact absurd H (by simp)
mutual
def Zf.j0:Nat->ByteArray->ByteArray->Bool->List Int->Int->Option (ByteArray)
 | 0,_,_,_,_,_=>none
 | k+1,x4,x5,qx,qu,qn=>if (qu.length:Int)=0 then (some (⟨#[48]⟩:ByteArray)) else (if (wrap64 ((x4.size:Int)+qn)) >= (-5) then (Zf.j1 k x4 x5 (wrap64 ((x4.size:Int)+qn)) (decide ((wrap64 ((x4.size:Int)+qn)) < 1))) else (Zf.j1 k x4 x5 (wrap64 ((x4.size:Int)+qn)) false))
def Zf.j3:Nat->ByteArray->ByteArray->Int->Option (ByteArray)
 | 0,_,_,_=>none
 | k+1,x4,x5,x6=>if (wrap64 (x6 - 1)) < 0 then (Zf.j4 k x4 x5 (wrap64 (-(wrap64 (x6 - 1)))) (⟨#[101,45]⟩:ByteArray)) else (Zf.j4 k x4 x5 (wrap64 (x6 - 1)) (⟨#[101,43]⟩:ByteArray))
def Zf.j4:Nat->ByteArray->ByteArray->Int->ByteArray->Option (ByteArray)
 | 0,_,_,_,_=>none
 | k+1,x4,x5,x6,x7=>if (x4.size:Int) > 1 then (if 0<=1 then (if 1<=(x4.size:Int) then (if x5.size+(x4.extract 0 1).size<=9223372036854775807 then (if (x5++(x4.extract 0 1)).size+1<=9223372036854775807 then (if ((x5++(x4.extract 0 1))++(⟨#[46]⟩:ByteArray)).size+(x4.extract 1 x4.size).size<=9223372036854775807 then (if (((x5++(x4.extract 0 1))++(⟨#[46]⟩:ByteArray))++(x4.extract 1 x4.size)).size+x7.size<=9223372036854775807 then ((Zbe.f k x6).bind fun qq=>(if ((((x5++(x4.extract 0 1))++(⟨#[46]⟩:ByteArray))++(x4.extract 1 x4.size))++x7).size+qq.size<=9223372036854775807 then (some (((((x5++(x4.extract 0 1))++(⟨#[46]⟩:ByteArray))++(x4.extract 1 x4.size))++x7)++qq)) else (none))) else (none)) else (none)) else (none)) else (none)) else (none)) else (none)) else (if x5.size+x4.size<=9223372036854775807 then (if (x5++x4).size+x7.size<=9223372036854775807 then ((Zbe.f k x6).bind fun qt=>(if ((x5++x4)++x7).size+qt.size<=9223372036854775807 then (some (((x5++x4)++x7)++qt)) else (none))) else (none)) else (none))
def Zf.j1:Nat->ByteArray->ByteArray->Int->Bool->Option (ByteArray)
 | 0,_,_,_,_=>none
 | k+1,x4,x5,x6,x25=>if x25=true then (if x5.size+2<=9223372036854775807 then ((Zba.f k (wrap64 (-x6))).bind fun qm=>(if (x5++(⟨#[48,46]⟩:ByteArray)).size+qm.size<=9223372036854775807 then (if ((x5++(⟨#[48,46]⟩:ByteArray))++qm).size+x4.size<=9223372036854775807 then (some (((x5++(⟨#[48,46]⟩:ByteArray))++qm)++x4)) else (none)) else (none))) else (none)) else (if x6 >= 1 then (if x6<=21 then (Zf.j2 k x4 x5 x6 (decide (x6 < (x4.size:Int)))) else (Zf.j2 k x4 x5 x6 false)) else (Zf.j2 k x4 x5 x6 false))
def Zf.j2:Nat->ByteArray->ByteArray->Int->Bool->Option (ByteArray)
 | 0,_,_,_,_=>none
 | k+1,x4,x5,x6,x40=>if x40=true then (if 0<=x6 then (if x6<=(x4.size:Int) then (if x5.size+(x4.extract 0 (x6:Int).toNat).size<=9223372036854775807 then (if (x5++(x4.extract 0 (x6:Int).toNat)).size+1<=9223372036854775807 then (if ((x5++(x4.extract 0 (x6:Int).toNat))++(⟨#[46]⟩:ByteArray)).size+(x4.extract (x6:Int).toNat x4.size).size<=9223372036854775807 then (some (((x5++(x4.extract 0 (x6:Int).toNat))++(⟨#[46]⟩:ByteArray))++(x4.extract (x6:Int).toNat x4.size))) else (none)) else (none)) else (none)) else (none)) else (none)) else (if x6 >= 1 then (if x6<=21 then (if x5.size+x4.size<=9223372036854775807 then ((Zba.f k (wrap64 (x6 - (x4.size:Int)))).bind fun qs=>(if (x5++x4).size+qs.size<=9223372036854775807 then (some ((x5++x4)++qs)) else (none))) else (none)) else (Zf.j3 k x4 x5 x6)) else (Zf.j3 k x4 x5 x6))
end
def Zf.f (k:Nat) (a0_0:Bool) (l0_1:List Int) (a0_2:Int):Option (ByteArray):=(Zu.f k a0_0 l0_1 a0_2).bind fun qg=>((Zbd.f k qg.2.1).bind fun qa=>(if qg.1=true then (Zf.j0 k qa (⟨#[45]⟩:ByteArray) qg.1 qg.2.1 qg.2.2) else (Zf.j0 k qa (⟨#[]⟩:ByteArray) qg.1 qg.2.1 qg.2.2)))
def Zf.T11:Bool × List (List Nat × List Nat):=(true,[([],[]),([],[]),([],[]),([1,2],[1,2]),([0,3],[0,3]),([4],[4]),([],[]),([],[]),([6,7],[6,7]),([5,8],[5,8]),([9,0,1,2,3,4,5,6,7,8,9],[9])])
def Zf.B11:List Nat:=[0,0,0,6,15,31,0,0,192,511,1023]
theorem Zf.tab11:rtab .any (opsOf Tryz.f63 11)=Zf.T11:=by kernel_rfl
theorem Zf.bits11:waitsOk Zf.T11.2 Zf.B11=true:=by kernel_rfl
def Zf.T19:Bool × List (List Nat × List Nat):=(true,[([],[]),([],[]),([1],[1]),([0,2],[0,2]),([3],[3]),([],[]),([5],[5]),([4,6],[4,6]),([],[]),([7,8],[7,8]),([],[]),([10],[10]),([9,11],[9,11]),([12,11,0,1,2,3,4,5,6,7,8,9,10,11,12],[12])])
def Zf.B19:List Nat:=[0,0,2,7,15,0,32,127,0,511,0,1024,4095,8191]
theorem Zf.tab19:rtab .any (opsOf Tryz.f63 19)=Zf.T19:=by kernel_rfl
theorem Zf.bits19:waitsOk Zf.T19.2 Zf.B19=true:=by kernel_rfl
theorem Zf.calls (k:Nat) (a0_0:Bool) (A0_1:Option Addr) (c0_1:Nat) (l0_1:List Int) (a0_2:Int) (r:ByteArray) (w:World) (hr0_1:Kd.C (Kd.int .u32) w A0_1 l0_1.length l0_1) (hc0_1:l0_1.length<=c0_1) (h:Zf.f k a0_0 l0_1 a0_2=some r) :
  Calls Tryz.prog 63 #[.agg #[.bool a0_0,.slice A0_1 l0_1.length c0_1,.int .i64 a0_2]] w fun e w'=>e=.returned (.string r)/\Below w.heap.size w w':=by
 have hu24:=Tryz.underlying24
 have hu30:=Tryz.underlying30
 have HR0_1:=am hr0_1
 have HC0_1:=am hc0_1
 clear hr0_1 hc0_1
 have HB:=am (Below.refl w.heap.size w)
 have H:((Zu.f k a0_0 l0_1 a0_2).bind fun qg=>((Zbd.f k qg.2.1).bind fun qa=>(if qg.1=true then (Zf.j0 k qa (⟨#[45]⟩:ByteArray) qg.1 qg.2.1 qg.2.2) else (Zf.j0 k qa (⟨#[]⟩:ByteArray) qg.1 qg.2.1 qg.2.2))))=some r:=h
 clear h
 obtain ⟨⟨qo,qf,qe⟩,A2,H⟩:=ob H;(try dsimp only at H)
 obtain ⟨qa,A3,H⟩:=ob H
 have HC4:=am H
 clear H
 go_enter Tryz.func63,Tryz.ntmps63
 go_upto_if 14 with (first|((with_reducible refine gd 1 ?_);(try (refine Zau (by rfl) ?_;dsimp only));refine bx 1 #[.bool a0_0,.slice A0_1 l0_1.length c0_1,.int .i64 a0_2] 24 (h:=?_);intro qr hg w5 hbox hb;have qc:=am hbox;have q1:=gW hg;replace HB:=bS hb;clear hb hbox hg;obtain ⟨_,_,_,_,_,_⟩:=cEc qc.o)|(refine gL (some 9) Tryz.func18 #[.agg #[.bool a0_0,.slice A0_1 l0_1.length c0_1,.int .i64 a0_2]] (h:=?_);(with_reducible refine (Zu.calls k a0_0 _ _ l0_1 a0_2 qo qf qe _ ?side1 ?side2 A2.o).mono ?_);(case side1=>exact cB HR0_1 HB);(case side2=>exact HC0_1.o);rintro e w7 ⟨q9,rfl,ho0,hb⟩;refine ⟨_,rfl,?_⟩;have ql:=am (Kd.Zo ho0 (Zd pB));replace qc:=bb qc hb;replace HB:=bS hb)|((with_reducible refine gd 3 ?_);(try (refine Zau (by rfl) ?_;dsimp only));refine bx 3 #[.bool false,.slice none 0 0,.int .i64 0] 30 (h:=?_);intro qp hg w8 hbox hb;have qd:=am hbox;have q2:=gW hg;have qh:=nL hg qc;have qi:=nG hg qc;replace ql:=rbl ql hb;replace qc:=bb qc hb;replace HB:=bS hb;clear hb hbox hg;have hnb9:=qi.o;have hnc9:=qh.o;obtain ⟨_,_,_,_,_,_⟩:=cEc qd.o;obtain ⟨qk,qj,qy⟩:=Kd.Zj ql.o;subst qy)|(refine gL (some 12) Tryz.func118 #[.slice qk qf.length qj] (h:=?_);(with_reducible refine (Zbd.calls k _ _ qf qa _ ?side1 ?side2 A3.o).mono ?_);(case side1=>refine (Kd.Zc (e:=3) (base:=w.heap.size) (ok:=fun k_=>True) (n:=qf.length) (c:=qj) ?_).2.2;exact (Kd.Za (z3 ql.o qd.o (by decide) (.bool qo) (.slice qk qf.length qj) (.int .i64 qe)) pl));(case side2=>exact (Kd.Zc ql.o).2.1);rintro e w12 ⟨rfl,hb⟩;refine ⟨_,rfl,?_⟩;replace ql:=am (Kd.Za (Kd.Za (z3 ql.o qd.o (by decide) (.bool qo) (.slice qk qf.length qj) (.int .i64 qe)) pl) hb);replace qc:=bfb qh qc hb;replace qd:=am (Zb (g:=qp) (o:=.cells #[.bool qo,.slice qk qf.length qj,.int .i64 qe] 30 (0,0)) (by exact p3 qd) hb);replace HB:=bS hb;obtain ⟨_,_,_,_,_,_⟩:=cEc qd.o))
 (try simp only [Act.put,List.setIfInBounds_toArray,List.set_cons_zero,List.set_cons_succ])
 go_cut [5] (fun v5 wc => ∃ (kq:Nat) (x5_3:ByteArray),v5=.string x5_3/\Aside0 (Zf.j0 kq qa x5_3 qo qf qe=some r)/\Aside0 (kq<=k)/\Aside0 (Kd.R (Kd.int .i64) 3 wc w.heap.size (fun _=>True) (.slice qk qf.length qj) qf)/\Aside0 (wc.heap[qr]? = some (.cells #[.bool a0_0,(.slice A0_1 l0_1.length c0_1),.int .i64 a0_2] 24 (0,0)))/\Aside0 (wc.heap[qp]? = some (.cells #[.bool qo,(.slice qk qf.length qj),.int .i64 qe] 30 (0,0)))/\Aside0 (Below w.heap.size w wc))
 case first =>
  have H:=HC4.o
  clear HC4
  by_cases c14:qo=true
  ·subst c14
   rw [if_pos rfl] at H
   have H':=am H
   clear H
   go_wp2
   go_meet
   case rel=>exact ⟨_,((⟨#[45]⟩:ByteArray)),pR,H',⟨by first|omega|exact Nat.le_refl _⟩,⟨by refine rp ?_;exact ql.o⟩,⟨Zb qc.o pl⟩,⟨Zb qd.o pl⟩,⟨pB⟩⟩
  ·replace c14:=Bool.eq_false_iff.mpr c14
   subst c14
   rw [if_neg (show ¬ (false=true) by decide)] at H
   have H':=am H
   clear H
   go_wp2
   go_meet
   case rel=>exact ⟨_,((⟨#[]⟩:ByteArray)),pR,H',⟨by first|omega|exact Nat.le_refl _⟩,⟨by refine rp ?_;exact ql.o⟩,⟨Zb qc.o pl⟩,⟨Zb qd.o pl⟩,⟨pB⟩⟩
 case rest =>
  clear HC4
  obtain ⟨kq,x5_3,rfl,HA,HJ3,qb,qc,qd,HB⟩:=hcut
  cases kq with
  | zero=>exact absurd HA.out (by simp [Zf.j0])
  | succ kj3 =>
   have H:=HA.out
   clear HA
   simp only [Zf.j0] at H
   have HC15:=am H
   clear H
   have q3:=qi.o
   have q6:=qh.o
   obtain ⟨_,_,_,_,_,_⟩:=cEc qd.o
   go_upto_block 0 with (fail)
   go_cut [] (fun wc => ∃ (kq:Nat),Aside0 (Zf.j3 kq qa x5_3 (wrap64 ((qa.size:Int)+qe))=some r)/\Aside0 (kq<=kj3)/\Aside0 (Kd.R (Kd.int .i64) 3 wc w.heap.size (fun _=>True) (.slice qk qf.length qj) qf)/\Aside0 (wc.heap[qr]? = some (.cells #[.bool a0_0,(.slice A0_1 l0_1.length c0_1),.int .i64 a0_2] 24 (0,0)))/\Aside0 (wc.heap[qp]? = some (.cells #[.bool qo,(.slice qk qf.length qj),.int .i64 qe] 30 (0,0)))/\Aside0 (Below w.heap.size w wc))
   case first =>
    have H:=HC15.o
    clear HC15
    by_cases c18:(qf.length:Int)=0
    ·rw [if_pos c18] at H
     have c18b0:((qf.length:Int) == 0)=true:=beq_iff_eq.mpr c18
     have c18b1:((qf.length:Int) != 0)=false:=bne_eq_false_iff_eq.mpr c18
     clear c18
     (first|rw [c18b0]|(simp only [Zcd,Zdb];rw [c18b0])|skip)
     obtain rfl:=Option.some.inj H
     have q4:=qi.o
     have q7:=qh.o
     obtain ⟨_,_,_,_,_,_⟩:=cEc qd.o
     go_wp2
     go_ret
     exact ⟨pE,pB⟩
    ·rw [if_neg c18] at H
     have c18b0:((qf.length:Int) == 0)=false:=beq_eq_false_iff_ne.mpr c18
     have c18b1:((qf.length:Int) != 0)=true:=bne_iff_ne.mpr c18
     have c18b2:¬ (qf=[]):=fun h_=>c18 (by rw [h_];rfl)
     (first|rw [c18b0]|(simp only [Zcd,Zdb];rw [c18b0])|skip)
     have HC21:=am H
     clear H
     have q5:=qi.o
     have q8:=qh.o
     obtain ⟨_,_,_,_,_,_⟩:=cEc qd.o
     go_upto_region 8 with (fail)
     go_cut [25] (fun v25 wc => ∃ (kq:Nat) (x25_20:Bool),v25=.bool x25_20/\Aside0 (Zf.j1 kq qa x5_3 (wrap64 ((qa.size:Int)+qe)) x25_20=some r)/\Aside0 (kq<=kj3)/\Aside0 (Kd.R (Kd.int .i64) 3 wc w.heap.size (fun _=>True) (.slice qk qf.length qj) qf)/\Aside0 (wc.heap[qr]? = some (.cells #[.bool a0_0,(.slice A0_1 l0_1.length c0_1),.int .i64 a0_2] 24 (0,0)))/\Aside0 (wc.heap[qp]? = some (.cells #[.bool qo,(.slice qk qf.length qj),.int .i64 qe] 30 (0,0)))/\Aside0 (Below w.heap.size w wc))
     case first =>
      have H:=HC21.o
      clear HC21
      by_cases c24:(wrap64 ((qa.size:Int)+qe)) >= (-5)
      ·rw [if_pos c24] at H
       have c24b0:decide ((-5)<=(wrap64 ((qa.size:Int)+qe)))=true:=decide_eq_true c24
       clear c24
       (first|rw [c24b0]|(simp only [Zcd,Zdb];rw [c24b0])|skip)
       have H':=am H
       clear H
       go_wp2
       go_meet
       case rel=>exact ⟨_,(decide ((wrap64 ((qa.size:Int)+qe)) < 1)),pR,H',⟨by have := HJ3.o;first|omega|exact Nat.le_refl _⟩,⟨by refine rp ?_;exact qb.o⟩,⟨Zb qc.o pl⟩,⟨Zb qd.o pl⟩,⟨pB⟩⟩
      ·rw [if_neg c24] at H
       have c24b0:decide ((-5)<=(wrap64 ((qa.size:Int)+qe)))=false:=decide_eq_false c24
       clear c24
       (first|rw [c24b0]|(simp only [Zcd,Zdb];rw [c24b0])|skip)
       have H':=am H
       clear H
       go_wp2
       go_meet
       case rel=>exact ⟨_,(false),pR,H',⟨by have := HJ3.o;first|omega|exact Nat.le_refl _⟩,⟨by refine rp ?_;exact qb.o⟩,⟨Zb qc.o pl⟩,⟨Zb qd.o pl⟩,⟨pB⟩⟩
     case rest =>
      clear HC21
      obtain ⟨kq,x25_20,rfl,HA,HJ20,qb,qc,qd,HB⟩:=hcut
      cases kq with
      | zero=>exact absurd HA.out (by simp [Zf.j1])
      | succ qv =>
       have H:=HA.out
       clear HA
       simp only [Zf.j1] at H
       by_cases c25:x25_20=true
       ·subst c25
        rw [if_pos rfl] at H
        by_cases c26:x5_3.size+2<=9223372036854775807
        ·rw [if_pos c26] at H
         have c26b0:=eq_true c26
         have c26b1:decide (x5_3.size+2<=9223372036854775807)=true:=decide_eq_true c26
         try have c26b2:(9223372036854775807 < x5_3.size+2)=False:=eq_false (Nat.not_lt.2 c26)
         obtain ⟨qm,A27,H⟩:=ob H
         by_cases c28:(x5_3++(⟨#[48,46]⟩:ByteArray)).size+qm.size<=9223372036854775807
         ·rw [if_pos c28] at H
          have c28b0:=eq_true c28
          have c28b1:decide ((x5_3++(⟨#[48,46]⟩:ByteArray)).size+qm.size<=9223372036854775807)=true:=decide_eq_true c28
          try have c28b2:(9223372036854775807 < (x5_3++(⟨#[48,46]⟩:ByteArray)).size+qm.size)=False:=eq_false (Nat.not_lt.2 c28)
          try have c28b3:(9223372036854775807 < x5_3.size+2+qm.size)=False:=eq_false (Nat.not_lt.2 (by have q_:=c28;have l0_:(⟨#[48,46]⟩:ByteArray).size=2:=rfl;(try have h0_:=of_decide_eq_true c26b1);simp only [ByteArray.size_append,ByteArray.size_extract] at q_;omega))
          by_cases c29:((x5_3++(⟨#[48,46]⟩:ByteArray))++qm).size+qa.size<=9223372036854775807
          ·rw [if_pos c29] at H
           have c29b0:=eq_true c29
           have c29b1:decide (((x5_3++(⟨#[48,46]⟩:ByteArray))++qm).size+qa.size<=9223372036854775807)=true:=decide_eq_true c29
           try have c29b2:(9223372036854775807 < ((x5_3++(⟨#[48,46]⟩:ByteArray))++qm).size+qa.size)=False:=eq_false (Nat.not_lt.2 c29)
           try have c29b3:(9223372036854775807 < x5_3.size+2+qm.size+qa.size)=False:=eq_false (Nat.not_lt.2 (by have q_:=c29;have l0_:(⟨#[48,46]⟩:ByteArray).size=2:=rfl;(try have h0_:=of_decide_eq_true c26b1);(try have h1_:=of_decide_eq_true c28b1);simp only [ByteArray.size_append,ByteArray.size_extract] at q_;omega))
           obtain rfl:=Option.some.inj H
           go_wp2_with (first|(refine gL (some 36) Tryz.func119 #[.int .i64 (wrap64 (-(wrap64 ((qa.size:Int)+qe))))] (h:=?_);(with_reducible refine (Zba.calls qv (wrap64 (-(wrap64 ((qa.size:Int)+qe)))) qm _ A27.o).mono ?_);rintro e w' ⟨rfl,⟨nd,rfl⟩⟩;refine ⟨_,rfl,?_⟩))
           go_ret
           exact ⟨pE,pB⟩
          ·rw [if_neg c29] at H
           exact absurd H (by simp)
         ·rw [if_neg c28] at H
          exact absurd H (by simp)
        ·rw [if_neg c26] at H
         exact absurd H (by simp)
       ·replace c25:=Bool.eq_false_iff.mpr c25
        subst c25
        rw [if_neg (show ¬ (false=true) by decide)] at H
        have HC30:=am H
        clear H
        go_upto_region 10 with (fail)
        go_cut [40] (fun v40 wc => ∃ (kq:Nat) (x40_29:Bool),v40=.bool x40_29/\Aside0 (Zf.j2 kq qa x5_3 (wrap64 ((qa.size:Int)+qe)) x40_29=some r)/\Aside0 (kq<=qv)/\Aside0 (Kd.R (Kd.int .i64) 3 wc w.heap.size (fun _=>True) (.slice qk qf.length qj) qf)/\Aside0 (wc.heap[qr]? = some (.cells #[.bool a0_0,(.slice A0_1 l0_1.length c0_1),.int .i64 a0_2] 24 (0,0)))/\Aside0 (wc.heap[qp]? = some (.cells #[.bool qo,(.slice qk qf.length qj),.int .i64 qe] 30 (0,0)))/\Aside0 (Below w.heap.size w wc))
        case first =>
         have H:=HC30.o
         clear HC30
         by_cases c31:(wrap64 ((qa.size:Int)+qe)) >= 1
         ·rw [if_pos c31] at H
          have c31b0:decide (1<=(wrap64 ((qa.size:Int)+qe)))=true:=decide_eq_true c31
          clear c31
          (first|rw [c31b0]|(simp only [Zcd,Zdb];rw [c31b0])|skip)
          by_cases c32:(wrap64 ((qa.size:Int)+qe))<=21
          ·rw [if_pos c32] at H
           have c32b0:decide ((wrap64 ((qa.size:Int)+qe))<=21)=true:=decide_eq_true c32
           clear c32
           have H':=am H
           clear H
           go_wp2
           go_meet
           case rel=>exact ⟨_,(decide ((wrap64 ((qa.size:Int)+qe)) < (qa.size:Int))),pR,H',⟨by have := HJ3.o;have := HJ20.o;first|omega|exact Nat.le_refl _⟩,⟨by refine rp ?_;exact qb.o⟩,⟨Zb qc.o pl⟩,⟨Zb qd.o pl⟩,⟨pB⟩⟩
          ·rw [if_neg c32] at H
           have c32b0:decide ((wrap64 ((qa.size:Int)+qe))<=21)=false:=decide_eq_false c32
           clear c32
           have H':=am H
           clear H
           go_wp2
           go_meet
           case rel=>exact ⟨_,(false),pR,H',⟨by have := HJ3.o;have := HJ20.o;first|omega|exact Nat.le_refl _⟩,⟨by refine rp ?_;exact qb.o⟩,⟨Zb qc.o pl⟩,⟨Zb qd.o pl⟩,⟨pB⟩⟩
         ·rw [if_neg c31] at H
          have c31b0:decide (1<=(wrap64 ((qa.size:Int)+qe)))=false:=decide_eq_false c31
          clear c31
          (first|rw [c31b0]|(simp only [Zcd,Zdb];rw [c31b0])|skip)
          have H':=am H
          clear H
          go_wp2
          go_meet
          case rel=>exact ⟨_,(false),pR,H',⟨by have := HJ3.o;have := HJ20.o;first|omega|exact Nat.le_refl _⟩,⟨by refine rp ?_;exact qb.o⟩,⟨Zb qc.o pl⟩,⟨Zb qd.o pl⟩,⟨pB⟩⟩
        case rest =>
         clear HC30
         obtain ⟨kq,x40_29,rfl,HA,HJ29,qb,qc,qd,HB⟩:=hcut
         cases kq with
         | zero=>exact absurd HA.out (by simp [Zf.j2])
         | succ q0 =>
          have H:=HA.out
          clear HA
          simp only [Zf.j2] at H
          by_cases c33:x40_29=true
          ·subst c33
           rw [if_pos rfl] at H
           obtain ⟨ji34,hji34⟩:∃ j_:Int,(wrap64 ((qa.size:Int)+qe))=j_:=⟨_,rfl⟩
           replace H:(if 0<=(ji34) then (if (ji34)<=(qa.size:Int) then (if x5_3.size+(qa.extract 0 ((ji34):Int).toNat).size<=9223372036854775807 then (if (x5_3++(qa.extract 0 ((ji34):Int).toNat)).size+1<=9223372036854775807 then (if ((x5_3++(qa.extract 0 ((ji34):Int).toNat))++(⟨#[46]⟩:ByteArray)).size+(qa.extract ((ji34):Int).toNat qa.size).size<=9223372036854775807 then (some (((x5_3++(qa.extract 0 ((ji34):Int).toNat))++(⟨#[46]⟩:ByteArray))++(qa.extract ((ji34):Int).toNat qa.size))) else (none)) else (none)) else (none)) else (none)) else (none))=some r:=by first|(rw [hji34] at H;exact H)|(simp only [hji34] at H ⊢;exact H)
           have hji34w:(IntKind.i64.wrap ((qa.size:Int)+qe))=ji34:=(Zcd _).trans hji34
           by_cases c35:0<=(ji34)
           ·rw [if_pos c35] at H
            have c35b0:=eq_true c35
            have c35b1:decide (0<=(ji34))=true:=decide_eq_true c35
            clear c35
            by_cases c36:(ji34)<=(qa.size:Int)
            ·rw [if_pos c36] at H
             have c36b0:=eq_true c36
             have c36b1:decide ((ji34)<=(qa.size:Int))=true:=decide_eq_true c36
             clear c36
             by_cases c37:x5_3.size+(qa.extract 0 ((ji34):Int).toNat).size<=9223372036854775807
             ·rw [if_pos c37] at H
              have c37b0:=eq_true c37
              have c37b1:decide (x5_3.size+(qa.extract 0 ((ji34):Int).toNat).size<=9223372036854775807)=true:=decide_eq_true c37
              try have c37b2:(9223372036854775807 < x5_3.size+(qa.extract 0 ((ji34):Int).toNat).size)=False:=eq_false (Nat.not_lt.2 c37)
              try have c37b3:(9223372036854775807 < x5_3.size+((ji34):Int).toNat)=False:=eq_false (Nat.not_lt.2 (by have q_:=c37;(try have h0_:=of_decide_eq_true c35b1);(try have h1_:=of_decide_eq_true c36b1);simp only [ByteArray.size_append,ByteArray.size_extract] at q_;omega))
              by_cases c38:(x5_3++(qa.extract 0 ((ji34):Int).toNat)).size+1<=9223372036854775807
              ·rw [if_pos c38] at H
               have c38b0:=eq_true c38
               have c38b1:decide ((x5_3++(qa.extract 0 ((ji34):Int).toNat)).size+1<=9223372036854775807)=true:=decide_eq_true c38
               try have c38b2:(9223372036854775807 < (x5_3++(qa.extract 0 ((ji34):Int).toNat)).size+1)=False:=eq_false (Nat.not_lt.2 c38)
               try have c38b3:(9223372036854775807 < x5_3.size+((ji34):Int).toNat+1)=False:=eq_false (Nat.not_lt.2 (by have q_:=c38;(try have h0_:=of_decide_eq_true c35b1);(try have h1_:=of_decide_eq_true c36b1);(try have h2_:=of_decide_eq_true c37b1);simp only [ByteArray.size_append,ByteArray.size_extract] at q_;omega))
               have c39b0:=eq_true (of_decide_eq_true pQ:0<=(ji34))
               have c40b0:=eq_true (of_decide_eq_true pQ:(ji34)<=(qa.size:Int))
               by_cases c41:((x5_3++(qa.extract 0 ((ji34):Int).toNat))++(⟨#[46]⟩:ByteArray)).size+(qa.extract ((ji34):Int).toNat qa.size).size<=9223372036854775807
               ·rw [if_pos c41] at H
                have c41b0:=eq_true c41
                have c41b1:decide (((x5_3++(qa.extract 0 ((ji34):Int).toNat))++(⟨#[46]⟩:ByteArray)).size+(qa.extract ((ji34):Int).toNat qa.size).size<=9223372036854775807)=true:=decide_eq_true c41
                try have c41b2:(9223372036854775807 < ((x5_3++(qa.extract 0 ((ji34):Int).toNat))++(⟨#[46]⟩:ByteArray)).size+(qa.extract ((ji34):Int).toNat qa.size).size)=False:=eq_false (Nat.not_lt.2 c41)
                try have c41b3:(9223372036854775807 < x5_3.size+((ji34):Int).toNat+1+(qa.size - ((ji34):Int).toNat))=False:=eq_false (Nat.not_lt.2 (by have q_:=c41;have l0_:(⟨#[46]⟩:ByteArray).size=1:=rfl;(try have h0_:=of_decide_eq_true c35b1);(try have h1_:=of_decide_eq_true c36b1);(try have h2_:=of_decide_eq_true c37b1);(try have h3_:=of_decide_eq_true c38b1);simp only [ByteArray.size_append,ByteArray.size_extract] at q_;omega))
                obtain rfl:=Option.some.inj H
                try go_wp2
                replace qb:=am (Kd.Zc1 qb.o)
                replace qc:=am (Zar qc.o)
                replace qd:=am (Zar qd.o)
                replace HB:=am (Zav HB.o)
                refine start_ (n:=11) (S:=fun w'=>True) (ds:=[]) #[false,false,false,false,false,false,false,false,false,false,false] (by kernel_rfl) rfl rfl trivial (fun hHeld=>?_);refine Zb6 Zf.tab11 Zf.bits11 (fun HT_ HW_=>?_)
                generalize wc.drew=w42 at qb qc qd HB hHeld ⊢
                refine pu 0 (some 53) #[true,false,false,false,false,false,false,false,false,false,false] (h:=?_)
                refine pu 1 (some 54) #[true,true,false,false,false,false,false,false,false,false,false] (h:=?_)
                refine pu 2 (some 55) #[true,true,true,false,false,false,false,false,false,false,false] (h:=?_)
                refine pu 3 (some 56) #[true,true,true,true,false,false,false,false,false,false,false] (h:=?_)
                refine pu 4 (some 57) #[true,true,true,true,true,false,false,false,false,false,false] (h:=?_)
                refine pu 5 (some 58) #[true,true,true,true,true,true,false,false,false,false,false] (h:=?_)
                refine pu 6 (some 59) #[true,true,true,true,true,true,true,false,false,false,false] (h:=?_)
                refine pu 7 (some 60) #[true,true,true,true,true,true,true,true,false,false,false] (h:=?_)
                refine pu 8 (some 61) #[true,true,true,true,true,true,true,true,true,false,false] (h:=?_)
                refine pu 9 (some 62) #[true,true,true,true,true,true,true,true,true,true,false] (h:=?_)
                refine pu 10 (some 2) #[true,true,true,true,true,true,true,true,true,true,true] (h:=?_)
                refine done_ (Zde HT_.out (by kernel_rfl)) ?_
                try go_wp2
                go_ret
                exact ⟨by first|rfl|(simp [Zak,Zal] <;> rfl)|(simp only [<- hji34];first|rfl|(simp [Zak,Zal] <;> rfl))|(simp [*,Zak,Zal] <;> rfl),pB⟩
               ·rw [if_neg c41] at H
                exact absurd H (by simp)
              ·rw [if_neg c38] at H
               exact absurd H (by simp)
             ·rw [if_neg c37] at H
              exact absurd H (by simp)
            ·rw [if_neg c36] at H
             exact absurd H (by simp)
           ·rw [if_neg c35] at H
            exact absurd H (by simp)
          ·replace c33:=Bool.eq_false_iff.mpr c33
           subst c33
           rw [if_neg (show ¬ (false=true) by decide)] at H
           by_cases c43:(wrap64 ((qa.size:Int)+qe)) >= 1
           ·rw [if_pos c43] at H
            have c43b0:decide (1<=(wrap64 ((qa.size:Int)+qe)))=true:=decide_eq_true c43
            clear c43
            by_cases c44:(wrap64 ((qa.size:Int)+qe))<=21
            ·rw [if_pos c44] at H
             have c44b0:decide ((wrap64 ((qa.size:Int)+qe))<=21)=true:=decide_eq_true c44
             clear c44
             by_cases c45:x5_3.size+qa.size<=9223372036854775807
             ·rw [if_pos c45] at H
              have c45b0:=eq_true c45
              have c45b1:decide (x5_3.size+qa.size<=9223372036854775807)=true:=decide_eq_true c45
              try have c45b2:(9223372036854775807 < x5_3.size+qa.size)=False:=eq_false (Nat.not_lt.2 c45)
              obtain ⟨qs,A46,H⟩:=ob H
              by_cases c47:(x5_3++qa).size+qs.size<=9223372036854775807
              ·rw [if_pos c47] at H
               have c47b0:=eq_true c47
               have c47b1:decide ((x5_3++qa).size+qs.size<=9223372036854775807)=true:=decide_eq_true c47
               try have c47b2:(9223372036854775807 < (x5_3++qa).size+qs.size)=False:=eq_false (Nat.not_lt.2 c47)
               try have c47b3:(9223372036854775807 < x5_3.size+qa.size+qs.size)=False:=eq_false (Nat.not_lt.2 (by have q_:=c47;(try have h0_:=of_decide_eq_true c45b1);simp only [ByteArray.size_append,ByteArray.size_extract] at q_;omega))
               obtain rfl:=Option.some.inj H
               go_wp2_with (first|(refine gL (some 77) Tryz.func119 #[.int .i64 (wrap64 ((wrap64 ((qa.size:Int)+qe)) - (qa.size:Int)))] (h:=?_);(with_reducible refine (Zba.calls q0 (wrap64 ((wrap64 ((qa.size:Int)+qe)) - (qa.size:Int))) qs _ A46.o).mono ?_);rintro e w' ⟨rfl,⟨nd,rfl⟩⟩;refine ⟨_,rfl,?_⟩))
               go_ret
               exact ⟨pE,pB⟩
              ·rw [if_neg c47] at H
               exact absurd H (by simp)
             ·rw [if_neg c45] at H
              exact absurd H (by simp)
            ·rw [if_neg c44] at H
             have c44b0:decide ((wrap64 ((qa.size:Int)+qe))<=21)=false:=decide_eq_false c44
             clear c44
             have H':=am H
             clear H
             go_wp2
             go_meet
             case rel=>exact ⟨_,H',⟨by have := HJ3.o;have := HJ20.o;have := HJ29.o;first|omega|exact Nat.le_refl _⟩,⟨by refine rp ?_;exact qb.o⟩,⟨Zb qc.o pl⟩,⟨Zb qd.o pl⟩,⟨pB⟩⟩
           ·rw [if_neg c43] at H
            have c43b0:decide (1<=(wrap64 ((qa.size:Int)+qe)))=false:=decide_eq_false c43
            clear c43
            have H':=am H
            clear H
            go_wp2
            go_meet
            case rel=>exact ⟨_,H',⟨by have := HJ3.o;have := HJ20.o;have := HJ29.o;first|omega|exact Nat.le_refl _⟩,⟨by refine rp ?_;exact qb.o⟩,⟨Zb qc.o pl⟩,⟨Zb qd.o pl⟩,⟨pB⟩⟩
   case rest =>
    clear HC15
    obtain ⟨kq,HA,HJ14,qb,qc,qd,HB⟩:=hcut
    cases kq with
    | zero=>exact absurd HA.out (by simp [Zf.j3])
    | succ qz =>
     have H:=HA.out
     clear HA
     simp only [Zf.j3] at H
     have HC48:=am H
     clear H
     go_upto_if 82 with (fail)
     go_cut [6,7] (fun v6 v7 wc => ∃ (kq:Nat) (x6_47:Int) (x7_47:ByteArray),v6=.int .i64 x6_47/\v7=.string x7_47/\Aside0 (Zf.j4 kq qa x5_3 x6_47 x7_47=some r)/\Aside0 (kq<=qz)/\Aside0 (Kd.R (Kd.int .i64) 3 wc w.heap.size (fun _=>True) (.slice qk qf.length qj) qf)/\Aside0 (wc.heap[qr]? = some (.cells #[.bool a0_0,(.slice A0_1 l0_1.length c0_1),.int .i64 a0_2] 24 (0,0)))/\Aside0 (wc.heap[qp]? = some (.cells #[.bool qo,(.slice qk qf.length qj),.int .i64 qe] 30 (0,0)))/\Aside0 (Below w.heap.size w wc))
     case first =>
      have H:=HC48.o
      clear HC48
      by_cases c49:(wrap64 ((wrap64 ((qa.size:Int)+qe)) - 1)) < 0
      ·rw [if_pos c49] at H
       have c49b0:decide ((wrap64 ((wrap64 ((qa.size:Int)+qe)) - 1)) < 0)=true:=decide_eq_true c49
       clear c49
       (first|rw [c49b0]|(simp only [Zcd,Zdb];rw [c49b0])|skip)
       have H':=am H
       clear H
       go_wp2
       go_meet
       case rel=>exact ⟨_,(wrap64 (-(wrap64 ((wrap64 ((qa.size:Int)+qe)) - 1)))),((⟨#[101,45]⟩:ByteArray)),pR,pR,H',⟨by have := HJ3.o;have := HJ14.o;first|omega|exact Nat.le_refl _⟩,⟨by refine rp ?_;exact qb.o⟩,⟨Zb qc.o pl⟩,⟨Zb qd.o pl⟩,⟨pB⟩⟩
      ·rw [if_neg c49] at H
       have c49b0:decide ((wrap64 ((wrap64 ((qa.size:Int)+qe)) - 1)) < 0)=false:=decide_eq_false c49
       clear c49
       (first|rw [c49b0]|(simp only [Zcd,Zdb];rw [c49b0])|skip)
       have H':=am H
       clear H
       go_wp2
       go_meet
       case rel=>exact ⟨_,(wrap64 ((wrap64 ((qa.size:Int)+qe)) - 1)),((⟨#[101,43]⟩:ByteArray)),pR,pR,H',⟨by have := HJ3.o;have := HJ14.o;first|omega|exact Nat.le_refl _⟩,⟨by refine rp ?_;exact qb.o⟩,⟨Zb qc.o pl⟩,⟨Zb qd.o pl⟩,⟨pB⟩⟩
     case rest =>
      clear HC48
      obtain ⟨kq,x6_47,x7_47,rfl,rfl,HA,HJ47,qb,qc,qd,HB⟩:=hcut
      cases kq with
      | zero=>exact absurd HA.out (by simp [Zf.j4])
      | succ qw =>
       have H:=HA.out
       clear HA
       simp only [Zf.j4] at H
       by_cases c50:(qa.size:Int) > 1
       ·rw [if_pos c50] at H
        have c50b0:decide (1 < (qa.size:Int))=true:=decide_eq_true c50
        have c50b1:decide (1 < qa.size)=true:=decide_eq_true (by omega)
        clear c50
        by_cases c51:0<=1
        ·rw [if_pos c51] at H
         have c51b0:=eq_true c51
         have c51b1:decide (0<=1)=true:=decide_eq_true c51
         clear c51
         by_cases c52:1<=(qa.size:Int)
         ·rw [if_pos c52] at H
          have c52b0:=eq_true c52
          have c52b1:decide (1<=(qa.size:Int))=true:=decide_eq_true c52
          clear c52
          by_cases c53:x5_3.size+(qa.extract 0 1).size<=9223372036854775807
          ·rw [if_pos c53] at H
           have c53b0:=eq_true c53
           have c53b1:decide (x5_3.size+(qa.extract 0 1).size<=9223372036854775807)=true:=decide_eq_true c53
           try have c53b2:(9223372036854775807 < x5_3.size+(qa.extract 0 1).size)=False:=eq_false (Nat.not_lt.2 c53)
           try have c53b3:(9223372036854775807 < x5_3.size+1)=False:=eq_false (Nat.not_lt.2 (by have q_:=c53;(try have h0_:=of_decide_eq_true c51b1);(try have h1_:=of_decide_eq_true c52b1);simp only [ByteArray.size_append,ByteArray.size_extract] at q_;omega))
           try have c53b4:(9223372036854775807 < x5_3.size+min 1 qa.size)=False:=eq_false (Nat.not_lt.2 (by have q_:=c53;(try have h0_:=of_decide_eq_true c51b1);(try have h1_:=of_decide_eq_true c52b1);simp only [ByteArray.size_append,ByteArray.size_extract] at q_;omega))
           by_cases c54:(x5_3++(qa.extract 0 1)).size+1<=9223372036854775807
           ·rw [if_pos c54] at H
            have c54b0:=eq_true c54
            have c54b1:decide ((x5_3++(qa.extract 0 1)).size+1<=9223372036854775807)=true:=decide_eq_true c54
            try have c54b2:(9223372036854775807 < (x5_3++(qa.extract 0 1)).size+1)=False:=eq_false (Nat.not_lt.2 c54)
            try have c54b3:(9223372036854775807 < x5_3.size+1+1)=False:=eq_false (Nat.not_lt.2 (by have q_:=c54;(try have h0_:=of_decide_eq_true c51b1);(try have h1_:=of_decide_eq_true c52b1);(try have h2_:=of_decide_eq_true c53b1);simp only [ByteArray.size_append,ByteArray.size_extract] at q_;omega))
            try have c54b4:(9223372036854775807 < x5_3.size+min 1 qa.size+1)=False:=eq_false (Nat.not_lt.2 (by have q_:=c54;(try have h0_:=of_decide_eq_true c51b1);(try have h1_:=of_decide_eq_true c52b1);(try have h2_:=of_decide_eq_true c53b1);simp only [ByteArray.size_append,ByteArray.size_extract] at q_;omega))
            have c55b0:=eq_true (of_decide_eq_true pQ:1<=(qa.size:Int))
            by_cases c56:((x5_3++(qa.extract 0 1))++(⟨#[46]⟩:ByteArray)).size+(qa.extract 1 qa.size).size<=9223372036854775807
            ·rw [if_pos c56] at H
             have c56b0:=eq_true c56
             have c56b1:decide (((x5_3++(qa.extract 0 1))++(⟨#[46]⟩:ByteArray)).size+(qa.extract 1 qa.size).size<=9223372036854775807)=true:=decide_eq_true c56
             try have c56b2:(9223372036854775807 < ((x5_3++(qa.extract 0 1))++(⟨#[46]⟩:ByteArray)).size+(qa.extract 1 qa.size).size)=False:=eq_false (Nat.not_lt.2 c56)
             try have c56b3:(9223372036854775807 < x5_3.size+1+1+(qa.size - 1))=False:=eq_false (Nat.not_lt.2 (by have q_:=c56;have l0_:(⟨#[46]⟩:ByteArray).size=1:=rfl;(try have h0_:=of_decide_eq_true c51b1);(try have h1_:=of_decide_eq_true c52b1);(try have h2_:=of_decide_eq_true c53b1);(try have h3_:=of_decide_eq_true c54b1);simp only [ByteArray.size_append,ByteArray.size_extract] at q_;omega))
             try have c56b4:(9223372036854775807 < x5_3.size+min 1 qa.size+1+(qa.size - 1))=False:=eq_false (Nat.not_lt.2 (by have q_:=c56;have l0_:(⟨#[46]⟩:ByteArray).size=1:=rfl;(try have h0_:=of_decide_eq_true c51b1);(try have h1_:=of_decide_eq_true c52b1);(try have h2_:=of_decide_eq_true c53b1);(try have h3_:=of_decide_eq_true c54b1);simp only [ByteArray.size_append,ByteArray.size_extract] at q_;omega))
             by_cases c57:(((x5_3++(qa.extract 0 1))++(⟨#[46]⟩:ByteArray))++(qa.extract 1 qa.size)).size+x7_47.size<=9223372036854775807
             ·rw [if_pos c57] at H
              have c57b0:=eq_true c57
              have c57b1:decide ((((x5_3++(qa.extract 0 1))++(⟨#[46]⟩:ByteArray))++(qa.extract 1 qa.size)).size+x7_47.size<=9223372036854775807)=true:=decide_eq_true c57
              try have c57b2:(9223372036854775807 < (((x5_3++(qa.extract 0 1))++(⟨#[46]⟩:ByteArray))++(qa.extract 1 qa.size)).size+x7_47.size)=False:=eq_false (Nat.not_lt.2 c57)
              try have c57b3:(9223372036854775807 < x5_3.size+1+1+((qa.size - 1))+x7_47.size)=False:=eq_false (Nat.not_lt.2 (by have q_:=c57;have l0_:(⟨#[46]⟩:ByteArray).size=1:=rfl;(try have h0_:=of_decide_eq_true c51b1);(try have h1_:=of_decide_eq_true c52b1);(try have h2_:=of_decide_eq_true c53b1);(try have h3_:=of_decide_eq_true c54b1);(try have h4_:=of_decide_eq_true c56b1);simp only [ByteArray.size_append,ByteArray.size_extract] at q_;omega))
              try have c57b4:(9223372036854775807 < x5_3.size+min 1 qa.size+1+((qa.size - 1))+x7_47.size)=False:=eq_false (Nat.not_lt.2 (by have q_:=c57;have l0_:(⟨#[46]⟩:ByteArray).size=1:=rfl;(try have h0_:=of_decide_eq_true c51b1);(try have h1_:=of_decide_eq_true c52b1);(try have h2_:=of_decide_eq_true c53b1);(try have h3_:=of_decide_eq_true c54b1);(try have h4_:=of_decide_eq_true c56b1);simp only [ByteArray.size_append,ByteArray.size_extract] at q_;omega))
              obtain ⟨qq,A58,H⟩:=ob H
              by_cases c59:((((x5_3++(qa.extract 0 1))++(⟨#[46]⟩:ByteArray))++(qa.extract 1 qa.size))++x7_47).size+qq.size<=9223372036854775807
              ·rw [if_pos c59] at H
               have c59b0:=eq_true c59
               have c59b1:decide (((((x5_3++(qa.extract 0 1))++(⟨#[46]⟩:ByteArray))++(qa.extract 1 qa.size))++x7_47).size+qq.size<=9223372036854775807)=true:=decide_eq_true c59
               try have c59b2:(9223372036854775807 < ((((x5_3++(qa.extract 0 1))++(⟨#[46]⟩:ByteArray))++(qa.extract 1 qa.size))++x7_47).size+qq.size)=False:=eq_false (Nat.not_lt.2 c59)
               try have c59b3:(9223372036854775807 < x5_3.size+1+1+((qa.size - 1))+x7_47.size+qq.size)=False:=eq_false (Nat.not_lt.2 (by have q_:=c59;have l0_:(⟨#[46]⟩:ByteArray).size=1:=rfl;(try have h0_:=of_decide_eq_true c51b1);(try have h1_:=of_decide_eq_true c52b1);(try have h2_:=of_decide_eq_true c53b1);(try have h3_:=of_decide_eq_true c54b1);(try have h4_:=of_decide_eq_true c56b1);(try have h5_:=of_decide_eq_true c57b1);simp only [ByteArray.size_append,ByteArray.size_extract] at q_;omega))
               try have c59b4:(9223372036854775807 < x5_3.size+min 1 qa.size+1+((qa.size - 1))+x7_47.size+qq.size)=False:=eq_false (Nat.not_lt.2 (by have q_:=c59;have l0_:(⟨#[46]⟩:ByteArray).size=1:=rfl;(try have h0_:=of_decide_eq_true c51b1);(try have h1_:=of_decide_eq_true c52b1);(try have h2_:=of_decide_eq_true c53b1);(try have h3_:=of_decide_eq_true c54b1);(try have h4_:=of_decide_eq_true c56b1);(try have h5_:=of_decide_eq_true c57b1);simp only [ByteArray.size_append,ByteArray.size_extract] at q_;omega))
               obtain rfl:=Option.some.inj H
               try go_wp2
               replace qb:=am (Kd.Zc1 qb.o)
               replace qc:=am (Zar qc.o)
               replace qd:=am (Zar qd.o)
               replace HB:=am (Zav HB.o)
               refine start_ (n:=14) (S:=fun w'=>True) (ds:=[]) #[false,false,false,false,false,false,false,false,false,false,false,false,false,false] (by kernel_rfl) rfl rfl trivial (fun hHeld=>?_);refine Zb6 Zf.tab19 Zf.bits19 (fun HT_ HW_=>?_)
               generalize wc.drew=w60 at qb qc qd HB hHeld ⊢
               refine pu 0 (some 88) #[true,false,false,false,false,false,false,false,false,false,false,false,false,false] (h:=?_)
               refine pu 1 (some 89) #[true,true,false,false,false,false,false,false,false,false,false,false,false,false] (h:=?_)
               refine pu 2 (some 90) #[true,true,true,false,false,false,false,false,false,false,false,false,false,false] (h:=?_)
               refine pu 3 (some 91) #[true,true,true,true,false,false,false,false,false,false,false,false,false,false] (h:=?_)
               refine pu 4 (some 92) #[true,true,true,true,true,false,false,false,false,false,false,false,false,false] (h:=?_)
               refine pu 5 (some 93) #[true,true,true,true,true,true,false,false,false,false,false,false,false,false] (h:=?_)
               refine pu 6 (some 94) #[true,true,true,true,true,true,true,false,false,false,false,false,false,false] (h:=?_)
               refine pu 7 (some 95) #[true,true,true,true,true,true,true,true,false,false,false,false,false,false] (h:=?_)
               refine pu 8 (some 96) #[true,true,true,true,true,true,true,true,true,false,false,false,false,false] (h:=?_)
               refine pu 9 (some 97) #[true,true,true,true,true,true,true,true,true,true,false,false,false,false] (h:=?_)
               refine pu 10 (some 98) #[true,true,true,true,true,true,true,true,true,true,true,false,false,false] (h:=?_)
               refine one_ (i:=11) (N:=some 99) #[true,true,true,true,true,true,true,true,true,true,true,true,false,false] rfl rfl (Zbh HT_.out (by kernel_rfl)) (by decide) (fun K hK=>?_)
               refine goes_ Tryz.func120 (by kernel_rfl) rfl #[.int .i64 x6_47] (by rfl) rfl rfl pA ?_
               with_reducible refine (Zbe.calls qw x6_47 qq _ A58.o).mono ?_
               rintro e w61 ⟨rfl,hb⟩
               refine ⟨_,rfl,?_⟩
               replace qb:=rbl qb hb
               replace qc:=bb qc hb
               replace qd:=bb qd hb
               replace HB:=bS hb
               refine hK.out _ _ trivial (fun hHeld=>?_)
               clear hK K
               refine norm_ (a':=?_) ?_ ?_
               rotate_left
               ·show Act.put _ (some 99) _=_
                exact pP
               refine pu 12 (some 100) #[true,true,true,true,true,true,true,true,true,true,true,true,true,false] (h:=?_)
               refine pu 13 (some 2) #[true,true,true,true,true,true,true,true,true,true,true,true,true,true] (h:=?_)
               refine done_ (Zde HT_.out (by kernel_rfl)) ?_
               try go_wp2
               go_ret
               exact ⟨pE,pB⟩
              ·rw [if_neg c59] at H
               exact absurd H (by simp)
             ·rw [if_neg c57] at H
              exact absurd H (by simp)
            ·rw [if_neg c56] at H
             exact absurd H (by simp)
           ·rw [if_neg c54] at H
            exact absurd H (by simp)
          ·rw [if_neg c53] at H
           exact absurd H (by simp)
         ·rw [if_neg c52] at H
          exact absurd H (by simp)
        ·rw [if_neg c51] at H
         exact absurd H (by simp)
       ·rw [if_neg c50] at H
        have c50b0:decide (1 < (qa.size:Int))=false:=decide_eq_false c50
        have c50b1:decide (1 < qa.size)=false:=decide_eq_false (by omega)
        clear c50
        by_cases c62:x5_3.size+qa.size<=9223372036854775807
        ·rw [if_pos c62] at H
         have c62b0:=eq_true c62
         have c62b1:decide (x5_3.size+qa.size<=9223372036854775807)=true:=decide_eq_true c62
         try have c62b2:(9223372036854775807 < x5_3.size+qa.size)=False:=eq_false (Nat.not_lt.2 c62)
         by_cases c63:(x5_3++qa).size+x7_47.size<=9223372036854775807
         ·rw [if_pos c63] at H
          have c63b0:=eq_true c63
          have c63b1:decide ((x5_3++qa).size+x7_47.size<=9223372036854775807)=true:=decide_eq_true c63
          try have c63b2:(9223372036854775807 < (x5_3++qa).size+x7_47.size)=False:=eq_false (Nat.not_lt.2 c63)
          try have c63b3:(9223372036854775807 < x5_3.size+qa.size+x7_47.size)=False:=eq_false (Nat.not_lt.2 (by have q_:=c63;(try have h0_:=of_decide_eq_true c62b1);simp only [ByteArray.size_append,ByteArray.size_extract] at q_;omega))
          obtain ⟨qt,A64,H⟩:=ob H
          by_cases c65:((x5_3++qa)++x7_47).size+qt.size<=9223372036854775807
          ·rw [if_pos c65] at H
           have c65b0:=eq_true c65
           have c65b1:decide (((x5_3++qa)++x7_47).size+qt.size<=9223372036854775807)=true:=decide_eq_true c65
           try have c65b2:(9223372036854775807 < ((x5_3++qa)++x7_47).size+qt.size)=False:=eq_false (Nat.not_lt.2 c65)
           try have c65b3:(9223372036854775807 < x5_3.size+qa.size+x7_47.size+qt.size)=False:=eq_false (Nat.not_lt.2 (by have q_:=c65;(try have h0_:=of_decide_eq_true c62b1);(try have h1_:=of_decide_eq_true c63b1);simp only [ByteArray.size_append,ByteArray.size_extract] at q_;omega))
           obtain rfl:=Option.some.inj H
           go_wp2_with (first|(refine gL (some 107) Tryz.func120 #[.int .i64 x6_47] (h:=?_);(with_reducible refine (Zbe.calls qw x6_47 qt _ A64.o).mono ?_);rintro e w66 ⟨rfl,hb⟩;refine ⟨_,rfl,?_⟩;replace qb:=rbl qb hb;replace qc:=bb qc hb;replace qd:=bb qd hb;replace HB:=bS hb))
           go_ret
           exact ⟨pE,pB⟩
          ·rw [if_neg c65] at H
           exact absurd H (by simp)
         ·rw [if_neg c63] at H
          exact absurd H (by simp)
        ·rw [if_neg c62] at H
         exact absurd H (by simp)
def Zbm.f (k:Nat)  : Option (Bool):=(Zb0.f k (⟨#[49]⟩:ByteArray)).bind fun qr=>((Zb0.f k (⟨#[51]⟩:ByteArray)).bind fun qs=>((Zbu.f k qr.1 qr.2.1 qr.2.2 qs.1 qs.2.1 qs.2.2).bind fun qk=>((Zb0.f k (⟨#[52]⟩:ByteArray)).bind fun qt=>((Zcf.f k qt.1 qt.2.1 qt.2.2).bind fun ql=>((Zao.f qk.2.2.2).bind fun qu=>((Zao.f ql.2.2.2).bind fun qo=>(if (wrap64 (qu+qo))=0 then ((Zf.f k qk.1 qk.2.1 qk.2.2.1).bind fun qp=>(if qp.toList=([48,46,51,51,51,51,51,51,51,51,51,51,51,51,51,51,51,51,51,51,51,51,51,51,51,51,51,51,51,51,51,51,51,51,51,51,51,51,51,51,51,51]:List UInt8) then ((Zf.f k ql.1 ql.2.1 ql.2.2.1).bind fun q6=>(some (q6.toList == ([50]:List UInt8)))) else (some false))) else (some false))))))))
theorem Zbm.leaf {P:Prop} (h:P:=by
 go_enter Tryz.func16,Tryz.ntmps16
 go_wp2_with (first|(refine gL (some 6) Tryz.func62 #[.string (⟨#[49]⟩:ByteArray)] (h:=?_);(with_reducible refine (Zb0.calls k (⟨#[49]⟩:ByteArray) q8 qz q9 _ A1.o).mono ?_);rintro e w0z ⟨v1z,rfl,ho2z,hb⟩;refine ⟨_,rfl,?_⟩;have HO3z:=am (Kd.Zo ho2z (Zd pB));replace HB:=bS hb)|(refine gL (some 7) Tryz.func62 #[.string (⟨#[51]⟩:ByteArray)] (h:=?_);(with_reducible refine (Zb0.calls k (⟨#[51]⟩:ByteArray) ja q0 jb _ A2.o).mono ?_);rintro e w4z ⟨v5z,rfl,ho2z,hb⟩;refine ⟨_,rfl,?_⟩;have HO6z:=am (Kd.Zo (Kd.Zs ho2z (Kd.R_lt (Kd.Za HO3z.o pl))) (Zd pB));replace HO3z:=reR HO3z ho2z hb;replace HB:=bS hb;obtain ⟨Ao7z,co8z,eo9z⟩:=Kd.Zj HO3z.o;subst eo9z;obtain ⟨qx,qy,jg⟩:=Kd.Zj HO6z.o;subst jg)|(refine gL (some 8) Tryz.func19 #[.agg #[.bool q8,.slice Ao7z qz.length co8z,.int .i64 q9],.agg #[.bool ja,.slice qx q0.length qy,.int .i64 jb]] (h:=?_);(with_reducible refine (Zbu.calls k q8 (fun k_=>some k_=(.slice Ao7z qz.length co8z:Value).ownBlock) _ _ qz q9 ja (fun k_=>some k_=(.slice qx q0.length qy:Value).ownBlock) _ _ q0 jb qv qn qw jc _ ?side1 ?side2 A3.o).mono ?_);(case side1=>exact Kd.R_V (Kd.Zbj rfl (HO3z.o)));(case side2=>exact Kd.R_V (Kd.Zbj rfl (HO6z.o)));rintro e w13z ⟨v14z,rfl,ho2z,hb⟩;refine ⟨_,rfl,?_⟩;have qb:=am (Kd.Zo (Kd.Zs (Kd.Zs (Kd.Zh (ok':=fun k_=>True) ho2z (fun _ hk_=>trivial)) (Kd.R_lt (Kd.Za HO3z.o pl))) (Kd.R_lt (Kd.Za HO6z.o pl))) (Zd pB));replace HO3z:=reR HO3z ho2z hb;replace HO6z:=reR HO6z ho2z hb;replace HB:=bS hb)|((with_reducible refine gd 1 ?_);refine bx 1 #[.bool false,.slice none 0 0,.int .i64 0] 24 (h:=?_);intro jk hg w17z hbox hb;have qa:=am hbox;have jn:=gW hg;replace HO3z:=rbl HO3z hb;replace HO6z:=rbl HO6z hb;replace qb:=rbl qb hb;replace HB:=bS hb;clear hb hbox hg;obtain ⟨_,_,_,_,_,_⟩:=cEc qa.o;obtain ⟨qq,qm,jh⟩:=Kd.Zj qb.o;subst jh)|(refine gL (some 12) Tryz.func62 #[.string (⟨#[52]⟩:ByteArray)] (h:=?_);(with_reducible refine (Zb0.calls k (⟨#[52]⟩:ByteArray) jd q4 je _ A4.o).mono ?_);rintro e w30z ⟨v31z,rfl,ho2z,hb⟩;refine ⟨_,rfl,?_⟩;have qf:=am (Kd.Zo (Kd.Zs (Kd.Zs (Kd.Zs ho2z (Kd.R_lt (Kd.Za (z3 HO3z.o qa.o (by decide) (.bool qv) (.slice qq qn.length qm) (.int .i64 qw)) pl))) (Kd.R_lt (Kd.Za (z3 HO6z.o qa.o (by decide) (.bool qv) (.slice qq qn.length qm) (.int .i64 qw)) pl))) (Kd.R_lt (Kd.Za (z3 qb.o qa.o (by decide) (.bool qv) (.slice qq qn.length qm) (.int .i64 qw)) pl))) (Zd pB));replace HO3z:=am (Kd.Zdq (Kd.Za (z3 HO3z.o qa.o (by decide) (.bool qv) (.slice qq qn.length qm) (.int .i64 qw)) pl) (Kd.Zaz ho2z) hb);replace HO6z:=am (Kd.Zdq (Kd.Za (z3 HO6z.o qa.o (by decide) (.bool qv) (.slice qq qn.length qm) (.int .i64 qw)) pl) (Kd.Zaz ho2z) hb);replace qb:=am (Kd.Zdq (Kd.Za (z3 qb.o qa.o (by decide) (.bool qv) (.slice qq qn.length qm) (.int .i64 qw)) pl) (Kd.Zaz ho2z) hb);replace qa:=am (Zb (g:=jk) (o:=.cells #[.bool qv,.slice qq qn.length qm,.int .i64 qw] 24 (0,0)) (by exact p3 qa) hb);replace HB:=bS hb;obtain ⟨q1,q3,ji⟩:=Kd.Zj qf.o;subst ji)|(refine gL (some 13) Tryz.func26 #[.agg #[.bool jd,.slice q1 q4.length q3,.int .i64 je]] (h:=?_);(with_reducible refine (Zcf.calls k jd _ _ q4 je qi qg qj q5 _ ?side1 ?side2 A5.o).mono ?_);(case side1=>exact Kd.Zn (Kd.Zc qf.o).2.2 pl);(case side2=>exact (Kd.Zc qf.o).2.1);rintro e w36z ⟨v37z,rfl,ho2z,hb⟩;refine ⟨_,rfl,?_⟩;have qh:=am (Kd.Zo (Kd.Zs (Kd.Zs (Kd.Zs (Kd.Zs ho2z (Kd.R_lt (Kd.Za HO3z.o pl))) (Kd.R_lt (Kd.Za HO6z.o pl))) (Kd.R_lt (Kd.Za qb.o pl))) (Kd.R_lt (Kd.Za qf.o pl))) (Zd pB));replace HO3z:=reR HO3z ho2z hb;replace HO6z:=reR HO6z ho2z hb;replace qb:=reR qb ho2z hb;replace qf:=reR qf ho2z hb;replace qa:=bb qa hb;replace HB:=bS hb)|((with_reducible refine gd 3 ?_);refine bx 3 #[.bool false,.slice none 0 0,.int .i64 0] 24 (h:=?_);intro q7 hg w40z hbox hb;have qc:=am hbox;have jo:=gW hg;have q2:=nL hg qa;have jf:=nG hg qa;replace HO3z:=rbl HO3z hb;replace HO6z:=rbl HO6z hb;replace qb:=rbl qb hb;replace qf:=rbl qf hb;replace qh:=rbl qh hb;replace qa:=bb qa hb;replace HB:=bS hb;clear hb hbox hg;have jl:=jf.o;have jm:=q2.o;obtain ⟨_,_,_,_,_,_⟩:=cEc qc.o;obtain ⟨qd,qe,jj⟩:=Kd.Zj qh.o;subst jj)|(refine gL (some 17) Tryz.func20 #[.int .i64 jc] (h:=?_);(with_reducible refine (Zao.calls jc qu _ A6.o).mono ?_);rintro e w' ⟨rfl,⟨nd,rfl⟩⟩;refine ⟨_,rfl,?_⟩)|((have q_:=A9;clear q_);refine gL (some 19) Tryz.func20 #[.int .i64 q5] (h:=?_);(with_reducible refine (Zao.calls q5 qo _ A7.o).mono ?_);rintro e w' ⟨rfl,⟨nd,rfl⟩⟩;refine ⟨_,rfl,?_⟩;obtain ⟨_,_,_,_,_,_⟩:=cEc qa.o)|((have q_:=A11;clear q_);go_at_call 63;(with_reducible refine (Zf.calls k qv _ _ qn qw qp _ ?side1 ?side2 A9.o).mono ?_);(case side1=>refine (Kd.Zc (e:=85) (base:=w.heap.size) (ok:=fun k_=>((((True/\some k_ ≠ (.slice Ao7z qz.length co8z:Value).ownBlock)/\some k_ ≠ (.slice qx q0.length qy:Value).ownBlock)/\some k_ ≠ (.slice q1 q4.length q3:Value).ownBlock)/\some k_ ≠ (.slice qd qg.length qe:Value).ownBlock)) (n:=qn.length) (c:=qm) ?_).2.2;exact (Kd.Za (z3 qb.o qc.o (by decide) (.bool qi) (.slice qd qg.length qe) (.int .i64 qj)) pl));(case side2=>exact (Kd.Zc qb.o).2.1);rintro e w63z ⟨rfl,hb⟩;replace HO3z:=am (Kd.Za (Kd.Za (z3 HO3z.o qc.o (by decide) (.bool qi) (.slice qd qg.length qe) (.int .i64 qj)) pl) hb);replace HO6z:=am (Kd.Za (Kd.Za (z3 HO6z.o qc.o (by decide) (.bool qi) (.slice qd qg.length qe) (.int .i64 qj)) pl) hb);replace qb:=am (Kd.Za (Kd.Za (z3 qb.o qc.o (by decide) (.bool qi) (.slice qd qg.length qe) (.int .i64 qj)) pl) hb);replace qf:=am (Kd.Za (Kd.Za (z3 qf.o qc.o (by decide) (.bool qi) (.slice qd qg.length qe) (.int .i64 qj)) pl) hb);replace qh:=am (Kd.Za (Kd.Za (z3 qh.o qc.o (by decide) (.bool qi) (.slice qd qg.length qe) (.int .i64 qj)) pl) hb);replace qa:=bfb q2 qa hb;replace qc:=am (Zb (g:=q7) (o:=.cells #[.bool qi,.slice qd qg.length qe,.int .i64 qj] 24 (0,0)) (by exact p3 qc) hb);replace HB:=bS hb;obtain ⟨_,_,_,_,_,_⟩:=cEc qc.o)|(go_at_call 63;(with_reducible refine (Zf.calls k qi _ _ qg qj q6 _ ?side1 ?side2 A11.o).mono ?_);(case side1=>exact Kd.Zn (Kd.Zc qh.o).2.2 pl);(case side2=>exact (Kd.Zc qh.o).2.1);rintro e w70z ⟨rfl,hb⟩;replace HO3z:=rbl HO3z hb;replace HO6z:=rbl HO6z hb;replace qb:=rbl qb hb;replace qf:=rbl qf hb;replace qh:=rbl qh hb;replace qa:=bb qa hb;replace qc:=bb qc hb;replace HB:=bS hb)|((have q_:(qp.toList != ([48,46,51,51,51,51,51,51,51,51,51,51,51,51,51,51,51,51,51,51,51,51,51,51,51,51,51,51,51,51,51,51,51,51,51,51,51,51,51,51,51,51]:List UInt8))=true:=c10b1;clear q_);go_at_call 63;(with_reducible refine (Zf.calls k qv _ _ qn qw qp _ ?side1 ?side2 A9.o).mono ?_);(case side1=>refine (Kd.Zc (e:=85) (base:=w.heap.size) (ok:=fun k_=>((((True/\some k_ ≠ (.slice Ao7z qz.length co8z:Value).ownBlock)/\some k_ ≠ (.slice qx q0.length qy:Value).ownBlock)/\some k_ ≠ (.slice q1 q4.length q3:Value).ownBlock)/\some k_ ≠ (.slice qd qg.length qe:Value).ownBlock)) (n:=qn.length) (c:=qm) ?_).2.2;exact (Kd.Za (z3 qb.o qc.o (by decide) (.bool qi) (.slice qd qg.length qe) (.int .i64 qj)) pl));(case side2=>exact (Kd.Zc qb.o).2.1);rintro e w63z ⟨rfl,hb⟩;replace HO3z:=am (Kd.Za (Kd.Za (z3 HO3z.o qc.o (by decide) (.bool qi) (.slice qd qg.length qe) (.int .i64 qj)) pl) hb);replace HO6z:=am (Kd.Za (Kd.Za (z3 HO6z.o qc.o (by decide) (.bool qi) (.slice qd qg.length qe) (.int .i64 qj)) pl) hb);replace qb:=am (Kd.Za (Kd.Za (z3 qb.o qc.o (by decide) (.bool qi) (.slice qd qg.length qe) (.int .i64 qj)) pl) hb);replace qf:=am (Kd.Za (Kd.Za (z3 qf.o qc.o (by decide) (.bool qi) (.slice qd qg.length qe) (.int .i64 qj)) pl) hb);replace qh:=am (Kd.Za (Kd.Za (z3 qh.o qc.o (by decide) (.bool qi) (.slice qd qg.length qe) (.int .i64 qj)) pl) hb);replace qa:=bfb q2 qa hb;replace qc:=am (Zb (g:=q7) (o:=.cells #[.bool qi,.slice qd qg.length qe,.int .i64 qj] 24 (0,0)) (by exact p3 qc) hb);replace HB:=bS hb)|((have q_:((wrap64 (qu+qo)) != 0)=true:=c8b1;clear q_);refine gL (some 19) Tryz.func20 #[.int .i64 q5] (h:=?_);(with_reducible refine (Zao.calls q5 qo _ A7.o).mono ?_);rintro e w' ⟨rfl,⟨nd,rfl⟩⟩;refine ⟨_,rfl,?_⟩))
 go_ret
 exact ⟨pE,pB⟩):P:=h
theorem Zbm.calls (k:Nat)  (r:Bool) (w:World) (h:Zbm.f k  = some r) :
  Calls Tryz.prog 16 #[] w fun e w'=>e=.returned (.bool r)/\Below w.heap.size w w':=by
 have hu24:=Tryz.underlying24
 have HB:=am (Below.refl w.heap.size w)
 have H:((Zb0.f k (⟨#[49]⟩:ByteArray)).bind fun qr=>((Zb0.f k (⟨#[51]⟩:ByteArray)).bind fun qs=>((Zbu.f k qr.1 qr.2.1 qr.2.2 qs.1 qs.2.1 qs.2.2).bind fun qk=>((Zb0.f k (⟨#[52]⟩:ByteArray)).bind fun qt=>((Zcf.f k qt.1 qt.2.1 qt.2.2).bind fun ql=>((Zao.f qk.2.2.2).bind fun qu=>((Zao.f ql.2.2.2).bind fun qo=>(if (wrap64 (qu+qo))=0 then ((Zf.f k qk.1 qk.2.1 qk.2.2.1).bind fun qp=>(if qp.toList=([48,46,51,51,51,51,51,51,51,51,51,51,51,51,51,51,51,51,51,51,51,51,51,51,51,51,51,51,51,51,51,51,51,51,51,51,51,51,51,51,51,51]:List UInt8) then ((Zf.f k ql.1 ql.2.1 ql.2.2.1).bind fun q6=>(some (q6.toList == ([50]:List UInt8)))) else (some false))) else (some false)))))))))=some r:=h
 clear h
 obtain ⟨⟨q8,qz,q9⟩,A1,H⟩:=ob H;(try dsimp only at H)
 obtain ⟨⟨ja,q0,jb⟩,A2,H⟩:=ob H;(try dsimp only at H)
 obtain ⟨⟨qv,qn,qw,jc⟩,A3,H⟩:=ob H;(try dsimp only at H)
 obtain ⟨⟨jd,q4,je⟩,A4,H⟩:=ob H;(try dsimp only at H)
 obtain ⟨⟨qi,qg,qj,q5⟩,A5,H⟩:=ob H;(try dsimp only at H)
 obtain ⟨qu,A6,H⟩:=ob H
 obtain ⟨qo,A7,H⟩:=ob H
 by_cases c8:(wrap64 (qu+qo))=0
 ·rw [if_pos c8] at H
  have c8b0:((wrap64 (qu+qo)) == 0)=true:=beq_iff_eq.mpr c8
  have c8b1:((wrap64 (qu+qo)) != 0)=false:=bne_eq_false_iff_eq.mpr c8
  clear c8
  obtain ⟨qp,A9,H⟩:=ob H
  by_cases c10:qp.toList=([48,46,51,51,51,51,51,51,51,51,51,51,51,51,51,51,51,51,51,51,51,51,51,51,51,51,51,51,51,51,51,51,51,51,51,51,51,51,51,51,51,51]:List UInt8)
  ·rw [if_pos c10] at H
   have c10b0:(qp.toList == ([48,46,51,51,51,51,51,51,51,51,51,51,51,51,51,51,51,51,51,51,51,51,51,51,51,51,51,51,51,51,51,51,51,51,51,51,51,51,51,51,51,51]:List UInt8))=true:=beq_iff_eq.mpr c10
   have c10b1:(qp.toList != ([48,46,51,51,51,51,51,51,51,51,51,51,51,51,51,51,51,51,51,51,51,51,51,51,51,51,51,51,51,51,51,51,51,51,51,51,51,51,51,51,51,51]:List UInt8))=false:=bne_eq_false_iff_eq.mpr c10
   clear c10
   obtain ⟨q6,A11,H⟩:=ob H
   obtain rfl:=Option.some.inj H
   exact Zbm.leaf
  ·rw [if_neg c10] at H
   have c10b0:(qp.toList == ([48,46,51,51,51,51,51,51,51,51,51,51,51,51,51,51,51,51,51,51,51,51,51,51,51,51,51,51,51,51,51,51,51,51,51,51,51,51,51,51,51,51]:List UInt8))=false:=beq_eq_false_iff_ne.mpr c10
   have c10b1:(qp.toList != ([48,46,51,51,51,51,51,51,51,51,51,51,51,51,51,51,51,51,51,51,51,51,51,51,51,51,51,51,51,51,51,51,51,51,51,51,51,51,51,51,51,51]:List UInt8))=true:=bne_iff_ne.mpr c10
   obtain rfl:=Option.some.inj H
   exact Zbm.leaf
 ·rw [if_neg c8] at H
  have c8b0:((wrap64 (qu+qo)) == 0)=false:=beq_eq_false_iff_ne.mpr c8
  have c8b1:((wrap64 (qu+qo)) != 0)=true:=bne_iff_ne.mpr c8
  obtain rfl:=Option.some.inj H
  exact Zbm.leaf
end YtjbjkmccfocikaaGreatDoor.B
end
section
namespace YtjbjkmccfocikaaGreatDoor.P.Nm
open Go.RowKit YtjbjkmccfocikaaGreatDoorW.PrintWords YtjbjkmccfocikaaGreatDoor.B YtjbjkmccfocikaaGreatDoor.P
theorem alive03:Tells (fun k=>Zbm.f k) true:=Tells.at 200 fun k=>by kernel_rfl
end YtjbjkmccfocikaaGreatDoor.P.Nm
end
section
namespace YtjbjkmccfocikaaGreatDoor.B
open Go.RowKit YtjbjkmccfocikaaGreatDoorW.PrintWords YtjbjkmccfocikaaGreatDoorW.PrintLast YtjbjkmccfocikaaGreatDoorW.PrintMore
attribute [local go_sem] Zb7 Zb9 Zcr Zcs Zbp Zbq Zb8 Zca
def Zc9.f (k:Nat) (l0:List Int) (a1:Int):Option (Bool):=(Zcj.f k 2).bind fun q8=>((Zc2.f k l0 q8).bind fun q7=>((Zp.f q7.1 q7.2).bind fun jc=>((Zbs.f k a1).bind fun jd=>((Zcy.f k jc jd).bind fun jo=>(some (decide (jo.1 >= 0)))))))
theorem Zc9.calls (k:Nat) (A0:Option Addr) (c0:Nat) (l0:List Int) (a1:Int) (r:Bool) (w:World) (hr0:Kd.C (Kd.int .u32) w A0 l0.length l0) (hc0:l0.length<=c0) (h:Zc9.f k l0 a1=some r) :
  Calls Tryz.prog 89 #[.slice A0 l0.length c0,.int .i64 a1] w fun e w'=>e=.returned (.bool r)/\Below w.heap.size w w':=by
 have HR0:=am hr0
 have HC0:=am hc0
 clear hr0 hc0
 have HB:=am (Below.refl w.heap.size w)
 have H:((Zcj.f k 2).bind fun q8=>((Zc2.f k l0 q8).bind fun q7=>((Zp.f q7.1 q7.2).bind fun jc=>((Zbs.f k a1).bind fun jd=>((Zcy.f k jc jd).bind fun jo=>(some (decide (jo.1 >= 0))))))))=some r:=h
 clear h
 obtain ⟨q8,A3,H⟩:=ob H
 obtain ⟨⟨jy,qah⟩,A4,H⟩:=ob H;(try dsimp only at H)
 obtain ⟨jc,A5,H⟩:=ob H
 obtain ⟨jd,A6,H⟩:=ob H
 obtain ⟨⟨qbr,qbs⟩,A7,H⟩:=ob H;(try dsimp only at H)
 obtain rfl:=Option.some.inj H
 go_enter Tryz.func89,Tryz.ntmps89
 go_wp2_with (first|(refine gL (some 9) Tryz.func76 #[.int .u64 2] (h:=?_);(with_reducible refine (Zcj.calls k 2 q8 _ A3.o).mono ?_);rintro e w8 ⟨qb8,rfl,ho0,hb⟩;refine ⟨_,rfl,?_⟩;have qc:=am (Kd.Zo ho0 (Zd pB));replace HB:=bS hb;obtain ⟨Ao9,co9,eo9⟩:=Kd.Zj qc.o;subst eo9)|(refine gL (some 10) Tryz.func71 #[.slice A0 l0.length c0,.slice Ao9 q8.length co9] (h:=?_);(with_reducible refine (Zc2.calls k _ _ l0 _ _ q8 jy qah _ ?side1 ?side2 ?side3 ?side4 A4.o).mono ?_);(case side1=>exact cB HR0 HB);(case side2=>exact HC0.o);(case side3=>exact Kd.Zn (Kd.Zc qc.o).2.2 pl);(case side4=>exact (Kd.Zc qc.o).2.1);rintro e w10 ⟨qb9,rfl,ho0,hb⟩;refine ⟨_,rfl,?_⟩;have jn:=am (Kd.Zo (Kd.Zs ho0 (Kd.R_lt (Kd.Za qc.o pl))) (Zd pB));replace qc:=reR qc ho0 hb;replace HB:=bS hb;obtain ⟨j6,qab,qbg⟩:=Kd.Zj jn.o;subst qbg)|(refine gL (some 13) Tryz.func70 #[.slice j6 jy.length qab,.int .i64 qah] (h:=?_);(with_reducible refine (Zp.calls (fun k_=>some k_=(.slice j6 jy.length qab:Value).ownBlock) (.slice j6 jy.length qab) jy qah jc w _ ?side1 ?side2 A5.o).mono ?_);(case side1=>exact pB);(case side2=>exact Kd.Zbj rfl jn.o);rintro e w12 ⟨qbv,rfl,ho0,hb,hkp⟩;refine ⟨_,rfl,?_⟩;have qp:=am (Kd.Zh (ok':=fun k_=>some k_ ≠ (.slice Ao9 q8.length co9:Value).ownBlock) ho0 (fun k_ hk_=>Or.elim hk_ (fun hs_=>fun e_=>(((qc.o).1 k_ e_.symm).2) hs_) (fun hn_=>(Kd.fresh' (Kd.R_lt (Kd.Za qc.o pl)) k_ hn_))));replace qc:=am (Kd.Zh (ok':=fun k_=>some k_ ≠ (qbv:Value).ownBlock) (Kd.Zcb (qc.o) hkp (fun k_ hk_ hs_=>(hk_.2) hs_)) (fun k_ hk_=>fun e_=>Or.elim (ho0.1 k_ e_.symm) (fun hs_=>hk_.2.1 hs_) (fun hn_=>Nat.not_le.2 hk_.2.2 hn_)));replace HB:=am hb;clear jn)|(refine gL (some 15) Tryz.func72 #[.int .i64 a1] (h:=?_);(with_reducible refine (Zbs.calls k a1 jd _ A6.o).mono ?_);rintro e w13 ⟨qca,rfl,ho0,hb⟩;refine ⟨_,rfl,?_⟩;have qz:=am (Kd.Zo (Kd.Zs (Kd.Zs ho0 (Kd.R_lt (Kd.Za qc.o pl))) (Kd.R_lt (Kd.Za qp.o pl))) (Zd pB));replace qc:=reR qc ho0 hb;replace qp:=reR qp ho0 hb;replace HB:=bS hb;obtain ⟨qa4,qbd,qbh⟩:=Kd.Zj qp.o;subst qbh;obtain ⟨j7,qac,qag⟩:=Kd.Zj qz.o;subst qag)|(refine gL (some 16) Tryz.func90 #[.slice qa4 jc.length qbd,.slice j7 jd.length qac] (h:=?_);(with_reducible refine (Zcy.calls k _ _ jc _ _ jd qbr qbs _ ?side1 ?side2 ?side3 ?side4 A7.o).mono ?_);(case side1=>exact Kd.Zn (Kd.Zc qp.o).2.2 pl);(case side2=>exact (Kd.Zc qp.o).2.1);(case side3=>exact Kd.Zn (Kd.Zc qz.o).2.2 pl);(case side4=>exact (Kd.Zc qz.o).2.1);rintro e w16 ⟨rfl,hb⟩;refine ⟨_,rfl,?_⟩;replace qc:=rbl qc hb;replace qp:=rbl qp hb;replace qz:=rbl qz hb;replace HB:=bS hb))
 go_ret
 exact ⟨pE,pB⟩
def Zbl.j0:Nat->List Int->Bool->Bool->List Int->Int->Option (Bool × List Int × Int × Int)
 | 0,_,_,_,_,_=>none
 | k+1,x7,x30,ji,qa2,qa3=>if x30=true then ((Zcj.f k 1).bind fun je=>((Zed.f k x7 je).bind fun j4=>((Zp.f j4.1 j4.2).bind fun j1=>((Zaq.f k ji j1 0).bind fun jg=>(some (jg.1,jg.2.1,jg.2.2.1,jg.2.2.2)))))) else ((Zaq.f k ji x7 0).bind fun jh=>(some (jh.1,jh.2.1,jh.2.2.1,jh.2.2.2)))
def Zbl.f (k:Nat) (u:Nat->List Int->Int->Option Bool) (a0_0:Bool) (l0_1:List Int) (a0_2:Int):Option (Bool × List Int × Int × Int):=(Zbg.f k a0_0 l0_1 a0_2).bind fun qo=>(if qo=0 then ((Zan.f k a0_0 l0_1 a0_2).bind fun ql=>(if (ql.2.1.length:Int) > 0 then ((u k ql.2.1 ql.2.2).bind fun jj=>(Zbl.j0 k ql.1 jj a0_0 l0_1 a0_2)) else (Zbl.j0 k ql.1 false a0_0 l0_1 a0_2))) else (some (false,([]:List Int),0,qo)))
theorem Zj8.calls (x y:Value) (gc:Nat) (a r:Bool) (s e_:Value) (w:World) (hb:w.heap[gc]? = some (.cells #[.bool a,s,e_] 24 (0,0))) (h:some a=some r) :
  Calls Tryz.prog 87 #[x,y,.pointer (some ⟨gc,0,none⟩)] w fun e w'=>e=.returned (.bool r)/\Below w.heap.size w w':=by
 obtain rfl:=Option.some.inj h
 obtain ⟨_,_,_,_,_,_⟩:=cEc hb
 go_enter Tryz.func87,Tryz.ntmps87
 go_wp2
 go_ret
 exact ⟨rfl,Below.refl _ _⟩
theorem Zk7.calls (x y:Value) (gc:Nat) (a r:Bool) (s e_:Value) (w:World) (hb:w.heap[gc]? = some (.cells #[.bool a,s,e_] 24 (0,0))) (h:some (!a)=some r) :
  Calls Tryz.prog 88 #[x,y,.pointer (some ⟨gc,0,none⟩)] w fun e w'=>e=.returned (.bool r)/\Below w.heap.size w w':=by
 obtain rfl:=Option.some.inj h
 obtain ⟨_,_,_,_,_,_⟩:=cEc hb
 have hmn_:∀ (x:Bool) (w:World),(Op.unary .not (.bool x)).run Tryz.prog w=.ok (.bool (!x)) w:=fun _ _=>rfl
 go_enter Tryz.func88,Tryz.ntmps88
 go_wp2
 go_ret
 exact ⟨rfl,Below.refl _ _⟩
section
variable {P:Program} {ops:Array Oper} {Q:Exit->Act->World->Prop}
theorem gT {rest : List Oper} {oi : Oper} {a : Act} {w : World} (N : Option Tmp) {F : FuncId} {fn : Func} {as0 : Array Operand} {ts : Array TypeId} {t0 : Operand} (cap args : Array Value) (hf : P.funcs[F]? = some fn) (hname : (fn.name == "runtime.NumGoroutine") = false) (hb : fn.body.isSome = true)
    (h:Calls P F (args++cap) w fun e w' => ∃ v,e=.returned v/\wpList P ops Q rest (a.put N v) w') (hd:oi.dst=N:=by rfl) (hg:oi.guard=none:=by rfl) (hop:oi.op=.call { callee:=.value t0,args:=as0,argTypes:=ts }:=by rfl)
    (hv:a.eval t0=.func (.func F) #[] cap:=by rfl) (hargs:as0.map a.eval=args:=by (try simp only [List.map_toArray,List.map_cons,List.map_nil]);first|done|rfl):wpList P ops Q (oi :: rest) a w:=by
 refine wpList_plain hg fun K hK=>?_
 have he:=Go.Proofs.YtjbjkmccfocikaaGreatDoorW.PrintLast.enters_ hf hname hb (args++cap) w
 have hrun:(execOp a.eval oi).run P w=.ok (.enter F (args++cap)) w:=by
  unfold execOp
  simp [hop,resolve,hv,Deferred.ofValue,invoke,hargs,he]
 unfold Oper.wp
 rw [hrun,Oper.upon_enter]
 refine h.mono fun e w'' hh=>?_
 obtain ⟨v,rfl,hk⟩:=hh
 subst hd
 exact hK _ _ hk
end
theorem Zbl.calls (k : Nat) (u : Nat → List Int → Int → Option Bool) {F : FuncId} {fn : Func} (cap : Array Value) (hf_ : Tryz.prog.funcs[F]? = some fn) (hn_ : (fn.name == "runtime.NumGoroutine") = false) (hb_ : fn.body.isSome = true) (a0_0 : Bool) (A0_1 : Option Addr) (c0_1 : Nat) (l0_1 : List Int) (a0_2 : Int) (r1 : Bool) (r2 : List Int) (r3 : Int) (r4 : Int) (w : World) (hr0_1 : Kd.C (Kd.int .u32) w A0_1 l0_1.length l0_1) (hc0_1 : l0_1.length ≤ c0_1) (hu_ : ∀ (A : Option Addr) (c : Nat) (l : List Int) (t : Int) (r : Bool) (w' : World), Below w.heap.size w w' → Kd.C (Kd.int .u32) w' A l.length l → l.length ≤ c → u k l t = some r → Calls Tryz.prog F (#[.slice A l.length c, .int .i64 t] ++ cap) w' fun e w'' => e = .returned (.bool r) ∧ Below w'.heap.size w' w'') (h : Zbl.f k u a0_0 l0_1 a0_2 = some (r1, r2, r3, r4)) :
  Calls Tryz.prog 86 #[.agg #[.bool a0_0,.slice A0_1 l0_1.length c0_1,.int .i64 a0_2],.func (.func F) #[] cap] w fun e w' => ∃ v1_:Value,e=.returned (.tuple #[.agg #[.bool r1,v1_,.int .i64 r3],.int .i64 r4])/\Kd.R (Kd.int .u32) 85 w' w.heap.size (fun _=>True) v1_ r2/\Below w.heap.size w w':=by
 have hu24:=Tryz.underlying24
 have HR0_1:=am hr0_1
 have HC0_1:=am hc0_1
 clear hr0_1 hc0_1
 have HB:=am (Below.refl w.heap.size w)
 have H:((Zbg.f k a0_0 l0_1 a0_2).bind fun qo=>(if qo=0 then ((Zan.f k a0_0 l0_1 a0_2).bind fun ql=>(if (ql.2.1.length:Int) > 0 then ((u k ql.2.1 ql.2.2).bind fun jj=>(Zbl.j0 k ql.1 jj a0_0 l0_1 a0_2)) else (Zbl.j0 k ql.1 false a0_0 l0_1 a0_2))) else (some (false,([]:List Int),0,qo))))=some (r1,r2,r3,r4):=h
 clear h
 obtain ⟨qo,A2,H⟩:=ob H
 by_cases c3:qo=0
 ·rw [if_pos c3] at H
  have c3b0:(qo == 0)=true:=beq_iff_eq.mpr c3
  have c3b1:(qo != 0)=false:=bne_eq_false_iff_eq.mpr c3
  clear c3
  obtain ⟨⟨qy,q9,qai⟩,A4,H⟩:=ob H;(try dsimp only at H)
  have HC5:=am H
  clear H
  go_enter Tryz.func86,Tryz.ntmps86
  go_upto_region 5 with (first|((with_reducible refine gd 2 ?_);refine bx 2 #[.bool a0_0,.slice A0_1 l0_1.length c0_1,.int .i64 a0_2] 24 (h:=?_);intro j5 hg w6 hbox hb;have qa:=am hbox;have qau:=gW hg;have qas:=gW hg;replace HB:=bS hb;clear hb hbox hg)|((with_reducible refine gd 4 ?_);refine bx 4 #[.bool false,.slice none 0 0,.int .i64 0] 24 (h:=?_);intro qm hg w7 hbox hb;have qb:=am hbox;have qav:=gW hg;have qat:=gW hg;have qe:=nL hg qa;have qf:=nG hg qa;replace qa:=bb qa hb;replace HB:=bS hb;clear hb hbox hg;have hnb8:=qe.o;have hnc8:=qf.o;obtain ⟨_,_,_,_,_,_⟩:=cEc qa.o)|(refine gL (some 11) Tryz.func55 #[.agg #[.bool a0_0,.slice A0_1 l0_1.length c0_1,.int .i64 a0_2]] (h:=?_);(with_reducible refine (Zbg.calls k a0_0 _ _ l0_1 a0_2 qo _ ?side1 ?side2 A2.o).mono ?_);(case side1=>exact cB HR0_1 HB);(case side2=>exact HC0_1.o);rintro e w10 ⟨rfl,hb⟩;refine ⟨_,rfl,?_⟩;replace qa:=bb qa hb;replace qb:=bb qb hb;replace HB:=bS hb;obtain ⟨_,_,_,_,_,_⟩:=cEc qa.o)|(refine gL (some 18) Tryz.func83 #[.agg #[.bool a0_0,.slice A0_1 l0_1.length c0_1,.int .i64 a0_2]] (h:=?_);(with_reducible refine (Zan.calls k a0_0 _ _ l0_1 a0_2 qy q9 qai _ ?side1 ?side2 A4.o).mono ?_);(case side1=>exact cB HR0_1 HB);(case side2=>exact HC0_1.o);rintro e w12 ⟨qbw,qcb,rfl,ho0,ho1,hb⟩;refine ⟨_,rfl,?_⟩;have jf:=am (Kd.Zo ho0 (Zd pB));have qt:=am (Kd.Zo ho1 (Zd pB));replace qa:=bb qa hb;replace qb:=bb qb hb;replace HB:=bS hb))
  (try simp only [Act.put,List.setIfInBounds_toArray,List.set_cons_zero,List.set_cons_succ])
  go_cut [30] (fun v30 wc => ∃ (kq:Nat) (x30_4:Bool),v30=.bool x30_4/\Aside0 (Zbl.j0 kq qy x30_4 a0_0 l0_1 a0_2=some (r1,r2,r3,r4))/\Aside0 (kq<=k)/\Aside0 (Kd.R (Kd.int .u32) 85 wc w.heap.size (fun _=>True) qbw qy)/\Aside0 (wc.heap[j5]? = some (.cells #[.bool a0_0,(.slice A0_1 l0_1.length c0_1),.int .i64 a0_2] 24 (0,0)))/\Aside0 (wc.heap[qm]? = some (.cells #[.bool false,(.slice none 0 0),.int .i64 0] 24 (0,0)))/\Aside0 (Below w.heap.size w wc))
  case first =>
   have H:=HC5.o
   clear HC5
   by_cases c13:(q9.length:Int) > 0
   ·rw [if_pos c13] at H
    have c13b0:decide (0 < (q9.length:Int))=true:=decide_eq_true c13
    have c13b1:decide (0 < q9.length)=true:=decide_eq_true (by omega)
    clear c13
    (first|rw [c13b0]|(simp only [Zcd,Zdb];rw [c13b0])|skip)
    obtain ⟨jj,A14,H⟩:=ob H
    have H':=am H
    clear H
    obtain ⟨j7,qac,qag⟩:=Kd.Zj qt.o
    subst qag
    go_wp2_with (first|((with_reducible refine gd 29 ?_);(try (refine Zau (by rfl) ?_;dsimp only));refine gT (some 29) cap #[.slice j7 q9.length qac,.int .i64 qai] hf_ hn_ hb_ ?_;refine (hu_ _ _ q9 qai jj _ pB ?side1 ?side2 A14.o).mono ?_;(case side1=>exact Kd.Zn (Kd.Zc qt.o).2.2 pl);(case side2=>exact (Kd.Zc qt.o).2.1);rintro e w16 ⟨rfl,hb⟩;refine ⟨_,rfl,?_⟩;replace jf:=rbl jf hb;replace qt:=rbl qt hb;replace qa:=bb qa hb;replace qb:=bb qb hb;replace HB:=bS hb))
    go_meet
    case rel=>exact ⟨_,(jj),pR,H',⟨by first|omega|exact Nat.le_refl _⟩,⟨by refine rp ?_;exact Kd.Zh jf.o (fun _ hk=>trivial)⟩,⟨Zb qa.o pl⟩,⟨Zb qb.o pl⟩,⟨pB⟩⟩
   ·rw [if_neg c13] at H
    have c13b0:decide (0 < (q9.length:Int))=false:=decide_eq_false c13
    have c13b1:decide (0 < q9.length)=false:=decide_eq_false (by omega)
    clear c13
    (first|rw [c13b0]|(simp only [Zcd,Zdb];rw [c13b0])|skip)
    have H':=am H
    clear H
    obtain ⟨qb6,qb7,qbi⟩:=Kd.Zj qt.o
    subst qbi
    go_wp2
    go_meet
    case rel=>exact ⟨_,(false),pR,H',⟨by first|omega|exact Nat.le_refl _⟩,⟨by refine rp ?_;exact Kd.Zh jf.o (fun _ hk=>trivial)⟩,⟨Zb qa.o pl⟩,⟨Zb qb.o pl⟩,⟨pB⟩⟩
  case rest =>
   clear HC5
   obtain ⟨kq,x30_4,rfl,HA,HJ4,HO_7,qa,qb,HB⟩:=hcut
   cases kq with
   | zero=>exact absurd HA.out (by simp [Zbl.j0])
   | succ kj4 =>
    have H:=HA.out
    clear HA
    simp only [Zbl.j0] at H
    by_cases c18:x30_4=true
    ·subst c18
     rw [if_pos rfl] at H
     obtain ⟨je,A19,H⟩:=ob H
     obtain ⟨⟨jz,qaj⟩,A20,H⟩:=ob H;(try dsimp only at H)
     obtain ⟨j1,A21,H⟩:=ob H
     obtain ⟨⟨qak,qal,qam,qbt⟩,A22,H⟩:=ob H;(try dsimp only at H)
     simp only [Option.some.injEq,Prod.mk.injEq] at H
     obtain ⟨rfl,rfl,rfl,rfl⟩:=H
     go_wp2_with (first|(refine gL (some 32) Tryz.func76 #[.int .u64 1] (h:=?_);(with_reducible refine (Zcj.calls kj4 1 je _ A19.o).mono ?_);rintro e w23 ⟨qcc,rfl,ho0,hb⟩;refine ⟨_,rfl,?_⟩;have qd:=am (Kd.Zo (Kd.Zs ho0 (Kd.R_lt (Kd.Za HO_7.o pl))) (Zd pB));replace HO_7:=reR HO_7 ho0 hb;replace qa:=bb qa hb;replace qb:=bb qb hb;replace HB:=bS hb;obtain ⟨j8,qad,qbj⟩:=Kd.Zj HO_7.o;subst qbj;obtain ⟨j9,qae,qbk⟩:=Kd.Zj qd.o;subst qbk)|(refine gL (some 33) Tryz.func75 #[.slice j8 qy.length qad,.slice j9 je.length qae] (h:=?_);(with_reducible refine (Zed.calls kj4 _ _ qy _ _ je jz qaj _ ?side1 ?side2 ?side3 ?side4 A20.o).mono ?_);(case side1=>exact Kd.Zn (Kd.Zc HO_7.o).2.2 pl);(case side2=>exact (Kd.Zc HO_7.o).2.1);(case side3=>exact Kd.Zn (Kd.Zc qd.o).2.2 pl);(case side4=>exact (Kd.Zc qd.o).2.1);rintro e w26 ⟨qcd,rfl,ho0,hb⟩;refine ⟨_,rfl,?_⟩;have q0:=am (Kd.Zo (Kd.Zs (Kd.Zs ho0 (Kd.R_lt (Kd.Za HO_7.o pl))) (Kd.R_lt (Kd.Za qd.o pl))) (Zd pB));replace HO_7:=reR HO_7 ho0 hb;replace qd:=reR qd ho0 hb;replace qa:=bb qa hb;replace qb:=bb qb hb;replace HB:=bS hb;obtain ⟨qaa,qaf,qbl⟩:=Kd.Zj q0.o;subst qbl)|(refine gL (some 36) Tryz.func70 #[.slice qaa jz.length qaf,.int .i64 qaj] (h:=?_);(with_reducible refine (Zp.calls (fun k_=>some k_=(.slice qaa jz.length qaf:Value).ownBlock) (.slice qaa jz.length qaf) jz qaj j1 w _ ?side1 ?side2 A21.o).mono ?_);(case side1=>exact pB);(case side2=>exact Kd.Zbj rfl q0.o);rintro e w28 ⟨qa1,rfl,ho0,hb,hkp⟩;refine ⟨_,rfl,?_⟩;have qu:=am (Kd.Zh (ok':=fun k_=>some k_ ≠ (.slice j8 qy.length qad:Value).ownBlock/\some k_ ≠ (.slice j9 je.length qae:Value).ownBlock) ho0 (fun k_ hk_=>⟨Or.elim hk_ (fun hs_=>fun e_=>(((HO_7.o).1 k_ e_.symm).2) hs_) (fun hn_=>(Kd.fresh' (Kd.R_lt (Kd.Za HO_7.o pl)) k_ hn_)),Or.elim hk_ (fun hs_=>fun e_=>(((qd.o).1 k_ e_.symm).2) hs_) (fun hn_=>(Kd.fresh' (Kd.R_lt (Kd.Za qd.o pl)) k_ hn_))⟩));replace HO_7:=am (Kd.Zh (ok':=fun k_=>some k_ ≠ (.slice j9 je.length qae:Value).ownBlock/\some k_ ≠ (qa1:Value).ownBlock) (Kd.Zcb (HO_7.o) hkp (fun k_ hk_ hs_=>(hk_.2) hs_)) (fun k_ hk_=>⟨hk_.1.1.2,fun e_=>Or.elim (ho0.1 k_ e_.symm) (fun hs_=>hk_.2.1 hs_) (fun hn_=>Nat.not_le.2 hk_.2.2 hn_)⟩));replace qa:=am (Za0 (Zb qa.o pl) hkp (fun e_=>Kd.R_ne q0.o qa.o (by decide) e_));replace qb:=am (Za0 (Zb qb.o pl) hkp (fun e_=>Kd.R_ne q0.o qb.o (by decide) e_));replace qd:=am (Kd.Zh (ok':=fun k_=>some k_ ≠ (.slice j8 qy.length qad:Value).ownBlock/\some k_ ≠ (qa1:Value).ownBlock) (Kd.Zcb (qd.o) hkp (fun k_ hk_ hs_=>(hk_.2) hs_)) (fun k_ hk_=>⟨hk_.1.1.2,fun e_=>Or.elim (ho0.1 k_ e_.symm) (fun hs_=>hk_.2.1 hs_) (fun hn_=>Nat.not_le.2 hk_.2.2 hn_)⟩));replace HB:=am hb;clear q0;have qbx:=qe.o;have qb0:=qf.o;obtain ⟨_,_,_,_,_,_⟩:=cEc qa.o;obtain ⟨qa5,qbe,qbm⟩:=Kd.Zj qu.o;subst qbm)|(refine gL (some 40) Tryz.func60 #[.bool a0_0,.slice qa5 j1.length qbe,.int .i64 0] (h:=?_);(with_reducible refine (Zaq.calls kj4 a0_0 _ _ j1 0 qak qal qam qbt _ ?side1 ?side2 A22.o).mono ?_);(case side1=>exact Kd.Zn (Kd.Zc qu.o).2.2 pl);(case side2=>exact (Kd.Zc qu.o).2.1);rintro e w32 ⟨qce,rfl,ho0,hb⟩;refine ⟨_,rfl,?_⟩;have j2:=am (Kd.Zo (Kd.Zs (Kd.Zs (Kd.Zs ho0 (Kd.R_lt (Kd.Za HO_7.o pl))) (Kd.R_lt (Kd.Za qd.o pl))) (Kd.R_lt (Kd.Za qu.o pl))) (Zd pB));replace HO_7:=reR HO_7 ho0 hb;replace qd:=reR qd ho0 hb;replace qu:=reR qu ho0 hb;replace qa:=bb qa hb;replace qb:=bb qb hb;replace HB:=bS hb;obtain ⟨_,_,_,_,_,_⟩:=cEc qb.o;obtain ⟨qaq,qaw,qbn⟩:=Kd.Zj j2.o;subst qbn))
     refine bodyPost_ret (Za1 rfl _ _ qm 24 #[.bool qak,.slice qaq qal.length qaw,.int .i64 qam] (0,0) _ rfl (by exact p3 qb) Tryz.underlying24 rfl (by kernel_rfl)) rfl ?_
     exact ⟨_,pE,by refine rp ?_;exact Kd.Zh (Kd.Zr (p:=⟨qm,2,none⟩) (Kd.Zr (p:=⟨qm,1,none⟩) (Kd.Zr (p:=⟨qm,0,none⟩) (Kd.Zaa j2.o qb.o (by decide)) (fun _ hk=>hk.2) (.bool qak)) (fun _ hk=>hk.2) (.slice qaq qal.length qaw)) (fun _ hk=>hk.2) (.int .i64 qam)) (fun _ hk=>trivial),pB⟩
    ·replace c18:=Bool.eq_false_iff.mpr c18
     subst c18
     rw [if_neg (show ¬ (false=true) by decide)] at H
     obtain ⟨⟨qan,qao,qap,qbu⟩,A35,H⟩:=ob H;(try dsimp only at H)
     simp only [Option.some.injEq,Prod.mk.injEq] at H
     obtain ⟨rfl,rfl,rfl,rfl⟩:=H
     have qby:=qe.o
     have qb1:=qf.o
     obtain ⟨_,_,_,_,_,_⟩:=cEc qa.o
     obtain ⟨qa6,qbf,qbo⟩:=Kd.Zj HO_7.o
     subst qbo
     go_wp2_with (first|(refine gL (some 40) Tryz.func60 #[.bool a0_0,.slice qa6 qy.length qbf,.int .i64 0] (h:=?_);(with_reducible refine (Zaq.calls kj4 a0_0 _ _ qy 0 qan qao qap qbu _ ?side1 ?side2 A35.o).mono ?_);(case side1=>exact Kd.Zn (Kd.Zc HO_7.o).2.2 pl);(case side2=>exact (Kd.Zc HO_7.o).2.1);rintro e w39 ⟨qcf,rfl,ho0,hb⟩;refine ⟨_,rfl,?_⟩;have j3:=am (Kd.Zo (Kd.Zs ho0 (Kd.R_lt (Kd.Za HO_7.o pl))) (Zd pB));replace HO_7:=reR HO_7 ho0 hb;replace qa:=bb qa hb;replace qb:=bb qb hb;replace HB:=bS hb;obtain ⟨_,_,_,_,_,_⟩:=cEc qb.o;obtain ⟨qar,qax,qbp⟩:=Kd.Zj j3.o;subst qbp))
     refine bodyPost_ret (Za1 rfl _ _ qm 24 #[.bool qan,.slice qar qao.length qax,.int .i64 qap] (0,0) _ rfl (by exact p3 qb) Tryz.underlying24 rfl (by kernel_rfl)) rfl ?_
     exact ⟨_,pE,by refine rp ?_;exact Kd.Zh (Kd.Zr (p:=⟨qm,2,none⟩) (Kd.Zr (p:=⟨qm,1,none⟩) (Kd.Zr (p:=⟨qm,0,none⟩) (Kd.Zaa j3.o qb.o (by decide)) (fun _ hk=>hk.2) (.bool qan)) (fun _ hk=>hk.2) (.slice qar qao.length qax)) (fun _ hk=>hk.2) (.int .i64 qap)) (fun _ hk=>trivial),pB⟩
 ·rw [if_neg c3] at H
  have c3b0:(qo == 0)=false:=beq_eq_false_iff_ne.mpr c3
  have c3b1:(qo != 0)=true:=bne_iff_ne.mpr c3
  simp only [Option.some.injEq,Prod.mk.injEq] at H
  obtain ⟨rfl,rfl,rfl,rfl⟩:=H
  go_enter Tryz.func86,Tryz.ntmps86
  go_wp2_with (first|((with_reducible refine gd 2 ?_);refine bx 2 #[.bool a0_0,.slice A0_1 l0_1.length c0_1,.int .i64 a0_2] 24 (h:=?_);intro j5 hg w42 hbox hb;have qa:=am hbox;have qau:=gW hg;have qas:=gW hg;replace HB:=bS hb;clear hb hbox hg)|((with_reducible refine gd 4 ?_);refine bx 4 #[.bool false,.slice none 0 0,.int .i64 0] 24 (h:=?_);intro qm hg w43 hbox hb;have qb:=am hbox;have qav:=gW hg;have qat:=gW hg;have qe:=nL hg qa;have qf:=nG hg qa;replace qa:=bb qa hb;replace HB:=bS hb;clear hb hbox hg;have qbz:=qe.o;have qb2:=qf.o;obtain ⟨_,_,_,_,_,_⟩:=cEc qa.o)|(refine gL (some 11) Tryz.func55 #[.agg #[.bool a0_0,.slice A0_1 l0_1.length c0_1,.int .i64 a0_2]] (h:=?_);(with_reducible refine (Zbg.calls k a0_0 _ _ l0_1 a0_2 qo _ ?side1 ?side2 A2.o).mono ?_);(case side1=>exact cB HR0_1 HB);(case side2=>exact HC0_1.o);rintro e w46 ⟨rfl,hb⟩;refine ⟨_,rfl,?_⟩;replace qa:=bb qa hb;replace qb:=bb qb hb;replace HB:=bS hb;obtain ⟨_,_,_,_,_,_⟩:=cEc qb.o))
  refine bodyPost_ret (Za1 rfl _ _ qm 24 #[.bool false,.slice none 0 0,.int .i64 0] (0,0) _ rfl (by exact p3 qb) Tryz.underlying24 rfl (by kernel_rfl)) rfl ?_
  exact ⟨_,pE,pN,pB⟩
def Zdr.f (k:Nat) (a0_0:Bool) (l0_1:List Int) (a0_2:Int):Option (Bool × List Int × Int × Int):=(Zbl.f k (fun _ _ _=>some a0_0) a0_0 l0_1 a0_2).bind fun qg=>(some (qg.1,qg.2.1,qg.2.2.1,qg.2.2.2))
theorem Zdr.calls (k:Nat) (a0_0:Bool) (A0_1:Option Addr) (c0_1:Nat) (l0_1:List Int) (a0_2:Int) (r1:Bool) (r2:List Int) (r3:Int) (r4:Int) (w:World) (hr0_1:Kd.C (Kd.int .u32) w A0_1 l0_1.length l0_1) (hc0_1:l0_1.length<=c0_1) (h:Zdr.f k a0_0 l0_1 a0_2=some (r1,r2,r3,r4)) :
  Calls Tryz.prog 30 #[.agg #[.bool a0_0,.slice A0_1 l0_1.length c0_1,.int .i64 a0_2]] w fun e w' => ∃ v1_:Value,e=.returned (.tuple #[.agg #[.bool r1,v1_,.int .i64 r3],.int .i64 r4])/\Kd.R (Kd.int .u32) 85 w' w.heap.size (fun _=>True) v1_ r2/\Below w.heap.size w w':=by
 have hu24:=Tryz.underlying24
 have hmf_:∀ (fn:Fn) (first cap:Array Value) (w:World),(Instr.makeFunc fn first cap).run Tryz.prog w=.ok (.func fn first cap) w:=fun _ _ _ _=>rfl
 have HR0_1:=am hr0_1
 have HC0_1:=am hc0_1
 clear hr0_1 hc0_1
 have HB:=am (Below.refl w.heap.size w)
 have H:((Zbl.f k (fun _ _ _=>some a0_0) a0_0 l0_1 a0_2).bind fun qg=>(some (qg.1,qg.2.1,qg.2.2.1,qg.2.2.2)))=some (r1,r2,r3,r4):=h
 clear h
 obtain ⟨⟨jp,jq,jr,qay⟩,A2,H⟩:=ob H;(try dsimp only at H)
 simp only [Option.some.injEq,Prod.mk.injEq] at H
 obtain ⟨rfl,rfl,rfl,rfl⟩:=H
 go_enter Tryz.func30,Tryz.ntmps30
 go_wp2_with (first|((with_reducible refine gd 1 ?_);refine bx 1 #[.bool a0_0,.slice A0_1 l0_1.length c0_1,.int .i64 a0_2] 24 (h:=?_);intro ja hg w3 hbox hb;have qj:=am hbox;have qa7:=gW hg;replace HB:=bS hb;clear hb hbox hg)|((with_reducible refine gd 2 ?_);refine bx 2 #[.bool false,.slice none 0 0,.int .i64 0] 24 (h:=?_);intro qv hg w4 hbox hb;have qq:=am hbox;have qa8:=gW hg;have q1:=nL hg qj;have q2:=nG hg qj;replace qj:=bb qj hb;replace HB:=bS hb;clear hb hbox hg;have hnb5:=q1.o;have hnc5:=q2.o;obtain ⟨_,_,_,_,_,_⟩:=cEc qj.o)|(refine gL (some 6) Tryz.func86 #[.agg #[.bool a0_0,.slice A0_1 l0_1.length c0_1,.int .i64 a0_2],.func (.func 87) #[] #[.pointer (some ⟨ja,0,none⟩)]] (h:=?_);refine (Zbl.calls k (fun _ _ _=>some a0_0) #[.pointer (some ⟨ja,0,none⟩)] (Tryz.func87) (by kernel_rfl) rfl a0_0 _ _ l0_1 a0_2 jp jq jr qay _ ?side1 ?side2 (fun A c l t r w' hW hC hl hr=>Zj8.calls _ _ ja a0_0 r (.slice A0_1 l0_1.length c0_1) (.int .i64 a0_2) w' (Zb (Zb qj.o pl) hW) hr) A2.o).mono ?_;(case side1=>exact cB HR0_1 HB);(case side2=>exact HC0_1.o);rintro e w7 ⟨qb3,rfl,ho0,hb⟩;refine ⟨_,rfl,?_⟩;have jk:=am (Kd.Zo ho0 (Zd pB));replace qj:=bb qj hb;replace qq:=bb qq hb;replace HB:=bS hb;obtain ⟨_,_,_,_,_,_⟩:=cEc qq.o;obtain ⟨Ao9,co9,eo9⟩:=Kd.Zj jk.o;subst eo9))
 refine bodyPost_ret (Za1 rfl _ _ qv 24 #[.bool jp,.slice Ao9 jq.length co9,.int .i64 jr] (0,0) _ rfl (by exact p3 qq) Tryz.underlying24 rfl (by kernel_rfl)) rfl ?_
 exact ⟨_,pE,by refine rp ?_;exact Kd.Zh (Kd.Zr (p:=⟨qv,2,none⟩) (Kd.Zr (p:=⟨qv,1,none⟩) (Kd.Zr (p:=⟨qv,0,none⟩) (Kd.Zaa jk.o qq.o (by decide)) (fun _ hk=>hk.2) (.bool jp)) (fun _ hk=>hk.2) (.slice Ao9 jq.length co9)) (fun _ hk=>hk.2) (.int .i64 jr)) (fun _ hk=>trivial),pB⟩
def Zd2.f (k:Nat) (a0_0:Bool) (l0_1:List Int) (a0_2:Int):Option (Bool × List Int × Int × Int):=(Zbl.f k (fun _ _ _=>some (!a0_0)) a0_0 l0_1 a0_2).bind fun qh=>(some (qh.1,qh.2.1,qh.2.2.1,qh.2.2.2))
theorem Zd2.calls (k:Nat) (a0_0:Bool) (A0_1:Option Addr) (c0_1:Nat) (l0_1:List Int) (a0_2:Int) (r1:Bool) (r2:List Int) (r3:Int) (r4:Int) (w:World) (hr0_1:Kd.C (Kd.int .u32) w A0_1 l0_1.length l0_1) (hc0_1:l0_1.length<=c0_1) (h:Zd2.f k a0_0 l0_1 a0_2=some (r1,r2,r3,r4)) :
  Calls Tryz.prog 31 #[.agg #[.bool a0_0,.slice A0_1 l0_1.length c0_1,.int .i64 a0_2]] w fun e w' => ∃ v1_:Value,e=.returned (.tuple #[.agg #[.bool r1,v1_,.int .i64 r3],.int .i64 r4])/\Kd.R (Kd.int .u32) 85 w' w.heap.size (fun _=>True) v1_ r2/\Below w.heap.size w w':=by
 have hu24:=Tryz.underlying24
 have hmf_:∀ (fn:Fn) (first cap:Array Value) (w:World),(Instr.makeFunc fn first cap).run Tryz.prog w=.ok (.func fn first cap) w:=fun _ _ _ _=>rfl
 have HR0_1:=am hr0_1
 have HC0_1:=am hc0_1
 clear hr0_1 hc0_1
 have HB:=am (Below.refl w.heap.size w)
 have H:((Zbl.f k (fun _ _ _=>some (!a0_0)) a0_0 l0_1 a0_2).bind fun qh=>(some (qh.1,qh.2.1,qh.2.2.1,qh.2.2.2)))=some (r1,r2,r3,r4):=h
 clear h
 obtain ⟨⟨js,jt,ju,qaz⟩,A2,H⟩:=ob H;(try dsimp only at H)
 simp only [Option.some.injEq,Prod.mk.injEq] at H
 obtain ⟨rfl,rfl,rfl,rfl⟩:=H
 go_enter Tryz.func31,Tryz.ntmps31
 go_wp2_with (first|((with_reducible refine gd 1 ?_);refine bx 1 #[.bool a0_0,.slice A0_1 l0_1.length c0_1,.int .i64 a0_2] 24 (h:=?_);intro jb hg w3 hbox hb;have qk:=am hbox;have qa9:=gW hg;replace HB:=bS hb;clear hb hbox hg)|((with_reducible refine gd 2 ?_);refine bx 2 #[.bool false,.slice none 0 0,.int .i64 0] 24 (h:=?_);intro qw hg w4 hbox hb;have qr:=am hbox;have qba:=gW hg;have q3:=nL hg qk;have q4:=nG hg qk;replace qk:=bb qk hb;replace HB:=bS hb;clear hb hbox hg;have hnb5:=q3.o;have hnc5:=q4.o;obtain ⟨_,_,_,_,_,_⟩:=cEc qk.o)|(refine gL (some 6) Tryz.func86 #[.agg #[.bool a0_0,.slice A0_1 l0_1.length c0_1,.int .i64 a0_2],.func (.func 88) #[] #[.pointer (some ⟨jb,0,none⟩)]] (h:=?_);refine (Zbl.calls k (fun _ _ _=>some (!a0_0)) #[.pointer (some ⟨jb,0,none⟩)] (Tryz.func88) (by kernel_rfl) rfl a0_0 _ _ l0_1 a0_2 js jt ju qaz _ ?side1 ?side2 (fun A c l t r w' hW hC hl hr=>Zk7.calls _ _ jb a0_0 r (.slice A0_1 l0_1.length c0_1) (.int .i64 a0_2) w' (Zb (Zb qk.o pl) hW) hr) A2.o).mono ?_;(case side1=>exact cB HR0_1 HB);(case side2=>exact HC0_1.o);rintro e w7 ⟨qb4,rfl,ho0,hb⟩;refine ⟨_,rfl,?_⟩;have jl:=am (Kd.Zo ho0 (Zd pB));replace qk:=bb qk hb;replace qr:=bb qr hb;replace HB:=bS hb;obtain ⟨_,_,_,_,_,_⟩:=cEc qr.o;obtain ⟨Ao9,co9,eo9⟩:=Kd.Zj jl.o;subst eo9))
 refine bodyPost_ret (Za1 rfl _ _ qw 24 #[.bool js,.slice Ao9 jt.length co9,.int .i64 ju] (0,0) _ rfl (by exact p3 qr) Tryz.underlying24 rfl (by kernel_rfl)) rfl ?_
 exact ⟨_,pE,by refine rp ?_;exact Kd.Zh (Kd.Zr (p:=⟨qw,2,none⟩) (Kd.Zr (p:=⟨qw,1,none⟩) (Kd.Zr (p:=⟨qw,0,none⟩) (Kd.Zaa jl.o qr.o (by decide)) (fun _ hk=>hk.2) (.bool js)) (fun _ hk=>hk.2) (.slice Ao9 jt.length co9)) (fun _ hk=>hk.2) (.int .i64 ju)) (fun _ hk=>trivial),pB⟩
def Zds.f (k:Nat) (a0_0:Bool) (l0_1:List Int) (a0_2:Int):Option (Bool × List Int × Int × Int):=(Zbl.f k (fun k x y=>Zc9.f k x y) a0_0 l0_1 a0_2).bind fun qi=>(some (qi.1,qi.2.1,qi.2.2.1,qi.2.2.2))
theorem Zds.calls (k:Nat) (a0_0:Bool) (A0_1:Option Addr) (c0_1:Nat) (l0_1:List Int) (a0_2:Int) (r1:Bool) (r2:List Int) (r3:Int) (r4:Int) (w:World) (hr0_1:Kd.C (Kd.int .u32) w A0_1 l0_1.length l0_1) (hc0_1:l0_1.length<=c0_1) (h:Zds.f k a0_0 l0_1 a0_2=some (r1,r2,r3,r4)) :
  Calls Tryz.prog 32 #[.agg #[.bool a0_0,.slice A0_1 l0_1.length c0_1,.int .i64 a0_2]] w fun e w' => ∃ v1_:Value,e=.returned (.tuple #[.agg #[.bool r1,v1_,.int .i64 r3],.int .i64 r4])/\Kd.R (Kd.int .u32) 85 w' w.heap.size (fun _=>True) v1_ r2/\Below w.heap.size w w':=by
 have hu24:=Tryz.underlying24
 have HR0_1:=am hr0_1
 have HC0_1:=am hc0_1
 clear hr0_1 hc0_1
 have HB:=am (Below.refl w.heap.size w)
 have H:((Zbl.f k (fun k x y=>Zc9.f k x y) a0_0 l0_1 a0_2).bind fun qi=>(some (qi.1,qi.2.1,qi.2.2.1,qi.2.2.2)))=some (r1,r2,r3,r4):=h
 clear h
 obtain ⟨⟨jv,jw,jx,qa0⟩,A2,H⟩:=ob H;(try dsimp only at H)
 simp only [Option.some.injEq,Prod.mk.injEq] at H
 obtain ⟨rfl,rfl,rfl,rfl⟩:=H
 go_enter Tryz.func32,Tryz.ntmps32
 go_wp2_with (first|((with_reducible refine gd 1 ?_);refine bx 1 #[.bool a0_0,.slice A0_1 l0_1.length c0_1,.int .i64 a0_2] 24 (h:=?_);intro qbq hg w3 hbox hb;have qn:=am hbox;have qbb:=gW hg;replace HB:=bS hb;clear hb hbox hg)|((with_reducible refine gd 2 ?_);refine bx 2 #[.bool false,.slice none 0 0,.int .i64 0] 24 (h:=?_);intro qx hg w4 hbox hb;have qs:=am hbox;have qbc:=gW hg;have q5:=nL hg qn;have q6:=nG hg qn;replace qn:=bb qn hb;replace HB:=bS hb;clear hb hbox hg;have hnb5:=q5.o;have hnc5:=q6.o;obtain ⟨_,_,_,_,_,_⟩:=cEc qn.o)|(refine gL (some 5) Tryz.func86 #[.agg #[.bool a0_0,.slice A0_1 l0_1.length c0_1,.int .i64 a0_2],.func (.func 89) #[] #[]] (h:=?_);refine (Zbl.calls k (fun k x y=>Zc9.f k x y) #[] (Tryz.func89) (by kernel_rfl) rfl a0_0 _ _ l0_1 a0_2 jv jw jx qa0 _ ?side1 ?side2 (fun A c l t r w' hW hC hl hr=>Zc9.calls k A c l t r w' hC hl hr) A2.o).mono ?_;(case side1=>exact cB HR0_1 HB);(case side2=>exact HC0_1.o);rintro e w7 ⟨qb5,rfl,ho0,hb⟩;refine ⟨_,rfl,?_⟩;have jm:=am (Kd.Zo ho0 (Zd pB));replace qn:=bb qn hb;replace qs:=bb qs hb;replace HB:=bS hb;obtain ⟨_,_,_,_,_,_⟩:=cEc qs.o;obtain ⟨Ao9,co9,eo9⟩:=Kd.Zj jm.o;subst eo9))
 refine bodyPost_ret (Za1 rfl _ _ qx 24 #[.bool jv,.slice Ao9 jw.length co9,.int .i64 jx] (0,0) _ rfl (by exact p3 qs) Tryz.underlying24 rfl (by kernel_rfl)) rfl ?_
 exact ⟨_,pE,by refine rp ?_;exact Kd.Zh (Kd.Zr (p:=⟨qx,2,none⟩) (Kd.Zr (p:=⟨qx,1,none⟩) (Kd.Zr (p:=⟨qx,0,none⟩) (Kd.Zaa jm.o qs.o (by decide)) (fun _ hk=>hk.2) (.bool jv)) (fun _ hk=>hk.2) (.slice Ao9 jw.length co9)) (fun _ hk=>hk.2) (.int .i64 jx)) (fun _ hk=>trivial),pB⟩
end YtjbjkmccfocikaaGreatDoor.B
end
end Go.Proofs
