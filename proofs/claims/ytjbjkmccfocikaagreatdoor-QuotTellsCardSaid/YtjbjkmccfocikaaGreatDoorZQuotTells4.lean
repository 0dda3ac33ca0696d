/- QuotTells, part 5 of 7 of its proof (no condition); names with a low line are shortened throughout. -/
import Derived.Test.YtjbjkmccfocikaaGreatDoorZQuotTells3
import Derived.KernelRfl
import Derived.Deep.QuietTactic
import Derived.BigQuiet
set_option linter.unusedVariables false
set_option linter.unusedSimpArgs false
set_option maxRecDepth 100000
set_option maxHeartbeats 8000000
namespace Go.Proofs
section
namespace YtjbjkmccfocikaaGreatDoor.B
open Go.RowKit YtjbjkmccfocikaaGreatDoorW.PrintWords YtjbjkmccfocikaaGreatDoorW.PrintLast YtjbjkmccfocikaaGreatDoorW.PrintMore
attribute [local go_sem] Zch Zci Zc9 Zda Zb1 Zb2 Zcp Zcq
def Za9.f (k:Nat) (a0_0:Bool) (l0_1:List Int) (a0_2:Int) (a1_0:Bool) (l1_1:List Int) (a1_2:Int):Option (Bool × List Int × Int × Int):=(Zdi.f k (([(⟨a0_0,l0_1,a0_2⟩:S24),(⟨a1_0,l1_1,a1_2⟩:S24)]:List (S24)))).bind fun jg=>(if jg=0 then (if (l1_1.length:Int)=0 then (some (false,([]:List Int),0,53)) else ((Zbo.f k l1_1).bind fun q9=>((Zbo.f k l0_1).bind fun ja=>((Zbq.f k (mx (wrap64 ((wrap64 ((wrap64 (q9 - ja))+40))+2)) 0)).bind fun qq=>((Zdb.f k l0_1 qq).bind fun q4=>((Zs.f q4.1 q4.2).bind fun qy=>((Zcz.f k qy l1_1).bind fun q5=>((Zce.f k q5.1 40).bind fun qc=>((Zbf.f k qc.1 qc.2.1 qc.2.2 (decide ((q5.2.1.length:Int) > 0))).bind fun jl=>(if jl=true then ((Zcr.f k 1).bind fun qv=>((Zey.f k qc.1 qv).bind fun qx=>((Zs.f qx.1 qx.2).bind fun jh=>((Zan.f k (a0_0 != a1_0) jh (wrap64 ((wrap64 ((wrap64 (a0_2 - a1_2)) - (mx (wrap64 ((wrap64 ((wrap64 (q9 - ja))+40))+2)) 0)))+qc.2.2))).bind fun qk=>(some (qk.1,qk.2.1,qk.2.2.1,qk.2.2.2)))))) else ((Zan.f k (a0_0 != a1_0) qc.1 (wrap64 ((wrap64 ((wrap64 (a0_2 - a1_2)) - (mx (wrap64 ((wrap64 ((wrap64 (q9 - ja))+40))+2)) 0)))+qc.2.2))).bind fun ql=>(some (ql.1,ql.2.1,ql.2.2.1,ql.2.2.2))))))))))))) else (some (false,([]:List Int),0,jg)))
def Za9.T6:Bool × List (List Nat × List Nat):=(true,[([],[]),([0],[0]),([1],[1]),([],[]),([3],[3]),([4,2],[4]),([2,5],[2,5]),([6],[6]),([7],[7]),([8],[8]),([9,5,0,1,2,3,4,5,6,7,8,9],[9])])
def Za9.B6:List Nat:=[0,1,3,0,8,31,63,127,255,511,1023]
theorem Za9.tab6:rtab .any (opsOf Tryz.f19 6)=Za9.T6:=by kernel_rfl
theorem Za9.bits6:waitsOk Za9.T6.2 Za9.B6=true:=by kernel_rfl
def Za9.T7:Bool × List (List Nat × List Nat):=(true,[([],[]),([0],[0]),([],[]),([2],[2]),([1,3,3],[1,3]),([4],[4]),([4],[4]),([5,6,4],[5,6]),([],[]),([8],[8]),([7,9,7],[7,9]),([10],[10]),([11],[11]),([11],[11]),([11],[11]),([12,10,0,1,2,3,4,5,6,7,8,9,10,11,12],[12]),([13,15,0,1,2,3,4,5,6,7,8,9,10,11,12,13,15],[13]),([14,16,0,1,2,3,4,5,6,7,8,9,10,11,12,13,14,15,16],[14])])
def Za9.B7:List Nat:=[0,1,0,4,15,31,31,127,0,256,1023,2047,4095,4095,4095,8191,49151,131071]
theorem Za9.tab7:rtab .any (opsOf Tryz.f19 7)=Za9.T7:=by kernel_rfl
theorem Za9.bits7:waitsOk Za9.T7.2 Za9.B7=true:=by kernel_rfl
theorem Za9.leaf {P:Prop} (h:P:=by
 go_enter Tryz.func19,Tryz.ntmps19
 try go_wp2_with (first|((with_reducible refine gd 2 ?_);refine bx 2 #[.bool a0_0,.slice A0_1 l0_1.length c0_1,.int .i64 a0_2] 24 (h:=?_);intro gb0z hg w1z hbox hb;have BK2z:=am hbox;have GW3z:=gW hg;replace HO0_1:=vE HO0_1 gb0z hg hb;replace HO1_1:=vE HO1_1 gb0z hg hb;replace HB:=bS hb;clear hb hbox hg)|((with_reducible refine gd 3 ?_);refine bx 3 #[.bool a1_0,.slice A1_1 l1_1.length c1_1,.int .i64 a1_2] 24 (h:=?_);intro gb5z hg w6z hbox hb;have BK7z:=am hbox;have GW8z:=gW hg;have qay:=nL hg BK2z;have qaz:=nG hg BK2z;replace HO0_1:=vE HO0_1 gb5z hg hb;replace HO1_1:=vE HO1_1 gb5z hg hb;replace BK2z:=bb BK2z hb;replace HB:=bS hb;clear hb hbox hg)|((with_reducible refine gd 4 ?_);refine bx 4 #[.bool false,.slice none 0 0,.int .i64 0] 24 (h:=?_);intro qj hg w13z hbox hb;have qa:=am hbox;have qbi:=gW hg;have qa0:=nL hg BK2z;have qa1:=nG hg BK2z;have qa2:=nL hg BK7z;have qa3:=nG hg BK7z;replace HO0_1:=vE HO0_1 qj hg hb;replace HO1_1:=vE HO1_1 qj hg hb;replace BK2z:=bb BK2z hb;replace BK7z:=bb BK7z hb;replace HB:=bS hb;clear hb hbox hg;have qa9:=qay.o;have qbc:=qaz.o;have qba:=qa0.o;have qbd:=qa1.o;obtain ⟨_,_,_,_,_,_⟩:=cEc BK2z.o;have qbb:=qa2.o;have qbe:=qa3.o;obtain ⟨_,_,_,_,_,_⟩:=cEc BK7z.o)|((with_reducible refine gd 16 ?_);refine Kd.Ztv k24 _ 24 ?hg (N':=16) ?hd (xs:=([(⟨a0_0,l0_1,a0_2⟩:S24),(⟨a1_0,l1_1,a1_2⟩:S24)]:List (S24))) (inner:=[.bool a0_0,.slice A0_1 l0_1.length c0_1,.int .i64 a0_2,.bool a1_0,.slice A1_1 l1_1.length c1_1,.int .i64 a1_2]) (ok:=(fun k_=>((P0_1_ k_\/P1_1_ k_)\/w.heap.size<=k_)/\k_ ≠ gb0z/\k_ ≠ gb5z/\k_ ≠ qj)) (okp:=(fun k_=>((P0_1_ k_\/P1_1_ k_)\/w.heap.size<=k_)/\k_ ≠ gb0z/\k_ ≠ gb5z/\k_ ≠ qj)) ?hr ?hp (fun _ hk=>hk) ((show ∀ k_,w13z.heap.size<=k_->(fun k_=>((P0_1_ k_\/P1_1_ k_)\/w.heap.size<=k_)/\k_ ≠ gb0z/\k_ ≠ gb5z/\k_ ≠ qj) k_ from fun k_ hk=>⟨(.inr (Nat.le_trans (Zb pB) hk)),Kd.freshB (g:=gb0z) (o:=.cells #[.bool a0_0,.slice A0_1 l0_1.length c0_1,.int .i64 a0_2] 24 (0,0)) (Zg BK2z.o pl) k_ hk,Kd.freshB (g:=gb5z) (o:=.cells #[.bool a1_0,.slice A1_1 l1_1.length c1_1,.int .i64 a1_2] 24 (0,0)) (Zg BK7z.o pl) k_ hk,Kd.freshB (g:=qj) (o:=.cells #[.bool false,.slice none 0 0,.int .i64 0] 24 (0,0)) (Zg qa.o pl) k_ hk⟩) _ (Nat.le_refl _)) (Below.refl _ _) (Nat.le_refl _) (by simp) ?_;(case hd=>rfl);(case hg=>rfl);(case hr=>first|(go_simp;done)|(go_simp;rfl));(case hp=>exact (Reps.c3 (show Kd.FK k24 _ _ (⟨a0_0,l0_1,a0_2⟩:S24) [.bool a0_0,.slice A0_1 l0_1.length c0_1,.int .i64 a0_2] from (Zj9 _ _ (⟨a0_0,l0_1,a0_2⟩:S24) (Kd.Za5 (Kd.Zb5 (ok':=(fun k_=>((P0_1_ k_\/P1_1_ k_)\/w.heap.size<=k_)/\k_ ≠ gb0z/\k_ ≠ gb5z/\k_ ≠ qj)) (HO0_1.o) (fun k_ hk=>⟨hk.1.1.1,⟨hk.1.1.2,⟨hk.1.2,hk.2⟩⟩⟩))).2.1 (Kd.V_F (Kd.Zb5 (ok':=(fun k_=>((P0_1_ k_\/P1_1_ k_)\/w.heap.size<=k_)/\k_ ≠ gb0z/\k_ ≠ gb5z/\k_ ≠ qj)) (HO0_1.o) (fun k_ hk=>⟨hk.1.1.1,⟨hk.1.1.2,⟨hk.1.2,hk.2⟩⟩⟩))))) (Reps.c3 (show Kd.FK k24 _ _ (⟨a1_0,l1_1,a1_2⟩:S24) [.bool a1_0,.slice A1_1 l1_1.length c1_1,.int .i64 a1_2] from (Zj9 _ _ (⟨a1_0,l1_1,a1_2⟩:S24) (Kd.Za5 (Kd.Zb5 (ok':=(fun k_=>((P0_1_ k_\/P1_1_ k_)\/w.heap.size<=k_)/\k_ ≠ gb0z/\k_ ≠ gb5z/\k_ ≠ qj)) (HO1_1.o) (fun k_ hk=>⟨hk.1.1.1,⟨hk.1.1.2,⟨hk.1.2,hk.2⟩⟩⟩))).2.1 (Kd.V_F (Kd.Zb5 (ok':=(fun k_=>((P0_1_ k_\/P1_1_ k_)\/w.heap.size<=k_)/\k_ ≠ gb0z/\k_ ≠ gb5z/\k_ ≠ qj)) (HO1_1.o) (fun k_ hk=>⟨hk.1.1.1,⟨hk.1.1.2,⟨hk.1.2,hk.2⟩⟩⟩))))) (Reps.none _ _))));intro v39z w40z ho41z hb hg_ hnew_;clear hg_ hnew_;(first|rw [<- qac.out] at ho41z|(simp only [Int.reduceToNat] at ho41z;rw [<- qac.out] at ho41z));replace HO0_1:=am (Kd.Zcx (Kd.Zbn HO0_1.o pl) (Kd.Zm0 ho41z) hb);replace HO1_1:=am (Kd.Zcx (Kd.Zbn HO1_1.o pl) (Kd.Zm0 ho41z) hb);have qb:=am (Kd.Zoz ho41z (Zb pB));replace BK2z:=bb BK2z hb;replace BK7z:=bb BK7z hb;replace qa:=bb qa hb;replace HB:=bS hb;clear hb ho41z;obtain ⟨ji,jk,qa4⟩:=Kd.Zo0 qb.o;subst qa4)|((have q_:((l1_1.length:Int) != 0)=false:=c5b1;clear q_);refine gL (some 17) Tryz.func67 #[.slice ji jm.length jk] (h:=?_);(with_reducible refine (Zdi.calls k _ _ jm jg _ ?side1 ?side2 A3.o).mono ?_);(case side1=>exact Kd.Zi (Kd.Zeq qb.o).2.2 pl);(case side2=>exact (Kd.Zeq qb.o).2.1);rintro e w46z ⟨rfl,hb⟩;refine ⟨_,rfl,?_⟩;replace HO0_1:=vbl HO0_1 hb;replace HO1_1:=vbl HO1_1 hb;replace qb:=nbl qb hb;replace BK2z:=bb BK2z hb;replace BK7z:=bb BK7z hb;replace qa:=bb qa hb;replace HB:=bS hb;obtain ⟨jx,jy,jz,j0,j1,j2⟩:=cEc BK7z.o;obtain ⟨_,_,_,_,_,_⟩:=cEc qa.o)|((have q_:=A28;clear q_);refine gL (some 17) Tryz.func67 #[.slice ji jm.length jk] (h:=?_);(with_reducible refine (Zdi.calls k _ _ jm jg _ ?side1 ?side2 A3.o).mono ?_);(case side1=>exact Kd.Zi (Kd.Zeq qb.o).2.2 pl);(case side2=>exact (Kd.Zeq qb.o).2.1);rintro e w46z ⟨rfl,hb⟩;refine ⟨_,rfl,?_⟩;replace HO0_1:=vbl HO0_1 hb;replace HO1_1:=vbl HO1_1 hb;replace qb:=nbl qb hb;replace BK2z:=bb BK2z hb;replace BK7z:=bb BK7z hb;replace qa:=bb qa hb;replace HB:=bS hb;obtain ⟨jx,jy,jz,j0,j1,j2⟩:=cEc BK7z.o)|((have q_:(jg != 0)=true:=c4b1;clear q_);refine gL (some 17) Tryz.func67 #[.slice ji jm.length jk] (h:=?_);(with_reducible refine (Zdi.calls k _ _ jm jg _ ?side1 ?side2 A3.o).mono ?_);(case side1=>exact Kd.Zi (Kd.Zeq qb.o).2.2 pl);(case side2=>exact (Kd.Zeq qb.o).2.1);rintro e w46z ⟨rfl,hb⟩;refine ⟨_,rfl,?_⟩;replace HO0_1:=vbl HO0_1 hb;replace HO1_1:=vbl HO1_1 hb;replace qb:=nbl qb hb;replace BK2z:=bb BK2z hb;replace BK7z:=bb BK7z hb;replace qa:=bb qa hb;replace HB:=bS hb;obtain ⟨jx,jy,jz,j0,j1,j2⟩:=cEc qa.o))
 first
  | have q_:=A28
    replace HO0_1:=am (Kd.Zku HO0_1.o)
    replace HO1_1:=am (Kd.Zku HO1_1.o)
    replace qb:=am (Kd.Zr5 qb.o)
    replace BK2z:=am (Zc7 BK2z.o)
    replace BK7z:=am (Zc7 BK7z.o)
    replace qa:=am (Zc7 qa.o)
    replace HB:=am (Zbh HB.o)
    refine start_ (n:=11) (S:=fun w'=>w'.cell? ⟨gb5z,0,none⟩=some (.bool a1_0)/\w'.cell? ⟨gb5z,1,none⟩=some (.slice A1_1 l1_1.length c1_1)/\w'.cell? ⟨gb5z,2,none⟩=some (.int .i64 a1_2)/\w'.cell? ⟨gb0z,0,none⟩=some (.bool a0_0)/\w'.cell? ⟨gb0z,1,none⟩=some (.slice A0_1 l0_1.length c0_1)/\w'.cell? ⟨gb0z,2,none⟩=some (.int .i64 a0_2)) (ds:=[]) #[false,false,false,false,false,false,false,false,false,false,false] (by kernel_rfl) rfl rfl ⟨k0 BK7z 0,k0 BK7z 1,k0 BK7z 2,k0 BK2z 0,k0 BK2z 1,k0 BK2z 2⟩ (fun hHeld=>?_);refine Zdo Za9.tab6 Za9.bits6 (fun HT_ HW_=>?_)
    generalize w46z.drew=w53z at HO0_1 HO1_1 qb BK2z BK7z qa HB hHeld ⊢
    refine pu 0 (some 27) #[true,false,false,false,false,false,false,false,false,false,false] (h:=?_)
    refine pu 3 (some 30) #[true,false,false,true,false,false,false,false,false,false,false] (h:=?_)
    refine take_ (i:=1) (N:=some 28) (v:=?_) (a':=?_) #[true,true,false,true,false,false,false,false,false,false,false] rfl rfl (Zcs HT_.out HW_.out (by kernel_rfl)) (fun _ _ _ h=>h) (Or.inl ⟨by rfl,?_⟩) hHeld ?_ ?_
    rotate_left
    ·rintro w' ⟨s54z,s55z,s56z,s57z,s58z,s59z⟩
     go_simp
     with_reducible rfl
    rotate_left
    ·exact pP
    refine take_ (i:=4) (N:=some 31) (v:=?_) (a':=?_) #[true,true,false,true,true,false,false,false,false,false,false] rfl rfl (Zcs HT_.out HW_.out (by kernel_rfl)) (fun _ _ _ h=>h) (Or.inl ⟨by rfl,?_⟩) hHeld ?_ ?_
    rotate_left
    ·rintro w' ⟨s54z,s55z,s56z,s57z,s58z,s59z⟩
     go_simp
     with_reducible rfl
    rotate_left
    ·exact pP
    refine one_ (i:=2) (N:=some 29) #[true,true,true,true,true,false,false,false,false,false,false] rfl rfl (Zc6 HT_.out (by kernel_rfl)) (by decide) (fun K hK=>?_)
    refine goes_ Tryz.func68 (by kernel_rfl) rfl #[.slice A1_1 l1_1.length c1_1] (by rfl) rfl rfl pA ?_
    with_reducible refine (Zbo.calls k _ _ l1_1 q9 _ ?side1 ?side2 A20.o).mono ?_
    (case side1=>exact Kd.Zi (Kd.Za5 HO1_1.o).2.2 pl)
    (case side2=>exact (Kd.Za5 HO1_1.o).2.1)
    rintro e w60z ⟨rfl,hb⟩
    refine ⟨_,rfl,?_⟩
    replace HO0_1:=vbl HO0_1 hb
    replace HO1_1:=vbl HO1_1 hb
    replace qb:=nbl qb hb
    replace BK2z:=bb BK2z hb
    replace BK7z:=bb BK7z hb
    replace qa:=bb qa hb
    replace HB:=bS hb
    refine hK.out _ _ ⟨k0 BK7z 0,k0 BK7z 1,k0 BK7z 2,k0 BK2z 0,k0 BK2z 1,k0 BK2z 2⟩ (fun hHeld=>?_)
    clear hK K
    refine norm_ (a':=?_) ?_ ?_
    rotate_left
    ·show Act.put _ (some 29) _=_
     exact pP
    refine one_ (i:=5) (N:=some 32) #[true,true,true,true,true,true,false,false,false,false,false] rfl rfl (Zc6 HT_.out (by kernel_rfl)) (by decide) (fun K hK=>?_)
    refine goes_ Tryz.func68 (by kernel_rfl) rfl #[.slice A0_1 l0_1.length c0_1] (by rfl) rfl rfl pA ?_
    with_reducible refine (Zbo.calls k _ _ l0_1 ja _ ?side1 ?side2 A21.o).mono ?_
    (case side1=>exact Kd.Zi (Kd.Za5 HO0_1.o).2.2 pl)
    (case side2=>exact (Kd.Za5 HO0_1.o).2.1)
    rintro e w61z ⟨rfl,hb⟩
    refine ⟨_,rfl,?_⟩
    replace HO0_1:=vbl HO0_1 hb
    replace HO1_1:=vbl HO1_1 hb
    replace qb:=nbl qb hb
    replace BK2z:=bb BK2z hb
    replace BK7z:=bb BK7z hb
    replace qa:=bb qa hb
    replace HB:=bS hb
    refine hK.out _ _ ⟨k0 BK7z 0,k0 BK7z 1,k0 BK7z 2,k0 BK2z 0,k0 BK2z 1,k0 BK2z 2⟩ (fun hHeld=>?_)
    clear hK K
    refine norm_ (a':=?_) ?_ ?_
    rotate_left
    ·show Act.put _ (some 32) _=_
     exact pP
    refine pu 6 (some 33) #[true,true,true,true,true,true,true,false,false,false,false] (h:=?_)
    refine pu 7 (some 34) #[true,true,true,true,true,true,true,true,false,false,false] (h:=?_)
    refine pu 8 (some 35) #[true,true,true,true,true,true,true,true,true,false,false] (h:=?_)
    refine pu 9 (some 36) #[true,true,true,true,true,true,true,true,true,true,false] (h:=?_)
    refine pu 10 (some 7) #[true,true,true,true,true,true,true,true,true,true,true] (h:=?_)
    refine done_ (Zex HT_.out (by kernel_rfl)) ?_
    try go_wp2
    replace HO0_1:=am (Kd.Zku HO0_1.o)
    replace HO1_1:=am (Kd.Zku HO1_1.o)
    replace qb:=am (Kd.Zr5 qb.o)
    replace BK2z:=am (Zc7 BK2z.o)
    replace BK7z:=am (Zc7 BK7z.o)
    replace qa:=am (Zc7 qa.o)
    replace HB:=am (Zbh HB.o)
    refine start_ (n:=18) (S:=fun w'=>w'.cell? ⟨gb0z,0,none⟩=some (.bool a0_0)/\w'.cell? ⟨gb0z,1,none⟩=some (.slice A0_1 l0_1.length c0_1)/\w'.cell? ⟨gb0z,2,none⟩=some (.int .i64 a0_2)/\w'.cell? ⟨gb5z,0,none⟩=some (.bool a1_0)/\w'.cell? ⟨gb5z,1,none⟩=some (.slice A1_1 l1_1.length c1_1)/\w'.cell? ⟨gb5z,2,none⟩=some (.int .i64 a1_2)) (ds:=[]) #[false,false,false,false,false,false,false,false,false,false,false,false,false,false,false,false,false,false] (by kernel_rfl) rfl rfl ⟨k0 BK2z 0,k0 BK2z 1,k0 BK2z 2,k0 BK7z 0,k0 BK7z 1,k0 BK7z 2⟩ (fun hHeld=>?_);refine Zdo Za9.tab7 Za9.bits7 (fun HT_ HW_=>?_)
    generalize w61z.drew=w62z at HO0_1 HO1_1 qb BK2z BK7z qa HB hHeld ⊢
    refine pu 0 (some 38) #[true,false,false,false,false,false,false,false,false,false,false,false,false,false,false,false,false,false] (h:=?_)
    refine pu 2 (some 40) #[true,false,true,false,false,false,false,false,false,false,false,false,false,false,false,false,false,false] (h:=?_)
    refine pu 8 (some 46) #[true,false,true,false,false,false,false,false,true,false,false,false,false,false,false,false,false,false] (h:=?_)
    refine take_ (i:=1) (N:=some 39) (v:=?_) (a':=?_) #[true,true,true,false,false,false,false,false,true,false,false,false,false,false,false,false,false,false] rfl rfl (Zcs HT_.out HW_.out (by kernel_rfl)) (fun _ _ _ h=>h) (Or.inl ⟨by rfl,?_⟩) hHeld ?_ ?_
    rotate_left
    ·rintro w' ⟨s54z,s55z,s56z,s57z,s58z,s59z⟩
     go_simp
     with_reducible rfl
    rotate_left
    ·exact pP
    refine take_ (i:=9) (N:=some 47) (v:=?_) (a':=?_) #[true,true,true,false,false,false,false,false,true,true,false,false,false,false,false,false,false,false] rfl rfl (Zcs HT_.out HW_.out (by kernel_rfl)) (fun _ _ _ h=>h) (Or.inl ⟨by rfl,?_⟩) hHeld ?_ ?_
    rotate_left
    ·rintro w' ⟨s54z,s55z,s56z,s57z,s58z,s59z⟩
     go_simp
     with_reducible rfl
    rotate_left
    ·exact pP
    refine one_ (i:=3) (N:=some 41) #[true,true,true,true,false,false,false,false,true,true,false,false,false,false,false,false,false,false] rfl rfl (Zc6 HT_.out (by kernel_rfl)) (by decide) (fun K hK=>?_)
    refine goes_ Tryz.func72 (by kernel_rfl) rfl #[.int .i64 ji22] (by rfl) rfl rfl (by (try simp only [List.map_toArray,List.map_cons,List.map_nil]);first|done|(simp only [hji22];rfl)|rfl|(simp only [List.length_drop,List.length_take];rfl)) ?_
    with_reducible refine (Zbq.calls k ji22 qq _ A23.o).mono ?_
    rintro e w63z ⟨v64z,rfl,ho65z,hb⟩
    refine ⟨_,rfl,?_⟩
    replace HO0_1:=am (Kd.Zcx (Kd.Zbn HO0_1.o pl) (Kd.Zt ho65z) hb)
    replace HO1_1:=am (Kd.Zcx (Kd.Zbn HO1_1.o pl) (Kd.Zt ho65z) hb)
    replace qb:=am (Kd.Zfy (Kd.Zdp qb.o pl) (Kd.Zt ho65z) hb)
    have qd:=am (Kd.Zn (Kd.Zd4 (M:=fun k_=>(w.heap.size<=k_)) ho65z (Zb pB) (fun k_ h_=>h_)) (Zb pB))
    replace BK2z:=bb BK2z hb
    replace BK7z:=bb BK7z hb
    replace qa:=bb qa hb
    replace HB:=bS hb
    obtain ⟨qs,qu,qad⟩:=Kd.Zh qd.o
    (first|subst qad|(injection qad with f1_ f2_ f3_;have f4_:=f1_.symm;have f5_:=f3_.symm;clear f1_ f2_ f3_;subst f4_;subst f5_))
    refine hK.out _ _ ⟨k0 BK2z 0,k0 BK2z 1,k0 BK2z 2,k0 BK7z 0,k0 BK7z 1,k0 BK7z 2⟩ (fun hHeld=>?_)
    clear hK K
    refine norm_ (a':=?_) ?_ ?_
    rotate_left
    ·show Act.put _ (some 41) _=_
     exact pP
    refine one_ (i:=4) (N:=some 42) #[true,true,true,true,true,false,false,false,true,true,false,false,false,false,false,false,false,false] rfl rfl (Zc6 HT_.out (by kernel_rfl)) (by decide) (fun K hK=>?_)
    refine goes_ Tryz.func71 (by kernel_rfl) rfl #[.slice A0_1 l0_1.length c0_1,.slice qs qq.length qu] (by rfl) rfl rfl pA ?_
    with_reducible refine (Zdb.calls k _ _ l0_1 _ _ qq j4 qap _ ?side1 ?side2 ?side3 ?side4 A24.o).mono ?_
    (case side1=>exact Kd.Zi (Kd.Za5 HO0_1.o).2.2 pl)
    (case side2=>exact (Kd.Za5 HO0_1.o).2.1)
    (case side3=>exact Kd.Zi (Kd.Zc qd.o).2.2 pl)
    (case side4=>exact (Kd.Zc qd.o).2.1)
    rintro e w70z ⟨v71z,rfl,ho65z,hb⟩
    refine ⟨_,rfl,?_⟩
    have jj:=am (Kd.Zn (Kd.Zf (Kd.Zd4 (M:=fun k_=>(w.heap.size<=k_)) ho65z (Zb pB) (fun k_ h_=>h_)) (Kd.R_lt (Kd.Za qd.o pl))) (Zb pB))
    replace HO0_1:=am (Kd.Zcx (Kd.Zbn HO0_1.o pl) (Kd.Zt ho65z) hb)
    replace HO1_1:=am (Kd.Zcx (Kd.Zbn HO1_1.o pl) (Kd.Zt ho65z) hb)
    replace qb:=am (Kd.Zfy (Kd.Zdp qb.o pl) (Kd.Zt ho65z) hb)
    replace qd:=reR qd ho65z hb
    replace BK2z:=bb BK2z hb
    replace BK7z:=bb BK7z hb
    replace qa:=bb qa hb
    replace HB:=bS hb
    obtain ⟨js,jw,qae⟩:=Kd.Zh jj.o
    (first|subst qae|(injection qae with f1_ f2_ f3_;have f4_:=f1_.symm;have f5_:=f3_.symm;clear f1_ f2_ f3_;subst f4_;subst f5_))
    refine hK.out _ _ ⟨k0 BK2z 0,k0 BK2z 1,k0 BK2z 2,k0 BK7z 0,k0 BK7z 1,k0 BK7z 2⟩ (fun hHeld=>?_)
    clear hK K
    refine norm_ (a':=?_) ?_ ?_
    rotate_left
    ·show Act.put _ (some 42) _=_
     exact pP
    refine pu 5 (some 43) #[true,true,true,true,true,true,false,false,true,true,false,false,false,false,false,false,false,false] (h:=?_)
    refine pu 6 (some 44) #[true,true,true,true,true,true,true,false,true,true,false,false,false,false,false,false,false,false] (h:=?_)
    refine one_ (i:=7) (N:=some 45) #[true,true,true,true,true,true,true,true,true,true,false,false,false,false,false,false,false,false] rfl rfl (Zc6 HT_.out (by kernel_rfl)) (by decide) (fun K hK=>?_)
    refine goes_ Tryz.func70 (by kernel_rfl) rfl #[.slice js j4.length jw,.int .i64 qap] (by rfl) rfl rfl pA ?_
    with_reducible refine (Zs.calls (fun k_=>some k_=(.slice js j4.length jw:Value).ownBlock) (.slice js j4.length jw) j4 qap qy w _ ?side1 ?side2 A25.o).mono ?_
    (case side1=>exact pB)
    (case side2=>exact Kd.Zby rfl jj.o)
    rintro e w76z ⟨v77z,rfl,ho65z,hb,hkp⟩
    refine ⟨_,rfl,?_⟩
    have qe:=am (Kd.Zo (ok':=fun k_=>(w.heap.size<=k_)/\some k_ ≠ (.slice qs qq.length qu:Value).ownBlock) ho65z (fun k_ hk_=>⟨Or.elim hk_ (fun hs_=>(jj.o.1 k_ (hs_).symm).1.1) (fun hn_=>(Nat.le_trans (Zb pB) hn_)),Or.elim hk_ (fun hs_=>fun e_=>(((qd.o).1 k_ e_.symm).2) hs_) (fun hn_=>(Kd.fresh' (Kd.R_lt (Kd.Za qd.o pl)) k_ hn_))⟩))
    replace HO0_1:=am (Kd.Zb5 (ok':=fun k_=>((P0_1_ k_\/P1_1_ k_)\/w.heap.size<=k_)/\some k_ ≠ (.slice ji jm.length jk:Value).ownBlock/\some k_ ≠ (.slice qs qq.length qu:Value).ownBlock/\k_ ≠ gb0z/\k_ ≠ gb5z/\k_ ≠ qj/\some k_ ≠ (v77z:Value).ownBlock) (Kd.Ziq (HO0_1.o) hkp (fun k_ hk_ hs_=>(hk_.2) hs_)) (fun k_ hk_=>⟨hk_.1.1.1.1.1.1.1,hk_.1.1.1.2,hk_.1.1.2,hk_.1.1.1.1.1.1.2,hk_.1.1.1.1.1.2,hk_.1.1.1.1.2,fun e_=>Or.elim (ho65z.1 k_ e_.symm) (fun hs_=>hk_.2.1 hs_) (fun hn_=>Nat.not_le.2 hk_.2.2 hn_)⟩))
    replace HO1_1:=am (Kd.Zb5 (ok':=fun k_=>((P0_1_ k_\/P1_1_ k_)\/w.heap.size<=k_)/\some k_ ≠ (.slice ji jm.length jk:Value).ownBlock/\some k_ ≠ (.slice qs qq.length qu:Value).ownBlock/\k_ ≠ gb0z/\k_ ≠ gb5z/\k_ ≠ qj/\some k_ ≠ (v77z:Value).ownBlock) (Kd.Ziq (HO1_1.o) hkp (fun k_ hk_ hs_=>(hk_.2) hs_)) (fun k_ hk_=>⟨hk_.1.1.1.1.1.1.1,hk_.1.1.1.2,hk_.1.1.2,hk_.1.1.1.1.1.1.2,hk_.1.1.1.1.1.2,hk_.1.1.1.1.2,fun e_=>Or.elim (ho65z.1 k_ e_.symm) (fun hs_=>hk_.2.1 hs_) (fun hn_=>Nat.not_le.2 hk_.2.2 hn_)⟩))
    replace BK2z:=am (Zc8 (Zg BK2z.o pl) hkp (fun e_=>Kd.R_ne jj.o BK2z.o (by decide) e_))
    replace BK7z:=am (Zc8 (Zg BK7z.o pl) hkp (fun e_=>Kd.R_ne jj.o BK7z.o (by decide) e_))
    replace qa:=am (Zc8 (Zg qa.o pl) hkp (fun e_=>Kd.R_ne jj.o qa.o (by decide) e_))
    replace qb:=am (Kd.Zga (ok':=fun k_=>((P0_1_ k_\/P1_1_ k_)\/w.heap.size<=k_)/\some k_ ≠ (.slice qs qq.length qu:Value).ownBlock/\k_ ≠ gb0z/\k_ ≠ gb5z/\k_ ≠ qj/\some k_ ≠ (v77z:Value).ownBlock) (Kd.Zoy (qb.o) hkp (fun k_ hk_ hs_=>(hk_.2) hs_)) (fun k_ hk_=>⟨hk_.1.1.1.1,hk_.1.1.2,hk_.1.1.1.2.1,hk_.1.1.1.2.2.1,hk_.1.1.1.2.2.2,fun e_=>Or.elim (ho65z.1 k_ e_.symm) (fun hs_=>hk_.2.1 hs_) (fun hn_=>Nat.not_le.2 hk_.2.2 hn_)⟩))
    replace qd:=am (Kd.Zo (ok':=fun k_=>(w.heap.size<=k_)/\some k_ ≠ (v77z:Value).ownBlock) (Kd.Zcc (qd.o) hkp (fun k_ hk_ hs_=>(hk_.2) hs_)) (fun k_ hk_=>⟨hk_.1.1.1,fun e_=>Or.elim (ho65z.1 k_ e_.symm) (fun hs_=>hk_.2.1 hs_) (fun hn_=>Nat.not_le.2 hk_.2.2 hn_)⟩))
    replace HB:=am hb
    clear jj
    obtain ⟨q2,q6,qaf⟩:=Kd.Zh qe.o
    (first|subst qaf|(injection qaf with f1_ f2_ f3_;have f4_:=f1_.symm;have f5_:=f3_.symm;clear f1_ f2_ f3_;subst f4_;subst f5_))
    refine hK.out _ _ ⟨k0 BK2z 0,k0 BK2z 1,k0 BK2z 2,k0 BK7z 0,k0 BK7z 1,k0 BK7z 2⟩ (fun hHeld=>?_)
    clear hK K
    refine norm_ (a':=?_) ?_ ?_
    rotate_left
    ·show Act.put _ (some 45) _=_
     exact pP
    refine one_ (i:=10) (N:=some 48) #[true,true,true,true,true,true,true,true,true,true,true,false,false,false,false,false,false,false] rfl rfl (Zc6 HT_.out (by kernel_rfl)) (by decide) (fun K hK=>?_)
    refine goes_ Tryz.func69 (by kernel_rfl) rfl #[.slice q2 qy.length q6,.slice A1_1 l1_1.length c1_1] (by rfl) rfl rfl pA ?_
    with_reducible refine (Zcz.calls k _ _ qy _ _ l1_1 jf q1 qbf _ ?side1 ?side2 ?side3 ?side4 A26.o).mono ?_
    (case side1=>exact Kd.Zi (Kd.Zc qe.o).2.2 pl)
    (case side2=>exact (Kd.Zc qe.o).2.1)
    (case side3=>exact Kd.Zi (Kd.Za5 HO1_1.o).2.2 pl)
    (case side4=>exact (Kd.Za5 HO1_1.o).2.1)
    rintro e w82z ⟨v83z,v84z,rfl,ho65z,ho85z,hb⟩
    refine ⟨_,rfl,?_⟩
    have qg:=am (Kd.Zn (Kd.Zf (Kd.Zf (Kd.Zd4 (M:=fun k_=>(w.heap.size<=k_)) ho65z (Zb pB) (fun k_ h_=>h_)) (Kd.R_lt (Kd.Za qd.o pl))) (Kd.R_lt (Kd.Za qe.o pl))) (Zb pB))
    have qh:=am (Kd.Zn (Kd.Zf (Kd.Zf (Kd.Zd4 (M:=fun k_=>(w.heap.size<=k_)) ho85z (Zb pB) (fun k_ h_=>h_)) (Kd.R_lt (Kd.Za qd.o pl))) (Kd.R_lt (Kd.Za qe.o pl))) (Zb pB))
    replace HO0_1:=am (Kd.Zb5 (Kd.Zdt (Kd.Zdt (Kd.Zid (Kd.Zbn HO0_1.o pl) hb) (Kd.Zt ho65z)) (Kd.Zt ho85z)) (fun _ h_=>h_.1))
    replace HO1_1:=am (Kd.Zb5 (Kd.Zdt (Kd.Zdt (Kd.Zid (Kd.Zbn HO1_1.o pl) hb) (Kd.Zt ho65z)) (Kd.Zt ho85z)) (fun _ h_=>h_.1))
    replace qb:=am (Kd.Zga (Kd.Zf7 (Kd.Zf7 (Kd.Zn6 (Kd.Zdp qb.o pl) hb) (Kd.Zt ho65z)) (Kd.Zt ho85z)) (fun _ h_=>h_.1))
    replace qd:=am (Kd.Zo (Kd.Zbr (Kd.Zbr (Kd.Ze2 (Kd.Za qd.o pl) hb) (Kd.Zt ho65z)) (Kd.Zt ho85z)) (fun _ h_=>h_.1))
    replace qe:=am (Kd.Zo (Kd.Zbr (Kd.Zbr (Kd.Ze2 (Kd.Za qe.o pl) hb) (Kd.Zt ho65z)) (Kd.Zt ho85z)) (fun _ h_=>h_.1))
    replace BK2z:=bb BK2z hb
    replace BK7z:=bb BK7z hb
    replace qa:=bb qa hb
    replace HB:=bS hb
    refine hK.out _ _ ⟨k0 BK2z 0,k0 BK2z 1,k0 BK2z 2,k0 BK7z 0,k0 BK7z 1,k0 BK7z 2⟩ (fun hHeld=>?_)
    clear hK K
    refine norm_ (a':=?_) ?_ ?_
    rotate_left
    ·show Act.put _ (some 48) _=_
     exact pP
    refine pu 11 (some 37) #[true,true,true,true,true,true,true,true,true,true,true,true,false,false,false,false,false,false] (h:=?_)
    refine pu 12 (some 49) #[true,true,true,true,true,true,true,true,true,true,true,true,true,false,false,false,false,false] (h:=?_)
    refine pu 13 (some 50) #[true,true,true,true,true,true,true,true,true,true,true,true,true,true,false,false,false,false] (h:=?_)
    refine pu 14 (some 51) #[true,true,true,true,true,true,true,true,true,true,true,true,true,true,true,false,false,false] (h:=?_)
    refine pu 15 (some 8) #[true,true,true,true,true,true,true,true,true,true,true,true,true,true,true,true,false,false] (h:=?_)
    refine pu 16 (some 9) #[true,true,true,true,true,true,true,true,true,true,true,true,true,true,true,true,true,false] (h:=?_)
    refine pu 17 (some 10) #[true,true,true,true,true,true,true,true,true,true,true,true,true,true,true,true,true,true] (h:=?_)
    refine done_ (Zex HT_.out (by kernel_rfl)) ?_
    obtain ⟨q3,q7,qa5⟩:=Kd.Zh qg.o
    subst qa5
    try go_wp2_with (first|(refine gL (some 54) Tryz.func73 #[.slice q3 jf.length q7,.int .i64 40] (h:=?_);(with_reducible refine (Zce.calls k _ _ jf 40 q0 je jn _ ?side1 ?side2 A27.o).mono ?_);(case side1=>exact Kd.Zi (Kd.Zc qg.o).2.2 pl);(case side2=>exact (Kd.Zc qg.o).2.1);rintro e w91z ⟨v92z,v93z,rfl,ho65z,ho85z,hb⟩;refine ⟨_,rfl,?_⟩;have qf:=am (Kd.Zn (Kd.Zf (Kd.Zf (Kd.Zf (Kd.Zf (Kd.Zd4 (M:=fun k_=>(w.heap.size<=k_)) ho65z (Zb pB) (fun k_ h_=>h_)) (Kd.R_lt (Kd.Za qd.o pl))) (Kd.R_lt (Kd.Za qe.o pl))) (Kd.R_lt (Kd.Za qg.o pl))) (Kd.R_lt (Kd.Za qh.o pl))) (Zb pB));have qi:=am (Kd.Zn (Kd.Zf (Kd.Zf (Kd.Zf (Kd.Zf (Kd.Zd4 (M:=fun k_=>(w.heap.size<=k_)) ho85z (Zb pB) (fun k_ h_=>h_)) (Kd.R_lt (Kd.Za qd.o pl))) (Kd.R_lt (Kd.Za qe.o pl))) (Kd.R_lt (Kd.Za qg.o pl))) (Kd.R_lt (Kd.Za qh.o pl))) (Zb pB));replace HO0_1:=am (Kd.Zb5 (Kd.Zdt (Kd.Zdt (Kd.Zid (Kd.Zbn HO0_1.o pl) hb) (Kd.Zt ho65z)) (Kd.Zt ho85z)) (fun _ h_=>h_.1));replace HO1_1:=am (Kd.Zb5 (Kd.Zdt (Kd.Zdt (Kd.Zid (Kd.Zbn HO1_1.o pl) hb) (Kd.Zt ho65z)) (Kd.Zt ho85z)) (fun _ h_=>h_.1));replace qb:=am (Kd.Zga (Kd.Zf7 (Kd.Zf7 (Kd.Zn6 (Kd.Zdp qb.o pl) hb) (Kd.Zt ho65z)) (Kd.Zt ho85z)) (fun _ h_=>h_.1));replace qd:=am (Kd.Zo (Kd.Zbr (Kd.Zbr (Kd.Ze2 (Kd.Za qd.o pl) hb) (Kd.Zt ho65z)) (Kd.Zt ho85z)) (fun _ h_=>h_.1));replace qe:=am (Kd.Zo (Kd.Zbr (Kd.Zbr (Kd.Ze2 (Kd.Za qe.o pl) hb) (Kd.Zt ho65z)) (Kd.Zt ho85z)) (fun _ h_=>h_.1));replace qg:=am (Kd.Zo (Kd.Zbr (Kd.Zbr (Kd.Ze2 (Kd.Za qg.o pl) hb) (Kd.Zt ho65z)) (Kd.Zt ho85z)) (fun _ h_=>h_.1));replace qh:=am (Kd.Zo (Kd.Zbr (Kd.Zbr (Kd.Ze2 (Kd.Za qh.o pl) hb) (Kd.Zt ho65z)) (Kd.Zt ho85z)) (fun _ h_=>h_.1));replace BK2z:=bb BK2z hb;replace BK7z:=bb BK7z hb;replace qa:=bb qa hb;replace HB:=bS hb;obtain ⟨jb,jc,qa6⟩:=Kd.Zh qh.o;subst qa6;obtain ⟨qw,qm,qai⟩:=Kd.Zh qf.o;subst qai;obtain ⟨qo,qp,qaj⟩:=Kd.Zh qi.o;subst qaj)|(refine gL (some 64) Tryz.func74 #[.slice qw q0.length qm,.slice qo je.length qp,.int .i64 jn,.bool (decide (0 < q1.length))] (h:=?_);(with_reducible refine (Zbf.calls k _ _ q0 _ _ je jn (decide (0 < q1.length)) true _ ?side1 ?side2 ?side3 ?side4 A28.o).mono ?_);(case side1=>exact Kd.Zi (Kd.Zc qf.o).2.2 pl);(case side2=>exact (Kd.Zc qf.o).2.1);(case side3=>exact Kd.Zi (Kd.Zc qi.o).2.2 pl);(case side4=>exact (Kd.Zc qi.o).2.1);rintro e qa7 ⟨rfl,hb⟩;refine ⟨_,rfl,?_⟩;replace HO0_1:=vbl HO0_1 hb;replace HO1_1:=vbl HO1_1 hb;replace qb:=nbl qb hb;replace qd:=rbl qd hb;replace qe:=rbl qe hb;replace qg:=rbl qg hb;replace qh:=rbl qh hb;replace qf:=rbl qf hb;replace qi:=rbl qi hb;replace BK2z:=bb BK2z hb;replace BK7z:=bb BK7z hb;replace qa:=bb qa hb;replace HB:=bS hb)|(refine gL (some 66) Tryz.func76 #[.int .u64 1] (h:=?_);(with_reducible refine (Zcr.calls k 1 qv _ A30.o).mono ?_);rintro e qbm ⟨qbj,rfl,ho65z,hb⟩;refine ⟨_,rfl,?_⟩;have qn:=am (Kd.Zn (Kd.Zf (Kd.Zf (Kd.Zf (Kd.Zf (Kd.Zf (Kd.Zf (Kd.Zd4 (M:=fun k_=>(w.heap.size<=k_)) ho65z (Zb pB) (fun k_ h_=>h_)) (Kd.R_lt (Kd.Za qd.o pl))) (Kd.R_lt (Kd.Za qe.o pl))) (Kd.R_lt (Kd.Za qg.o pl))) (Kd.R_lt (Kd.Za qh.o pl))) (Kd.R_lt (Kd.Za qf.o pl))) (Kd.R_lt (Kd.Za qi.o pl))) (Zb pB));replace HO0_1:=am (Kd.Zcx (Kd.Zbn HO0_1.o pl) (Kd.Zt ho65z) hb);replace HO1_1:=am (Kd.Zcx (Kd.Zbn HO1_1.o pl) (Kd.Zt ho65z) hb);replace qb:=am (Kd.Zfy (Kd.Zdp qb.o pl) (Kd.Zt ho65z) hb);replace qd:=reR qd ho65z hb;replace qe:=reR qe ho65z hb;replace qg:=reR qg ho65z hb;replace qh:=reR qh ho65z hb;replace qf:=reR qf ho65z hb;replace qi:=reR qi ho65z hb;replace BK2z:=bb BK2z hb;replace BK7z:=bb BK7z hb;replace qa:=bb qa hb;replace HB:=bS hb;obtain ⟨qr,qt,qak⟩:=Kd.Zh qn.o;subst qak)|(refine gL (some 67) Tryz.func75 #[.slice qw q0.length qm,.slice qr qv.length qt] (h:=?_);(with_reducible refine (Zey.calls k _ _ q0 _ _ qv j5 qaq _ ?side1 ?side2 ?side3 ?side4 A31.o).mono ?_);(case side1=>exact Kd.Zi (Kd.Zc qf.o).2.2 pl);(case side2=>exact (Kd.Zc qf.o).2.1);(case side3=>exact Kd.Zi (Kd.Zc qn.o).2.2 pl);(case side4=>exact (Kd.Zc qn.o).2.1);rintro e qbn ⟨qbk,rfl,ho65z,hb⟩;refine ⟨_,rfl,?_⟩;have jd:=am (Kd.Zn (Kd.Zf (Kd.Zf (Kd.Zf (Kd.Zf (Kd.Zf (Kd.Zf (Kd.Zf (Kd.Zd4 (M:=fun k_=>(w.heap.size<=k_)) ho65z (Zb pB) (fun k_ h_=>h_)) (Kd.R_lt (Kd.Za qd.o pl))) (Kd.R_lt (Kd.Za qe.o pl))) (Kd.R_lt (Kd.Za qg.o pl))) (Kd.R_lt (Kd.Za qh.o pl))) (Kd.R_lt (Kd.Za qf.o pl))) (Kd.R_lt (Kd.Za qi.o pl))) (Kd.R_lt (Kd.Za qn.o pl))) (Zb pB));replace HO0_1:=am (Kd.Zcx (Kd.Zbn HO0_1.o pl) (Kd.Zt ho65z) hb);replace HO1_1:=am (Kd.Zcx (Kd.Zbn HO1_1.o pl) (Kd.Zt ho65z) hb);replace qb:=am (Kd.Zfy (Kd.Zdp qb.o pl) (Kd.Zt ho65z) hb);replace qd:=reR qd ho65z hb;replace qe:=reR qe ho65z hb;replace qg:=reR qg ho65z hb;replace qh:=reR qh ho65z hb;replace qf:=reR qf ho65z hb;replace qi:=reR qi ho65z hb;replace qn:=reR qn ho65z hb;replace BK2z:=bb BK2z hb;replace BK7z:=bb BK7z hb;replace qa:=bb qa hb;replace HB:=bS hb;obtain ⟨jo,jp,qal⟩:=Kd.Zh jd.o;subst qal)|(refine gL (some 70) Tryz.func70 #[.slice jo j5.length jp,.int .i64 qaq] (h:=?_);(with_reducible refine (Zs.calls (fun k_=>some k_=(.slice jo j5.length jp:Value).ownBlock) (.slice jo j5.length jp) j5 qaq jh w _ ?side1 ?side2 A32.o).mono ?_);(case side1=>exact pB);(case side2=>exact Kd.Zby rfl jd.o);rintro e qa8 ⟨q8,rfl,ho65z,hb,hkp⟩;refine ⟨_,rfl,?_⟩;have qz:=am (Kd.Zo (ok':=fun k_=>(w.heap.size<=k_)/\some k_ ≠ (.slice qs qq.length qu:Value).ownBlock/\some k_ ≠ (.slice q2 qy.length q6:Value).ownBlock/\some k_ ≠ (.slice q3 jf.length q7:Value).ownBlock/\some k_ ≠ (.slice jb q1.length jc:Value).ownBlock/\some k_ ≠ (.slice qw q0.length qm:Value).ownBlock/\some k_ ≠ (.slice qo je.length qp:Value).ownBlock/\some k_ ≠ (.slice qr qv.length qt:Value).ownBlock) ho65z (fun k_ hk_=>⟨Or.elim hk_ (fun hs_=>(jd.o.1 k_ (hs_).symm).1.1.1.1.1.1.1.1) (fun hn_=>(Nat.le_trans (Zb pB) hn_)),Or.elim hk_ (fun hs_=>fun e_=>(((qd.o).1 k_ e_.symm).2) hs_) (fun hn_=>(Kd.fresh' (Kd.R_lt (Kd.Za qd.o pl)) k_ hn_)),Or.elim hk_ (fun hs_=>fun e_=>(((qe.o).1 k_ e_.symm).2) hs_) (fun hn_=>(Kd.fresh' (Kd.R_lt (Kd.Za qe.o pl)) k_ hn_)),Or.elim hk_ (fun hs_=>fun e_=>(((qg.o).1 k_ e_.symm).2) hs_) (fun hn_=>(Kd.fresh' (Kd.R_lt (Kd.Za qg.o pl)) k_ hn_)),Or.elim hk_ (fun hs_=>fun e_=>(((qh.o).1 k_ e_.symm).2) hs_) (fun hn_=>(Kd.fresh' (Kd.R_lt (Kd.Za qh.o pl)) k_ hn_)),Or.elim hk_ (fun hs_=>fun e_=>(((qf.o).1 k_ e_.symm).2) hs_) (fun hn_=>(Kd.fresh' (Kd.R_lt (Kd.Za qf.o pl)) k_ hn_)),Or.elim hk_ (fun hs_=>fun e_=>(((qi.o).1 k_ e_.symm).2) hs_) (fun hn_=>(Kd.fresh' (Kd.R_lt (Kd.Za qi.o pl)) k_ hn_)),Or.elim hk_ (fun hs_=>fun e_=>(((qn.o).1 k_ e_.symm).2) hs_) (fun hn_=>(Kd.fresh' (Kd.R_lt (Kd.Za qn.o pl)) k_ hn_))⟩));replace HO0_1:=am (Kd.Zb5 (ok':=fun k_=>((P0_1_ k_\/P1_1_ k_)\/w.heap.size<=k_)/\some k_ ≠ (.slice ji jm.length jk:Value).ownBlock/\some k_ ≠ (.slice qs qq.length qu:Value).ownBlock/\some k_ ≠ (.slice q2 qy.length q6:Value).ownBlock/\some k_ ≠ (.slice q3 jf.length q7:Value).ownBlock/\some k_ ≠ (.slice jb q1.length jc:Value).ownBlock/\some k_ ≠ (.slice qw q0.length qm:Value).ownBlock/\some k_ ≠ (.slice qo je.length qp:Value).ownBlock/\some k_ ≠ (.slice qr qv.length qt:Value).ownBlock/\k_ ≠ gb0z/\k_ ≠ gb5z/\k_ ≠ qj/\some k_ ≠ (q8:Value).ownBlock) (Kd.Ziq (HO0_1.o) hkp (fun k_ hk_ hs_=>(hk_.2) hs_)) (fun k_ hk_=>⟨hk_.1.1.1.1.1.1.1.1,hk_.1.1.1.1.1.1.1.2.1,hk_.1.1.1.1.1.1.1.2.2.1,hk_.1.1.1.1.1.1.1.2.2.2.2.2.2,hk_.1.1.1.1.1.1.2,hk_.1.1.1.1.1.2,hk_.1.1.1.1.2,hk_.1.1.1.2,hk_.1.1.2,hk_.1.1.1.1.1.1.1.2.2.2.1,hk_.1.1.1.1.1.1.1.2.2.2.2.1,hk_.1.1.1.1.1.1.1.2.2.2.2.2.1,fun e_=>Or.elim (ho65z.1 k_ e_.symm) (fun hs_=>hk_.2.1 hs_) (fun hn_=>Nat.not_le.2 hk_.2.2 hn_)⟩));replace HO1_1:=am (Kd.Zb5 (ok':=fun k_=>((P0_1_ k_\/P1_1_ k_)\/w.heap.size<=k_)/\some k_ ≠ (.slice ji jm.length jk:Value).ownBlock/\some k_ ≠ (.slice qs qq.length qu:Value).ownBlock/\some k_ ≠ (.slice q2 qy.length q6:Value).ownBlock/\some k_ ≠ (.slice q3 jf.length q7:Value).ownBlock/\some k_ ≠ (.slice jb q1.length jc:Value).ownBlock/\some k_ ≠ (.slice qw q0.length qm:Value).ownBlock/\some k_ ≠ (.slice qo je.length qp:Value).ownBlock/\some k_ ≠ (.slice qr qv.length qt:Value).ownBlock/\k_ ≠ gb0z/\k_ ≠ gb5z/\k_ ≠ qj/\some k_ ≠ (q8:Value).ownBlock) (Kd.Ziq (HO1_1.o) hkp (fun k_ hk_ hs_=>(hk_.2) hs_)) (fun k_ hk_=>⟨hk_.1.1.1.1.1.1.1.1,hk_.1.1.1.1.1.1.1.2.1,hk_.1.1.1.1.1.1.1.2.2.1,hk_.1.1.1.1.1.1.1.2.2.2.2.2.2,hk_.1.1.1.1.1.1.2,hk_.1.1.1.1.1.2,hk_.1.1.1.1.2,hk_.1.1.1.2,hk_.1.1.2,hk_.1.1.1.1.1.1.1.2.2.2.1,hk_.1.1.1.1.1.1.1.2.2.2.2.1,hk_.1.1.1.1.1.1.1.2.2.2.2.2.1,fun e_=>Or.elim (ho65z.1 k_ e_.symm) (fun hs_=>hk_.2.1 hs_) (fun hn_=>Nat.not_le.2 hk_.2.2 hn_)⟩));replace BK2z:=am (Zc8 (Zg BK2z.o pl) hkp (fun e_=>Kd.R_ne jd.o BK2z.o (by decide) e_));replace BK7z:=am (Zc8 (Zg BK7z.o pl) hkp (fun e_=>Kd.R_ne jd.o BK7z.o (by decide) e_));replace qa:=am (Zc8 (Zg qa.o pl) hkp (fun e_=>Kd.R_ne jd.o qa.o (by decide) e_));replace qb:=am (Kd.Zga (ok':=fun k_=>((P0_1_ k_\/P1_1_ k_)\/w.heap.size<=k_)/\some k_ ≠ (.slice qs qq.length qu:Value).ownBlock/\some k_ ≠ (.slice q2 qy.length q6:Value).ownBlock/\some k_ ≠ (.slice q3 jf.length q7:Value).ownBlock/\some k_ ≠ (.slice jb q1.length jc:Value).ownBlock/\some k_ ≠ (.slice qw q0.length qm:Value).ownBlock/\some k_ ≠ (.slice qo je.length qp:Value).ownBlock/\some k_ ≠ (.slice qr qv.length qt:Value).ownBlock/\k_ ≠ gb0z/\k_ ≠ gb5z/\k_ ≠ qj/\some k_ ≠ (q8:Value).ownBlock) (Kd.Zoy (qb.o) hkp (fun k_ hk_ hs_=>(hk_.2) hs_)) (fun k_ hk_=>⟨hk_.1.1.1.1.1.1.1.1,hk_.1.1.1.1.1.1.1.2.1,hk_.1.1.1.1.1.1.1.2.2.2.2.2,hk_.1.1.1.1.1.1.2,hk_.1.1.1.1.1.2,hk_.1.1.1.1.2,hk_.1.1.1.2,hk_.1.1.2,hk_.1.1.1.1.1.1.1.2.2.1,hk_.1.1.1.1.1.1.1.2.2.2.1,hk_.1.1.1.1.1.1.1.2.2.2.2.1,fun e_=>Or.elim (ho65z.1 k_ e_.symm) (fun hs_=>hk_.2.1 hs_) (fun hn_=>Nat.not_le.2 hk_.2.2 hn_)⟩));replace qd:=am (Kd.Zo (ok':=fun k_=>(w.heap.size<=k_)/\some k_ ≠ (.slice q2 qy.length q6:Value).ownBlock/\some k_ ≠ (.slice q3 jf.length q7:Value).ownBlock/\some k_ ≠ (.slice jb q1.length jc:Value).ownBlock/\some k_ ≠ (.slice qw q0.length qm:Value).ownBlock/\some k_ ≠ (.slice qo je.length qp:Value).ownBlock/\some k_ ≠ (.slice qr qv.length qt:Value).ownBlock/\some k_ ≠ (q8:Value).ownBlock) (Kd.Zcc (qd.o) hkp (fun k_ hk_ hs_=>(hk_.2) hs_)) (fun k_ hk_=>⟨hk_.1.1.1.1.1.1.1.1,hk_.1.1.1.1.1.1.1.2,hk_.1.1.1.1.1.1.2,hk_.1.1.1.1.1.2,hk_.1.1.1.1.2,hk_.1.1.1.2,hk_.1.1.2,fun e_=>Or.elim (ho65z.1 k_ e_.symm) (fun hs_=>hk_.2.1 hs_) (fun hn_=>Nat.not_le.2 hk_.2.2 hn_)⟩));replace qe:=am (Kd.Zo (ok':=fun k_=>(w.heap.size<=k_)/\some k_ ≠ (.slice qs qq.length qu:Value).ownBlock/\some k_ ≠ (.slice q3 jf.length q7:Value).ownBlock/\some k_ ≠ (.slice jb q1.length jc:Value).ownBlock/\some k_ ≠ (.slice qw q0.length qm:Value).ownBlock/\some k_ ≠ (.slice qo je.length qp:Value).ownBlock/\some k_ ≠ (.slice qr qv.length qt:Value).ownBlock/\some k_ ≠ (q8:Value).ownBlock) (Kd.Zcc (qe.o) hkp (fun k_ hk_ hs_=>(hk_.2) hs_)) (fun k_ hk_=>⟨hk_.1.1.1.1.1.1.1.1,hk_.1.1.1.1.1.1.1.2,hk_.1.1.1.1.1.1.2,hk_.1.1.1.1.1.2,hk_.1.1.1.1.2,hk_.1.1.1.2,hk_.1.1.2,fun e_=>Or.elim (ho65z.1 k_ e_.symm) (fun hs_=>hk_.2.1 hs_) (fun hn_=>Nat.not_le.2 hk_.2.2 hn_)⟩));replace qg:=am (Kd.Zo (ok':=fun k_=>(w.heap.size<=k_)/\some k_ ≠ (.slice qs qq.length qu:Value).ownBlock/\some k_ ≠ (.slice q2 qy.length q6:Value).ownBlock/\some k_ ≠ (.slice jb q1.length jc:Value).ownBlock/\some k_ ≠ (.slice qw q0.length qm:Value).ownBlock/\some k_ ≠ (.slice qo je.length qp:Value).ownBlock/\some k_ ≠ (.slice qr qv.length qt:Value).ownBlock/\some k_ ≠ (q8:Value).ownBlock) (Kd.Zcc (qg.o) hkp (fun k_ hk_ hs_=>(hk_.2) hs_)) (fun k_ hk_=>⟨hk_.1.1.1.1.1.1.1.1,hk_.1.1.1.1.1.1.2,hk_.1.1.1.1.1.2,hk_.1.1.1.1.1.1.1.2,hk_.1.1.1.1.2,hk_.1.1.1.2,hk_.1.1.2,fun e_=>Or.elim (ho65z.1 k_ e_.symm) (fun hs_=>hk_.2.1 hs_) (fun hn_=>Nat.not_le.2 hk_.2.2 hn_)⟩));replace qh:=am (Kd.Zo (ok':=fun k_=>(w.heap.size<=k_)/\some k_ ≠ (.slice qs qq.length qu:Value).ownBlock/\some k_ ≠ (.slice q2 qy.length q6:Value).ownBlock/\some k_ ≠ (.slice q3 jf.length q7:Value).ownBlock/\some k_ ≠ (.slice qw q0.length qm:Value).ownBlock/\some k_ ≠ (.slice qo je.length qp:Value).ownBlock/\some k_ ≠ (.slice qr qv.length qt:Value).ownBlock/\some k_ ≠ (q8:Value).ownBlock) (Kd.Zcc (qh.o) hkp (fun k_ hk_ hs_=>(hk_.2) hs_)) (fun k_ hk_=>⟨hk_.1.1.1.1.1.1.1.1,hk_.1.1.1.1.1.1.2,hk_.1.1.1.1.1.2,hk_.1.1.1.1.1.1.1.2,hk_.1.1.1.1.2,hk_.1.1.1.2,hk_.1.1.2,fun e_=>Or.elim (ho65z.1 k_ e_.symm) (fun hs_=>hk_.2.1 hs_) (fun hn_=>Nat.not_le.2 hk_.2.2 hn_)⟩));replace qf:=am (Kd.Zo (ok':=fun k_=>(w.heap.size<=k_)/\some k_ ≠ (.slice qs qq.length qu:Value).ownBlock/\some k_ ≠ (.slice q2 qy.length q6:Value).ownBlock/\some k_ ≠ (.slice q3 jf.length q7:Value).ownBlock/\some k_ ≠ (.slice jb q1.length jc:Value).ownBlock/\some k_ ≠ (.slice qo je.length qp:Value).ownBlock/\some k_ ≠ (.slice qr qv.length qt:Value).ownBlock/\some k_ ≠ (q8:Value).ownBlock) (Kd.Zcc (qf.o) hkp (fun k_ hk_ hs_=>(hk_.2) hs_)) (fun k_ hk_=>⟨hk_.1.1.1.1.1.1.1.1,hk_.1.1.1.1.1.1.2,hk_.1.1.1.1.1.2,hk_.1.1.1.1.2,hk_.1.1.1.2,hk_.1.1.1.1.1.1.1.2,hk_.1.1.2,fun e_=>Or.elim (ho65z.1 k_ e_.symm) (fun hs_=>hk_.2.1 hs_) (fun hn_=>Nat.not_le.2 hk_.2.2 hn_)⟩));replace qi:=am (Kd.Zo (ok':=fun k_=>(w.heap.size<=k_)/\some k_ ≠ (.slice qs qq.length qu:Value).ownBlock/\some k_ ≠ (.slice q2 qy.length q6:Value).ownBlock/\some k_ ≠ (.slice q3 jf.length q7:Value).ownBlock/\some k_ ≠ (.slice jb q1.length jc:Value).ownBlock/\some k_ ≠ (.slice qw q0.length qm:Value).ownBlock/\some k_ ≠ (.slice qr qv.length qt:Value).ownBlock/\some k_ ≠ (q8:Value).ownBlock) (Kd.Zcc (qi.o) hkp (fun k_ hk_ hs_=>(hk_.2) hs_)) (fun k_ hk_=>⟨hk_.1.1.1.1.1.1.1.1,hk_.1.1.1.1.1.1.2,hk_.1.1.1.1.1.2,hk_.1.1.1.1.2,hk_.1.1.1.2,hk_.1.1.1.1.1.1.1.2,hk_.1.1.2,fun e_=>Or.elim (ho65z.1 k_ e_.symm) (fun hs_=>hk_.2.1 hs_) (fun hn_=>Nat.not_le.2 hk_.2.2 hn_)⟩));replace qn:=am (Kd.Zo (ok':=fun k_=>(w.heap.size<=k_)/\some k_ ≠ (.slice qs qq.length qu:Value).ownBlock/\some k_ ≠ (.slice q2 qy.length q6:Value).ownBlock/\some k_ ≠ (.slice q3 jf.length q7:Value).ownBlock/\some k_ ≠ (.slice jb q1.length jc:Value).ownBlock/\some k_ ≠ (.slice qw q0.length qm:Value).ownBlock/\some k_ ≠ (.slice qo je.length qp:Value).ownBlock/\some k_ ≠ (q8:Value).ownBlock) (Kd.Zcc (qn.o) hkp (fun k_ hk_ hs_=>(hk_.2) hs_)) (fun k_ hk_=>⟨hk_.1.1.1.1.1.1.1.1.1,hk_.1.1.1.1.1.1.1.2,hk_.1.1.1.1.1.1.2,hk_.1.1.1.1.1.2,hk_.1.1.1.1.2,hk_.1.1.1.2,hk_.1.1.2,fun e_=>Or.elim (ho65z.1 k_ e_.symm) (fun hs_=>hk_.2.1 hs_) (fun hn_=>Nat.not_le.2 hk_.2.2 hn_)⟩));replace HB:=am hb;clear jd;obtain ⟨j6,j7,j8,j9,qaa,qab⟩:=cEc BK2z.o;obtain ⟨_,_,_,_,_,_⟩:=cEc BK7z.o;obtain ⟨qag,qah,qan⟩:=Kd.Zh qz.o;subst qan)|((with_reducible refine Zfc (f:=60) rfl ?_);refine goesL_ (some 86) rfl rfl Tryz.func60 (by kernel_rfl) rfl #[.bool (a0_0 != a1_0),.slice qag jh.length qah,.int .i64 (wrap64 ((wrap64 ((wrap64 (a0_2 - a1_2)) - (ji22)))+jn))] rfl (by (try simp only [List.map_toArray,List.map_cons,List.map_nil]);first|done|(simp only [hji22];rfl)|rfl|(simp only [List.length_drop,List.length_take];rfl)) ?_;(with_reducible refine (Zan.calls k (a0_0 != a1_0) _ _ jh (wrap64 ((wrap64 ((wrap64 (a0_2 - a1_2)) - (ji22)))+jn)) qar qas qat qbg _ ?side1 ?side2 A33.o).mono ?_);(case side1=>exact Kd.Zi (Kd.Zc qz.o).2.2 pl);(case side2=>exact (Kd.Zc qz.o).2.1);rintro e qbo ⟨qbl,rfl,ho65z,hb⟩;refine ⟨_,rfl,?_⟩;have jt:=am (Kd.Zn (Kd.Zf (Kd.Zf (Kd.Zf (Kd.Zf (Kd.Zf (Kd.Zf (Kd.Zf (Kd.Zf (Kd.Zd4 (M:=fun k_=>(w.heap.size<=k_)) ho65z (Zb pB) (fun k_ h_=>h_)) (Kd.R_lt (Kd.Za qd.o pl))) (Kd.R_lt (Kd.Za qe.o pl))) (Kd.R_lt (Kd.Za qg.o pl))) (Kd.R_lt (Kd.Za qh.o pl))) (Kd.R_lt (Kd.Za qf.o pl))) (Kd.R_lt (Kd.Za qi.o pl))) (Kd.R_lt (Kd.Za qn.o pl))) (Kd.R_lt (Kd.Za qz.o pl))) (Zb pB));replace HO0_1:=am (Kd.Zcx (Kd.Zbn HO0_1.o pl) (Kd.Zt ho65z) hb);replace HO1_1:=am (Kd.Zcx (Kd.Zbn HO1_1.o pl) (Kd.Zt ho65z) hb);replace qb:=am (Kd.Zfy (Kd.Zdp qb.o pl) (Kd.Zt ho65z) hb);replace qd:=reR qd ho65z hb;replace qe:=reR qe ho65z hb;replace qg:=reR qg ho65z hb;replace qh:=reR qh ho65z hb;replace qf:=reR qf ho65z hb;replace qi:=reR qi ho65z hb;replace qn:=reR qn ho65z hb;replace qz:=reR qz ho65z hb;replace BK2z:=bb BK2z hb;replace BK7z:=bb BK7z hb;replace qa:=bb qa hb;replace HB:=bS hb;obtain ⟨_,_,_,_,_,_⟩:=cEc qa.o;obtain ⟨jr,jv,qao⟩:=Kd.Zh jt.o;subst qao)|(refine gL (some 64) Tryz.func74 #[.slice qw q0.length qm,.slice qo je.length qp,.int .i64 jn,.bool (decide (0 < q1.length))] (h:=?_);(with_reducible refine (Zbf.calls k _ _ q0 _ _ je jn (decide (0 < q1.length)) false _ ?side1 ?side2 ?side3 ?side4 A28.o).mono ?_);(case side1=>exact Kd.Zi (Kd.Zc qf.o).2.2 pl);(case side2=>exact (Kd.Zc qf.o).2.1);(case side3=>exact Kd.Zi (Kd.Zc qi.o).2.2 pl);(case side4=>exact (Kd.Zc qi.o).2.1);rintro e qa7 ⟨rfl,hb⟩;refine ⟨_,rfl,?_⟩;replace HO0_1:=vbl HO0_1 hb;replace HO1_1:=vbl HO1_1 hb;replace qb:=nbl qb hb;replace qd:=rbl qd hb;replace qe:=rbl qe hb;replace qg:=rbl qg hb;replace qh:=rbl qh hb;replace qf:=rbl qf hb;replace qi:=rbl qi hb;replace BK2z:=bb BK2z hb;replace BK7z:=bb BK7z hb;replace qa:=bb qa hb;replace HB:=bS hb;obtain ⟨_,_,_,_,_,_⟩:=cEc BK2z.o;obtain ⟨_,_,_,_,_,_⟩:=cEc BK7z.o)|((with_reducible refine Zfc (f:=60) rfl ?_);refine goesL_ (some 86) rfl rfl Tryz.func60 (by kernel_rfl) rfl #[.bool (a0_0 != a1_0),.slice qw q0.length qm,.int .i64 (wrap64 ((wrap64 ((wrap64 (a0_2 - a1_2)) - (ji22)))+jn))] rfl (by (try simp only [List.map_toArray,List.map_cons,List.map_nil]);first|done|(simp only [hji22];rfl)|rfl|(simp only [List.length_drop,List.length_take];rfl)) ?_;(with_reducible refine (Zan.calls k (a0_0 != a1_0) _ _ q0 (wrap64 ((wrap64 ((wrap64 (a0_2 - a1_2)) - (ji22)))+jn)) qau qav qaw qbh _ ?side1 ?side2 A75.o).mono ?_);(case side1=>exact Kd.Zi (Kd.Zc qf.o).2.2 pl);(case side2=>exact (Kd.Zc qf.o).2.1);rintro e qa8 ⟨q8,rfl,ho65z,hb⟩;refine ⟨_,rfl,?_⟩;have qz:=am (Kd.Zn (Kd.Zf (Kd.Zf (Kd.Zf (Kd.Zf (Kd.Zf (Kd.Zf (Kd.Zd4 (M:=fun k_=>(w.heap.size<=k_)) ho65z (Zb pB) (fun k_ h_=>h_)) (Kd.R_lt (Kd.Za qd.o pl))) (Kd.R_lt (Kd.Za qe.o pl))) (Kd.R_lt (Kd.Za qg.o pl))) (Kd.R_lt (Kd.Za qh.o pl))) (Kd.R_lt (Kd.Za qf.o pl))) (Kd.R_lt (Kd.Za qi.o pl))) (Zb pB));replace HO0_1:=am (Kd.Zcx (Kd.Zbn HO0_1.o pl) (Kd.Zt ho65z) hb);replace HO1_1:=am (Kd.Zcx (Kd.Zbn HO1_1.o pl) (Kd.Zt ho65z) hb);replace qb:=am (Kd.Zfy (Kd.Zdp qb.o pl) (Kd.Zt ho65z) hb);replace qd:=reR qd ho65z hb;replace qe:=reR qe ho65z hb;replace qg:=reR qg ho65z hb;replace qh:=reR qh ho65z hb;replace qf:=reR qf ho65z hb;replace qi:=reR qi ho65z hb;replace BK2z:=bb BK2z hb;replace BK7z:=bb BK7z hb;replace qa:=bb qa hb;replace HB:=bS hb;obtain ⟨j6,j7,j8,j9,qaa,qab⟩:=cEc qa.o;obtain ⟨jq,ju,qam⟩:=Kd.Zh qz.o;subst qam))
    first
     | have q_:=A33
       refine bodyPost_ret (Zae rfl _ _ qj 24 #[.bool qar,.slice jr qas.length jv,.int .i64 qat] (0,0) _ rfl (by exact p3 qa) Tryz.underlying24 rfl (by kernel_rfl)) rfl ?_
       exact ⟨_,by first|rfl|(simp [Zap,Zaq] <;> rfl)|(simp only [<- hji22];first|rfl|(simp [Zap,Zaq] <;> rfl))|(simp [*,Zap,Zaq] <;> rfl),by refine rp ?_;exact Kd.Zo (Kd.Zau (p:=⟨qj,2,none⟩) (Kd.Zau (p:=⟨qj,1,none⟩) (Kd.Zau (p:=⟨qj,0,none⟩) (Kd.Zba jt.o qa.o (by decide)) (fun _ hk=>hk.2) (.bool qar)) (fun _ hk=>hk.2) (.slice jr qas.length jv)) (fun _ hk=>hk.2) (.int .i64 qat)) (fun _ hk=>hk.1.1.1.1.1.1.1.1.1.1),pB⟩
     | refine bodyPost_ret (Zae rfl _ _ qj 24 #[.bool qau,.slice jq qav.length ju,.int .i64 qaw] (0,0) _ rfl (by exact p3 qa) Tryz.underlying24 rfl (by kernel_rfl)) rfl ?_
       exact ⟨_,by first|rfl|(simp [Zap,Zaq] <;> rfl)|(simp only [<- hji22];first|rfl|(simp [Zap,Zaq] <;> rfl))|(simp [*,Zap,Zaq] <;> rfl),by refine rp ?_;exact Kd.Zo (Kd.Zau (p:=⟨qj,2,none⟩) (Kd.Zau (p:=⟨qj,1,none⟩) (Kd.Zau (p:=⟨qj,0,none⟩) (Kd.Zba qz.o qa.o (by decide)) (fun _ hk=>hk.2) (.bool qau)) (fun _ hk=>hk.2) (.slice jq qav.length ju)) (fun _ hk=>hk.2) (.int .i64 qaw)) (fun _ hk=>hk.1.1.1.1.1.1.1.1),pB⟩
  | refine bodyPost_ret (Zae rfl _ _ qj 24 #[.bool false,.slice none 0 0,.int .i64 0] (0,0) _ rfl (by exact p3 qa) Tryz.underlying24 rfl (by kernel_rfl)) rfl ?_
    exact ⟨_,pE,pN,pB⟩):P:=h
theorem Za9.calls (k:Nat) (a0_0:Bool) (P0_1_:Nat->Prop) (A0_1:Option Addr) (c0_1:Nat) (l0_1:List Int) (a0_2:Int) (a1_0:Bool) (P1_1_:Nat->Prop) (A1_1:Option Addr) (c1_1:Nat) (l1_1:List Int) (a1_2:Int) (r1:Bool) (r2:List Int) (r3:Int) (r4:Int) (w:World) (hs0_1:Kd.V (Kd.int .u32) 85 w w.heap.size (fun k_=>P0_1_ k_) (.slice A0_1 l0_1.length c0_1) l0_1) (hs1_1:Kd.V (Kd.int .u32) 85 w w.heap.size (fun k_=>P1_1_ k_) (.slice A1_1 l1_1.length c1_1) l1_1) (h:Za9.f k a0_0 l0_1 a0_2 a1_0 l1_1 a1_2=some (r1,r2,r3,r4)) :
  Calls Tryz.prog 19 #[.agg #[.bool a0_0,.slice A0_1 l0_1.length c0_1,.int .i64 a0_2],.agg #[.bool a1_0,.slice A1_1 l1_1.length c1_1,.int .i64 a1_2]] w fun e w' => ∃ v1_:Value,e=.returned (.tuple #[.agg #[.bool r1,v1_,.int .i64 r3],.int .i64 r4])/\Kd.R (Kd.int .u32) 85 w' w.heap.size (fun k_=>(w.heap.size<=k_)) v1_ r2/\Below w.heap.size w w':=by
 have hu24:=Tryz.underlying24
 have HO0_1:=am (show Kd.V (Kd.int .u32) 85 w w.heap.size (fun k_=>((P0_1_ k_\/P1_1_ k_)\/w.heap.size<=k_)) (.slice A0_1 l0_1.length c0_1) l0_1 from Kd.Zb5 hs0_1 (fun k_ hk=>.inl (.inl hk)))
 have HO1_1:=am (show Kd.V (Kd.int .u32) 85 w w.heap.size (fun k_=>((P0_1_ k_\/P1_1_ k_)\/w.heap.size<=k_)) (.slice A1_1 l1_1.length c1_1) l1_1 from Kd.Zb5 hs1_1 (fun k_ hk=>.inl (.inr hk)))
 have HB:=am (Below.refl w.heap.size w)
 have H:((Zdi.f k (([(⟨a0_0,l0_1,a0_2⟩:S24),(⟨a1_0,l1_1,a1_2⟩:S24)]:List (S24)))).bind fun jg=>(if jg=0 then (if (l1_1.length:Int)=0 then (some (false,([]:List Int),0,53)) else ((Zbo.f k l1_1).bind fun q9=>((Zbo.f k l0_1).bind fun ja=>((Zbq.f k (mx (wrap64 ((wrap64 ((wrap64 (q9 - ja))+40))+2)) 0)).bind fun qq=>((Zdb.f k l0_1 qq).bind fun q4=>((Zs.f q4.1 q4.2).bind fun qy=>((Zcz.f k qy l1_1).bind fun q5=>((Zce.f k q5.1 40).bind fun qc=>((Zbf.f k qc.1 qc.2.1 qc.2.2 (decide ((q5.2.1.length:Int) > 0))).bind fun jl=>(if jl=true then ((Zcr.f k 1).bind fun qv=>((Zey.f k qc.1 qv).bind fun qx=>((Zs.f qx.1 qx.2).bind fun jh=>((Zan.f k (a0_0 != a1_0) jh (wrap64 ((wrap64 ((wrap64 (a0_2 - a1_2)) - (mx (wrap64 ((wrap64 ((wrap64 (q9 - ja))+40))+2)) 0)))+qc.2.2))).bind fun qk=>(some (qk.1,qk.2.1,qk.2.2.1,qk.2.2.2)))))) else ((Zan.f k (a0_0 != a1_0) qc.1 (wrap64 ((wrap64 ((wrap64 (a0_2 - a1_2)) - (mx (wrap64 ((wrap64 ((wrap64 (q9 - ja))+40))+2)) 0)))+qc.2.2))).bind fun ql=>(some (ql.1,ql.2.1,ql.2.2.1,ql.2.2.2))))))))))))) else (some (false,([]:List Int),0,jg))))=some (r1,r2,r3,r4):=h
 clear h
 obtain ⟨jm,j3⟩:∃ y_:List (S24),y_=(([(⟨a0_0,l0_1,a0_2⟩:S24),(⟨a1_0,l1_1,a1_2⟩:S24)]:List (S24))):=⟨_,rfl⟩
 replace H:((Zdi.f k jm).bind fun jg=>(if jg=0 then (if (l1_1.length:Int)=0 then (some (false,([]:List Int),0,53)) else ((Zbo.f k l1_1).bind fun q9=>((Zbo.f k l0_1).bind fun ja=>((Zbq.f k (mx (wrap64 ((wrap64 ((wrap64 (q9 - ja))+40))+2)) 0)).bind fun qq=>((Zdb.f k l0_1 qq).bind fun q4=>((Zs.f q4.1 q4.2).bind fun qy=>((Zcz.f k qy l1_1).bind fun q5=>((Zce.f k q5.1 40).bind fun qc=>((Zbf.f k qc.1 qc.2.1 qc.2.2 (decide ((q5.2.1.length:Int) > 0))).bind fun jl=>(if jl=true then ((Zcr.f k 1).bind fun qv=>((Zey.f k qc.1 qv).bind fun qx=>((Zs.f qx.1 qx.2).bind fun jh=>((Zan.f k (a0_0 != a1_0) jh (wrap64 ((wrap64 ((wrap64 (a0_2 - a1_2)) - (mx (wrap64 ((wrap64 ((wrap64 (q9 - ja))+40))+2)) 0)))+qc.2.2))).bind fun qk=>(some (qk.1,qk.2.1,qk.2.2.1,qk.2.2.2)))))) else ((Zan.f k (a0_0 != a1_0) qc.1 (wrap64 ((wrap64 ((wrap64 (a0_2 - a1_2)) - (mx (wrap64 ((wrap64 ((wrap64 (q9 - ja))+40))+2)) 0)))+qc.2.2))).bind fun ql=>(some (ql.1,ql.2.1,ql.2.2.1,ql.2.2.2))))))))))))) else (some (false,([]:List Int),0,jg))))=some (r1,r2,r3,r4):=by have hy_:=j3;exact pH
 have qac:=am j3
 clear j3
 replace H:=ob H
 obtain ⟨jg,A3,H⟩:=H
 replace H:=eI H
 rcases H with ⟨c4b0,c4b1,H⟩|⟨c4,c4b0,c4b1,H⟩
 ·replace H:=eI H
  rcases H with ⟨c5b0,c5b1,H⟩|⟨c5,c5b0,c5b1,H⟩
  ·simp only [Option.some.injEq,Prod.mk.injEq] at H
   obtain ⟨rfl,rfl,rfl,rfl⟩:=H
   exact Za9.leaf
  ·have c5b2:¬ (l1_1=[]):=fun h_=>c5 (by rw [h_];rfl)
   replace H:=ob H
   obtain ⟨q9,A20,H⟩:=H
   replace H:=ob H
   obtain ⟨ja,A21,H⟩:=H
   obtain ⟨ji22,hji22⟩:∃ j_:Int,(mx (wrap64 ((wrap64 ((wrap64 (q9 - ja))+40))+2)) 0)=j_:=⟨_,rfl⟩
   replace H:((Zbq.f k (ji22)).bind fun qq=>((Zdb.f k l0_1 qq).bind fun q4=>((Zs.f q4.1 q4.2).bind fun qy=>((Zcz.f k qy l1_1).bind fun q5=>((Zce.f k q5.1 40).bind fun qc=>((Zbf.f k qc.1 qc.2.1 qc.2.2 (decide ((q5.2.1.length:Int) > 0))).bind fun jl=>(if jl=true then ((Zcr.f k 1).bind fun qv=>((Zey.f k qc.1 qv).bind fun qx=>((Zs.f qx.1 qx.2).bind fun jh=>((Zan.f k (a0_0 != a1_0) jh (wrap64 ((wrap64 ((wrap64 (a0_2 - a1_2)) - (ji22)))+qc.2.2))).bind fun qk=>(some (qk.1,qk.2.1,qk.2.2.1,qk.2.2.2)))))) else ((Zan.f k (a0_0 != a1_0) qc.1 (wrap64 ((wrap64 ((wrap64 (a0_2 - a1_2)) - (ji22)))+qc.2.2))).bind fun ql=>(some (ql.1,ql.2.1,ql.2.2.1,ql.2.2.2))))))))))=some (r1,r2,r3,r4):=by first|(rw [hji22] at H;exact H)|(simp only [hji22] at H ⊢;exact H)
   (try rw [hji22] at A3)
   (try rw [hji22] at A20)
   (try rw [hji22] at A21)
   (try (have hji22l:0<=ji22:=by (rw [<- hji22];unfold mx;(repeat' split) <;> omega)))
   (try (have hji22m:0<=ji22:=by omega))
   have hji22_:(if (wrap64 ((wrap64 ((wrap64 (q9 - ja))+40))+2)) < 0 then 0 else (wrap64 ((wrap64 ((wrap64 (q9 - ja))+40))+2)))=ji22:=hji22
   replace H:=ob H
   obtain ⟨qq,A23,H⟩:=H
   replace H:=ob H
   obtain ⟨⟨j4,qap⟩,A24,H⟩:=H;(try dsimp only at H)
   replace H:=ob H
   obtain ⟨qy,A25,H⟩:=H
   replace H:=Option.bind_eq_some_iff.mp H
   obtain ⟨⟨jf,q1,qbf⟩,qax,H⟩:=H
   replace H:((Zce.f k jf 40).bind fun qc=>((Zbf.f k qc.1 qc.2.1 qc.2.2 (decide (0 < q1.length))).bind fun jl=>(if jl=true then ((Zcr.f k 1).bind fun qv=>((Zey.f k qc.1 qv).bind fun qx=>((Zs.f qx.1 qx.2).bind fun jh=>((Zan.f k (a0_0 != a1_0) jh (wrap64 ((wrap64 ((wrap64 (a0_2 - a1_2)) - (ji22)))+qc.2.2))).bind fun qk=>(some (qk.1,qk.2.1,qk.2.2.1,qk.2.2.2)))))) else ((Zan.f k (a0_0 != a1_0) qc.1 (wrap64 ((wrap64 ((wrap64 (a0_2 - a1_2)) - (ji22)))+qc.2.2))).bind fun ql=>(some (ql.1,ql.2.1,ql.2.2.1,ql.2.2.2))))))=some (r1,r2,r3,r4):=by rw [show decide (0 < q1.length)=decide ((q1.length:Int) > 0) by simp];exact H
   have A26:=am qax
   clear qax
   replace H:=ob H
   obtain ⟨⟨q0,je,jn⟩,A27,H⟩:=H;(try dsimp only at H)
   replace H:=ob H
   obtain ⟨jl,A28,H⟩:=H
   replace H:=tI (t:=jl) H
   rcases H with ⟨rfl,H⟩|⟨rfl,H⟩
   ·replace H:=ob H
    obtain ⟨qv,A30,H⟩:=H
    replace H:=ob H
    obtain ⟨⟨j5,qaq⟩,A31,H⟩:=H;(try dsimp only at H)
    replace H:=ob H
    obtain ⟨jh,A32,H⟩:=H
    replace H:=ob H
    obtain ⟨⟨qar,qas,qat,qbg⟩,A33,H⟩:=H;(try dsimp only at H)
    simp only [Option.some.injEq,Prod.mk.injEq] at H
    obtain ⟨rfl,rfl,rfl,rfl⟩:=H
    exact Za9.leaf
   ·replace H:=ob H
    obtain ⟨⟨qau,qav,qaw,qbh⟩,A75,H⟩:=H;(try dsimp only at H)
    simp only [Option.some.injEq,Prod.mk.injEq] at H
    obtain ⟨rfl,rfl,rfl,rfl⟩:=H
    exact Za9.leaf
 ·simp only [Option.some.injEq,Prod.mk.injEq] at H
  obtain ⟨rfl,rfl,rfl,rfl⟩:=H
  exact Za9.leaf
def Zbi.f (k:Nat) (a0_0:Bool) (l0_1:List Int) (a0_2:Int):Option (Bool × List Int × Int × Int):=(Za6.f k a0_0 l0_1 a0_2).bind fun ql=>(if ql=0 then (if a0_0=true then (some (false,([]:List Int),0,4)) else ((Zbo.f k l0_1).bind fun qe=>((Zbq.f k (wrap64 ((mx (wrap64 (80 - qe)) 0)+(Go.bits .and .i64 (wrap64 (a0_2 - (mx (wrap64 (80 - qe)) 0))) 1)))).bind fun qi=>((Zdb.f k l0_1 qi).bind fun qf=>((Zs.f qf.1 qf.2).bind fun qj=>((Zff.f k qj).bind fun qg=>((Zs.f qg.1 qg.2).bind fun qm=>((Zce.f k qm 40).bind fun qh=>((Zan.f k false qh.1 (wrap64 ((wrap64 (Int.tdiv (wrap64 (a0_2 - (wrap64 ((mx (wrap64 (80 - qe)) 0)+(Go.bits .and .i64 (wrap64 (a0_2 - (mx (wrap64 (80 - qe)) 0))) 1))))) 2))+qh.2.2))).bind fun qc=>(some (qc.1,qc.2.1,qc.2.2.1,qc.2.2.2))))))))))) else (some (false,([]:List Int),0,ql)))
def Zbi.T8:Bool × List (List Nat × List Nat):=(true,[([],[]),([0],[0]),([],[]),([2],[2]),([1,3,3],[1,3]),([4],[4]),([4],[4]),([5,6,4],[5,6]),([7,7],[7]),([8],[8]),([8],[8]),([9,10,8],[9,10]),([11,11,0,1,2,3,4,5,6,7,8,9,10,11],[11])])
def Zbi.B8:List Nat:=[0,1,0,4,15,31,31,127,255,511,511,2047,4095]
theorem Zbi.tab8:rtab .any (opsOf Tryz.f26 8)=Zbi.T8:=by kernel_rfl
theorem Zbi.bits8:waitsOk Zbi.T8.2 Zbi.B8=true:=by kernel_rfl
theorem Zbi.leaf {P:Prop} (h:P:=by
 go_enter Tryz.func26,Tryz.ntmps26
 try go_wp2_with (first|((with_reducible refine gd 1 ?_);refine bx 1 #[.bool false,.slice A0_1 l0_1.length c0_1,.int .i64 a0_2] 24 (h:=?_);intro gb0z hg w1z hbox hb;have BK2z:=am hbox;have GW3z:=gW hg;have GE4z:=gW hg;replace HB:=bS hb;clear hb hbox hg)|((with_reducible refine gd 2 ?_);refine bx 2 #[.bool false,.slice none 0 0,.int .i64 0] 24 (h:=?_);intro gb5z hg w6z hbox hb;have BK7z:=am hbox;have GW8z:=gW hg;have jq:=nL hg BK2z;have jr:=nG hg BK2z;replace BK2z:=bb BK2z hb;replace HB:=bS hb;clear hb hbox hg;have jx:=jq.o;have jy:=jr.o;obtain ⟨_,_,_,_,_,_⟩:=cEc BK2z.o)|(refine gL (some 11) Tryz.func55 #[.agg #[.bool false,.slice A0_1 l0_1.length c0_1,.int .i64 a0_2]] (h:=?_);(with_reducible refine (Za6.calls k false _ _ l0_1 a0_2 ql _ ?side1 ?side2 A2.o).mono ?_);(case side1=>exact cB HR0_1 HB);(case side2=>exact HC0_1.o);rintro e w20z ⟨rfl,hb⟩;refine ⟨_,rfl,?_⟩;replace BK2z:=bb BK2z hb;replace BK7z:=bb BK7z hb;replace HB:=bS hb;obtain ⟨qy,qz,q0,q1,q2,q3⟩:=cEc BK2z.o)|(refine gL (some 21) Tryz.func68 #[.slice A0_1 l0_1.length c0_1] (h:=?_);(with_reducible refine (Zbo.calls k _ _ l0_1 qe _ ?side1 ?side2 A12.o).mono ?_);(case side1=>exact cB HR0_1 HB);(case side2=>exact HC0_1.o);rintro e w27z ⟨rfl,hb⟩;refine ⟨_,rfl,?_⟩;replace BK2z:=bb BK2z hb;replace BK7z:=bb BK7z hb;replace HB:=bS hb;obtain ⟨jd,je,_,jf,jg,_⟩:=cEc BK2z.o)|((with_reducible refine gd 1 ?_);refine bx 1 #[.bool true,.slice A0_1 l0_1.length c0_1,.int .i64 a0_2] 24 (h:=?_);intro gb0z hg w1z hbox hb;have BK2z:=am hbox;have GW3z:=gW hg;have GE4z:=gW hg;replace HB:=bS hb;clear hb hbox hg)|(refine gL (some 11) Tryz.func55 #[.agg #[.bool true,.slice A0_1 l0_1.length c0_1,.int .i64 a0_2]] (h:=?_);(with_reducible refine (Za6.calls k true _ _ l0_1 a0_2 ql _ ?side1 ?side2 A2.o).mono ?_);(case side1=>exact cB HR0_1 HB);(case side2=>exact HC0_1.o);rintro e w20z ⟨rfl,hb⟩;refine ⟨_,rfl,?_⟩;replace BK2z:=bb BK2z hb;replace BK7z:=bb BK7z hb;replace HB:=bS hb;obtain ⟨qy,qz,q0,q1,q2,q3⟩:=cEc BK2z.o;obtain ⟨_,jd,je,_,jf,jg⟩:=cEc BK7z.o)|((with_reducible refine gd 1 ?_);refine bx 1 #[.bool a0_0,.slice A0_1 l0_1.length c0_1,.int .i64 a0_2] 24 (h:=?_);intro gb0z hg w1z hbox hb;have BK2z:=am hbox;have GW3z:=gW hg;have GE4z:=gW hg;replace HB:=bS hb;clear hb hbox hg)|(refine gL (some 11) Tryz.func55 #[.agg #[.bool a0_0,.slice A0_1 l0_1.length c0_1,.int .i64 a0_2]] (h:=?_);(with_reducible refine (Za6.calls k a0_0 _ _ l0_1 a0_2 ql _ ?side1 ?side2 A2.o).mono ?_);(case side1=>exact cB HR0_1 HB);(case side2=>exact HC0_1.o);rintro e w20z ⟨rfl,hb⟩;refine ⟨_,rfl,?_⟩;replace BK2z:=bb BK2z hb;replace BK7z:=bb BK7z hb;replace HB:=bS hb;obtain ⟨qy,qz,q0,q1,q2,q3⟩:=cEc BK7z.o))
 first
  | have q_:=A20
    replace BK2z:=am (Zc7 BK2z.o)
    replace BK7z:=am (Zc7 BK7z.o)
    replace HB:=am (Zbh HB.o)
    refine start_ (n:=13) (S:=fun w'=>w'.cell? ⟨gb0z,0,none⟩=some (.bool false)/\w'.cell? ⟨gb0z,1,none⟩=some (.slice A0_1 l0_1.length c0_1)/\w'.cell? ⟨gb0z,2,none⟩=some (.int .i64 a0_2)) (ds:=[]) #[false,false,false,false,false,false,false,false,false,false,false,false,false] (by kernel_rfl) rfl rfl ⟨k0 BK2z 0,k0 BK2z 1,k0 BK2z 2⟩ (fun hHeld=>?_);refine Zdo Zbi.tab8 Zbi.bits8 (fun HT_ HW_=>?_)
    generalize w27z.drew=w34z at BK2z BK7z HB hHeld ⊢
    refine pu 0 (some 31) #[true,false,false,false,false,false,false,false,false,false,false,false,false] (h:=?_)
    refine pu 2 (some 33) #[true,false,true,false,false,false,false,false,false,false,false,false,false] (h:=?_)
    refine take_ (i:=1) (N:=some 32) (v:=?_) (a':=?_) #[true,true,true,false,false,false,false,false,false,false,false,false,false] rfl rfl (Zcs HT_.out HW_.out (by kernel_rfl)) (fun _ _ _ h=>h) (Or.inl ⟨by rfl,?_⟩) hHeld ?_ ?_
    rotate_left
    ·rintro w' ⟨s35z,s36z,s37z⟩
     go_simp
     with_reducible rfl
    rotate_left
    ·exact pP
    refine one_ (i:=3) (N:=some 34) #[true,true,true,true,false,false,false,false,false,false,false,false,false] rfl rfl (Zc6 HT_.out (by kernel_rfl)) (by decide) (fun K hK=>?_)
    refine goes_ Tryz.func72 (by kernel_rfl) rfl #[.int .i64 (wrap64 ((ji13)+(Go.bits .and .i64 (wrap64 (a0_2 - (ji13))) 1)))] (by rfl) rfl rfl (by (try simp only [List.map_toArray,List.map_cons,List.map_nil]);first|done|(simp only [hji13];rfl)|rfl|(simp only [List.length_drop,List.length_take];rfl)) ?_
    with_reducible refine (Zbq.calls k (wrap64 ((ji13)+(Go.bits .and .i64 (wrap64 (a0_2 - (ji13))) 1))) qi _ A14.o).mono ?_
    rintro e w38z ⟨v39z,rfl,ho40z,hb⟩
    refine ⟨_,rfl,?_⟩
    have qa:=am (Kd.Zn ho40z (Zb pB))
    replace BK2z:=bb BK2z hb
    replace BK7z:=bb BK7z hb
    replace HB:=bS hb
    obtain ⟨qp,qq,q9⟩:=Kd.Zh qa.o
    (first|subst q9|(injection q9 with f1_ f2_ f3_;have f4_:=f1_.symm;have f5_:=f3_.symm;clear f1_ f2_ f3_;subst f4_;subst f5_))
    refine hK.out _ _ ⟨k0 BK2z 0,k0 BK2z 1,k0 BK2z 2⟩ (fun hHeld=>?_)
    clear hK K
    refine norm_ (a':=?_) ?_ ?_
    rotate_left
    ·show Act.put _ (some 34) _=_
     exact pP
    refine one_ (i:=4) (N:=some 35) #[true,true,true,true,true,false,false,false,false,false,false,false,false] rfl rfl (Zc6 HT_.out (by kernel_rfl)) (by decide) (fun K hK=>?_)
    refine goes_ Tryz.func71 (by kernel_rfl) rfl #[.slice A0_1 l0_1.length c0_1,.slice qp qi.length qq] (by rfl) rfl rfl pA ?_
    with_reducible refine (Zdb.calls k _ _ l0_1 _ _ qi q4 jh _ ?side1 ?side2 ?side3 ?side4 A15.o).mono ?_
    (case side1=>exact cB HR0_1 HB)
    (case side2=>exact HC0_1.o)
    (case side3=>exact Kd.Zi (Kd.Zc qa.o).2.2 pl)
    (case side4=>exact (Kd.Zc qa.o).2.1)
    rintro e w45z ⟨v46z,rfl,ho40z,hb⟩
    refine ⟨_,rfl,?_⟩
    have qn:=am (Kd.Zn (Kd.Zf ho40z (Kd.R_lt (Kd.Za qa.o pl))) (Zb pB))
    replace qa:=reR qa ho40z hb
    replace BK2z:=bb BK2z hb
    replace BK7z:=bb BK7z hb
    replace HB:=bS hb
    obtain ⟨qr,qv,ja⟩:=Kd.Zh qn.o
    (first|subst ja|(injection ja with f1_ f2_ f3_;have f4_:=f1_.symm;have f5_:=f3_.symm;clear f1_ f2_ f3_;subst f4_;subst f5_))
    refine hK.out _ _ ⟨k0 BK2z 0,k0 BK2z 1,k0 BK2z 2⟩ (fun hHeld=>?_)
    clear hK K
    refine norm_ (a':=?_) ?_ ?_
    rotate_left
    ·show Act.put _ (some 35) _=_
     exact pP
    refine pu 5 (some 36) #[true,true,true,true,true,true,false,false,false,false,false,false,false] (h:=?_)
    refine pu 6 (some 37) #[true,true,true,true,true,true,true,false,false,false,false,false,false] (h:=?_)
    refine one_ (i:=7) (N:=some 38) #[true,true,true,true,true,true,true,true,false,false,false,false,false] rfl rfl (Zc6 HT_.out (by kernel_rfl)) (by decide) (fun K hK=>?_)
    refine goes_ Tryz.func70 (by kernel_rfl) rfl #[.slice qr q4.length qv,.int .i64 jh] (by rfl) rfl rfl pA ?_
    with_reducible refine (Zs.calls (fun k_=>some k_=(.slice qr q4.length qv:Value).ownBlock) (.slice qr q4.length qv) q4 jh qj w _ ?side1 ?side2 A16.o).mono ?_
    (case side1=>exact pB)
    (case side2=>exact Kd.Zby rfl qn.o)
    rintro e w51z ⟨v52z,rfl,ho40z,hb,hkp⟩
    refine ⟨_,rfl,?_⟩
    have qb:=am (Kd.Zo (ok':=fun k_=>some k_ ≠ (.slice qp qi.length qq:Value).ownBlock) ho40z (fun k_ hk_=>Or.elim hk_ (fun hs_=>fun e_=>(((qa.o).1 k_ e_.symm).2) hs_) (fun hn_=>(Kd.fresh' (Kd.R_lt (Kd.Za qa.o pl)) k_ hn_))))
    replace BK2z:=am (Zc8 (Zg BK2z.o pl) hkp (fun e_=>Kd.R_ne qn.o BK2z.o (by decide) e_))
    replace BK7z:=am (Zc8 (Zg BK7z.o pl) hkp (fun e_=>Kd.R_ne qn.o BK7z.o (by decide) e_))
    replace qa:=am (Kd.Zo (ok':=fun k_=>some k_ ≠ (v52z:Value).ownBlock) (Kd.Zcc (qa.o) hkp (fun k_ hk_ hs_=>(hk_.2) hs_)) (fun k_ hk_=>fun e_=>Or.elim (ho40z.1 k_ e_.symm) (fun hs_=>hk_.2.1 hs_) (fun hn_=>Nat.not_le.2 hk_.2.2 hn_)))
    replace HB:=am hb
    clear qn
    obtain ⟨qs,qw,jb⟩:=Kd.Zh qb.o
    (first|subst jb|(injection jb with f1_ f2_ f3_;have f4_:=f1_.symm;have f5_:=f3_.symm;clear f1_ f2_ f3_;subst f4_;subst f5_))
    refine hK.out _ _ ⟨k0 BK2z 0,k0 BK2z 1,k0 BK2z 2⟩ (fun hHeld=>?_)
    clear hK K
    refine norm_ (a':=?_) ?_ ?_
    rotate_left
    ·show Act.put _ (some 38) _=_
     exact pP
    refine one_ (i:=8) (N:=some 39) #[true,true,true,true,true,true,true,true,true,false,false,false,false] rfl rfl (Zc6 HT_.out (by kernel_rfl)) (by decide) (fun K hK=>?_)
    refine goes_ Tryz.func82 (by kernel_rfl) rfl #[.slice qs qj.length qw] (by rfl) rfl rfl pA ?_
    with_reducible refine (Zff.calls k _ _ qj q5 ji _ ?side1 ?side2 A17.o).mono ?_
    (case side1=>exact Kd.Zi (Kd.Zc qb.o).2.2 pl)
    (case side2=>exact (Kd.Zc qb.o).2.1)
    rintro e w57z ⟨v58z,rfl,ho40z,hb⟩
    refine ⟨_,rfl,?_⟩
    have qo:=am (Kd.Zn (Kd.Zf (Kd.Zf ho40z (Kd.R_lt (Kd.Za qa.o pl))) (Kd.R_lt (Kd.Za qb.o pl))) (Zb pB))
    replace qa:=reR qa ho40z hb
    replace qb:=reR qb ho40z hb
    replace BK2z:=bb BK2z hb
    replace BK7z:=bb BK7z hb
    replace HB:=bS hb
    obtain ⟨qt,qx,jc⟩:=Kd.Zh qo.o
    (first|subst jc|(injection jc with f1_ f2_ f3_;have f4_:=f1_.symm;have f5_:=f3_.symm;clear f1_ f2_ f3_;subst f4_;subst f5_))
    refine hK.out _ _ ⟨k0 BK2z 0,k0 BK2z 1,k0 BK2z 2⟩ (fun hHeld=>?_)
    clear hK K
    refine norm_ (a':=?_) ?_ ?_
    rotate_left
    ·show Act.put _ (some 39) _=_
     exact pP
    refine pu 9 (some 40) #[true,true,true,true,true,true,true,true,true,true,false,false,false] (h:=?_)
    refine pu 10 (some 41) #[true,true,true,true,true,true,true,true,true,true,true,false,false] (h:=?_)
    refine one_ (i:=11) (N:=some 42) #[true,true,true,true,true,true,true,true,true,true,true,true,false] rfl rfl (Zc6 HT_.out (by kernel_rfl)) (by decide) (fun K hK=>?_)
    refine goes_ Tryz.func70 (by kernel_rfl) rfl #[.slice qt q5.length qx,.int .i64 ji] (by rfl) rfl rfl pA ?_
    with_reducible refine (Zs.calls (fun k_=>some k_=(.slice qt q5.length qx:Value).ownBlock) (.slice qt q5.length qx) q5 ji qm w _ ?side1 ?side2 A18.o).mono ?_
    (case side1=>exact pB)
    (case side2=>exact Kd.Zby rfl qo.o)
    rintro e w63z ⟨v64z,rfl,ho40z,hb,hkp⟩
    refine ⟨_,rfl,?_⟩
    have qd:=am (Kd.Zo (ok':=fun k_=>some k_ ≠ (.slice qp qi.length qq:Value).ownBlock/\some k_ ≠ (.slice qs qj.length qw:Value).ownBlock) ho40z (fun k_ hk_=>⟨Or.elim hk_ (fun hs_=>fun e_=>(((qa.o).1 k_ e_.symm).2) hs_) (fun hn_=>(Kd.fresh' (Kd.R_lt (Kd.Za qa.o pl)) k_ hn_)),Or.elim hk_ (fun hs_=>fun e_=>(((qb.o).1 k_ e_.symm).2) hs_) (fun hn_=>(Kd.fresh' (Kd.R_lt (Kd.Za qb.o pl)) k_ hn_))⟩))
    replace BK2z:=am (Zc8 (Zg BK2z.o pl) hkp (fun e_=>Kd.R_ne qo.o BK2z.o (by decide) e_))
    replace BK7z:=am (Zc8 (Zg BK7z.o pl) hkp (fun e_=>Kd.R_ne qo.o BK7z.o (by decide) e_))
    replace qa:=am (Kd.Zo (ok':=fun k_=>some k_ ≠ (.slice qs qj.length qw:Value).ownBlock/\some k_ ≠ (v64z:Value).ownBlock) (Kd.Zcc (qa.o) hkp (fun k_ hk_ hs_=>(hk_.2) hs_)) (fun k_ hk_=>⟨hk_.1.1,fun e_=>Or.elim (ho40z.1 k_ e_.symm) (fun hs_=>hk_.2.1 hs_) (fun hn_=>Nat.not_le.2 hk_.2.2 hn_)⟩))
    replace qb:=am (Kd.Zo (ok':=fun k_=>some k_ ≠ (.slice qp qi.length qq:Value).ownBlock/\some k_ ≠ (v64z:Value).ownBlock) (Kd.Zcc (qb.o) hkp (fun k_ hk_ hs_=>(hk_.2) hs_)) (fun k_ hk_=>⟨hk_.1.1,fun e_=>Or.elim (ho40z.1 k_ e_.symm) (fun hs_=>hk_.2.1 hs_) (fun hn_=>Nat.not_le.2 hk_.2.2 hn_)⟩))
    replace HB:=am hb
    clear qo
    refine hK.out _ _ ⟨k0 BK2z 0,k0 BK2z 1,k0 BK2z 2⟩ (fun hHeld=>?_)
    clear hK K
    refine norm_ (a':=?_) ?_ ?_
    rotate_left
    ·show Act.put _ (some 42) _=_
     exact pP
    refine pu 12 (some 6) #[true,true,true,true,true,true,true,true,true,true,true,true,true] (h:=?_)
    refine done_ (Zex HT_.out (by kernel_rfl)) ?_
    obtain ⟨jo,js,ju⟩:=Kd.Zh qd.o
    subst ju
    try go_wp2_with (first|(refine gL (some 45) Tryz.func73 #[.slice jo qm.length js,.int .i64 40] (h:=?_);(with_reducible refine (Zce.calls k _ _ qm 40 jj jz jk _ ?side1 ?side2 A19.o).mono ?_);(case side1=>exact Kd.Zi (Kd.Zc qd.o).2.2 pl);(case side2=>exact (Kd.Zc qd.o).2.1);rintro e w69z ⟨v70z,v71z,rfl,ho40z,ho72z,hb⟩;refine ⟨_,rfl,?_⟩;have qk:=am (Kd.Zn (Kd.Zf (Kd.Zf (Kd.Zf ho40z (Kd.R_lt (Kd.Za qa.o pl))) (Kd.R_lt (Kd.Za qb.o pl))) (Kd.R_lt (Kd.Za qd.o pl))) (Zb pB));have qu:=am (Kd.Zn (Kd.Zf (Kd.Zf (Kd.Zf ho72z (Kd.R_lt (Kd.Za qa.o pl))) (Kd.R_lt (Kd.Za qb.o pl))) (Kd.R_lt (Kd.Za qd.o pl))) (Zb pB));replace qa:=am (Kd.Zo (Kd.Zbr (Kd.Zbr (Kd.Ze2 (Kd.Za qa.o pl) hb) (Kd.Zt ho40z)) (Kd.Zt ho72z)) (fun _ h_=>h_.1));replace qb:=am (Kd.Zo (Kd.Zbr (Kd.Zbr (Kd.Ze2 (Kd.Za qb.o pl) hb) (Kd.Zt ho40z)) (Kd.Zt ho72z)) (fun _ h_=>h_.1));replace qd:=am (Kd.Zo (Kd.Zbr (Kd.Zbr (Kd.Ze2 (Kd.Za qd.o pl) hb) (Kd.Zt ho40z)) (Kd.Zt ho72z)) (fun _ h_=>h_.1));replace BK2z:=bb BK2z hb;replace BK7z:=bb BK7z hb;replace HB:=bS hb;obtain ⟨_,_,_,_,_,_⟩:=cEc BK2z.o;obtain ⟨jp,jt,jv⟩:=Kd.Zh qk.o;subst jv)|((with_reducible refine Zfc (f:=60) rfl ?_);refine goesL_ (some 57) rfl rfl Tryz.func60 (by kernel_rfl) rfl #[.bool false,.slice jp jj.length jt,.int .i64 (wrap64 ((wrap64 (Int.tdiv (wrap64 (a0_2 - (wrap64 ((ji13)+(Go.bits .and .i64 (wrap64 (a0_2 - (ji13))) 1))))) 2))+jk))] rfl (by (try simp only [List.map_toArray,List.map_cons,List.map_nil]);first|done|(simp only [hji13];rfl)|rfl|(simp only [List.length_drop,List.length_take];rfl)) ?_;(with_reducible refine (Zan.calls k false _ _ jj (wrap64 ((wrap64 (Int.tdiv (wrap64 (a0_2 - (wrap64 ((ji13)+(Go.bits .and .i64 (wrap64 (a0_2 - (ji13))) 1))))) 2))+jk)) jl jm jn j0 _ ?side1 ?side2 A20.o).mono ?_);(case side1=>exact Kd.Zi (Kd.Zc qk.o).2.2 pl);(case side2=>exact (Kd.Zc qk.o).2.1);rintro e w84z ⟨v85z,rfl,ho40z,hb⟩;refine ⟨_,rfl,?_⟩;have q7:=am (Kd.Zn (Kd.Zf (Kd.Zf (Kd.Zf (Kd.Zf (Kd.Zf ho40z (Kd.R_lt (Kd.Za qa.o pl))) (Kd.R_lt (Kd.Za qb.o pl))) (Kd.R_lt (Kd.Za qd.o pl))) (Kd.R_lt (Kd.Za qk.o pl))) (Kd.R_lt (Kd.Za qu.o pl))) (Zb pB));replace qa:=reR qa ho40z hb;replace qb:=reR qb ho40z hb;replace qd:=reR qd ho40z hb;replace qk:=reR qk ho40z hb;replace qu:=reR qu ho40z hb;replace BK2z:=bb BK2z hb;replace BK7z:=bb BK7z hb;replace HB:=bS hb;obtain ⟨_,_,_,_,_,_⟩:=cEc BK7z.o;obtain ⟨q6,q8,jw⟩:=Kd.Zh q7.o;subst jw))
    refine bodyPost_ret (Zae rfl _ _ gb5z 24 #[.bool jl,.slice q6 jm.length q8,.int .i64 jn] (0,0) _ rfl (by exact p3 BK7z) Tryz.underlying24 rfl (by kernel_rfl)) rfl ?_
    exact ⟨_,by first|rfl|(simp [Zap,Zaq] <;> rfl)|(simp only [<- hji13];first|rfl|(simp [Zap,Zaq] <;> rfl))|(simp [*,Zap,Zaq] <;> rfl),by refine rp ?_;exact Kd.Zo (Kd.Zau (p:=⟨gb5z,2,none⟩) (Kd.Zau (p:=⟨gb5z,1,none⟩) (Kd.Zau (p:=⟨gb5z,0,none⟩) (Kd.Zba q7.o BK7z.o (by decide)) (fun _ hk=>hk.2) (.bool jl)) (fun _ hk=>hk.2) (.slice q6 jm.length q8)) (fun _ hk=>hk.2) (.int .i64 jn)) (fun _ hk=>trivial),pB⟩
  | refine bodyPost_ret (Zae rfl _ _ gb5z 24 #[.bool false,.slice none 0 0,.int .i64 0] (0,0) _ rfl (by exact p3 BK7z) Tryz.underlying24 rfl (by kernel_rfl)) rfl ?_
    exact ⟨_,pE,pN,pB⟩):P:=h
theorem Zbi.calls (k:Nat) (a0_0:Bool) (A0_1:Option Addr) (c0_1:Nat) (l0_1:List Int) (a0_2:Int) (r1:Bool) (r2:List Int) (r3:Int) (r4:Int) (w:World) (hr0_1:Kd.C (Kd.int .u32) w A0_1 l0_1.length l0_1) (hc0_1:l0_1.length<=c0_1) (h:Zbi.f k a0_0 l0_1 a0_2=some (r1,r2,r3,r4)) :
  Calls Tryz.prog 26 #[.agg #[.bool a0_0,.slice A0_1 l0_1.length c0_1,.int .i64 a0_2]] w fun e w' => ∃ v1_:Value,e=.returned (.tuple #[.agg #[.bool r1,v1_,.int .i64 r3],.int .i64 r4])/\Kd.R (Kd.int .u32) 85 w' w.heap.size (fun _=>True) v1_ r2/\Below w.heap.size w w':=by
 have hu24:=Tryz.underlying24
 have HR0_1:=am hr0_1
 have HC0_1:=am hc0_1
 clear hr0_1 hc0_1
 have HB:=am (Below.refl w.heap.size w)
 have H:((Za6.f k a0_0 l0_1 a0_2).bind fun ql=>(if ql=0 then (if a0_0=true then (some (false,([]:List Int),0,4)) else ((Zbo.f k l0_1).bind fun qe=>((Zbq.f k (wrap64 ((mx (wrap64 (80 - qe)) 0)+(Go.bits .and .i64 (wrap64 (a0_2 - (mx (wrap64 (80 - qe)) 0))) 1)))).bind fun qi=>((Zdb.f k l0_1 qi).bind fun qf=>((Zs.f qf.1 qf.2).bind fun qj=>((Zff.f k qj).bind fun qg=>((Zs.f qg.1 qg.2).bind fun qm=>((Zce.f k qm 40).bind fun qh=>((Zan.f k false qh.1 (wrap64 ((wrap64 (Int.tdiv (wrap64 (a0_2 - (wrap64 ((mx (wrap64 (80 - qe)) 0)+(Go.bits .and .i64 (wrap64 (a0_2 - (mx (wrap64 (80 - qe)) 0))) 1))))) 2))+qh.2.2))).bind fun qc=>(some (qc.1,qc.2.1,qc.2.2.1,qc.2.2.2))))))))))) else (some (false,([]:List Int),0,ql))))=some (r1,r2,r3,r4):=h
 clear h
 replace H:=ob H
 obtain ⟨ql,A2,H⟩:=H
 replace H:=eI H
 rcases H with ⟨c3b0,c3b1,H⟩|⟨c3,c3b0,c3b1,H⟩
 ·replace H:=tI (t:=a0_0) H
  rcases H with ⟨rfl,H⟩|⟨rfl,H⟩
  ·simp only [Option.some.injEq,Prod.mk.injEq] at H
   obtain ⟨rfl,rfl,rfl,rfl⟩:=H
   exact Zbi.leaf
  ·replace H:=ob H
   obtain ⟨qe,A12,H⟩:=H
   obtain ⟨ji13,hji13⟩:∃ j_:Int,(mx (wrap64 (80 - qe)) 0)=j_:=⟨_,rfl⟩
   replace H:((Zbq.f k (wrap64 ((ji13)+(Go.bits .and .i64 (wrap64 (a0_2 - (ji13))) 1)))).bind fun qi=>((Zdb.f k l0_1 qi).bind fun qf=>((Zs.f qf.1 qf.2).bind fun qj=>((Zff.f k qj).bind fun qg=>((Zs.f qg.1 qg.2).bind fun qm=>((Zce.f k qm 40).bind fun qh=>((Zan.f k false qh.1 (wrap64 ((wrap64 (Int.tdiv (wrap64 (a0_2 - (wrap64 ((ji13)+(Go.bits .and .i64 (wrap64 (a0_2 - (ji13))) 1))))) 2))+qh.2.2))).bind fun qc=>(some (qc.1,qc.2.1,qc.2.2.1,qc.2.2.2)))))))))=some (r1,r2,r3,r4):=by first|(rw [hji13] at H;exact H)|(simp only [hji13] at H ⊢;exact H)
   (try rw [hji13] at A2)
   (try rw [hji13] at A12)
   (try (have hji13l:0<=ji13:=by (rw [<- hji13];unfold mx;(repeat' split) <;> omega)))
   (try (have hji13m:0<=ji13:=by omega))
   have hji13_:(if (wrap64 (80 - qe)) < 0 then 0 else (wrap64 (80 - qe)))=ji13:=hji13
   replace H:=ob H
   obtain ⟨qi,A14,H⟩:=H
   replace H:=ob H
   obtain ⟨⟨q4,jh⟩,A15,H⟩:=H;(try dsimp only at H)
   replace H:=ob H
   obtain ⟨qj,A16,H⟩:=H
   replace H:=ob H
   obtain ⟨⟨q5,ji⟩,A17,H⟩:=H;(try dsimp only at H)
   replace H:=ob H
   obtain ⟨qm,A18,H⟩:=H
   replace H:=ob H
   obtain ⟨⟨jj,jz,jk⟩,A19,H⟩:=H;(try dsimp only at H)
   replace H:=ob H
   obtain ⟨⟨jl,jm,jn,j0⟩,A20,H⟩:=H;(try dsimp only at H)
   simp only [Option.some.injEq,Prod.mk.injEq] at H
   obtain ⟨rfl,rfl,rfl,rfl⟩:=H
   exact Zbi.leaf
 ·simp only [Option.some.injEq,Prod.mk.injEq] at H
  obtain ⟨rfl,rfl,rfl,rfl⟩:=H
  exact Zbi.leaf
def Zb0.f (k:Nat) (a0_0:Bool) (l0_1:List Int) (a0_2:Int):Option (Bool × List Int × Int × Int):=(Ze.f k a0_0 l0_1 a0_2).bind fun qi=>(if qi=0 then ((Zac.f k a0_0 l0_1 a0_2).bind fun qg=>((Zp.f k false qg.2.1 qg.2.2).bind fun qa=>(some (qa.1,qa.2.1,qa.2.2.1,qa.2.2.2)))) else (some (false,([]:List Int),0,9)))
theorem Zb0.leaf {P:Prop} (h:P:=by
 go_enter Tryz.func24,Tryz.ntmps24
 go_wp2_with (first|((with_reducible refine gd 1 ?_);refine bx 1 #[.bool a0_0,.slice A0_1 l0_1.length c0_1,.int .i64 a0_2] 24 (h:=?_);intro gb0z hg w1z hbox hb;have BK2z:=am hbox;have GW3z:=gW hg;replace HB:=bS hb;clear hb hbox hg)|((with_reducible refine gd 2 ?_);refine bx 2 #[.bool false,.slice none 0 0,.int .i64 0] 24 (h:=?_);intro gb5z hg w6z hbox hb;have BK7z:=am hbox;have GW8z:=gW hg;have qz:=nL hg BK2z;have q0:=nG hg BK2z;replace BK2z:=bb BK2z hb;replace HB:=bS hb;clear hb hbox hg;have q5:=qz.o;have q8:=q0.o;obtain ⟨_,_,_,_,_,_⟩:=cEc BK2z.o)|((have q_:=A5;clear q_);refine gL (some 6) Tryz.func33 #[.agg #[.bool a0_0,.slice A0_1 l0_1.length c0_1,.int .i64 a0_2]] (h:=?_);(with_reducible refine (Ze.calls k a0_0 _ _ l0_1 a0_2 qi _ ?side1 ?side2 A2.o).mono ?_);(case side1=>exact cB HR0_1 HB);(case side2=>exact HC0_1.o);rintro e w20z ⟨rfl,hb⟩;refine ⟨_,rfl,?_⟩;replace BK2z:=bb BK2z hb;replace BK7z:=bb BK7z hb;replace HB:=bS hb;obtain ⟨qq,qr,qs,qt,qu,qv⟩:=cEc BK2z.o)|(refine gL (some 10) Tryz.func18 #[.agg #[.bool a0_0,.slice A0_1 l0_1.length c0_1,.int .i64 a0_2]] (h:=?_);(with_reducible refine (Zac.calls k a0_0 _ _ l0_1 a0_2 qk qh qj _ ?side1 ?side2 A4.o).mono ?_);(case side1=>exact cB HR0_1 HB);(case side2=>exact HC0_1.o);rintro e w27z ⟨v28z,rfl,ho29z,hb⟩;refine ⟨_,rfl,?_⟩;have qc:=am (Kd.Zn ho29z (Zb pB));replace BK2z:=bb BK2z hb;replace BK7z:=bb BK7z hb;replace HB:=bS hb)|((with_reducible refine gd 4 ?_);refine bx 4 #[.bool false,.slice none 0 0,.int .i64 0] 30 (h:=?_);intro qb hg w32z hbox hb;have qf:=am hbox;have jc:=gW hg;have qn:=nL hg BK2z;have q1:=nG hg BK2z;have qo:=nL hg BK7z;have q2:=nG hg BK7z;replace qc:=rbl qc hb;replace BK2z:=bb BK2z hb;replace BK7z:=bb BK7z hb;replace HB:=bS hb;clear hb hbox hg;have q6:=q1.o;have q9:=qn.o;have q7:=q2.o;have ja:=qo.o;obtain ⟨_,_,_,_,_,_⟩:=cEc qf.o;obtain ⟨qe,qd,q3⟩:=Kd.Zh qc.o;subst q3)|(refine gL (some 13) Tryz.func23 #[.agg #[.bool false,.slice qe qh.length qd,.int .i64 qj]] (h:=?_);(with_reducible refine (Zp.calls k false _ _ qh qj qw qx qy jb _ ?side1 ?side2 A5.o).mono ?_);(case side1=>refine (Kd.Zc (e:=3) (base:=w.heap.size) (ok:=fun k_=>True) (n:=qh.length) (c:=qd) ?_).2.2;exact (Kd.Za (Kd.Zo (Kd.Zau (p:=⟨qb,0,none⟩) (Kd.Zau (p:=⟨qb,2,none⟩) (Kd.Zau (p:=⟨qb,1,none⟩) (Kd.Zau (p:=⟨qb,0,none⟩) (Kd.Zba qc.o qf.o (by decide)) (fun _ hk=>hk.2) (.bool qk)) (fun _ hk=>hk.2) (.slice qe qh.length qd)) (fun _ hk=>hk.2) (.int .i64 qj)) (fun _ hk=>hk.2) (.bool false)) (fun _ h_=>h_.1)) pl));(case side2=>exact (Kd.Zc qc.o).2.1);rintro e w53z ⟨v54z,rfl,ho29z,hb⟩;refine ⟨_,rfl,?_⟩;replace qc:=am (Kd.Za (Kd.Za (Kd.Zo (Kd.Zau (p:=⟨qb,0,none⟩) (Kd.Zau (p:=⟨qb,2,none⟩) (Kd.Zau (p:=⟨qb,1,none⟩) (Kd.Zau (p:=⟨qb,0,none⟩) (Kd.Zba qc.o qf.o (by decide)) (fun _ hk=>hk.2) (.bool qk)) (fun _ hk=>hk.2) (.slice qe qh.length qd)) (fun _ hk=>hk.2) (.int .i64 qj)) (fun _ hk=>hk.2) (.bool false)) (fun _ h_=>h_.1)) pl) hb);have qm:=am (Kd.Zn ho29z (Zb pB));replace BK2z:=bfb qn BK2z hb;replace BK7z:=bfb qo BK7z hb;replace qf:=am (Zg (g:=qb) (o:=.cells #[.bool false,.slice qe qh.length qd,.int .i64 qj] 30 (0,0)) (by refine bp ?_;refine Zd7 (cs:=#[.bool qk,.slice qe qh.length qd,.int .i64 qj]) ?_ 0 _ rfl;exact p3 qf) hb);replace HB:=bS hb;obtain ⟨_,_,_,_,_,_⟩:=cEc BK7z.o;obtain ⟨ql,qp,q4⟩:=Kd.Zh qm.o;subst q4)|((have q_:(qi != 0)=true:=c3b1;clear q_);refine gL (some 6) Tryz.func33 #[.agg #[.bool a0_0,.slice A0_1 l0_1.length c0_1,.int .i64 a0_2]] (h:=?_);(with_reducible refine (Ze.calls k a0_0 _ _ l0_1 a0_2 qi _ ?side1 ?side2 A2.o).mono ?_);(case side1=>exact cB HR0_1 HB);(case side2=>exact HC0_1.o);rintro e w20z ⟨rfl,hb⟩;refine ⟨_,rfl,?_⟩;replace BK2z:=bb BK2z hb;replace BK7z:=bb BK7z hb;replace HB:=bS hb;obtain ⟨qq,qr,qs,qt,qu,qv⟩:=cEc BK7z.o))
 first
  | have q_:=A5
    refine bodyPost_ret (Zae rfl _ _ gb5z 24 #[.bool qw,.slice ql qx.length qp,.int .i64 qy] (0,0) _ rfl (by exact p3 BK7z) Tryz.underlying24 rfl (by kernel_rfl)) rfl ?_
    exact ⟨_,pE,by refine rp ?_;exact Kd.Zo (Kd.Zau (p:=⟨gb5z,2,none⟩) (Kd.Zau (p:=⟨gb5z,1,none⟩) (Kd.Zau (p:=⟨gb5z,0,none⟩) (Kd.Zba qm.o BK7z.o (by decide)) (fun _ hk=>hk.2) (.bool qw)) (fun _ hk=>hk.2) (.slice ql qx.length qp)) (fun _ hk=>hk.2) (.int .i64 qy)) (fun _ hk=>trivial),pB⟩
  | refine bodyPost_ret (Zae rfl _ _ gb5z 24 #[.bool false,.slice none 0 0,.int .i64 0] (0,0) _ rfl (by exact p3 BK7z) Tryz.underlying24 rfl (by kernel_rfl)) rfl ?_
    exact ⟨_,pE,pN,pB⟩):P:=h
theorem Zb0.calls (k:Nat) (a0_0:Bool) (A0_1:Option Addr) (c0_1:Nat) (l0_1:List Int) (a0_2:Int) (r1:Bool) (r2:List Int) (r3:Int) (r4:Int) (w:World) (hr0_1:Kd.C (Kd.int .u32) w A0_1 l0_1.length l0_1) (hc0_1:l0_1.length<=c0_1) (h:Zb0.f k a0_0 l0_1 a0_2=some (r1,r2,r3,r4)) :
  Calls Tryz.prog 24 #[.agg #[.bool a0_0,.slice A0_1 l0_1.length c0_1,.int .i64 a0_2]] w fun e w' => ∃ v1_:Value,e=.returned (.tuple #[.agg #[.bool r1,v1_,.int .i64 r3],.int .i64 r4])/\Kd.R (Kd.int .u32) 85 w' w.heap.size (fun _=>True) v1_ r2/\Below w.heap.size w w':=by
 have hu24:=Tryz.underlying24
 have hu30:=Tryz.underlying30
 have HR0_1:=am hr0_1
 have HC0_1:=am hc0_1
 clear hr0_1 hc0_1
 have HB:=am (Below.refl w.heap.size w)
 have H:((Ze.f k a0_0 l0_1 a0_2).bind fun qi=>(if qi=0 then ((Zac.f k a0_0 l0_1 a0_2).bind fun qg=>((Zp.f k false qg.2.1 qg.2.2).bind fun qa=>(some (qa.1,qa.2.1,qa.2.2.1,qa.2.2.2)))) else (some (false,([]:List Int),0,9))))=some (r1,r2,r3,r4):=h
 clear h
 replace H:=ob H
 obtain ⟨qi,A2,H⟩:=H
 replace H:=eI H
 rcases H with ⟨c3b0,c3b1,H⟩|⟨c3,c3b0,c3b1,H⟩
 ·replace H:=ob H
  obtain ⟨⟨qk,qh,qj⟩,A4,H⟩:=H;(try dsimp only at H)
  replace H:=ob H
  obtain ⟨⟨qw,qx,qy,jb⟩,A5,H⟩:=H;(try dsimp only at H)
  simp only [Option.some.injEq,Prod.mk.injEq] at H
  obtain ⟨rfl,rfl,rfl,rfl⟩:=H
  exact Zb0.leaf
 ·simp only [Option.some.injEq,Prod.mk.injEq] at H
  obtain ⟨rfl,rfl,rfl,rfl⟩:=H
  exact Zb0.leaf
def Zao.f (k:Nat) (a0_0:Bool) (l0_1:List Int) (a0_2:Int):Option (List Int × List Int × Int):=if a0_2 >= 0 then ((Zbq.f k a0_2).bind fun qg=>((Zdb.f k l0_1 qg).bind fun qe=>((Zs.f qe.1 qe.2).bind fun qm=>(some (qm,([]:List Int),0))))) else ((Zbq.f k (wrap64 (-a0_2))).bind fun qh=>((Zcz.f k l0_1 qh).bind fun qf=>(some (qf.1,qf.2.1,wrap64 (-a0_2)))))
def Zao.T2:Bool × List (List Nat × List Nat):=(true,[([],[]),([0],[0]),([],[]),([2],[2]),([3],[3]),([1,4,4],[1,4]),([5],[5]),([5],[5]),([6,7,5],[6,7]),([8,8,0,1,2,3,4,5,6,7,8],[8]),([9,0,1,2,3,4,5,6,7,8,9],[]),([10,0,1,2,3,4,5,6,7,8,9,10],[])])
def Zao.B2:List Nat:=[0,1,0,4,12,31,63,63,255,511,1023,2047]
theorem Zao.tab2:rtab .any (opsOf Tryz.f83 2)=Zao.T2:=by kernel_rfl
theorem Zao.bits2:waitsOk Zao.T2.2 Zao.B2=true:=by kernel_rfl
def Zao.T3:Bool × List (List Nat × List Nat):=(true,[([],[]),([0],[0]),([],[]),([2],[2]),([3],[3]),([4],[4]),([1,5,5],[1,5]),([6],[6]),([7],[7]),([7],[7]),([7],[7]),([8,6,0,1,2,3,4,5,6,7,8],[8]),([9,11,0,1,2,3,4,5,6,7,8,9,11],[9])])
def Zao.B3:List Nat:=[0,1,0,4,12,28,63,127,255,255,255,511,3071]
theorem Zao.tab3:rtab .any (opsOf Tryz.f83 3)=Zao.T3:=by kernel_rfl
theorem Zao.bits3:waitsOk Zao.T3.2 Zao.B3=true:=by kernel_rfl
def Zao.T4:Bool × List (List Nat × List Nat):=(true,[([],[]),([],[]),([],[]),([2],[2]),([3],[3]),([0,0],[0]),([1,5,0,1,5],[1]),([4,6,0,1,2,3,4,5,6],[4])])
def Zao.B4:List Nat:=[0,0,0,4,12,1,35,127]
theorem Zao.tab4:rtab .any (opsOf Tryz.f83 4)=Zao.T4:=by kernel_rfl
theorem Zao.bits4:waitsOk Zao.T4.2 Zao.B4=true:=by kernel_rfl
theorem Zao.calls (k:Nat) (a0_0:Bool) (A0_1:Option Addr) (c0_1:Nat) (l0_1:List Int) (a0_2:Int) (r1:List Int) (r2:List Int) (r3:Int) (w:World) (hr0_1:Kd.C (Kd.int .u32) w A0_1 l0_1.length l0_1) (hc0_1:l0_1.length<=c0_1) (h:Zao.f k a0_0 l0_1 a0_2=some (r1,r2,r3)) :
  Calls Tryz.prog 83 #[.agg #[.bool a0_0,.slice A0_1 l0_1.length c0_1,.int .i64 a0_2]] w fun e w' => ∃ v0_ v1_:Value,e=.returned (.tuple #[v0_,v1_,.int .i64 r3])/\Kd.R (Kd.int .u32) 85 w' w.heap.size (fun k_=>some k_ ≠ (v1_:Value).ownBlock) v0_ r1/\Kd.R (Kd.int .u32) 85 w' w.heap.size (fun k_=>some k_ ≠ (v0_:Value).ownBlock) v1_ r2/\Below w.heap.size w w':=by
 have hu24:=Tryz.underlying24
 have HR0_1:=am hr0_1
 have HC0_1:=am hc0_1
 clear hr0_1 hc0_1
 have HB:=am (Below.refl w.heap.size w)
 have H:(if a0_2 >= 0 then ((Zbq.f k a0_2).bind fun qg=>((Zdb.f k l0_1 qg).bind fun qe=>((Zs.f qe.1 qe.2).bind fun qm=>(some (qm,([]:List Int),0))))) else ((Zbq.f k (wrap64 (-a0_2))).bind fun qh=>((Zcz.f k l0_1 qh).bind fun qf=>(some (qf.1,qf.2.1,wrap64 (-a0_2))))))=some (r1,r2,r3):=h
 clear h
 replace H:=hI H
 rcases H with ⟨c2b0,H⟩|⟨c2b0,H⟩
 ·replace H:=ob H
  obtain ⟨qg,A3,H⟩:=H
  replace H:=ob H
  obtain ⟨⟨ql,qp⟩,A4,H⟩:=H;(try dsimp only at H)
  replace H:=ob H
  obtain ⟨qm,A5,H⟩:=H
  simp only [Option.some.injEq,Prod.mk.injEq] at H
  obtain ⟨rfl,rfl,rfl⟩:=H
  go_enter Tryz.func83,Tryz.ntmps83
  try go_wp2_with (first|((with_reducible refine gd 1 ?_);refine bx 1 #[.bool a0_0,.slice A0_1 l0_1.length c0_1,.int .i64 a0_2] 24 (h:=?_);intro qd hg w6 hbox hb;have qa:=am hbox;have qs:=gW hg;have qr:=gW hg;replace HB:=bS hb;clear hb hbox hg;obtain ⟨_,_,_,_,_,_⟩:=cEc qa.o))
  replace qa:=am (Zc7 qa.o)
  replace HB:=am (Zbh HB.o)
  refine start_ (n:=12) (S:=fun w'=>w'.cell? ⟨qd,0,none⟩=some (.bool a0_0)/\w'.cell? ⟨qd,1,none⟩=some (.slice A0_1 l0_1.length c0_1)/\w'.cell? ⟨qd,2,none⟩=some (.int .i64 a0_2)) (ds:=[]) #[false,false,false,false,false,false,false,false,false,false,false,false] (by kernel_rfl) rfl rfl ⟨k0 qa 0,k0 qa 1,k0 qa 2⟩ (fun hHeld=>?_);refine Zdo Zao.tab2 Zao.bits2 (fun HT_ HW_=>?_)
  generalize w6.drew=w8 at qa HB hHeld ⊢
  refine pu 0 (some 8) #[true,false,false,false,false,false,false,false,false,false,false,false] (h:=?_)
  refine pu 2 (some 10) #[true,false,true,false,false,false,false,false,false,false,false,false] (h:=?_)
  refine take_ (i:=1) (N:=some 9) (v:=?_) (a':=?_) #[true,true,true,false,false,false,false,false,false,false,false,false] rfl rfl (Zcs HT_.out HW_.out (by kernel_rfl)) (fun _ _ _ h=>h) (Or.inl ⟨by rfl,?_⟩) hHeld ?_ ?_
  rotate_left
  ·rintro w' ⟨s0,s1,s2⟩
   go_simp
   with_reducible rfl
  rotate_left
  ·exact pP
  refine take_ (i:=3) (N:=some 11) (v:=?_) (a':=?_) #[true,true,true,true,false,false,false,false,false,false,false,false] rfl rfl (Zcs HT_.out HW_.out (by kernel_rfl)) (fun _ _ _ h=>h) (Or.inl ⟨by rfl,?_⟩) hHeld ?_ ?_
  rotate_left
  ·rintro w' ⟨s0,s1,s2⟩
   go_simp
   with_reducible rfl
  rotate_left
  ·exact pP
  refine one_ (i:=4) (N:=some 12) #[true,true,true,true,true,false,false,false,false,false,false,false] rfl rfl (Zc6 HT_.out (by kernel_rfl)) (by decide) (fun K hK=>?_)
  refine goes_ Tryz.func72 (by kernel_rfl) rfl #[.int .i64 a0_2] (by rfl) rfl rfl pA ?_
  with_reducible refine (Zbq.calls k a0_2 qg _ A3.o).mono ?_
  rintro e w9 ⟨q4,rfl,ho0,hb⟩
  refine ⟨_,rfl,?_⟩
  have qb:=am (Kd.Zn ho0 (Zb pB))
  replace qa:=bb qa hb
  replace HB:=bS hb
  obtain ⟨qq,qu,qv⟩:=Kd.Zh qb.o
  (first|subst qv|(injection qv with f1_ f2_ f3_;have f4_:=f1_.symm;have f5_:=f3_.symm;clear f1_ f2_ f3_;subst f4_;subst f5_))
  refine hK.out _ _ ⟨k0 qa 0,k0 qa 1,k0 qa 2⟩ (fun hHeld=>?_)
  clear hK K
  refine norm_ (a':=?_) ?_ ?_
  rotate_left
  ·show Act.put _ (some 12) _=_
   exact pP
  refine one_ (i:=5) (N:=some 13) #[true,true,true,true,true,true,false,false,false,false,false,false] rfl rfl (Zc6 HT_.out (by kernel_rfl)) (by decide) (fun K hK=>?_)
  refine goes_ Tryz.func71 (by kernel_rfl) rfl #[.slice A0_1 l0_1.length c0_1,.slice qq qg.length qu] (by rfl) rfl rfl pA ?_
  with_reducible refine (Zdb.calls k _ _ l0_1 _ _ qg ql qp _ ?side1 ?side2 ?side3 ?side4 A4.o).mono ?_
  (case side1=>exact cB HR0_1 HB)
  (case side2=>exact HC0_1.o)
  (case side3=>exact Kd.Zi (Kd.Zc qb.o).2.2 pl)
  (case side4=>exact (Kd.Zc qb.o).2.1)
  rintro e w11 ⟨q5,rfl,ho0,hb⟩
  refine ⟨_,rfl,?_⟩
  have qi:=am (Kd.Zn (Kd.Zf ho0 (Kd.R_lt (Kd.Za qb.o pl))) (Zb pB))
  replace qb:=reR qb ho0 hb
  replace qa:=bb qa hb
  replace HB:=bS hb
  obtain ⟨qn,qo,qw⟩:=Kd.Zh qi.o
  (first|subst qw|(injection qw with f1_ f2_ f3_;have f4_:=f1_.symm;have f5_:=f3_.symm;clear f1_ f2_ f3_;subst f4_;subst f5_))
  refine hK.out _ _ ⟨k0 qa 0,k0 qa 1,k0 qa 2⟩ (fun hHeld=>?_)
  clear hK K
  refine norm_ (a':=?_) ?_ ?_
  rotate_left
  ·show Act.put _ (some 13) _=_
   exact pP
  refine pu 6 (some 14) #[true,true,true,true,true,true,true,false,false,false,false,false] (h:=?_)
  refine pu 7 (some 15) #[true,true,true,true,true,true,true,true,false,false,false,false] (h:=?_)
  refine one_ (i:=8) (N:=some 16) #[true,true,true,true,true,true,true,true,true,false,false,false] rfl rfl (Zc6 HT_.out (by kernel_rfl)) (by decide) (fun K hK=>?_)
  refine goes_ Tryz.func70 (by kernel_rfl) rfl #[.slice qn ql.length qo,.int .i64 qp] (by rfl) rfl rfl pA ?_
  with_reducible refine (Zs.calls (fun k_=>some k_=(.slice qn ql.length qo:Value).ownBlock) (.slice qn ql.length qo) ql qp qm w _ ?side1 ?side2 A5.o).mono ?_
  (case side1=>exact pB)
  (case side2=>exact Kd.Zby rfl qi.o)
  rintro e w13 ⟨q3,rfl,ho0,hb,hkp⟩
  refine ⟨_,rfl,?_⟩
  have qt:=am (Kd.Zo (ok':=fun k_=>some k_ ≠ (.slice qq qg.length qu:Value).ownBlock) ho0 (fun k_ hk_=>Or.elim hk_ (fun hs_=>fun e_=>(((qb.o).1 k_ e_.symm).2) hs_) (fun hn_=>(Kd.fresh' (Kd.R_lt (Kd.Za qb.o pl)) k_ hn_))))
  replace qa:=am (Zc8 (Zg qa.o pl) hkp (fun e_=>Kd.R_ne qi.o qa.o (by decide) e_))
  replace qb:=am (Kd.Zo (ok':=fun k_=>some k_ ≠ (q3:Value).ownBlock) (Kd.Zcc (qb.o) hkp (fun k_ hk_ hs_=>(hk_.2) hs_)) (fun k_ hk_=>fun e_=>Or.elim (ho0.1 k_ e_.symm) (fun hs_=>hk_.2.1 hs_) (fun hn_=>Nat.not_le.2 hk_.2.2 hn_)))
  replace HB:=am hb
  clear qi
  refine hK.out _ _ ⟨k0 qa 0,k0 qa 1,k0 qa 2⟩ (fun hHeld=>?_)
  clear hK K
  refine norm_ (a':=?_) ?_ ?_
  rotate_left
  ·show Act.put _ (some 16) _=_
   exact pP
  refine pu 9 (some 2) #[true,true,true,true,true,true,true,true,true,true,false,false] (h:=?_)
  refine pu 10 (some 3) #[true,true,true,true,true,true,true,true,true,true,true,false] (h:=?_)
  refine pu 11 (some 4) #[true,true,true,true,true,true,true,true,true,true,true,true] (h:=?_)
  refine done_ (Zex HT_.out (by kernel_rfl)) ?_
  try go_wp2
  go_ret3
  exact ⟨_,_,pE,by refine rp ?_;exact Kd.Zo qt.o (fun _ hk=>(by simp [Value.ownBlock])),pN,pB⟩
 ·replace H:=ob H
  obtain ⟨qh,A14,H⟩:=H
  replace H:=ob H
  obtain ⟨⟨q0,q1,q2⟩,A15,H⟩:=H;(try dsimp only at H)
  simp only [Option.some.injEq,Prod.mk.injEq] at H
  obtain ⟨rfl,rfl,rfl⟩:=H
  go_enter Tryz.func83,Tryz.ntmps83
  try go_wp2_with (first|((with_reducible refine gd 1 ?_);refine bx 1 #[.bool a0_0,.slice A0_1 l0_1.length c0_1,.int .i64 a0_2] 24 (h:=?_);intro qd hg w16 hbox hb;have qa:=am hbox;have qs:=gW hg;have qr:=gW hg;replace HB:=bS hb;clear hb hbox hg;obtain ⟨_,_,_,_,_,_⟩:=cEc qa.o))
  replace qa:=am (Zc7 qa.o)
  replace HB:=am (Zbh HB.o)
  refine start_ (n:=13) (S:=fun w'=>w'.cell? ⟨qd,0,none⟩=some (.bool a0_0)/\w'.cell? ⟨qd,1,none⟩=some (.slice A0_1 l0_1.length c0_1)/\w'.cell? ⟨qd,2,none⟩=some (.int .i64 a0_2)) (ds:=[]) #[false,false,false,false,false,false,false,false,false,false,false,false,false] (by kernel_rfl) rfl rfl ⟨k0 qa 0,k0 qa 1,k0 qa 2⟩ (fun hHeld=>?_);refine Zdo Zao.tab3 Zao.bits3 (fun HT_ HW_=>?_)
  generalize w16.drew=w18 at qa HB hHeld ⊢
  refine pu 0 (some 18) #[true,false,false,false,false,false,false,false,false,false,false,false,false] (h:=?_)
  refine pu 2 (some 20) #[true,false,true,false,false,false,false,false,false,false,false,false,false] (h:=?_)
  refine take_ (i:=1) (N:=some 19) (v:=?_) (a':=?_) #[true,true,true,false,false,false,false,false,false,false,false,false,false] rfl rfl (Zcs HT_.out HW_.out (by kernel_rfl)) (fun _ _ _ h=>h) (Or.inl ⟨by rfl,?_⟩) hHeld ?_ ?_
  rotate_left
  ·rintro w' ⟨s0,s1,s2⟩
   go_simp
   with_reducible rfl
  rotate_left
  ·exact pP
  refine take_ (i:=3) (N:=some 21) (v:=?_) (a':=?_) #[true,true,true,true,false,false,false,false,false,false,false,false,false] rfl rfl (Zcs HT_.out HW_.out (by kernel_rfl)) (fun _ _ _ h=>h) (Or.inl ⟨by rfl,?_⟩) hHeld ?_ ?_
  rotate_left
  ·rintro w' ⟨s0,s1,s2⟩
   go_simp
   with_reducible rfl
  rotate_left
  ·exact pP
  refine pu 4 (some 22) #[true,true,true,true,true,false,false,false,false,false,false,false,false] (h:=?_)
  refine one_ (i:=5) (N:=some 23) #[true,true,true,true,true,true,false,false,false,false,false,false,false] rfl rfl (Zc6 HT_.out (by kernel_rfl)) (by decide) (fun K hK=>?_)
  refine goes_ Tryz.func72 (by kernel_rfl) rfl #[.int .i64 (wrap64 (-a0_2))] (by rfl) rfl rfl pA ?_
  with_reducible refine (Zbq.calls k (wrap64 (-a0_2)) qh _ A14.o).mono ?_
  rintro e w19 ⟨q6,rfl,ho0,hb⟩
  refine ⟨_,rfl,?_⟩
  have qc:=am (Kd.Zn ho0 (Zb pB))
  replace qa:=bb qa hb
  replace HB:=bS hb
  obtain ⟨qy,qz,qx⟩:=Kd.Zh qc.o
  (first|subst qx|(injection qx with f1_ f2_ f3_;have f4_:=f1_.symm;have f5_:=f3_.symm;clear f1_ f2_ f3_;subst f4_;subst f5_))
  refine hK.out _ _ ⟨k0 qa 0,k0 qa 1,k0 qa 2⟩ (fun hHeld=>?_)
  clear hK K
  refine norm_ (a':=?_) ?_ ?_
  rotate_left
  ·show Act.put _ (some 23) _=_
   exact pP
  refine one_ (i:=6) (N:=some 24) #[true,true,true,true,true,true,true,false,false,false,false,false,false] rfl rfl (Zc6 HT_.out (by kernel_rfl)) (by decide) (fun K hK=>?_)
  refine goes_ Tryz.func69 (by kernel_rfl) rfl #[.slice A0_1 l0_1.length c0_1,.slice qy qh.length qz] (by rfl) rfl rfl pA ?_
  with_reducible refine (Zcz.calls k _ _ l0_1 _ _ qh q0 q1 q2 _ ?side1 ?side2 ?side3 ?side4 A15.o).mono ?_
  (case side1=>exact cB HR0_1 HB)
  (case side2=>exact HC0_1.o)
  (case side3=>exact Kd.Zi (Kd.Zc qc.o).2.2 pl)
  (case side4=>exact (Kd.Zc qc.o).2.1)
  rintro e w21 ⟨q7,q8,rfl,ho0,ho1,hb⟩
  refine ⟨_,rfl,?_⟩
  have qj:=am (Kd.Zn (Kd.Zf ho0 (Kd.R_lt (Kd.Za qc.o pl))) (Zb pB))
  have qk:=am (Kd.Zn (Kd.Zf ho1 (Kd.R_lt (Kd.Za qc.o pl))) (Zb pB))
  replace qc:=am (Kd.Zo (Kd.Zbr (Kd.Zbr (Kd.Ze2 (Kd.Za qc.o pl) hb) (Kd.Zt ho0)) (Kd.Zt ho1)) (fun _ h_=>h_.1))
  replace qa:=bb qa hb
  replace HB:=bS hb
  refine hK.out _ _ ⟨k0 qa 0,k0 qa 1,k0 qa 2⟩ (fun hHeld=>?_)
  clear hK K
  refine norm_ (a':=?_) ?_ ?_
  rotate_left
  ·show Act.put _ (some 24) _=_
   exact pP
  refine pu 7 (some 17) #[true,true,true,true,true,true,true,true,false,false,false,false,false] (h:=?_)
  refine pu 8 (some 25) #[true,true,true,true,true,true,true,true,true,false,false,false,false] (h:=?_)
  refine pu 9 (some 26) #[true,true,true,true,true,true,true,true,true,true,false,false,false] (h:=?_)
  refine pu 10 (some 27) #[true,true,true,true,true,true,true,true,true,true,true,false,false] (h:=?_)
  refine pu 11 (some 2) #[true,true,true,true,true,true,true,true,true,true,true,true,false] (h:=?_)
  refine pu 12 (some 3) #[true,true,true,true,true,true,true,true,true,true,true,true,true] (h:=?_)
  refine done_ (Zex HT_.out (by kernel_rfl)) ?_
  try go_wp2
  replace qc:=am (Kd.Zh5 qc.o)
  replace qj:=am (Kd.Zh5 qj.o)
  replace qk:=am (Kd.Zh5 qk.o)
  replace qa:=am (Zc7 qa.o)
  replace HB:=am (Zbh HB.o)
  refine start_ (n:=8) (S:=fun w'=>w'.cell? ⟨qd,0,none⟩=some (.bool a0_0)/\w'.cell? ⟨qd,1,none⟩=some (.slice A0_1 l0_1.length c0_1)/\w'.cell? ⟨qd,2,none⟩=some (.int .i64 a0_2)) (ds:=[]) #[false,false,false,false,false,false,false,false] (by kernel_rfl) rfl rfl ⟨k0 qa 0,k0 qa 1,k0 qa 2⟩ (fun hHeld=>?_);refine Zdo Zao.tab4 Zao.bits4 (fun HT_ HW_=>?_)
  generalize w21.drew=w22 at qc qj qk qa HB hHeld ⊢
  refine pu 0 (some 28) #[true,false,false,false,false,false,false,false] (h:=?_)
  refine pu 1 (some 29) #[true,true,false,false,false,false,false,false] (h:=?_)
  refine pu 2 (some 30) #[true,true,true,false,false,false,false,false] (h:=?_)
  refine pu 5 (some 2) #[true,true,true,false,false,true,false,false] (h:=?_)
  refine pu 6 (some 3) #[true,true,true,false,false,true,true,false] (h:=?_)
  refine take_ (i:=3) (N:=some 31) (v:=?_) (a':=?_) #[true,true,true,true,false,true,true,false] rfl rfl (Zcs HT_.out HW_.out (by kernel_rfl)) (fun _ _ _ h=>h) (Or.inl ⟨by rfl,?_⟩) hHeld ?_ ?_
  rotate_left
  ·rintro w' ⟨s0,s1,s2⟩
   go_simp
   with_reducible rfl
  rotate_left
  ·exact pP
  refine pu 4 (some 32) #[true,true,true,true,true,true,true,false] (h:=?_)
  refine pu 7 (some 4) #[true,true,true,true,true,true,true,true] (h:=?_)
  refine done_ (Zex HT_.out (by kernel_rfl)) ?_
  try go_wp2
  go_ret3
  exact ⟨_,_,pE,by refine rp ?_;exact Kd.Zo qj.o (fun _ hk=>hk.1),by refine rp ?_;exact Kd.Zo qk.o (fun _ hk=>hk.1),pB⟩
def Zd0.f (k:Nat) (a0_0:Bool) (l0_1:List Int) (a0_2:Int) (a1_0:Bool) (l1_1:List Int) (a1_2:Int):Option (Bool × List Int × Int × Int):=(Zdi.f k (([(⟨a0_0,l0_1,a0_2⟩:S24),(⟨a1_0,l1_1,a1_2⟩:S24)]:List (S24)))).bind fun qj=>(if qj=0 then ((Zao.f k a0_0 l0_1 a0_2).bind fun ql=>((Zao.f k a1_0 l1_1 a1_2).bind fun qm=>((Zcz.f k ql.1 qm.1).bind fun qi=>(if qi.2.2=0 then ((Zan.f k a0_0 qi.2.1 0).bind fun qg=>(some (qg.1,qg.2.1,qg.2.2.1,qg.2.2.2))) else (some (false,([]:List Int),0,qi.2.2)))))) else (some (false,([]:List Int),0,qj)))
theorem Zd0.leaf {P:Prop} (h:P:=by
 go_enter Tryz.func28,Tryz.ntmps28
 go_wp2_with (first|((with_reducible refine gd 2 ?_);refine bx 2 #[.bool a0_0,.slice A0_1 l0_1.length c0_1,.int .i64 a0_2] 24 (h:=?_);intro gb0z hg w1z hbox hb;have BK2z:=am hbox;have GW3z:=gW hg;replace HO0_1:=vE HO0_1 gb0z hg hb;replace HO1_1:=vE HO1_1 gb0z hg hb;replace HB:=bS hb;clear hb hbox hg)|((with_reducible refine gd 3 ?_);refine bx 3 #[.bool a1_0,.slice A1_1 l1_1.length c1_1,.int .i64 a1_2] 24 (h:=?_);intro gb5z hg w6z hbox hb;have BK7z:=am hbox;have GW8z:=gW hg;have jl:=nL hg BK2z;have jm:=nG hg BK2z;replace HO0_1:=vE HO0_1 gb5z hg hb;replace HO1_1:=vE HO1_1 gb5z hg hb;replace BK2z:=bb BK2z hb;replace HB:=bS hb;clear hb hbox hg)|((with_reducible refine gd 4 ?_);refine bx 4 #[.bool false,.slice none 0 0,.int .i64 0] 24 (h:=?_);intro qf hg w13z hbox hb;have qa:=am hbox;have j8:=gW hg;have jn:=nL hg BK2z;have jo:=nG hg BK2z;have jp:=nL hg BK7z;have jq:=nG hg BK7z;replace HO0_1:=vE HO0_1 qf hg hb;replace HO1_1:=vE HO1_1 qf hg hb;replace BK2z:=bb BK2z hb;replace BK7z:=bb BK7z hb;replace HB:=bS hb;clear hb hbox hg;have jx:=jl.o;have j0:=jm.o;have jy:=jn.o;have j1:=jo.o;obtain ⟨_,_,_,_,_,_⟩:=cEc BK2z.o;have jz:=jp.o;have j2:=jq.o;obtain ⟨_,_,_,_,_,_⟩:=cEc BK7z.o)|((with_reducible refine gd 18 ?_);refine Kd.Ztv k24 _ 24 ?hg (N':=18) ?hd (xs:=([(⟨a0_0,l0_1,a0_2⟩:S24),(⟨a1_0,l1_1,a1_2⟩:S24)]:List (S24))) (inner:=[.bool a0_0,.slice A0_1 l0_1.length c0_1,.int .i64 a0_2,.bool a1_0,.slice A1_1 l1_1.length c1_1,.int .i64 a1_2]) (ok:=(fun k_=>((P0_1_ k_\/P1_1_ k_)\/w.heap.size<=k_)/\k_ ≠ gb0z/\k_ ≠ gb5z/\k_ ≠ qf)) (okp:=(fun k_=>((P0_1_ k_\/P1_1_ k_)\/w.heap.size<=k_)/\k_ ≠ gb0z/\k_ ≠ gb5z/\k_ ≠ qf)) ?hr ?hp (fun _ hk=>hk) ((show ∀ k_,w13z.heap.size<=k_->(fun k_=>((P0_1_ k_\/P1_1_ k_)\/w.heap.size<=k_)/\k_ ≠ gb0z/\k_ ≠ gb5z/\k_ ≠ qf) k_ from fun k_ hk=>⟨(.inr (Nat.le_trans (Zb pB) hk)),Kd.freshB (g:=gb0z) (o:=.cells #[.bool a0_0,.slice A0_1 l0_1.length c0_1,.int .i64 a0_2] 24 (0,0)) (Zg BK2z.o pl) k_ hk,Kd.freshB (g:=gb5z) (o:=.cells #[.bool a1_0,.slice A1_1 l1_1.length c1_1,.int .i64 a1_2] 24 (0,0)) (Zg BK7z.o pl) k_ hk,Kd.freshB (g:=qf) (o:=.cells #[.bool false,.slice none 0 0,.int .i64 0] 24 (0,0)) (Zg qa.o pl) k_ hk⟩) _ (Nat.le_refl _)) (Below.refl _ _) (Nat.le_refl _) (by simp) ?_;(case hd=>rfl);(case hg=>rfl);(case hr=>first|(go_simp;done)|(go_simp;rfl));(case hp=>exact (Reps.c3 (show Kd.FK k24 _ _ (⟨a0_0,l0_1,a0_2⟩:S24) [.bool a0_0,.slice A0_1 l0_1.length c0_1,.int .i64 a0_2] from (Zj9 _ _ (⟨a0_0,l0_1,a0_2⟩:S24) (Kd.Za5 (Kd.Zb5 (ok':=(fun k_=>((P0_1_ k_\/P1_1_ k_)\/w.heap.size<=k_)/\k_ ≠ gb0z/\k_ ≠ gb5z/\k_ ≠ qf)) (HO0_1.o) (fun k_ hk=>⟨hk.1.1.1,⟨hk.1.1.2,⟨hk.1.2,hk.2⟩⟩⟩))).2.1 (Kd.V_F (Kd.Zb5 (ok':=(fun k_=>((P0_1_ k_\/P1_1_ k_)\/w.heap.size<=k_)/\k_ ≠ gb0z/\k_ ≠ gb5z/\k_ ≠ qf)) (HO0_1.o) (fun k_ hk=>⟨hk.1.1.1,⟨hk.1.1.2,⟨hk.1.2,hk.2⟩⟩⟩))))) (Reps.c3 (show Kd.FK k24 _ _ (⟨a1_0,l1_1,a1_2⟩:S24) [.bool a1_0,.slice A1_1 l1_1.length c1_1,.int .i64 a1_2] from (Zj9 _ _ (⟨a1_0,l1_1,a1_2⟩:S24) (Kd.Za5 (Kd.Zb5 (ok':=(fun k_=>((P0_1_ k_\/P1_1_ k_)\/w.heap.size<=k_)/\k_ ≠ gb0z/\k_ ≠ gb5z/\k_ ≠ qf)) (HO1_1.o) (fun k_ hk=>⟨hk.1.1.1,⟨hk.1.1.2,⟨hk.1.2,hk.2⟩⟩⟩))).2.1 (Kd.V_F (Kd.Zb5 (ok':=(fun k_=>((P0_1_ k_\/P1_1_ k_)\/w.heap.size<=k_)/\k_ ≠ gb0z/\k_ ≠ gb5z/\k_ ≠ qf)) (HO1_1.o) (fun k_ hk=>⟨hk.1.1.1,⟨hk.1.1.2,⟨hk.1.2,hk.2⟩⟩⟩))))) (Reps.none _ _))));intro v39z w40z ho41z hb hg_ hnew_;clear hg_ hnew_;(first|rw [<- qz.out] at ho41z|(simp only [Int.reduceToNat] at ho41z;rw [<- qz.out] at ho41z));replace HO0_1:=am (Kd.Zcx (Kd.Zbn HO0_1.o pl) (Kd.Zm0 ho41z) hb);replace HO1_1:=am (Kd.Zcx (Kd.Zbn HO1_1.o pl) (Kd.Zm0 ho41z) hb);have qc:=am (Kd.Zoz ho41z (Zb pB));replace BK2z:=bb BK2z hb;replace BK7z:=bb BK7z hb;replace qa:=bb qa hb;replace HB:=bS hb;clear hb ho41z;obtain ⟨qv,q0,js⟩:=Kd.Zo0 qc.o;subst js)|((have q_:=A7;clear q_);refine gL (some 19) Tryz.func67 #[.slice qv qt.length q0] (h:=?_);(with_reducible refine (Zdi.calls k _ _ qt qj _ ?side1 ?side2 A3.o).mono ?_);(case side1=>exact Kd.Zi (Kd.Zeq qc.o).2.2 pl);(case side2=>exact (Kd.Zeq qc.o).2.1);rintro e w46z ⟨rfl,hb⟩;refine ⟨_,rfl,?_⟩;replace HO0_1:=vbl HO0_1 hb;replace HO1_1:=vbl HO1_1 hb;replace qc:=nbl qc hb;replace BK2z:=bb BK2z hb;replace BK7z:=bb BK7z hb;replace qa:=bb qa hb;replace HB:=bS hb;obtain ⟨q4,q5,q6,ja,jb,jc⟩:=cEc BK2z.o)|(refine gL (some 26) Tryz.func83 #[.agg #[.bool a0_0,.slice A0_1 l0_1.length c0_1,.int .i64 a0_2]] (h:=?_);(with_reducible refine (Zao.calls k a0_0 _ _ l0_1 a0_2 qr j3 j4 _ ?side1 ?side2 A5.o).mono ?_);(case side1=>exact Kd.Zi (Kd.Za5 HO0_1.o).2.2 pl);(case side2=>exact (Kd.Za5 HO0_1.o).2.1);rintro e w53z ⟨v54z,v55z,rfl,ho56z,ho57z,hb⟩;refine ⟨_,rfl,?_⟩;replace HO0_1:=am (Kd.Zb5 (Kd.Zdt (Kd.Zdt (Kd.Zid (Kd.Zbn HO0_1.o pl) hb) (Kd.Zt ho56z)) (Kd.Zt ho57z)) (fun _ h_=>h_.1));replace HO1_1:=am (Kd.Zb5 (Kd.Zdt (Kd.Zdt (Kd.Zid (Kd.Zbn HO1_1.o pl) hb) (Kd.Zt ho56z)) (Kd.Zt ho57z)) (fun _ h_=>h_.1));replace qc:=am (Kd.Zga (Kd.Zf7 (Kd.Zf7 (Kd.Zn6 (Kd.Zdp qc.o pl) hb) (Kd.Zt ho56z)) (Kd.Zt ho57z)) (fun _ h_=>h_.1));have qb:=am (Kd.Zn (Kd.Zd4 (M:=fun k_=>(w.heap.size<=k_)) ho56z (Zb pB) (fun k_ h_=>h_)) (Zb pB));have qe:=am (Kd.Zn (Kd.Zd4 (M:=fun k_=>(w.heap.size<=k_)) ho57z (Zb pB) (fun k_ h_=>h_)) (Zb pB));replace BK2z:=bb BK2z hb;replace BK7z:=bb BK7z hb;replace qa:=bb qa hb;replace HB:=bS hb;obtain ⟨_,_,_,_,_,_⟩:=cEc BK7z.o)|(refine gL (some 32) Tryz.func83 #[.agg #[.bool a1_0,.slice A1_1 l1_1.length c1_1,.int .i64 a1_2]] (h:=?_);(with_reducible refine (Zao.calls k a1_0 _ _ l1_1 a1_2 qs j5 j6 _ ?side1 ?side2 A6.o).mono ?_);(case side1=>exact Kd.Zi (Kd.Za5 HO1_1.o).2.2 pl);(case side2=>exact (Kd.Za5 HO1_1.o).2.1);rintro e w66z ⟨v67z,v68z,rfl,ho56z,ho57z,hb⟩;refine ⟨_,rfl,?_⟩;have qd:=am (Kd.Zn (Kd.Zf (Kd.Zf (Kd.Zd4 (M:=fun k_=>(w.heap.size<=k_)) ho56z (Zb pB) (fun k_ h_=>h_)) (Kd.R_lt (Kd.Za qb.o pl))) (Kd.R_lt (Kd.Za qe.o pl))) (Zb pB));have qh:=am (Kd.Zn (Kd.Zf (Kd.Zf (Kd.Zd4 (M:=fun k_=>(w.heap.size<=k_)) ho57z (Zb pB) (fun k_ h_=>h_)) (Kd.R_lt (Kd.Za qb.o pl))) (Kd.R_lt (Kd.Za qe.o pl))) (Zb pB));replace HO0_1:=am (Kd.Zb5 (Kd.Zdt (Kd.Zdt (Kd.Zid (Kd.Zbn HO0_1.o pl) hb) (Kd.Zt ho56z)) (Kd.Zt ho57z)) (fun _ h_=>h_.1));replace HO1_1:=am (Kd.Zb5 (Kd.Zdt (Kd.Zdt (Kd.Zid (Kd.Zbn HO1_1.o pl) hb) (Kd.Zt ho56z)) (Kd.Zt ho57z)) (fun _ h_=>h_.1));replace qc:=am (Kd.Zga (Kd.Zf7 (Kd.Zf7 (Kd.Zn6 (Kd.Zdp qc.o pl) hb) (Kd.Zt ho56z)) (Kd.Zt ho57z)) (fun _ h_=>h_.1));replace qb:=am (Kd.Zo (Kd.Zbr (Kd.Zbr (Kd.Ze2 (Kd.Za qb.o pl) hb) (Kd.Zt ho56z)) (Kd.Zt ho57z)) (fun _ h_=>h_.1));replace qe:=am (Kd.Zo (Kd.Zbr (Kd.Zbr (Kd.Ze2 (Kd.Za qe.o pl) hb) (Kd.Zt ho56z)) (Kd.Zt ho57z)) (fun _ h_=>h_.1));replace BK2z:=bb BK2z hb;replace BK7z:=bb BK7z hb;replace qa:=bb qa hb;replace HB:=bS hb;obtain ⟨qw,q1,jt⟩:=Kd.Zh qb.o;subst jt;obtain ⟨qx,q2,ju⟩:=Kd.Zh qd.o;subst ju)|((have q_:=A9;clear q_);refine gL (some 39) Tryz.func69 #[.slice qw qr.length q1,.slice qx qs.length q2] (h:=?_);(with_reducible refine (Zcz.calls k _ _ qr _ _ qs jw qu jg _ ?side1 ?side2 ?side3 ?side4 A7.o).mono ?_);(case side1=>exact Kd.Zi (Kd.Zc qb.o).2.2 pl);(case side2=>exact (Kd.Zc qb.o).2.1);(case side3=>exact Kd.Zi (Kd.Zc qd.o).2.2 pl);(case side4=>exact (Kd.Zc qd.o).2.1);rintro e w77z ⟨v78z,v79z,rfl,ho56z,ho57z,hb⟩;refine ⟨_,rfl,?_⟩;have qn:=am (Kd.Zn (Kd.Zf (Kd.Zf (Kd.Zf (Kd.Zf (Kd.Zd4 (M:=fun k_=>(w.heap.size<=k_)) ho56z (Zb pB) (fun k_ h_=>h_)) (Kd.R_lt (Kd.Za qb.o pl))) (Kd.R_lt (Kd.Za qe.o pl))) (Kd.R_lt (Kd.Za qd.o pl))) (Kd.R_lt (Kd.Za qh.o pl))) (Zb pB));have qk:=am (Kd.Zn (Kd.Zf (Kd.Zf (Kd.Zf (Kd.Zf (Kd.Zd4 (M:=fun k_=>(w.heap.size<=k_)) ho57z (Zb pB) (fun k_ h_=>h_)) (Kd.R_lt (Kd.Za qb.o pl))) (Kd.R_lt (Kd.Za qe.o pl))) (Kd.R_lt (Kd.Za qd.o pl))) (Kd.R_lt (Kd.Za qh.o pl))) (Zb pB));replace HO0_1:=am (Kd.Zb5 (Kd.Zdt (Kd.Zdt (Kd.Zid (Kd.Zbn HO0_1.o pl) hb) (Kd.Zt ho56z)) (Kd.Zt ho57z)) (fun _ h_=>h_.1));replace HO1_1:=am (Kd.Zb5 (Kd.Zdt (Kd.Zdt (Kd.Zid (Kd.Zbn HO1_1.o pl) hb) (Kd.Zt ho56z)) (Kd.Zt ho57z)) (fun _ h_=>h_.1));replace qc:=am (Kd.Zga (Kd.Zf7 (Kd.Zf7 (Kd.Zn6 (Kd.Zdp qc.o pl) hb) (Kd.Zt ho56z)) (Kd.Zt ho57z)) (fun _ h_=>h_.1));replace qb:=am (Kd.Zo (Kd.Zbr (Kd.Zbr (Kd.Ze2 (Kd.Za qb.o pl) hb) (Kd.Zt ho56z)) (Kd.Zt ho57z)) (fun _ h_=>h_.1));replace qe:=am (Kd.Zo (Kd.Zbr (Kd.Zbr (Kd.Ze2 (Kd.Za qe.o pl) hb) (Kd.Zt ho56z)) (Kd.Zt ho57z)) (fun _ h_=>h_.1));replace qd:=am (Kd.Zo (Kd.Zbr (Kd.Zbr (Kd.Ze2 (Kd.Za qd.o pl) hb) (Kd.Zt ho56z)) (Kd.Zt ho57z)) (fun _ h_=>h_.1));replace qh:=am (Kd.Zo (Kd.Zbr (Kd.Zbr (Kd.Ze2 (Kd.Za qh.o pl) hb) (Kd.Zt ho56z)) (Kd.Zt ho57z)) (fun _ h_=>h_.1));replace BK2z:=bb BK2z hb;replace BK7z:=bb BK7z hb;replace qa:=bb qa hb;replace HB:=bS hb;obtain ⟨q7,q8,q9,jd,je,jf⟩:=cEc BK2z.o;obtain ⟨jk,jr,jv⟩:=Kd.Zh qk.o;subst jv)|(refine gL (some 50) Tryz.func60 #[.bool a0_0,.slice jk qu.length jr,.int .i64 0] (h:=?_);(with_reducible refine (Zan.calls k a0_0 _ _ qu 0 jh ji jj j7 _ ?side1 ?side2 A9.o).mono ?_);(case side1=>exact Kd.Zi (Kd.Zc qk.o).2.2 pl);(case side2=>exact (Kd.Zc qk.o).2.1);rintro e w91z ⟨v92z,rfl,ho56z,hb⟩;refine ⟨_,rfl,?_⟩;have qy:=am (Kd.Zn (Kd.Zf (Kd.Zf (Kd.Zf (Kd.Zf (Kd.Zf (Kd.Zf (Kd.Zd4 (M:=fun k_=>(w.heap.size<=k_)) ho56z (Zb pB) (fun k_ h_=>h_)) (Kd.R_lt (Kd.Za qb.o pl))) (Kd.R_lt (Kd.Za qe.o pl))) (Kd.R_lt (Kd.Za qd.o pl))) (Kd.R_lt (Kd.Za qh.o pl))) (Kd.R_lt (Kd.Za qn.o pl))) (Kd.R_lt (Kd.Za qk.o pl))) (Zb pB));replace HO0_1:=am (Kd.Zcx (Kd.Zbn HO0_1.o pl) (Kd.Zt ho56z) hb);replace HO1_1:=am (Kd.Zcx (Kd.Zbn HO1_1.o pl) (Kd.Zt ho56z) hb);replace qc:=am (Kd.Zfy (Kd.Zdp qc.o pl) (Kd.Zt ho56z) hb);replace qb:=reR qb ho56z hb;replace qe:=reR qe ho56z hb;replace qd:=reR qd ho56z hb;replace qh:=reR qh ho56z hb;replace qn:=reR qn ho56z hb;replace qk:=reR qk ho56z hb;replace BK2z:=bb BK2z hb;replace BK7z:=bb BK7z hb;replace qa:=bb qa hb;replace HB:=bS hb;obtain ⟨_,_,_,_,_,_⟩:=cEc qa.o;obtain ⟨qo,qp,q3⟩:=Kd.Zh qy.o;subst q3)|((have q_:(jg != 0)=true:=c8b1;clear q_);refine gL (some 39) Tryz.func69 #[.slice qw qr.length q1,.slice qx qs.length q2] (h:=?_);(with_reducible refine (Zcz.calls k _ _ qr _ _ qs jw qu jg _ ?side1 ?side2 ?side3 ?side4 A7.o).mono ?_);(case side1=>exact Kd.Zi (Kd.Zc qb.o).2.2 pl);(case side2=>exact (Kd.Zc qb.o).2.1);(case side3=>exact Kd.Zi (Kd.Zc qd.o).2.2 pl);(case side4=>exact (Kd.Zc qd.o).2.1);rintro e w77z ⟨v78z,v79z,rfl,ho56z,ho57z,hb⟩;refine ⟨_,rfl,?_⟩;have qn:=am (Kd.Zn (Kd.Zf (Kd.Zf (Kd.Zf (Kd.Zf (Kd.Zd4 (M:=fun k_=>(w.heap.size<=k_)) ho56z (Zb pB) (fun k_ h_=>h_)) (Kd.R_lt (Kd.Za qb.o pl))) (Kd.R_lt (Kd.Za qe.o pl))) (Kd.R_lt (Kd.Za qd.o pl))) (Kd.R_lt (Kd.Za qh.o pl))) (Zb pB));have qk:=am (Kd.Zn (Kd.Zf (Kd.Zf (Kd.Zf (Kd.Zf (Kd.Zd4 (M:=fun k_=>(w.heap.size<=k_)) ho57z (Zb pB) (fun k_ h_=>h_)) (Kd.R_lt (Kd.Za qb.o pl))) (Kd.R_lt (Kd.Za qe.o pl))) (Kd.R_lt (Kd.Za qd.o pl))) (Kd.R_lt (Kd.Za qh.o pl))) (Zb pB));replace HO0_1:=am (Kd.Zb5 (Kd.Zdt (Kd.Zdt (Kd.Zid (Kd.Zbn HO0_1.o pl) hb) (Kd.Zt ho56z)) (Kd.Zt ho57z)) (fun _ h_=>h_.1));replace HO1_1:=am (Kd.Zb5 (Kd.Zdt (Kd.Zdt (Kd.Zid (Kd.Zbn HO1_1.o pl) hb) (Kd.Zt ho56z)) (Kd.Zt ho57z)) (fun _ h_=>h_.1));replace qc:=am (Kd.Zga (Kd.Zf7 (Kd.Zf7 (Kd.Zn6 (Kd.Zdp qc.o pl) hb) (Kd.Zt ho56z)) (Kd.Zt ho57z)) (fun _ h_=>h_.1));replace qb:=am (Kd.Zo (Kd.Zbr (Kd.Zbr (Kd.Ze2 (Kd.Za qb.o pl) hb) (Kd.Zt ho56z)) (Kd.Zt ho57z)) (fun _ h_=>h_.1));replace qe:=am (Kd.Zo (Kd.Zbr (Kd.Zbr (Kd.Ze2 (Kd.Za qe.o pl) hb) (Kd.Zt ho56z)) (Kd.Zt ho57z)) (fun _ h_=>h_.1));replace qd:=am (Kd.Zo (Kd.Zbr (Kd.Zbr (Kd.Ze2 (Kd.Za qd.o pl) hb) (Kd.Zt ho56z)) (Kd.Zt ho57z)) (fun _ h_=>h_.1));replace qh:=am (Kd.Zo (Kd.Zbr (Kd.Zbr (Kd.Ze2 (Kd.Za qh.o pl) hb) (Kd.Zt ho56z)) (Kd.Zt ho57z)) (fun _ h_=>h_.1));replace BK2z:=bb BK2z hb;replace BK7z:=bb BK7z hb;replace qa:=bb qa hb;replace HB:=bS hb;obtain ⟨q7,q8,q9,jd,je,jf⟩:=cEc qa.o)|((have q_:(qj != 0)=true:=c4b1;clear q_);refine gL (some 19) Tryz.func67 #[.slice qv qt.length q0] (h:=?_);(with_reducible refine (Zdi.calls k _ _ qt qj _ ?side1 ?side2 A3.o).mono ?_);(case side1=>exact Kd.Zi (Kd.Zeq qc.o).2.2 pl);(case side2=>exact (Kd.Zeq qc.o).2.1);rintro e w46z ⟨rfl,hb⟩;refine ⟨_,rfl,?_⟩;replace HO0_1:=vbl HO0_1 hb;replace HO1_1:=vbl HO1_1 hb;replace qc:=nbl qc hb;replace BK2z:=bb BK2z hb;replace BK7z:=bb BK7z hb;replace qa:=bb qa hb;replace HB:=bS hb;obtain ⟨q4,q5,q6,ja,jb,jc⟩:=cEc qa.o))
 first
  | have q_:=A9
    refine bodyPost_ret (Zae rfl _ _ qf 24 #[.bool jh,.slice qo ji.length qp,.int .i64 jj] (0,0) _ rfl (by exact p3 qa) Tryz.underlying24 rfl (by kernel_rfl)) rfl ?_
    exact ⟨_,pE,by refine rp ?_;exact Kd.Zo (Kd.Zau (p:=⟨qf,2,none⟩) (Kd.Zau (p:=⟨qf,1,none⟩) (Kd.Zau (p:=⟨qf,0,none⟩) (Kd.Zba qy.o qa.o (by decide)) (fun _ hk=>hk.2) (.bool jh)) (fun _ hk=>hk.2) (.slice qo ji.length qp)) (fun _ hk=>hk.2) (.int .i64 jj)) (fun _ hk=>hk.1.1.1.1.1.1.1.1),pB⟩
  | refine bodyPost_ret (Zae rfl _ _ qf 24 #[.bool false,.slice none 0 0,.int .i64 0] (0,0) _ rfl (by exact p3 qa) Tryz.underlying24 rfl (by kernel_rfl)) rfl ?_
    exact ⟨_,pE,pN,pB⟩):P:=h
theorem Zd0.calls (k:Nat) (a0_0:Bool) (P0_1_:Nat->Prop) (A0_1:Option Addr) (c0_1:Nat) (l0_1:List Int) (a0_2:Int) (a1_0:Bool) (P1_1_:Nat->Prop) (A1_1:Option Addr) (c1_1:Nat) (l1_1:List Int) (a1_2:Int) (r1:Bool) (r2:List Int) (r3:Int) (r4:Int) (w:World) (hs0_1:Kd.V (Kd.int .u32) 85 w w.heap.size (fun k_=>P0_1_ k_) (.slice A0_1 l0_1.length c0_1) l0_1) (hs1_1:Kd.V (Kd.int .u32) 85 w w.heap.size (fun k_=>P1_1_ k_) (.slice A1_1 l1_1.length c1_1) l1_1) (h:Zd0.f k a0_0 l0_1 a0_2 a1_0 l1_1 a1_2=some (r1,r2,r3,r4)) :
  Calls Tryz.prog 28 #[.agg #[.bool a0_0,.slice A0_1 l0_1.length c0_1,.int .i64 a0_2],.agg #[.bool a1_0,.slice A1_1 l1_1.length c1_1,.int .i64 a1_2]] w fun e w' => ∃ v1_:Value,e=.returned (.tuple #[.agg #[.bool r1,v1_,.int .i64 r3],.int .i64 r4])/\Kd.R (Kd.int .u32) 85 w' w.heap.size (fun k_=>(w.heap.size<=k_)) v1_ r2/\Below w.heap.size w w':=by
 have hu24:=Tryz.underlying24
 have HO0_1:=am (show Kd.V (Kd.int .u32) 85 w w.heap.size (fun k_=>((P0_1_ k_\/P1_1_ k_)\/w.heap.size<=k_)) (.slice A0_1 l0_1.length c0_1) l0_1 from Kd.Zb5 hs0_1 (fun k_ hk=>.inl (.inl hk)))
 have HO1_1:=am (show Kd.V (Kd.int .u32) 85 w w.heap.size (fun k_=>((P0_1_ k_\/P1_1_ k_)\/w.heap.size<=k_)) (.slice A1_1 l1_1.length c1_1) l1_1 from Kd.Zb5 hs1_1 (fun k_ hk=>.inl (.inr hk)))
 have HB:=am (Below.refl w.heap.size w)
 have H:((Zdi.f k (([(⟨a0_0,l0_1,a0_2⟩:S24),(⟨a1_0,l1_1,a1_2⟩:S24)]:List (S24)))).bind fun qj=>(if qj=0 then ((Zao.f k a0_0 l0_1 a0_2).bind fun ql=>((Zao.f k a1_0 l1_1 a1_2).bind fun qm=>((Zcz.f k ql.1 qm.1).bind fun qi=>(if qi.2.2=0 then ((Zan.f k a0_0 qi.2.1 0).bind fun qg=>(some (qg.1,qg.2.1,qg.2.2.1,qg.2.2.2))) else (some (false,([]:List Int),0,qi.2.2)))))) else (some (false,([]:List Int),0,qj))))=some (r1,r2,r3,r4):=h
 clear h
 obtain ⟨qt,qq⟩:∃ y_:List (S24),y_=(([(⟨a0_0,l0_1,a0_2⟩:S24),(⟨a1_0,l1_1,a1_2⟩:S24)]:List (S24))):=⟨_,rfl⟩
 replace H:((Zdi.f k qt).bind fun qj=>(if qj=0 then ((Zao.f k a0_0 l0_1 a0_2).bind fun ql=>((Zao.f k a1_0 l1_1 a1_2).bind fun qm=>((Zcz.f k ql.1 qm.1).bind fun qi=>(if qi.2.2=0 then ((Zan.f k a0_0 qi.2.1 0).bind fun qg=>(some (qg.1,qg.2.1,qg.2.2.1,qg.2.2.2))) else (some (false,([]:List Int),0,qi.2.2)))))) else (some (false,([]:List Int),0,qj))))=some (r1,r2,r3,r4):=by have hy_:=qq;exact pH
 have qz:=am qq
 clear qq
 replace H:=ob H
 obtain ⟨qj,A3,H⟩:=H
 replace H:=eI H
 rcases H with ⟨c4b0,c4b1,H⟩|⟨c4,c4b0,c4b1,H⟩
 ·replace H:=ob H
  obtain ⟨⟨qr,j3,j4⟩,A5,H⟩:=H;(try dsimp only at H)
  replace H:=ob H
  obtain ⟨⟨qs,j5,j6⟩,A6,H⟩:=H;(try dsimp only at H)
  replace H:=ob H
  obtain ⟨⟨jw,qu,jg⟩,A7,H⟩:=H;(try dsimp only at H)
  replace H:=eI H
  rcases H with ⟨c8b0,c8b1,H⟩|⟨c8,c8b0,c8b1,H⟩
  ·replace H:=ob H
   obtain ⟨⟨jh,ji,jj,j7⟩,A9,H⟩:=H;(try dsimp only at H)
   simp only [Option.some.injEq,Prod.mk.injEq] at H
   obtain ⟨rfl,rfl,rfl,rfl⟩:=H
   exact Zd0.leaf
  ·simp only [Option.some.injEq,Prod.mk.injEq] at H
   obtain ⟨rfl,rfl,rfl,rfl⟩:=H
   exact Zd0.leaf
 ·simp only [Option.some.injEq,Prod.mk.injEq] at H
  obtain ⟨rfl,rfl,rfl,rfl⟩:=H
  exact Zd0.leaf
end YtjbjkmccfocikaaGreatDoor.B
end
section
namespace YtjbjkmccfocikaaGreatDoor.P.Nm
open Go.RowKit YtjbjkmccfocikaaGreatDoorW.PrintWords YtjbjkmccfocikaaGreatDoorW.PrintLast YtjbjkmccfocikaaGreatDoorW.PrintMore YtjbjkmccfocikaaGreatDoor.B YtjbjkmccfocikaaGreatDoor.P
theorem Zq6 (x:Int):Go.bits .and .i64 x 1=x % 2:=by
 show IntKind.i64.wrap ((BitVec.ofInt 64 x &&& BitVec.ofInt 64 1).toNat:Int)=_
 have e1:(BitVec.ofInt 64 1).toNat=1:=by decide
 rw [BitVec.toNat_and,e1,BitVec.toNat_ofInt,Nat.and_one_is_mod]
 have e2:(((x % ((2 ^ 64:Nat):Int)).toNat % 2:Nat):Int)=x % 2:=by
  have:((2 ^ 64:Nat):Int)=18446744073709551616:=by decide
  rw [this]
  omega
 rw [e2]
 simp [IntKind.wrap,IntKind.bits,IntKind.signed]
 omega
theorem Zi6 (a:Bool) (l:List Int) (e:Int) (hd:Dg 4294967296 l) (hl:l.length<=9223372036854775807):Tells (fun k=>Zep.f k a l e) (decide (chk a l e ≠ 0)):=by
 unfold Zep.f
 refine (Zes a l e hd hl).bind ((Tells.pure _).val ?_)
 by_cases h:chk a l e=0 <;> simp [h]
theorem Zh3 (a:Bool) (l:List Int) (e:Int) (b:Bool) (m:List Int) (g:Int) (hd:Dg 4294967296 l) (hl:l.length<=9223372036854775807) (hd2:Dg 4294967296 m) (hl2:m.length<=9223372036854775807):Tells (fun k=>Zdi.f k [⟨a,l,e⟩,⟨b,m,g⟩]) (if chk a l e=0/\chk b m g=0 then 0 else 9):=by
 have h1:Tells (fun k=>Zcf.f k [⟨a,l,e⟩,⟨b,m,g⟩]) (decide (¬ (chk a l e=0/\chk b m g=0))):=by
  unfold Zcf.f
  simp only [anyO]
  refine (Zi6 a l e hd hl).bind ?_
  by_cases h:chk a l e=0
  ·refine Tells.ifn (by simp [h]) ((Zi6 b m g hd2 hl2).bind ?_)
   by_cases h2:chk b m g=0
   ·exact Tells.ifn (by simp [h2]) ((Tells.pure _).val (by simp [h,h2]))
   ·exact Tells.ifp (by simp [h2]) ((Tells.pure _).val (by simp [h,h2]))
  ·exact Tells.ifp (by simp [h]) ((Tells.pure _).val (by simp [h]))
 unfold Zdi.f
 refine h1.bind ?_
 by_cases h:chk a l e=0/\chk b m g=0
 ·rw [if_pos h]
  exact Tells.ifn (by simp [h]) (Tells.pure _)
 ·rw [if_neg h]
  exact Tells.ifp (decide_eq_true h) (Tells.pure _)
theorem Zql (D E:Dm) (hD:OkD D) (hE:OkD E):Tells (fun k=>Zdi.f k [⟨D.neg,limbs D.n,D.e⟩,⟨E.neg,limbs E.n,E.e⟩]) 0:=by
 have h1:=Zgj hD
 have h2:=Zgj hE
 have := Zh3 D.neg (limbs D.n) D.e E.neg (limbs E.n) E.e (Zdf _) (by omega) (Zdf _) (by omega)
 rw [if_pos ⟨Znd hD,Znd hE⟩] at this
 exact this
theorem Zs1 (n:Nat):(decT n).size=dl n:=Zge n
theorem Ze6 {n:Nat} (h:(limbs n).length<=256):Tells (fun k=>Zbo.f k (limbs n)) (dl n:Int):=by
 unfold Zbo.f Zc2.f
 refine (Zg2 h).bind ((Tells.pure _).bind ((Tells.pure _).val ?_))
 rw [Zs1]
theorem Zeo {n:Nat} (h:n<=2400):Tells (fun k=>Zbq.f k (n:Int)) (limbs (10 ^ n)):=by
 unfold Zbq.f Zs.f
 exact (Zo2 n h).bind ((Tells.pure _).bind (Tells.pure _))
theorem Zhk {n:Nat} (h:(limbs n).length<=256) (hn:nd n<=2300):Tells (fun k=>Zce.f k (limbs n) 40) (limbs (n / 10 ^ cutN n),limbs (n % 10 ^ cutN n),(cutN n:Int)):=by
 have h1:=Zk9 n
 have e1:mx (wrap64 ((dl n:Int) - 40)) 0=((cutN n:Nat):Int):=by rw [w64n (by omega) (by omega),Zpz];unfold cutN;omega
 have hp:=Zeo (n:=cutN n) (by unfold cutN;omega)
 have hpl:(limbs (10 ^ cutN n)).length<=256:=Zcb (by rw [Zg0];unfold cutN;omega)
 have hp0:10 ^ cutN n ≠ 0:=by have := Zbv (cutN n);omega
 unfold Zce.f
 refine (Ze6 h).bind ?_
 rw [e1]
 refine hp.bind ((Zf8 h hpl).bind ?_)
 rw [if_neg hp0]
 exact Tells.pure _
theorem Zrw {n:Nat} (h:n ≠ 0):rd (limbs n) 0=((n % 4294967296:Nat):Int):=by
 unfold limbs
 rw [Zf2 (b:=4294967296) (by omega) h]
 rfl
theorem Zkk {h l c:Nat} (rest:Bool) (hh:(limbs h).length<=256) (hl:(limbs l).length<=256) (hc:c<=2300):Tells (fun k=>Zbf.f k (limbs h) (limbs l) (c:Int) rest) (upB h l c rest):=by
 unfold Zbf.f Zs.f upB
 by_cases h0:c=0
 ·subst h0
  exact Tells.ifp rfl (Tells.pure _)
 ·obtain ⟨j,rfl⟩:∃ j,c=j+1:=⟨c - 1,by omega⟩
  have e1:wrap64 (((j+1:Nat):Int) - 1)=(j:Int):=by rw [w64n (by omega) (by omega)];omega
  have hx:nd (10 ^ j*5)<=j+2:=Zgg (by
   rw [show j+2=(j+1)+1 from rfl,Nat.pow_succ,Nat.pow_succ]
   have := Zbv j
   omega)
  have hm:=Zf9 (m:=10 ^ j) (n:=5) (Zcb (by rw [Zg0];omega)) (by decide +kernel)
  rw [Zi0 (Zcb (by omega))] at hm
  have hcm:=Zg9 (m:=l) (n:=10 ^ j*5) hl (Zcb (by omega))
  rw [if_neg h0,Nat.add_sub_cancel]
  refine Tells.ifn (by omega) ?_
  rw [e1]
  refine (Zeo (by omega)).bind ((Zfo 5 (by omega)).bind (hm.bind ((Tells.pure _).bind (hcm.bind ?_))))
  dsimp only
  obtain ⟨H,hH⟩:∃ H,5*10 ^ j=H:=⟨_,rfl⟩
  rw [Nat.mul_comm (10 ^ j) 5,hH]
  have fin:∀ (odd:Bool),odd=decide (h % 2=1)->Tells (fun k=>if cmpN l H > 0 then some true else if cmpN l H=0 then if rest=true then some true else some odd else some false)
    (if H < l then true else if l=H then rest || decide (h % 2=1) else false):=fun odd ho=>by
   by_cases h1:l < H
   ·have hv:cmpN l H = -1:=by unfold cmpN;rw [if_pos h1]
    rw [hv,if_neg (show ¬ H < l by omega),if_neg (show ¬ l=H by omega)]
    exact Tells.ifn (by decide) (Tells.ifn (by decide) (Tells.pure _))
   ·by_cases h2:H < l
    ·have hv:cmpN l H=1:=by unfold cmpN;rw [if_neg h1,if_pos h2]
     rw [hv,if_pos h2]
     exact Tells.ifp (by decide) (Tells.pure _)
    ·have hv:cmpN l H=0:=by unfold cmpN;rw [if_neg h1,if_neg h2]
     rw [hv,if_neg h2,if_pos (show l=H by omega)]
     refine Tells.ifn (by decide) (Tells.ifp rfl ?_)
     cases rest
     ·exact Tells.ifn (by decide) ((Tells.pure _).val (by rw [ho];rfl))
     ·exact Tells.ifp rfl (Tells.pure _)
  by_cases hz:h=0
  ·subst hz
   exact Tells.ifn (by simp [Zft]) (fin false (by decide))
  ·have hpos:0 < (limbs h).length:=List.length_pos_iff.2 (Zdu hz)
   refine Tells.ifp (by omega) (Tells.ifp (by omega) (fin _ ?_))
   rw [Zrw hz]
   have:Int.tmod ((h % 4294967296:Nat):Int) 2=((h % 2:Nat):Int):=by rw [Int.tmod_eq_emod_of_nonneg (by omega)];omega
   rw [this]
   by_cases hq:h % 2=1
   ·rw [decide_eq_true hq,hq];rfl
   ·rw [decide_eq_false hq]
    exact beq_eq_false_iff_ne.2 (by omega)
theorem Ztf {D E:Dm} (hD:OkD D) (hE:OkD E):padN D.n E.n<=343:=by
 have := hE.len
 have h2:=Zk9 E.n
 unfold padN
 have:1<=dl D.n:=by
  unfold dl;split
  ·exact Nat.le_refl _
  ·rename_i h;exact Zgh h
 omega
theorem Zlf {n j:Nat} (h:nd n<=300) (hj:j<=400):nd (n*10 ^ j)<=700:=Nat.le_trans (Zfe n j) (by omega)
theorem QDiv {D E:Dm} (hD:OkD D) (hE:OkD E) (h0:E.n ≠ 0):Tells (fun k=>Za9.f k D.neg (limbs D.n) D.e E.neg (limbs E.n) E.e) (outD (quotD D E)):=by
 have l1:=hD.len;have l2:=hE.len
 have b1:=hD.low;have b2:=hE.low;have b3:=hD.high;have b4:=hE.high
 have hp:=Ztf hD hE
 have dD:=Zk9 D.n
 have dE:=Zk9 E.n
 have e1:mx (wrap64 ((wrap64 ((wrap64 ((dl E.n:Int) - (dl D.n:Int)))+40))+2)) 0=((padN D.n E.n:Nat):Int):=by
  rw [w64n (z:=(dl E.n:Int) - (dl D.n:Int)) (by omega) (by omega),w64n (z:=(dl E.n:Int) - (dl D.n:Int)+40) (by omega) (by omega),w64n (by omega) (by omega),Zpz]
  unfold padN;omega
 have hpos:0 < (limbs E.n).length:=List.length_pos_iff.2 (Zdu h0)
 obtain ⟨n,hn⟩:∃ n,padN D.n E.n=n:=⟨_,rfl⟩
 rw [hn] at e1 hp
 have hX:=Zlf (n:=D.n) (j:=n) l1 (by omega)
 have hm:=Zf9 (m:=D.n) (n:=10 ^ n) (Zcb (by omega)) (Zcb (by rw [Zg0];omega))
 rw [Zi0 (Zcb (by omega))] at hm
 have hdv:=Zf8 (m:=D.n*10 ^ n) (n:=E.n) (Zcb (by omega)) (Zcb (by omega))
 rw [if_neg h0] at hdv
 have hq:nd (D.n*10 ^ n / E.n)<=700:=Nat.le_trans (Zcv (Nat.div_le_self _ _)) hX
 obtain ⟨q,hqe⟩:∃ q,D.n*10 ^ n / E.n=q:=⟨_,rfl⟩
 obtain ⟨r,hre⟩:∃ r,D.n*10 ^ n % E.n=r:=⟨_,rfl⟩
 rw [hqe,hre] at hdv
 rw [hqe] at hq
 have hpt:=Zhk (n:=q) (Zcb (by omega)) (by omega)
 have hc1:=Zk9 q
 obtain ⟨c,hce⟩:∃ c,cutN q=c:=⟨_,rfl⟩
 have hc:c<=700:=by rw [<- hce];unfold cutN;omega
 rw [hce] at hpt
 have hh:nd (q / 10 ^ c)<=700:=Nat.le_trans (Zcv (Nat.div_le_self _ _)) hq
 have hl:nd (q % 10 ^ c)<=700:=Nat.le_trans (Zcv (Nat.mod_le _ _)) hq
 have hup:=Zkk (h:=q / 10 ^ c) (l:=q % 10 ^ c) (c:=c) (decide (((limbs r).length:Int) > 0)) (Zcb (by omega)) (Zcb (by omega)) (by omega)
 have hrest:decide (((limbs r).length:Int) > 0)=decide (r ≠ 0):=by
  by_cases hr:r=0
  ·subst hr;rfl
  ·have:0 < (limbs r).length:=List.length_pos_iff.2 (Zdu hr)
   rw [decide_eq_true (show ((limbs r).length:Int) > 0 by omega),decide_eq_true hr]
 rw [hrest] at hup
 have e2:wrap64 ((wrap64 ((wrap64 (D.e - E.e)) - (n:Int)))+(c:Int))=D.e - E.e - n+c:=by
  rw [w64n (z:=D.e - E.e) (by omega) (by omega),w64n (z:=D.e - E.e - (n:Int)) (by omega) (by omega),w64n (by omega) (by omega)]
 have hfin:∀ M:Nat,nd M<=701->Tells (fun k=>(Zan.f k (D.neg != E.neg) (limbs M) (D.e - E.e - n+c)).bind fun bt=>some (bt.1,bt.2.1,bt.2.2.1,bt.2.2.2)) (outD (settleD ⟨D.neg != E.neg,M,D.e - E.e - n+c⟩)):=fun M hM=>by
  have := Zec (D.neg != E.neg) M (D.e - E.e - n+c) (Zcb (by omega)) (by omega)
  rw [if_neg (by omega)] at this
  exact this.bind (Tells.pure _)
 have hgoal:quotD D E=settleD ⟨D.neg != E.neg,upN (upB (q / 10 ^ c) (q % 10 ^ c) c (decide (r ≠ 0))) (q / 10 ^ c),D.e - E.e - n+c⟩:=by
  unfold quotD divD
  simp only [hn,hqe,hre,hce]
 rw [hgoal]
 unfold Za9.f Zs.f
 refine (Zql D E hD hE).bind (Tells.ifp rfl (Tells.ifn (by omega) ((Ze6 (Zcb (by omega))).bind ((Ze6 (Zcb (by omega))).bind ?_))))
 rw [e1]
 refine (Zeo (by omega)).bind (hm.bind ((Tells.pure _).bind (hdv.bind (hpt.bind ?_))))
 dsimp only
 rw [hrest,e2]
 refine hup.bind ?_
 cases hu:upB (q / 10 ^ c) (q % 10 ^ c) c (decide (r ≠ 0))
 ·exact Tells.ifn (by simp) (hfin _ (by omega))
 ·have ha:=Zkn (m:=q / 10 ^ c) (n:=1) (Zcb (by omega)) (by decide +kernel)
  have hna:=Zsj (q / 10 ^ c) 1
  have:nd 1=1:=by decide
  rw [Zi0 (Zcb (by omega))] at ha
  exact Tells.ifp rfl ((Zfo 1 (by omega)).bind (ha.bind ((Tells.pure _).bind (hfin _ (by omega)))))
theorem Zo3 {D E:Dm} (hD:OkD D) (hE:OkD E) (h0:E.n=0):Tells (fun k=>Za9.f k D.neg (limbs D.n) D.e E.neg (limbs E.n) E.e) (false,[],0,53):=by
 unfold Za9.f
 refine (Zql D E hD hE).bind (Tells.ifp rfl (Tells.ifp (by rw [h0];rfl) (Tells.pure _)))
theorem Zq2 {a b:Bool} {l m:List Int} {e g:Int} (hl:Dg 4294967296 l) (hl2:l.length<=9223372036854775807) (hm:Dg 4294967296 m) (hm2:m.length<=9223372036854775807) (h:¬ (chk a l e=0/\chk b m g=0)):Tells (fun k=>Za9.f k a l e b m g) (false,[],0,9):=by
 unfold Za9.f
 have := Zh3 a l e b m g hl hl2 hm hm2
 rw [if_neg h] at this
 exact this.bind (Tells.ifn (by decide) (Tells.pure _))
theorem QSqrt {D:Dm} (hD:OkD D) (hpos:D.neg=false):Tells (fun k=>Zbi.f k D.neg (limbs D.n) D.e) (outD (sqrtD D)):=by
 have l1:=hD.len
 have b1:=hD.low;have b3:=hD.high
 have dD:=Zk9 D.n
 have e0:mx (wrap64 (80 - (dl D.n:Int))) 0=((80 - dl D.n:Nat):Int):=by rw [w64n (by omega) (by omega),Zpz];omega
 have e1:wrap64 (((80 - dl D.n:Nat):Int)+(Go.bits .and .i64 (wrap64 (D.e - ((80 - dl D.n:Nat):Int))) 1))=((padR D:Nat):Int):=by
  rw [Zq6,w64n (z:=D.e - ((80 - dl D.n:Nat):Int)) (by omega) (by omega),w64n (by omega) (by omega)]
  unfold padR;omega
 obtain ⟨n,hn⟩:∃ n,padR D=n:=⟨_,rfl⟩
 obtain ⟨hev,hn1⟩:(D.e - (n:Int)) % 2=0/\n<=81:=by rw [<- hn];rcases Zhh D with h|h <;> omega
 rw [hn] at e1
 have hX:=Zlf (n:=D.n) (j:=n) l1 (by omega)
 have hm:=Zf9 (m:=D.n) (n:=10 ^ n) (Zcb (by omega)) (Zcb (by rw [Zg0];omega))
 rw [Zi0 (Zcb (by omega))] at hm
 have hr:=Zn9 (m:=D.n*10 ^ n) (Zcb (by omega))
 have hrn:=Zmo (D.n*10 ^ n) 700 hX
 obtain ⟨q,hqe⟩:∃ q,root (D.n*10 ^ n)=q:=⟨_,rfl⟩
 rw [hqe] at hr hrn
 have hpt:=Zhk (n:=q) (Zcb (by omega)) (by omega)
 have hc1:=Zk9 q
 obtain ⟨c,hce⟩:∃ c,cutN q=c:=⟨_,rfl⟩
 have hc:c<=700:=by rw [<- hce];unfold cutN;omega
 rw [hce] at hpt
 have hh:nd (q / 10 ^ c)<=700:=Nat.le_trans (Zcv (Nat.div_le_self _ _)) hrn
 have et:Int.tdiv (D.e - (n:Int)) 2=(D.e - (n:Int)) / 2:=by
  obtain ⟨y,hy⟩:∃ y:Int,D.e - (n:Int)=2*y:=⟨(D.e - (n:Int)) / 2,by omega⟩
  rw [hy,Int.mul_tdiv_cancel_left y (by decide)]
  omega
 have e2:wrap64 ((wrap64 (Int.tdiv (wrap64 (D.e - (n:Int))) 2))+(c:Int))=(D.e - n) / 2+c:=by
  rw [w64n (z:=D.e - (n:Int)) (by omega) (by omega),et,w64n (z:=(D.e - (n:Int)) / 2) (by omega) (by omega),w64n (by omega) (by omega)]
 have hgoal:sqrtD D=settleD ⟨false,q / 10 ^ c,(D.e - n) / 2+c⟩:=by
  unfold sqrtD rootD
  simp only [hn,hqe,hce]
 have hs:=Zec false (q / 10 ^ c) ((D.e - n) / 2+c) (Zcb (by omega)) (by omega)
 rw [if_neg (by omega)] at hs
 rw [hgoal]
 have hck:=DCheck D hD
 rw [hpos] at hck ⊢
 unfold Zbi.f Zs.f
 refine hck.bind (Tells.ifp rfl (Tells.ifn (by decide) ((Ze6 (Zcb (by omega))).bind ?_)))
 rw [e0,e1]
 refine (Zeo (by omega)).bind (hm.bind ((Tells.pure _).bind (hr.bind ((Tells.pure _).bind (hpt.bind ?_)))))
 dsimp only
 rw [e2]
 exact hs.bind (Tells.pure _)
theorem Zo5 {D:Dm} (hD:OkD D) (hneg:D.neg=true):Tells (fun k=>Zbi.f k D.neg (limbs D.n) D.e) (false,[],0,4):=by
 unfold Zbi.f
 exact (DCheck D hD).bind (Tells.ifp rfl (Tells.ifp hneg (Tells.pure _)))
theorem Zo4 {a:Bool} {l:List Int} {e:Int} (hl:Dg 4294967296 l) (hl2:l.length<=9223372036854775807) (h:¬ chk a l e=0):Tells (fun k=>Zbi.f k a l e) (false,[],0,9):=by
 unfold Zbi.f
 refine (Zes a l e hl hl2).bind (Tells.ifn h ((Tells.pure _).val ?_))
 rcases Zpl a l e with h1|h1
 ·exact absurd h1 h
 ·rw [h1]
def wholeN (D:Dm):Nat:=if 0<=D.e then D.n*10 ^ D.e.toNat else D.n / 10 ^ (-D.e).toNat
def lowN (D:Dm):Nat:=if 0<=D.e then 0 else D.n % 10 ^ (-D.e).toNat
theorem Zeu {D:Dm} (hD:OkD D):nd (wholeN D)<=1300/\nd (lowN D)<=300:=by
 have l1:=hD.len;have l2:=hD.high
 unfold wholeN lowN
 split
 ·exact ⟨Nat.le_trans (Zfe _ _) (by omega),by decide⟩
 ·exact ⟨Nat.le_trans (Zcv (Nat.div_le_self _ _)) (by omega),Nat.le_trans (Zcv (Nat.mod_le _ _)) (by omega)⟩
theorem QSplit {D:Dm} (hD:OkD D):Tells (fun k=>Zao.f k D.neg (limbs D.n) D.e) (limbs (wholeN D),limbs (lowN D),((-D.e).toNat:Int)):=by
 have l1:=hD.len;have l2:=hD.high;have l3:=hD.low
 have hw:=Zeu hD
 unfold Zao.f Zs.f wholeN lowN
 unfold wholeN at hw
 by_cases h:0<=D.e
 ·rw [if_pos h] at hw
  rw [if_pos h,if_pos h]
  have hm:=Zf9 (m:=D.n) (n:=10 ^ D.e.toNat) (Zcb (by omega)) (Zcb (by rw [Zg0];omega))
  rw [Zi0 (Zcb (by omega))] at hm
  have hp:=Zeo (n:=D.e.toNat) (by omega)
  rw [Int.toNat_of_nonneg h] at hp
  have e0:(((-D.e).toNat:Nat):Int)=0:=by omega
  rw [e0]
  exact Tells.ifp h (hp.bind (hm.bind ((Tells.pure _).bind (Tells.pure _))))
 ·rw [if_neg h,if_neg h]
  have hp:=Zeo (n:=(-D.e).toNat) (by omega)
  have e1:(((-D.e).toNat:Nat):Int) = -D.e:=by omega
  rw [e1] at hp
  have hd:=Zf8 (m:=D.n) (n:=10 ^ (-D.e).toNat) (Zcb (by omega)) (Zcb (by rw [Zg0];omega))
  have hp0:10 ^ (-D.e).toNat ≠ 0:=by have := Zbv (-D.e).toNat;omega
  rw [if_neg hp0] at hd
  rw [w64n (by omega) (by omega),e1]
  exact Tells.ifn (by omega) (hp.bind (hd.bind (Tells.pure _)))
def modD (D E:Dm):Dm × Int:=if wholeN E=0 then (zeroD,53) else settleD ⟨D.neg,wholeN D % wholeN E,0⟩
theorem QMod {D E:Dm} (hD:OkD D) (hE:OkD E):Tells (fun k=>Zd0.f k D.neg (limbs D.n) D.e E.neg (limbs E.n) E.e) (outD (modD D E)):=by
 have w1:=(Zeu hD).1
 have w2:=(Zeu hE).1
 have hd:=Zf8 (m:=wholeN D) (n:=wholeN E) (Zcb (by omega)) (Zcb (by omega))
 unfold Zd0.f modD
 refine (Zql D E hD hE).bind (Tells.ifp rfl ((QSplit hD).bind ((QSplit hE).bind (hd.bind ?_))))
 by_cases h0:wholeN E=0
 ·rw [if_pos h0,if_pos h0]
  exact Tells.ifn (by decide) (Tells.pure _)
 ·rw [if_neg h0,if_neg h0]
  have hr:nd (wholeN D % wholeN E)<=1300:=Nat.le_trans (Zcv (Nat.mod_le _ _)) w1
  have hs:=Zec D.neg (wholeN D % wholeN E) 0 (Zcb (by omega)) (by omega)
  rw [if_neg (by omega)] at hs
  exact Tells.ifp rfl (hs.bind (Tells.pure _))
theorem RAbs {D:Dm} (hD:OkD D):Tells (fun k=>Zb0.f k D.neg (limbs D.n) D.e) (outD (absD D,0)):=by
 have l1:=hD.len;have l2:=hD.high;have l3:=hD.low
 have hm:=Made false D.n D.e (by omega) (by omega) (by omega)
 have ok:OkD ⟨false,D.n,D.e⟩:=by rw [<- (Zg3 hD).1];exact (Zg3 hD).2
 unfold Zb0.f
 refine (RCheck D hD).bind (Tells.ifp rfl ((ROf D (by omega)).bind (hm.bind ((Tells.pure _).val ?_))))
 rw [(Zg3 hD).1,Zja ok]
end YtjbjkmccfocikaaGreatDoor.P.Nm
end
section
namespace YtjbjkmccfocikaaGreatDoor.P.Nm
open Go.RowKit YtjbjkmccfocikaaGreatDoorW.PrintWords YtjbjkmccfocikaaGreatDoor.B YtjbjkmccfocikaaGreatDoor.P
theorem Tells.at {α:Type} {f:Nat->Option α} {v:α} (n:Nat) (h:∀ k,f (k+n)=some v):Tells f v:=⟨n,fun k hk=>by
 obtain ⟨j,rfl⟩:∃ j,k=j+n:=⟨k - n,by omega⟩
 exact h j⟩
end YtjbjkmccfocikaaGreatDoor.P.Nm
end
section
namespace YtjbjkmccfocikaaGreatDoor.B
open Go.RowKit YtjbjkmccfocikaaGreatDoorW.PrintWords YtjbjkmccfocikaaGreatDoorW.PrintLast YtjbjkmccfocikaaGreatDoorW.PrintMore
attribute [local go_sem] Zch Zci Zc9 Zda Zb1 Zb2 Zcp Zcq
def Zaj.f (a0:Int):Option (Int):=some a0
theorem Zaj.calls (a0:Int) (r:Int) (w:World) (h:Zaj.f a0=some r) :
  Calls Tryz.prog 20 #[.int .i64 a0] w fun e w'=>e=.returned (.int .i64 r)/\Drawn0 w w':=by
 have H:(some a0)=some r:=h
 clear h
 obtain rfl:=Option.some.inj H
 go_enter Tryz.func20,Tryz.ntmps20
 go_wp2
 go_ret
 exact ⟨pR,pD⟩
def Zb7.f (a0:ByteArray) (a1:Int):Option (Bool):=if a1 < (a0.size:Int) then (if 0<=a1 then (if (bt a0 a1) >= 48 then (some (decide ((bt a0 a1)<=57))) else (some false)) else (none)) else (some false)
theorem Zb7.calls (a0:ByteArray) (a1:Int) (r:Bool) (w:World) (h:Zb7.f a0 a1=some r) :
  Calls Tryz.prog 153 #[.string a0,.int .i64 a1] w fun e w'=>e=.returned (.bool r)/\Drawn0 w w':=by
 have H:(if a1 < (a0.size:Int) then (if 0<=a1 then (if (bt a0 a1) >= 48 then (some (decide ((bt a0 a1)<=57))) else (some false)) else (none)) else (some false))=some r:=h
 clear h
 replace H:=dI H
 rcases H with ⟨c3b0,H⟩|⟨c3b0,H⟩
 ·replace H:=dI H
  rcases H with ⟨c4b0,H⟩|⟨_,H⟩
  ·replace H:=hI H
   rcases H with ⟨c6b0,H⟩|⟨c6b0,H⟩
   ·obtain rfl:=Option.some.inj H
    have p5:0<=(a1:Int):=of_decide_eq_true pQ
    have q5:a1 < (a0.size:Int):=of_decide_eq_true pQ
    have hx5:=Zgx a0 a1
    replace p5:=eq_true p5
    replace q5:=eq_true q5
    have p7:0<=(a1:Int):=of_decide_eq_true pQ
    have q7:a1 < (a0.size:Int):=of_decide_eq_true pQ
    have hx7:=Zgx a0 a1
    replace p7:=eq_true p7
    replace q7:=eq_true q7
    go_enter Tryz.func153,Tryz.ntmps153
    go_wp2
    go_ret
    exact ⟨pR,pD⟩
   ·obtain rfl:=Option.some.inj H
    have p5:0<=(a1:Int):=of_decide_eq_true pQ
    have q5:a1 < (a0.size:Int):=of_decide_eq_true pQ
    have hx5:=Zgx a0 a1
    replace p5:=eq_true p5
    replace q5:=eq_true q5
    go_enter Tryz.func153,Tryz.ntmps153
    go_wp2
    go_ret
    exact ⟨pR,pD⟩
  ·cases H
 ·obtain rfl:=Option.some.inj H
  go_enter Tryz.func153,Tryz.ntmps153
  go_wp2
  go_ret
  exact ⟨pR,pD⟩
mutual
def Zj.j0:Nat->ByteArray->Int->Bool->Option (Int × Bool)
 | 0,_,_,_=>none
 | k+1,x0,x1,x15=>if x15=true then (Zj.j1 k x0 (wrap64 (x1+1))) else (Zj.j1 k x0 x1)
def Zj.j1:Nat->ByteArray->Int->Option (Int × Bool)
 | 0,_,_=>none
 | k+1,x0,x1=>(Zb7.f x0 x1).bind fun qa=>(if qa=true then (if 0<=x1 then (if x1 < (x0.size:Int) then (if (bt x0 x1)=48 then (Zj.j3 k x0 (wrap64 (x1+1))) else (Zj.l0 k x0 x1)) else (none)) else (none)) else (some (x1,false)))
def Zj.j3:Nat->ByteArray->Int->Option (Int × Bool)
 | 0,_,_=>none
 | k+1,x0,x1=>if x1 < (x0.size:Int) then (if 0<=x1 then (Zj.j4 k x0 x1 ((bt x0 x1) == 46)) else (none)) else (Zj.j4 k x0 x1 false)
def Zj.j4:Nat->ByteArray->Int->Bool->Option (Int × Bool)
 | 0,_,_,_=>none
 | k+1,x0,x1,x43=>if x43=true then (none) else (Zj.j6 k x0 x1)
def Zj.j6:Nat->ByteArray->Int->Option (Int × Bool)
 | 0,_,_=>none
 | k+1,x0,x1=>if x1 < (x0.size:Int) then (if 0<=x1 then (if (bt x0 x1)=101 then (Zj.j7 k x0 x1 true) else (Zj.j7 k x0 x1 ((bt x0 x1) == 69))) else (none)) else (Zj.j7 k x0 x1 false)
def Zj.j7:Nat->ByteArray->Int->Bool->Option (Int × Bool)
 | 0,_,_,_=>none
 | k+1,x0,x1,x71=>if x71=true then (none) else (some (x1,true))
def Zj.j8:Nat->ByteArray->Int->Bool->Option (Int × Bool)
 | 0,_,_,_=>none
 | k+1,x0,x1,x89=>none
def Zj.j9:Nat->ByteArray->Int->Option (Int × Bool)
 | 0,_,_=>none
 | k+1,x0,x1=>none
def Zj.l2:Nat->ByteArray->Int->Option (Int × Bool)
 | 0,_,_=>none
 | k+1,x0,x1=>none
def Zj.l1:Nat->ByteArray->Int->Option (Int × Bool)
 | 0,_,_=>none
 | k+1,x0,x1=>none
def Zj.l0:Nat->ByteArray->Int->Option (Int × Bool)
 | 0,_,_=>none
 | k+1,x0,x1=>(Zb7.f x0 x1).bind fun qb=>(if qb=true then (Zj.l0 k x0 (wrap64 (x1+1))) else (Zj.j3 k x0 x1))
end
def Zj.f (k:Nat) (a0:ByteArray) (a1:Int):Option (Int × Bool):=if a1 < (a0.size:Int) then (if 0<=a1 then (Zj.j0 k a0 a1 ((bt a0 a1) == 45)) else (none)) else (Zj.j0 k a0 a1 false)
theorem Zj.calls (k:Nat) (a0:ByteArray) (a1:Int) (r1:Int) (r2:Bool) (w:World) (h:Zj.f k a0 a1=some (r1,r2)) :
  Calls Tryz.prog 117 #[.string a0,.int .i64 a1] w fun e w'=>e=.returned (.tuple #[.int .i64 r1,.bool r2])/\Drawn0 w w':=by
 have H:(if a1 < (a0.size:Int) then (if 0<=a1 then (Zj.j0 k a0 a1 ((bt a0 a1) == 45)) else (none)) else (Zj.j0 k a0 a1 false))=some (r1,r2):=h
 clear h
 have HC3:=am H
 clear H
 go_enter Tryz.func117,Tryz.ntmps117
 go_upto_region 1 with (fail)
 go_cut [15] (fun v15 wc => ∃ (kq:Nat) (x15_2:Bool),v15=.bool x15_2/\Aside0 (Zj.j0 kq a0 a1 x15_2=some (r1,r2))/\Aside0 (kq<=k)/\Drawn0 w wc)
 case first =>
  have H:=HC3.o
  clear HC3
  replace H:=dI H
  rcases H with ⟨c4b0,H⟩|⟨c4b0,H⟩
  ·(first|rw [c4b0]|(simp only [Zb9,Zdj];rw [c4b0])|skip)
   replace H:=dI H
   rcases H with ⟨c5b0,H⟩|⟨_,H⟩
   ·have H':=am H
    clear H
    have p6:0<=(a1:Int):=of_decide_eq_true pQ
    have q6:a1 < (a0.size:Int):=of_decide_eq_true pQ
    have hx6:=Zgx a0 a1
    replace p6:=eq_true p6
    replace q6:=eq_true q6
    go_wp2
    go_meet
    case rel=>exact ⟨_,(((bt a0 a1) == 45)),pR,H',pJ,pD⟩
   ·cases H
  ·(first|rw [c4b0]|(simp only [Zb9,Zdj];rw [c4b0])|skip)
   have H':=am H
   clear H
   go_wp2
   go_meet
   case rel=>exact ⟨_,(false),pR,H',pJ,pD⟩
 case rest =>
  clear HC3
  obtain ⟨kq,x15_2,rfl,HA,HJ2,⟨mc2,rfl⟩⟩:=hcut
  cases kq with
  | zero=>exact absurd HA.out (by simp [Zj.j0])
  | succ kj2 =>
   have H:=HA.out
   clear HA
   simp only [Zj.j0] at H
   have HC7:=am H
   clear H
   go_upto_if 15 with (fail)
   go_cut [1] (fun v1 wc => ∃ (kq:Nat) (x1_6:Int),v1=.int .i64 x1_6/\Aside0 (Zj.j1 kq a0 x1_6=some (r1,r2))/\Aside0 (kq<=kj2)/\Drawn0 w wc)
   case first =>
    have H:=HC7.o
    clear HC7
    replace H:=tI (t:=x15_2) H
    rcases H with ⟨rfl,H⟩|⟨rfl,H⟩
    ·have H':=am H
     clear H
     go_wp2
     go_meet
     case rel=>exact ⟨_,(wrap64 (a1+1)),pR,H',pJ,pD⟩
    ·have H':=am H
     clear H
     go_wp2
     go_meet
     case rel=>exact ⟨_,(a1),pR,H',pJ,pD⟩
   case rest =>
    clear HC7
    obtain ⟨kq,x1_6,rfl,HA,HJ6,⟨mc6,rfl⟩⟩:=hcut
    cases kq with
    | zero=>exact absurd HA.out (by simp [Zj.j1])
    | succ kj6 =>
     have H:=HA.out
     clear HA
     simp only [Zj.j1] at H
     replace H:=ob H
     obtain ⟨qa,A9,H⟩:=H
     replace H:=tI (t:=qa) H
     rcases H with ⟨rfl,H⟩|⟨rfl,H⟩
     ·replace H:=dI H
      rcases H with ⟨c11b0,H⟩|⟨_,H⟩
      ·replace H:=dI H
       rcases H with ⟨c12b0,H⟩|⟨_,H⟩
       ·have HC14:=am H
        clear H
        go_upto_if 26 with (first|(refine gL (some 20) Tryz.func153 #[.string a0,.int .i64 x1_6] (h:=?_);(with_reducible refine (Zb7.calls a0 x1_6 true _ A9.o).mono ?_);rintro e w' ⟨rfl,⟨nd,rfl⟩⟩;refine ⟨_,rfl,?_⟩;have p13:0<=(x1_6:Int):=of_decide_eq_true pQ;have q13:x1_6 < (a0.size:Int):=of_decide_eq_true pQ;have hx13:=Zgx a0 x1_6;replace p13:=eq_true p13;replace q13:=eq_true q13))
        (try simp only [Act.put,List.setIfInBounds_toArray,List.set_cons_zero,List.set_cons_succ])
        go_cut [1] (fun v1 wc => ∃ (kq:Nat) (x1_13:Int),v1=.int .i64 x1_13/\Aside0 (Zj.j3 kq a0 x1_13=some (r1,r2))/\Aside0 (kq<=kj6)/\Drawn0 w wc)
        case first =>
         have H:=HC14.o
         clear HC14
         replace H:=eI H
         rcases H with ⟨c15b0,c15b1,H⟩|⟨c15,c15b0,c15b1,H⟩
         ·(first|rw [c15b0]|(simp only [Zb9,Zdj];rw [c15b0])|skip)
          have H':=am H
          clear H
          go_wp2
          go_meet
          case rel=>exact ⟨_,(wrap64 (x1_6+1)),pR,H',pJ,pD⟩
         ·(first|rw [c15b0]|(simp only [Zb9,Zdj];rw [c15b0])|skip)
          have H':=am H
          clear H
          go_wp2
          go_loopg [1] kj6 (fun kq v1 w' => ∃ (x1_3:Int),v1=.int .i64 x1_3/\Aside0 (Zj.l0 kq a0 x1_3=some (r1,r2))/\Aside0 (kq<=kj6)/\Drawn0 w w')
          case atStart=>exact ⟨(x1_6),pR,H',⟨Nat.le_refl _⟩,pD⟩
          case round =>
           clear H'
           obtain ⟨x1_3,rfl,HA,HK3,⟨m3,rfl⟩⟩:=hrel
           cases gk with
           | zero=>exact absurd HA.out (by simp [Zj.l0])
           | succ k3 =>
            have H:=HA.out
            clear HA
            simp only [Zj.l0] at H
            replace H:=ob H
            obtain ⟨qb,A16,H⟩:=H
            replace H:=tI (t:=qb) H
            rcases H with ⟨rfl,H⟩|⟨rfl,H⟩
            ·have H':=am H
             clear H
             go_wp2_with (first|(refine gL (some 31) Tryz.func153 #[.string a0,.int .i64 x1_3] (h:=?_);(with_reducible refine (Zb7.calls a0 x1_3 true _ A16.o).mono ?_);rintro e w' ⟨rfl,⟨nd,rfl⟩⟩;refine ⟨_,rfl,?_⟩))
             go_roundg k3
             case measure=>exact pM
             case rel=>exact ⟨(wrap64 (x1_3+1)),pR,H',pJ,pD⟩
            ·have H':=am H
             clear H
             go_wp2_with (first|(refine gL (some 31) Tryz.func153 #[.string a0,.int .i64 x1_3] (h:=?_);(with_reducible refine (Zb7.calls a0 x1_3 false _ A16.o).mono ?_);rintro e w' ⟨rfl,⟨nd,rfl⟩⟩;refine ⟨_,rfl,?_⟩))
             go_meet
             case rel=>exact ⟨_,(x1_3),pR,H',pJ,pD⟩
        case rest =>
         clear HC14
         obtain ⟨kq,x1_13,rfl,HA,HJ13,⟨mc13,rfl⟩⟩:=hcut
         cases kq with
         | zero=>exact absurd HA.out (by simp [Zj.j3])
         | succ qc =>
          have H:=HA.out
          clear HA
          simp only [Zj.j3] at H
          have HC18:=am H
          clear H
          go_upto_region 9 with (fail)
          go_cut [43] (fun v43 wc => ∃ (kq:Nat) (x43_17:Bool),v43=.bool x43_17/\Aside0 (Zj.j4 kq a0 x1_13 x43_17=some (r1,r2))/\Aside0 (kq<=qc)/\Drawn0 w wc)
          case first =>
           have H:=HC18.o
           clear HC18
           replace H:=dI H
           rcases H with ⟨c19b0,H⟩|⟨c19b0,H⟩
           ·(first|rw [c19b0]|(simp only [Zb9,Zdj];rw [c19b0])|skip)
            replace H:=dI H
            rcases H with ⟨c20b0,H⟩|⟨_,H⟩
            ·have H':=am H
             clear H
             have p21:0<=(x1_13:Int):=of_decide_eq_true pQ
             have q21:x1_13 < (a0.size:Int):=of_decide_eq_true pQ
             have hx21:=Zgx a0 x1_13
             replace p21:=eq_true p21
             replace q21:=eq_true q21
             go_wp2
             go_meet
             case rel=>exact ⟨_,(((bt a0 x1_13) == 46)),pR,H',pJ,pD⟩
            ·cases H
           ·(first|rw [c19b0]|(simp only [Zb9,Zdj];rw [c19b0])|skip)
            have H':=am H
            clear H
            go_wp2
            go_meet
            case rel=>exact ⟨_,(false),pR,H',pJ,pD⟩
          case rest =>
           clear HC18
           obtain ⟨kq,x43_17,rfl,HA,HJ17,⟨mc17,rfl⟩⟩:=hcut
           cases kq with
           | zero=>exact absurd HA.out (by simp [Zj.j4])
           | succ qd =>
            have H:=HA.out
            clear HA
            simp only [Zj.j4] at H
            have HC22:=am H
            clear H
            go_upto_if 43 with (fail)
            go_cut [1] (fun v1 wc => ∃ (kq:Nat) (x1_21:Int),v1=.int .i64 x1_21/\Aside0 (Zj.j6 kq a0 x1_21=some (r1,r2))/\Aside0 (kq<=qd)/\Drawn0 w wc)
            case first =>
             have H:=HC22.o
             clear HC22
             replace H:=tI (t:=x43_17) H
             rcases H with ⟨rfl,H⟩|⟨rfl,H⟩
             ·cases H
             ·have H':=am H
              clear H
              go_wp2
              go_meet
              case rel=>exact ⟨_,(x1_13),pR,H',pJ,pD⟩
            case rest =>
             clear HC22
             obtain ⟨kq,x1_21,rfl,HA,HJ21,⟨mc21,rfl⟩⟩:=hcut
             cases kq with
             | zero=>exact absurd HA.out (by simp [Zj.j6])
             | succ qe =>
              have H:=HA.out
              clear HA
              simp only [Zj.j6] at H
              have HC28:=am H
              clear H
              go_upto_region 15 with (fail)
              go_cut [71] (fun v71 wc => ∃ (kq:Nat) (x71_27:Bool),v71=.bool x71_27/\Aside0 (Zj.j7 kq a0 x1_21 x71_27=some (r1,r2))/\Aside0 (kq<=qe)/\Drawn0 w wc)
              case first =>
               have H:=HC28.o
               clear HC28
               replace H:=dI H
               rcases H with ⟨c29b0,H⟩|⟨c29b0,H⟩
               ·(first|rw [c29b0]|(simp only [Zb9,Zdj];rw [c29b0])|skip)
                replace H:=dI H
                rcases H with ⟨c30b0,H⟩|⟨_,H⟩
                ·replace H:=eI H
                 rcases H with ⟨c32b0,c32b1,H⟩|⟨c32,c32b0,c32b1,H⟩
                 ·have H':=am H
                  clear H
                  have p31:0<=(x1_21:Int):=of_decide_eq_true pQ
                  have q31:x1_21 < (a0.size:Int):=of_decide_eq_true pQ
                  have hx31:=Zgx a0 x1_21
                  replace p31:=eq_true p31
                  replace q31:=eq_true q31
                  go_wp2
                  go_meet
                  case rel=>exact ⟨_,(true),pR,H',pJ,pD⟩
                 ·have H':=am H
                  clear H
                  have p31:0<=(x1_21:Int):=of_decide_eq_true pQ
                  have q31:x1_21 < (a0.size:Int):=of_decide_eq_true pQ
                  have hx31:=Zgx a0 x1_21
                  replace p31:=eq_true p31
                  replace q31:=eq_true q31
                  have p33:0<=(x1_21:Int):=of_decide_eq_true pQ
                  have q33:x1_21 < (a0.size:Int):=of_decide_eq_true pQ
                  have hx33:=Zgx a0 x1_21
                  replace p33:=eq_true p33
                  replace q33:=eq_true q33
                  go_wp2
                  go_meet
                  case rel=>exact ⟨_,(((bt a0 x1_21) == 69)),pR,H',pJ,pD⟩
                ·cases H
               ·(first|rw [c29b0]|(simp only [Zb9,Zdj];rw [c29b0])|skip)
                have H':=am H
                clear H
                go_wp2
                go_meet
                case rel=>exact ⟨_,(false),pR,H',pJ,pD⟩
              case rest =>
               clear HC28
               obtain ⟨kq,x71_27,rfl,HA,HJ27,⟨mc27,rfl⟩⟩:=hcut
               cases kq with
               | zero=>exact absurd HA.out (by simp [Zj.j7])
               | succ qf =>
                have H:=HA.out
                clear HA
                simp only [Zj.j7] at H
                replace H:=tI (t:=x71_27) H
                rcases H with ⟨rfl,H⟩|⟨rfl,H⟩
                ·cases H
                ·simp only [Option.some.injEq,Prod.mk.injEq] at H
                 obtain ⟨rfl,rfl⟩:=H
                 go_wp2
                 go_ret2
                 exact ⟨pR,pD⟩
       ·cases H
      ·cases H
     ·simp only [Option.some.injEq,Prod.mk.injEq] at H
      obtain ⟨rfl,rfl⟩:=H
      go_wp2_with (first|(refine gL (some 20) Tryz.func153 #[.string a0,.int .i64 x1_6] (h:=?_);(with_reducible refine (Zb7.calls a0 x1_6 false _ A9.o).mono ?_);rintro e w' ⟨rfl,⟨nd,rfl⟩⟩;refine ⟨_,rfl,?_⟩))
      go_ret2
      exact ⟨pR,pD⟩
mutual
def Zx.j0:Nat->ByteArray->Bool->Option (Bool × List Int × Int × Int)
 | 0,_,_=>none
 | k+1,x0,x18=>if x18=true then (some (false,([]:List Int),0,32)) else (if (x0.size:Int) > 2000 then (some (false,([]:List Int),0,5)) else (if 0 < (x0.size:Int) then (Zx.l0 k x0 ([]:List Int) false 0 ((bt x0 0) == 45) 0) else (none)))
def Zx.l0:Nat->ByteArray->List Int->Bool->Int->Bool->Int->Option (Bool × List Int × Int × Int)
 | 0,_,_,_,_,_,_=>none
 | k+1,x0,x7,x8,x9,qd,qe=>if x9 < (x0.size:Int) then (if 0<=x9 then (if (bt x0 x9)=101 then (Zx.j2 k x0 x7 x8 x9 false qd qe) else (Zx.j2 k x0 x7 x8 x9 ((bt x0 x9) != 69) qd qe)) else (none)) else (Zx.j2 k x0 x7 x8 x9 false qd qe)
def Zx.j2:Nat->ByteArray->List Int->Bool->Int->Bool->Bool->Int->Option (Bool × List Int × Int × Int)
 | 0,_,_,_,_,_,_,_=>none
 | k+1,x0,x7,x8,x9,x52,qd,qe=>if x52=true then (if 0<=x9 then (if x9 < (x0.size:Int) then (if (bt x0 x9)=46 then (none) else (if (bt x0 x9)=45 then (none) else ((some (([((bt x0 x9) - 48) % 256]:List Int):List Int)).bind fun qk=>(if qk.length+x7.length < 17592186044416 then ((some (qk++x7:List Int)).bind fun qn=>(if x8=true then (none) else (Zx.l0 k x0 qn x8 (wrap64 (x9+1)) qd qe))) else (none))))) else (none)) else (none)) else (if x9 < (x0.size:Int) then (none) else ((Zp.f k qd x7 qe).bind fun qm=>(some (qm.1,qm.2.1,qm.2.2.1,qm.2.2.2))))
def Zx.l1:Nat->ByteArray->List Int->Int->Bool->Int->Int->Bool->Int->Option (Bool × List Int × Int × Int)
 | 0,_,_,_,_,_,_,_,_=>none
 | k+1,x0,x7,x9,x10,x11,x12,qd,qe=>none
def Zx.j4:Nat->ByteArray->List Int->Int->Bool->Int->Int->Bool->Bool->Int->Option (Bool × List Int × Int × Int)
 | 0,_,_,_,_,_,_,_,_,_=>none
 | k+1,x0,x7,x9,x10,x11,x12,jj,qd,qe=>none
end
def Zx.f (k:Nat) (a0:ByteArray):Option (Bool × List Int × Int × Int):=(Zj.f k a0 0).bind fun qj=>(if qj.2=true then (Zx.j0 k a0 (qj.1 != (a0.size:Int))) else (Zx.j0 k a0 true))
theorem Zx.calls (k:Nat) (a0:ByteArray) (r1:Bool) (r2:List Int) (r3:Int) (r4:Int) (w:World) (h:Zx.f k a0=some (r1,r2,r3,r4)) :
  Calls Tryz.prog 58 #[.string a0] w fun e w' => ∃ v1_:Value,e=.returned (.tuple #[.agg #[.bool r1,v1_,.int .i64 r3],.int .i64 r4])/\Kd.R (Kd.int .u32) 85 w' w.heap.size (fun _=>True) v1_ r2/\Below w.heap.size w w':=by
 have hu24:=Tryz.underlying24
 have hu30:=Tryz.underlying30
 have HB:=am (Below.refl w.heap.size w)
 have H:((Zj.f k a0 0).bind fun qj=>(if qj.2=true then (Zx.j0 k a0 (qj.1 != (a0.size:Int))) else (Zx.j0 k a0 true)))=some (r1,r2,r3,r4):=h
 clear h
 replace H:=ob H
 obtain ⟨⟨q2,q3⟩,A2,H⟩:=H;(try dsimp only at H)
 have HC3:=am H
 clear H
 go_enter Tryz.func58,Tryz.ntmps58
 go_upto_region 2 with (first|((with_reducible refine gd 2 ?_);(try (refine Za1 (by rfl) ?_;dsimp only));refine bx 2 #[.bool false,.slice none 0 0,.int .i64 0] 24 (h:=?_);intro qg hg w4 hbox hb;have qb:=am hbox;have jb:=gW hg;replace HB:=bS hb;clear hb hbox hg)|(refine gL (some 15) Tryz.func117 #[.string a0,.int .i64 0] (h:=?_);(with_reducible refine (Zj.calls k a0 0 q2 q3 _ A2.o).mono ?_);rintro e w' ⟨rfl,⟨nd,rfl⟩⟩;refine ⟨_,rfl,?_⟩))
 (try simp only [Act.put,List.setIfInBounds_toArray,List.set_cons_zero,List.set_cons_succ])
 go_cut [18] (fun v18 wc => ∃ (kq:Nat) (x18_2:Bool),v18=.bool x18_2/\Aside0 (Zx.j0 kq a0 x18_2=some (r1,r2,r3,r4))/\Aside0 (kq<=k)/\Aside0 (wc.heap[qg]? = some (.cells #[.bool false,(.slice none 0 0),.int .i64 0] 24 (0,0)))/\Aside0 (Below w.heap.size w wc))
 case first =>
  have H:=HC3.o
  clear HC3
  replace H:=tI (t:=q3) H
  rcases H with ⟨rfl,H⟩|⟨rfl,H⟩
  ·have H':=am H
   clear H
   go_wp2
   go_meet
   case rel=>exact ⟨_,((q2 != (a0.size:Int))),pR,H',pJ,⟨Zg qb.o pl⟩,⟨pB⟩⟩
  ·have H':=am H
   clear H
   go_wp2
   go_meet
   case rel=>exact ⟨_,(true),pR,H',pJ,⟨Zg qb.o pl⟩,⟨pB⟩⟩
 case rest =>
  clear HC3
  obtain ⟨kq,x18_2,rfl,HA,HJ2,qb,HB⟩:=hcut
  cases kq with
  | zero=>exact absurd HA.out (by simp [Zx.j0])
  | succ kj2 =>
   have H:=HA.out
   clear HA
   simp only [Zx.j0] at H
   replace H:=tI (t:=x18_2) H
   rcases H with ⟨rfl,H⟩|⟨rfl,H⟩
   ·simp only [Option.some.injEq,Prod.mk.injEq] at H
    obtain ⟨rfl,rfl,rfl,rfl⟩:=H
    obtain ⟨_,_,_,_,_,_⟩:=cEc qb.o
    go_wp2
    refine bodyPost_ret (Zae rfl _ _ qg 24 #[.bool false,.slice none 0 0,.int .i64 0] (0,0) _ rfl (by exact p3 qb) Tryz.underlying24 rfl (by kernel_rfl)) rfl ?_
    exact ⟨_,pE,pN,pB⟩
   ·by_cases c8:(a0.size:Int) > 2000
    ·rw [if_pos c8] at H
     have c8b0:decide (2000 < (a0.size:Int))=true:=decide_eq_true c8
     have c8b1:decide (2000 < a0.size)=true:=decide_eq_true (by omega)
     clear c8
     simp only [Option.some.injEq,Prod.mk.injEq] at H
     obtain ⟨rfl,rfl,rfl,rfl⟩:=H
     obtain ⟨_,_,_,_,_,_⟩:=cEc qb.o
     go_wp2
     refine bodyPost_ret (Zae rfl _ _ qg 24 #[.bool false,.slice none 0 0,.int .i64 0] (0,0) _ rfl (by exact p3 qb) Tryz.underlying24 rfl (by kernel_rfl)) rfl ?_
     exact ⟨_,pE,pN,pB⟩
    ·rw [if_neg c8] at H
     have c8b0:decide (2000 < (a0.size:Int))=false:=decide_eq_false c8
     have c8b1:decide (2000 < a0.size)=false:=decide_eq_false (by omega)
     clear c8
     by_cases c10:0 < (a0.size:Int)
     ·rw [if_pos c10] at H
      have c10b0:decide (0 < (a0.size:Int))=true:=decide_eq_true c10
      have c10b1:decide (0 < a0.size)=true:=decide_eq_true (by omega)
      clear c10
      have H':=am H
      clear H
      have p11:0<=(0:Int):=(by omega)
      have q11:0 < a0.size:=(by have:(0:Int) < (a0.size:Int):=of_decide_eq_true pQ;omega)
      have hx11:∀ h:0 < a0.size,((a0[0]'h).toNat:Int)=bt a0 0:=Zgx a0 0
      clear p11
      have qi11:(0 < (a0.size:Int))=True:=eq_true (of_decide_eq_true pQ)
      replace q11:=eq_true q11
      go_wp2_with (first|((with_reducible refine gd 6 ?_);(try (refine Za1 (by rfl) ?_;dsimp only));refine bx 6 #[.bool false,.slice none 0 0,.int .i64 0] 30 (h:=?_);intro qi hg w12 hbox hb;have qc:=am hbox;have jc:=gW hg;have qf:=nL hg qb;have qh:=nG hg qb;replace qb:=bb qb hb;replace HB:=bS hb;clear hb hbox hg;have jd:=qh.o;have jf:=qf.o;obtain ⟨_,_,_,_,_,_⟩:=cEc qc.o))
      go_loopg [7,8,9] kj2 (fun kq v7 v8 v9 w' => ∃ (x7_2:List Int) (x8_2:Bool) (x9_2:Int) (qa:Int),v8=.bool x8_2/\v9=.int .i64 x9_2/\Aside0 (Zx.l0 kq a0 x7_2 x8_2 x9_2 ((bt a0 0) == 45) qa=some (r1,r2,r3,r4))/\Aside0 (kq<=kj2)/\Aside0 (Kd.R (Kd.int .i64) 3 w' w.heap.size (fun _=>True) v7 x7_2)/\Aside0 (w'.heap[qg]? = some (.cells #[.bool false,(.slice none 0 0),.int .i64 0] 24 (0,0)))/\Aside0 (w'.heap[qi]? = some (.cells #[.bool ((bt a0 0) == 45),(.slice none 0 0),.int .i64 qa] 30 (0,0)))/\Aside0 (Below w.heap.size w w'))
      case atStart=>exact ⟨(([]:List Int)),(false),(0),(0),pR,pR,H',⟨Nat.le_refl _⟩,⟨pN⟩,⟨bf qf.o qb.o⟩,⟨by exact p3 qc⟩,⟨pB⟩⟩
      case round =>
       clear H'
       obtain ⟨x7_2,x8_2,x9_2,qa,rfl,rfl,HA,HK2,HO_7,qb,qc,HB⟩:=hrel
       cases gk with
       | zero=>exact absurd HA.out (by simp [Zx.l0])
       | succ k2 =>
        have H:=HA.out
        clear HA
        simp only [Zx.l0] at H
        have HC15:=am H
        clear H
        go_upto_region 10 with (fail)
        go_cut [52] (fun v52 wc => ∃ (kq:Nat) (x52_14:Bool),v52=.bool x52_14/\Aside0 (Zx.j2 kq a0 x7_2 x8_2 x9_2 x52_14 ((bt a0 0) == 45) qa=some (r1,r2,r3,r4))/\Aside0 (kq<=k2)/\Aside0 (Kd.R (Kd.int .i64) 3 wc w.heap.size (fun _=>True) u7 x7_2)/\Aside0 (wc.heap[qg]? = some (.cells #[.bool false,(.slice none 0 0),.int .i64 0] 24 (0,0)))/\Aside0 (wc.heap[qi]? = some (.cells #[.bool ((bt a0 0) == 45),(.slice none 0 0),.int .i64 qa] 30 (0,0)))/\Aside0 (Below w.heap.size w wc))
        case first =>
         have H:=HC15.o
         clear HC15
         replace H:=dI H
         rcases H with ⟨c16b0,H⟩|⟨c16b0,H⟩
         ·(first|rw [c16b0]|(simp only [Zb9,Zdj];rw [c16b0])|skip)
          replace H:=dI H
          rcases H with ⟨c17b0,H⟩|⟨_,H⟩
          ·replace H:=eI H
           rcases H with ⟨c19b0,c19b1,H⟩|⟨c19,c19b0,c19b1,H⟩
           ·have H':=am H
            clear H
            have p18:0<=(x9_2:Int):=of_decide_eq_true pQ
            have q18:x9_2 < (a0.size:Int):=of_decide_eq_true pQ
            have hx18:=Zgx a0 x9_2
            replace p18:=eq_true p18
            replace q18:=eq_true q18
            go_wp2
            go_meet
            case rel=>exact ⟨_,(false),pR,H',pJ,⟨by refine rp ?_;exact HO_7.o⟩,⟨Zg qb.o pl⟩,⟨Zg qc.o pl⟩,⟨pB⟩⟩
           ·have H':=am H
            clear H
            have p18:0<=(x9_2:Int):=of_decide_eq_true pQ
            have q18:x9_2 < (a0.size:Int):=of_decide_eq_true pQ
            have hx18:=Zgx a0 x9_2
            replace p18:=eq_true p18
            replace q18:=eq_true q18
            have p20:0<=(x9_2:Int):=of_decide_eq_true pQ
            have q20:x9_2 < (a0.size:Int):=of_decide_eq_true pQ
            have hx20:=Zgx a0 x9_2
            replace p20:=eq_true p20
            replace q20:=eq_true q20
            go_wp2
            go_meet
            case rel=>exact ⟨_,(((bt a0 x9_2) != 69)),pR,H',pJ,⟨by refine rp ?_;exact HO_7.o⟩,⟨Zg qb.o pl⟩,⟨Zg qc.o pl⟩,⟨pB⟩⟩
          ·cases H
         ·(first|rw [c16b0]|(simp only [Zb9,Zdj];rw [c16b0])|skip)
          have H':=am H
          clear H
          go_wp2
          go_meet
          case rel=>exact ⟨_,(false),pR,H',pJ,⟨by refine rp ?_;exact HO_7.o⟩,⟨Zg qb.o pl⟩,⟨Zg qc.o pl⟩,⟨pB⟩⟩
        case rest =>
         clear HC15
         obtain ⟨kq,x52_14,rfl,HA,HJ14,HO_7,qb,qc,HB⟩:=hcut
         cases kq with
         | zero=>exact absurd HA.out (by simp [Zx.j2])
         | succ qs =>
          have H:=HA.out
          clear HA
          simp only [Zx.j2] at H
          replace H:=tI (t:=x52_14) H
          rcases H with ⟨rfl,H⟩|⟨rfl,H⟩
          ·replace H:=dI H
           rcases H with ⟨c22b0,H⟩|⟨_,H⟩
           ·replace H:=dI H
            rcases H with ⟨c23b0,H⟩|⟨_,H⟩
            ·replace H:=eI H
             rcases H with ⟨c25b0,c25b1,H⟩|⟨c25,c25b0,c25b1,H⟩
             ·cases H
             ·replace H:=eI H
              rcases H with ⟨c27b0,c27b1,H⟩|⟨c27,c27b0,c27b1,H⟩
              ·cases H
              ·obtain ⟨qk,qp⟩:∃ y_:List Int,y_=(([((bt a0 x9_2) - 48) % 256]:List Int)):=⟨_,rfl⟩
               replace H:(if qk.length+x7_2.length < 17592186044416 then ((some (qk++x7_2:List Int)).bind fun qn=>(if x8_2=true then (none) else (Zx.l0 qs a0 qn x8_2 (wrap64 (x9_2+1)) ((bt a0 0) == 45) qa))) else (none))=some (r1,r2,r3,r4):=by have hy_:=qp;exact pH
               have qu:=am qp
               clear qp
               by_cases c29:qk.length+x7_2.length < 17592186044416
               ·rw [if_pos c29] at H
                have LMc29:=am c29
                clear c29
                obtain ⟨qn,qq⟩:∃ y_:List Int,y_=(qk++x7_2):=⟨_,rfl⟩
                replace H:(if x8_2=true then (none) else (Zx.l0 qs a0 qn x8_2 (wrap64 (x9_2+1)) ((bt a0 0) == 45) qa))=some (r1,r2,r3,r4):=by have hy_:=qq;exact pH
                have q0:=am qq
                clear qq
                replace H:=tI (t:=x8_2) H
                rcases H with ⟨rfl,H⟩|⟨rfl,H⟩
                ·cases H
                ·have H':=am H
                 clear H
                 have p24:0<=(x9_2:Int):=of_decide_eq_true pQ
                 have q24:x9_2 < (a0.size:Int):=of_decide_eq_true pQ
                 have hx24:=Zgx a0 x9_2
                 replace p24:=eq_true p24
                 replace q24:=eq_true q24
                 have p26:0<=(x9_2:Int):=of_decide_eq_true pQ
                 have q26:x9_2 < (a0.size:Int):=of_decide_eq_true pQ
                 have hx26:=Zgx a0 x9_2
                 replace p26:=eq_true p26
                 replace q26:=eq_true q26
                 have p28:0<=(x9_2:Int):=of_decide_eq_true pQ
                 have q28:x9_2 < (a0.size:Int):=of_decide_eq_true pQ
                 have hx28:=Zgx a0 x9_2
                 replace p28:=eq_true p28
                 replace q28:=eq_true q28
                 go_wp2_with (first|((with_reducible refine gd 70 ?_);(try (refine Za1 (by rfl) ?_;dsimp only));refine Kd.Zhs (Kd.int .i64) _ 3 ?hg (N:=70) ?hd (xs:=([((bt a0 x9_2) - 48) % 256]:List Int)) (inner:=[.int .i64 (((bt a0 x9_2) - 48) % 256)]) (ok:=fun _=>True) (okp:=fun _=>True) ?hr ?hp (fun _ hk=>hk) trivial (Below.refl _ _) (Nat.le_refl _) (by simp) ?_;(case hd=>rfl);(case hg=>rfl);(case hr=>first|(go_simp;done)|(go_simp;rfl));(case hp=>exact (Reps.one (show Kd.M (Kd.int .i64) _ _ _ (((bt a0 x9_2) - 48) % 256) [.int .i64 (((bt a0 x9_2) - 48) % 256)] from rfl) (Reps.none _ _)));intro ja w37 ho38 hb hg_ hnew_;clear hg_ hnew_;(first|rw [<- qu.out] at ho38|(simp only [Int.reduceToNat] at ho38;rw [<- qu.out] at ho38));have ql:=am (Kd.Zn (Kd.Zf ho38 (Kd.R_lt (Kd.Za HO_7.o pl))) (Zb pB));replace HO_7:=reR HO_7 ho38 hb;replace qb:=bb qb hb;replace qc:=bb qc hb;replace HB:=bS hb;clear hb ho38;obtain ⟨q4,q5,q6⟩:=Kd.Zh HO_7.o;subst q6)|((with_reducible refine Zar (b:=.append) (xs:=#[.tmp 70,.tmp 71]) rfl ?_);(try (refine Za1 (by rfl) ?_;dsimp only));at_builtin;refine Kd.Zdx (Kd.int .i64) (w0:=w) w.heap.size rfl (.tmp 70) (.tmp 71) 28 3 (.int .i64 0) 8 rfl Tryz.underlying28 info3 rfl (by decide) (by omega) ja qk x7_2 _ _ _ (fun k_=>some k_ ≠ (.slice q4 x7_2.length q5:Value).ownBlock) (fun _=>False) rfl rfl ?aO ?aR (fun _ _ h=>h) (fun _ h=>h.elim) ?aF ?aB ?aS ?aL ?_;(case aR=>exact Kd.Zi (Kd.Zc HO_7.o).2.2 pl);(case aB=>exact pB);(case aF=>exact (fun k_ hk=>Kd.fresh' (Kd.R_lt (Kd.Za HO_7.o pl)) k_ hk));(case aO=>exact (Kd.Za (Kd.Zo ql.o (fun _ hk=>hk.2)) pl));(case aS=>exact (Zb pB));(case aL=>have := LMc29.o;omega);intro jh w39 ho hb hg hat;rw [<- q0.out] at ho;have qz:=am ho;replace HO_7:=am (Kd.Zfj (ok:=(fun _=>True)) (Kd.Za HO_7.o pl) hg hat);replace qb:=am (Zky (g:=qg) (o:=.cells #[.bool false,.slice none 0 0,.int .i64 0] 24 (0,0)) (Zg qb.o pl) hg (Kd.R_ne ql.o qb.o (by decide)));replace qc:=am (Zky (g:=qi) (o:=.cells #[.bool ((bt a0 0) == 45),.slice none 0 0,.int .i64 qa] 30 (0,0)) (Zg qc.o pl) hg (Kd.R_ne ql.o qc.o (by decide)));replace HB:=am hb;clear ql ho hb hg hat))
                 go_roundg qs
                 case measure=>exact pM
                 case rel=>exact ⟨(qn),(false),(wrap64 (x9_2+1)),(qa),pR,pR,H',pJ,⟨by refine rp ?_;exact Kd.Zo qz.o (fun _ hk=>trivial)⟩,⟨Zg qb.o pl⟩,⟨Zg qc.o pl⟩,⟨pB⟩⟩
               ·rw [if_neg c29] at H
                cases H
            ·cases H
           ·cases H
          ·replace H:=dI H
           rcases H with ⟨c41b0,H⟩|⟨c41b0,H⟩
           ·cases H
           ·replace H:=ob H
            obtain ⟨⟨qv,qw,qx,q9⟩,A79,H⟩:=H;(try dsimp only at H)
            simp only [Option.some.injEq,Prod.mk.injEq] at H
            obtain ⟨rfl,rfl,rfl,rfl⟩:=H
            obtain ⟨qr,qo,q7⟩:=Kd.Zh HO_7.o
            subst q7
            have je:=qh.o
            have jg:=qf.o
            obtain ⟨_,_,_,_,_,_⟩:=cEc qc.o
            go_wp2_with (first|(refine gL (some 132) Tryz.func23 #[.agg #[.bool ((bt a0 0) == 45),.slice qr x7_2.length qo,.int .i64 qa]] (h:=?_);(with_reducible refine (Zp.calls qs ((bt a0 0) == 45) _ _ x7_2 qa qv qw qx q9 _ ?side1 ?side2 A79.o).mono ?_);(case side1=>refine (Kd.Zc (e:=3) (base:=w.heap.size) (ok:=fun k_=>True) (n:=x7_2.length) (c:=qo) ?_).2.2;exact (Kd.Za (Kd.Zo (Kd.Zau (p:=⟨qi,1,none⟩) (Kd.Zba HO_7.o qc.o (by decide)) (fun _ hk=>hk.2) (.slice qr x7_2.length qo)) (fun _ h_=>h_.1)) pl));(case side2=>exact (Kd.Zc HO_7.o).2.1);rintro e w83 ⟨ji,rfl,ho0,hb⟩;refine ⟨_,rfl,?_⟩;replace HO_7:=am (Kd.Za (Kd.Za (Kd.Zo (Kd.Zau (p:=⟨qi,1,none⟩) (Kd.Zba HO_7.o qc.o (by decide)) (fun _ hk=>hk.2) (.slice qr x7_2.length qo)) (fun _ h_=>h_.1)) pl) hb);have qt:=am (Kd.Zn ho0 (Zb pB));replace qb:=bfb qf qb hb;replace qc:=am (Zg (g:=qi) (o:=.cells #[.bool ((bt a0 0) == 45),.slice qr x7_2.length qo,.int .i64 qa] 30 (0,0)) (by refine bp ?_;refine Zd7 (cs:=#[.bool ((bt a0 0) == 45),.slice none 0 0,.int .i64 qa]) ?_ 1 _ rfl;exact bp qc.o) hb);replace HB:=bS hb;obtain ⟨_,_,_,_,_,_⟩:=cEc qb.o;obtain ⟨qy,q1,q8⟩:=Kd.Zh qt.o;subst q8))
            refine bodyPost_ret (Zae rfl _ _ qg 24 #[.bool qv,.slice qy qw.length q1,.int .i64 qx] (0,0) _ rfl (by exact p3 qb) Tryz.underlying24 rfl (by kernel_rfl)) rfl ?_
            exact ⟨_,pE,by refine rp ?_;exact Kd.Zo (Kd.Zau (p:=⟨qg,2,none⟩) (Kd.Zau (p:=⟨qg,1,none⟩) (Kd.Zau (p:=⟨qg,0,none⟩) (Kd.Zba qt.o qb.o (by decide)) (fun _ hk=>hk.2) (.bool qv)) (fun _ hk=>hk.2) (.slice qy qw.length q1)) (fun _ hk=>hk.2) (.int .i64 qx)) (fun _ hk=>trivial),pB⟩
     ·rw [if_neg c10] at H
      cases H
def Zbz.f (k:Nat) (a0:ByteArray):Option (Bool × List Int × Int):=(Zx.f k a0).bind fun qc=>(some (qc.1,qc.2.1,qc.2.2.1))
theorem Zbz.calls (k:Nat) (a0:ByteArray) (r1:Bool) (r2:List Int) (r3:Int) (w:World) (h:Zbz.f k a0=some (r1,r2,r3)) :
  Calls Tryz.prog 62 #[.string a0] w fun e w' => ∃ v1_:Value,e=.returned (.agg #[.bool r1,v1_,.int .i64 r3])/\Kd.R (Kd.int .u32) 85 w' w.heap.size (fun _=>True) v1_ r2/\Below w.heap.size w w':=by
 have hu24:=Tryz.underlying24
 have HB:=am (Below.refl w.heap.size w)
 have H:((Zx.f k a0).bind fun qc=>(some (qc.1,qc.2.1,qc.2.2.1)))=some (r1,r2,r3):=h
 clear h
 obtain ⟨⟨qg,qi,qj,ql⟩,A2,H⟩:=ob H;(try dsimp only at H)
 simp only [Option.some.injEq,Prod.mk.injEq] at H
 obtain ⟨rfl,rfl,rfl⟩:=H
 go_enter Tryz.func62,Tryz.ntmps62
 go_wp2_with (first|((with_reducible refine gd 2 ?_);refine bx 2 #[.bool false,.slice none 0 0,.int .i64 0] 24 (h:=?_);intro qe hg w3 hbox hb;have qb:=am hbox;have qm:=gW hg;replace HB:=bS hb;clear hb hbox hg)|(refine gL (some 7) Tryz.func58 #[.string a0] (h:=?_);(with_reducible refine (Zx.calls k a0 qg qi qj ql _ A2.o).mono ?_);rintro e w4 ⟨qo,rfl,ho0,hb⟩;refine ⟨_,rfl,?_⟩;have qd:=am (Kd.Zn ho0 (Zb pB));replace qb:=bb qb hb;replace HB:=bS hb)|((with_reducible refine gd 3 ?_);refine bx 3 #[.bool false,.slice none 0 0,.int .i64 0] 24 (h:=?_);intro qh hg w5 hbox hb;have qk:=am hbox;have qn:=gW hg;have qa:=nL hg qb;have qf:=nG hg qb;replace qd:=rbl qd hb;replace qb:=bb qb hb;replace HB:=bS hb;clear hb hbox hg;have hnb6:=qf.o;have hnc6:=qa.o;obtain ⟨_,_,_,_,_,_⟩:=cEc qk.o;obtain ⟨Ao8,co8,eo8⟩:=Kd.Zh qd.o;subst eo8;obtain ⟨_,_,_,_,_,_⟩:=cEc qb.o))
 refine bodyPost_ret (results_cell_row rfl _ _ qe 24 #[.bool qg,.slice Ao8 qi.length co8,.int .i64 qj] (0,0) _ rfl (by refine bp ?_;refine Zd7 (cs:=#[.bool qg,.slice Ao8 qi.length co8,.int .i64 0]) ?_ 2 _ rfl;refine bp ?_;refine Zd7 (cs:=#[.bool qg,.slice none 0 0,.int .i64 0]) ?_ 1 _ rfl;refine bp ?_;refine Zd7 (cs:=#[.bool false,.slice none 0 0,.int .i64 0]) ?_ 0 _ rfl;refine bq ?_ qa;refine bq ?_ qa;refine bq ?_ qa;exact bp qb.o) Tryz.underlying24 rfl (by kernel_rfl)) rfl ?_
 exact ⟨_,pE,by refine rp ?_;exact Kd.Zo (Kd.Zau (p:=⟨qe,2,none⟩) (Kd.Zau (p:=⟨qe,1,none⟩) (Kd.Zau (p:=⟨qe,0,none⟩) (Kd.Zau (p:=⟨qh,2,none⟩) (Kd.Zau (p:=⟨qh,1,none⟩) (Kd.Zau (p:=⟨qh,0,none⟩) (Kd.Zba (Kd.Zba qd.o qk.o (by decide)) qb.o (by decide)) (fun _ hk=>hk.1.2) (.bool qg)) (fun _ hk=>hk.1.2) (.slice Ao8 qi.length co8)) (fun _ hk=>hk.1.2) (.int .i64 qj)) (fun _ hk=>hk.2) (.bool qg)) (fun _ hk=>hk.2) (.slice Ao8 qi.length co8)) (fun _ hk=>hk.2) (.int .i64 qj)) (fun _ hk=>trivial),pB⟩
def Za8.l0:Nat->Int->ByteArray->Int->Option (ByteArray)
 | 0,_,_,_=>none
 | k+1,x0,x3,x4=>if x4 < x0 then (if x3.size+1<=9223372036854775807 then (Za8.l0 k x0 (x3++(⟨#[48]⟩:ByteArray)) (wrap64 (x4+1))) else (none)) else (some x3)
def Za8.f (k:Nat) (a0:Int):Option (ByteArray):=Za8.l0 k a0 (⟨#[]⟩:ByteArray) 0
theorem Za8.calls (k:Nat) (a0:Int) (r:ByteArray) (w:World) (h:Za8.f k a0=some r) :
  Calls Tryz.prog 119 #[.int .i64 a0] w fun e w'=>e=.returned (.string r)/\Drawn0 w w':=by
 have H:(Za8.l0 k a0 (⟨#[]⟩:ByteArray) 0)=some r:=h
 clear h
 have H':=am H
 clear H
 go_enter Tryz.func119,Tryz.ntmps119
 go_wp2
 go_loopg [3,4] k (fun kq v3 v4 w' => ∃ (x3_1:ByteArray) (x4_1:Int),v3=.string x3_1/\v4=.int .i64 x4_1/\Aside0 (Za8.l0 kq a0 x3_1 x4_1=some r)/\Aside0 (kq<=k)/\Drawn0 w w')
 case atStart=>exact ⟨((⟨#[]⟩:ByteArray)),(0),pR,pR,H',⟨Nat.le_refl _⟩,pD⟩
 case round =>
  clear H'
  obtain ⟨x3_1,x4_1,rfl,rfl,HA,HK1,⟨m1,rfl⟩⟩:=hrel
  cases gk with
  | zero=>exact absurd HA.out (by simp [Za8.l0])
  | succ k1 =>
   have H:=HA.out
   clear HA
   simp only [Za8.l0] at H
   replace H:=dI H
   rcases H with ⟨c2b0,H⟩|⟨c2b0,H⟩
   ·by_cases c3:x3_1.size+1<=9223372036854775807
    ·rw [if_pos c3] at H
     have c3b0:=eq_true c3
     have c3b1:decide (x3_1.size+1<=9223372036854775807)=true:=decide_eq_true c3
     try have c3b2:(9223372036854775807 < x3_1.size+1)=False:=eq_false (Nat.not_lt.2 c3)
     have H':=am H
     clear H
     go_wp2
     go_roundg k1
     case measure=>exact pM
     case rel=>exact ⟨(x3_1++(⟨#[48]⟩:ByteArray)),(wrap64 (x4_1+1)),pR,pR,H',pJ,pD⟩
    ·rw [if_neg c3] at H
     cases H
   ·obtain rfl:=Option.some.inj H
    go_wp2
    go_ret
    exact ⟨pR,pD⟩
def Zb8.f:Nat->Int->Option (ByteArray)
 | 0,_=>none
 | k+1,a0=>if a0 < 10 then (some (strOfNums (([(wrap64 (48+a0)) % 256]:List Int)))) else ((Zb8.f k (wrap64 (Int.tdiv a0 10))).bind fun qa=>((Zb8.f k (Int.tmod a0 10)).bind fun qb=>(if qa.size+qb.size<=9223372036854775807 then (some (qa++qb)) else (none))))
theorem Zb8.calls (k:Nat):∀ (a0:Int) (r:ByteArray) (w:World) (h:Zb8.f k a0=some r),
  Calls Tryz.prog 120 #[.int .i64 a0] w fun e w'=>e=.returned (.string r)/\Below w.heap.size w w':=by
 induction k using Nat.strongRecOn with
 | _ k ih =>
 intro a0 r w h
 cases k with
 | zero=>exact absurd h (by simp [Zb8.f])
 | succ k =>
 simp only [Zb8.f] at h
 have HB:=am (Below.refl w.heap.size w)
 have H:(if a0 < 10 then (some (strOfNums (([(wrap64 (48+a0)) % 256]:List Int)))) else ((Zb8.f k (wrap64 (Int.tdiv a0 10))).bind fun qa=>((Zb8.f k (Int.tmod a0 10)).bind fun qb=>(if qa.size+qb.size<=9223372036854775807 then (some (qa++qb)) else (none)))))=some r:=h
 clear h
 replace H:=dI H
 rcases H with ⟨c2b0,H⟩|⟨c2b0,H⟩
 ·obtain ⟨qf,qc⟩:∃ y_:List Int,y_=(([(wrap64 (48+a0)) % 256]:List Int)):=⟨_,rfl⟩
  replace H:(some (strOfNums qf))=some r:=by have hy_:=qc;exact pH
  have qd:=am qc
  clear qc
  obtain rfl:=Option.some.inj H
  go_enter Tryz.func120,Tryz.ntmps120
  go_wp2_with (first|((with_reducible refine gd 8 ?_);refine Kd.Zhs (Kd.int .u8) _ 5 ?hg (N:=8) ?hd (xs:=([(wrap64 (48+a0)) % 256]:List Int)) (inner:=[.int .u8 ((wrap64 (48+a0)) % 256)]) (ok:=fun _=>True) (okp:=fun _=>True) ?hr ?hp (fun _ hk=>hk) trivial (Below.refl _ _) (Nat.le_refl _) (by simp) ?_;(case hd=>rfl);(case hg=>rfl);(case hr=>first|(go_simp;done)|(go_simp;rfl));(case hp=>exact (Reps.one (show Kd.M (Kd.int .u8) _ _ _ ((wrap64 (48+a0)) % 256) [.int .u8 ((wrap64 (48+a0)) % 256)] from rfl) (Reps.none _ _)));intro qg w3 ho4 hb hg_ hnew_;clear hg_ hnew_;(first|rw [<- qd.out] at ho4|(simp only [Int.reduceToNat] at ho4;rw [<- qd.out] at ho4));have qe:=am (Kd.Zn ho4 (Zb pB));replace HB:=bS hb;clear hb ho4;have hcv5:=Zh2 (P:=Tryz.prog) Tryz.underlying146 Tryz.underlying5 Tryz.underlying9 (Kd.Zd6 qe.o)))
  go_ret
  exact ⟨pE,pB⟩
 ·replace H:=ob H
  obtain ⟨qa,A6,H⟩:=H
  replace H:=ob H
  obtain ⟨qb,A7,H⟩:=H
  by_cases c8:qa.size+qb.size<=9223372036854775807
  ·rw [if_pos c8] at H
   have c8b0:=eq_true c8
   have c8b1:decide (qa.size+qb.size<=9223372036854775807)=true:=decide_eq_true c8
   try have c8b2:(9223372036854775807 < qa.size+qb.size)=False:=eq_false (Nat.not_lt.2 c8)
   obtain rfl:=Option.some.inj H
   go_enter Tryz.func120,Tryz.ntmps120
   go_wp2_with (first|(refine gL (some 12) Tryz.func120 #[.int .i64 (wrap64 (Int.tdiv a0 10))] (h:=?_);(with_reducible refine (ih k (by omega) (wrap64 (Int.tdiv a0 10)) qa _ A6.o).mono ?_);rintro e w9 ⟨rfl,hb⟩;refine ⟨_,rfl,?_⟩;replace HB:=bS hb)|(refine gL (some 15) Tryz.func120 #[.int .i64 (Int.tmod a0 10)] (h:=?_);(with_reducible refine (ih k (by omega) (Int.tmod a0 10) qb _ A7.o).mono ?_);rintro e w10 ⟨rfl,hb⟩;refine ⟨_,rfl,?_⟩;replace HB:=bS hb))
   go_ret
   exact ⟨pE,pB⟩
  ·rw [if_neg c8] at H
   cases H
mutual
def Zm.j0:Nat->ByteArray->ByteArray->Bool->List Int->Int->Option (ByteArray)
 | 0,_,_,_,_,_=>none
 | k+1,x4,x5,qu,qs,qn=>if (qs.length:Int)=0 then (some (⟨#[48]⟩:ByteArray)) else (if (wrap64 ((x4.size:Int)+qn)) >= (-5) then (Zm.j1 k x4 x5 (wrap64 ((x4.size:Int)+qn)) (decide ((wrap64 ((x4.size:Int)+qn)) < 1))) else (Zm.j1 k x4 x5 (wrap64 ((x4.size:Int)+qn)) false))
def Zm.j3:Nat->ByteArray->ByteArray->Int->Option (ByteArray)
 | 0,_,_,_=>none
 | k+1,x4,x5,x6=>none
def Zm.j4:Nat->ByteArray->ByteArray->Int->ByteArray->Option (ByteArray)
 | 0,_,_,_,_=>none
 | k+1,x4,x5,x6,x7=>none
def Zm.j1:Nat->ByteArray->ByteArray->Int->Bool->Option (ByteArray)
 | 0,_,_,_,_=>none
 | k+1,x4,x5,x6,x25=>if x25=true then (if x5.size+2<=9223372036854775807 then ((Za8.f k (wrap64 (-x6))).bind fun ql=>(if (x5++(⟨#[48,46]⟩:ByteArray)).size+ql.size<=9223372036854775807 then (if ((x5++(⟨#[48,46]⟩:ByteArray))++ql).size+x4.size<=9223372036854775807 then (some (((x5++(⟨#[48,46]⟩:ByteArray))++ql)++x4)) else (none)) else (none))) else (none)) else (if x6 >= 1 then (if x6<=21 then (Zm.j2 k x4 x5 x6 (decide (x6 < (x4.size:Int)))) else (Zm.j2 k x4 x5 x6 false)) else (Zm.j2 k x4 x5 x6 false))
def Zm.j2:Nat->ByteArray->ByteArray->Int->Bool->Option (ByteArray)
 | 0,_,_,_,_=>none
 | k+1,x4,x5,x6,x40=>if x40=true then (none) else (if x6 >= 1 then (if x6<=21 then (if x5.size+x4.size<=9223372036854775807 then ((Za8.f k (wrap64 (x6 - (x4.size:Int)))).bind fun qq=>(if (x5++x4).size+qq.size<=9223372036854775807 then (some ((x5++x4)++qq)) else (none))) else (none)) else (Zm.j3 k x4 x5 x6)) else (Zm.j3 k x4 x5 x6))
end
def Zm.f (k:Nat) (a0_0:Bool) (l0_1:List Int) (a0_2:Int):Option (ByteArray):=(Zac.f k a0_0 l0_1 a0_2).bind fun qe=>((Zbc.f k qe.2.1).bind fun qb=>(if qe.1=true then (Zm.j0 k qb (⟨#[45]⟩:ByteArray) qe.1 qe.2.1 qe.2.2) else (Zm.j0 k qb (⟨#[]⟩:ByteArray) qe.1 qe.2.1 qe.2.2)))
def Zm.T11:Bool × List (List Nat × List Nat):=(true,[([],[]),([],[]),([],[]),([1,2],[1,2]),([0,3],[0,3]),([4],[4]),([],[]),([],[]),([6,7],[6,7]),([5,8],[5,8]),([9,0,1,2,3,4,5,6,7,8,9],[9])])
def Zm.B11:List Nat:=[0,0,0,6,15,31,0,0,192,511,1023]
theorem Zm.tab11:rtab .any (opsOf Tryz.f63 11)=Zm.T11:=by kernel_rfl
theorem Zm.bits11:waitsOk Zm.T11.2 Zm.B11=true:=by kernel_rfl
def Zm.T19:Bool × List (List Nat × List Nat):=(true,[([],[]),([],[]),([1],[1]),([0,2],[0,2]),([3],[3]),([],[]),([5],[5]),([4,6],[4,6]),([],[]),([7,8],[7,8]),([],[]),([10],[10]),([9,11],[9,11]),([12,11,0,1,2,3,4,5,6,7,8,9,10,11,12],[12])])
def Zm.B19:List Nat:=[0,0,2,7,15,0,32,127,0,511,0,1024,4095,8191]
theorem Zm.tab19:rtab .any (opsOf Tryz.f63 19)=Zm.T19:=by kernel_rfl
theorem Zm.bits19:waitsOk Zm.T19.2 Zm.B19=true:=by kernel_rfl
theorem Zm.calls (k:Nat) (a0_0:Bool) (A0_1:Option Addr) (c0_1:Nat) (l0_1:List Int) (a0_2:Int) (r:ByteArray) (w:World) (hr0_1:Kd.C (Kd.int .u32) w A0_1 l0_1.length l0_1) (hc0_1:l0_1.length<=c0_1) (h:Zm.f k a0_0 l0_1 a0_2=some r) :
  Calls Tryz.prog 63 #[.agg #[.bool a0_0,.slice A0_1 l0_1.length c0_1,.int .i64 a0_2]] w fun e w'=>e=.returned (.string r)/\Below w.heap.size w w':=by
 have hu24:=Tryz.underlying24
 have hu30:=Tryz.underlying30
 have HR0_1:=am hr0_1
 have HC0_1:=am hc0_1
 clear hr0_1 hc0_1
 have HB:=am (Below.refl w.heap.size w)
 have H:((Zac.f k a0_0 l0_1 a0_2).bind fun qe=>((Zbc.f k qe.2.1).bind fun qb=>(if qe.1=true then (Zm.j0 k qb (⟨#[45]⟩:ByteArray) qe.1 qe.2.1 qe.2.2) else (Zm.j0 k qb (⟨#[]⟩:ByteArray) qe.1 qe.2.1 qe.2.2))))=some r:=h
 clear h
 replace H:=ob H
 obtain ⟨⟨qo,qf,qh⟩,A2,H⟩:=H;(try dsimp only at H)
 replace H:=ob H
 obtain ⟨qb,A3,H⟩:=H
 have HC4:=am H
 clear H
 go_enter Tryz.func63,Tryz.ntmps63
 go_upto_if 14 with (first|((with_reducible refine gd 1 ?_);(try (refine Za1 (by rfl) ?_;dsimp only));refine bx 1 #[.bool a0_0,.slice A0_1 l0_1.length c0_1,.int .i64 a0_2] 24 (h:=?_);intro qr hg w5 hbox hb;have qc:=am hbox;have qx:=gW hg;replace HB:=bS hb;clear hb hbox hg;obtain ⟨_,_,_,_,_,_⟩:=cEc qc.o)|(refine gL (some 9) Tryz.func18 #[.agg #[.bool a0_0,.slice A0_1 l0_1.length c0_1,.int .i64 a0_2]] (h:=?_);(with_reducible refine (Zac.calls k a0_0 _ _ l0_1 a0_2 qo qf qh _ ?side1 ?side2 A2.o).mono ?_);(case side1=>exact cB HR0_1 HB);(case side2=>exact HC0_1.o);rintro e w7 ⟨q6,rfl,ho0,hb⟩;refine ⟨_,rfl,?_⟩;have qj:=am (Kd.Zn ho0 (Zb pB));replace qc:=bb qc hb;replace HB:=bS hb)|((with_reducible refine gd 3 ?_);(try (refine Za1 (by rfl) ?_;dsimp only));refine bx 3 #[.bool false,.slice none 0 0,.int .i64 0] 30 (h:=?_);intro qp hg w8 hbox hb;have qd:=am hbox;have qy:=gW hg;have qg:=nL hg qc;have qi:=nG hg qc;replace qj:=rbl qj hb;replace qc:=bb qc hb;replace HB:=bS hb;clear hb hbox hg;have hnb9:=qi.o;have hnc9:=qg.o;obtain ⟨_,_,_,_,_,_⟩:=cEc qd.o;obtain ⟨qm,qk,qv⟩:=Kd.Zh qj.o;subst qv)|(refine gL (some 12) Tryz.func118 #[.slice qm qf.length qk] (h:=?_);(with_reducible refine (Zbc.calls k _ _ qf qb _ ?side1 ?side2 A3.o).mono ?_);(case side1=>refine (Kd.Zc (e:=3) (base:=w.heap.size) (ok:=fun k_=>True) (n:=qf.length) (c:=qk) ?_).2.2;exact (Kd.Za (z3 qj.o qd.o (by decide) (.bool qo) (.slice qm qf.length qk) (.int .i64 qh)) pl));(case side2=>exact (Kd.Zc qj.o).2.1);rintro e w12 ⟨rfl,hb⟩;refine ⟨_,rfl,?_⟩;replace qj:=am (Kd.Za (Kd.Za (z3 qj.o qd.o (by decide) (.bool qo) (.slice qm qf.length qk) (.int .i64 qh)) pl) hb);replace qc:=bfb qg qc hb;replace qd:=am (Zg (g:=qp) (o:=.cells #[.bool qo,.slice qm qf.length qk,.int .i64 qh] 30 (0,0)) (by exact p3 qd) hb);replace HB:=bS hb;obtain ⟨_,_,_,_,_,_⟩:=cEc qd.o))
 (try simp only [Act.put,List.setIfInBounds_toArray,List.set_cons_zero,List.set_cons_succ])
 go_cut [5] (fun v5 wc => ∃ (kq:Nat) (x5_3:ByteArray),v5=.string x5_3/\Aside0 (Zm.j0 kq qb x5_3 qo qf qh=some r)/\Aside0 (kq<=k)/\Aside0 (Kd.R (Kd.int .i64) 3 wc w.heap.size (fun _=>True) (.slice qm qf.length qk) qf)/\Aside0 (wc.heap[qr]? = some (.cells #[.bool a0_0,(.slice A0_1 l0_1.length c0_1),.int .i64 a0_2] 24 (0,0)))/\Aside0 (wc.heap[qp]? = some (.cells #[.bool qo,(.slice qm qf.length qk),.int .i64 qh] 30 (0,0)))/\Aside0 (Below w.heap.size w wc))
 case first =>
  have H:=HC4.o
  clear HC4
  replace H:=tI (t:=qo) H
  rcases H with ⟨rfl,H⟩|⟨rfl,H⟩
  ·have H':=am H
   clear H
   go_wp2
   go_meet
   case rel=>exact ⟨_,((⟨#[45]⟩:ByteArray)),pR,H',pJ,⟨by refine rp ?_;exact qj.o⟩,⟨Zg qc.o pl⟩,⟨Zg qd.o pl⟩,⟨pB⟩⟩
  ·have H':=am H
   clear H
   go_wp2
   go_meet
   case rel=>exact ⟨_,((⟨#[]⟩:ByteArray)),pR,H',pJ,⟨by refine rp ?_;exact qj.o⟩,⟨Zg qc.o pl⟩,⟨Zg qd.o pl⟩,⟨pB⟩⟩
 case rest =>
  clear HC4
  obtain ⟨kq,x5_3,rfl,HA,HJ3,qa,qc,qd,HB⟩:=hcut
  cases kq with
  | zero=>exact absurd HA.out (by simp [Zm.j0])
  | succ kj3 =>
   have H:=HA.out
   clear HA
   simp only [Zm.j0] at H
   have HC15:=am H
   clear H
   have qz:=qi.o
   have q2:=qg.o
   obtain ⟨_,_,_,_,_,_⟩:=cEc qd.o
   go_upto_block 0 with (fail)
   go_cut [] (fun wc => ∃ (kq:Nat),Aside0 (Zm.j3 kq qb x5_3 (wrap64 ((qb.size:Int)+qh))=some r)/\Aside0 (kq<=kj3)/\Aside0 (Kd.R (Kd.int .i64) 3 wc w.heap.size (fun _=>True) (.slice qm qf.length qk) qf)/\Aside0 (wc.heap[qr]? = some (.cells #[.bool a0_0,(.slice A0_1 l0_1.length c0_1),.int .i64 a0_2] 24 (0,0)))/\Aside0 (wc.heap[qp]? = some (.cells #[.bool qo,(.slice qm qf.length qk),.int .i64 qh] 30 (0,0)))/\Aside0 (Below w.heap.size w wc))
   case first =>
    have H:=HC15.o
    clear HC15
    replace H:=eI H
    rcases H with ⟨c18b0,c18b1,H⟩|⟨c18,c18b0,c18b1,H⟩
    ·(first|rw [c18b0]|(simp only [Zb9,Zdj];rw [c18b0])|skip)
     obtain rfl:=Option.some.inj H
     have q0:=qi.o
     have q3:=qg.o
     obtain ⟨_,_,_,_,_,_⟩:=cEc qd.o
     go_wp2
     go_ret
     exact ⟨pE,pB⟩
    ·have c18b2:¬ (qf=[]):=fun h_=>c18 (by rw [h_];rfl)
     (first|rw [c18b0]|(simp only [Zb9,Zdj];rw [c18b0])|skip)
     have HC21:=am H
     clear H
     have q1:=qi.o
     have q4:=qg.o
     obtain ⟨_,_,_,_,_,_⟩:=cEc qd.o
     go_upto_region 8 with (fail)
     go_cut [25] (fun v25 wc => ∃ (kq:Nat) (x25_20:Bool),v25=.bool x25_20/\Aside0 (Zm.j1 kq qb x5_3 (wrap64 ((qb.size:Int)+qh)) x25_20=some r)/\Aside0 (kq<=kj3)/\Aside0 (Kd.R (Kd.int .i64) 3 wc w.heap.size (fun _=>True) (.slice qm qf.length qk) qf)/\Aside0 (wc.heap[qr]? = some (.cells #[.bool a0_0,(.slice A0_1 l0_1.length c0_1),.int .i64 a0_2] 24 (0,0)))/\Aside0 (wc.heap[qp]? = some (.cells #[.bool qo,(.slice qm qf.length qk),.int .i64 qh] 30 (0,0)))/\Aside0 (Below w.heap.size w wc))
     case first =>
      have H:=HC21.o
      clear HC21
      replace H:=hI H
      rcases H with ⟨c24b0,H⟩|⟨c24b0,H⟩
      ·(first|rw [c24b0]|(simp only [Zb9,Zdj];rw [c24b0])|skip)
       have H':=am H
       clear H
       go_wp2
       go_meet
       case rel=>exact ⟨_,(decide ((wrap64 ((qb.size:Int)+qh)) < 1)),pR,H',pJ,⟨by refine rp ?_;exact qa.o⟩,⟨Zg qc.o pl⟩,⟨Zg qd.o pl⟩,⟨pB⟩⟩
      ·(first|rw [c24b0]|(simp only [Zb9,Zdj];rw [c24b0])|skip)
       have H':=am H
       clear H
       go_wp2
       go_meet
       case rel=>exact ⟨_,(false),pR,H',pJ,⟨by refine rp ?_;exact qa.o⟩,⟨Zg qc.o pl⟩,⟨Zg qd.o pl⟩,⟨pB⟩⟩
     case rest =>
      clear HC21
      obtain ⟨kq,x25_20,rfl,HA,HJ20,qa,qc,qd,HB⟩:=hcut
      cases kq with
      | zero=>exact absurd HA.out (by simp [Zm.j1])
      | succ qt =>
       have H:=HA.out
       clear HA
       simp only [Zm.j1] at H
       replace H:=tI (t:=x25_20) H
       rcases H with ⟨rfl,H⟩|⟨rfl,H⟩
       ·by_cases c26:x5_3.size+2<=9223372036854775807
        ·rw [if_pos c26] at H
         have c26b0:=eq_true c26
         have c26b1:decide (x5_3.size+2<=9223372036854775807)=true:=decide_eq_true c26
         try have c26b2:(9223372036854775807 < x5_3.size+2)=False:=eq_false (Nat.not_lt.2 c26)
         replace H:=ob H
         obtain ⟨ql,A27,H⟩:=H
         by_cases c28:(x5_3++(⟨#[48,46]⟩:ByteArray)).size+ql.size<=9223372036854775807
         ·rw [if_pos c28] at H
          have c28b0:=eq_true c28
          have c28b1:decide ((x5_3++(⟨#[48,46]⟩:ByteArray)).size+ql.size<=9223372036854775807)=true:=decide_eq_true c28
          try have c28b2:(9223372036854775807 < (x5_3++(⟨#[48,46]⟩:ByteArray)).size+ql.size)=False:=eq_false (Nat.not_lt.2 c28)
          try have c28b3:(9223372036854775807 < x5_3.size+2+ql.size)=False:=eq_false (Nat.not_lt.2 (by have q_:=c28;have l0_:(⟨#[48,46]⟩:ByteArray).size=2:=rfl;(try have h0_:=of_decide_eq_true c26b1);simp only [ByteArray.size_append,ByteArray.size_extract] at q_;omega))
          by_cases c29:((x5_3++(⟨#[48,46]⟩:ByteArray))++ql).size+qb.size<=9223372036854775807
          ·rw [if_pos c29] at H
           have c29b0:=eq_true c29
           have c29b1:decide (((x5_3++(⟨#[48,46]⟩:ByteArray))++ql).size+qb.size<=9223372036854775807)=true:=decide_eq_true c29
           try have c29b2:(9223372036854775807 < ((x5_3++(⟨#[48,46]⟩:ByteArray))++ql).size+qb.size)=False:=eq_false (Nat.not_lt.2 c29)
           try have c29b3:(9223372036854775807 < x5_3.size+2+ql.size+qb.size)=False:=eq_false (Nat.not_lt.2 (by have q_:=c29;have l0_:(⟨#[48,46]⟩:ByteArray).size=2:=rfl;(try have h0_:=of_decide_eq_true c26b1);(try have h1_:=of_decide_eq_true c28b1);simp only [ByteArray.size_append,ByteArray.size_extract] at q_;omega))
           obtain rfl:=Option.some.inj H
           go_wp2_with (first|(refine gL (some 36) Tryz.func119 #[.int .i64 (wrap64 (-(wrap64 ((qb.size:Int)+qh))))] (h:=?_);(with_reducible refine (Za8.calls qt (wrap64 (-(wrap64 ((qb.size:Int)+qh)))) ql _ A27.o).mono ?_);rintro e w' ⟨rfl,⟨nd,rfl⟩⟩;refine ⟨_,rfl,?_⟩))
           go_ret
           exact ⟨pE,pB⟩
          ·rw [if_neg c29] at H
           cases H
         ·rw [if_neg c28] at H
          cases H
        ·rw [if_neg c26] at H
         cases H
       ·have HC30:=am H
        clear H
        go_upto_region 10 with (fail)
        go_cut [40] (fun v40 wc => ∃ (kq:Nat) (x40_29:Bool),v40=.bool x40_29/\Aside0 (Zm.j2 kq qb x5_3 (wrap64 ((qb.size:Int)+qh)) x40_29=some r)/\Aside0 (kq<=qt)/\Aside0 (Kd.R (Kd.int .i64) 3 wc w.heap.size (fun _=>True) (.slice qm qf.length qk) qf)/\Aside0 (wc.heap[qr]? = some (.cells #[.bool a0_0,(.slice A0_1 l0_1.length c0_1),.int .i64 a0_2] 24 (0,0)))/\Aside0 (wc.heap[qp]? = some (.cells #[.bool qo,(.slice qm qf.length qk),.int .i64 qh] 30 (0,0)))/\Aside0 (Below w.heap.size w wc))
        case first =>
         have H:=HC30.o
         clear HC30
         replace H:=hI H
         rcases H with ⟨c31b0,H⟩|⟨c31b0,H⟩
         ·(first|rw [c31b0]|(simp only [Zb9,Zdj];rw [c31b0])|skip)
          replace H:=dI H
          rcases H with ⟨c32b0,H⟩|⟨c32b0,H⟩
          ·have H':=am H
           clear H
           go_wp2
           go_meet
           case rel=>exact ⟨_,(decide ((wrap64 ((qb.size:Int)+qh)) < (qb.size:Int))),pR,H',pJ,⟨by refine rp ?_;exact qa.o⟩,⟨Zg qc.o pl⟩,⟨Zg qd.o pl⟩,⟨pB⟩⟩
          ·have H':=am H
           clear H
           go_wp2
           go_meet
           case rel=>exact ⟨_,(false),pR,H',pJ,⟨by refine rp ?_;exact qa.o⟩,⟨Zg qc.o pl⟩,⟨Zg qd.o pl⟩,⟨pB⟩⟩
         ·(first|rw [c31b0]|(simp only [Zb9,Zdj];rw [c31b0])|skip)
          have H':=am H
          clear H
          go_wp2
          go_meet
          case rel=>exact ⟨_,(false),pR,H',pJ,⟨by refine rp ?_;exact qa.o⟩,⟨Zg qc.o pl⟩,⟨Zg qd.o pl⟩,⟨pB⟩⟩
        case rest =>
         clear HC30
         obtain ⟨kq,x40_29,rfl,HA,HJ29,qa,qc,qd,HB⟩:=hcut
         cases kq with
         | zero=>exact absurd HA.out (by simp [Zm.j2])
         | succ qw =>
          have H:=HA.out
          clear HA
          simp only [Zm.j2] at H
          replace H:=tI (t:=x40_29) H
          rcases H with ⟨rfl,H⟩|⟨rfl,H⟩
          ·cases H
          ·replace H:=hI H
           rcases H with ⟨c43b0,H⟩|⟨c43b0,H⟩
           ·replace H:=dI H
            rcases H with ⟨c44b0,H⟩|⟨c44b0,H⟩
            ·by_cases c45:x5_3.size+qb.size<=9223372036854775807
             ·rw [if_pos c45] at H
              have c45b0:=eq_true c45
              have c45b1:decide (x5_3.size+qb.size<=9223372036854775807)=true:=decide_eq_true c45
              try have c45b2:(9223372036854775807 < x5_3.size+qb.size)=False:=eq_false (Nat.not_lt.2 c45)
              replace H:=ob H
              obtain ⟨qq,A46,H⟩:=H
              by_cases c47:(x5_3++qb).size+qq.size<=9223372036854775807
              ·rw [if_pos c47] at H
               have c47b0:=eq_true c47
               have c47b1:decide ((x5_3++qb).size+qq.size<=9223372036854775807)=true:=decide_eq_true c47
               try have c47b2:(9223372036854775807 < (x5_3++qb).size+qq.size)=False:=eq_false (Nat.not_lt.2 c47)
               try have c47b3:(9223372036854775807 < x5_3.size+qb.size+qq.size)=False:=eq_false (Nat.not_lt.2 (by have q_:=c47;(try have h0_:=of_decide_eq_true c45b1);simp only [ByteArray.size_append,ByteArray.size_extract] at q_;omega))
               obtain rfl:=Option.some.inj H
               go_wp2_with (first|(refine gL (some 77) Tryz.func119 #[.int .i64 (wrap64 ((wrap64 ((qb.size:Int)+qh)) - (qb.size:Int)))] (h:=?_);(with_reducible refine (Za8.calls qw (wrap64 ((wrap64 ((qb.size:Int)+qh)) - (qb.size:Int))) qq _ A46.o).mono ?_);rintro e w' ⟨rfl,⟨nd,rfl⟩⟩;refine ⟨_,rfl,?_⟩))
               go_ret
               exact ⟨pE,pB⟩
              ·rw [if_neg c47] at H
               cases H
             ·rw [if_neg c45] at H
              cases H
            ·have H':=am H
             clear H
             go_wp2
             go_meet
             case rel=>exact ⟨_,H',pJ,⟨by refine rp ?_;exact qa.o⟩,⟨Zg qc.o pl⟩,⟨Zg qd.o pl⟩,⟨pB⟩⟩
           ·have H':=am H
            clear H
            go_wp2
            go_meet
            case rel=>exact ⟨_,H',pJ,⟨by refine rp ?_;exact qa.o⟩,⟨Zg qc.o pl⟩,⟨Zg qd.o pl⟩,⟨pB⟩⟩
   case rest =>
    clear HC15
    obtain ⟨kq,HA,HJ14,qa,qc,qd,HB⟩:=hcut
    cases kq with
    | zero=>exact absurd HA.out (by simp [Zm.j3])
    | succ q5 =>
     have H:=HA.out
     clear HA
     simp only [Zm.j3] at H
     cases H
def Zbx.f (k:Nat)  : Option (Bool):=(Zbz.f k (⟨#[49]⟩:ByteArray)).bind fun qp=>((Zbz.f k (⟨#[51]⟩:ByteArray)).bind fun qq=>((Za9.f k qp.1 qp.2.1 qp.2.2 qq.1 qq.2.1 qq.2.2).bind fun qk=>((Zbz.f k (⟨#[52]⟩:ByteArray)).bind fun qr=>((Zbi.f k qr.1 qr.2.1 qr.2.2).bind fun ql=>((Zaj.f qk.2.2.2).bind fun q0=>((Zaj.f ql.2.2.2).bind fun qu=>(if (wrap64 (q0+qu))=0 then ((Zm.f k qk.1 qk.2.1 qk.2.2.1).bind fun qv=>(if qv.toList=([48,46,51,51,51,51,51,51,51,51,51,51,51,51,51,51,51,51,51,51,51,51,51,51,51,51,51,51,51,51,51,51,51,51,51,51,51,51,51,51,51,51]:List UInt8) then ((Zm.f k ql.1 ql.2.1 ql.2.2.1).bind fun q6=>(some (q6.toList == ([50]:List UInt8)))) else (some false))) else (some false))))))))
theorem Zbx.leaf {P:Prop} (h:P:=by
 go_enter Tryz.func16,Tryz.ntmps16
 go_wp2_with (first|(refine gL (some 6) Tryz.func62 #[.string (⟨#[49]⟩:ByteArray)] (h:=?_);(with_reducible refine (Zbz.calls k (⟨#[49]⟩:ByteArray) q8 qy q9 _ A1.o).mono ?_);rintro e w0z ⟨v1z,rfl,ho2z,hb⟩;refine ⟨_,rfl,?_⟩;have HO3z:=am (Kd.Zn ho2z (Zb pB));replace HB:=bS hb)|(refine gL (some 7) Tryz.func62 #[.string (⟨#[51]⟩:ByteArray)] (h:=?_);(with_reducible refine (Zbz.calls k (⟨#[51]⟩:ByteArray) ja qz jb _ A2.o).mono ?_);rintro e w4z ⟨v5z,rfl,ho2z,hb⟩;refine ⟨_,rfl,?_⟩;have HO6z:=am (Kd.Zn (Kd.Zf ho2z (Kd.R_lt (Kd.Za HO3z.o pl))) (Zb pB));replace HO3z:=reR HO3z ho2z hb;replace HB:=bS hb;obtain ⟨Ao7z,co8z,eo9z⟩:=Kd.Zh HO3z.o;subst eo9z;obtain ⟨qw,qx,jg⟩:=Kd.Zh HO6z.o;subst jg)|(refine gL (some 8) Tryz.func19 #[.agg #[.bool q8,.slice Ao7z qy.length co8z,.int .i64 q9],.agg #[.bool ja,.slice qw qz.length qx,.int .i64 jb]] (h:=?_);(with_reducible refine (Za9.calls k q8 (fun k_=>some k_=(.slice Ao7z qy.length co8z:Value).ownBlock) _ _ qy q9 ja (fun k_=>some k_=(.slice qw qz.length qx:Value).ownBlock) _ _ qz jb qs qn qt jc _ ?side1 ?side2 A3.o).mono ?_);(case side1=>exact Kd.R_V (Kd.Zby rfl (HO3z.o)));(case side2=>exact Kd.R_V (Kd.Zby rfl (HO6z.o)));rintro e w13z ⟨v14z,rfl,ho2z,hb⟩;refine ⟨_,rfl,?_⟩;have qb:=am (Kd.Zn (Kd.Zf (Kd.Zf (Kd.Zo (ok':=fun k_=>True) ho2z (fun _ hk_=>trivial)) (Kd.R_lt (Kd.Za HO3z.o pl))) (Kd.R_lt (Kd.Za HO6z.o pl))) (Zb pB));replace HO3z:=reR HO3z ho2z hb;replace HO6z:=reR HO6z ho2z hb;replace HB:=bS hb)|((with_reducible refine gd 1 ?_);refine bx 1 #[.bool false,.slice none 0 0,.int .i64 0] 24 (h:=?_);intro jk hg w17z hbox hb;have qa:=am hbox;have jn:=gW hg;replace HO3z:=rbl HO3z hb;replace HO6z:=rbl HO6z hb;replace qb:=rbl qb hb;replace HB:=bS hb;clear hb hbox hg;obtain ⟨_,_,_,_,_,_⟩:=cEc qa.o;obtain ⟨qo,qm,jh⟩:=Kd.Zh qb.o;subst jh)|(refine gL (some 12) Tryz.func62 #[.string (⟨#[52]⟩:ByteArray)] (h:=?_);(with_reducible refine (Zbz.calls k (⟨#[52]⟩:ByteArray) jd q4 je _ A4.o).mono ?_);rintro e w30z ⟨v31z,rfl,ho2z,hb⟩;refine ⟨_,rfl,?_⟩;have qf:=am (Kd.Zn (Kd.Zf (Kd.Zf (Kd.Zf ho2z (Kd.R_lt (Kd.Za (z3 HO3z.o qa.o (by decide) (.bool qs) (.slice qo qn.length qm) (.int .i64 qt)) pl))) (Kd.R_lt (Kd.Za (z3 HO6z.o qa.o (by decide) (.bool qs) (.slice qo qn.length qm) (.int .i64 qt)) pl))) (Kd.R_lt (Kd.Za (z3 qb.o qa.o (by decide) (.bool qs) (.slice qo qn.length qm) (.int .i64 qt)) pl))) (Zb pB));replace HO3z:=am (Kd.Zy (Kd.Za (z3 HO3z.o qa.o (by decide) (.bool qs) (.slice qo qn.length qm) (.int .i64 qt)) pl) (Kd.Zt ho2z) hb);replace HO6z:=am (Kd.Zy (Kd.Za (z3 HO6z.o qa.o (by decide) (.bool qs) (.slice qo qn.length qm) (.int .i64 qt)) pl) (Kd.Zt ho2z) hb);replace qb:=am (Kd.Zy (Kd.Za (z3 qb.o qa.o (by decide) (.bool qs) (.slice qo qn.length qm) (.int .i64 qt)) pl) (Kd.Zt ho2z) hb);replace qa:=am (Zg (g:=jk) (o:=.cells #[.bool qs,.slice qo qn.length qm,.int .i64 qt] 24 (0,0)) (by exact p3 qa) hb);replace HB:=bS hb;obtain ⟨q1,q3,ji⟩:=Kd.Zh qf.o;subst ji)|(refine gL (some 13) Tryz.func26 #[.agg #[.bool jd,.slice q1 q4.length q3,.int .i64 je]] (h:=?_);(with_reducible refine (Zbi.calls k jd _ _ q4 je qi qg qj q5 _ ?side1 ?side2 A5.o).mono ?_);(case side1=>exact Kd.Zi (Kd.Zc qf.o).2.2 pl);(case side2=>exact (Kd.Zc qf.o).2.1);rintro e w36z ⟨v37z,rfl,ho2z,hb⟩;refine ⟨_,rfl,?_⟩;have qh:=am (Kd.Zn (Kd.Zf (Kd.Zf (Kd.Zf (Kd.Zf ho2z (Kd.R_lt (Kd.Za HO3z.o pl))) (Kd.R_lt (Kd.Za HO6z.o pl))) (Kd.R_lt (Kd.Za qb.o pl))) (Kd.R_lt (Kd.Za qf.o pl))) (Zb pB));replace HO3z:=reR HO3z ho2z hb;replace HO6z:=reR HO6z ho2z hb;replace qb:=reR qb ho2z hb;replace qf:=reR qf ho2z hb;replace qa:=bb qa hb;replace HB:=bS hb)|((with_reducible refine gd 3 ?_);refine bx 3 #[.bool false,.slice none 0 0,.int .i64 0] 24 (h:=?_);intro q7 hg w40z hbox hb;have qc:=am hbox;have jo:=gW hg;have q2:=nL hg qa;have jf:=nG hg qa;replace HO3z:=rbl HO3z hb;replace HO6z:=rbl HO6z hb;replace qb:=rbl qb hb;replace qf:=rbl qf hb;replace qh:=rbl qh hb;replace qa:=bb qa hb;replace HB:=bS hb;clear hb hbox hg;have jl:=jf.o;have jm:=q2.o;obtain ⟨_,_,_,_,_,_⟩:=cEc qc.o;obtain ⟨qd,qe,jj⟩:=Kd.Zh qh.o;subst jj)|(refine gL (some 17) Tryz.func20 #[.int .i64 jc] (h:=?_);(with_reducible refine (Zaj.calls jc q0 _ A6.o).mono ?_);rintro e w' ⟨rfl,⟨nd,rfl⟩⟩;refine ⟨_,rfl,?_⟩)|((have q_:=A9;clear q_);refine gL (some 19) Tryz.func20 #[.int .i64 q5] (h:=?_);(with_reducible refine (Zaj.calls q5 qu _ A7.o).mono ?_);rintro e w' ⟨rfl,⟨nd,rfl⟩⟩;refine ⟨_,rfl,?_⟩;obtain ⟨_,_,_,_,_,_⟩:=cEc qa.o)|((have q_:=A11;clear q_);go_at_call 63;(with_reducible refine (Zm.calls k qs _ _ qn qt qv _ ?side1 ?side2 A9.o).mono ?_);(case side1=>refine (Kd.Zc (e:=85) (base:=w.heap.size) (ok:=fun k_=>((((True/\some k_ ≠ (.slice Ao7z qy.length co8z:Value).ownBlock)/\some k_ ≠ (.slice qw qz.length qx:Value).ownBlock)/\some k_ ≠ (.slice q1 q4.length q3:Value).ownBlock)/\some k_ ≠ (.slice qd qg.length qe:Value).ownBlock)) (n:=qn.length) (c:=qm) ?_).2.2;exact (Kd.Za (z3 qb.o qc.o (by decide) (.bool qi) (.slice qd qg.length qe) (.int .i64 qj)) pl));(case side2=>exact (Kd.Zc qb.o).2.1);rintro e w63z ⟨rfl,hb⟩;replace HO3z:=am (Kd.Za (Kd.Za (z3 HO3z.o qc.o (by decide) (.bool qi) (.slice qd qg.length qe) (.int .i64 qj)) pl) hb);replace HO6z:=am (Kd.Za (Kd.Za (z3 HO6z.o qc.o (by decide) (.bool qi) (.slice qd qg.length qe) (.int .i64 qj)) pl) hb);replace qb:=am (Kd.Za (Kd.Za (z3 qb.o qc.o (by decide) (.bool qi) (.slice qd qg.length qe) (.int .i64 qj)) pl) hb);replace qf:=am (Kd.Za (Kd.Za (z3 qf.o qc.o (by decide) (.bool qi) (.slice qd qg.length qe) (.int .i64 qj)) pl) hb);replace qh:=am (Kd.Za (Kd.Za (z3 qh.o qc.o (by decide) (.bool qi) (.slice qd qg.length qe) (.int .i64 qj)) pl) hb);replace qa:=bfb q2 qa hb;replace qc:=am (Zg (g:=q7) (o:=.cells #[.bool qi,.slice qd qg.length qe,.int .i64 qj] 24 (0,0)) (by exact p3 qc) hb);replace HB:=bS hb;obtain ⟨_,_,_,_,_,_⟩:=cEc qc.o)|(go_at_call 63;(with_reducible refine (Zm.calls k qi _ _ qg qj q6 _ ?side1 ?side2 A11.o).mono ?_);(case side1=>exact Kd.Zi (Kd.Zc qh.o).2.2 pl);(case side2=>exact (Kd.Zc qh.o).2.1);rintro e w70z ⟨rfl,hb⟩;replace HO3z:=rbl HO3z hb;replace HO6z:=rbl HO6z hb;replace qb:=rbl qb hb;replace qf:=rbl qf hb;replace qh:=rbl qh hb;replace qa:=bb qa hb;replace qc:=bb qc hb;replace HB:=bS hb)|((have q_:(qv.toList != ([48,46,51,51,51,51,51,51,51,51,51,51,51,51,51,51,51,51,51,51,51,51,51,51,51,51,51,51,51,51,51,51,51,51,51,51,51,51,51,51,51,51]:List UInt8))=true:=c10b1;clear q_);go_at_call 63;(with_reducible refine (Zm.calls k qs _ _ qn qt qv _ ?side1 ?side2 A9.o).mono ?_);(case side1=>refine (Kd.Zc (e:=85) (base:=w.heap.size) (ok:=fun k_=>((((True/\some k_ ≠ (.slice Ao7z qy.length co8z:Value).ownBlock)/\some k_ ≠ (.slice qw qz.length qx:Value).ownBlock)/\some k_ ≠ (.slice q1 q4.length q3:Value).ownBlock)/\some k_ ≠ (.slice qd qg.length qe:Value).ownBlock)) (n:=qn.length) (c:=qm) ?_).2.2;exact (Kd.Za (z3 qb.o qc.o (by decide) (.bool qi) (.slice qd qg.length qe) (.int .i64 qj)) pl));(case side2=>exact (Kd.Zc qb.o).2.1);rintro e w63z ⟨rfl,hb⟩;replace HO3z:=am (Kd.Za (Kd.Za (z3 HO3z.o qc.o (by decide) (.bool qi) (.slice qd qg.length qe) (.int .i64 qj)) pl) hb);replace HO6z:=am (Kd.Za (Kd.Za (z3 HO6z.o qc.o (by decide) (.bool qi) (.slice qd qg.length qe) (.int .i64 qj)) pl) hb);replace qb:=am (Kd.Za (Kd.Za (z3 qb.o qc.o (by decide) (.bool qi) (.slice qd qg.length qe) (.int .i64 qj)) pl) hb);replace qf:=am (Kd.Za (Kd.Za (z3 qf.o qc.o (by decide) (.bool qi) (.slice qd qg.length qe) (.int .i64 qj)) pl) hb);replace qh:=am (Kd.Za (Kd.Za (z3 qh.o qc.o (by decide) (.bool qi) (.slice qd qg.length qe) (.int .i64 qj)) pl) hb);replace qa:=bfb q2 qa hb;replace qc:=am (Zg (g:=q7) (o:=.cells #[.bool qi,.slice qd qg.length qe,.int .i64 qj] 24 (0,0)) (by exact p3 qc) hb);replace HB:=bS hb)|((have q_:((wrap64 (q0+qu)) != 0)=true:=c8b1;clear q_);refine gL (some 19) Tryz.func20 #[.int .i64 q5] (h:=?_);(with_reducible refine (Zaj.calls q5 qu _ A7.o).mono ?_);rintro e w' ⟨rfl,⟨nd,rfl⟩⟩;refine ⟨_,rfl,?_⟩))
 go_ret
 exact ⟨pE,pB⟩):P:=h
theorem Zbx.calls (k:Nat)  (r:Bool) (w:World) (h:Zbx.f k  = some r) :
  Calls Tryz.prog 16 #[] w fun e w'=>e=.returned (.bool r)/\Below w.heap.size w w':=by
 have hu24:=Tryz.underlying24
 have HB:=am (Below.refl w.heap.size w)
 have H:((Zbz.f k (⟨#[49]⟩:ByteArray)).bind fun qp=>((Zbz.f k (⟨#[51]⟩:ByteArray)).bind fun qq=>((Za9.f k qp.1 qp.2.1 qp.2.2 qq.1 qq.2.1 qq.2.2).bind fun qk=>((Zbz.f k (⟨#[52]⟩:ByteArray)).bind fun qr=>((Zbi.f k qr.1 qr.2.1 qr.2.2).bind fun ql=>((Zaj.f qk.2.2.2).bind fun q0=>((Zaj.f ql.2.2.2).bind fun qu=>(if (wrap64 (q0+qu))=0 then ((Zm.f k qk.1 qk.2.1 qk.2.2.1).bind fun qv=>(if qv.toList=([48,46,51,51,51,51,51,51,51,51,51,51,51,51,51,51,51,51,51,51,51,51,51,51,51,51,51,51,51,51,51,51,51,51,51,51,51,51,51,51,51,51]:List UInt8) then ((Zm.f k ql.1 ql.2.1 ql.2.2.1).bind fun q6=>(some (q6.toList == ([50]:List UInt8)))) else (some false))) else (some false)))))))))=some r:=h
 clear h
 replace H:=ob H
 obtain ⟨⟨q8,qy,q9⟩,A1,H⟩:=H;(try dsimp only at H)
 replace H:=ob H
 obtain ⟨⟨ja,qz,jb⟩,A2,H⟩:=H;(try dsimp only at H)
 replace H:=ob H
 obtain ⟨⟨qs,qn,qt,jc⟩,A3,H⟩:=H;(try dsimp only at H)
 replace H:=ob H
 obtain ⟨⟨jd,q4,je⟩,A4,H⟩:=H;(try dsimp only at H)
 replace H:=ob H
 obtain ⟨⟨qi,qg,qj,q5⟩,A5,H⟩:=H;(try dsimp only at H)
 replace H:=ob H
 obtain ⟨q0,A6,H⟩:=H
 replace H:=ob H
 obtain ⟨qu,A7,H⟩:=H
 replace H:=eI H
 rcases H with ⟨c8b0,c8b1,H⟩|⟨c8,c8b0,c8b1,H⟩
 ·replace H:=ob H
  obtain ⟨qv,A9,H⟩:=H
  replace H:=eI H
  rcases H with ⟨c10b0,c10b1,H⟩|⟨c10,c10b0,c10b1,H⟩
  ·replace H:=ob H
   obtain ⟨q6,A11,H⟩:=H
   obtain rfl:=Option.some.inj H
   exact Zbx.leaf
  ·obtain rfl:=Option.some.inj H
   exact Zbx.leaf
 ·obtain rfl:=Option.some.inj H
  exact Zbx.leaf
end YtjbjkmccfocikaaGreatDoor.B
end
section
namespace YtjbjkmccfocikaaGreatDoor.P.Nm
open Go.RowKit YtjbjkmccfocikaaGreatDoorW.PrintWords YtjbjkmccfocikaaGreatDoor.B YtjbjkmccfocikaaGreatDoor.P
theorem alive03:Tells (fun k=>Zbx.f k) true:=Tells.at 200 fun k=>by kernel_rfl
end YtjbjkmccfocikaaGreatDoor.P.Nm
end
section
namespace YtjbjkmccfocikaaGreatDoor.B
open Go.RowKit YtjbjkmccfocikaaGreatDoorW.PrintWords YtjbjkmccfocikaaGreatDoorW.PrintLast YtjbjkmccfocikaaGreatDoorW.PrintMore
attribute [local go_sem] Zch Zci Zc9 Zda Zb1 Zb2 Zcp Zcq
def Zdh.f (k:Nat) (l0:List Int) (a1:Int):Option (Bool):=(Zcr.f k 2).bind fun q8=>((Zdb.f k l0 q8).bind fun q7=>((Zs.f q7.1 q7.2).bind fun jc=>((Zbq.f k a1).bind fun jd=>((Zc3.f k jc jd).bind fun jo=>(some (decide (jo.1 >= 0)))))))
theorem Zdh.calls (k:Nat) (A0:Option Addr) (c0:Nat) (l0:List Int) (a1:Int) (r:Bool) (w:World) (hr0:Kd.C (Kd.int .u32) w A0 l0.length l0) (hc0:l0.length<=c0) (h:Zdh.f k l0 a1=some r) :
  Calls Tryz.prog 89 #[.slice A0 l0.length c0,.int .i64 a1] w fun e w'=>e=.returned (.bool r)/\Below w.heap.size w w':=by
 have HR0:=am hr0
 have HC0:=am hc0
 clear hr0 hc0
 have HB:=am (Below.refl w.heap.size w)
 have H:((Zcr.f k 2).bind fun q8=>((Zdb.f k l0 q8).bind fun q7=>((Zs.f q7.1 q7.2).bind fun jc=>((Zbq.f k a1).bind fun jd=>((Zc3.f k jc jd).bind fun jo=>(some (decide (jo.1 >= 0))))))))=some r:=h
 clear h
 obtain ⟨q8,A3,H⟩:=ob H
 obtain ⟨⟨jy,qah⟩,A4,H⟩:=ob H;(try dsimp only at H)
 obtain ⟨jc,A5,H⟩:=ob H
 obtain ⟨jd,A6,H⟩:=ob H
 obtain ⟨⟨qbr,qbs⟩,A7,H⟩:=ob H;(try dsimp only at H)
 obtain rfl:=Option.some.inj H
 go_enter Tryz.func89,Tryz.ntmps89
 go_wp2_with (first|(refine gL (some 9) Tryz.func76 #[.int .u64 2] (h:=?_);(with_reducible refine (Zcr.calls k 2 q8 _ A3.o).mono ?_);rintro e w8 ⟨qb8,rfl,ho0,hb⟩;refine ⟨_,rfl,?_⟩;have qc:=am (Kd.Zn ho0 (Zb pB));replace HB:=bS hb;obtain ⟨Ao9,co9,eo9⟩:=Kd.Zh qc.o;subst eo9)|(refine gL (some 10) Tryz.func71 #[.slice A0 l0.length c0,.slice Ao9 q8.length co9] (h:=?_);(with_reducible refine (Zdb.calls k _ _ l0 _ _ q8 jy qah _ ?side1 ?side2 ?side3 ?side4 A4.o).mono ?_);(case side1=>exact cB HR0 HB);(case side2=>exact HC0.o);(case side3=>exact Kd.Zi (Kd.Zc qc.o).2.2 pl);(case side4=>exact (Kd.Zc qc.o).2.1);rintro e w10 ⟨qb9,rfl,ho0,hb⟩;refine ⟨_,rfl,?_⟩;have jn:=am (Kd.Zn (Kd.Zf ho0 (Kd.R_lt (Kd.Za qc.o pl))) (Zb pB));replace qc:=reR qc ho0 hb;replace HB:=bS hb;obtain ⟨j6,qab,qbg⟩:=Kd.Zh jn.o;subst qbg)|(refine gL (some 13) Tryz.func70 #[.slice j6 jy.length qab,.int .i64 qah] (h:=?_);(with_reducible refine (Zs.calls (fun k_=>some k_=(.slice j6 jy.length qab:Value).ownBlock) (.slice j6 jy.length qab) jy qah jc w _ ?side1 ?side2 A5.o).mono ?_);(case side1=>exact pB);(case side2=>exact Kd.Zby rfl jn.o);rintro e w12 ⟨qbv,rfl,ho0,hb,hkp⟩;refine ⟨_,rfl,?_⟩;have qp:=am (Kd.Zo (ok':=fun k_=>some k_ ≠ (.slice Ao9 q8.length co9:Value).ownBlock) ho0 (fun k_ hk_=>Or.elim hk_ (fun hs_=>fun e_=>(((qc.o).1 k_ e_.symm).2) hs_) (fun hn_=>(Kd.fresh' (Kd.R_lt (Kd.Za qc.o pl)) k_ hn_))));replace qc:=am (Kd.Zo (ok':=fun k_=>some k_ ≠ (qbv:Value).ownBlock) (Kd.Zcc (qc.o) hkp (fun k_ hk_ hs_=>(hk_.2) hs_)) (fun k_ hk_=>fun e_=>Or.elim (ho0.1 k_ e_.symm) (fun hs_=>hk_.2.1 hs_) (fun hn_=>Nat.not_le.2 hk_.2.2 hn_)));replace HB:=am hb;clear jn)|(refine gL (some 15) Tryz.func72 #[.int .i64 a1] (h:=?_);(with_reducible refine (Zbq.calls k a1 jd _ A6.o).mono ?_);rintro e w13 ⟨qca,rfl,ho0,hb⟩;refine ⟨_,rfl,?_⟩;have qz:=am (Kd.Zn (Kd.Zf (Kd.Zf ho0 (Kd.R_lt (Kd.Za qc.o pl))) (Kd.R_lt (Kd.Za qp.o pl))) (Zb pB));replace qc:=reR qc ho0 hb;replace qp:=reR qp ho0 hb;replace HB:=bS hb;obtain ⟨qa4,qbd,qbh⟩:=Kd.Zh qp.o;subst qbh;obtain ⟨j7,qac,qag⟩:=Kd.Zh qz.o;subst qag)|(refine gL (some 16) Tryz.func90 #[.slice qa4 jc.length qbd,.slice j7 jd.length qac] (h:=?_);(with_reducible refine (Zc3.calls k _ _ jc _ _ jd qbr qbs _ ?side1 ?side2 ?side3 ?side4 A7.o).mono ?_);(case side1=>exact Kd.Zi (Kd.Zc qp.o).2.2 pl);(case side2=>exact (Kd.Zc qp.o).2.1);(case side3=>exact Kd.Zi (Kd.Zc qz.o).2.2 pl);(case side4=>exact (Kd.Zc qz.o).2.1);rintro e w16 ⟨rfl,hb⟩;refine ⟨_,rfl,?_⟩;replace qc:=rbl qc hb;replace qp:=rbl qp hb;replace qz:=rbl qz hb;replace HB:=bS hb))
 go_ret
 exact ⟨pE,pB⟩
def Zbl.j0:Nat->List Int->Bool->Bool->List Int->Int->Option (Bool × List Int × Int × Int)
 | 0,_,_,_,_,_=>none
 | k+1,x7,x30,ji,qa2,qa3=>if x30=true then ((Zcr.f k 1).bind fun je=>((Zey.f k x7 je).bind fun j4=>((Zs.f j4.1 j4.2).bind fun j1=>((Zan.f k ji j1 0).bind fun jg=>(some (jg.1,jg.2.1,jg.2.2.1,jg.2.2.2)))))) else ((Zan.f k ji x7 0).bind fun jh=>(some (jh.1,jh.2.1,jh.2.2.1,jh.2.2.2)))
def Zbl.f (k:Nat) (u:Nat->List Int->Int->Option Bool) (a0_0:Bool) (l0_1:List Int) (a0_2:Int):Option (Bool × List Int × Int × Int):=(Za6.f k a0_0 l0_1 a0_2).bind fun qo=>(if qo=0 then ((Zao.f k a0_0 l0_1 a0_2).bind fun ql=>(if (ql.2.1.length:Int) > 0 then ((u k ql.2.1 ql.2.2).bind fun jj=>(Zbl.j0 k ql.1 jj a0_0 l0_1 a0_2)) else (Zbl.j0 k ql.1 false a0_0 l0_1 a0_2))) else (some (false,([]:List Int),0,qo)))
theorem Zll.calls (x y:Value) (gc:Nat) (a r:Bool) (s e_:Value) (w:World) (hb:w.heap[gc]? = some (.cells #[.bool a,s,e_] 24 (0,0))) (h:some a=some r) :
  Calls Tryz.prog 87 #[x,y,.pointer (some ⟨gc,0,none⟩)] w fun e w'=>e=.returned (.bool r)/\Below w.heap.size w w':=by
 obtain rfl:=Option.some.inj h
 obtain ⟨_,_,_,_,_,_⟩:=cEc hb
 go_enter Tryz.func87,Tryz.ntmps87
 go_wp2
 go_ret
 exact ⟨rfl,Below.refl _ _⟩
theorem Zmj.calls (x y:Value) (gc:Nat) (a r:Bool) (s e_:Value) (w:World) (hb:w.heap[gc]? = some (.cells #[.bool a,s,e_] 24 (0,0))) (h:some (!a)=some r) :
  Calls Tryz.prog 88 #[x,y,.pointer (some ⟨gc,0,none⟩)] w fun e w'=>e=.returned (.bool r)/\Below w.heap.size w w':=by
 obtain rfl:=Option.some.inj h
 obtain ⟨_,_,_,_,_,_⟩:=cEc hb
 have hmn_:∀ (x:Bool) (w:World),(Op.unary .not (.bool x)).run Tryz.prog w=.ok (.bool (!x)) w:=fun _ _=>rfl
 go_enter Tryz.func88,Tryz.ntmps88
 go_wp2
 go_ret
 exact ⟨rfl,Below.refl _ _⟩
section
variable {P:Program} {ops:Array Oper} {Q:Exit->Act->World->Prop}
theorem gT {rest : List Oper} {oi : Oper} {a : Act} {w : World} (N : Option Tmp) {F : FuncId} {fn : Func} {as0 : Array Operand} {ts : Array TypeId} {t0 : Operand} (cap args : Array Value) (hf : P.funcs[F]? = some fn) (hname : (fn.name == "runtime.NumGoroutine") = false) (hb : fn.body.isSome = true)
    (h:Calls P F (args++cap) w fun e w' => ∃ v,e=.returned v/\wpList P ops Q rest (a.put N v) w') (hd:oi.dst=N:=by rfl) (hg:oi.guard=none:=by rfl) (hop:oi.op=.call { callee:=.value t0,args:=as0,argTypes:=ts }:=by rfl)
    (hv:a.eval t0=.func (.func F) #[] cap:=by rfl) (hargs:as0.map a.eval=args:=by (try simp only [List.map_toArray,List.map_cons,List.map_nil]);first|done|rfl):wpList P ops Q (oi :: rest) a w:=by
 refine wpList_plain hg fun K hK=>?_
 have he:=Go.Proofs.YtjbjkmccfocikaaGreatDoorW.PrintLast.enters_ hf hname hb (args++cap) w
 have hrun:(execOp a.eval oi).run P w=.ok (.enter F (args++cap)) w:=by
  unfold execOp
  simp [hop,resolve,hv,Deferred.ofValue,invoke,hargs,he]
 unfold Oper.wp
 rw [hrun,Oper.upon_enter]
 refine h.mono fun e w'' hh=>?_
 obtain ⟨v,rfl,hk⟩:=hh
 subst hd
 exact hK _ _ hk
end
theorem Zbl.calls (k : Nat) (u : Nat → List Int → Int → Option Bool) {F : FuncId} {fn : Func} (cap : Array Value) (hf_ : Tryz.prog.funcs[F]? = some fn) (hn_ : (fn.name == "runtime.NumGoroutine") = false) (hb_ : fn.body.isSome = true) (a0_0 : Bool) (A0_1 : Option Addr) (c0_1 : Nat) (l0_1 : List Int) (a0_2 : Int) (r1 : Bool) (r2 : List Int) (r3 : Int) (r4 : Int) (w : World) (hr0_1 : Kd.C (Kd.int .u32) w A0_1 l0_1.length l0_1) (hc0_1 : l0_1.length ≤ c0_1) (hu_ : ∀ (A : Option Addr) (c : Nat) (l : List Int) (t : Int) (r : Bool) (w' : World), Below w.heap.size w w' → Kd.C (Kd.int .u32) w' A l.length l → l.length ≤ c → u k l t = some r → Calls Tryz.prog F (#[.slice A l.length c, .int .i64 t] ++ cap) w' fun e w'' => e = .returned (.bool r) ∧ Below w'.heap.size w' w'') (h : Zbl.f k u a0_0 l0_1 a0_2 = some (r1, r2, r3, r4)) :
  Calls Tryz.prog 86 #[.agg #[.bool a0_0,.slice A0_1 l0_1.length c0_1,.int .i64 a0_2],.func (.func F) #[] cap] w fun e w' => ∃ v1_:Value,e=.returned (.tuple #[.agg #[.bool r1,v1_,.int .i64 r3],.int .i64 r4])/\Kd.R (Kd.int .u32) 85 w' w.heap.size (fun _=>True) v1_ r2/\Below w.heap.size w w':=by
 have hu24:=Tryz.underlying24
 have HR0_1:=am hr0_1
 have HC0_1:=am hc0_1
 clear hr0_1 hc0_1
 have HB:=am (Below.refl w.heap.size w)
 have H:((Za6.f k a0_0 l0_1 a0_2).bind fun qo=>(if qo=0 then ((Zao.f k a0_0 l0_1 a0_2).bind fun ql=>(if (ql.2.1.length:Int) > 0 then ((u k ql.2.1 ql.2.2).bind fun jj=>(Zbl.j0 k ql.1 jj a0_0 l0_1 a0_2)) else (Zbl.j0 k ql.1 false a0_0 l0_1 a0_2))) else (some (false,([]:List Int),0,qo))))=some (r1,r2,r3,r4):=h
 clear h
 obtain ⟨qo,A2,H⟩:=ob H
 by_cases c3:qo=0
 ·rw [if_pos c3] at H
  have c3b0:(qo == 0)=true:=beq_iff_eq.mpr c3
  have c3b1:(qo != 0)=false:=bne_eq_false_iff_eq.mpr c3
  clear c3
  obtain ⟨⟨qy,q9,qai⟩,A4,H⟩:=ob H;(try dsimp only at H)
  have HC5:=am H
  clear H
  go_enter Tryz.func86,Tryz.ntmps86
  go_upto_region 5 with (first|((with_reducible refine gd 2 ?_);refine bx 2 #[.bool a0_0,.slice A0_1 l0_1.length c0_1,.int .i64 a0_2] 24 (h:=?_);intro j5 hg w6 hbox hb;have qa:=am hbox;have qau:=gW hg;have qas:=gW hg;replace HB:=bS hb;clear hb hbox hg)|((with_reducible refine gd 4 ?_);refine bx 4 #[.bool false,.slice none 0 0,.int .i64 0] 24 (h:=?_);intro qm hg w7 hbox hb;have qb:=am hbox;have qav:=gW hg;have qat:=gW hg;have qe:=nL hg qa;have qf:=nG hg qa;replace qa:=bb qa hb;replace HB:=bS hb;clear hb hbox hg;have hnb8:=qe.o;have hnc8:=qf.o;obtain ⟨_,_,_,_,_,_⟩:=cEc qa.o)|(refine gL (some 11) Tryz.func55 #[.agg #[.bool a0_0,.slice A0_1 l0_1.length c0_1,.int .i64 a0_2]] (h:=?_);(with_reducible refine (Za6.calls k a0_0 _ _ l0_1 a0_2 qo _ ?side1 ?side2 A2.o).mono ?_);(case side1=>exact cB HR0_1 HB);(case side2=>exact HC0_1.o);rintro e w10 ⟨rfl,hb⟩;refine ⟨_,rfl,?_⟩;replace qa:=bb qa hb;replace qb:=bb qb hb;replace HB:=bS hb;obtain ⟨_,_,_,_,_,_⟩:=cEc qa.o)|(refine gL (some 18) Tryz.func83 #[.agg #[.bool a0_0,.slice A0_1 l0_1.length c0_1,.int .i64 a0_2]] (h:=?_);(with_reducible refine (Zao.calls k a0_0 _ _ l0_1 a0_2 qy q9 qai _ ?side1 ?side2 A4.o).mono ?_);(case side1=>exact cB HR0_1 HB);(case side2=>exact HC0_1.o);rintro e w12 ⟨qbw,qcb,rfl,ho0,ho1,hb⟩;refine ⟨_,rfl,?_⟩;have jf:=am (Kd.Zn ho0 (Zb pB));have qt:=am (Kd.Zn ho1 (Zb pB));replace qa:=bb qa hb;replace qb:=bb qb hb;replace HB:=bS hb))
  (try simp only [Act.put,List.setIfInBounds_toArray,List.set_cons_zero,List.set_cons_succ])
  go_cut [30] (fun v30 wc => ∃ (kq:Nat) (x30_4:Bool),v30=.bool x30_4/\Aside0 (Zbl.j0 kq qy x30_4 a0_0 l0_1 a0_2=some (r1,r2,r3,r4))/\Aside0 (kq<=k)/\Aside0 (Kd.R (Kd.int .u32) 85 wc w.heap.size (fun _=>True) qbw qy)/\Aside0 (wc.heap[j5]? = some (.cells #[.bool a0_0,(.slice A0_1 l0_1.length c0_1),.int .i64 a0_2] 24 (0,0)))/\Aside0 (wc.heap[qm]? = some (.cells #[.bool false,(.slice none 0 0),.int .i64 0] 24 (0,0)))/\Aside0 (Below w.heap.size w wc))
  case first =>
   have H:=HC5.o
   clear HC5
   by_cases c13:(q9.length:Int) > 0
   ·rw [if_pos c13] at H
    have c13b0:decide (0 < (q9.length:Int))=true:=decide_eq_true c13
    have c13b1:decide (0 < q9.length)=true:=decide_eq_true (by omega)
    clear c13
    (first|rw [c13b0]|(simp only [Zb9,Zdj];rw [c13b0])|skip)
    obtain ⟨jj,A14,H⟩:=ob H
    have H':=am H
    clear H
    obtain ⟨j7,qac,qag⟩:=Kd.Zh qt.o
    subst qag
    go_wp2_with (first|((with_reducible refine gd 29 ?_);(try (refine Za1 (by rfl) ?_;dsimp only));refine gT (some 29) cap #[.slice j7 q9.length qac,.int .i64 qai] hf_ hn_ hb_ ?_;refine (hu_ _ _ q9 qai jj _ pB ?side1 ?side2 A14.o).mono ?_;(case side1=>exact Kd.Zi (Kd.Zc qt.o).2.2 pl);(case side2=>exact (Kd.Zc qt.o).2.1);rintro e w16 ⟨rfl,hb⟩;refine ⟨_,rfl,?_⟩;replace jf:=rbl jf hb;replace qt:=rbl qt hb;replace qa:=bb qa hb;replace qb:=bb qb hb;replace HB:=bS hb))
    go_meet
    case rel=>exact ⟨_,(jj),pR,H',⟨by first|omega|exact Nat.le_refl _⟩,⟨by refine rp ?_;exact Kd.Zo jf.o (fun _ hk=>trivial)⟩,⟨Zg qa.o pl⟩,⟨Zg qb.o pl⟩,⟨pB⟩⟩
   ·rw [if_neg c13] at H
    have c13b0:decide (0 < (q9.length:Int))=false:=decide_eq_false c13
    have c13b1:decide (0 < q9.length)=false:=decide_eq_false (by omega)
    clear c13
    (first|rw [c13b0]|(simp only [Zb9,Zdj];rw [c13b0])|skip)
    have H':=am H
    clear H
    obtain ⟨qb6,qb7,qbi⟩:=Kd.Zh qt.o
    subst qbi
    go_wp2
    go_meet
    case rel=>exact ⟨_,(false),pR,H',⟨by first|omega|exact Nat.le_refl _⟩,⟨by refine rp ?_;exact Kd.Zo jf.o (fun _ hk=>trivial)⟩,⟨Zg qa.o pl⟩,⟨Zg qb.o pl⟩,⟨pB⟩⟩
  case rest =>
   clear HC5
   obtain ⟨kq,x30_4,rfl,HA,HJ4,HO_7,qa,qb,HB⟩:=hcut
   cases kq with
   | zero=>exact absurd HA.out (by simp [Zbl.j0])
   | succ kj4 =>
    have H:=HA.out
    clear HA
    simp only [Zbl.j0] at H
    by_cases c18:x30_4=true
    ·subst c18
     rw [if_pos rfl] at H
     obtain ⟨je,A19,H⟩:=ob H
     obtain ⟨⟨jz,qaj⟩,A20,H⟩:=ob H;(try dsimp only at H)
     obtain ⟨j1,A21,H⟩:=ob H
     obtain ⟨⟨qak,qal,qam,qbt⟩,A22,H⟩:=ob H;(try dsimp only at H)
     simp only [Option.some.injEq,Prod.mk.injEq] at H
     obtain ⟨rfl,rfl,rfl,rfl⟩:=H
     go_wp2_with (first|(refine gL (some 32) Tryz.func76 #[.int .u64 1] (h:=?_);(with_reducible refine (Zcr.calls kj4 1 je _ A19.o).mono ?_);rintro e w23 ⟨qcc,rfl,ho0,hb⟩;refine ⟨_,rfl,?_⟩;have qd:=am (Kd.Zn (Kd.Zf ho0 (Kd.R_lt (Kd.Za HO_7.o pl))) (Zb pB));replace HO_7:=reR HO_7 ho0 hb;replace qa:=bb qa hb;replace qb:=bb qb hb;replace HB:=bS hb;obtain ⟨j8,qad,qbj⟩:=Kd.Zh HO_7.o;subst qbj;obtain ⟨j9,qae,qbk⟩:=Kd.Zh qd.o;subst qbk)|(refine gL (some 33) Tryz.func75 #[.slice j8 qy.length qad,.slice j9 je.length qae] (h:=?_);(with_reducible refine (Zey.calls kj4 _ _ qy _ _ je jz qaj _ ?side1 ?side2 ?side3 ?side4 A20.o).mono ?_);(case side1=>exact Kd.Zi (Kd.Zc HO_7.o).2.2 pl);(case side2=>exact (Kd.Zc HO_7.o).2.1);(case side3=>exact Kd.Zi (Kd.Zc qd.o).2.2 pl);(case side4=>exact (Kd.Zc qd.o).2.1);rintro e w26 ⟨qcd,rfl,ho0,hb⟩;refine ⟨_,rfl,?_⟩;have q0:=am (Kd.Zn (Kd.Zf (Kd.Zf ho0 (Kd.R_lt (Kd.Za HO_7.o pl))) (Kd.R_lt (Kd.Za qd.o pl))) (Zb pB));replace HO_7:=reR HO_7 ho0 hb;replace qd:=reR qd ho0 hb;replace qa:=bb qa hb;replace qb:=bb qb hb;replace HB:=bS hb;obtain ⟨qaa,qaf,qbl⟩:=Kd.Zh q0.o;subst qbl)|(refine gL (some 36) Tryz.func70 #[.slice qaa jz.length qaf,.int .i64 qaj] (h:=?_);(with_reducible refine (Zs.calls (fun k_=>some k_=(.slice qaa jz.length qaf:Value).ownBlock) (.slice qaa jz.length qaf) jz qaj j1 w _ ?side1 ?side2 A21.o).mono ?_);(case side1=>exact pB);(case side2=>exact Kd.Zby rfl q0.o);rintro e w28 ⟨qa1,rfl,ho0,hb,hkp⟩;refine ⟨_,rfl,?_⟩;have qu:=am (Kd.Zo (ok':=fun k_=>some k_ ≠ (.slice j8 qy.length qad:Value).ownBlock/\some k_ ≠ (.slice j9 je.length qae:Value).ownBlock) ho0 (fun k_ hk_=>⟨Or.elim hk_ (fun hs_=>fun e_=>(((HO_7.o).1 k_ e_.symm).2) hs_) (fun hn_=>(Kd.fresh' (Kd.R_lt (Kd.Za HO_7.o pl)) k_ hn_)),Or.elim hk_ (fun hs_=>fun e_=>(((qd.o).1 k_ e_.symm).2) hs_) (fun hn_=>(Kd.fresh' (Kd.R_lt (Kd.Za qd.o pl)) k_ hn_))⟩));replace HO_7:=am (Kd.Zo (ok':=fun k_=>some k_ ≠ (.slice j9 je.length qae:Value).ownBlock/\some k_ ≠ (qa1:Value).ownBlock) (Kd.Zcc (HO_7.o) hkp (fun k_ hk_ hs_=>(hk_.2) hs_)) (fun k_ hk_=>⟨hk_.1.1.2,fun e_=>Or.elim (ho0.1 k_ e_.symm) (fun hs_=>hk_.2.1 hs_) (fun hn_=>Nat.not_le.2 hk_.2.2 hn_)⟩));replace qa:=am (Zc8 (Zg qa.o pl) hkp (fun e_=>Kd.R_ne q0.o qa.o (by decide) e_));replace qb:=am (Zc8 (Zg qb.o pl) hkp (fun e_=>Kd.R_ne q0.o qb.o (by decide) e_));replace qd:=am (Kd.Zo (ok':=fun k_=>some k_ ≠ (.slice j8 qy.length qad:Value).ownBlock/\some k_ ≠ (qa1:Value).ownBlock) (Kd.Zcc (qd.o) hkp (fun k_ hk_ hs_=>(hk_.2) hs_)) (fun k_ hk_=>⟨hk_.1.1.2,fun e_=>Or.elim (ho0.1 k_ e_.symm) (fun hs_=>hk_.2.1 hs_) (fun hn_=>Nat.not_le.2 hk_.2.2 hn_)⟩));replace HB:=am hb;clear q0;have qbx:=qe.o;have qb0:=qf.o;obtain ⟨_,_,_,_,_,_⟩:=cEc qa.o;obtain ⟨qa5,qbe,qbm⟩:=Kd.Zh qu.o;subst qbm)|(refine gL (some 40) Tryz.func60 #[.bool a0_0,.slice qa5 j1.length qbe,.int .i64 0] (h:=?_);(with_reducible refine (Zan.calls kj4 a0_0 _ _ j1 0 qak qal qam qbt _ ?side1 ?side2 A22.o).mono ?_);(case side1=>exact Kd.Zi (Kd.Zc qu.o).2.2 pl);(case side2=>exact (Kd.Zc qu.o).2.1);rintro e w32 ⟨qce,rfl,ho0,hb⟩;refine ⟨_,rfl,?_⟩;have j2:=am (Kd.Zn (Kd.Zf (Kd.Zf (Kd.Zf ho0 (Kd.R_lt (Kd.Za HO_7.o pl))) (Kd.R_lt (Kd.Za qd.o pl))) (Kd.R_lt (Kd.Za qu.o pl))) (Zb pB));replace HO_7:=reR HO_7 ho0 hb;replace qd:=reR qd ho0 hb;replace qu:=reR qu ho0 hb;replace qa:=bb qa hb;replace qb:=bb qb hb;replace HB:=bS hb;obtain ⟨_,_,_,_,_,_⟩:=cEc qb.o;obtain ⟨qaq,qaw,qbn⟩:=Kd.Zh j2.o;subst qbn))
     refine bodyPost_ret (Zae rfl _ _ qm 24 #[.bool qak,.slice qaq qal.length qaw,.int .i64 qam] (0,0) _ rfl (by exact p3 qb) Tryz.underlying24 rfl (by kernel_rfl)) rfl ?_
     exact ⟨_,pE,by refine rp ?_;exact Kd.Zo (Kd.Zau (p:=⟨qm,2,none⟩) (Kd.Zau (p:=⟨qm,1,none⟩) (Kd.Zau (p:=⟨qm,0,none⟩) (Kd.Zba j2.o qb.o (by decide)) (fun _ hk=>hk.2) (.bool qak)) (fun _ hk=>hk.2) (.slice qaq qal.length qaw)) (fun _ hk=>hk.2) (.int .i64 qam)) (fun _ hk=>trivial),pB⟩
    ·replace c18:=Bool.eq_false_iff.mpr c18
     subst c18
     rw [if_neg (show ¬ (false=true) by decide)] at H
     obtain ⟨⟨qan,qao,qap,qbu⟩,A35,H⟩:=ob H;(try dsimp only at H)
     simp only [Option.some.injEq,Prod.mk.injEq] at H
     obtain ⟨rfl,rfl,rfl,rfl⟩:=H
     have qby:=qe.o
     have qb1:=qf.o
     obtain ⟨_,_,_,_,_,_⟩:=cEc qa.o
     obtain ⟨qa6,qbf,qbo⟩:=Kd.Zh HO_7.o
     subst qbo
     go_wp2_with (first|(refine gL (some 40) Tryz.func60 #[.bool a0_0,.slice qa6 qy.length qbf,.int .i64 0] (h:=?_);(with_reducible refine (Zan.calls kj4 a0_0 _ _ qy 0 qan qao qap qbu _ ?side1 ?side2 A35.o).mono ?_);(case side1=>exact Kd.Zi (Kd.Zc HO_7.o).2.2 pl);(case side2=>exact (Kd.Zc HO_7.o).2.1);rintro e w39 ⟨qcf,rfl,ho0,hb⟩;refine ⟨_,rfl,?_⟩;have j3:=am (Kd.Zn (Kd.Zf ho0 (Kd.R_lt (Kd.Za HO_7.o pl))) (Zb pB));replace HO_7:=reR HO_7 ho0 hb;replace qa:=bb qa hb;replace qb:=bb qb hb;replace HB:=bS hb;obtain ⟨_,_,_,_,_,_⟩:=cEc qb.o;obtain ⟨qar,qax,qbp⟩:=Kd.Zh j3.o;subst qbp))
     refine bodyPost_ret (Zae rfl _ _ qm 24 #[.bool qan,.slice qar qao.length qax,.int .i64 qap] (0,0) _ rfl (by exact p3 qb) Tryz.underlying24 rfl (by kernel_rfl)) rfl ?_
     exact ⟨_,pE,by refine rp ?_;exact Kd.Zo (Kd.Zau (p:=⟨qm,2,none⟩) (Kd.Zau (p:=⟨qm,1,none⟩) (Kd.Zau (p:=⟨qm,0,none⟩) (Kd.Zba j3.o qb.o (by decide)) (fun _ hk=>hk.2) (.bool qan)) (fun _ hk=>hk.2) (.slice qar qao.length qax)) (fun _ hk=>hk.2) (.int .i64 qap)) (fun _ hk=>trivial),pB⟩
 ·rw [if_neg c3] at H
  have c3b0:(qo == 0)=false:=beq_eq_false_iff_ne.mpr c3
  have c3b1:(qo != 0)=true:=bne_iff_ne.mpr c3
  simp only [Option.some.injEq,Prod.mk.injEq] at H
  obtain ⟨rfl,rfl,rfl,rfl⟩:=H
  go_enter Tryz.func86,Tryz.ntmps86
  go_wp2_with (first|((with_reducible refine gd 2 ?_);refine bx 2 #[.bool a0_0,.slice A0_1 l0_1.length c0_1,.int .i64 a0_2] 24 (h:=?_);intro j5 hg w42 hbox hb;have qa:=am hbox;have qau:=gW hg;have qas:=gW hg;replace HB:=bS hb;clear hb hbox hg)|((with_reducible refine gd 4 ?_);refine bx 4 #[.bool false,.slice none 0 0,.int .i64 0] 24 (h:=?_);intro qm hg w43 hbox hb;have qb:=am hbox;have qav:=gW hg;have qat:=gW hg;have qe:=nL hg qa;have qf:=nG hg qa;replace qa:=bb qa hb;replace HB:=bS hb;clear hb hbox hg;have qbz:=qe.o;have qb2:=qf.o;obtain ⟨_,_,_,_,_,_⟩:=cEc qa.o)|(refine gL (some 11) Tryz.func55 #[.agg #[.bool a0_0,.slice A0_1 l0_1.length c0_1,.int .i64 a0_2]] (h:=?_);(with_reducible refine (Za6.calls k a0_0 _ _ l0_1 a0_2 qo _ ?side1 ?side2 A2.o).mono ?_);(case side1=>exact cB HR0_1 HB);(case side2=>exact HC0_1.o);rintro e w46 ⟨rfl,hb⟩;refine ⟨_,rfl,?_⟩;replace qa:=bb qa hb;replace qb:=bb qb hb;replace HB:=bS hb;obtain ⟨_,_,_,_,_,_⟩:=cEc qb.o))
  refine bodyPost_ret (Zae rfl _ _ qm 24 #[.bool false,.slice none 0 0,.int .i64 0] (0,0) _ rfl (by exact p3 qb) Tryz.underlying24 rfl (by kernel_rfl)) rfl ?_
  exact ⟨_,pE,pN,pB⟩
def Zdz.f (k:Nat) (a0_0:Bool) (l0_1:List Int) (a0_2:Int):Option (Bool × List Int × Int × Int):=(Zbl.f k (fun _ _ _=>some a0_0) a0_0 l0_1 a0_2).bind fun qg=>(some (qg.1,qg.2.1,qg.2.2.1,qg.2.2.2))
theorem Zdz.calls (k:Nat) (a0_0:Bool) (A0_1:Option Addr) (c0_1:Nat) (l0_1:List Int) (a0_2:Int) (r1:Bool) (r2:List Int) (r3:Int) (r4:Int) (w:World) (hr0_1:Kd.C (Kd.int .u32) w A0_1 l0_1.length l0_1) (hc0_1:l0_1.length<=c0_1) (h:Zdz.f k a0_0 l0_1 a0_2=some (r1,r2,r3,r4)) :
  Calls Tryz.prog 30 #[.agg #[.bool a0_0,.slice A0_1 l0_1.length c0_1,.int .i64 a0_2]] w fun e w' => ∃ v1_:Value,e=.returned (.tuple #[.agg #[.bool r1,v1_,.int .i64 r3],.int .i64 r4])/\Kd.R (Kd.int .u32) 85 w' w.heap.size (fun _=>True) v1_ r2/\Below w.heap.size w w':=by
 have hu24:=Tryz.underlying24
 have hmf_:∀ (fn:Fn) (first cap:Array Value) (w:World),(Instr.makeFunc fn first cap).run Tryz.prog w=.ok (.func fn first cap) w:=fun _ _ _ _=>rfl
 have HR0_1:=am hr0_1
 have HC0_1:=am hc0_1
 clear hr0_1 hc0_1
 have HB:=am (Below.refl w.heap.size w)
 have H:((Zbl.f k (fun _ _ _=>some a0_0) a0_0 l0_1 a0_2).bind fun qg=>(some (qg.1,qg.2.1,qg.2.2.1,qg.2.2.2)))=some (r1,r2,r3,r4):=h
 clear h
 obtain ⟨⟨jp,jq,jr,qay⟩,A2,H⟩:=ob H;(try dsimp only at H)
 simp only [Option.some.injEq,Prod.mk.injEq] at H
 obtain ⟨rfl,rfl,rfl,rfl⟩:=H
 go_enter Tryz.func30,Tryz.ntmps30
 go_wp2_with (first|((with_reducible refine gd 1 ?_);refine bx 1 #[.bool a0_0,.slice A0_1 l0_1.length c0_1,.int .i64 a0_2] 24 (h:=?_);intro ja hg w3 hbox hb;have qj:=am hbox;have qa7:=gW hg;replace HB:=bS hb;clear hb hbox hg)|((with_reducible refine gd 2 ?_);refine bx 2 #[.bool false,.slice none 0 0,.int .i64 0] 24 (h:=?_);intro qv hg w4 hbox hb;have qq:=am hbox;have qa8:=gW hg;have q1:=nL hg qj;have q2:=nG hg qj;replace qj:=bb qj hb;replace HB:=bS hb;clear hb hbox hg;have hnb5:=q1.o;have hnc5:=q2.o;obtain ⟨_,_,_,_,_,_⟩:=cEc qj.o)|(refine gL (some 6) Tryz.func86 #[.agg #[.bool a0_0,.slice A0_1 l0_1.length c0_1,.int .i64 a0_2],.func (.func 87) #[] #[.pointer (some ⟨ja,0,none⟩)]] (h:=?_);refine (Zbl.calls k (fun _ _ _=>some a0_0) #[.pointer (some ⟨ja,0,none⟩)] (Tryz.func87) (by kernel_rfl) rfl a0_0 _ _ l0_1 a0_2 jp jq jr qay _ ?side1 ?side2 (fun A c l t r w' hW hC hl hr=>Zll.calls _ _ ja a0_0 r (.slice A0_1 l0_1.length c0_1) (.int .i64 a0_2) w' (Zg (Zg qj.o pl) hW) hr) A2.o).mono ?_;(case side1=>exact cB HR0_1 HB);(case side2=>exact HC0_1.o);rintro e w7 ⟨qb3,rfl,ho0,hb⟩;refine ⟨_,rfl,?_⟩;have jk:=am (Kd.Zn ho0 (Zb pB));replace qj:=bb qj hb;replace qq:=bb qq hb;replace HB:=bS hb;obtain ⟨_,_,_,_,_,_⟩:=cEc qq.o;obtain ⟨Ao9,co9,eo9⟩:=Kd.Zh jk.o;subst eo9))
 refine bodyPost_ret (Zae rfl _ _ qv 24 #[.bool jp,.slice Ao9 jq.length co9,.int .i64 jr] (0,0) _ rfl (by exact p3 qq) Tryz.underlying24 rfl (by kernel_rfl)) rfl ?_
 exact ⟨_,pE,by refine rp ?_;exact Kd.Zo (Kd.Zau (p:=⟨qv,2,none⟩) (Kd.Zau (p:=⟨qv,1,none⟩) (Kd.Zau (p:=⟨qv,0,none⟩) (Kd.Zba jk.o qq.o (by decide)) (fun _ hk=>hk.2) (.bool jp)) (fun _ hk=>hk.2) (.slice Ao9 jq.length co9)) (fun _ hk=>hk.2) (.int .i64 jr)) (fun _ hk=>trivial),pB⟩
def Zeh.f (k:Nat) (a0_0:Bool) (l0_1:List Int) (a0_2:Int):Option (Bool × List Int × Int × Int):=(Zbl.f k (fun _ _ _=>some (!a0_0)) a0_0 l0_1 a0_2).bind fun qh=>(some (qh.1,qh.2.1,qh.2.2.1,qh.2.2.2))
theorem Zeh.calls (k:Nat) (a0_0:Bool) (A0_1:Option Addr) (c0_1:Nat) (l0_1:List Int) (a0_2:Int) (r1:Bool) (r2:List Int) (r3:Int) (r4:Int) (w:World) (hr0_1:Kd.C (Kd.int .u32) w A0_1 l0_1.length l0_1) (hc0_1:l0_1.length<=c0_1) (h:Zeh.f k a0_0 l0_1 a0_2=some (r1,r2,r3,r4)) :
  Calls Tryz.prog 31 #[.agg #[.bool a0_0,.slice A0_1 l0_1.length c0_1,.int .i64 a0_2]] w fun e w' => ∃ v1_:Value,e=.returned (.tuple #[.agg #[.bool r1,v1_,.int .i64 r3],.int .i64 r4])/\Kd.R (Kd.int .u32) 85 w' w.heap.size (fun _=>True) v1_ r2/\Below w.heap.size w w':=by
 have hu24:=Tryz.underlying24
 have hmf_:∀ (fn:Fn) (first cap:Array Value) (w:World),(Instr.makeFunc fn first cap).run Tryz.prog w=.ok (.func fn first cap) w:=fun _ _ _ _=>rfl
 have HR0_1:=am hr0_1
 have HC0_1:=am hc0_1
 clear hr0_1 hc0_1
 have HB:=am (Below.refl w.heap.size w)
 have H:((Zbl.f k (fun _ _ _=>some (!a0_0)) a0_0 l0_1 a0_2).bind fun qh=>(some (qh.1,qh.2.1,qh.2.2.1,qh.2.2.2)))=some (r1,r2,r3,r4):=h
 clear h
 obtain ⟨⟨js,jt,ju,qaz⟩,A2,H⟩:=ob H;(try dsimp only at H)
 simp only [Option.some.injEq,Prod.mk.injEq] at H
 obtain ⟨rfl,rfl,rfl,rfl⟩:=H
 go_enter Tryz.func31,Tryz.ntmps31
 go_wp2_with (first|((with_reducible refine gd 1 ?_);refine bx 1 #[.bool a0_0,.slice A0_1 l0_1.length c0_1,.int .i64 a0_2] 24 (h:=?_);intro jb hg w3 hbox hb;have qk:=am hbox;have qa9:=gW hg;replace HB:=bS hb;clear hb hbox hg)|((with_reducible refine gd 2 ?_);refine bx 2 #[.bool false,.slice none 0 0,.int .i64 0] 24 (h:=?_);intro qw hg w4 hbox hb;have qr:=am hbox;have qba:=gW hg;have q3:=nL hg qk;have q4:=nG hg qk;replace qk:=bb qk hb;replace HB:=bS hb;clear hb hbox hg;have hnb5:=q3.o;have hnc5:=q4.o;obtain ⟨_,_,_,_,_,_⟩:=cEc qk.o)|(refine gL (some 6) Tryz.func86 #[.agg #[.bool a0_0,.slice A0_1 l0_1.length c0_1,.int .i64 a0_2],.func (.func 88) #[] #[.pointer (some ⟨jb,0,none⟩)]] (h:=?_);refine (Zbl.calls k (fun _ _ _=>some (!a0_0)) #[.pointer (some ⟨jb,0,none⟩)] (Tryz.func88) (by kernel_rfl) rfl a0_0 _ _ l0_1 a0_2 js jt ju qaz _ ?side1 ?side2 (fun A c l t r w' hW hC hl hr=>Zmj.calls _ _ jb a0_0 r (.slice A0_1 l0_1.length c0_1) (.int .i64 a0_2) w' (Zg (Zg qk.o pl) hW) hr) A2.o).mono ?_;(case side1=>exact cB HR0_1 HB);(case side2=>exact HC0_1.o);rintro e w7 ⟨qb4,rfl,ho0,hb⟩;refine ⟨_,rfl,?_⟩;have jl:=am (Kd.Zn ho0 (Zb pB));replace qk:=bb qk hb;replace qr:=bb qr hb;replace HB:=bS hb;obtain ⟨_,_,_,_,_,_⟩:=cEc qr.o;obtain ⟨Ao9,co9,eo9⟩:=Kd.Zh jl.o;subst eo9))
 refine bodyPost_ret (Zae rfl _ _ qw 24 #[.bool js,.slice Ao9 jt.length co9,.int .i64 ju] (0,0) _ rfl (by exact p3 qr) Tryz.underlying24 rfl (by kernel_rfl)) rfl ?_
 exact ⟨_,pE,by refine rp ?_;exact Kd.Zo (Kd.Zau (p:=⟨qw,2,none⟩) (Kd.Zau (p:=⟨qw,1,none⟩) (Kd.Zau (p:=⟨qw,0,none⟩) (Kd.Zba jl.o qr.o (by decide)) (fun _ hk=>hk.2) (.bool js)) (fun _ hk=>hk.2) (.slice Ao9 jt.length co9)) (fun _ hk=>hk.2) (.int .i64 ju)) (fun _ hk=>trivial),pB⟩
def Zeb.f (k:Nat) (a0_0:Bool) (l0_1:List Int) (a0_2:Int):Option (Bool × List Int × Int × Int):=(Zbl.f k (fun k x y=>Zdh.f k x y) a0_0 l0_1 a0_2).bind fun qi=>(some (qi.1,qi.2.1,qi.2.2.1,qi.2.2.2))
theorem Zeb.calls (k:Nat) (a0_0:Bool) (A0_1:Option Addr) (c0_1:Nat) (l0_1:List Int) (a0_2:Int) (r1:Bool) (r2:List Int) (r3:Int) (r4:Int) (w:World) (hr0_1:Kd.C (Kd.int .u32) w A0_1 l0_1.length l0_1) (hc0_1:l0_1.length<=c0_1) (h:Zeb.f k a0_0 l0_1 a0_2=some (r1,r2,r3,r4)) :
  Calls Tryz.prog 32 #[.agg #[.bool a0_0,.slice A0_1 l0_1.length c0_1,.int .i64 a0_2]] w fun e w' => ∃ v1_:Value,e=.returned (.tuple #[.agg #[.bool r1,v1_,.int .i64 r3],.int .i64 r4])/\Kd.R (Kd.int .u32) 85 w' w.heap.size (fun _=>True) v1_ r2/\Below w.heap.size w w':=by
 have hu24:=Tryz.underlying24
 have HR0_1:=am hr0_1
 have HC0_1:=am hc0_1
 clear hr0_1 hc0_1
 have HB:=am (Below.refl w.heap.size w)
 have H:((Zbl.f k (fun k x y=>Zdh.f k x y) a0_0 l0_1 a0_2).bind fun qi=>(some (qi.1,qi.2.1,qi.2.2.1,qi.2.2.2)))=some (r1,r2,r3,r4):=h
 clear h
 obtain ⟨⟨jv,jw,jx,qa0⟩,A2,H⟩:=ob H;(try dsimp only at H)
 simp only [Option.some.injEq,Prod.mk.injEq] at H
 obtain ⟨rfl,rfl,rfl,rfl⟩:=H
 go_enter Tryz.func32,Tryz.ntmps32
 go_wp2_with (first|((with_reducible refine gd 1 ?_);refine bx 1 #[.bool a0_0,.slice A0_1 l0_1.length c0_1,.int .i64 a0_2] 24 (h:=?_);intro qbq hg w3 hbox hb;have qn:=am hbox;have qbb:=gW hg;replace HB:=bS hb;clear hb hbox hg)|((with_reducible refine gd 2 ?_);refine bx 2 #[.bool false,.slice none 0 0,.int .i64 0] 24 (h:=?_);intro qx hg w4 hbox hb;have qs:=am hbox;have qbc:=gW hg;have q5:=nL hg qn;have q6:=nG hg qn;replace qn:=bb qn hb;replace HB:=bS hb;clear hb hbox hg;have hnb5:=q5.o;have hnc5:=q6.o;obtain ⟨_,_,_,_,_,_⟩:=cEc qn.o)|(refine gL (some 5) Tryz.func86 #[.agg #[.bool a0_0,.slice A0_1 l0_1.length c0_1,.int .i64 a0_2],.func (.func 89) #[] #[]] (h:=?_);refine (Zbl.calls k (fun k x y=>Zdh.f k x y) #[] (Tryz.func89) (by kernel_rfl) rfl a0_0 _ _ l0_1 a0_2 jv jw jx qa0 _ ?side1 ?side2 (fun A c l t r w' hW hC hl hr=>Zdh.calls k A c l t r w' hC hl hr) A2.o).mono ?_;(case side1=>exact cB HR0_1 HB);(case side2=>exact HC0_1.o);rintro e w7 ⟨qb5,rfl,ho0,hb⟩;refine ⟨_,rfl,?_⟩;have jm:=am (Kd.Zn ho0 (Zb pB));replace qn:=bb qn hb;replace qs:=bb qs hb;replace HB:=bS hb;obtain ⟨_,_,_,_,_,_⟩:=cEc qs.o;obtain ⟨Ao9,co9,eo9⟩:=Kd.Zh jm.o;subst eo9))
 refine bodyPost_ret (Zae rfl _ _ qx 24 #[.bool jv,.slice Ao9 jw.length co9,.int .i64 jx] (0,0) _ rfl (by exact p3 qs) Tryz.underlying24 rfl (by kernel_rfl)) rfl ?_
 exact ⟨_,pE,by refine rp ?_;exact Kd.Zo (Kd.Zau (p:=⟨qx,2,none⟩) (Kd.Zau (p:=⟨qx,1,none⟩) (Kd.Zau (p:=⟨qx,0,none⟩) (Kd.Zba jm.o qs.o (by decide)) (fun _ hk=>hk.2) (.bool jv)) (fun _ hk=>hk.2) (.slice Ao9 jw.length co9)) (fun _ hk=>hk.2) (.int .i64 jx)) (fun _ hk=>trivial),pB⟩
end YtjbjkmccfocikaaGreatDoor.B
end
section
namespace YtjbjkmccfocikaaGreatDoor.P.Nm
open Go.RowKit YtjbjkmccfocikaaGreatDoorW.PrintWords YtjbjkmccfocikaaGreatDoor.B YtjbjkmccfocikaaGreatDoor.P
def nearV (D:Dm) (b:Bool):Dm × Int:=settleD ⟨D.neg,wholeN D+(if b then 1 else 0),0⟩
theorem Zmb {n k:Nat} (h:nd n<=k):nd (n+1)<=k+1:=by
 refine Zgg ?_
 have h1:=Zg5 n
 have h2:=Nat.pow_le_pow_right (show 0 < 10 by omega) h
 rw [Nat.pow_succ]
 generalize 10 ^ k=T at *
 generalize 10 ^ nd n=U at *
 omega
theorem QNear {D:Dm} (hD:OkD D) {u:Nat->List Int->Int->Option Bool} {b:Bool} (hu:lowN D ≠ 0->Tells (fun k=>u k (limbs (lowN D)) ((-D.e).toNat:Int)) b) :
  Tells (fun k=>Zbl.f k u D.neg (limbs D.n) D.e) (outD (nearV D (decide (lowN D ≠ 0) && b))):=by
 have hw:=Zeu hD
 have hfin:∀ n,nd n<=1301->Tells (fun k=>(Zan.f k D.neg (limbs n) 0).bind fun bt=>some (bt.1,bt.2.1,bt.2.2.1,bt.2.2.2)) (outD (settleD ⟨D.neg,n,0⟩)):=fun n hn=>by
  have hs:=Zec D.neg n 0 (Zcb (by omega)) (by omega)
  rw [if_neg (by omega)] at hs
  exact hs.bind (Tells.pure _)
 have hj:∀ b:Bool,Tells (fun k=>Zbl.j0 k (limbs (wholeN D)) b D.neg (limbs D.n) D.e) (outD (nearV D b)):=fun b=>by
  refine Tells.succ ?_
  simp only [Zbl.j0]
  unfold nearV
  cases b
  ·exact Tells.ifn (by decide) (hfin (wholeN D) (by omega))
  ·have ha:=Zkn (m:=wholeN D) (n:=1) (Zcb (by omega)) (by decide +kernel)
   have hn:nd (wholeN D+1)<=1301:=Zmb hw.1
   rw [Zi0 (Zcb (by omega))] at ha
   unfold Zs.f
   exact Tells.ifp rfl ((Zfo 1 (by omega)).bind (ha.bind ((Tells.pure _).bind (hfin _ hn))))
 unfold Zbl.f
 refine (DCheck D hD).bind (Tells.ifp rfl ((QSplit hD).bind ?_))
 dsimp only
 by_cases h0:lowN D=0
 ·have e1:(decide (lowN D ≠ 0) && b)=false:=by simp [h0]
  rw [e1,h0]
  exact Tells.ifn (by rw [show limbs 0=[] from rfl];decide) (hj false)
 ·have e1:(decide (lowN D ≠ 0) && b)=b:=by simp [h0]
  rw [e1]
  have hl:(limbs (lowN D)).length ≠ 0:=fun e=>h0 (by have := Zld (m:=lowN D) (n:=0) (List.eq_nil_of_length_eq_zero e);exact this)
  exact Tells.ifp (by omega) ((hu h0).bind (hj b))
theorem QFloor {D:Dm} (hD:OkD D):Tells (fun k=>Zdz.f k D.neg (limbs D.n) D.e) (outD (nearV D (decide (lowN D ≠ 0) && D.neg))):=by
 unfold Zdz.f
 exact (QNear hD (u:=fun _ _ _=>some D.neg) (fun _=>Tells.pure _)).bind (Tells.pure _)
theorem QCeil {D:Dm} (hD:OkD D):Tells (fun k=>Zeh.f k D.neg (limbs D.n) D.e) (outD (nearV D (decide (lowN D ≠ 0) && !D.neg))):=by
 unfold Zeh.f
 exact (QNear hD (u:=fun _ _ _=>some (!D.neg)) (fun _=>Tells.pure _)).bind (Tells.pure _)
theorem Zke {u:Nat->List Int->Int->Option Bool} {a:Bool} {l:List Int} {e:Int} (hl:RawD l) (h:¬ chk a l e=0):Tells (fun k=>Zbl.f k u a l e) (false,[],0,9):=by
 unfold Zbl.f
 refine (Zes a l e hl.dg hl.len).bind (Tells.ifn h ((Tells.pure _).val ?_))
 rcases Zpl a l e with h1|h1
 ·exact absurd h1 h
 ·rw [h1]
end YtjbjkmccfocikaaGreatDoor.P.Nm
end
section
namespace YtjbjkmccfocikaaGreatDoor.B
open Go.RowKit YtjbjkmccfocikaaGreatDoorW.PrintWords YtjbjkmccfocikaaGreatDoorW.PrintLast YtjbjkmccfocikaaGreatDoorW.PrintMore
theorem Zfi:∀ (k:Nat) (l:List Int) (x:Int) (r:List Int),Zl.l0 k l x=some r->r.length<=l.length/\r=l.take r.length
 | 0,l,x,r,h=>by simp [Zl.l0] at h
 | k+1,l,x,r,h=>by
  have fin:(if 0<=x then (if x<=(l.length:Int) then some (l.take x.toNat) else none) else none)=some r->r.length<=l.length/\r=l.take r.length:=fun h=>by
   split at h
   ·split at h
    ·obtain rfl:=Option.some.inj h
     refine ⟨by rw [List.length_take];omega,?_⟩
     rw [List.length_take,Nat.min_eq_left (by omega)]
    ·cases h
   ·cases h
  simp only [Zl.l0] at h
  split at h
  ·split at h
   ·split at h
    ·split at h
     ·exact Zfi k l _ r h
     ·exact fin h
    ·cases h
   ·cases h
  ·exact fin h
theorem Zso (k:Nat) (A0:Option Addr) (c0:Nat) (l0 r:List Int) (w:World) (hr0:Kd.C (Kd.int .i64) w A0 l0.length l0) (hc0:l0.length<=c0) (h:Zl.f k l0=some r) :
  Calls Tryz.prog 79 #[.slice A0 l0.length c0] w fun e w'=>e=.returned (.slice A0 r.length c0)/\Drawn0 w w':=by
 have HR0:=am hr0
 have HC0:=am hc0
 clear hr0 hc0
 have H':=am (show Zl.l0 k l0 (l0.length:Int)=some r from h)
 clear h
 go_enter Tryz.func79,Tryz.ntmps79
 go_wp2
 go_loopg [3] k (fun kq v3 w' => ∃ (x:Int),v3=.int .i64 x/\Aside0 (Zl.l0 kq l0 x=some r)/\Aside0 (kq<=k)/\Drawn0 w w')
 case atStart=>exact ⟨((l0.length:Int)),pR,H',⟨Nat.le_refl _⟩,pD⟩
 case round =>
  clear H'
  obtain ⟨x,rfl,HA,HK1,⟨m,rfl⟩⟩:=hrel
  have HRm:=am (Kd.Zi HR0.out (Zaz (Below.refl _ w) m))
  cases gk with
  | zero=>exact absurd HA.out (by simp [Zl.l0])
  | succ k1 =>
   have H:=HA.out
   have HP:=am (Zfi _ _ _ _ HA.out)
   clear HA
   simp only [Zl.l0] at H
   obtain ⟨i0,hi0,_,hsz,_⟩:=info_parts info3
   have fin:(if 0<=x then (if x<=(l0.length:Int) then some (l0.take x.toNat) else none) else none)=some r->0<=x/\x<=(l0.length:Int)/\(r.length:Int)=x:=fun h=>by
     split at h
     · split at h
       · obtain rfl:=Option.some.inj h
         exact ⟨by assumption,by assumption,by rw [List.length_take];omega⟩
       · cases h
     · cases h
   have FIN:=am fin
   clear fin
   replace H:=gI H
   rcases H with ⟨c2b0,H⟩|⟨c2b0,H⟩
   · obtain ⟨j,hj⟩:∃ j:Int,wrap64 (x - 1)=j:=⟨_,rfl⟩
     rw [hj] at H
     have hjw:IntKind.i64.wrap (x - 1)=j:=(Zb9 _).trans hj
     clear hj
     replace H:=dI H
     rcases H with ⟨c4b0,H⟩|⟨_,H⟩
     · replace H:=dI H
       rcases H with ⟨c5b0,H⟩|⟨_,H⟩
       · replace H:=eI H
         have p1:0<=(j:Int):=of_decide_eq_true c4b0
         have q1:j < (l0.length:Int):=of_decide_eq_true c5b0
         obtain ⟨ad,e1,hx0⟩:=Kd.Zay HRm.out j p1 q1
         cases e1
         replace p1:=eq_true p1
         replace q1:=eq_true q1
         rcases H with ⟨c6b0,c6b1,H⟩|⟨c6,c6b0,c6b1,H⟩
         · have H':=am H
           clear H
           go_wp2
           go_roundg k1
           case measure=>exact pM
           case rel=>exact ⟨j,pR,H',pJ,pD⟩
         · obtain ⟨a1,a2,a3⟩:=FIN.out H
           clear H
           have hcut:=Zh7 (P:=Tryz.prog) 28 3 .i64 Tryz.underlying28 hi0 (some ad) l0.length c0 x a1 a2 HC0.out
           have a4:x.toNat=r.length:=by omega
           rw [a4] at hcut
           replace a2:=eq_true a2
           replace a1:=eq_true a1
           clear a3 a4
           go_wp2
           go_ret
           exact ⟨pR,pD⟩
       · cases H
     · cases H
   · obtain ⟨a1,a2,a3⟩:=FIN.out H
     clear H
     have hcut:=Zh7 (P:=Tryz.prog) 28 3 .i64 Tryz.underlying28 hi0 A0 l0.length c0 x a1 a2 HC0.out
     have a4:x.toNat=r.length:=by omega
     rw [a4] at hcut
     replace a2:=eq_true a2
     replace a1:=eq_true a1
     clear a3 a4
     go_wp2
     go_ret
     exact ⟨pR,pD⟩
def Zai.f (k:Nat) (a:Bool) (l:List Int) (e:Int):Option (List Int × Bool × Bool):=(Zac.f k a l e).bind fun x=>if -1000000<=x.2.2/\x.2.2<=1000000 then (if 0<=x.2.2 then (Za7.f x.2.1 x.2.2).bind fun s=>some (s,false,false) else if (x.2.1.length:Int) < wrap64 (-x.2.2) then some ([],decide (0 < (x.2.1.length:Int)),false) else (Zl.f k (x.2.1.drop (wrap64 (-x.2.2)).toNat)).bind fun t=>some (t,true,decide (5<=rd x.2.1 (wrap64 (wrap64 (-x.2.2) - 1))))) else none
theorem Zai.calls (k:Nat) (a0_0:Bool) (A0_1:Option Addr) (c0_1:Nat) (l0_1:List Int) (a0_2:Int) (r1:List Int) (r2 r3:Bool) (w:World) (hr0_1:Kd.C (Kd.int .u32) w A0_1 l0_1.length l0_1) (hc0_1:l0_1.length<=c0_1) (h:Zai.f k a0_0 l0_1 a0_2=some (r1,r2,r3)) :
  Calls Tryz.prog 95 #[.agg #[.bool a0_0,.slice A0_1 l0_1.length c0_1,.int .i64 a0_2]] w fun e w' => ∃ v0_:Value,e=.returned (.tuple #[v0_,.bool r2,.bool r3])/\Kd.Q (Kd.int .i64) 3 w' w.heap.size (fun _=>True) v0_ r1/\Below w.heap.size w w':=by
 have hu24:=Tryz.underlying24
 have hu30:=Tryz.underlying30
 unfold Zai.f at h
 obtain ⟨⟨x1,L,x3⟩,hx,h⟩:=Option.bind_eq_some_iff.mp h
 dsimp only at h
 have CK:=am (Zac.calls k a0_0 A0_1 c0_1 l0_1 a0_2 x1 L x3 (w.alloc (.cells #[.bool a0_0,.slice A0_1 l0_1.length c0_1,.int .i64 a0_2] 24)) (Kd.Zi hr0_1 pl) hc0_1 hx)
 have HB:=am (Below.refl w.heap.size w)
 clear hr0_1 hx
 split at h
 case isFalse=>cases h
 case isTrue hb2 =>
 replace hb2:=am hb2
 by_cases c1:0<=x3
 · rw [if_pos c1] at h
   obtain ⟨s,hs,h⟩:=Option.bind_eq_some_iff.mp h
   obtain ⟨rfl,rfl,rfl⟩:s=r1/\false=r2/\false=r3:=by simpa using h
   have c1b:decide (0<=x3)=true:=decide_eq_true c1
   have HS:=am hs
   clear h hs c1
   go_enter Tryz.func95,Tryz.ntmps95
   go_wp2_with (first
     | (go_at_call 18;(with_reducible refine CK.out.mono ?_);rintro e w2 ⟨v1,rfl,ho,hb⟩;have HO:=am ho;replace HB:=bS hb;clear ho hb;obtain ⟨A1,d1,eo⟩:=Kd.Zh HO.out;subst eo)
     | (go_at_call 93;(with_reducible refine (Za7.calls A1 d1 L x3 s _ ?side1 ?side2 HS.out).mono ?_);(case side1=>exact Kd.Zi (Kd.Zc HO.out).2.2 pl);(case side2=>exact (Kd.Zc HO.out).2.1);rintro e w3 ⟨v3,rfl,ho,hb⟩;have HO3:=am (Kd.Zfa (Kd.Zil ho) (Zb pB));replace HB:=bS hb;clear ho hb))
   go_ret3
   exact ⟨_,rfl,Kd.Zha HO3.out (fun _ _=>trivial),pB⟩
 · rw [if_neg c1] at h
   have c1b:decide (0<=x3)=false:=decide_eq_false c1
   obtain ⟨m,hm,hmv⟩:∃ m:Int,wrap64 (-x3)=m /\ -x3=m:=⟨_,by have := hb2.out;unfold wrap64;omega,rfl⟩
   rw [hm] at h
   have hm0:0 < m:=by omega
   have hm1:m<=1000000:=by have := hb2.out;omega
   clear hmv c1 hb2
   by_cases c2:(L.length:Int) < m
   · rw [if_pos c2] at h
     obtain ⟨rfl,rfl,rfl⟩:[]=r1/\decide (0 < (L.length:Int))=r2/\false=r3:=by simpa using h
     have c2b:decide ((L.length:Int) < m)=true:=decide_eq_true c2
     clear h hm0 hm1 c2
     go_enter Tryz.func95,Tryz.ntmps95
     go_wp2_with (first
       | (go_at_call 18;(with_reducible refine CK.out.mono ?_);rintro e w2 ⟨v1,rfl,ho,hb⟩;have HO:=am ho;replace HB:=bS hb;clear ho hb;obtain ⟨A1,d1,eo⟩:=Kd.Zh HO.out;subst eo))
     go_quiet (fail)
     go_wp2
     go_ret3
     exact ⟨_,pE,Kd.Ztx _ _ _ _ _,pB⟩
   · rw [if_neg c2] at h
     obtain ⟨t,ht,h⟩:=Option.bind_eq_some_iff.mp h
     obtain ⟨j,hj,hjv⟩:∃ j:Int,wrap64 (m - 1)=j/\m - 1=j:=⟨_,by unfold wrap64;omega,rfl⟩
     rw [hj] at h
     obtain ⟨rfl,rfl,rfl⟩:t=r1/\true=r2/\decide (5<=rd L j)=r3:=by simpa using h
     clear h
     have c2b:decide ((L.length:Int) < m)=false:=decide_eq_false c2
     have p1:0<=j:=by omega
     have q1:j < (L.length:Int):=by omega
     have m0:0<=m:=by omega
     have m1:m<=(L.length:Int):=by omega
     obtain ⟨i0,hi0,_,hsz,_⟩:=info_parts info3
     obtain ⟨y,hy⟩:∃ y,L.drop m.toNat=y:=⟨_,rfl⟩
     have hyl:L.length - m.toNat=y.length:=by rw [<- hy,List.length_drop]
     rw [hy] at ht
     have HT:=am ht
     have HY:=am hy
     have HYL:=am hyl
     have HM1:=am m1
     have HQ1:=am q1
     have HP1:=am p1
     have hcf:=fun (ad:Addr) (d:Nat)=>Zif (P:=Tryz.prog) 28 3 .i64 Tryz.underlying28 hi0 1 hsz (some ad) L.length d m m0 m1
     rw [hyl] at hcf
     have HCF:=am hcf
     clear hm0 hm1 c2 ht hy hyl hjv hcf m1 m0 q1 p1
     have hjw:IntKind.i64.wrap (m - 1)=j:=(Zb9 _).trans hj
     go_enter Tryz.func95,Tryz.ntmps95
     go_wp2_with (first
       | (go_at_call 18;(with_reducible refine CK.out.mono ?_);rintro e w2 ⟨v1,rfl,ho,hb⟩;have HO:=am ho;replace HB:=bS hb;clear ho hb;obtain ⟨A1,d1,eo⟩:=Kd.Zh HO.out;subst eo))
     have hW:=am (Kd.Zi (w1:=w2.alloc (.cells #[.bool x1,.slice A1 L.length d1,.int .i64 x3] 30)) (Kd.Zc HO.out).2.2 pl)
     obtain ⟨ad,e1,hx0⟩:=Kd.Zay hW.out j HP1.out HQ1.out
     cases e1
     have hcut:=HCF.out ad d1
     obtain ⟨A5,hA5⟩:∃ A5,(if d1=m.toNat then some ad else (some ad).map (·.add (m.toNat*1)))=A5:=⟨_,rfl⟩
     obtain ⟨d5,hd5⟩:∃ d5,d1 - m.toNat=d5:=⟨_,rfl⟩
     rw [hA5,hd5] at hcut
     have HQ5:Aside0 (Kd.Q (Kd.int .i64) 3 w2 _ _ (.slice A5 y.length d5) y):=⟨by
       have := Kd.Zo6 (k:=m.toNat) (Kd.Zil HO.out) (by have := HM1.out;omega)
       rw [HY.out,HYL.out] at this
       rw [<- hA5,<- hd5];exact this⟩
     have HC5:=am (Kd.Zi (w1:=w2.alloc (.cells #[.bool x1,.slice (some ad) L.length d1,.int .i64 x3] 30)) (Kd.Zds HQ5.out).2.2 pl)
     have p1:=eq_true HP1.out
     have q1:=eq_true HQ1.out
     clear hA5 hd5 hW
     go_quiet ((go_at_call 79;exact Zf1 (Zso k A5 d5 y t _ (Kd.Zi HC5.out (Zaz (Below.refl _ _) _)) (Kd.Zds HQ5.out).2.1 HT.out)))
     go_wp2
     go_ret3
     have HP:=Zfi _ _ _ _ HT.out
     refine ⟨_,pE,?_,pB⟩
     have := Kd.Zm5 HQ5.out HP.1
     rw [<- HP.2] at this
     exact Kd.Zej (Kd.Zha (Kd.Zfa this (by simp)) (fun _ _=>trivial)) pl
theorem Zuf (w:World) (r:Int):Kd.C (Kd.int .i64) (w.alloc (.cells #[.int .i64 r] 3)) (some ⟨w.heap.size,0,none⟩) 1 [r] :=
 (Kd.Zc (e:=3) (base:=w.heap.size) (ok:=fun k=>k=w.heap.size) (n:=1) (c:=1) (Kd.Zdk (enc:=Value.int .i64) (World.ownsRow_lit (base:=w.heap.size) (e:=3) (size:=1) w #[.int .i64 r] 1 (Nat.le_refl _) (by decide) rfl) (fun k hk=>by simp [Value.ownBlock] at hk;exact hk.symm))).2.2
def Zak.f (k:Nat) (a:Bool) (l:List Int) (e:Int) (up:Bool):Option (Bool × List Int × Int × Int):=(Zai.f k a l e).bind fun x=>if up=true then (Zw.f k x.1 [1]).bind fun d=>Zp.f k a d 0 else Zp.f k a x.1 0
theorem Zak.calls (k:Nat) (a0_0:Bool) (A0_1:Option Addr) (c0_1:Nat) (l0_1:List Int) (a0_2:Int) (a1:Bool) (r1:Bool) (r2:List Int) (r3 r4:Int) (w:World) (hr0_1:Kd.C (Kd.int .u32) w A0_1 l0_1.length l0_1) (hc0_1:l0_1.length<=c0_1) (h:Zak.f k a0_0 l0_1 a0_2 a1=some (r1,r2,r3,r4)) :
  Calls Tryz.prog 96 #[.agg #[.bool a0_0,.slice A0_1 l0_1.length c0_1,.int .i64 a0_2],.bool a1] w fun e w' => ∃ v1_:Value,e=.returned (.tuple #[.agg #[.bool r1,v1_,.int .i64 r3],.int .i64 r4])/\Kd.R (Kd.int .u32) 85 w' w.heap.size (fun _=>True) v1_ r2/\Below w.heap.size w w':=by
 have hu24:=Tryz.underlying24
 have hu30:=Tryz.underlying30
 unfold Zak.f at h
 obtain ⟨⟨x1,x2,x3⟩,hx,h⟩:=Option.bind_eq_some_iff.mp h
 dsimp only at h
 have HR0:=am hr0_1
 have HC0:=am hc0_1
 have HX:=am hx
 have HB:=am (Below.refl w.heap.size w)
 clear hr0_1 hc0_1 hx
 have fin:∀ (W W':World) (v:Value) (g:Nat) (u0 u1 u2:Value),Below w.heap.size w W->Kd.R (Kd.int .u32) 85 W W'.heap.size (fun _=>True) v r2->w.heap.size<=W'.heap.size->W.heap[g]? = some (.cells #[.bool false,.slice none 0 0,.int .i64 0] 24 (0,0))->w.heap.size<=g ->
   Kd.R (Kd.int .u32) 85 (((W.setCell ⟨g,0,none⟩ u0).setCell ⟨g,1,none⟩ u1).setCell ⟨g,2,none⟩ u2) w.heap.size (fun _=>True) v r2/\Below w.heap.size w (((W.setCell ⟨g,0,none⟩ u0).setCell ⟨g,1,none⟩ u1).setCell ⟨g,2,none⟩ u2):=fun W W' v g u0 u1 u2 hb hr hle hg hgw=>⟨z3 (Kd.Zn hr hle) hg (by decide) u0 u1 u2,((hb.setCell (p:=⟨g,0,none⟩) hgw _).setCell (p:=⟨g,1,none⟩) hgw _).setCell (p:=⟨g,2,none⟩) hgw _⟩
 cases a1
 · rw [if_neg (by decide)] at h
   have HM:=am h
   clear h
   go_enter Tryz.func96,Tryz.ntmps96
   go_wp2_with (first
     | ((with_reducible refine gd 2 ?_);refine bx 2 #[.bool a0_0,.slice A0_1 l0_1.length c0_1,.int .i64 a0_2] 24 (h:=?_);intro g2 hg w1 hbox hb;have BK2:=am hbox;replace HB:=bS hb;clear hb hbox hg)
     | ((with_reducible refine gd 4 ?_);refine bx 4 #[.bool false,.slice none 0 0,.int .i64 0] 24 (h:=?_);intro g4 hg w2 hbox hb;have BK4:=am hbox;have GW4:=gW hg;replace BK2:=bb BK2 hb;replace HB:=bS hb;clear hb hbox hg;obtain ⟨b0,b1,b2,f0,f1,f2⟩:=cEc BK2.out)
     | (go_at_call 95;(with_reducible refine (Zai.calls k a0_0 _ _ l0_1 a0_2 x1 x2 x3 _ ?side1 ?side2 HX.out).mono ?_);(case side1=>exact Kd.Zi HR0.out pB);(case side2=>exact HC0.out);rintro e w3 ⟨v3,rfl,ho,hb⟩;obtain ⟨A5,d5,eo,hl,hC⟩:=Kd.Zo7 ho;subst eo;have HC5:=am hC;have HL5:=am hl;replace BK2:=bb BK2 hb;replace BK4:=bb BK4 hb;replace HB:=bS hb;clear ho hb hl hC b0 b1 b2 f0 f1 f2;obtain ⟨b0,b1,b2,f0,f1,f2⟩:=cEc BK2.out)
     | (go_at_call 23;(with_reducible refine (Zp.calls k a0_0 _ _ x1 0 r1 r2 r3 r4 _ ?side1 ?side2 HM.out).mono ?_);(case side1=>exact Kd.Zi HC5.out pl);(case side2=>exact HL5.out);rintro e w4 ⟨v4,rfl,ho,hb⟩;have HO:=am ho;have HS:=am (Zb (show Below w.heap.size w _ from pB));replace BK4:=bb BK4 hb;replace HB:=bS hb;clear ho hb b0 b1 b2 f0 f1 f2;obtain ⟨b0,b1,b2,f0,f1,f2⟩:=cEc BK4.out;obtain ⟨A7,d7,eo⟩:=Kd.Zh HO.out;subst eo))
   refine bodyPost_ret (Zae rfl _ _ g4 24 #[.bool r1,.slice A7 r2.length d7,.int .i64 r3] (0,0) _ rfl (by exact p3 BK4) Tryz.underlying24 rfl (by kernel_rfl)) rfl ?_
   have F:=fin _ _ _ _ (.bool r1) (.slice A7 r2.length d7) (.int .i64 r3) HB.out HO.out HS.out BK4.out GW4.out
   exact ⟨_,pE,F.1,F.2⟩
 · rw [if_pos rfl] at h
   obtain ⟨d,hd,h⟩:=Option.bind_eq_some_iff.mp h
   have HM:=am h
   have hp:∀ (A:Option Addr) (n:Nat) (B:Option Addr) (W:World),Kd.C (Kd.int .i64) W A x1.length x1->x1.length<=n->Kd.C (Kd.int .i64) W B 1 [1]->Calls Tryz.prog 85 #[.slice A x1.length n,.slice B 1 1] W (fun e w' => ∃ v0_:Value,e=.returned (v0_)/\Kd.R (Kd.int .i64) 3 w' W.heap.size (fun _=>True) v0_ d/\Below W.heap.size W w'):=fun A n B W h1 h2 h3=>Zw.calls k A n x1 B 1 [1] d W h1 h2 h3 (Nat.le_refl _) hd
   have HP:=am hp
   clear hp
   clear h hd
   go_enter Tryz.func96,Tryz.ntmps96
   go_wp2_with (first
     | ((with_reducible refine gd 2 ?_);refine bx 2 #[.bool a0_0,.slice A0_1 l0_1.length c0_1,.int .i64 a0_2] 24 (h:=?_);intro g2 hg w1 hbox hb;have BK2:=am hbox;replace HB:=bS hb;clear hb hbox hg)
     | ((with_reducible refine gd 4 ?_);refine bx 4 #[.bool false,.slice none 0 0,.int .i64 0] 24 (h:=?_);intro g4 hg w2 hbox hb;have BK4:=am hbox;have GW4:=gW hg;replace BK2:=bb BK2 hb;replace HB:=bS hb;clear hb hbox hg;obtain ⟨b0,b1,b2,f0,f1,f2⟩:=cEc BK2.out)
     | (go_at_call 95;(with_reducible refine (Zai.calls k a0_0 _ _ l0_1 a0_2 x1 x2 x3 _ ?side1 ?side2 HX.out).mono ?_);(case side1=>exact Kd.Zi HR0.out pB);(case side2=>exact HC0.out);rintro e w3 ⟨v3,rfl,ho,hb⟩;obtain ⟨A5,d5,eo,hl,hC⟩:=Kd.Zo7 ho;subst eo;have HC5:=am hC;have HL5:=am hl;replace BK2:=bb BK2 hb;replace BK4:=bb BK4 hb;replace HB:=bS hb;clear ho hb hl hC b0 b1 b2 f0 f1 f2;obtain ⟨b0,b1,b2,f0,f1,f2⟩:=cEc BK2.out)
     | (go_at_call 85;(with_reducible refine (HP.out A5 d5 _ _ ?side1 ?side2 ?side3).mono ?_);(case side1=>exact Kd.Zi HC5.out pl);(case side2=>exact HL5.out);(case side3=>exact Zuf _ 1);rintro e w5 ⟨v5,rfl,ho,hb⟩;obtain ⟨A6,d6,eo,hl,hC⟩:=Kd.Zgb ho;subst eo;have HC6:=am hC;have HL6:=am hl;replace BK2:=bb BK2 hb;replace BK4:=bb BK4 hb;replace HB:=bS hb;clear ho hb hl hC b0 b1 b2 f0 f1 f2;obtain ⟨b0,b1,b2,f0,f1,f2⟩:=cEc BK2.out)
     | (go_at_call 23;(with_reducible refine (Zp.calls k a0_0 _ _ d 0 r1 r2 r3 r4 _ ?side1 ?side2 HM.out).mono ?_);(case side1=>exact Kd.Zi HC6.out pl);(case side2=>exact HL6.out);rintro e w4 ⟨v4,rfl,ho,hb⟩;have HO:=am ho;have HS:=am (Zb (show Below w.heap.size w _ from pB));replace BK4:=bb BK4 hb;replace HB:=bS hb;clear ho hb b0 b1 b2 f0 f1 f2;obtain ⟨b0,b1,b2,f0,f1,f2⟩:=cEc BK4.out;obtain ⟨A7,d7,eo⟩:=Kd.Zh HO.out;subst eo))
   refine bodyPost_ret (Zae rfl _ _ g4 24 #[.bool r1,.slice A7 r2.length d7,.int .i64 r3] (0,0) _ rfl (by exact p3 BK4) Tryz.underlying24 rfl (by kernel_rfl)) rfl ?_
   have F:=fin _ _ _ _ (.bool r1) (.slice A7 r2.length d7) (.int .i64 r3) HB.out HO.out HS.out BK4.out GW4.out
   exact ⟨_,pE,F.1,F.2⟩
end YtjbjkmccfocikaaGreatDoor.B
end
end Go.Proofs
