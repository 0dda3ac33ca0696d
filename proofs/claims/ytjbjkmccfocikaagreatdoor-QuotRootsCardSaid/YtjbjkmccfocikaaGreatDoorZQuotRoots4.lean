/- QuotRoots, part 5 of 7 of its proof (no condition); names with a low line are shortened throughout. -/
import Derived.Test.YtjbjkmccfocikaaGreatDoorZQuotRoots3
import Derived.WalkKit
import Derived.Lib.Hide
import Derived.Outline
import Derived.Deep.DeepFit
import Derived.Laws.Rows
import Derived.Lib.TrimByte
import Derived.Shelf.Strings.MapAny
import Derived.Shelf.Strings.SlTrimAscii
set_option linter.unusedVariables false
set_option linter.unusedSimpArgs false
set_option maxRecDepth 100000
set_option maxHeartbeats 8000000
namespace Go.Proofs
section
namespace YtjbjkmccfocikaaGreatDoor.B
open Go.RowKit YtjbjkmccfocikaaGreatDoorW.PrintWords YtjbjkmccfocikaaGreatDoorW.PrintLast YtjbjkmccfocikaaGreatDoorW.PrintMore
attribute [local go_sem] Zb7 Zb9 Zcu Zcv Zbt Zbu Zb8 Zca
def Zab.f (k:Nat) (a0_0:Bool) (l0_1:List Int) (a0_2:Int) (a1_0:Bool) (l1_1:List Int) (a1_2:Int):Option (Bool × List Int × Int × Int):=(Za3.f k a0_0 l0_1 a0_2 a1_0 l1_1 a1_2).bind fun t673=>(if t673=0 then ((Zp.f k a0_0 l0_1 a0_2).bind fun bt674=>((Zp.f k a1_0 l1_1 a1_2).bind fun bt679=>((Zj.f k bt674.2.1 bt679.2.1).bind fun t686=>((Zo.f k (bt674.1 != bt679.1) t686 (wrap64 (bt674.2.2 + bt679.2.2))).bind fun bt689=>(some (bt689.1,bt689.2.1,bt689.2.2.1,bt689.2.2.2)))))) else (some (false,([]:List Int),0,9)))
def Zab.T3:Bool × List (List Nat × List Nat):=(true,[([],[]),([0],[0]),([],[]),([2,1],[2]),([],[]),([],[]),([4,1,3,0,1,4,5],[1,4]),([5,3,6,0,1,2,3,4,5,6],[3,5])])
def Zab.B3:List Nat:=[0,1,0,7,0,0,63,127]
theorem Zab.tab3:rtab .any (opsOf Tryz.f17 3)=Zab.T3:=by kernel_rfl
theorem Zab.bits3:waitsOk Zab.T3.2 Zab.B3=true:=by kernel_rfl
def Zab.T4:Bool × List (List Nat × List Nat):=(true,[([],[]),([0],[0]),([],[]),([2],[2]),([1,3],[1,3]),([],[]),([5],[5]),([],[]),([7],[7]),([6,8],[6,8]),([],[]),([10],[10]),([],[]),([12],[12]),([11,13],[11,13]),([4,9,14],[4,9,14]),([15,9],[15]),([16],[16]),([16],[16]),([17,16,0,1,2,3,4,5,6,7,8,9,10,11,12,13,14,15,16,17,18],[17]),([18,19,0,1,2,3,4,5,6,7,8,9,10,11,12,13,14,15,16,17,18,19],[18])])
def Zab.B4:List Nat:=[0,1,0,4,15,0,32,0,128,480,0,1024,0,4096,15360,32767,65535,131071,131071,524287,1048575]
theorem Zab.tab4:rtab .any (opsOf Tryz.f17 4)=Zab.T4:=by kernel_rfl
theorem Zab.bits4:waitsOk Zab.T4.2 Zab.B4=true:=by kernel_rfl
theorem Zab.leaf {P:Prop} (h:P:=by
 go_enter Tryz.func17,Tryz.ntmps17
 try go_wp2_with (first|((with_reducible refine gd 2 ?_);refine bx 2 #[.bool a0_0,.slice A0_1 l0_1.length c0_1,.int .i64 a0_2] 24 (h:=?_);intro gb0z hg w1z hbox hb;have BK2z:=am hbox;have GW3z:=gW hg;have GE4z:=gW hg;replace HB:=bS hb;clear hb hbox hg)|((with_reducible refine gd 3 ?_);refine bx 3 #[.bool a1_0,.slice A1_1 l1_1.length c1_1,.int .i64 a1_2] 24 (h:=?_);intro gb5z hg w6z hbox hb;have BK7z:=am hbox;have GW8z:=gW hg;have GE9z:=gW hg;have NB10z:=nL hg BK2z;have NB11z:=nG hg BK2z;replace BK2z:=bb BK2z hb;replace HB:=bS hb;clear hb hbox hg)|((with_reducible refine gd 4 ?_);refine bx 4 #[.bool false,.slice none 0 0,.int .i64 0] 24 (h:=?_);intro gb12z hg w13z hbox hb;have BK14z:=am hbox;have GW15z:=gW hg;have GE16z:=gW hg;have NB17z:=nL hg BK2z;have NB18z:=nG hg BK2z;have NB19z:=nL hg BK7z;have NB20z:=nG hg BK7z;replace BK2z:=bb BK2z hb;replace BK7z:=bb BK7z hb;replace HB:=bS hb;clear hb hbox hg;have hnb21z:=NB10z.out;have hnc22z:=NB11z.out;have hnb23z:=NB17z.out;have hnc24z:=NB18z.out;obtain ⟨hcz25z,hcz26z,hcz27z,hfz28z,hfz29z,hfz30z⟩:=cEc BK2z.out;have hnb31z:=NB19z.out;have hnc32z:=NB20z.out;obtain ⟨hcz33z,hcz34z,hcz35z,hfz36z,hfz37z,hfz38z⟩:=cEc BK7z.out)|((have q_:=A8;clear q_);refine gL (some 10) Tryz.func64 #[.agg #[.bool a0_0,.slice A0_1 l0_1.length c0_1,.int .i64 a0_2],.agg #[.bool a1_0,.slice A1_1 l1_1.length c1_1,.int .i64 a1_2]] (h:=?_);(with_reducible refine (Za3.calls k a0_0 _ _ l0_1 a0_2 a1_0 _ _ l1_1 a1_2 t673 _ ?side1 ?side2 ?side3 ?side4 A3.out).mono ?_);(case side1=>refine cp ?_;exact (Kd.Zh HR0_1.out HB.out));(case side2=>exact HC0_1.out);(case side3=>refine cp ?_;exact (Kd.Zh HR1_1.out HB.out));(case side4=>exact HC1_1.out);rintro e w39z ⟨rfl,hb⟩;refine ⟨_,rfl,?_⟩;replace BK2z:=bb BK2z hb;replace BK7z:=bb BK7z hb;replace BK14z:=bb BK14z hb;replace HB:=bS hb)|((have q_:(t673 != 0)=true:=c4b1;clear q_);refine gL (some 10) Tryz.func64 #[.agg #[.bool a0_0,.slice A0_1 l0_1.length c0_1,.int .i64 a0_2],.agg #[.bool a1_0,.slice A1_1 l1_1.length c1_1,.int .i64 a1_2]] (h:=?_);(with_reducible refine (Za3.calls k a0_0 _ _ l0_1 a0_2 a1_0 _ _ l1_1 a1_2 t673 _ ?side1 ?side2 ?side3 ?side4 A3.out).mono ?_);(case side1=>refine cp ?_;exact (Kd.Zh HR0_1.out HB.out));(case side2=>exact HC0_1.out);(case side3=>refine cp ?_;exact (Kd.Zh HR1_1.out HB.out));(case side4=>exact HC1_1.out);rintro e w39z ⟨rfl,hb⟩;refine ⟨_,rfl,?_⟩;replace BK2z:=bb BK2z hb;replace BK7z:=bb BK7z hb;replace BK14z:=bb BK14z hb;replace HB:=bS hb;obtain ⟨hcz40z,hcz41z,hcz42z,hfz43z,hfz44z,hfz45z⟩:=cEc BK14z.out))
 first
  | have q_:=A8
    replace BK2z:=am (Zba BK2z.out)
    replace BK7z:=am (Zba BK7z.out)
    replace BK14z:=am (Zba BK14z.out)
    replace HB:=am (Zaz HB.out)
    refine start_ (n:=8) (S:=fun w'=>w'.cell? ⟨gb0z,0,none⟩=some (.bool a0_0)/\w'.cell? ⟨gb0z,1,none⟩=some (.slice A0_1 l0_1.length c0_1)/\w'.cell? ⟨gb0z,2,none⟩=some (.int .i64 a0_2)/\w'.cell? ⟨gb5z,0,none⟩=some (.bool a1_0)/\w'.cell? ⟨gb5z,1,none⟩=some (.slice A1_1 l1_1.length c1_1)/\w'.cell? ⟨gb5z,2,none⟩=some (.int .i64 a1_2)) (ds:=[]) #[false,false,false,false,false,false,false,false] (by kernel_rfl) rfl rfl ⟨k0 BK2z 0,k0 BK2z 1,k0 BK2z 2,k0 BK7z 0,k0 BK7z 1,k0 BK7z 2⟩ (fun hHeld=>?_);refine Zcn Zab.tab3 Zab.bits3 (fun HT_ HW_=>?_)
    generalize w39z.drew=w40z at BK2z BK7z BK14z HB hHeld ⊢
    refine take_ (i:=0) (N:=some 13) (v:=?_) (a':=?_) #[true,false,false,false,false,false,false,false] rfl rfl (Zbh HT_.out HW_.out (by kernel_rfl)) (fun _ _ _ h=>h) (Or.inl ⟨by rfl,?_⟩) hHeld ?_ ?_
    rotate_left
    ·rintro w' ⟨s41z,s42z,s43z,s44z,s45z,s46z⟩
     go_simp
     with_reducible rfl
    rotate_left
    ·exact pP
    refine take_ (i:=2) (N:=some 15) (v:=?_) (a':=?_) #[true,false,true,false,false,false,false,false] rfl rfl (Zbh HT_.out HW_.out (by kernel_rfl)) (fun _ _ _ h=>h) (Or.inl ⟨by rfl,?_⟩) hHeld ?_ ?_
    rotate_left
    ·rintro w' ⟨s41z,s42z,s43z,s44z,s45z,s46z⟩
     go_simp
     with_reducible rfl
    rotate_left
    ·exact pP
    refine join_ (σ:=Value × Value × Nat × Nat) 2 #[true,true,true,true,true,true,false,false] (fun s_=>[(14,.agg #[.bool t674,s_.1,.int .i64 t678]),(16,.agg #[.bool t679,s_.2.1,.int .i64 t683]),(6,.pointer (some ⟨s_.2.2.1,0,none⟩)),(7,.pointer (some ⟨s_.2.2.2,0,none⟩))]) (fun s_ w'=>(w'.cell? ⟨gb0z,0,none⟩=some (.bool a0_0)/\w'.cell? ⟨gb0z,1,none⟩=some (.slice A0_1 l0_1.length c0_1)/\w'.cell? ⟨gb0z,2,none⟩=some (.int .i64 a0_2)/\w'.cell? ⟨gb5z,0,none⟩=some (.bool a1_0)/\w'.cell? ⟨gb5z,1,none⟩=some (.slice A1_1 l1_1.length c1_1)/\w'.cell? ⟨gb5z,2,none⟩=some (.int .i64 a1_2))/\(Kd.R (Kd.int .i64) 3 w' w.heap.size (fun k_=>some k_ ≠ (s_.2.1:Value).ownBlock) s_.1 t675)/\(Kd.R (Kd.int .i64) 3 w' w.heap.size (fun k_=>some k_ ≠ (s_.1:Value).ownBlock) s_.2.1 t680)/\(w'.heap[gb0z]? = some (.cells #[.bool a0_0,.slice A0_1 l0_1.length c0_1,.int .i64 a0_2] 24 (0,0)))/\(w'.heap[gb5z]? = some (.cells #[.bool a1_0,.slice A1_1 l1_1.length c1_1,.int .i64 a1_2] 24 (0,0)))/\(w'.heap[gb12z]? = some (.cells #[.bool false,.slice none 0 0,.int .i64 0] 24 (0,0)))/\(w'.heap[s_.2.2.1]? = some (.cells #[.bool false,.slice none 0 0,.int .i64 0] 30 (0,0)))/\(w'.heap[s_.2.2.2]? = some (.cells #[.bool false,.slice none 0 0,.int .i64 0] 30 (0,0)))/\(w.heap.size<=s_.2.2.1)/\(w.heap.size<=s_.2.2.1)/\(gb0z ≠ s_.2.2.1)/\(s_.2.2.1 ≠ gb0z)/\(gb5z ≠ s_.2.2.1)/\(s_.2.2.1 ≠ gb5z)/\(gb12z ≠ s_.2.2.1)/\(s_.2.2.1 ≠ gb12z)/\(s_.2.2.2 ≠ s_.2.2.1)/\(s_.2.2.1 ≠ s_.2.2.2)/\(w.heap.size<=s_.2.2.2)/\(w.heap.size<=s_.2.2.2)/\(gb0z ≠ s_.2.2.2)/\(s_.2.2.2 ≠ gb0z)/\(gb5z ≠ s_.2.2.2)/\(s_.2.2.2 ≠ gb5z)/\(gb12z ≠ s_.2.2.2)/\(s_.2.2.2 ≠ gb12z)/\(Below w.heap.size w w')) ?_ ?_
    rotate_left
    ·intro hJ1_3_4_5
     refine pair2 1 3 4 5 14 16 6 7 w.heap.size (.bool t674) (.int .i64 t678) (.bool t679) (.int .i64 t683) #[.bool false,.slice none 0 0,.int .i64 0] 30 (Zb HB.out) (fun w_ hb_=>⟨k0 (bb BK2z hb_) 0,k0 (bb BK2z hb_) 1,k0 (bb BK2z hb_) 2,k0 (bb BK7z hb_) 0,k0 (bb BK7z hb_) 1,k0 (bb BK7z hb_) 2⟩) (fun f_ w_ hb_ K_ hK_=>?_) (fun f_ w_ hb_ K_ hK_=>?_) (fun u1_ u3_ g4_ g5_ w_ hb_ r1_ r2_ q4_ q5_ m4_ m5_ hne_=>hJ1_3_4_5 (u1_,u3_,g4_,g5_) _ ⟨⟨k0 (bb BK2z hb_) 0,k0 (bb BK2z hb_) 1,k0 (bb BK2z hb_) 2,k0 (bb BK7z hb_) 0,k0 (bb BK7z hb_) 1,k0 (bb BK7z hb_) 2⟩,r1_,r2_,(bb BK2z hb_).out,(bb BK7z hb_).out,(bb BK14z hb_).out,q4_,q5_,(Nat.le_trans (Zb HB.out) m4_),(Nat.le_trans (Zb HB.out) m4_),(nW BK2z m4_),(nV BK2z m4_),(nW BK7z m4_),(nV BK7z m4_),(nW BK14z m4_),(nV BK14z m4_),hne_.symm,hne_,(Nat.le_trans (Zb HB.out) m5_),(Nat.le_trans (Zb HB.out) m5_),(nW BK2z m5_),(nV BK2z m5_),(nW BK7z m5_),(nV BK7z m5_),(nW BK14z m5_),(nV BK14z m5_),(bS hb_).out⟩)
     ·have HB:=bS hb_
      refine goes_ Tryz.func18 (by kernel_rfl) rfl #[.agg #[.bool a0_0,.slice A0_1 l0_1.length c0_1,.int .i64 a0_2]] (by rfl) rfl rfl pA ?_
      with_reducible refine (Zp.calls k a0_0 _ _ l0_1 a0_2 t674 t675 t678 _ ?side1 ?side2 A5.out).mono ?_
      (case side1=>refine cp ?_;exact (Kd.Zh HR0_1.out HB.out))
      (case side2=>exact HC0_1.out)
      rintro e w47z ⟨v48z,rfl,ho49z,hb2_⟩
      exact ⟨_,rfl,hK_ v48z _ _ ho49z hb2_⟩
     ·have HB:=bS hb_
      refine goes_ Tryz.func18 (by kernel_rfl) rfl #[.agg #[.bool a1_0,.slice A1_1 l1_1.length c1_1,.int .i64 a1_2]] (by rfl) rfl rfl pA ?_
      with_reducible refine (Zp.calls k a1_0 _ _ l1_1 a1_2 t679 t680 t683 _ ?side1 ?side2 A6.out).mono ?_
      (case side1=>refine cp ?_;exact (Kd.Zh HR1_1.out HB.out))
      (case side2=>exact HC1_1.out)
      rintro e w50z ⟨v51z,rfl,ho49z,hb2_⟩
      exact ⟨_,rfl,hK_ v51z _ _ ho49z hb2_⟩
    rintro ⟨v48z,v51z,gb52z,gb53z⟩ w54z ⟨hS_,h0_,h1_,h2_,h3_,h4_,h5_,h6_,h7_,h8_,h9_,h10_,h11_,h12_,h13_,h14_,h15_,h16_,h17_,h18_,h19_,h20_,h21_,h22_,h23_,h24_,h25_⟩
    have HO55z:Aside0 (Kd.R (Kd.int .i64) 3 w54z w.heap.size (fun k_=>some k_ ≠ (v51z:Value).ownBlock) v48z t675):=⟨h0_⟩
    have HO56z:Aside0 (Kd.R (Kd.int .i64) 3 w54z w.heap.size (fun k_=>some k_ ≠ (v48z:Value).ownBlock) v51z t680):=⟨h1_⟩
    have BK57z:Aside0 (w54z.heap[gb52z]? = some (.cells #[.bool false,.slice none 0 0,.int .i64 0] 30 (0,0))):=⟨h5_⟩
    have BK58z:Aside0 (w54z.heap[gb53z]? = some (.cells #[.bool false,.slice none 0 0,.int .i64 0] 30 (0,0))):=⟨h6_⟩
    have GW59z:Aside0 (w.heap.size<=gb52z):=⟨h7_⟩
    have GE60z:Aside0 (w.heap.size<=gb52z):=⟨h8_⟩
    have NB61z:Aside0 (gb0z ≠ gb52z):=⟨h9_⟩
    have NB62z:Aside0 (gb52z ≠ gb0z):=⟨h10_⟩
    have NB63z:Aside0 (gb5z ≠ gb52z):=⟨h11_⟩
    have NB64z:Aside0 (gb52z ≠ gb5z):=⟨h12_⟩
    have NB65z:Aside0 (gb12z ≠ gb52z):=⟨h13_⟩
    have NB66z:Aside0 (gb52z ≠ gb12z):=⟨h14_⟩
    have NB67z:Aside0 (gb53z ≠ gb52z):=⟨h15_⟩
    have NB68z:Aside0 (gb52z ≠ gb53z):=⟨h16_⟩
    have GW69z:Aside0 (w.heap.size<=gb53z):=⟨h17_⟩
    have GE70z:Aside0 (w.heap.size<=gb53z):=⟨h18_⟩
    have NB71z:Aside0 (gb0z ≠ gb53z):=⟨h19_⟩
    have NB72z:Aside0 (gb53z ≠ gb0z):=⟨h20_⟩
    have NB73z:Aside0 (gb5z ≠ gb53z):=⟨h21_⟩
    have NB74z:Aside0 (gb53z ≠ gb5z):=⟨h22_⟩
    have NB75z:Aside0 (gb12z ≠ gb53z):=⟨h23_⟩
    have NB76z:Aside0 (gb53z ≠ gb12z):=⟨h24_⟩
    replace BK2z:Aside0 (w54z.heap[gb0z]? = some (.cells #[.bool a0_0,.slice A0_1 l0_1.length c0_1,.int .i64 a0_2] 24 (0,0))):=⟨h2_⟩
    replace BK7z:Aside0 (w54z.heap[gb5z]? = some (.cells #[.bool a1_0,.slice A1_1 l1_1.length c1_1,.int .i64 a1_2] 24 (0,0))):=⟨h3_⟩
    replace BK14z:Aside0 (w54z.heap[gb12z]? = some (.cells #[.bool false,.slice none 0 0,.int .i64 0] 24 (0,0))):=⟨h4_⟩
    replace HB:Aside0 (Below w.heap.size w w54z):=⟨h25_⟩
    clear h0_ h1_ h2_ h3_ h4_ h5_ h6_ h7_ h8_ h9_ h10_ h11_ h12_ h13_ h14_ h15_ h16_ h17_ h18_ h19_ h20_ h21_ h22_ h23_ h24_ h25_
    have hHeld:w54z.cell? ⟨gb0z,0,none⟩=some (.bool a0_0)/\w54z.cell? ⟨gb0z,1,none⟩=some (.slice A0_1 l0_1.length c0_1)/\w54z.cell? ⟨gb0z,2,none⟩=some (.int .i64 a0_2)/\w54z.cell? ⟨gb5z,0,none⟩=some (.bool a1_0)/\w54z.cell? ⟨gb5z,1,none⟩=some (.slice A1_1 l1_1.length c1_1)/\w54z.cell? ⟨gb5z,2,none⟩=some (.int .i64 a1_2):=hS_
    obtain ⟨Ao77z,co78z,eo79z⟩:=Kd.Zm HO55z.out
    (first|subst eo79z|(injection eo79z with f1_ f2_ f3_;have f4_:=f1_.symm;have f5_:=f3_.symm;clear f1_ f2_ f3_;subst f4_;subst f5_))
    obtain ⟨Ao80z,co81z,eo82z⟩:=Kd.Zm HO56z.out
    (first|subst eo82z|(injection eo82z with f1_ f2_ f3_;have f4_:=f1_.symm;have f5_:=f3_.symm;clear f1_ f2_ f3_;subst f4_;subst f5_))
    refine norm_ (a':=?_) ?_ ?_
    rotate_left
    ·simp only [putAll,Act.put,List.setIfInBounds_toArray,List.set_cons_zero,List.set_cons_succ]
     rfl
    refine one_ (i:=6) (N:=none) #[true,true,true,true,true,true,true,false] rfl rfl (Zbx HT_.out (by kernel_rfl)) (by decide) (fun K hK=>?_)
    have hs83z:w54z.cell? ⟨gb52z,0,none⟩=some (.bool false):=k0 BK57z 0
    have hfs84z:=Zav BK57z.out 0
    have hns85z:=NB61z.out
    have hns86z:=NB63z.out
    have hns87z:=NB65z.out
    have hns88z:=NB67z.out
    have hms89z:=NB62z.out
    have hms90z:=NB64z.out
    have hms91z:=NB66z.out
    have hms92z:=NB68z.out
    have hs93z:w54z.cell? ⟨gb52z,1,none⟩=some (.slice none 0 0):=k0 BK57z 1
    have hfs94z:=Zav BK57z.out 1
    have hns95z:=NB61z.out
    have hns96z:=NB63z.out
    have hns97z:=NB65z.out
    have hns98z:=NB67z.out
    have hms99z:=NB62z.out
    have hms100z:=NB64z.out
    have hms101z:=NB66z.out
    have hms102z:=NB68z.out
    have hs103z:w54z.cell? ⟨gb52z,2,none⟩=some (.int .i64 0):=k0 BK57z 2
    have hfs104z:=Zav BK57z.out 2
    have hns105z:=NB61z.out
    have hns106z:=NB63z.out
    have hns107z:=NB65z.out
    have hns108z:=NB67z.out
    have hms109z:=NB62z.out
    have hms110z:=NB64z.out
    have hms111z:=NB66z.out
    have hms112z:=NB68z.out
    refine skip_ (w1:=?_) (by rfl) rfl ?_ ?_
    rotate_left
    ·go_simp
     rfl
    refine hK.out _ _ ⟨((cell_far (p:=⟨gb52z,_,none⟩) NB61z.out _).trans (((cell_far (p:=⟨gb52z,_,none⟩) NB61z.out _).trans (((cell_far (p:=⟨gb52z,_,none⟩) NB61z.out _).trans (hHeld.1)))))),((cell_far (p:=⟨gb52z,_,none⟩) NB61z.out _).trans (((cell_far (p:=⟨gb52z,_,none⟩) NB61z.out _).trans (((cell_far (p:=⟨gb52z,_,none⟩) NB61z.out _).trans (hHeld.2.1)))))),((cell_far (p:=⟨gb52z,_,none⟩) NB61z.out _).trans (((cell_far (p:=⟨gb52z,_,none⟩) NB61z.out _).trans (((cell_far (p:=⟨gb52z,_,none⟩) NB61z.out _).trans (hHeld.2.2.1)))))),((cell_far (p:=⟨gb52z,_,none⟩) NB63z.out _).trans (((cell_far (p:=⟨gb52z,_,none⟩) NB63z.out _).trans (((cell_far (p:=⟨gb52z,_,none⟩) NB63z.out _).trans (hHeld.2.2.2.1)))))),((cell_far (p:=⟨gb52z,_,none⟩) NB63z.out _).trans (((cell_far (p:=⟨gb52z,_,none⟩) NB63z.out _).trans (((cell_far (p:=⟨gb52z,_,none⟩) NB63z.out _).trans (hHeld.2.2.2.2.1)))))),((cell_far (p:=⟨gb52z,_,none⟩) NB63z.out _).trans (((cell_far (p:=⟨gb52z,_,none⟩) NB63z.out _).trans (((cell_far (p:=⟨gb52z,_,none⟩) NB63z.out _).trans (hHeld.2.2.2.2.2))))))⟩ (fun hHeld=>?_)
    clear hK K
    refine one_ (i:=7) (N:=none) #[true,true,true,true,true,true,true,true] rfl rfl (Zbx HT_.out (by kernel_rfl)) (by decide) (fun K hK=>?_)
    have hs113z:w54z.cell? ⟨gb53z,0,none⟩=some (.bool false):=k0 BK58z 0
    have hfs114z:=Zav BK58z.out 0
    have hns115z:=NB71z.out
    have hns116z:=NB73z.out
    have hns117z:=NB75z.out
    have hns118z:=NB68z.out
    have hms119z:=NB72z.out
    have hms120z:=NB74z.out
    have hms121z:=NB76z.out
    have hms122z:=NB67z.out
    have hs123z:w54z.cell? ⟨gb53z,1,none⟩=some (.slice none 0 0):=k0 BK58z 1
    have hfs124z:=Zav BK58z.out 1
    have hns125z:=NB71z.out
    have hns126z:=NB73z.out
    have hns127z:=NB75z.out
    have hns128z:=NB68z.out
    have hms129z:=NB72z.out
    have hms130z:=NB74z.out
    have hms131z:=NB76z.out
    have hms132z:=NB67z.out
    have hs133z:w54z.cell? ⟨gb53z,2,none⟩=some (.int .i64 0):=k0 BK58z 2
    have hfs134z:=Zav BK58z.out 2
    have hns135z:=NB71z.out
    have hns136z:=NB73z.out
    have hns137z:=NB75z.out
    have hns138z:=NB68z.out
    have hms139z:=NB72z.out
    have hms140z:=NB74z.out
    have hms141z:=NB76z.out
    have hms142z:=NB67z.out
    refine skip_ (w1:=?_) (by rfl) rfl ?_ ?_
    rotate_left
    ·go_simp
     rfl
    refine hK.out _ _ ⟨((cell_far (p:=⟨gb53z,_,none⟩) NB71z.out _).trans (((cell_far (p:=⟨gb53z,_,none⟩) NB71z.out _).trans (((cell_far (p:=⟨gb53z,_,none⟩) NB71z.out _).trans (hHeld.1)))))),((cell_far (p:=⟨gb53z,_,none⟩) NB71z.out _).trans (((cell_far (p:=⟨gb53z,_,none⟩) NB71z.out _).trans (((cell_far (p:=⟨gb53z,_,none⟩) NB71z.out _).trans (hHeld.2.1)))))),((cell_far (p:=⟨gb53z,_,none⟩) NB71z.out _).trans (((cell_far (p:=⟨gb53z,_,none⟩) NB71z.out _).trans (((cell_far (p:=⟨gb53z,_,none⟩) NB71z.out _).trans (hHeld.2.2.1)))))),((cell_far (p:=⟨gb53z,_,none⟩) NB73z.out _).trans (((cell_far (p:=⟨gb53z,_,none⟩) NB73z.out _).trans (((cell_far (p:=⟨gb53z,_,none⟩) NB73z.out _).trans (hHeld.2.2.2.1)))))),((cell_far (p:=⟨gb53z,_,none⟩) NB73z.out _).trans (((cell_far (p:=⟨gb53z,_,none⟩) NB73z.out _).trans (((cell_far (p:=⟨gb53z,_,none⟩) NB73z.out _).trans (hHeld.2.2.2.2.1)))))),((cell_far (p:=⟨gb53z,_,none⟩) NB73z.out _).trans (((cell_far (p:=⟨gb53z,_,none⟩) NB73z.out _).trans (((cell_far (p:=⟨gb53z,_,none⟩) NB73z.out _).trans (hHeld.2.2.2.2.2))))))⟩ (fun hHeld=>?_)
    clear hK K
    refine done_ (Zdl HT_.out (by kernel_rfl)) ?_
    try go_wp2
    have n0_:Aside0 (Kd.R (Kd.int .i64) 3 ((((((w54z.setCell ⟨gb52z,0,none⟩ (.bool t674)).setCell ⟨gb52z,1,none⟩ (.slice Ao77z t675.length co78z)).setCell ⟨gb52z,2,none⟩ (.int .i64 t678)).setCell ⟨gb53z,0,none⟩ (.bool t679)).setCell ⟨gb53z,1,none⟩ (.slice Ao80z t680.length co81z)).setCell ⟨gb53z,2,none⟩ (.int .i64 t683)) w.heap.size (fun k_=>some k_ ≠ (.slice Ao80z t680.length co81z:Value).ownBlock) (.slice Ao77z t675.length co78z) t675):=⟨by refine rp ?_;exact Kd.Zi (Kd.Zn (p:=⟨gb53z,2,none⟩) (Kd.Zn (p:=⟨gb53z,1,none⟩) (Kd.Zn (p:=⟨gb53z,0,none⟩) (Kd.Zn (p:=⟨gb52z,2,none⟩) (Kd.Zn (p:=⟨gb52z,1,none⟩) (Kd.Zn (p:=⟨gb52z,0,none⟩) (Kd.Zu (Kd.Zu HO55z.out BK57z.out (by decide)) BK58z.out (by decide)) (fun _ hk=>hk.1.2) (.bool t674)) (fun _ hk=>hk.1.2) (.slice Ao77z t675.length co78z)) (fun _ hk=>hk.1.2) (.int .i64 t678)) (fun _ hk=>hk.2) (.bool t679)) (fun _ hk=>hk.2) (.slice Ao80z t680.length co81z)) (fun _ hk=>hk.2) (.int .i64 t683)) (fun _ hk=>hk.1.1)⟩
    have n1_:Aside0 (Kd.R (Kd.int .i64) 3 ((((((w54z.setCell ⟨gb52z,0,none⟩ (.bool t674)).setCell ⟨gb52z,1,none⟩ (.slice Ao77z t675.length co78z)).setCell ⟨gb52z,2,none⟩ (.int .i64 t678)).setCell ⟨gb53z,0,none⟩ (.bool t679)).setCell ⟨gb53z,1,none⟩ (.slice Ao80z t680.length co81z)).setCell ⟨gb53z,2,none⟩ (.int .i64 t683)) w.heap.size (fun k_=>some k_ ≠ (.slice Ao77z t675.length co78z:Value).ownBlock) (.slice Ao80z t680.length co81z) t680):=⟨by refine rp ?_;exact Kd.Zi (Kd.Zn (p:=⟨gb53z,2,none⟩) (Kd.Zn (p:=⟨gb53z,1,none⟩) (Kd.Zn (p:=⟨gb53z,0,none⟩) (Kd.Zn (p:=⟨gb52z,2,none⟩) (Kd.Zn (p:=⟨gb52z,1,none⟩) (Kd.Zn (p:=⟨gb52z,0,none⟩) (Kd.Zu (Kd.Zu HO56z.out BK57z.out (by decide)) BK58z.out (by decide)) (fun _ hk=>hk.1.2) (.bool t674)) (fun _ hk=>hk.1.2) (.slice Ao77z t675.length co78z)) (fun _ hk=>hk.1.2) (.int .i64 t678)) (fun _ hk=>hk.2) (.bool t679)) (fun _ hk=>hk.2) (.slice Ao80z t680.length co81z)) (fun _ hk=>hk.2) (.int .i64 t683)) (fun _ hk=>hk.1.1)⟩
    have n2_:Aside0 (((((((w54z.setCell ⟨gb52z,0,none⟩ (.bool t674)).setCell ⟨gb52z,1,none⟩ (.slice Ao77z t675.length co78z)).setCell ⟨gb52z,2,none⟩ (.int .i64 t678)).setCell ⟨gb53z,0,none⟩ (.bool t679)).setCell ⟨gb53z,1,none⟩ (.slice Ao80z t680.length co81z)).setCell ⟨gb53z,2,none⟩ (.int .i64 t683)).heap[gb0z]? = some (.cells #[.bool a0_0,.slice A0_1 l0_1.length c0_1,.int .i64 a0_2] 24 (0,0))):=⟨by refine bp ?_;refine Zah ?_ NB71z.out _;refine bp ?_;refine Zah ?_ NB71z.out _;refine bp ?_;refine Zah ?_ NB71z.out _;refine bp ?_;refine Zah ?_ NB61z.out _;refine bp ?_;refine Zah ?_ NB61z.out _;refine bp ?_;refine Zah ?_ NB61z.out _;exact bp BK2z.out⟩
    have n3_:Aside0 (((((((w54z.setCell ⟨gb52z,0,none⟩ (.bool t674)).setCell ⟨gb52z,1,none⟩ (.slice Ao77z t675.length co78z)).setCell ⟨gb52z,2,none⟩ (.int .i64 t678)).setCell ⟨gb53z,0,none⟩ (.bool t679)).setCell ⟨gb53z,1,none⟩ (.slice Ao80z t680.length co81z)).setCell ⟨gb53z,2,none⟩ (.int .i64 t683)).heap[gb5z]? = some (.cells #[.bool a1_0,.slice A1_1 l1_1.length c1_1,.int .i64 a1_2] 24 (0,0))):=⟨by refine bp ?_;refine Zah ?_ NB73z.out _;refine bp ?_;refine Zah ?_ NB73z.out _;refine bp ?_;refine Zah ?_ NB73z.out _;refine bp ?_;refine Zah ?_ NB63z.out _;refine bp ?_;refine Zah ?_ NB63z.out _;refine bp ?_;refine Zah ?_ NB63z.out _;exact bp BK7z.out⟩
    have n4_:Aside0 (((((((w54z.setCell ⟨gb52z,0,none⟩ (.bool t674)).setCell ⟨gb52z,1,none⟩ (.slice Ao77z t675.length co78z)).setCell ⟨gb52z,2,none⟩ (.int .i64 t678)).setCell ⟨gb53z,0,none⟩ (.bool t679)).setCell ⟨gb53z,1,none⟩ (.slice Ao80z t680.length co81z)).setCell ⟨gb53z,2,none⟩ (.int .i64 t683)).heap[gb12z]? = some (.cells #[.bool false,.slice none 0 0,.int .i64 0] 24 (0,0))):=⟨by refine bp ?_;refine Zah ?_ NB75z.out _;refine bp ?_;refine Zah ?_ NB75z.out _;refine bp ?_;refine Zah ?_ NB75z.out _;refine bp ?_;refine Zah ?_ NB65z.out _;refine bp ?_;refine Zah ?_ NB65z.out _;refine bp ?_;refine Zah ?_ NB65z.out _;exact bp BK14z.out⟩
    have n5_:Aside0 (((((((w54z.setCell ⟨gb52z,0,none⟩ (.bool t674)).setCell ⟨gb52z,1,none⟩ (.slice Ao77z t675.length co78z)).setCell ⟨gb52z,2,none⟩ (.int .i64 t678)).setCell ⟨gb53z,0,none⟩ (.bool t679)).setCell ⟨gb53z,1,none⟩ (.slice Ao80z t680.length co81z)).setCell ⟨gb53z,2,none⟩ (.int .i64 t683)).heap[gb52z]? = some (.cells #[.bool t674,.slice Ao77z t675.length co78z,.int .i64 t678] 30 (0,0))):=⟨by refine bp ?_;refine Zah ?_ NB68z.out _;refine bp ?_;refine Zah ?_ NB68z.out _;refine bp ?_;refine Zah ?_ NB68z.out _;exact p3 BK57z⟩
    have n6_:Aside0 (((((((w54z.setCell ⟨gb52z,0,none⟩ (.bool t674)).setCell ⟨gb52z,1,none⟩ (.slice Ao77z t675.length co78z)).setCell ⟨gb52z,2,none⟩ (.int .i64 t678)).setCell ⟨gb53z,0,none⟩ (.bool t679)).setCell ⟨gb53z,1,none⟩ (.slice Ao80z t680.length co81z)).setCell ⟨gb53z,2,none⟩ (.int .i64 t683)).heap[gb53z]? = some (.cells #[.bool t679,.slice Ao80z t680.length co81z,.int .i64 t683] 30 (0,0))):=⟨by refine bp ?_;refine Za6 (cs:=#[.bool t679,.slice Ao80z t680.length co81z,.int .i64 0]) ?_ 2 _ rfl;refine bp ?_;refine Za6 (cs:=#[.bool t679,.slice none 0 0,.int .i64 0]) ?_ 1 _ rfl;refine bp ?_;refine Za6 (cs:=#[.bool false,.slice none 0 0,.int .i64 0]) ?_ 0 _ rfl;refine bp ?_;refine Zah ?_ NB67z.out _;refine bp ?_;refine Zah ?_ NB67z.out _;refine bp ?_;refine Zah ?_ NB67z.out _;exact bp BK58z.out⟩
    have n7_:Aside0 (Below w.heap.size w ((((((w54z.setCell ⟨gb52z,0,none⟩ (.bool t674)).setCell ⟨gb52z,1,none⟩ (.slice Ao77z t675.length co78z)).setCell ⟨gb52z,2,none⟩ (.int .i64 t678)).setCell ⟨gb53z,0,none⟩ (.bool t679)).setCell ⟨gb53z,1,none⟩ (.slice Ao80z t680.length co81z)).setCell ⟨gb53z,2,none⟩ (.int .i64 t683))):=⟨pB⟩
    generalize ((((((w54z.setCell ⟨gb52z,0,none⟩ (.bool t674)).setCell ⟨gb52z,1,none⟩ (.slice Ao77z t675.length co78z)).setCell ⟨gb52z,2,none⟩ (.int .i64 t678)).setCell ⟨gb53z,0,none⟩ (.bool t679)).setCell ⟨gb53z,1,none⟩ (.slice Ao80z t680.length co81z)).setCell ⟨gb53z,2,none⟩ (.int .i64 t683))=w143z at n0_ n1_ n2_ n3_ n4_ n5_ n6_ n7_ ⊢
    have HO55z:=n0_
    have HO56z:=n1_
    have BK2z:=n2_
    have BK7z:=n3_
    have BK14z:=n4_
    have BK57z:=n5_
    have BK58z:=n6_
    have HB:=n7_
    clear n0_ n1_ n2_ n3_ n4_ n5_ n6_ n7_
    replace HO55z:=am (Kd.Zei HO55z.out)
    replace HO56z:=am (Kd.Zei HO56z.out)
    replace BK2z:=am (Zba BK2z.out)
    replace BK7z:=am (Zba BK7z.out)
    replace BK14z:=am (Zba BK14z.out)
    replace BK57z:=am (Zba BK57z.out)
    replace BK58z:=am (Zba BK58z.out)
    replace HB:=am (Zaz HB.out)
    refine start_ (n:=21) (S:=fun w'=>w'.cell? ⟨gb52z,0,none⟩=some (.bool t674)/\w'.cell? ⟨gb52z,1,none⟩=some (.slice Ao77z t675.length co78z)/\w'.cell? ⟨gb52z,2,none⟩=some (.int .i64 t678)/\w'.cell? ⟨gb53z,0,none⟩=some (.bool t679)/\w'.cell? ⟨gb53z,1,none⟩=some (.slice Ao80z t680.length co81z)/\w'.cell? ⟨gb53z,2,none⟩=some (.int .i64 t683)) (ds:=[]) #[false,false,false,false,false,false,false,false,false,false,false,false,false,false,false,false,false,false,false,false,false] (by kernel_rfl) rfl rfl ⟨k0 BK57z 0,k0 BK57z 1,k0 BK57z 2,k0 BK58z 0,k0 BK58z 1,k0 BK58z 2⟩ (fun hHeld=>?_);refine Zcn Zab.tab4 Zab.bits4 (fun HT_ HW_=>?_)
    generalize w143z.drew=w144z at HO55z HO56z BK2z BK7z BK14z BK57z BK58z HB hHeld ⊢
    refine pu 0 (some 17) #[true,false,false,false,false,false,false,false,false,false,false,false,false,false,false,false,false,false,false,false,false] (h:=?_)
    refine pu 2 (some 19) #[true,false,true,false,false,false,false,false,false,false,false,false,false,false,false,false,false,false,false,false,false] (h:=?_)
    refine pu 5 (some 22) #[true,false,true,false,false,true,false,false,false,false,false,false,false,false,false,false,false,false,false,false,false] (h:=?_)
    refine pu 7 (some 24) #[true,false,true,false,false,true,false,true,false,false,false,false,false,false,false,false,false,false,false,false,false] (h:=?_)
    refine pu 10 (some 27) #[true,false,true,false,false,true,false,true,false,false,true,false,false,false,false,false,false,false,false,false,false] (h:=?_)
    refine pu 12 (some 29) #[true,false,true,false,false,true,false,true,false,false,true,false,true,false,false,false,false,false,false,false,false] (h:=?_)
    refine take_ (i:=1) (N:=some 18) (v:=?_) (a':=?_) #[true,true,true,false,false,true,false,true,false,false,true,false,true,false,false,false,false,false,false,false,false] rfl rfl (Zbh HT_.out HW_.out (by kernel_rfl)) (fun _ _ _ h=>h) (Or.inl ⟨by rfl,?_⟩) hHeld ?_ ?_
    rotate_left
    ·rintro w' ⟨s41z,s42z,s43z,s44z,s45z,s46z⟩
     go_simp
     with_reducible rfl
    rotate_left
    ·exact pP
    refine take_ (i:=3) (N:=some 20) (v:=?_) (a':=?_) #[true,true,true,true,false,true,false,true,false,false,true,false,true,false,false,false,false,false,false,false,false] rfl rfl (Zbh HT_.out HW_.out (by kernel_rfl)) (fun _ _ _ h=>h) (Or.inl ⟨by rfl,?_⟩) hHeld ?_ ?_
    rotate_left
    ·rintro w' ⟨s41z,s42z,s43z,s44z,s45z,s46z⟩
     go_simp
     with_reducible rfl
    rotate_left
    ·exact pP
    refine pu 4 (some 21) #[true,true,true,true,true,true,false,true,false,false,true,false,true,false,false,false,false,false,false,false,false] (h:=?_)
    refine take_ (i:=6) (N:=some 23) (v:=?_) (a':=?_) #[true,true,true,true,true,true,true,true,false,false,true,false,true,false,false,false,false,false,false,false,false] rfl rfl (Zbh HT_.out HW_.out (by kernel_rfl)) (fun _ _ _ h=>h) (Or.inl ⟨by rfl,?_⟩) hHeld ?_ ?_
    rotate_left
    ·rintro w' ⟨s41z,s42z,s43z,s44z,s45z,s46z⟩
     go_simp
     with_reducible rfl
    rotate_left
    ·exact pP
    refine take_ (i:=8) (N:=some 25) (v:=?_) (a':=?_) #[true,true,true,true,true,true,true,true,true,false,true,false,true,false,false,false,false,false,false,false,false] rfl rfl (Zbh HT_.out HW_.out (by kernel_rfl)) (fun _ _ _ h=>h) (Or.inl ⟨by rfl,?_⟩) hHeld ?_ ?_
    rotate_left
    ·rintro w' ⟨s41z,s42z,s43z,s44z,s45z,s46z⟩
     go_simp
     with_reducible rfl
    rotate_left
    ·exact pP
    refine take_ (i:=11) (N:=some 28) (v:=?_) (a':=?_) #[true,true,true,true,true,true,true,true,true,false,true,true,true,false,false,false,false,false,false,false,false] rfl rfl (Zbh HT_.out HW_.out (by kernel_rfl)) (fun _ _ _ h=>h) (Or.inl ⟨by rfl,?_⟩) hHeld ?_ ?_
    rotate_left
    ·rintro w' ⟨s41z,s42z,s43z,s44z,s45z,s46z⟩
     go_simp
     with_reducible rfl
    rotate_left
    ·exact pP
    refine take_ (i:=13) (N:=some 30) (v:=?_) (a':=?_) #[true,true,true,true,true,true,true,true,true,false,true,true,true,true,false,false,false,false,false,false,false] rfl rfl (Zbh HT_.out HW_.out (by kernel_rfl)) (fun _ _ _ h=>h) (Or.inl ⟨by rfl,?_⟩) hHeld ?_ ?_
    rotate_left
    ·rintro w' ⟨s41z,s42z,s43z,s44z,s45z,s46z⟩
     go_simp
     with_reducible rfl
    rotate_left
    ·exact pP
    refine pu 14 (some 31) #[true,true,true,true,true,true,true,true,true,false,true,true,true,true,true,false,false,false,false,false,false] (h:=?_)
    refine one_ (i:=9) (N:=some 26) #[true,true,true,true,true,true,true,true,true,true,true,true,true,true,true,false,false,false,false,false,false] rfl rfl (Zbx HT_.out (by kernel_rfl)) (by decide) (fun K hK=>?_)
    refine goes_ Tryz.func65 (by kernel_rfl) rfl #[.slice Ao77z t675.length co78z,.slice Ao80z t680.length co81z] (by rfl) rfl rfl pA ?_
    with_reducible refine (Zj.calls k _ _ t675 _ _ t680 t686 _ ?side1 ?side2 ?side3 ?side4 A7.out).mono ?_
    (case side1=>exact Kd.Zh (Kd.Zd HO55z.out).2.2 pl)
    (case side2=>exact (Kd.Zd HO55z.out).2.1)
    (case side3=>exact Kd.Zh (Kd.Zd HO56z.out).2.2 pl)
    (case side4=>exact (Kd.Zd HO56z.out).2.1)
    rintro e w145z ⟨v146z,rfl,ho49z,hb⟩
    refine ⟨_,rfl,?_⟩
    have HO147z:=am (Kd.Zq (Kd.Zv (Kd.Zv ho49z (Kd.R_lt (Kd.Za HO55z.out pl))) (Kd.R_lt (Kd.Za HO56z.out pl))) (Zb pB))
    replace HO55z:=reR HO55z ho49z hb
    replace HO56z:=reR HO56z ho49z hb
    replace BK2z:=bb BK2z hb
    replace BK7z:=bb BK7z hb
    replace BK14z:=bb BK14z hb
    replace BK57z:=bb BK57z hb
    replace BK58z:=bb BK58z hb
    replace HB:=bS hb
    obtain ⟨Ao148z,co149z,eo150z⟩:=Kd.Zm HO147z.out
    (first|subst eo150z|(injection eo150z with f1_ f2_ f3_;have f4_:=f1_.symm;have f5_:=f3_.symm;clear f1_ f2_ f3_;subst f4_;subst f5_))
    refine hK.out _ _ ⟨k0 BK57z 0,k0 BK57z 1,k0 BK57z 2,k0 BK58z 0,k0 BK58z 1,k0 BK58z 2⟩ (fun hHeld=>?_)
    clear hK K
    refine norm_ (a':=?_) ?_ ?_
    rotate_left
    ·show Act.put _ (some 26) _=_
     exact pP
    refine pu 15 (some 32) #[true,true,true,true,true,true,true,true,true,true,true,true,true,true,true,true,false,false,false,false,false] (h:=?_)
    refine one_ (i:=16) (N:=some 33) #[true,true,true,true,true,true,true,true,true,true,true,true,true,true,true,true,true,false,false,false,false] rfl rfl (Zbx HT_.out (by kernel_rfl)) (by decide) (fun K hK=>?_)
    refine goes_ Tryz.func23 (by kernel_rfl) rfl #[.agg #[.bool (t674 != t679),.slice Ao148z t686.length co149z,.int .i64 (wrap64 (t678 + t683))]] (by rfl) rfl rfl pA ?_
    with_reducible refine (Zo.calls k (t674 != t679) (fun k_=>some k_=(.slice Ao148z t686.length co149z:Value).ownBlock) (.slice Ao148z t686.length co149z) t686 (wrap64 (t678 + t683)) t689 t690 t693 t694 w _ ?side1 ?side2 A8.out).mono ?_
    (case side1=>exact pB)
    (case side2=>exact Kd.Zbr rfl HO147z.out)
    rintro e w151z ⟨v152z,rfl,ho49z,hb,hkp⟩
    refine ⟨_,rfl,?_⟩
    have HO153z:=am (Kd.Zi (ok':=fun k_=>True) ho49z (fun k_ hk_=>trivial))
    replace BK2z:=am (Za2 (Zc BK2z.out pl) hkp (fun e_=>Kd.R_ne HO147z.out BK2z.out (by decide) e_))
    replace BK7z:=am (Za2 (Zc BK7z.out pl) hkp (fun e_=>Kd.R_ne HO147z.out BK7z.out (by decide) e_))
    replace BK14z:=am (Za2 (Zc BK14z.out pl) hkp (fun e_=>Kd.R_ne HO147z.out BK14z.out (by decide) e_))
    replace HO55z:=am (Kd.Zi (ok':=fun k_=>some k_ ≠ (.slice Ao80z t680.length co81z:Value).ownBlock) (Kd.Zcl (HO55z.out) hkp (fun k_ hk_ hs_=>(hk_.2) hs_)) (fun k_ hk_=>hk_.1.1))
    replace HO56z:=am (Kd.Zi (ok':=fun k_=>some k_ ≠ (.slice Ao77z t675.length co78z:Value).ownBlock) (Kd.Zcl (HO56z.out) hkp (fun k_ hk_ hs_=>(hk_.2) hs_)) (fun k_ hk_=>hk_.1.1))
    replace BK57z:=am (Za2 (Zc BK57z.out pl) hkp (fun e_=>Kd.R_ne HO147z.out BK57z.out (by decide) e_))
    replace BK58z:=am (Za2 (Zc BK58z.out pl) hkp (fun e_=>Kd.R_ne HO147z.out BK58z.out (by decide) e_))
    replace HB:=am hb
    clear HO147z
    obtain ⟨Ao154z,co155z,eo156z⟩:=Kd.Zm HO153z.out
    (first|subst eo156z|(injection eo156z with f1_ f2_ f3_;have f4_:=f1_.symm;have f5_:=f3_.symm;clear f1_ f2_ f3_;subst f4_;subst f5_))
    refine hK.out _ _ ⟨k0 BK57z 0,k0 BK57z 1,k0 BK57z 2,k0 BK58z 0,k0 BK58z 1,k0 BK58z 2⟩ (fun hHeld=>?_)
    clear hK K
    refine norm_ (a':=?_) ?_ ?_
    rotate_left
    ·show Act.put _ (some 33) _=_
     exact pP
    refine pu 17 (some 34) #[true,true,true,true,true,true,true,true,true,true,true,true,true,true,true,true,true,true,false,false,false] (h:=?_)
    refine pu 18 (some 35) #[true,true,true,true,true,true,true,true,true,true,true,true,true,true,true,true,true,true,true,false,false] (h:=?_)
    refine one_ (i:=19) (N:=none) #[true,true,true,true,true,true,true,true,true,true,true,true,true,true,true,true,true,true,true,true,false] rfl rfl (Zbx HT_.out (by kernel_rfl)) (by decide) (fun K hK=>?_)
    have hs157z:w151z.cell? ⟨gb12z,0,none⟩=some (.bool false):=k0 BK14z 0
    have hfs158z:=Zav BK14z.out 0
    have hns159z:=NB17z.out
    have hns160z:=NB19z.out
    have hns161z:=NB66z.out
    have hns162z:=NB76z.out
    have hms163z:=NB18z.out
    have hms164z:=NB20z.out
    have hms165z:=NB65z.out
    have hms166z:=NB75z.out
    have hs167z:w151z.cell? ⟨gb12z,1,none⟩=some (.slice none 0 0):=k0 BK14z 1
    have hfs168z:=Zav BK14z.out 1
    have hns169z:=NB17z.out
    have hns170z:=NB19z.out
    have hns171z:=NB66z.out
    have hns172z:=NB76z.out
    have hms173z:=NB18z.out
    have hms174z:=NB20z.out
    have hms175z:=NB65z.out
    have hms176z:=NB75z.out
    have hs177z:w151z.cell? ⟨gb12z,2,none⟩=some (.int .i64 0):=k0 BK14z 2
    have hfs178z:=Zav BK14z.out 2
    have hns179z:=NB17z.out
    have hns180z:=NB19z.out
    have hns181z:=NB66z.out
    have hns182z:=NB76z.out
    have hms183z:=NB18z.out
    have hms184z:=NB20z.out
    have hms185z:=NB65z.out
    have hms186z:=NB75z.out
    refine skip_ (w1:=?_) (by rfl) rfl ?_ ?_
    rotate_left
    ·go_simp
     rfl
    refine hK.out _ _ ⟨((cell_far (p:=⟨gb12z,_,none⟩) NB66z.out _).trans (((cell_far (p:=⟨gb12z,_,none⟩) NB66z.out _).trans (((cell_far (p:=⟨gb12z,_,none⟩) NB66z.out _).trans (hHeld.1)))))),((cell_far (p:=⟨gb12z,_,none⟩) NB66z.out _).trans (((cell_far (p:=⟨gb12z,_,none⟩) NB66z.out _).trans (((cell_far (p:=⟨gb12z,_,none⟩) NB66z.out _).trans (hHeld.2.1)))))),((cell_far (p:=⟨gb12z,_,none⟩) NB66z.out _).trans (((cell_far (p:=⟨gb12z,_,none⟩) NB66z.out _).trans (((cell_far (p:=⟨gb12z,_,none⟩) NB66z.out _).trans (hHeld.2.2.1)))))),((cell_far (p:=⟨gb12z,_,none⟩) NB76z.out _).trans (((cell_far (p:=⟨gb12z,_,none⟩) NB76z.out _).trans (((cell_far (p:=⟨gb12z,_,none⟩) NB76z.out _).trans (hHeld.2.2.2.1)))))),((cell_far (p:=⟨gb12z,_,none⟩) NB76z.out _).trans (((cell_far (p:=⟨gb12z,_,none⟩) NB76z.out _).trans (((cell_far (p:=⟨gb12z,_,none⟩) NB76z.out _).trans (hHeld.2.2.2.2.1)))))),((cell_far (p:=⟨gb12z,_,none⟩) NB76z.out _).trans (((cell_far (p:=⟨gb12z,_,none⟩) NB76z.out _).trans (((cell_far (p:=⟨gb12z,_,none⟩) NB76z.out _).trans (hHeld.2.2.2.2.2))))))⟩ (fun hHeld=>?_)
    clear hK K
    refine pu 20 (some 5) #[true,true,true,true,true,true,true,true,true,true,true,true,true,true,true,true,true,true,true,true,true] (h:=?_)
    refine done_ (Zdl HT_.out (by kernel_rfl)) ?_
    try go_wp2
    refine bodyPost_ret (Za8 rfl _ _ gb12z 24 #[.bool t689,.slice Ao154z t690.length co155z,.int .i64 t693] (0,0) _ rfl (by exact p3 BK14z) Tryz.underlying24 rfl (by kernel_rfl)) rfl ?_
    exact ⟨_,pE,by refine rp ?_;exact Kd.Zi (Kd.Zn (p:=⟨gb12z,2,none⟩) (Kd.Zn (p:=⟨gb12z,1,none⟩) (Kd.Zn (p:=⟨gb12z,0,none⟩) (Kd.Zu HO153z.out BK14z.out (by decide)) (fun _ hk=>hk.2) (.bool t689)) (fun _ hk=>hk.2) (.slice Ao154z t690.length co155z)) (fun _ hk=>hk.2) (.int .i64 t693)) (fun _ hk=>trivial),pB⟩
  | refine bodyPost_ret (Za8 rfl _ _ gb12z 24 #[.bool false,.slice none 0 0,.int .i64 0] (0,0) _ rfl (by exact p3 BK14z) Tryz.underlying24 rfl (by kernel_rfl)) rfl ?_
    exact ⟨_,pE,pN,pB⟩):P:=h
theorem Zab.calls (k:Nat) (a0_0:Bool) (A0_1:Option Addr) (c0_1:Nat) (l0_1:List Int) (a0_2:Int) (a1_0:Bool) (A1_1:Option Addr) (c1_1:Nat) (l1_1:List Int) (a1_2:Int) (r1:Bool) (r2:List Int) (r3:Int) (r4:Int) (w:World) (hr0_1:Kd.C (Kd.int .u32) w A0_1 l0_1.length l0_1) (hc0_1:l0_1.length<=c0_1) (hr1_1:Kd.C (Kd.int .u32) w A1_1 l1_1.length l1_1) (hc1_1:l1_1.length<=c1_1) (h:Zab.f k a0_0 l0_1 a0_2 a1_0 l1_1 a1_2=some (r1,r2,r3,r4)) :
  Calls Tryz.prog 17 #[.agg #[.bool a0_0,.slice A0_1 l0_1.length c0_1,.int .i64 a0_2],.agg #[.bool a1_0,.slice A1_1 l1_1.length c1_1,.int .i64 a1_2]] w fun e w' => ∃ v1_:Value,e=.returned (.tuple #[.agg #[.bool r1,v1_,.int .i64 r3],.int .i64 r4])/\Kd.R (Kd.int .u32) 85 w' w.heap.size (fun _=>True) v1_ r2/\Below w.heap.size w w':=by
 have hu24:=Tryz.underlying24
 have hu30:=Tryz.underlying30
 have HR0_1:=am hr0_1
 have HC0_1:=am hc0_1
 clear hr0_1 hc0_1
 have HR1_1:=am hr1_1
 have HC1_1:=am hc1_1
 clear hr1_1 hc1_1
 have HB:=am (Below.refl w.heap.size w)
 have H:((Za3.f k a0_0 l0_1 a0_2 a1_0 l1_1 a1_2).bind fun t673=>(if t673=0 then ((Zp.f k a0_0 l0_1 a0_2).bind fun bt674=>((Zp.f k a1_0 l1_1 a1_2).bind fun bt679=>((Zj.f k bt674.2.1 bt679.2.1).bind fun t686=>((Zo.f k (bt674.1 != bt679.1) t686 (wrap64 (bt674.2.2 + bt679.2.2))).bind fun bt689=>(some (bt689.1,bt689.2.1,bt689.2.2.1,bt689.2.2.2)))))) else (some (false,([]:List Int),0,9))))=some (r1,r2,r3,r4):=h
 clear h
 obtain ⟨t673,A3,H⟩:=ob H
 by_cases c4:t673=0
 ·rw [if_pos c4] at H
  have c4b0:(t673 == 0)=true:=beq_iff_eq.mpr c4
  have c4b1:(t673 != 0)=false:=bne_eq_false_iff_eq.mpr c4
  clear c4
  obtain ⟨⟨t674,t675,t678⟩,A5,H⟩:=ob H;(try dsimp only at H)
  obtain ⟨⟨t679,t680,t683⟩,A6,H⟩:=ob H;(try dsimp only at H)
  obtain ⟨t686,A7,H⟩:=ob H
  obtain ⟨⟨t689,t690,t693,t694⟩,A8,H⟩:=ob H;(try dsimp only at H)
  simp only [Option.some.injEq,Prod.mk.injEq] at H
  obtain ⟨rfl,rfl,rfl,rfl⟩:=H
  exact Zab.leaf
 ·rw [if_neg c4] at H
  have c4b0:(t673 == 0)=false:=beq_eq_false_iff_ne.mpr c4
  have c4b1:(t673 != 0)=true:=bne_iff_ne.mpr c4
  simp only [Option.some.injEq,Prod.mk.injEq] at H
  obtain ⟨rfl,rfl,rfl,rfl⟩:=H
  exact Zab.leaf
def Zau.f (k:Nat) (a0_0:Bool) (l0_1:List Int) (a0_2:Int) (a1_0:Bool) (l1_1:List Int) (a1_2:Int):Option (Bool × List Int × Int × Int):=(Za3.f k a0_0 l0_1 a0_2 a1_0 l1_1 a1_2).bind fun t940=>(if t940=0 then ((Zp.f k a0_0 l0_1 a0_2).bind fun bt941=>((Zp.f k a1_0 l1_1 a1_2).bind fun bt946=>((Zaf.f k bt941.1 bt941.2.1 bt941.2.2 bt946.1 bt946.2.1 bt946.2.2).bind fun bt951=>((Zo.f k bt951.1 bt951.2.1 bt951.2.2).bind fun bt956=>(some (bt956.1,bt956.2.1,bt956.2.2.1,bt956.2.2.2)))))) else (some (false,([]:List Int),0,9)))
def Zau.T3:Bool × List (List Nat × List Nat):=(true,[([],[]),([0],[0]),([],[]),([2,1],[2]),([1,3,3],[1,3]),([4,4],[4]),([5],[5]),([5],[5]),([6,5,0,1,2,3,4,5,6,7],[6]),([7,8,0,1,2,3,4,5,6,7,8],[7])])
def Zau.B3:List Nat:=[0,1,0,7,15,31,63,63,255,511]
theorem Zau.tab3:rtab .any (opsOf Tryz.f27 3)=Zau.T3:=by kernel_rfl
theorem Zau.bits3:waitsOk Zau.T3.2 Zau.B3=true:=by kernel_rfl
theorem Zau.leaf {P:Prop} (h:P:=by
 go_enter Tryz.func27,Tryz.ntmps27
 try go_wp2_with (first|((with_reducible refine gd 2 ?_);refine bx 2 #[.bool a0_0,.slice A0_1 l0_1.length c0_1,.int .i64 a0_2] 24 (h:=?_);intro gb0z hg w1z hbox hb;have BK2z:=am hbox;have GW3z:=gW hg;have GE4z:=gW hg;replace HB:=bS hb;clear hb hbox hg)|((with_reducible refine gd 3 ?_);refine bx 3 #[.bool a1_0,.slice A1_1 l1_1.length c1_1,.int .i64 a1_2] 24 (h:=?_);intro gb5z hg w6z hbox hb;have BK7z:=am hbox;have GW8z:=gW hg;have GE9z:=gW hg;have NB10z:=nL hg BK2z;have NB11z:=nG hg BK2z;replace BK2z:=bb BK2z hb;replace HB:=bS hb;clear hb hbox hg)|((with_reducible refine gd 4 ?_);refine bx 4 #[.bool false,.slice none 0 0,.int .i64 0] 24 (h:=?_);intro gb12z hg w13z hbox hb;have BK14z:=am hbox;have GW15z:=gW hg;have GE16z:=gW hg;have NB17z:=nL hg BK2z;have NB18z:=nG hg BK2z;have NB19z:=nL hg BK7z;have NB20z:=nG hg BK7z;replace BK2z:=bb BK2z hb;replace BK7z:=bb BK7z hb;replace HB:=bS hb;clear hb hbox hg;have hnb21z:=NB10z.out;have hnc22z:=NB11z.out;have hnb23z:=NB17z.out;have hnc24z:=NB18z.out;obtain ⟨hcz25z,hcz26z,hcz27z,hfz28z,hfz29z,hfz30z⟩:=cEc BK2z.out;have hnb31z:=NB19z.out;have hnc32z:=NB20z.out;obtain ⟨hcz33z,hcz34z,hcz35z,hfz36z,hfz37z,hfz38z⟩:=cEc BK7z.out)|((have q_:=A8;clear q_);refine gL (some 8) Tryz.func64 #[.agg #[.bool a0_0,.slice A0_1 l0_1.length c0_1,.int .i64 a0_2],.agg #[.bool a1_0,.slice A1_1 l1_1.length c1_1,.int .i64 a1_2]] (h:=?_);(with_reducible refine (Za3.calls k a0_0 _ _ l0_1 a0_2 a1_0 _ _ l1_1 a1_2 t940 _ ?side1 ?side2 ?side3 ?side4 A3.out).mono ?_);(case side1=>refine cp ?_;exact (Kd.Zh HR0_1.out HB.out));(case side2=>exact HC0_1.out);(case side3=>refine cp ?_;exact (Kd.Zh HR1_1.out HB.out));(case side4=>exact HC1_1.out);rintro e w39z ⟨rfl,hb⟩;refine ⟨_,rfl,?_⟩;replace BK2z:=bb BK2z hb;replace BK7z:=bb BK7z hb;replace BK14z:=bb BK14z hb;replace HB:=bS hb)|((have q_:(t940 != 0)=true:=c4b1;clear q_);refine gL (some 8) Tryz.func64 #[.agg #[.bool a0_0,.slice A0_1 l0_1.length c0_1,.int .i64 a0_2],.agg #[.bool a1_0,.slice A1_1 l1_1.length c1_1,.int .i64 a1_2]] (h:=?_);(with_reducible refine (Za3.calls k a0_0 _ _ l0_1 a0_2 a1_0 _ _ l1_1 a1_2 t940 _ ?side1 ?side2 ?side3 ?side4 A3.out).mono ?_);(case side1=>refine cp ?_;exact (Kd.Zh HR0_1.out HB.out));(case side2=>exact HC0_1.out);(case side3=>refine cp ?_;exact (Kd.Zh HR1_1.out HB.out));(case side4=>exact HC1_1.out);rintro e w39z ⟨rfl,hb⟩;refine ⟨_,rfl,?_⟩;replace BK2z:=bb BK2z hb;replace BK7z:=bb BK7z hb;replace BK14z:=bb BK14z hb;replace HB:=bS hb;obtain ⟨hcz40z,hcz41z,hcz42z,hfz43z,hfz44z,hfz45z⟩:=cEc BK14z.out))
 first
  | have q_:=A8
    replace BK2z:=am (Zba BK2z.out)
    replace BK7z:=am (Zba BK7z.out)
    replace BK14z:=am (Zba BK14z.out)
    replace HB:=am (Zaz HB.out)
    refine start_ (n:=10) (S:=fun w'=>w'.cell? ⟨gb0z,0,none⟩=some (.bool a0_0)/\w'.cell? ⟨gb0z,1,none⟩=some (.slice A0_1 l0_1.length c0_1)/\w'.cell? ⟨gb0z,2,none⟩=some (.int .i64 a0_2)/\w'.cell? ⟨gb5z,0,none⟩=some (.bool a1_0)/\w'.cell? ⟨gb5z,1,none⟩=some (.slice A1_1 l1_1.length c1_1)/\w'.cell? ⟨gb5z,2,none⟩=some (.int .i64 a1_2)) (ds:=[]) #[false,false,false,false,false,false,false,false,false,false] (by kernel_rfl) rfl rfl ⟨k0 BK2z 0,k0 BK2z 1,k0 BK2z 2,k0 BK7z 0,k0 BK7z 1,k0 BK7z 2⟩ (fun hHeld=>?_);refine Zcn Zau.tab3 Zau.bits3 (fun HT_ HW_=>?_)
    generalize w39z.drew=w40z at BK2z BK7z BK14z HB hHeld ⊢
    refine take_ (i:=0) (N:=some 11) (v:=?_) (a':=?_) #[true,false,false,false,false,false,false,false,false,false] rfl rfl (Zbh HT_.out HW_.out (by kernel_rfl)) (fun _ _ _ h=>h) (Or.inl ⟨by rfl,?_⟩) hHeld ?_ ?_
    rotate_left
    ·rintro w' ⟨s41z,s42z,s43z,s44z,s45z,s46z⟩
     go_simp
     with_reducible rfl
    rotate_left
    ·exact pP
    refine take_ (i:=2) (N:=some 13) (v:=?_) (a':=?_) #[true,false,true,false,false,false,false,false,false,false] rfl rfl (Zbh HT_.out HW_.out (by kernel_rfl)) (fun _ _ _ h=>h) (Or.inl ⟨by rfl,?_⟩) hHeld ?_ ?_
    rotate_left
    ·rintro w' ⟨s41z,s42z,s43z,s44z,s45z,s46z⟩
     go_simp
     with_reducible rfl
    rotate_left
    ·exact pP
    refine one_ (i:=1) (N:=some 12) #[true,true,true,false,false,false,false,false,false,false] rfl rfl (Zbx HT_.out (by kernel_rfl)) (by decide) (fun K hK=>?_)
    refine goes_ Tryz.func18 (by kernel_rfl) rfl #[.agg #[.bool a0_0,.slice A0_1 l0_1.length c0_1,.int .i64 a0_2]] (by rfl) rfl rfl pA ?_
    with_reducible refine (Zp.calls k a0_0 _ _ l0_1 a0_2 t941 t942 t945 _ ?side1 ?side2 A5.out).mono ?_
    (case side1=>refine cp ?_;exact (Kd.Zh HR0_1.out HB.out))
    (case side2=>exact HC0_1.out)
    rintro e w47z ⟨v48z,rfl,ho49z,hb⟩
    refine ⟨_,rfl,?_⟩
    have HO50z:=am (Kd.Zq ho49z (Zb pB))
    replace BK2z:=bb BK2z hb
    replace BK7z:=bb BK7z hb
    replace BK14z:=bb BK14z hb
    replace HB:=bS hb
    refine hK.out _ _ ⟨k0 BK2z 0,k0 BK2z 1,k0 BK2z 2,k0 BK7z 0,k0 BK7z 1,k0 BK7z 2⟩ (fun hHeld=>?_)
    clear hK K
    refine norm_ (a':=?_) ?_ ?_
    rotate_left
    ·show Act.put _ (some 12) _=_
     exact pP
    refine one_ (i:=3) (N:=some 14) #[true,true,true,true,false,false,false,false,false,false] rfl rfl (Zbx HT_.out (by kernel_rfl)) (by decide) (fun K hK=>?_)
    refine goes_ Tryz.func18 (by kernel_rfl) rfl #[.agg #[.bool a1_0,.slice A1_1 l1_1.length c1_1,.int .i64 a1_2]] (by rfl) rfl rfl pA ?_
    with_reducible refine (Zp.calls k a1_0 _ _ l1_1 a1_2 t946 t947 t950 _ ?side1 ?side2 A6.out).mono ?_
    (case side1=>refine cp ?_;exact (Kd.Zh HR1_1.out HB.out))
    (case side2=>exact HC1_1.out)
    rintro e w51z ⟨v52z,rfl,ho49z,hb⟩
    refine ⟨_,rfl,?_⟩
    have HO53z:=am (Kd.Zq (Kd.Zv ho49z (Kd.R_lt (Kd.Za HO50z.out pl))) (Zb pB))
    replace HO50z:=reR HO50z ho49z hb
    replace BK2z:=bb BK2z hb
    replace BK7z:=bb BK7z hb
    replace BK14z:=bb BK14z hb
    replace HB:=bS hb
    obtain ⟨Ao54z,co55z,eo56z⟩:=Kd.Zm HO50z.out
    (first|subst eo56z|(injection eo56z with f1_ f2_ f3_;have f4_:=f1_.symm;have f5_:=f3_.symm;clear f1_ f2_ f3_;subst f4_;subst f5_))
    obtain ⟨Ao57z,co58z,eo59z⟩:=Kd.Zm HO53z.out
    (first|subst eo59z|(injection eo59z with f1_ f2_ f3_;have f4_:=f1_.symm;have f5_:=f3_.symm;clear f1_ f2_ f3_;subst f4_;subst f5_))
    refine hK.out _ _ ⟨k0 BK2z 0,k0 BK2z 1,k0 BK2z 2,k0 BK7z 0,k0 BK7z 1,k0 BK7z 2⟩ (fun hHeld=>?_)
    clear hK K
    refine norm_ (a':=?_) ?_ ?_
    rotate_left
    ·show Act.put _ (some 14) _=_
     exact pP
    refine one_ (i:=4) (N:=some 15) #[true,true,true,true,true,false,false,false,false,false] rfl rfl (Zbx HT_.out (by kernel_rfl)) (by decide) (fun K hK=>?_)
    refine goes_ Tryz.func77 (by kernel_rfl) rfl #[.agg #[.bool t941,.slice Ao54z t942.length co55z,.int .i64 t945],.agg #[.bool t946,.slice Ao57z t947.length co58z,.int .i64 t950]] (by rfl) rfl rfl pA ?_
    with_reducible refine (Zaf.calls k t941 _ _ t942 t945 t946 _ _ t947 t950 t951 t952 t955 _ ?side1 ?side2 ?side3 ?side4 A7.out).mono ?_
    (case side1=>exact Kd.Zh (Kd.Zd HO50z.out).2.2 pl)
    (case side2=>exact (Kd.Zd HO50z.out).2.1)
    (case side3=>exact Kd.Zh (Kd.Zd HO53z.out).2.2 pl)
    (case side4=>exact (Kd.Zd HO53z.out).2.1)
    rintro e w60z ⟨v61z,rfl,ho49z,hb⟩
    refine ⟨_,rfl,?_⟩
    have HO62z:=am (Kd.Zq (Kd.Zv (Kd.Zv ho49z (Kd.R_lt (Kd.Za HO50z.out pl))) (Kd.R_lt (Kd.Za HO53z.out pl))) (Zb pB))
    replace HO50z:=reR HO50z ho49z hb
    replace HO53z:=reR HO53z ho49z hb
    replace BK2z:=bb BK2z hb
    replace BK7z:=bb BK7z hb
    replace BK14z:=bb BK14z hb
    replace HB:=bS hb
    obtain ⟨Ao63z,co64z,eo65z⟩:=Kd.Zm HO62z.out
    (first|subst eo65z|(injection eo65z with f1_ f2_ f3_;have f4_:=f1_.symm;have f5_:=f3_.symm;clear f1_ f2_ f3_;subst f4_;subst f5_))
    refine hK.out _ _ ⟨k0 BK2z 0,k0 BK2z 1,k0 BK2z 2,k0 BK7z 0,k0 BK7z 1,k0 BK7z 2⟩ (fun hHeld=>?_)
    clear hK K
    refine norm_ (a':=?_) ?_ ?_
    rotate_left
    ·show Act.put _ (some 15) _=_
     exact pP
    refine one_ (i:=5) (N:=some 16) #[true,true,true,true,true,true,false,false,false,false] rfl rfl (Zbx HT_.out (by kernel_rfl)) (by decide) (fun K hK=>?_)
    refine goes_ Tryz.func23 (by kernel_rfl) rfl #[.agg #[.bool t951,.slice Ao63z t952.length co64z,.int .i64 t955]] (by rfl) rfl rfl pA ?_
    with_reducible refine (Zo.calls k t951 (fun k_=>some k_=(.slice Ao63z t952.length co64z:Value).ownBlock) (.slice Ao63z t952.length co64z) t952 t955 t956 t957 t960 t961 w _ ?side1 ?side2 A8.out).mono ?_
    (case side1=>exact pB)
    (case side2=>exact Kd.Zbr rfl HO62z.out)
    rintro e w66z ⟨v67z,rfl,ho49z,hb,hkp⟩
    refine ⟨_,rfl,?_⟩
    have HO68z:=am (Kd.Zi (ok':=fun k_=>True) ho49z (fun k_ hk_=>trivial))
    replace BK2z:=am (Za2 (Zc BK2z.out pl) hkp (fun e_=>Kd.R_ne HO62z.out BK2z.out (by decide) e_))
    replace BK7z:=am (Za2 (Zc BK7z.out pl) hkp (fun e_=>Kd.R_ne HO62z.out BK7z.out (by decide) e_))
    replace BK14z:=am (Za2 (Zc BK14z.out pl) hkp (fun e_=>Kd.R_ne HO62z.out BK14z.out (by decide) e_))
    replace HO50z:=am (Kd.Zi (ok':=fun k_=>some k_ ≠ (.slice Ao57z t947.length co58z:Value).ownBlock) (Kd.Zcl (HO50z.out) hkp (fun k_ hk_ hs_=>(hk_.2) hs_)) (fun k_ hk_=>hk_.1.1.2))
    replace HO53z:=am (Kd.Zi (ok':=fun k_=>some k_ ≠ (.slice Ao54z t942.length co55z:Value).ownBlock) (Kd.Zcl (HO53z.out) hkp (fun k_ hk_ hs_=>(hk_.2) hs_)) (fun k_ hk_=>hk_.1.1.2))
    replace HB:=am hb
    clear HO62z
    obtain ⟨Ao69z,co70z,eo71z⟩:=Kd.Zm HO68z.out
    (first|subst eo71z|(injection eo71z with f1_ f2_ f3_;have f4_:=f1_.symm;have f5_:=f3_.symm;clear f1_ f2_ f3_;subst f4_;subst f5_))
    refine hK.out _ _ ⟨k0 BK2z 0,k0 BK2z 1,k0 BK2z 2,k0 BK7z 0,k0 BK7z 1,k0 BK7z 2⟩ (fun hHeld=>?_)
    clear hK K
    refine norm_ (a':=?_) ?_ ?_
    rotate_left
    ·show Act.put _ (some 16) _=_
     exact pP
    refine pu 6 (some 17) #[true,true,true,true,true,true,true,false,false,false] (h:=?_)
    refine pu 7 (some 18) #[true,true,true,true,true,true,true,true,false,false] (h:=?_)
    refine one_ (i:=8) (N:=none) #[true,true,true,true,true,true,true,true,true,false] rfl rfl (Zbx HT_.out (by kernel_rfl)) (by decide) (fun K hK=>?_)
    have hs72z:w66z.cell? ⟨gb12z,0,none⟩=some (.bool false):=k0 BK14z 0
    have hfs73z:=Zav BK14z.out 0
    have hns74z:=NB17z.out
    have hns75z:=NB19z.out
    have hms76z:=NB18z.out
    have hms77z:=NB20z.out
    have hs78z:w66z.cell? ⟨gb12z,1,none⟩=some (.slice none 0 0):=k0 BK14z 1
    have hfs79z:=Zav BK14z.out 1
    have hns80z:=NB17z.out
    have hns81z:=NB19z.out
    have hms82z:=NB18z.out
    have hms83z:=NB20z.out
    have hs84z:w66z.cell? ⟨gb12z,2,none⟩=some (.int .i64 0):=k0 BK14z 2
    have hfs85z:=Zav BK14z.out 2
    have hns86z:=NB17z.out
    have hns87z:=NB19z.out
    have hms88z:=NB18z.out
    have hms89z:=NB20z.out
    refine skip_ (w1:=?_) (by rfl) rfl ?_ ?_
    rotate_left
    ·go_simp
     rfl
    refine hK.out _ _ ⟨((cell_far (p:=⟨gb12z,_,none⟩) NB17z.out _).trans (((cell_far (p:=⟨gb12z,_,none⟩) NB17z.out _).trans (((cell_far (p:=⟨gb12z,_,none⟩) NB17z.out _).trans (hHeld.1)))))),((cell_far (p:=⟨gb12z,_,none⟩) NB17z.out _).trans (((cell_far (p:=⟨gb12z,_,none⟩) NB17z.out _).trans (((cell_far (p:=⟨gb12z,_,none⟩) NB17z.out _).trans (hHeld.2.1)))))),((cell_far (p:=⟨gb12z,_,none⟩) NB17z.out _).trans (((cell_far (p:=⟨gb12z,_,none⟩) NB17z.out _).trans (((cell_far (p:=⟨gb12z,_,none⟩) NB17z.out _).trans (hHeld.2.2.1)))))),((cell_far (p:=⟨gb12z,_,none⟩) NB19z.out _).trans (((cell_far (p:=⟨gb12z,_,none⟩) NB19z.out _).trans (((cell_far (p:=⟨gb12z,_,none⟩) NB19z.out _).trans (hHeld.2.2.2.1)))))),((cell_far (p:=⟨gb12z,_,none⟩) NB19z.out _).trans (((cell_far (p:=⟨gb12z,_,none⟩) NB19z.out _).trans (((cell_far (p:=⟨gb12z,_,none⟩) NB19z.out _).trans (hHeld.2.2.2.2.1)))))),((cell_far (p:=⟨gb12z,_,none⟩) NB19z.out _).trans (((cell_far (p:=⟨gb12z,_,none⟩) NB19z.out _).trans (((cell_far (p:=⟨gb12z,_,none⟩) NB19z.out _).trans (hHeld.2.2.2.2.2))))))⟩ (fun hHeld=>?_)
    clear hK K
    refine pu 9 (some 5) #[true,true,true,true,true,true,true,true,true,true] (h:=?_)
    refine done_ (Zdl HT_.out (by kernel_rfl)) ?_
    try go_wp2
    refine bodyPost_ret (Za8 rfl _ _ gb12z 24 #[.bool t956,.slice Ao69z t957.length co70z,.int .i64 t960] (0,0) _ rfl (by exact p3 BK14z) Tryz.underlying24 rfl (by kernel_rfl)) rfl ?_
    exact ⟨_,pE,by refine rp ?_;exact Kd.Zi (Kd.Zn (p:=⟨gb12z,2,none⟩) (Kd.Zn (p:=⟨gb12z,1,none⟩) (Kd.Zn (p:=⟨gb12z,0,none⟩) (Kd.Zu HO68z.out BK14z.out (by decide)) (fun _ hk=>hk.2) (.bool t956)) (fun _ hk=>hk.2) (.slice Ao69z t957.length co70z)) (fun _ hk=>hk.2) (.int .i64 t960)) (fun _ hk=>trivial),pB⟩
  | refine bodyPost_ret (Za8 rfl _ _ gb12z 24 #[.bool false,.slice none 0 0,.int .i64 0] (0,0) _ rfl (by exact p3 BK14z) Tryz.underlying24 rfl (by kernel_rfl)) rfl ?_
    exact ⟨_,pE,pN,pB⟩):P:=h
theorem Zau.calls (k:Nat) (a0_0:Bool) (A0_1:Option Addr) (c0_1:Nat) (l0_1:List Int) (a0_2:Int) (a1_0:Bool) (A1_1:Option Addr) (c1_1:Nat) (l1_1:List Int) (a1_2:Int) (r1:Bool) (r2:List Int) (r3:Int) (r4:Int) (w:World) (hr0_1:Kd.C (Kd.int .u32) w A0_1 l0_1.length l0_1) (hc0_1:l0_1.length<=c0_1) (hr1_1:Kd.C (Kd.int .u32) w A1_1 l1_1.length l1_1) (hc1_1:l1_1.length<=c1_1) (h:Zau.f k a0_0 l0_1 a0_2 a1_0 l1_1 a1_2=some (r1,r2,r3,r4)) :
  Calls Tryz.prog 27 #[.agg #[.bool a0_0,.slice A0_1 l0_1.length c0_1,.int .i64 a0_2],.agg #[.bool a1_0,.slice A1_1 l1_1.length c1_1,.int .i64 a1_2]] w fun e w' => ∃ v1_:Value,e=.returned (.tuple #[.agg #[.bool r1,v1_,.int .i64 r3],.int .i64 r4])/\Kd.R (Kd.int .u32) 85 w' w.heap.size (fun _=>True) v1_ r2/\Below w.heap.size w w':=by
 have hu24:=Tryz.underlying24
 have HR0_1:=am hr0_1
 have HC0_1:=am hc0_1
 clear hr0_1 hc0_1
 have HR1_1:=am hr1_1
 have HC1_1:=am hc1_1
 clear hr1_1 hc1_1
 have HB:=am (Below.refl w.heap.size w)
 have H:((Za3.f k a0_0 l0_1 a0_2 a1_0 l1_1 a1_2).bind fun t940=>(if t940=0 then ((Zp.f k a0_0 l0_1 a0_2).bind fun bt941=>((Zp.f k a1_0 l1_1 a1_2).bind fun bt946=>((Zaf.f k bt941.1 bt941.2.1 bt941.2.2 bt946.1 bt946.2.1 bt946.2.2).bind fun bt951=>((Zo.f k bt951.1 bt951.2.1 bt951.2.2).bind fun bt956=>(some (bt956.1,bt956.2.1,bt956.2.2.1,bt956.2.2.2)))))) else (some (false,([]:List Int),0,9))))=some (r1,r2,r3,r4):=h
 clear h
 obtain ⟨t940,A3,H⟩:=ob H
 by_cases c4:t940=0
 ·rw [if_pos c4] at H
  have c4b0:(t940 == 0)=true:=beq_iff_eq.mpr c4
  have c4b1:(t940 != 0)=false:=bne_eq_false_iff_eq.mpr c4
  clear c4
  obtain ⟨⟨t941,t942,t945⟩,A5,H⟩:=ob H;(try dsimp only at H)
  obtain ⟨⟨t946,t947,t950⟩,A6,H⟩:=ob H;(try dsimp only at H)
  obtain ⟨⟨t951,t952,t955⟩,A7,H⟩:=ob H;(try dsimp only at H)
  obtain ⟨⟨t956,t957,t960,t961⟩,A8,H⟩:=ob H;(try dsimp only at H)
  simp only [Option.some.injEq,Prod.mk.injEq] at H
  obtain ⟨rfl,rfl,rfl,rfl⟩:=H
  exact Zau.leaf
 ·rw [if_neg c4] at H
  have c4b0:(t940 == 0)=false:=beq_eq_false_iff_ne.mpr c4
  have c4b1:(t940 != 0)=true:=bne_iff_ne.mpr c4
  simp only [Option.some.injEq,Prod.mk.injEq] at H
  obtain ⟨rfl,rfl,rfl,rfl⟩:=H
  exact Zau.leaf
end YtjbjkmccfocikaaGreatDoor.B
end
section
namespace YtjbjkmccfocikaaGreatDoor.P
open Go.RowKit YtjbjkmccfocikaaGreatDoor.B YtjbjkmccfocikaaGreatDoorW.PrintWords YtjbjkmccfocikaaGreatDoorW.PrintLast YtjbjkmccfocikaaGreatDoorW.PrintMore YtjbjkmccfocikaaGreatDoor.P.Nm
def okB (a:Dm):Bool:=if a.n=0 then (!a.neg && decide (a.e=0)) else (decide (a.n % 10 ≠ 0) && (decide (nd a.n<=300) && (decide (-1000<=a.e) && decide (a.e<=1000))))
theorem Zow {a:Dm}:okB a=true ↔ OkD a:=by
 obtain ⟨s,n,e⟩:=a
 unfold okB
 by_cases h:n=0
 ·subst h
  simp only [if_true]
  constructor
  ·intro h
   simp only [Bool.and_eq_true,Bool.not_eq_true',decide_eq_true_eq] at h
   obtain ⟨rfl,rfl⟩:=h
   exact OkD.zeroD
  ·intro h
   have := h.zero rfl
   unfold zeroD at this
   injection this with h1 h2 h3
   simp [h1,h3]
 ·simp only [if_neg h,Bool.and_eq_true,decide_eq_true_eq]
  constructor
  ·intro ⟨h1,h2,h3,h4⟩
   exact ⟨fun e=>absurd e h,fun _=>h1,h2,h3,h4⟩
  ·intro h1
   exact ⟨h1.last h,h1.len,h1.low,h1.high⟩
def chk (a:Bool) (l:List Int) (e:Int):Int:=if chkL l=0/\l.length<=40/\okB ⟨a,num l,e⟩=true then 0 else 9
theorem Zih {n k:Nat} (h:nd n<=9 * k):(limbs n).length<=k:=by
 refine Ze7 (Nat.lt_of_lt_of_le (Zh4 n) ?_)
 refine Nat.le_trans (Nat.pow_le_pow_right (by omega) h) ?_
 rw [Nat.pow_mul]
 exact Nat.pow_le_pow_left (by decide) _
theorem Zf7 {a:Dm} (h:OkD a):(limbs a.n).length<=34:=Zih (by have := h.len;omega)
theorem Zn3 {a:Dm} (h:OkD a):chk a.neg (limbs a.n) a.e=0:=by
 have h1:=Zf7 h
 unfold chk
 rw [if_pos ⟨Zjq (by omega),by omega,by rw [Zc6];exact Zow.2 h⟩]
theorem Zs3 {a:Bool} {l:List Int} {e:Int} (hd:Dg 4294967296 l) (h:chk a l e=0):∃ D:Dm,OkD D/\a=D.neg/\l=limbs D.n/\e=D.e:=by
 unfold chk at h
 by_cases hc:chkL l=0/\l.length<=40/\okB ⟨a,num l,e⟩=true
 ·obtain ⟨h1,h2,h3⟩:=hc
  exact ⟨⟨a,num l,e⟩,Zow.1 h3,rfl,(Zjy ((Zko hd).1 h1)).symm,rfl⟩
 ·rw [if_neg hc] at h;cases h
theorem Zsr (a:Bool) (l:List Int) (e:Int):chk a l e=0\/chk a l e=9:=by unfold chk;split <;> simp
abbrev outD (p:Dm × Int):Bool × List Int × Int × Int:=(p.1.neg,limbs p.1.n,p.1.e,p.2)
theorem Zjg (a:Bool) (l:List Int) (e:Int) (hd:Dg 4294967296 l) (hl:l.length<=90000):Tells (fun k=>Zp.f k a l e) (a,digs (num l),e):=by
 unfold Zp.f
 exact (Zje l hd hl).bind (Tells.pure _)
theorem ROf (D:Dm) (h:nd D.n<=90000):Tells (fun k=>Zp.f k D.neg (limbs D.n) D.e) (D.neg,digs D.n,D.e):=by
 have := Zjg D.neg (limbs D.n) D.e (Zc3 _) (Nat.le_trans (Zd3 _) h)
 rw [Zc6] at this
 exact this
theorem Zlu {n:Nat} (h:n ≠ 0):(digs n).getD 0 0=((n % 10:Nat):Int):=by rw [Zdp h];rfl
theorem Zng (s:Bool):∀ (f n:Nat) (e:Int),n<=f->n ≠ 0->nd n<=100000 -> -1000000000<=e->e + nd n<=1000000000->Tells (fun k=>Zo.l0 k (digs n) s [] e) (outD (settleD ⟨s,n,e⟩))
 | 0,n,e,hf,h0,hn,he1,he2=>by omega
 | f + 1,n,e,hf,h0,hn,he1,he2=>by
  have hpos:=Zhr h0
  have hlen:(digs n).length=nd n:=rfl
  refine Tells.succ ?_
  simp only [Zo.l0]
  rw [show (0:Int)=((0:Nat):Int) from rfl,rd_n,Zlu h0]
  refine Tells.ifp (by omega) ?_
  by_cases hz:n % 10=0
  ·have hne:n / 10 ≠ 0:=by omega
   have hnd:nd n=nd (n / 10) + 1:=by
    show (digs n).length=_
    rw [Zdp h0];rfl
   have ih:=Zng s f (n / 10) (e + 1) (by omega) hne (by omega) (by omega) (by omega)
   have hs:=Zj9 s (n / 10) (e + 1) 1
   rw [show n / 10 * 10 ^ 1=n by omega,show e + 1 - ((1:Nat):Int)=e by omega] at hs
   rw [hs]
   refine Tells.ifp (by omega) (Tells.ifp (by omega) ?_)
   rw [w64n (by omega) (by omega),Zdp h0]
   exact ih
  ·obtain ⟨hc,ht⟩:=Zn9 hz
   unfold settleD
   simp only [hc,ht]
   rw [if_neg h0,show e + ((0:Nat):Int)=e by omega]
   refine Tells.ifn (by omega) ?_
   by_cases h3:300 < nd n
   ·rw [if_pos h3]
    exact Tells.ifp (by omega) (Tells.pure _)
   ·rw [if_neg h3]
    refine Tells.ifn (by omega) ?_
    by_cases h4:e < -1000
    ·rw [if_pos (.inl h4)]
     exact Tells.ifp h4 (Tells.pure _)
    ·refine Tells.ifn h4 ?_
     by_cases h5:1000 < e
     ·rw [if_pos (.inr h5)]
      exact Tells.ifp h5 (Tells.pure _)
     ·rw [if_neg (by omega)]
      exact Tells.ifn h5 ((Zki n (by omega)).bind (Tells.pure _))
theorem Zmo (s:Bool) (L:List Int) (n:Nat) (e:Int) (hd:Dg 10 L) (hv:val 10 L=n) (hl:L.length<=100000) (he1 : -1000000000<=e) (he2:e<=900000000):Tells (fun k=>Zo.f k s L e) (outD (settleD ⟨s,n,e⟩)):=by
 have ht:=Zgi L (by omega)
 rw [Zf2 hd hv] at ht
 have hnd:nd n<=100000:=by
  have := Zqn L
  rw [Zf2 hd hv] at this
  exact Nat.le_trans this hl
 unfold Zo.f
 refine ht.bind ?_
 by_cases h0:n=0
 ·subst h0
  exact Tells.ifp rfl (Tells.pure _)
 ·have hpos:0 < (digs n).length:=Zhr h0
  exact Tells.ifn (by omega) (Zng s n n e (Nat.le_refl _) h0 hnd he1 (by omega))
theorem Made (s:Bool) (n:Nat) (e:Int) (hn:nd n<=100000) (he1 : -1000000000<=e) (he2:e<=900000000):Tells (fun k=>Zo.f k s (digs n) e) (outD (settleD ⟨s,n,e⟩)) :=
 Zmo s _ n e (Zc5 n) (Zcx n) hn he1 he2
theorem Zgv (a:Bool) (l:List Int) (e:Int) (hd:Dg 4294967296 l) (hl:l.length<=9223372036854775807):Tells (fun k=>Zr.f k a l e) (chk a l e):=by
 unfold Zr.f
 rw [Zin l hl]
 refine (Tells.pure _).bind ?_
 have bad:chk a l e=9->Tells (fun k=>Zr.j0 k true a l e) (chk a l e):=fun h=>by
  rw [h]
  refine Tells.succ ?_
  simp only [Zr.j0]
  exact Tells.ifp trivial (Tells.pure _)
 by_cases hc:chkL l=0
 ·refine Tells.ifp hc ?_
  by_cases h40:l.length<=40
  ·rw [decide_eq_false (show ¬ ((l.length:Int) > 40) by omega)]
   have hof:=Zjg a l e hd (by omega)
   obtain ⟨n,hn⟩:∃ n,num l=n:=⟨_,rfl⟩
   have hchk:chk a l e=if okB ⟨a,n,e⟩=true then 0 else 9:=by
    unfold chk
    rw [hn]
    by_cases h:okB ⟨a,n,e⟩=true
    ·rw [if_pos ⟨hc,h40,h⟩,if_pos h]
    ·rw [if_neg (fun q=>h q.2.2),if_neg h]
   rw [hchk]
   rw [hn] at hof
   unfold okB
   simp only
   have hlen:(digs n).length=nd n:=rfl
   refine Tells.succ ?_
   simp only [Zr.j0]
   refine Tells.ifn (by simp) (hof.bind ?_)
   dsimp only
   by_cases h0:n=0
   ·subst h0
    rw [if_pos rfl]
    refine Tells.ifp rfl ?_
    have j1:∀ b:Bool,Tells (fun k=>Zr.j1 k b) (if b=true then 9 else 0):=fun b=>by
     refine Tells.succ ?_
     simp only [Zr.j1]
     cases b
     ·exact Tells.ifn (by simp) (Tells.pure _)
     ·exact Tells.ifp rfl (Tells.pure _)
    cases a
    ·refine Tells.ifn (by simp) ((j1 _).val ?_)
     by_cases he:e=0
     ·subst he;rfl
     ·simp [he]
    ·exact Tells.ifp rfl ((j1 true).val rfl)
   ·have hpos:=Zhr h0
    rw [if_neg h0]
    refine Tells.ifn (by omega) (Tells.ifp (by omega) ?_)
    rw [show (0:Int)=((0:Nat):Int) from rfl,rd_n,Zlu h0]
    by_cases hz:n % 10=0
    ·rw [decide_eq_false (not_not_intro hz)]
     exact Tells.ifp (by omega) (Tells.pure _)
    ·rw [decide_eq_true hz]
     refine Tells.ifn (by omega) ?_
     by_cases h3:nd n<=300
     ·rw [decide_eq_true h3]
      refine Tells.ifn (by omega) ?_
      by_cases h4:e < -1000
      ·rw [decide_eq_false (show ¬ (-1000<=e) by omega)]
       exact Tells.ifp h4 (Tells.pure _)
      ·rw [decide_eq_true (show -1000<=e by omega)]
       refine Tells.ifn h4 ?_
       by_cases h5:1000 < e
       ·rw [decide_eq_false (show ¬ (e<=1000) by omega)]
        exact Tells.ifp h5 (Tells.pure _)
       ·rw [decide_eq_true (show e<=1000 by omega)]
        exact Tells.ifn h5 (Tells.pure _)
     ·rw [decide_eq_false h3]
      exact Tells.ifp (by omega) (Tells.pure _)
  ·rw [decide_eq_true (show ((l.length:Int) > 40) by omega)]
   exact bad (by unfold chk;rw [if_neg (fun q=>h40 q.2.1)])
 ·exact Tells.ifn hc (bad (by unfold chk;rw [if_neg (fun q=>hc q.1)]))
theorem Zis (a:Bool) (l:List Int) (e:Int) (b:Bool) (m:List Int) (g:Int) (hd:Dg 4294967296 l) (hl:l.length<=9223372036854775807) (hd2:Dg 4294967296 m) (hl2:m.length<=9223372036854775807):Tells (fun k=>Za3.f k a l e b m g) (if chk a l e=0/\chk b m g=0 then 0 else 9):=by
 unfold Za3.f
 refine (Zgv a l e hd hl).bind ?_
 by_cases h:chk a l e=0
 ·refine Tells.ifp h ((Zgv b m g hd2 hl2).bind ?_)
  by_cases h2:chk b m g=0
  ·exact Tells.ifp h2 ((Tells.pure _).val (by rw [if_pos ⟨h,h2⟩]))
  ·exact Tells.ifn h2 ((Tells.pure _).val (by rw [if_neg (fun q=>h2 q.2)]))
 ·exact Tells.ifn h ((Tells.pure _).val (by rw [if_neg (fun q=>h q.1)]))
theorem Rchecks (D E:Dm) (hD:OkD D) (hE:OkD E):Tells (fun k=>Za3.f k D.neg (limbs D.n) D.e E.neg (limbs E.n) E.e) 0:=by
 have h1:=Zf7 hD
 have h2:=Zf7 hE
 have := Zis D.neg (limbs D.n) D.e E.neg (limbs E.n) E.e (Zc3 _) (by omega) (Zc3 _) (by omega)
 rw [if_pos ⟨Zn3 hD,Zn3 hE⟩] at this
 exact this
theorem Ztq (a b:Int):mn a b=min a b:=by unfold mn;omega
theorem Zsy (a b:Int):mx a b=max a b:=by unfold mx;omega
theorem Zq8 (a b:Bool) (m n:Nat) (e g:Int) (hm:nd m<=100000) (hn:nd n<=100000) (he : -100000<=e/\e<=100000) (hg : -100000<=g/\g<=100000) :
  Zcf.f a (digs m) e b (digs n) g=some (a,digs (m * 10 ^ (e - min e g).toNat),min e g,b,digs (n * 10 ^ (g - min e g).toNat),min e g):=by
 unfold Zcf.f
 rw [Ztq]
 obtain ⟨x,hx⟩:∃ x:Nat,e - min e g=x:=⟨(e - min e g).toNat,by omega⟩
 obtain ⟨y,hy⟩:∃ y:Nat,g - min e g=y:=⟨(g - min e g).toNat,by omega⟩
 rw [hx,hy,w64c (by omega),w64c (by omega),Zhh m x (by omega) (by omega),Option.bind_some,Zhh n y (by omega) (by omega),Option.bind_some,Int.toNat_natCast,Int.toNat_natCast]
theorem Zee (n k:Nat):nd (n * 10 ^ k)<=nd n + k:=by
 by_cases h:n=0
 ·subst h;rw [Nat.zero_mul,Zol];omega
 ·rw [Zl4 h];exact Nat.le_refl _
theorem Zhs {n:Nat}:(digs n).length=0 ↔ n=0:=⟨fun h=>Zlv (List.eq_nil_of_length_eq_zero h),fun h=>by rw [h];rfl⟩
theorem Zjk (A B:Dm) (hm:nd A.n<=10000) (hn:nd B.n<=10000) (he : -10000<=A.e/\A.e<=10000) (hg : -10000<=B.e/\B.e<=10000) :
  Tells (fun k=>Zaf.f k A.neg (digs A.n) A.e B.neg (digs B.n) B.e) ((plusD A B).neg,digs (plusD A B).n,(plusD A B).e):=by
 unfold Zaf.f
 rw [Zq8 A.neg B.neg A.n B.n A.e B.e (by omega) (by omega) (by omega) (by omega)]
 refine (Tells.pure _).bind ?_
 have hx:=Zee A.n (A.e - min A.e B.e).toNat
 have hy:=Zee B.n (B.e - min A.e B.e).toNat
 unfold plusD sumS
 simp only
 generalize A.n * 10 ^ (A.e - min A.e B.e).toNat=x at *
 generalize B.n * 10 ^ (B.e - min A.e B.e).toNat=y at *
 have hx':nd x<=100000:=by omega
 have hy':nd y<=100000:=by omega
 by_cases h:A.neg=B.neg
 ·rw [if_pos h]
  exact Tells.ifp (by rw [h];simp) ((Zmq x y (by omega) (by omega)).bind (Tells.pure _))
 ·rw [if_neg h]
  refine Tells.ifn (by simpa using h) ((Zkk x y (by omega)).bind ?_)
  by_cases hlt:x < y
  ·rw [if_pos hlt]
   exact Tells.ifn (by unfold cmpN;rw [if_pos hlt];omega) ((Zha y x (by omega) (by omega)).bind (Tells.pure _))
  ·rw [if_neg hlt]
   exact Tells.ifp (by unfold cmpN;rw [if_neg hlt];split <;> omega) ((Zha x y (by omega) (by omega)).bind (Tells.pure _))
theorem Zts (A:Dm):Zbk.f A.neg (digs A.n) A.e=some ((negD A).neg,digs A.n,A.e):=by
 unfold Zbk.f negD
 have hl:(digs A.n).length=0 ↔ A.n=0:=Zhs
 cases A.neg
 ·rw [if_neg (by simp)]
  congr 2
  simp only [Bool.not_false,Bool.true_and]
  by_cases h:A.n=0
  ·rw [decide_eq_false (not_not_intro h),decide_eq_false (by have := hl.2 h;omega)]
  ·rw [decide_eq_true h,decide_eq_true (by have:(digs A.n).length ≠ 0:=fun q=>h (hl.1 q);omega)]
 ·rw [if_pos rfl];rfl
theorem ROrder (D E:Dm) (hD:OkD D) (hE:OkD E):Tells (fun k=>Zaj.f k D.neg (limbs D.n) D.e E.neg (limbs E.n) E.e) (cmpD D E):=by
 have d1:=hD.len;have d2:=hD.low;have d3:=hD.high
 have e1:=hE.len;have e2:=hE.low;have e3:=hE.high
 unfold Zaj.f
 refine (ROf D (by omega)).bind ((ROf E (by omega)).bind ?_)
 dsimp only
 rw [Zts E]
 refine (Tells.pure _).bind ?_
 refine (Zjk D (negD E) (by omega) (by show nd E.n<=_;omega) (by omega) (by show -10000<=E.e/\E.e<=10000;omega)).bind ?_
 unfold cmpD
 simp only
 have hl:(digs (plusD D (negD E)).n).length=0 ↔ (plusD D (negD E)).n=0:=Zhs
 by_cases h:(plusD D (negD E)).n=0
 ·rw [if_pos h]
  exact Tells.ifp (by have := hl.2 h;omega) (Tells.pure _)
 ·rw [if_neg h]
  refine Tells.ifn (by have:(digs (plusD D (negD E)).n).length ≠ 0:=fun q=>h (hl.1 q);omega) ?_
  cases (plusD D (negD E)).neg
  ·exact Tells.ifn (by simp) (Tells.pure _)
  ·exact Tells.ifp rfl (Tells.pure _)
theorem Zry (s t:Bool) (x y k:Nat) (hx:nd x<=k) (hy:nd y<=k):nd (sumS s t x y).2<=k + 1:=by
 have h1:=Zq3 x y
 have h2:=Zdz (Nat.sub_le x y)
 have h3:=Zdz (Nat.sub_le y x)
 unfold sumS
 split
 ·show nd (x + y)<=_;omega
 ·split
  ·show nd (y - x)<=_;omega
  ·show nd (x - y)<=_;omega
theorem Zqg {A B:Dm} (hA:OkD A) (hB:OkD B):nd (plusD A B).n<=2301:=by
 have d1:=hA.len;have d2:=hA.low;have d3:=hA.high
 have e1:=hB.len;have e2:=hB.low;have e3:=hB.high
 have hx:=Zee A.n (A.e - min A.e B.e).toNat
 have hy:=Zee B.n (B.e - min A.e B.e).toNat
 exact Zry _ _ _ _ 2300 (by omega) (by omega)
theorem Zqf {A B:Dm} (hA:OkD A) (hB:OkD B) : -1000<=(plusD A B).e/\(plusD A B).e<=1000:=by
 have d2:=hA.low;have d3:=hA.high
 have e2:=hB.low;have e3:=hB.high
 rw [Zo3];omega
theorem RAdd (D E:Dm) (hD:OkD D) (hE:OkD E):Tells (fun k=>Zau.f k D.neg (limbs D.n) D.e E.neg (limbs E.n) E.e) (outD (addD D E)):=by
 have d1:=hD.len;have d2:=hD.low;have d3:=hD.high
 have e1:=hE.len;have e2:=hE.low;have e3:=hE.high
 have p1:=Zqg hD hE
 have p2:=Zqf hD hE
 unfold Zau.f
 refine (Rchecks D E hD hE).bind (Tells.ifp rfl ((ROf D (by omega)).bind ((ROf E (by omega)).bind ?_)))
 dsimp only
 refine (Zjk D E (by omega) (by omega) (by omega) (by omega)).bind ?_
 exact (Made (plusD D E).neg (plusD D E).n (plusD D E).e (by omega) (by omega) (by omega)).bind (Tells.pure _)
theorem RMul (D E:Dm) (hD:OkD D) (hE:OkD E):Tells (fun k=>Zab.f k D.neg (limbs D.n) D.e E.neg (limbs E.n) E.e) (outD (timesD D E)):=by
 have d1:=hD.len;have d2:=hD.low;have d3:=hD.high
 have e1:=hE.len;have e2:=hE.low;have e3:=hE.high
 have hm:=Zs1 D.n E.n
 unfold Zab.f
 refine (Rchecks D E hD hE).bind (Tells.ifp rfl ((ROf D (by omega)).bind ((ROf E (by omega)).bind ?_)))
 dsimp only
 rw [w64n (by omega) (by omega)]
 refine (Zip D.n E.n (by omega) (by omega)).bind ?_
 exact (Made (D.neg != E.neg) (D.n * E.n) (D.e + E.e) (by omega) (by omega) (by omega)).bind (Tells.pure _)
end YtjbjkmccfocikaaGreatDoor.P
end
section
namespace YtjbjkmccfocikaaGreatDoor.P
open Go.RowKit YtjbjkmccfocikaaGreatDoorW.PrintWords
def anyO {α:Type} (f:α->Option Bool):List α->Option Bool
 | []=>some false
 | x :: r=>(f x).bind fun t=>if t=true then some true else anyO f r
theorem Zjm {α:Type} {f:α->Option Bool} {x:α} {r:List α} {b:Bool} (h:anyO f (x :: r)=some b):∃ t,f x=some t/\((t=true->b=true)/\(t=false->anyO f r=some b)):=by
 simp only [anyO] at h
 obtain ⟨t,ht,h2⟩:=Option.bind_eq_some_iff.1 h
 refine ⟨t,ht,fun e=>?_,fun e=>?_⟩
 ·rw [if_pos e] at h2;exact (Option.some.inj h2).symm
 ·rw [if_neg (by simp [e])] at h2;exact h2
theorem Zlp {α:Type} {f:α->Option Bool} {b:Bool} (h:anyO f []=some b):b=false:=(Option.some.inj h).symm
theorem Zjn {α:Type} {f:α->Option Bool} (p:α->Bool):∀ l:List α,(∀ x ∈ l,f x=some (p x))->anyO f l=some (l.any p)
 | [],_=>rfl
 | x :: r,h=>by
  simp only [anyO]
  rw [h x List.mem_cons_self,Option.bind_some,List.any_cons]
  cases p x
  ·rw [if_neg (by simp),Bool.false_or];exact Zjn p r (fun y hy=>h y (List.mem_cons_of_mem _ hy))
  ·rw [if_pos rfl,Bool.true_or]
def IdxR (b:Bool) (e:Ending):Prop:=∃ i:Int,e=.returned (.int .i64 i)/\decide (0<=i)=b
theorem Zoe {b:Bool} (h:b=true) (q:Nat):IdxR b (.returned (.int .i64 (q:Int))):=⟨q,rfl,by rw [h];simp⟩
theorem Zjv {b:Bool} (h:b=false):IdxR b (.returned (.int .i64 (-1))):=⟨-1,rfl,by rw [h];rfl⟩
theorem Zlw {α:Type} {l:List α} {q:Nat} {z:α} (h:q < l.length):l.drop q=l.getD q z :: l.drop (q + 1):=by
 rw [List.getD,List.getElem?_eq_getElem h];exact List.drop_eq_getElem_cons h
theorem Zln {w:World} {a:Addr} {v:Value} (h:w.cell? a=some v):∃ b o,a=⟨b,o,none⟩:=by
 obtain ⟨b,o,s⟩:=a
 cases s with
 | none=>exact ⟨b,o,rfl⟩
 | some s =>
  unfold World.cell? at h
  split at h
  ·simp at h
  ·cases h
theorem Ziu (b o j:Nat):(⟨b,o,none⟩:Addr).add j=⟨b,o + j,none⟩:=by unfold Addr.add;split <;> simp_all
end YtjbjkmccfocikaaGreatDoor.P
end
section
namespace YtjbjkmccfocikaaGreatDoor.B
open Go.RowKit YtjbjkmccfocikaaGreatDoorW.PrintWords YtjbjkmccfocikaaGreatDoorW.PrintLast YtjbjkmccfocikaaGreatDoorW.PrintMore
attribute [local go_sem] Zb7 Zb9 Zcu Zcv Zbt Zbu Zb8 Zca
def Zem.f (k:Nat) (l0:List Int):Option (List Int × Bool):=(Zc4.f k 10).bind fun t147=>((Zdm.f k l0 t147).bind fun bt150=>(some (bt150.1,((bt150.2.1.length:Int) == 0))))
theorem Zem.calls (k:Nat) (A0:Option Addr) (c0:Nat) (l0:List Int) (r1:List Int) (r2:Bool) (w:World) (hr0:Kd.C (Kd.int .u32) w A0 l0.length l0) (hc0:l0.length<=c0) (h:Zem.f k l0=some (r1,r2)) :
  Calls Tryz.prog 109 #[.slice A0 l0.length c0] w fun e w' => ∃ v0_:Value,e=.returned (.tuple #[v0_,.bool r2])/\Kd.R (Kd.int .u32) 85 w' w.heap.size (fun _=>True) v0_ r1/\Below w.heap.size w w':=by
 have HR0:=am hr0
 have HC0:=am hc0
 clear hr0 hc0
 have HB:=am (Below.refl w.heap.size w)
 have H:((Zc4.f k 10).bind fun t147=>((Zdm.f k l0 t147).bind fun bt150=>(some (bt150.1,((bt150.2.1.length:Int) == 0)))))=some (r1,r2):=h
 clear h
 obtain ⟨t147,A2,H⟩:=ob H
 obtain ⟨⟨t150,t151,t152⟩,A3,H⟩:=ob H;(try dsimp only at H)
 simp only [Option.some.injEq,Prod.mk.injEq] at H
 obtain ⟨rfl,rfl⟩:=H
 go_enter Tryz.func109,Tryz.ntmps109
 go_wp2_with (first|(refine gL (some 9) Tryz.func76 #[.int .u64 10] (h:=?_);(with_reducible refine (Zc4.calls k 10 t147 _ A2.out).mono ?_);rintro e w4 ⟨v148,rfl,ho0,hb⟩;refine ⟨_,rfl,?_⟩;have HO149:=am (Kd.Zq ho0 (Zb pB));replace HB:=bS hb;obtain ⟨Ao5,co5,eo5⟩:=Kd.Zm HO149.out;subst eo5)|(refine gL (some 10) Tryz.func69 #[.slice A0 l0.length c0,.slice Ao5 t147.length co5] (h:=?_);(with_reducible refine (Zdm.calls k _ _ l0 _ _ t147 t150 t151 t152 _ ?side1 ?side2 ?side3 ?side4 A3.out).mono ?_);(case side1=>refine cp ?_;exact (Kd.Zh HR0.out HB.out));(case side2=>exact HC0.out);(case side3=>exact Kd.Zh (Kd.Zd HO149.out).2.2 pl);(case side4=>exact (Kd.Zd HO149.out).2.1);rintro e w6 ⟨v153,v155,rfl,ho0,ho1,hb⟩;refine ⟨_,rfl,?_⟩;have HO154:=am (Kd.Zq (Kd.Zv ho0 (Kd.R_lt (Kd.Za HO149.out pl))) (Zb pB));have HO156:=am (Kd.Zq (Kd.Zv ho1 (Kd.R_lt (Kd.Za HO149.out pl))) (Zb pB));replace HO149:=am (Kd.Zi (Kd.Zc7 (Kd.Zc7 (Kd.Zgh (Kd.Za HO149.out pl) hb) (Kd.Zat ho0)) (Kd.Zat ho1)) (fun _ h_=>h_.1));replace HB:=bS hb;obtain ⟨Ao7,co7,eo7⟩:=Kd.Zm HO156.out;subst eo7))
 go_ret2
 exact ⟨_,pE,by refine rp ?_;exact Kd.Zi HO154.out (fun _ hk=>trivial),pB⟩
def Zcs.f (k:Nat) (l0:List Int):Option (Int):=(Zar.f k l0).bind fun bt173=>(if (l0.length:Int)=0 then (some 0) else (some (bt173.1.size:Int)))
theorem Zcs.calls (k:Nat) (A0:Option Addr) (c0:Nat) (l0:List Int) (r:Int) (w:World) (hr0:Kd.C (Kd.int .u32) w A0 l0.length l0) (hc0:l0.length<=c0) (h:Zcs.f k l0=some r) :
  Calls Tryz.prog 110 #[.slice A0 l0.length c0] w fun e w'=>e=.returned (.int .i64 r)/\Below w.heap.size w w':=by
 have HR0:=am hr0
 have HC0:=am hc0
 clear hr0 hc0
 have HB:=am (Below.refl w.heap.size w)
 have H:((Zar.f k l0).bind fun bt173=>(if (l0.length:Int)=0 then (some 0) else (some (bt173.1.size:Int))))=some r:=h
 clear h
 obtain ⟨⟨t173,t174⟩,A2,H⟩:=ob H;(try dsimp only at H)
 by_cases c3:(l0.length:Int)=0
 ·rw [if_pos c3] at H
  have c3b0:((l0.length:Int) == 0)=true:=beq_iff_eq.mpr c3
  have c3b1:((l0.length:Int) != 0)=false:=bne_eq_false_iff_eq.mpr c3
  clear c3
  obtain rfl:=Option.some.inj H
  go_enter Tryz.func110,Tryz.ntmps110
  go_wp2_with (first|(refine gL (some 7) Tryz.func112 #[.slice A0 l0.length c0] (h:=?_);(with_reducible refine (Zar.calls k (fun k_=>k_ < w.heap.size) _ _ l0 t173 t174 _ ?side1 A2.out).mono ?_);(case side1=>exact Kd.V_mk HC0.out (Kd.Zg9 (Kd.C_F (Kd.Zi2 .u32) HR0.out) pB));rintro e w4 ⟨rfl,hb⟩;refine ⟨_,rfl,?_⟩;replace HB:=bS hb))
  go_ret
  exact ⟨pE,pB⟩
 ·rw [if_neg c3] at H
  have c3b0:((l0.length:Int) == 0)=false:=beq_eq_false_iff_ne.mpr c3
  have c3b1:((l0.length:Int) != 0)=true:=bne_iff_ne.mpr c3
  have c3b2:¬ (l0=[]):=fun h_=>c3 (by rw [h_];rfl)
  obtain rfl:=Option.some.inj H
  go_enter Tryz.func110,Tryz.ntmps110
  go_wp2_with (first|(refine gL (some 7) Tryz.func112 #[.slice A0 l0.length c0] (h:=?_);(with_reducible refine (Zar.calls k (fun k_=>k_ < w.heap.size) _ _ l0 t173 t174 _ ?side1 A2.out).mono ?_);(case side1=>exact Kd.V_mk HC0.out (Kd.Zg9 (Kd.C_F (Kd.Zi2 .u32) HR0.out) pB));rintro e w5 ⟨rfl,hb⟩;refine ⟨_,rfl,?_⟩;replace HB:=bS hb))
  go_ret
  exact ⟨pE,pB⟩
def Zbn.j0:Nat->Bool->Bool->List Int->Int->Option (Int)
 | 0,_,_,_,_=>none
 | k + 1,x14,x176000,x176001,x176002=>if x14=true then (some 9) else (if (x176001.length:Int)=0 then (if x176000=true then (some 9) else (if x176002=0 then (some 0) else (some 9))) else ((Zem.f k x176001).bind fun bt177=>(if bt177.2=true then (some 9) else ((Zcs.f k x176001).bind fun t181=>(if t181 > 300 then (some 9) else (if x176002 < (-1000) then (some 9) else (if x176002 > 1000 then (some 9) else (some 0))))))))
def Zbn.f (k:Nat) (a0_0:Bool) (l0_1:List Int) (a0_2:Int):Option (Int):=(Za0.f l0_1).bind fun t176=>(if t176=0 then (Zbn.j0 k (decide ((l0_1.length:Int) > 40)) a0_0 l0_1 a0_2) else (Zbn.j0 k true a0_0 l0_1 a0_2))
theorem Zbn.calls (k:Nat) (a0_0:Bool) (A0_1:Option Addr) (c0_1:Nat) (l0_1:List Int) (a0_2:Int) (r:Int) (w:World) (hr0_1:Kd.C (Kd.int .u32) w A0_1 l0_1.length l0_1) (hc0_1:l0_1.length<=c0_1) (h:Zbn.f k a0_0 l0_1 a0_2=some r) :
  Calls Tryz.prog 55 #[.agg #[.bool a0_0,.slice A0_1 l0_1.length c0_1,.int .i64 a0_2]] w fun e w'=>e=.returned (.int .i64 r)/\Below w.heap.size w w':=by
 have hu24:=Tryz.underlying24
 have HR0_1:=am hr0_1
 have HC0_1:=am hc0_1
 clear hr0_1 hc0_1
 have HB:=am (Below.refl w.heap.size w)
 have H:((Za0.f l0_1).bind fun t176=>(if t176=0 then (Zbn.j0 k (decide ((l0_1.length:Int) > 40)) a0_0 l0_1 a0_2) else (Zbn.j0 k true a0_0 l0_1 a0_2)))=some r:=h
 clear h
 have HC2:=am H
 clear H
 go_enter Tryz.func55,Tryz.ntmps55
 go_upto_region 1 with (first|((with_reducible refine gd 1 ?_);(try (refine Zas (by rfl) ?_;dsimp only));refine bx 1 #[.bool a0_0,.slice A0_1 l0_1.length c0_1,.int .i64 a0_2] 24 (h:=?_);intro gb175 hg w3 hbox hb;have BK175:=am hbox;have GW175:=gW hg;have GE175:=gW hg;replace HB:=bS hb;clear hb hbox hg))
 (try simp only [Act.put,List.setIfInBounds_toArray,List.set_cons_zero,List.set_cons_succ])
 go_cut [14] (fun v14 wc => ∃ (kq:Nat) (x14_1:Bool),v14=.bool x14_1/\Aside0 (Zbn.j0 kq x14_1 a0_0 l0_1 a0_2=some r)/\Aside0 (kq<=k)/\Aside0 (wc.heap[gb175]? = some (.cells #[.bool a0_0,(.slice A0_1 l0_1.length c0_1),.int .i64 a0_2] 24 (0,0)))/\Aside0 (Below w.heap.size w wc))
 case first =>
  have H:=HC2.out
  clear HC2
  obtain ⟨t176,A4,H⟩:=ob H
  by_cases c5:t176=0
  ·rw [if_pos c5] at H
   have c5b0:(t176 == 0)=true:=beq_iff_eq.mpr c5
   have c5b1:(t176 != 0)=false:=bne_eq_false_iff_eq.mpr c5
   clear c5
   (first|rw [c5b0]|(simp only [Zcc,Zdc];rw [c5b0])|skip)
   have H':=am H
   clear H
   obtain ⟨hcz6_0,hcz6_1,hcz6_2,hfz6_0,hfz6_1,hfz6_2⟩:=cEc BK175.out
   go_wp2_with (first|(refine gL (some 7) Tryz.func108 #[.slice A0_1 l0_1.length c0_1] (h:=?_);(with_reducible refine (Za0.calls _ _ l0_1 t176 _ ?side1 ?side2 A4.out).mono ?_);(case side1=>refine cp ?_;exact (Kd.Zh HR0_1.out HB.out));(case side2=>exact HC0_1.out);rintro e w' ⟨rfl,⟨nd,rfl⟩⟩;refine ⟨_,rfl,?_⟩))
   go_meet
   case rel=>exact ⟨_,(decide ((l0_1.length:Int) > 40)),pR,H',⟨by first|omega|exact Nat.le_refl _⟩,⟨Zc BK175.out pl⟩,⟨pB⟩⟩
  ·rw [if_neg c5] at H
   have c5b0:(t176 == 0)=false:=beq_eq_false_iff_ne.mpr c5
   have c5b1:(t176 != 0)=true:=bne_iff_ne.mpr c5
   (first|rw [c5b0]|(simp only [Zcc,Zdc];rw [c5b0])|skip)
   have H':=am H
   clear H
   obtain ⟨hcz7_0,hcz7_1,hcz7_2,hfz7_0,hfz7_1,hfz7_2⟩:=cEc BK175.out
   go_wp2_with (first|(refine gL (some 7) Tryz.func108 #[.slice A0_1 l0_1.length c0_1] (h:=?_);(with_reducible refine (Za0.calls _ _ l0_1 t176 _ ?side1 ?side2 A4.out).mono ?_);(case side1=>refine cp ?_;exact (Kd.Zh HR0_1.out HB.out));(case side2=>exact HC0_1.out);rintro e w' ⟨rfl,⟨nd,rfl⟩⟩;refine ⟨_,rfl,?_⟩))
   go_meet
   case rel=>exact ⟨_,(true),pR,H',⟨by first|omega|exact Nat.le_refl _⟩,⟨Zc BK175.out pl⟩,⟨pB⟩⟩
 case rest =>
  clear HC2
  obtain ⟨kq,x14_1,rfl,HA,HJ1,BK175,HB⟩:=hcut
  cases kq with
  | zero=>exact absurd HA.out (by simp [Zbn.j0])
  | succ kj1 =>
   have H:=HA.out
   clear HA
   simp only [Zbn.j0] at H
   by_cases c8:x14_1=true
   ·subst c8
    rw [if_pos rfl] at H
    obtain rfl:=Option.some.inj H
    go_wp2
    go_ret
    exact ⟨pE,pB⟩
   ·replace c8:=Bool.eq_false_iff.mpr c8
    subst c8
    rw [if_neg (show ¬ (false=true) by decide)] at H
    by_cases c9:(l0_1.length:Int)=0
    ·rw [if_pos c9] at H
     have c9b0:((l0_1.length:Int) == 0)=true:=beq_iff_eq.mpr c9
     have c9b1:((l0_1.length:Int) != 0)=false:=bne_eq_false_iff_eq.mpr c9
     clear c9
     by_cases c10:a0_0=true
     ·subst c10
      rw [if_pos rfl] at H
      obtain rfl:=Option.some.inj H
      obtain ⟨hcz11_0,hcz11_1,hcz11_2,hfz11_0,hfz11_1,hfz11_2⟩:=cEc BK175.out
      go_wp2
      go_ret
      exact ⟨pE,pB⟩
     ·replace c10:=Bool.eq_false_iff.mpr c10
      subst c10
      rw [if_neg (show ¬ (false=true) by decide)] at H
      by_cases c12:a0_2=0
      ·rw [if_pos c12] at H
       have c12b0:(a0_2 == 0)=true:=beq_iff_eq.mpr c12
       have c12b1:(a0_2 != 0)=false:=bne_eq_false_iff_eq.mpr c12
       clear c12
       obtain rfl:=Option.some.inj H
       obtain ⟨hcz13_0,hcz13_1,hcz13_2,hfz13_0,hfz13_1,hfz13_2⟩:=cEc BK175.out
       go_wp2
       go_ret
       exact ⟨pE,pB⟩
      ·rw [if_neg c12] at H
       have c12b0:(a0_2 == 0)=false:=beq_eq_false_iff_ne.mpr c12
       have c12b1:(a0_2 != 0)=true:=bne_iff_ne.mpr c12
       obtain rfl:=Option.some.inj H
       obtain ⟨hcz14_0,hcz14_1,hcz14_2,hfz14_0,hfz14_1,hfz14_2⟩:=cEc BK175.out
       go_wp2
       go_ret
       exact ⟨pE,pB⟩
    ·rw [if_neg c9] at H
     have c9b0:((l0_1.length:Int) == 0)=false:=beq_eq_false_iff_ne.mpr c9
     have c9b1:((l0_1.length:Int) != 0)=true:=bne_iff_ne.mpr c9
     have c9b2:¬ (l0_1=[]):=fun h_=>c9 (by rw [h_];rfl)
     obtain ⟨⟨t177,t178⟩,A15,H⟩:=ob H;(try dsimp only at H)
     by_cases c16:t178=true
     ·subst c16
      rw [if_pos rfl] at H
      obtain rfl:=Option.some.inj H
      obtain ⟨hcz17_0,hcz17_1,hcz17_2,hfz17_0,hfz17_1,hfz17_2⟩:=cEc BK175.out
      go_wp2_with (first|(refine gL (some 29) Tryz.func109 #[.slice A0_1 l0_1.length c0_1] (h:=?_);(with_reducible refine (Zem.calls kj1 _ _ l0_1 t177 true _ ?side1 ?side2 A15.out).mono ?_);(case side1=>refine cp ?_;exact (Kd.Zh HR0_1.out HB.out));(case side2=>exact HC0_1.out);rintro e w18 ⟨v179,rfl,ho0,hb⟩;refine ⟨_,rfl,?_⟩;have HO180:=am (Kd.Zq ho0 (Zb pB));replace BK175:=bb BK175 hb;replace HB:=bS hb))
      go_ret
      exact ⟨pE,pB⟩
     ·replace c16:=Bool.eq_false_iff.mpr c16
      subst c16
      rw [if_neg (show ¬ (false=true) by decide)] at H
      obtain ⟨t181,A19,H⟩:=ob H
      by_cases c20:t181 > 300
      ·rw [if_pos c20] at H
       have c20b0:decide (300 < t181)=true:=decide_eq_true c20
       clear c20
       obtain rfl:=Option.some.inj H
       obtain ⟨hcz21_0,hcz21_1,hcz21_2,hfz21_0,hfz21_1,hfz21_2⟩:=cEc BK175.out
       go_wp2_with (first|(refine gL (some 29) Tryz.func109 #[.slice A0_1 l0_1.length c0_1] (h:=?_);(with_reducible refine (Zem.calls kj1 _ _ l0_1 t177 false _ ?side1 ?side2 A15.out).mono ?_);(case side1=>refine cp ?_;exact (Kd.Zh HR0_1.out HB.out));(case side2=>exact HC0_1.out);rintro e w22 ⟨v179,rfl,ho0,hb⟩;refine ⟨_,rfl,?_⟩;have HO180:=am (Kd.Zq ho0 (Zb pB));replace BK175:=bb BK175 hb;replace HB:=bS hb;obtain ⟨hcz23_0,hcz23_1,hcz23_2,hfz23_0,hfz23_1,hfz23_2⟩:=cEc BK175.out)|(go_at_call 110;(with_reducible refine (Zcs.calls kj1 _ _ l0_1 t181 _ ?side1 ?side2 A19.out).mono ?_);(case side1=>refine cp ?_;exact (Kd.Zh HR0_1.out HB.out));(case side2=>exact HC0_1.out);rintro e w24 ⟨rfl,hb⟩;replace HO180:=rbl HO180 hb;replace BK175:=bb BK175 hb;replace HB:=bS hb))
       go_ret
       exact ⟨pE,pB⟩
      ·rw [if_neg c20] at H
       have c20b0:decide (300 < t181)=false:=decide_eq_false c20
       clear c20
       by_cases c25:a0_2 < (-1000)
       ·rw [if_pos c25] at H
        have c25b0:decide (a0_2 < (-1000))=true:=decide_eq_true c25
        clear c25
        obtain rfl:=Option.some.inj H
        obtain ⟨hcz26_0,hcz26_1,hcz26_2,hfz26_0,hfz26_1,hfz26_2⟩:=cEc BK175.out
        go_wp2_with (first|(refine gL (some 29) Tryz.func109 #[.slice A0_1 l0_1.length c0_1] (h:=?_);(with_reducible refine (Zem.calls kj1 _ _ l0_1 t177 false _ ?side1 ?side2 A15.out).mono ?_);(case side1=>refine cp ?_;exact (Kd.Zh HR0_1.out HB.out));(case side2=>exact HC0_1.out);rintro e w27 ⟨v179,rfl,ho0,hb⟩;refine ⟨_,rfl,?_⟩;have HO180:=am (Kd.Zq ho0 (Zb pB));replace BK175:=bb BK175 hb;replace HB:=bS hb;obtain ⟨hcz28_0,hcz28_1,hcz28_2,hfz28_0,hfz28_1,hfz28_2⟩:=cEc BK175.out)|(go_at_call 110;(with_reducible refine (Zcs.calls kj1 _ _ l0_1 t181 _ ?side1 ?side2 A19.out).mono ?_);(case side1=>refine cp ?_;exact (Kd.Zh HR0_1.out HB.out));(case side2=>exact HC0_1.out);rintro e w29 ⟨rfl,hb⟩;replace HO180:=rbl HO180 hb;replace BK175:=bb BK175 hb;replace HB:=bS hb;obtain ⟨hcz30_0,hcz30_1,hcz30_2,hfz30_0,hfz30_1,hfz30_2⟩:=cEc BK175.out))
        go_ret
        exact ⟨pE,pB⟩
       ·rw [if_neg c25] at H
        have c25b0:decide (a0_2 < (-1000))=false:=decide_eq_false c25
        clear c25
        by_cases c31:a0_2 > 1000
        ·rw [if_pos c31] at H
         have c31b0:decide (1000 < a0_2)=true:=decide_eq_true c31
         clear c31
         obtain rfl:=Option.some.inj H
         obtain ⟨hcz32_0,hcz32_1,hcz32_2,hfz32_0,hfz32_1,hfz32_2⟩:=cEc BK175.out
         go_wp2_with (first|(refine gL (some 29) Tryz.func109 #[.slice A0_1 l0_1.length c0_1] (h:=?_);(with_reducible refine (Zem.calls kj1 _ _ l0_1 t177 false _ ?side1 ?side2 A15.out).mono ?_);(case side1=>refine cp ?_;exact (Kd.Zh HR0_1.out HB.out));(case side2=>exact HC0_1.out);rintro e w33 ⟨v179,rfl,ho0,hb⟩;refine ⟨_,rfl,?_⟩;have HO180:=am (Kd.Zq ho0 (Zb pB));replace BK175:=bb BK175 hb;replace HB:=bS hb;obtain ⟨hcz34_0,hcz34_1,hcz34_2,hfz34_0,hfz34_1,hfz34_2⟩:=cEc BK175.out)|(go_at_call 110;(with_reducible refine (Zcs.calls kj1 _ _ l0_1 t181 _ ?side1 ?side2 A19.out).mono ?_);(case side1=>refine cp ?_;exact (Kd.Zh HR0_1.out HB.out));(case side2=>exact HC0_1.out);rintro e w35 ⟨rfl,hb⟩;replace HO180:=rbl HO180 hb;replace BK175:=bb BK175 hb;replace HB:=bS hb;obtain ⟨hcz36_0,hcz36_1,hcz36_2,hfz36_0,hfz36_1,hfz36_2⟩:=cEc BK175.out))
         go_ret
         exact ⟨pE,pB⟩
        ·rw [if_neg c31] at H
         have c31b0:decide (1000 < a0_2)=false:=decide_eq_false c31
         clear c31
         obtain rfl:=Option.some.inj H
         obtain ⟨hcz37_0,hcz37_1,hcz37_2,hfz37_0,hfz37_1,hfz37_2⟩:=cEc BK175.out
         go_wp2_with (first|(refine gL (some 29) Tryz.func109 #[.slice A0_1 l0_1.length c0_1] (h:=?_);(with_reducible refine (Zem.calls kj1 _ _ l0_1 t177 false _ ?side1 ?side2 A15.out).mono ?_);(case side1=>refine cp ?_;exact (Kd.Zh HR0_1.out HB.out));(case side2=>exact HC0_1.out);rintro e w38 ⟨v179,rfl,ho0,hb⟩;refine ⟨_,rfl,?_⟩;have HO180:=am (Kd.Zq ho0 (Zb pB));replace BK175:=bb BK175 hb;replace HB:=bS hb;obtain ⟨hcz39_0,hcz39_1,hcz39_2,hfz39_0,hfz39_1,hfz39_2⟩:=cEc BK175.out)|(go_at_call 110;(with_reducible refine (Zcs.calls kj1 _ _ l0_1 t181 _ ?side1 ?side2 A19.out).mono ?_);(case side1=>refine cp ?_;exact (Kd.Zh HR0_1.out HB.out));(case side2=>exact HC0_1.out);rintro e w40 ⟨rfl,hb⟩;replace HO180:=rbl HO180 hb;replace BK175:=bb BK175 hb;replace HB:=bS hb;obtain ⟨hcz41_0,hcz41_1,hcz41_2,hfz41_0,hfz41_1,hfz41_2⟩:=cEc BK175.out))
         go_ret
         exact ⟨pE,pB⟩
def Zev.f (k:Nat) (a0_0:Bool) (l0_1:List Int) (a0_2:Int):Option (Bool):=(Zbn.f k a0_0 l0_1 a0_2).bind fun t185=>(some (t185 != 0))
theorem Zev.calls (k:Nat) (a0_0:Bool) (A0_1:Option Addr) (c0_1:Nat) (l0_1:List Int) (a0_2:Int) (r:Bool) (w:World) (hr0_1:Kd.C (Kd.int .u32) w A0_1 l0_1.length l0_1) (hc0_1:l0_1.length<=c0_1) (h:Zev.f k a0_0 l0_1 a0_2=some r) :
  Calls Tryz.prog 124 #[.agg #[.bool a0_0,.slice A0_1 l0_1.length c0_1,.int .i64 a0_2]] w fun e w'=>e=.returned (.bool r)/\Below w.heap.size w w':=by
 have hu24:=Tryz.underlying24
 have HR0_1:=am hr0_1
 have HC0_1:=am hc0_1
 clear hr0_1 hc0_1
 have HB:=am (Below.refl w.heap.size w)
 have H:((Zbn.f k a0_0 l0_1 a0_2).bind fun t185=>(some (t185 != 0)))=some r:=h
 clear h
 obtain ⟨t185,A2,H⟩:=ob H
 obtain rfl:=Option.some.inj H
 go_enter Tryz.func124,Tryz.ntmps124
 go_wp2_with (first|((with_reducible refine gd 1 ?_);refine bx 1 #[.bool a0_0,.slice A0_1 l0_1.length c0_1,.int .i64 a0_2] 24 (h:=?_);intro gb184 hg w3 hbox hb;have BK184:=am hbox;have GW184:=gW hg;have GE184:=gW hg;replace HB:=bS hb;clear hb hbox hg;obtain ⟨hcz4_0,hcz4_1,hcz4_2,hfz4_0,hfz4_1,hfz4_2⟩:=cEc BK184.out)|(refine gL (some 4) Tryz.func55 #[.agg #[.bool a0_0,.slice A0_1 l0_1.length c0_1,.int .i64 a0_2]] (h:=?_);(with_reducible refine (Zbn.calls k a0_0 _ _ l0_1 a0_2 t185 _ ?side1 ?side2 A2.out).mono ?_);(case side1=>refine cp ?_;exact (Kd.Zh HR0_1.out HB.out));(case side2=>exact HC0_1.out);rintro e w5 ⟨rfl,hb⟩;refine ⟨_,rfl,?_⟩;replace BK184:=bb BK184 hb;replace HB:=bS hb))
 go_ret
 exact ⟨pE,pB⟩
end YtjbjkmccfocikaaGreatDoor.B
end
section
namespace YtjbjkmccfocikaaGreatDoor.B
open Go.RowKit YtjbjkmccfocikaaGreatDoorW.PrintWords YtjbjkmccfocikaaGreatDoor.P
def Zcr.f (k:Nat) (l:List S24):Option Bool:=anyO (fun x=>Zev.f k x.f0 x.f1 x.f2) l
theorem Zcr.index (k:Nat) (A0:Option Addr) (c0:Nat) (l0:List S24) (b:Bool) (w:World) (hr0:Kd.C k24 w A0 l0.length l0) (hc0:l0.length<=c0) (h:Zcr.f k l0=some b) :
  Calls Tryz.prog 154 #[.slice A0 l0.length c0,.func (.func 124) #[] #[]] w fun e w'=>IdxR b e/\Below w.heap.size w w':=by
 have hm:l0.length<=9223372036854775807:=Kd.Zsa hr0
 have HR:=Aside0.mk hr0
 have HC:=Aside0.mk hc0
 unfold Zcr.f at h
 have H0:=Aside0.mk h
 obtain ⟨n,hn⟩:∃ n,l0.length=n:=⟨_,rfl⟩
 rw [hn] at hm
 have HN:=Aside0.mk hn
 clear h hr0 hc0
 rw [hn]
 clear hn
 go_enter Tryz.func154,Tryz.ntmps154
 go_wp2
 go_loopw [8] (fun i wr => ∃ k_:Nat,k_<=n/\i=.int .i64 k_/\Aside0 (anyO (fun x=>Zev.f k x.f0 x.f1 x.f2) (l0.drop k_)=some b)/\Below w.heap.size w wr) (fun i _=>n - (intOf i).toNat)
 case atStart=>exact ⟨0,Nat.zero_le _,rfl,⟨H0.out⟩,Below.refl _ _⟩
 case round =>
  obtain ⟨q,hq,rfl,HP,hb⟩:=hrel
  by_cases hlt:q < n
  ·have hlt':(q:Int) < (n:Int):=by omega
   have hdrop:l0.drop q=(l0.getD q z24) :: l0.drop (q + 1):=Zlw (by have := HN.out;omega)
   obtain ⟨x,hx⟩:∃ x,l0.getD q z24=x:=⟨_,rfl⟩
   have h1:=HP.out
   rw [hdrop,hx] at h1
   obtain ⟨t,ht,h2⟩:=Zjm h1
   obtain ⟨ad,c,hA,_,hK,hcc⟩:=Kd.Znb HR.out z24 (q:Int) (by omega) (by have := HN.out;omega)
   have hx':l0.getD (q:Int).toNat z24=x:=by rw [Int.toNat_natCast];exact hx
   rw [hx'] at hK
   obtain ⟨A1,c1,rfl,hl1,hg1⟩:=Zl1 hK
   have hcell0:=hcc 0 _ rfl
   have hcell1:=hcc 1 _ rfl
   have hcell2:=hcc 2 _ rfl
   obtain ⟨ad',c',hA',_,hK',hcc'⟩:=Kd.Znb HR.out z24 (0:Int) (by omega) (by have := HN.out;omega)
   obtain ⟨_,_,rfl,_⟩:=Zl1 hK'
   have hfirst:=hcc' 0 _ rfl
   obtain rfl:ad=ad':=Option.some.inj (hA.symm.trans hA')
   subst hA
   obtain ⟨b_,o_,rfl⟩:=Zln (show w.cell? ad=_ from hfirst)
   have hck0:wr.cell? ⟨b_,o_ + q * 3,none⟩=some (.bool x.f0):=by
    have h3:=Zc1 hb hcell0
    rw [Ziu] at h3
    simpa [show k24.sz=3 from rfl,Nat.add_assoc] using h3
   have hck1:wr.cell? ⟨b_,o_ + q * 3 + 1,none⟩=some (.slice A1 x.f1.length c1):=by
    have h3:=Zc1 hb hcell1
    rw [Ziu] at h3
    simpa [show k24.sz=3 from rfl,Nat.add_assoc] using h3
   have hck2:wr.cell? ⟨b_,o_ + q * 3 + 2,none⟩=some (.int .i64 x.f2):=by
    have h3:=Zc1 hb hcell2
    rw [Ziu] at h3
    simpa [show k24.sz=3 from rfl,Nat.add_assoc] using h3
   have hgw:Kd.C (Kd.int .u32) wr A1 x.f1.length x.f1:=Kd.Zh hg1 hb
   have cF:=Zev.calls k x.f0 A1 c1 x.f1 x.f2 t wr hgw hl1 ht
   obtain ⟨y0,hy0⟩:∃ y,x.f0=y:=⟨_,rfl⟩
   obtain ⟨y1,hy1⟩:∃ y,x.f1.length=y:=⟨_,rfl⟩
   obtain ⟨y2,hy2⟩:∃ y,x.f2=y:=⟨_,rfl⟩
   rw [hy0] at hck0 cF
   rw [hy1] at hck1 cF
   rw [hy2] at hck2 cF
   have HF:=Aside0.mk h2
   clear h1 hdrop hx hx' ht hcc hcell0 hcell1 hcell2 HP h2 hK hl1 hg1 hgw hy0 hy1 hy2 hfirst hcc' hA' hK'
   cases t with
   | true =>
    have HF1:=Aside0.mk (HF.out.1 rfl)
    clear HF
    go_wp2_with (go_at_call 124;refine (cF).mono ?_;rintro e w1 ⟨rfl,hb1⟩)
    go_ret
    exact ⟨Zoe HF1.out q,hb.trans (hb1.mono hb.size)⟩
   | false =>
    have HF1:=Aside0.mk (HF.out.2 rfl)
    clear HF
    go_wp2_with (go_at_call 124;refine (cF).mono ?_;rintro e w1 ⟨rfl,hb1⟩)
    go_roundw
    case rel=>exact ⟨q + 1,by omega,by go_num,HF1,hb.trans (hb1.mono hb.size)⟩
    case measure=>simp [intOf];omega
  ·obtain rfl:q=n:=by omega
   have h1:=HP.out
   rw [List.drop_of_length_le (by have := HN.out;omega)] at h1
   have h2:=Aside0.mk (Zlp h1)
   clear h1
   go_wp2
   go_ret
   exact ⟨Zjv h2.out,hb⟩
theorem Zcr.calls (k:Nat) (A0:Option Addr) (c0:Nat) (l0:List S24) (r:Bool) (w:World) (hr0:Kd.C k24 w A0 l0.length l0) (hc0:l0.length<=c0) (h:Zcr.f k l0=some r) :
  Calls Tryz.prog 123 #[.slice A0 l0.length c0,.func (.func 124) #[] #[]] w fun e w'=>e=.returned (.bool r)/\Below w.heap.size w w':=by
 have cI:=Zcr.index k A0 c0 l0 r w hr0 hc0 h
 clear h hr0 hc0
 go_enter Tryz.func123,Tryz.ntmps123
 go_wp2_with (go_at_call 154;refine cI.mono ?_;rintro e w1 ⟨⟨i,rfl,hi⟩,hb1⟩)
 go_ret
 exact ⟨by rw [<- hi];first|rfl|simp,hb1⟩
end YtjbjkmccfocikaaGreatDoor.B
end
section
namespace YtjbjkmccfocikaaGreatDoor.B
open Go.RowKit YtjbjkmccfocikaaGreatDoorW.PrintWords YtjbjkmccfocikaaGreatDoorW.PrintLast YtjbjkmccfocikaaGreatDoorW.PrintMore
attribute [local go_sem] Zb7 Zb9 Zcu Zcv Zbt Zbu Zb8 Zca
def Zch.f (a0_0:Bool) (l0_1:List Int) (a0_2:Int):Option (Bool):=some ((l0_1.length:Int) == 0)
theorem Zch.calls (a0_0:Bool) (A0_1:Option Addr) (c0_1:Nat) (l0_1:List Int) (a0_2:Int) (r:Bool) (w:World) (hr0_1:Kd.C (Kd.int .u32) w A0_1 l0_1.length l0_1) (hc0_1:l0_1.length<=c0_1) (h:Zch.f a0_0 l0_1 a0_2=some r) :
  Calls Tryz.prog 104 #[.agg #[.bool a0_0,.slice A0_1 l0_1.length c0_1,.int .i64 a0_2]] w fun e w'=>e=.returned (.bool r)/\Below w.heap.size w w':=by
 have hu106:=Tryz.underlying106
 have HR0_1:=am hr0_1
 have HC0_1:=am hc0_1
 clear hr0_1 hc0_1
 have HB:=am (Below.refl w.heap.size w)
 have H:(some ((l0_1.length:Int) == 0))=some r:=h
 clear h
 obtain rfl:=Option.some.inj H
 go_enter Tryz.func104,Tryz.ntmps104
 go_wp2_with (first|((with_reducible refine gd 1 ?_);refine bx 1 #[.bool a0_0,.slice A0_1 l0_1.length c0_1,.int .i64 a0_2] 106 (h:=?_);intro gb186 hg w2 hbox hb;have BK186:=am hbox;have GW186:=gW hg;have GE186:=gW hg;replace HB:=bS hb;clear hb hbox hg;obtain ⟨hcz3_0,hcz3_1,hcz3_2,hfz3_0,hfz3_1,hfz3_2⟩:=cEc BK186.out))
 go_ret
 exact ⟨pE,pB⟩
def Zfj.f (l0:List Int) (a1:Int):Option (List Int):=some l0
theorem Zfj.calls (P0_:Nat->Prop) (u9000_:Value) (l0:List Int) (a1:Int) (r:List Int) (w0 w:World) (hB:Below w0.heap.size w0 w) (ho0:Kd.R (Kd.int .u32) 85 w w0.heap.size P0_ u9000_ l0) (h:Zfj.f l0 a1=some r) :
  Calls Tryz.prog 105 #[u9000_,.int .i64 a1] w fun e w' => ∃ v0_:Value,e=.returned (v0_)/\Kd.R (Kd.int .u32) 85 w' w0.heap.size (fun k_=>(P0_ k_\/w.heap.size<=k_)) v0_ r/\Below w0.heap.size w0 w'/\Kept w w' (fun k_=>P0_ k_):=by
 have HO0:=am (show Kd.R (Kd.int .u32) 85 w w0.heap.size (fun k_=>(P0_ k_\/w.heap.size<=k_)) u9000_ l0 from Kd.Zi ho0 (fun k_ hk=>(.inl hk)))
 have HK:=am (Kept.refl w (fun k_=>P0_ k_))
 have HW0:=am hB.size
 have HB:=am hB
 clear hB
 have H:(some l0)=some r:=h
 clear h
 obtain rfl:=Option.some.inj H
 go_enter Tryz.func105,Tryz.ntmps105
 go_wp2
 go_ret
 exact ⟨_,pE,by refine rp ?_;exact HO0.out,pB,by repeat (first|(with_reducible first|exact HK.out|apply Kept.alloc|apply Kept.drewN|apply Kept.drew)|exact HK.out)⟩
def Zeq.f (a0:ByteArray) (a1:Int):Option (ByteArray):=some a0
theorem Zeq.calls (a0:ByteArray) (a1:Int) (r:ByteArray) (w:World) (h:Zeq.f a0 a1=some r) :
  Calls Tryz.prog 111 #[.string a0,.int .i64 a1] w fun e w'=>e=.returned (.string r)/\Drawn0 w w':=by
 have H:(some a0)=some r:=h
 clear h
 obtain rfl:=Option.some.inj H
 go_enter Tryz.func111,Tryz.ntmps111
 go_wp2
 go_ret
 exact ⟨pR,pD⟩
def Zcd.l0:Nat->Int->List Int->Int->Int->Option (Int)
 | 0,_,_,_,_=>none
 | k + 1,x3,x7,x8,x9=>if x9 < x8 then (if 0<=x9 then (if x9 < (x7.length:Int) then (Zcd.l0 k ((((x3 * 10) % 4294967296) + (((rd x7 x9) - 48) % 256)) % 4294967296) x7 x8 (wrap64 (x9 + 1))) else (none)) else (none)) else (some x3)
def Zcd.f (k:Nat) (a0:ByteArray):Option (Int):=(Zb6.f a0).bind fun t240=>(Zcd.l0 k 0 t240 (t240.length:Int) 0)
theorem Zcd.calls (k:Nat) (a0:ByteArray) (r:Int) (w:World) (h:Zcd.f k a0=some r) :
  Calls Tryz.prog 152 #[.string a0] w fun e w'=>e=.returned (.int .u32 r)/\Below w.heap.size w w':=by
 have HB:=am (Below.refl w.heap.size w)
 have H:((Zb6.f a0).bind fun t240=>(Zcd.l0 k 0 t240 (t240.length:Int) 0))=some r:=h
 clear h
 obtain ⟨t240,A2,H⟩:=ob H
 have H':=am H
 clear H
 go_enter Tryz.func152,Tryz.ntmps152
 go_wp2_with (first|((with_reducible refine gd 7 ?_);refine Zb6.op _ _ _ rfl rfl rfl A2.out ?_;intro v241 w3 ho0 hb;have HO242:=am (Kd.Znx (Kd.Zdj (ok':=fun k_=>True) ho0 (fun k_ hk_=>trivial)) (Zb pB));replace HB:=bS hb;obtain ⟨Ao4,co4,eo4⟩:=Kd.Zhj HO242.out;subst eo4))
 go_loopg [3,9] k (fun kq v3 v9 w' => ∃ (x3_1:Int) (x9_1:Int),v3=.int .u32 x3_1/\v9=.int .i64 x9_1/\Aside0 (Zcd.l0 kq x3_1 t240 (t240.length:Int) x9_1=some r)/\Aside0 (kq<=k)/\Aside0 (Kd.V (Kd.int .u8) 5 w' w.heap.size (fun _=>True) (.slice Ao4 t240.length co4) t240)/\Aside0 (Below w.heap.size w w'))
 case atStart=>exact ⟨(0),(0),pR,pR,H',⟨Nat.le_refl _⟩,⟨by refine vp ?_;exact HO242.out⟩,⟨pB⟩⟩
 case round =>
  clear H'
  obtain ⟨x3_1,x9_1,rfl,rfl,HA,HK1,HO_7,HB⟩:=hrel
  cases gk with
  | zero=>exact absurd HA.out (by simp [Zcd.l0])
  | succ k1 =>
   have H:=HA.out
   clear HA
   simp only [Zcd.l0] at H
   by_cases c5:x9_1 < (t240.length:Int)
   ·rw [if_pos c5] at H
    have c5b0:decide (x9_1 < (t240.length:Int))=true:=decide_eq_true c5
    clear c5
    by_cases c6:0<=x9_1
    ·rw [if_pos c6] at H
     have c6b0:decide (0<=x9_1)=true:=decide_eq_true c6
     clear c6
     by_cases c7:x9_1 < (t240.length:Int)
     ·rw [if_pos c7] at H
      have c7b0:decide (x9_1 < (t240.length:Int))=true:=decide_eq_true c7
      clear c7
      have H':=am H
      clear H
      have p243:0<=(x9_1:Int):=of_decide_eq_true pQ
      have q243:x9_1 < (t240.length:Int):=of_decide_eq_true pQ
      obtain ⟨ad243,e243,hx243_0⟩:=Kd.Za4 (Kd.Zcg HO_7.out).2.2 x9_1 p243 q243
      cases e243
      replace p243:=eq_true p243
      replace q243:=eq_true q243
      go_wp2
      go_roundg k1
      case measure=>have := HK1.out;omega
      case rel=>exact ⟨((((x3_1 * 10) % 4294967296) + (((rd t240 x9_1) - 48) % 256)) % 4294967296),(wrap64 (x9_1 + 1)),pR,pR,H',⟨by have := HK1.out;omega⟩,⟨by refine vp ?_;exact HO_7.out⟩,⟨pB⟩⟩
     ·rw [if_neg c7] at H
      exact absurd H (by simp)
    ·rw [if_neg c6] at H
     exact absurd H (by simp)
   ·rw [if_neg c5] at H
    have c5b0:decide (x9_1 < (t240.length:Int))=false:=decide_eq_false c5
    clear c5
    obtain rfl:=Option.some.inj H
    go_wp2
    go_ret
    exact ⟨pE,pB⟩
def Zdy.f (a0:Int):Option (Bool):=if a0 < 48 then (some true) else (some (decide (a0 > 57)))
theorem Zdy.calls (a0:Int) (r:Bool) (w:World) (h:Zdy.f a0=some r) :
  Calls Tryz.prog 151 #[.int .u8 a0] w fun e w'=>e=.returned (.bool r)/\Drawn0 w w':=by
 have H:(if a0 < 48 then (some true) else (some (decide (a0 > 57))))=some r:=h
 clear h
 by_cases c2:a0 < 48
 ·rw [if_pos c2] at H
  have c2b0:decide (a0 < 48)=true:=decide_eq_true c2
  clear c2
  obtain rfl:=Option.some.inj H
  go_enter Tryz.func151,Tryz.ntmps151
  go_wp2
  go_ret
  exact ⟨pR,pD⟩
 ·rw [if_neg c2] at H
  have c2b0:decide (a0 < 48)=false:=decide_eq_false c2
  clear c2
  obtain rfl:=Option.some.inj H
  go_enter Tryz.func151,Tryz.ntmps151
  go_wp2
  go_ret
  exact ⟨pR,pD⟩
end YtjbjkmccfocikaaGreatDoor.B
end
section
namespace YtjbjkmccfocikaaGreatDoor.B
open Go.RowKit YtjbjkmccfocikaaGreatDoorW.PrintWords YtjbjkmccfocikaaGreatDoor.P
def Zb0.f (l:List Int):Option Bool:=anyO (fun x=>Zdy.f x) l
theorem Zb0.index (A0:Option Addr) (c0:Nat) (l0:List Int) (b:Bool) (w:World) (hr0:Kd.C (Kd.int .u8) w A0 l0.length l0) (hc0:l0.length<=c0) (h:Zb0.f l0=some b) :
  Calls Tryz.prog 182 #[.slice A0 l0.length c0,.func (.func 151) #[] #[]] w fun e w'=>IdxR b e/\Below w.heap.size w w':=by
 have hm:l0.length<=9223372036854775807:=Kd.Zsa hr0
 have HR:=Aside0.mk hr0
 have HC:=Aside0.mk hc0
 unfold Zb0.f at h
 have H0:=Aside0.mk h
 obtain ⟨n,hn⟩:∃ n,l0.length=n:=⟨_,rfl⟩
 rw [hn] at hm
 have HN:=Aside0.mk hn
 clear h hr0 hc0
 rw [hn]
 clear hn
 go_enter Tryz.func182,Tryz.ntmps182
 go_wp2
 go_loopw [8] (fun i wr => ∃ k_:Nat,k_<=n/\i=.int .i64 k_/\Aside0 (anyO (fun x=>Zdy.f x) (l0.drop k_)=some b)/\Below w.heap.size w wr) (fun i _=>n - (intOf i).toNat)
 case atStart=>exact ⟨0,Nat.zero_le _,rfl,⟨H0.out⟩,Below.refl _ _⟩
 case round =>
  obtain ⟨q,hq,rfl,HP,hb⟩:=hrel
  by_cases hlt:q < n
  ·have hlt':(q:Int) < (n:Int):=by omega
   have hdrop:l0.drop q=(l0.getD q (0:Int)) :: l0.drop (q + 1):=Zlw (by have := HN.out;omega)
   obtain ⟨x,hx⟩:∃ x,l0.getD q (0:Int)=x:=⟨_,rfl⟩
   have h1:=HP.out
   rw [hdrop,hx] at h1
   obtain ⟨t,ht,h2⟩:=Zjm h1
   obtain ⟨ad,c,hA,_,hK,hcc⟩:=Kd.Znb HR.out (0:Int) (q:Int) (by omega) (by have := HN.out;omega)
   have hx':l0.getD (q:Int).toNat 0=x:=by rw [Int.toNat_natCast];exact hx
   obtain rfl:c=[.int .u8 (l0.getD (q:Int).toNat 0)]:=hK
   rw [hx'] at hcc
   have hcell0:=hcc 0 _ rfl
   obtain ⟨ad',c',hA',_,hK',hcc'⟩:=Kd.Znb HR.out (0:Int) (0:Int) (by omega) (by have := HN.out;omega)
   obtain rfl:c'=[.int .u8 (l0.getD (0:Int).toNat 0)]:=hK'
   have hfirst:=hcc' 0 _ rfl
   obtain rfl:ad=ad':=Option.some.inj (hA.symm.trans hA')
   subst hA
   obtain ⟨b_,o_,rfl⟩:=Zln (show w.cell? ad=_ from hfirst)
   have hck:wr.cell? ⟨b_,o_ + q,none⟩=some (.int .u8 x):=by
    have h3:=Zc1 hb hcell0
    rw [Ziu] at h3
    simpa [show (Kd.int .u8).sz=1 from rfl] using h3
   have cF:=fun W:World=>Zdy.calls x t W ht
   have HF:=Aside0.mk h2
   clear h1 hdrop hx hx' ht hcc hcell0 HP h2 hfirst hcc' hA'
   cases t with
   | true =>
    have HF1:=Aside0.mk (HF.out.1 rfl)
    clear HF
    go_wp2_with (go_at_call 151;refine (cF _).mono ?_;rintro e w1 ⟨rfl,hb1⟩)
    go_ret
    exact ⟨Zoe HF1.out q,hb.trans (hb1.below.mono hb.size)⟩
   | false =>
    have HF1:=Aside0.mk (HF.out.2 rfl)
    clear HF
    go_wp2_with (go_at_call 151;refine (cF _).mono ?_;rintro e w1 ⟨rfl,hb1⟩)
    go_roundw
    case rel=>exact ⟨q + 1,by omega,by go_num,HF1,hb.trans (hb1.below.mono hb.size)⟩
    case measure=>simp [intOf];omega
  ·obtain rfl:q=n:=by omega
   have h1:=HP.out
   rw [List.drop_of_length_le (by have := HN.out;omega)] at h1
   have h2:=Aside0.mk (Zlp h1)
   clear h1
   go_wp2
   go_ret
   exact ⟨Zjv h2.out,hb⟩
theorem Zb0.calls (A0:Option Addr) (c0:Nat) (l0:List Int) (r:Bool) (w:World) (hr0:Kd.C (Kd.int .u8) w A0 l0.length l0) (hc0:l0.length<=c0) (h:Zb0.f l0=some r) :
  Calls Tryz.prog 150 #[.slice A0 l0.length c0,.func (.func 151) #[] #[]] w fun e w'=>e=.returned (.bool r)/\Below w.heap.size w w':=by
 have cI:=Zb0.index A0 c0 l0 r w hr0 hc0 h
 clear h hr0 hc0
 go_enter Tryz.func150,Tryz.ntmps150
 go_wp2_with (go_at_call 182;refine cI.mono ?_;rintro e w1 ⟨⟨i,rfl,hi⟩,hb1⟩)
 go_ret
 exact ⟨by rw [<- hi];first|rfl|simp,hb1⟩
end YtjbjkmccfocikaaGreatDoor.B
end
section
namespace YtjbjkmccfocikaaGreatDoor.B
open Go.RowKit YtjbjkmccfocikaaGreatDoorW.PrintWords YtjbjkmccfocikaaGreatDoorW.PrintLast YtjbjkmccfocikaaGreatDoorW.PrintMore
attribute [local go_sem] Zb7 Zb9 Zcu Zcv Zbt Zbu Zb8 Zca
def Za1.l0:Nat->ByteArray->List Int->Option (List Int × Int)
 | 0,_,_=>none
 | k + 1,x0,x4=>if x0.toList=([]:List UInt8) then (some (x4,0)) else ((Zae.f k x4 (([1000000000]:List Int))).bind fun t251=>(if 0<=(wrap64 ((Int.tmod (wrap64 ((x0.size:Int) - 1)) 9) + 1)) then (if (wrap64 ((Int.tmod (wrap64 ((x0.size:Int) - 1)) 9) + 1))<=(x0.size:Int) then ((Zcd.f k (x0.extract 0 ((wrap64 ((Int.tmod (wrap64 ((x0.size:Int) - 1)) 9) + 1)):Int).toNat)).bind fun t254=>((Zw.f k (([t254]:List Int))).bind fun t258=>((Zad.f k t251 t258).bind fun t261=>(Za1.l0 k (x0.extract ((wrap64 ((Int.tmod (wrap64 ((x0.size:Int) - 1)) 9) + 1)):Int).toNat x0.size) t261)))) else (none)) else (none)))
def Za1.f (k:Nat) (a0:ByteArray):Option (List Int × Int):=if (a0.size:Int)=0 then (some (([]:List Int),8)) else (if (a0.size:Int) > 2400 then (some (([]:List Int),5)) else ((Zb6.f a0).bind fun t244=>((Zb0.f t244).bind fun t247=>(if t247=true then (some (([]:List Int),32)) else (Za1.l0 k a0 ([]:List Int))))))
def Za1.T10:Bool × List (List Nat × List Nat):=(true,[([],[]),([],[]),([0,1],[0,1]),([],[]),([],[]),([3,4],[3,4]),([5,2],[5]),([6],[6]),([7,6],[7]),([2,8,8],[2,8]),([9,9,0,1,2,3,4,5,6,7,8,9],[0,9])])
def Za1.B10:List Nat:=[0,0,3,0,0,24,63,127,255,511,1023]
theorem Za1.tab10:rtab .any (opsOf Tryz.f116 10)=Za1.T10:=by kernel_rfl
theorem Za1.bits10:waitsOk Za1.T10.2 Za1.B10=true:=by kernel_rfl
theorem Za1.leaf {P:Prop} (h:P:=by
 go_enter Tryz.func116,Tryz.ntmps116
 go_wp2_with (first|((with_reducible refine gd 16 ?_);refine Zb6.op _ _ _ rfl rfl rfl A4.out ?_;intro v0z w1z ho2z hb;have HO3z:=am (Kd.Znx (Kd.Zdj (ok':=fun k_=>True) ho2z (fun k_ hk_=>trivial)) (Zb pB));replace HB:=bS hb;obtain ⟨Ao4z,co5z,eo6z⟩:=Kd.Zhj HO3z.out;subst eo6z)|(refine gL (some 17) Tryz.func150 #[.slice Ao4z t244.length co5z,.func (.func 151) #[] #[]] (h:=?_);(with_reducible refine (Zb0.calls _ _ t244 true _ ?side1 ?side2 A5.out).mono ?_);(case side1=>exact Kd.Zh (Kd.Zcg HO3z.out).2.2 pl);(case side2=>exact (Kd.Zcg HO3z.out).2.1);rintro e w7z ⟨rfl,hb⟩;refine ⟨_,rfl,?_⟩;replace HO3z:=vbl HO3z hb;replace HB:=bS hb)|(refine gL (some 17) Tryz.func150 #[.slice Ao4z t244.length co5z,.func (.func 151) #[] #[]] (h:=?_);(with_reducible refine (Zb0.calls _ _ t244 false _ ?side1 ?side2 A5.out).mono ?_);(case side1=>exact Kd.Zh (Kd.Zcg HO3z.out).2.2 pl);(case side2=>exact (Kd.Zcg HO3z.out).2.1);rintro e w7z ⟨rfl,hb⟩;refine ⟨_,rfl,?_⟩;replace HO3z:=vbl HO3z hb;replace HB:=bS hb))
 first
  | have q_:=A5;have q_:Aside0 (_=some false):=A5
    go_loopg [0,4] k (fun kq v8z v9z w' => ∃ (x10z:ByteArray) (x11z:List Int),v8z=.string x10z/\Aside0 (Za1.l0 kq x10z x11z=some (r1,r2))/\Aside0 (kq<=k)/\Aside0 (Kd.R (Kd.int .u32) 85 w' w.heap.size (fun _=>True) v9z x11z)/\Aside0 (Below w.heap.size w w'))
    case atStart=>exact ⟨(a0),(([]:List Int)),pR,H',⟨Nat.le_refl _⟩,⟨pN⟩,⟨pB⟩⟩
    case round =>
     clear H'
     obtain ⟨x10z,x11z,rfl,HA,HK12z,HO_4,HB⟩:=hrel
     cases gk with
     | zero=>exact absurd HA.out (by simp [Za1.l0])
     | succ k1 =>
      have H:=HA.out
      clear HA
      simp only [Za1.l0] at H
      by_cases c13z:x10z.toList=([]:List UInt8)
      ·rw [if_pos c13z] at H
       have c14z:(x10z.toList == ([]:List UInt8))=true:=beq_iff_eq.mpr c13z
       have c15z:(x10z.toList != ([]:List UInt8))=false:=bne_eq_false_iff_eq.mpr c13z
       clear c13z
       simp only [Option.some.injEq,Prod.mk.injEq] at H
       obtain ⟨rfl,rfl⟩:=H
       go_wp2
       go_ret2
       exact ⟨_,pE,by refine rp ?_;exact HO_4.out,pB⟩
      ·rw [if_neg c13z] at H
       have c14z:(x10z.toList == ([]:List UInt8))=false:=beq_eq_false_iff_ne.mpr c13z
       have c15z:(x10z.toList != ([]:List UInt8))=true:=bne_iff_ne.mpr c13z
       obtain ⟨y16z,hy17z⟩:∃ y_:List Int,y_=(([1000000000]:List Int)):=⟨_,rfl⟩
       replace H:((Zae.f k1 x11z y16z).bind fun t18z=>(if 0<=(wrap64 ((Int.tmod (wrap64 ((x10z.size:Int) - 1)) 9) + 1)) then (if (wrap64 ((Int.tmod (wrap64 ((x10z.size:Int) - 1)) 9) + 1))<=(x10z.size:Int) then ((Zcd.f k1 (x10z.extract 0 ((wrap64 ((Int.tmod (wrap64 ((x10z.size:Int) - 1)) 9) + 1)):Int).toNat)).bind fun t19z=>((Zw.f k1 (([t19z]:List Int))).bind fun t20z=>((Zad.f k1 t18z t20z).bind fun t21z=>(Za1.l0 k1 (x10z.extract ((wrap64 ((Int.tmod (wrap64 ((x10z.size:Int) - 1)) 9) + 1)):Int).toNat x10z.size) t21z)))) else (none)) else (none)))=some (r1,r2):=by have hy_:=hy17z;exact pH
       have Ny22z:=am hy17z
       clear hy17z
       obtain ⟨t18z,A23z,H⟩:=ob H
       obtain ⟨ji24z,hji25z⟩:∃ j_:Int,(wrap64 ((Int.tmod (wrap64 ((x10z.size:Int) - 1)) 9) + 1))=j_:=⟨_,rfl⟩
       replace H:(if 0<=(ji24z) then (if (ji24z)<=(x10z.size:Int) then ((Zcd.f k1 (x10z.extract 0 ((ji24z):Int).toNat)).bind fun t19z=>((Zw.f k1 (([t19z]:List Int))).bind fun t20z=>((Zad.f k1 t18z t20z).bind fun t21z=>(Za1.l0 k1 (x10z.extract ((ji24z):Int).toNat x10z.size) t21z)))) else (none)) else (none))=some (r1,r2):=by first|(rw [hji25z] at H;exact H)|(simp only [hji25z] at H ⊢;exact H)
       (try rw [hji25z] at A23z)
       have hji26z:(IntKind.i64.wrap ((Int.tmod (wrap64 ((x10z.size:Int) - 1)) 9) + 1))=ji24z:=(Zcc _).trans hji25z
       by_cases c27z:0<=(ji24z)
       ·rw [if_pos c27z] at H
        have c28z:=eq_true c27z
        have c29z:decide (0<=(ji24z))=true:=decide_eq_true c27z
        clear c27z
        by_cases c30z:(ji24z)<=(x10z.size:Int)
        ·rw [if_pos c30z] at H
         have c31z:=eq_true c30z
         have c32z:decide ((ji24z)<=(x10z.size:Int))=true:=decide_eq_true c30z
         clear c30z
         obtain ⟨t19z,A33z,H⟩:=ob H
         obtain ⟨y34z,hy35z⟩:∃ y_:List Int,y_=(([t19z]:List Int)):=⟨_,rfl⟩
         replace H:((Zw.f k1 y34z).bind fun t20z=>((Zad.f k1 t18z t20z).bind fun t21z=>(Za1.l0 k1 (x10z.extract ((ji24z):Int).toNat x10z.size) t21z)))=some (r1,r2):=by have hy_:=hy35z;exact pH
         have Ny36z:=am hy35z
         clear hy35z
         obtain ⟨t20z,A37z,H⟩:=ob H
         obtain ⟨t21z,A38z,H⟩:=ob H
         have c39z:=eq_true (of_decide_eq_true pQ:0<=(ji24z))
         have c40z:=eq_true (of_decide_eq_true pQ:(ji24z)<=(x10z.size:Int))
         have H':=am H
         clear H
         try go_wp2
         replace HO_4:=am (Kd.Zei HO_4.out)
         replace HB:=am (Zaz HB.out)
         refine start_ (n:=11) (S:=fun w'=>True) (ds:=[]) #[false,false,false,false,false,false,false,false,false,false,false] (by kernel_rfl) rfl rfl trivial (fun hHeld=>?_);refine Zcn Za1.tab10 Za1.bits10 (fun HT_ HW_=>?_)
         generalize wr.drew=w41z at HO_4 HB hHeld ⊢
         refine pu 0 (some 25) #[true,false,false,false,false,false,false,false,false,false,false] (h:=?_)
         refine pu 3 (some 28) #[true,false,false,true,false,false,false,false,false,false,false] (h:=?_)
         refine pu 4 (some 29) #[true,false,false,true,true,false,false,false,false,false,false] (h:=?_)
         refine pu 5 (some 30) #[true,false,false,true,true,true,false,false,false,false,false] (h:=?_)
         refine one_ (i:=1) (N:=some 26) #[true,true,false,true,true,true,false,false,false,false,false] rfl rfl (Zbx HT_.out (by kernel_rfl)) (by decide) (fun K hK=>?_)
         refine Kd.Zia (Kd.int .u32) _ 85 ?hg (N:=26) ?hd (xs:=([1000000000]:List Int)) (inner:=[.int .u32 1000000000]) (ok:=fun _=>True) (okp:=fun _=>True) ?hr ?hp (fun _ hk=>hk) trivial (Below.refl _ _) (Nat.le_refl _) (by simp) ?_;(case hd=>rfl);(case hg=>rfl);(case hr=>first|(go_simp;done)|(go_simp;rfl));(case hp=>exact (Reps.one (show Kd.M (Kd.int .u32) _ _ _ 1000000000 [.int .u32 1000000000] from rfl) (Reps.none _ _)))
         intro v42z w43z ho44z hb hg_ hnew_
         clear hg_ hnew_
         (first|rw [<- Ny22z.out] at ho44z|(simp only [Int.reduceToNat] at ho44z;rw [<- Ny22z.out] at ho44z))
         have HO45z:=am (Kd.Zq (Kd.Zv ho44z (Kd.R_lt (Kd.Za HO_4.out pl))) (Zb pB))
         replace HO_4:=reR HO_4 ho44z hb
         replace HB:=bS hb
         clear hb ho44z
         obtain ⟨Ao46z,co47z,eo48z⟩:=Kd.Zm HO_4.out
         (first|subst eo48z|(injection eo48z with f1_ f2_ f3_;have f4_:=f1_.symm;have f5_:=f3_.symm;clear f1_ f2_ f3_;subst f4_;subst f5_))
         obtain ⟨Ao49z,co50z,eo51z⟩:=Kd.Zm HO45z.out
         (first|subst eo51z|(injection eo51z with f1_ f2_ f3_;have f4_:=f1_.symm;have f5_:=f3_.symm;clear f1_ f2_ f3_;subst f4_;subst f5_))
         refine hK.out _ _ trivial (fun hHeld=>?_)
         clear hK K
         refine norm_ (a':=?_) ?_ ?_
         rotate_left
         ·show Act.put _ (some 26) _=_
          exact pP
         refine one_ (i:=2) (N:=some 27) #[true,true,true,true,true,true,false,false,false,false,false] rfl rfl (Zbx HT_.out (by kernel_rfl)) (by decide) (fun K hK=>?_)
         refine goes_ Tryz.func129 (by kernel_rfl) rfl #[.slice Ao46z x11z.length co47z,.slice Ao49z y16z.length co50z] (by rfl) rfl rfl pA ?_
         with_reducible refine (Zae.calls k1 _ _ x11z _ _ y16z t18z _ ?side1 ?side2 ?side3 ?side4 A23z.out).mono ?_
         (case side1=>exact Kd.Zh (Kd.Zd HO_4.out).2.2 pl)
         (case side2=>exact (Kd.Zd HO_4.out).2.1)
         (case side3=>exact Kd.Zh (Kd.Zd HO45z.out).2.2 pl)
         (case side4=>exact (Kd.Zd HO45z.out).2.1)
         rintro e w52z ⟨v53z,rfl,ho2z,hb⟩
         refine ⟨_,rfl,?_⟩
         have HO54z:=am (Kd.Zq (Kd.Zv (Kd.Zv ho2z (Kd.R_lt (Kd.Za HO_4.out pl))) (Kd.R_lt (Kd.Za HO45z.out pl))) (Zb pB))
         replace HO_4:=reR HO_4 ho2z hb
         replace HO45z:=reR HO45z ho2z hb
         replace HB:=bS hb
         refine hK.out _ _ trivial (fun hHeld=>?_)
         clear hK K
         refine norm_ (a':=?_) ?_ ?_
         rotate_left
         ·show Act.put _ (some 27) _=_
          exact pP
         refine one_ (i:=6) (N:=some 31) #[true,true,true,true,true,true,true,false,false,false,false] rfl rfl (Zbx HT_.out (by kernel_rfl)) (by decide) (fun K hK=>?_)
         refine goes_ Tryz.func152 (by kernel_rfl) rfl #[.string (x10z.extract 0 ((ji24z):Int).toNat)] (by rfl) rfl rfl (by (try simp only [List.map_toArray,List.map_cons,List.map_nil]);first|done|(simp only [hji25z];rfl)|rfl|(simp only [List.length_drop,List.length_take];rfl)) ?_
         with_reducible refine (Zcd.calls k1 (x10z.extract 0 ((ji24z):Int).toNat) t19z _ A33z.out).mono ?_
         rintro e w55z ⟨rfl,hb⟩
         refine ⟨_,rfl,?_⟩
         replace HO_4:=rbl HO_4 hb
         replace HO45z:=rbl HO45z hb
         replace HO54z:=rbl HO54z hb
         replace HB:=bS hb
         refine hK.out _ _ trivial (fun hHeld=>?_)
         clear hK K
         refine norm_ (a':=?_) ?_ ?_
         rotate_left
         ·show Act.put _ (some 31) _=_
          exact pP
         refine one_ (i:=7) (N:=some 32) #[true,true,true,true,true,true,true,true,false,false,false] rfl rfl (Zbx HT_.out (by kernel_rfl)) (by decide) (fun K hK=>?_)
         refine Kd.Zia (Kd.int .u32) _ 85 ?hg (N:=32) ?hd (xs:=([t19z]:List Int)) (inner:=[.int .u32 t19z]) (ok:=fun _=>True) (okp:=fun _=>True) ?hr ?hp (fun _ hk=>hk) trivial (Below.refl _ _) (Nat.le_refl _) (by simp) ?_;(case hd=>rfl);(case hg=>rfl);(case hr=>first|(go_simp;done)|(go_simp;rfl));(case hp=>exact (Reps.one (show Kd.M (Kd.int .u32) _ _ _ t19z [.int .u32 t19z] from rfl) (Reps.none _ _)))
         intro v56z w57z ho58z hb hg_ hnew_
         clear hg_ hnew_
         (first|rw [<- Ny36z.out] at ho58z|(simp only [Int.reduceToNat] at ho58z;rw [<- Ny36z.out] at ho58z))
         have HO59z:=am (Kd.Zq (Kd.Zv (Kd.Zv (Kd.Zv ho58z (Kd.R_lt (Kd.Za HO_4.out pl))) (Kd.R_lt (Kd.Za HO45z.out pl))) (Kd.R_lt (Kd.Za HO54z.out pl))) (Zb pB))
         replace HO_4:=reR HO_4 ho58z hb
         replace HO45z:=reR HO45z ho58z hb
         replace HO54z:=reR HO54z ho58z hb
         replace HB:=bS hb
         clear hb ho58z
         obtain ⟨Ao60z,co61z,eo62z⟩:=Kd.Zm HO59z.out
         (first|subst eo62z|(injection eo62z with f1_ f2_ f3_;have f4_:=f1_.symm;have f5_:=f3_.symm;clear f1_ f2_ f3_;subst f4_;subst f5_))
         refine hK.out _ _ trivial (fun hHeld=>?_)
         clear hK K
         refine norm_ (a':=?_) ?_ ?_
         rotate_left
         ·show Act.put _ (some 32) _=_
          exact pP
         refine one_ (i:=8) (N:=some 33) #[true,true,true,true,true,true,true,true,true,false,false] rfl rfl (Zbx HT_.out (by kernel_rfl)) (by decide) (fun K hK=>?_)
         refine goes_ Tryz.func132 (by kernel_rfl) rfl #[.slice Ao60z y34z.length co61z] (by rfl) rfl rfl pA ?_
         with_reducible refine (Zw.calls k1 (fun k_=>some k_=(.slice Ao60z y34z.length co61z:Value).ownBlock) (.slice Ao60z y34z.length co61z) y34z t20z w _ ?side1 ?side2 A37z.out).mono ?_
         (case side1=>exact pB)
         (case side2=>exact Kd.Zbr rfl HO59z.out)
         rintro e w63z ⟨v64z,rfl,ho2z,hb,hkp⟩
         refine ⟨_,rfl,?_⟩
         have HO65z:=am (Kd.Zi (ok':=fun k_=>some k_ ≠ (.slice Ao46z x11z.length co47z:Value).ownBlock/\some k_ ≠ (.slice Ao49z y16z.length co50z:Value).ownBlock/\some k_ ≠ (v53z:Value).ownBlock) ho2z (fun k_ hk_=>⟨Or.elim hk_ (fun hs_=>fun e_=>(((HO_4.out).1 k_ e_.symm).2) hs_) (fun hn_=>(Kd.fresh' (Kd.R_lt (Kd.Za HO_4.out pl)) k_ hn_)),Or.elim hk_ (fun hs_=>fun e_=>(((HO45z.out).1 k_ e_.symm).2) hs_) (fun hn_=>(Kd.fresh' (Kd.R_lt (Kd.Za HO45z.out pl)) k_ hn_)),Or.elim hk_ (fun hs_=>fun e_=>(((HO54z.out).1 k_ e_.symm).2) hs_) (fun hn_=>(Kd.fresh' (Kd.R_lt (Kd.Za HO54z.out pl)) k_ hn_))⟩))
         replace HO_4:=am (Kd.Zi (ok':=fun k_=>some k_ ≠ (.slice Ao49z y16z.length co50z:Value).ownBlock/\some k_ ≠ (v53z:Value).ownBlock/\some k_ ≠ (v64z:Value).ownBlock) (Kd.Zcl (HO_4.out) hkp (fun k_ hk_ hs_=>(hk_.2) hs_)) (fun k_ hk_=>⟨hk_.1.1.1.2,hk_.1.1.2,fun e_=>Or.elim (ho2z.1 k_ e_.symm) (fun hs_=>hk_.2.1 hs_) (fun hn_=>Nat.not_le.2 hk_.2.2 hn_)⟩))
         replace HO45z:=am (Kd.Zi (ok':=fun k_=>some k_ ≠ (.slice Ao46z x11z.length co47z:Value).ownBlock/\some k_ ≠ (v53z:Value).ownBlock/\some k_ ≠ (v64z:Value).ownBlock) (Kd.Zcl (HO45z.out) hkp (fun k_ hk_ hs_=>(hk_.2) hs_)) (fun k_ hk_=>⟨hk_.1.1.1.2,hk_.1.1.2,fun e_=>Or.elim (ho2z.1 k_ e_.symm) (fun hs_=>hk_.2.1 hs_) (fun hn_=>Nat.not_le.2 hk_.2.2 hn_)⟩))
         replace HO54z:=am (Kd.Zi (ok':=fun k_=>some k_ ≠ (.slice Ao46z x11z.length co47z:Value).ownBlock/\some k_ ≠ (.slice Ao49z y16z.length co50z:Value).ownBlock/\some k_ ≠ (v64z:Value).ownBlock) (Kd.Zcl (HO54z.out) hkp (fun k_ hk_ hs_=>(hk_.2) hs_)) (fun k_ hk_=>⟨hk_.1.1.1.2,hk_.1.1.2,fun e_=>Or.elim (ho2z.1 k_ e_.symm) (fun hs_=>hk_.2.1 hs_) (fun hn_=>Nat.not_le.2 hk_.2.2 hn_)⟩))
         replace HB:=am hb
         clear HO59z
         obtain ⟨Ao66z,co67z,eo68z⟩:=Kd.Zm HO54z.out
         (first|subst eo68z|(injection eo68z with f1_ f2_ f3_;have f4_:=f1_.symm;have f5_:=f3_.symm;clear f1_ f2_ f3_;subst f4_;subst f5_))
         obtain ⟨Ao69z,co70z,eo71z⟩:=Kd.Zm HO65z.out
         (first|subst eo71z|(injection eo71z with f1_ f2_ f3_;have f4_:=f1_.symm;have f5_:=f3_.symm;clear f1_ f2_ f3_;subst f4_;subst f5_))
         refine hK.out _ _ trivial (fun hHeld=>?_)
         clear hK K
         refine norm_ (a':=?_) ?_ ?_
         rotate_left
         ·show Act.put _ (some 33) _=_
          exact pP
         refine one_ (i:=9) (N:=some 34) #[true,true,true,true,true,true,true,true,true,true,false] rfl rfl (Zbx HT_.out (by kernel_rfl)) (by decide) (fun K hK=>?_)
         refine goes_ Tryz.func131 (by kernel_rfl) rfl #[.slice Ao66z t18z.length co67z,.slice Ao69z t20z.length co70z] (by rfl) rfl rfl pA ?_
         with_reducible refine (Zad.calls k1 _ _ t18z _ _ t20z t21z _ ?side1 ?side2 ?side3 ?side4 A38z.out).mono ?_
         (case side1=>exact Kd.Zh (Kd.Zd HO54z.out).2.2 pl)
         (case side2=>exact (Kd.Zd HO54z.out).2.1)
         (case side3=>exact Kd.Zh (Kd.Zd HO65z.out).2.2 pl)
         (case side4=>exact (Kd.Zd HO65z.out).2.1)
         rintro e w72z ⟨v73z,rfl,ho2z,hb⟩
         refine ⟨_,rfl,?_⟩
         have HO74z:=am (Kd.Zq (Kd.Zv (Kd.Zv (Kd.Zv (Kd.Zv ho2z (Kd.R_lt (Kd.Za HO_4.out pl))) (Kd.R_lt (Kd.Za HO45z.out pl))) (Kd.R_lt (Kd.Za HO54z.out pl))) (Kd.R_lt (Kd.Za HO65z.out pl))) (Zb pB))
         replace HO_4:=reR HO_4 ho2z hb
         replace HO45z:=reR HO45z ho2z hb
         replace HO54z:=reR HO54z ho2z hb
         replace HO65z:=reR HO65z ho2z hb
         replace HB:=bS hb
         refine hK.out _ _ trivial (fun hHeld=>?_)
         clear hK K
         refine norm_ (a':=?_) ?_ ?_
         rotate_left
         ·show Act.put _ (some 34) _=_
          exact pP
         refine pu 10 (some 4) #[true,true,true,true,true,true,true,true,true,true,true] (h:=?_)
         refine done_ (Zdl HT_.out (by kernel_rfl)) ?_
         try go_wp2
         go_roundg k1
         case measure=>have := HK12z.out;omega
         case rel=>exact ⟨(x10z.extract ((ji24z):Int).toNat x10z.size),(t21z),(by first|rfl|(simp;done)|(simp only [<- hji25z] <;> (first|rfl|simp))|(simp [*];done)),(by first|exact H'|(have H_:=H'.out;simp only [<- hji25z] at H_;exact ⟨H_⟩)|(refine ⟨?_⟩;have H_:=H'.out;simp only [<- hji25z] at H_ ⊢;exact H_)),⟨by have := HK12z.out;omega⟩,⟨by refine rp ?_;exact Kd.Zi HO74z.out (fun _ hk=>trivial)⟩,⟨pB⟩⟩
        ·rw [if_neg c30z] at H
         exact absurd H (by simp)
       ·rw [if_neg c27z] at H
        exact absurd H (by simp)
  | go_ret2
    exact ⟨_,pE,pN,pB⟩):P:=h
theorem Za1.calls (k:Nat) (a0:ByteArray) (r1:List Int) (r2:Int) (w:World) (h:Za1.f k a0=some (r1,r2)) :
  Calls Tryz.prog 116 #[.string a0] w fun e w' => ∃ v0_:Value,e=.returned (.tuple #[v0_,.int .i64 r2])/\Kd.R (Kd.int .u32) 85 w' w.heap.size (fun _=>True) v0_ r1/\Below w.heap.size w w':=by
 have HB:=am (Below.refl w.heap.size w)
 have H:(if (a0.size:Int)=0 then (some (([]:List Int),8)) else (if (a0.size:Int) > 2400 then (some (([]:List Int),5)) else ((Zb6.f a0).bind fun t244=>((Zb0.f t244).bind fun t247=>(if t247=true then (some (([]:List Int),32)) else (Za1.l0 k a0 ([]:List Int)))))))=some (r1,r2):=h
 clear h
 by_cases c2:(a0.size:Int)=0
 ·rw [if_pos c2] at H
  have c2b0:((a0.size:Int) == 0)=true:=beq_iff_eq.mpr c2
  have c2b1:((a0.size:Int) != 0)=false:=bne_eq_false_iff_eq.mpr c2
  clear c2
  simp only [Option.some.injEq,Prod.mk.injEq] at H
  obtain ⟨rfl,rfl⟩:=H
  exact Za1.leaf
 ·rw [if_neg c2] at H
  have c2b0:((a0.size:Int) == 0)=false:=beq_eq_false_iff_ne.mpr c2
  have c2b1:((a0.size:Int) != 0)=true:=bne_iff_ne.mpr c2
  by_cases c3:(a0.size:Int) > 2400
  ·rw [if_pos c3] at H
   have c3b0:decide (2400 < (a0.size:Int))=true:=decide_eq_true c3
   have c3b1:decide (2400 < a0.size)=true:=decide_eq_true (by omega)
   clear c3
   simp only [Option.some.injEq,Prod.mk.injEq] at H
   obtain ⟨rfl,rfl⟩:=H
   exact Za1.leaf
  ·rw [if_neg c3] at H
   have c3b0:decide (2400 < (a0.size:Int))=false:=decide_eq_false c3
   have c3b1:decide (2400 < a0.size)=false:=decide_eq_false (by omega)
   clear c3
   obtain ⟨t244,A4,H⟩:=ob H
   obtain ⟨t247,A5,H⟩:=ob H
   by_cases c6:t247=true
   ·subst c6
    rw [if_pos rfl] at H
    simp only [Option.some.injEq,Prod.mk.injEq] at H
    obtain ⟨rfl,rfl⟩:=H
    exact Za1.leaf
   ·replace c6:=Bool.eq_false_iff.mpr c6
    subst c6
    rw [if_neg (show ¬ (false=true) by decide)] at H
    have H':=am H
    clear H
    exact Za1.leaf
end YtjbjkmccfocikaaGreatDoor.B
end
section
namespace YtjbjkmccfocikaaGreatDoor.B
open Go.RowKit Go.Shelf YtjbjkmccfocikaaGreatDoorW.PrintWords
def Zb5.f (s t:ByteArray):Option ByteArray:=if t=⟨#[48]⟩/\s.size<=9223372036854775807 then some ⟨(Lib.trimRightB s.data.toList 48).toArray⟩ else none
theorem Zb5.calls (a0 a1:ByteArray) (r:ByteArray) (w:World) (h:Zb5.f a0 a1=some r) :
  Calls Tryz.prog 167 #[.string a0,.string a1] w fun e w'=>e=.returned (.string r)/\Below w.heap.size w w':=by
 unfold Zb5.f at h
 split at h
 ·rename_i hh
  obtain ⟨rfl,hs⟩:=hh
  obtain rfl:=Option.some.inj h
  exact (Tryz.strings_TrimRight_one a0 48 (by decide) w hs).mono fun e w' ⟨he,hw⟩=>⟨he,by subst hw;exact Below.refl _ _⟩
 ·cases h
end YtjbjkmccfocikaaGreatDoor.B
end
section
namespace YtjbjkmccfocikaaGreatDoor.B
open Go.RowKit YtjbjkmccfocikaaGreatDoorW.PrintWords YtjbjkmccfocikaaGreatDoorW.PrintLast YtjbjkmccfocikaaGreatDoorW.PrintMore
attribute [local go_sem] Zb7 Zb9 Zcu Zcv Zbt Zbu Zb8 Zca
def Zbw.f (k:Nat) (a0_0:Bool) (l0_1:List Int) (a0_2:Int):Option (Bool × List Int × Int):=(Zar.f k l0_1).bind fun bt266=>((Zeq.f bt266.1 bt266.2).bind fun t268=>((Zb5.f t268 (⟨#[48]⟩:ByteArray)).bind fun t269=>(if (t269.size:Int)=(t268.size:Int) then (some (a0_0,l0_1,a0_2)) else ((Za1.f k t269).bind fun bt270=>((Zfj.f bt270.1 bt270.2).bind fun t274=>(some (a0_0,t274,wrap64 (a0_2 + (wrap64 ((t268.size:Int) - (t269.size:Int)))))))))))
theorem Zbw.leaf {P:Prop} (h:P:=by
 obtain ⟨Ao0z,co1z,eo2z⟩:=Kd.Zm HO0_1.out
 subst eo2z
 go_enter Tryz.func140,Tryz.ntmps140
 go_wp2_with (first|((with_reducible refine gd 1 ?_);refine bx 1 #[.bool a0_0,.slice Ao0z l0_1.length co1z,.int .i64 a0_2] 106 (h:=?_);intro gb3z hg w4z hbox hb;have BK5z:=am hbox;have GW6z:=am ((by rw [hg];exact (by first|exact HK.out.1|exact (show Kept w _ (fun k_=>P0_1_ k_) from by repeat (first|(with_reducible first|exact HK.out|apply Kept.alloc|apply Kept.drewN|apply Kept.drew)|exact HK.out)).1):w.heap.size<=gb3z));have GE7z:=am ((gw hg pB:w0.heap.size<=gb3z));replace HO0_1:=rbl HO0_1 hb;replace HK:=am (Kept.below (S:=(fun k_=>P0_1_ k_)) (by repeat (first|(with_reducible first|exact HK.out|apply Kept.alloc|apply Kept.drewN|apply Kept.drew)|exact HK.out)) hb);replace HB:=bS hb;clear hb hbox hg)|((with_reducible refine gd 2 ?_);refine bx 2 #[.bool false,.slice none 0 0,.int .i64 0] 106 (h:=?_);intro gb8z hg w9z hbox hb;have BK10z:=am hbox;have GW11z:=am ((by rw [hg];exact (by first|exact HK.out.1|exact (show Kept w _ (fun k_=>P0_1_ k_) from by repeat (first|(with_reducible first|exact HK.out|apply Kept.alloc|apply Kept.drewN|apply Kept.drew|refine Kept.setCell ?_ (.inr GW6z.out) _)|exact HK.out)).1):w.heap.size<=gb8z));have GE12z:=am ((gw hg pB:w0.heap.size<=gb8z));have NB13z:=nL hg BK5z;have NB14z:=nG hg BK5z;replace HO0_1:=rbl HO0_1 hb;replace BK5z:=bb BK5z hb;replace HK:=am (Kept.below (S:=(fun k_=>P0_1_ k_)) (by repeat (first|(with_reducible first|exact HK.out|apply Kept.alloc|apply Kept.drewN|apply Kept.drew|refine Kept.setCell ?_ (.inr GW6z.out) _)|exact HK.out)) hb);replace HB:=bS hb;clear hb hbox hg;have hnb15z:=NB13z.out;have hnc16z:=NB14z.out;obtain ⟨hcz17z,hcz18z,hcz19z,hfz20z,hfz21z,hfz22z⟩:=cEc BK5z.out)|(refine gL (some 8) Tryz.func112 #[.slice Ao0z l0_1.length co1z] (h:=?_);(with_reducible refine (Zar.calls k (fun k_=>some k_=(.slice Ao0z l0_1.length co1z:Value).ownBlock) _ _ l0_1 t266 t267 _ ?side1 A2.out).mono ?_);(case side1=>exact Kd.R_V (Kd.Zbr rfl (Kd.Zu (Kd.Zu (HO0_1.out) BK5z.out (by decide)) BK10z.out (by decide))));rintro e w23z ⟨rfl,hb⟩;refine ⟨_,rfl,?_⟩;replace HO0_1:=rbl HO0_1 hb;replace BK5z:=bb BK5z hb;replace BK10z:=bb BK10z hb;replace HK:=am (Kept.below (S:=(fun k_=>P0_1_ k_)) (by repeat (first|(with_reducible first|exact HK.out|apply Kept.alloc|apply Kept.drewN|apply Kept.drew|refine Kept.setCell ?_ (.inr GW6z.out) _|refine Kept.setCell ?_ (.inr GW11z.out) _)|exact HK.out)) hb);replace HB:=bS hb)|(refine gL (some 11) Tryz.func111 #[.string t266,.int .i64 t267] (h:=?_);(with_reducible refine (Zeq.calls t266 t267 t268 _ A3.out).mono ?_);rintro e w' ⟨rfl,⟨nd,rfl⟩⟩;refine ⟨_,rfl,?_⟩;(try (rw [Zgm w23z];generalize hq_:World.drewN w23z _=w23z;replace HO0_1:Aside0 (Kd.R (Kd.int .u32) 85 w23z w0.heap.size (fun k_=>(P0_1_ k_\/w.heap.size<=k_)) (.slice Ao0z l0_1.length co1z) l0_1):=⟨by rw [<- hq_];exact (Kd.Za HO0_1.out pl)⟩;replace BK5z:Aside0 (w23z.heap[gb3z]? = some (.cells #[.bool a0_0,.slice Ao0z l0_1.length co1z,.int .i64 a0_2] 106 (0,0))):=⟨by rw [<- hq_];exact (Zc BK5z.out pl)⟩;replace BK10z:Aside0 (w23z.heap[gb8z]? = some (.cells #[.bool false,.slice none 0 0,.int .i64 0] 106 (0,0))):=⟨by rw [<- hq_];exact (Zc BK10z.out pl)⟩;replace HK:Aside0 (Kept w w23z (fun k_=>P0_1_ k_)):=⟨by rw [<- hq_];exact (by repeat (first|(with_reducible first|exact HK.out|apply Kept.alloc|apply Kept.drewN|apply Kept.drew|refine Kept.setCell ?_ (.inr GW6z.out) _|refine Kept.setCell ?_ (.inr GW11z.out) _)|exact HK.out))⟩;replace HB:Aside0 (Below w0.heap.size w0 w23z):=⟨by rw [<- hq_];exact pB⟩;clear hq_)))|((have q_:=A16;clear q_);refine gL (some 13) Tryz.func167 #[.string t268,.string (⟨#[48]⟩:ByteArray)] (h:=?_);(with_reducible refine (Zb5.calls t268 (⟨#[48]⟩:ByteArray) t269 _ A4.out).mono ?_);rintro e w24z ⟨rfl,hb⟩;refine ⟨_,rfl,?_⟩;replace HO0_1:=rbl HO0_1 hb;replace BK5z:=bb BK5z hb;replace BK10z:=bb BK10z hb;replace HK:=am (Kept.below (S:=(fun k_=>P0_1_ k_)) (by repeat (first|(with_reducible first|exact HK.out|apply Kept.alloc|apply Kept.drewN|apply Kept.drew|refine Kept.setCell ?_ (.inr GW6z.out) _|refine Kept.setCell ?_ (.inr GW11z.out) _)|exact HK.out)) hb);replace HB:=bS hb)|(refine gL (some 21) Tryz.func116 #[.string t269] (h:=?_);(with_reducible refine (Za1.calls k t269 t270 t271 _ A15.out).mono ?_);rintro e w25z ⟨v26z,rfl,ho27z,hb⟩;refine ⟨_,rfl,?_⟩;have HO28z:=am (Kd.Zq (Kd.Zv (Kd.Zep (M:=fun k_=>(P0_1_ k_\/w.heap.size<=k_)) ho27z (by first|exact HK.out.1|exact (show Kept w _ (fun k_=>P0_1_ k_) from by repeat (first|(with_reducible first|exact HK.out|apply Kept.alloc|apply Kept.drewN|apply Kept.drew|refine Kept.setCell ?_ (.inr GW6z.out) _|refine Kept.setCell ?_ (.inr GW11z.out) _)|exact HK.out)).1) (fun k_ h_=>.inr h_)) (Kd.R_lt (Kd.Za HO0_1.out pl))) (Zb pB));replace HO0_1:=reR HO0_1 ho27z hb;replace BK5z:=bb BK5z hb;replace BK10z:=bb BK10z hb;replace HK:=am (Kept.below (S:=(fun k_=>P0_1_ k_)) (by repeat (first|(with_reducible first|exact HK.out|apply Kept.alloc|apply Kept.drewN|apply Kept.drew|refine Kept.setCell ?_ (.inr GW6z.out) _|refine Kept.setCell ?_ (.inr GW11z.out) _)|exact HK.out)) hb);replace HB:=bS hb;obtain ⟨Ao29z,co30z,eo31z⟩:=Kd.Zm HO28z.out;subst eo31z)|(refine gL (some 24) Tryz.func105 #[.slice Ao29z t270.length co30z,.int .i64 t271] (h:=?_);(with_reducible refine (Zfj.calls (fun k_=>some k_=(.slice Ao29z t270.length co30z:Value).ownBlock) (.slice Ao29z t270.length co30z) t270 t271 t274 w0 _ ?side1 ?side2 A16.out).mono ?_);(case side1=>exact pB);(case side2=>exact Kd.Zbr rfl HO28z.out);rintro e w32z ⟨v33z,rfl,ho27z,hb,hkp⟩;refine ⟨_,rfl,?_⟩;have HO34z:=am (Kd.Zi (ok':=fun k_=>(P0_1_ k_\/w.heap.size<=k_)/\some k_ ≠ (.slice Ao0z l0_1.length co1z:Value).ownBlock) ho27z (fun k_ hk_=>⟨Or.elim hk_ (fun hs_=>(HO28z.out.1 k_ (hs_).symm).1.1) (fun hn_=>(.inr (Nat.le_trans (by first|exact HK.out.1|exact (show Kept w _ (fun k_=>P0_1_ k_) from by repeat (first|(with_reducible first|exact HK.out|apply Kept.alloc|apply Kept.drewN|apply Kept.drew|refine Kept.setCell ?_ (.inr GW6z.out) _|refine Kept.setCell ?_ (.inr GW11z.out) _)|exact HK.out)).1) hn_))),Or.elim hk_ (fun hs_=>fun e_=>(((HO0_1.out).1 k_ e_.symm).2) hs_) (fun hn_=>(Kd.fresh' (Kd.R_lt (Kd.Za HO0_1.out pl)) k_ hn_))⟩));replace HO0_1:=am (Kd.Zi (ok':=fun k_=>(P0_1_ k_\/w.heap.size<=k_)/\some k_ ≠ (v33z:Value).ownBlock) (Kd.Zcl (HO0_1.out) hkp (fun k_ hk_ hs_=>(hk_.2) hs_)) (fun k_ hk_=>⟨hk_.1.1,fun e_=>Or.elim (ho27z.1 k_ e_.symm) (fun hs_=>hk_.2.1 hs_) (fun hn_=>Nat.not_le.2 hk_.2.2 hn_)⟩));replace BK5z:=am (Za2 (Zc BK5z.out pl) hkp (fun e_=>Kd.R_ne HO28z.out BK5z.out (by decide) e_));replace BK10z:=am (Za2 (Zc BK10z.out pl) hkp (fun e_=>Kd.R_ne HO28z.out BK10z.out (by decide) e_));replace HK:=am (Kept.then_ (S:=(fun k_=>P0_1_ k_)) (by repeat (first|(with_reducible first|exact HK.out|apply Kept.alloc|apply Kept.drewN|apply Kept.drew|refine Kept.setCell ?_ (.inr GW6z.out) _|refine Kept.setCell ?_ (.inr GW11z.out) _)|exact HK.out)) hkp (fun k_ hs_=>(fun e_=>(HO28z.out.1 k_ e_.symm).1.1) hs_));replace HB:=am hb;clear HO28z;obtain ⟨Ao35z,co36z,eo37z⟩:=Kd.Zm HO34z.out;subst eo37z;obtain ⟨hcz38z,hcz39z,hcz40z,hfz41z,hfz42z,hfz43z⟩:=cEc BK5z.out;obtain ⟨hcz44z,hcz45z,hcz46z,hfz47z,hfz48z,hfz49z⟩:=cEc BK10z.out)|((have q_:(t269.size == t268.size)=true:=c5b2;clear q_);refine gL (some 13) Tryz.func167 #[.string t268,.string (⟨#[48]⟩:ByteArray)] (h:=?_);(with_reducible refine (Zb5.calls t268 (⟨#[48]⟩:ByteArray) t269 _ A4.out).mono ?_);rintro e w24z ⟨rfl,hb⟩;refine ⟨_,rfl,?_⟩;replace HO0_1:=rbl HO0_1 hb;replace BK5z:=bb BK5z hb;replace BK10z:=bb BK10z hb;replace HK:=am (Kept.below (S:=(fun k_=>P0_1_ k_)) (by repeat (first|(with_reducible first|exact HK.out|apply Kept.alloc|apply Kept.drewN|apply Kept.drew|refine Kept.setCell ?_ (.inr GW6z.out) _|refine Kept.setCell ?_ (.inr GW11z.out) _)|exact HK.out)) hb);replace HB:=bS hb;obtain ⟨hcz25z,hcz26z,hcz27z,hfz28z,hfz29z,hfz30z⟩:=cEc BK5z.out;obtain ⟨hcz31z,hcz32z,hcz33z,hfz34z,hfz35z,hfz36z⟩:=cEc BK10z.out))
 first
  | have q_:=A16
    refine bodyPost_ret (results_cell_row rfl _ _ gb8z 106 #[.bool a0_0,.slice Ao35z t274.length co36z,.int .i64 (wrap64 (a0_2 + (wrap64 ((t268.size:Int) - (t269.size:Int)))))] (0,0) _ rfl (by refine bp ?_;refine Za6 (cs:=#[.bool a0_0,.slice Ao35z t274.length co36z,.int .i64 0]) ?_ 2 _ rfl;refine bp ?_;refine Za6 (cs:=#[.bool a0_0,.slice none 0 0,.int .i64 0]) ?_ 1 _ rfl;refine bp ?_;refine Za6 (cs:=#[.bool false,.slice none 0 0,.int .i64 0]) ?_ 0 _ rfl;refine bp ?_;refine Zah ?_ NB14z.out _;refine bp ?_;refine Zah ?_ NB14z.out _;exact bp BK10z.out) Tryz.underlying106 rfl (by kernel_rfl)) rfl ?_
    exact ⟨_,pE,by refine rp ?_;exact Kd.Zi (Kd.Zn (p:=⟨gb8z,2,none⟩) (Kd.Zn (p:=⟨gb8z,1,none⟩) (Kd.Zn (p:=⟨gb8z,0,none⟩) (Kd.Zn (p:=⟨gb3z,2,none⟩) (Kd.Zn (p:=⟨gb3z,1,none⟩) (Kd.Zu (Kd.Zu HO34z.out BK5z.out (by decide)) BK10z.out (by decide)) (fun _ hk=>hk.1.2) (.slice Ao35z t274.length co36z)) (fun _ hk=>hk.1.2) (.int .i64 (wrap64 (a0_2 + (wrap64 ((t268.size:Int) - (t269.size:Int))))))) (fun _ hk=>hk.2) (.bool a0_0)) (fun _ hk=>hk.2) (.slice Ao35z t274.length co36z)) (fun _ hk=>hk.2) (.int .i64 (wrap64 (a0_2 + (wrap64 ((t268.size:Int) - (t269.size:Int))))))) (fun _ hk=>hk.1.1.1),pB,by repeat (first|(with_reducible first|exact HK.out|apply Kept.alloc|apply Kept.drewN|apply Kept.drew|refine Kept.setCell ?_ (.inr GW6z.out) _|refine Kept.setCell ?_ (.inr GW11z.out) _)|exact HK.out)⟩
  | refine bodyPost_ret (results_cell_row rfl _ _ gb8z 106 #[.bool a0_0,.slice Ao0z l0_1.length co1z,.int .i64 a0_2] (0,0) _ rfl (by exact p3 BK10z) Tryz.underlying106 rfl (by kernel_rfl)) rfl ?_
    exact ⟨_,pE,by refine rp ?_;exact Kd.Zi (Kd.Zn (p:=⟨gb8z,2,none⟩) (Kd.Zn (p:=⟨gb8z,1,none⟩) (Kd.Zn (p:=⟨gb8z,0,none⟩) (Kd.Zu HO0_1.out BK10z.out (by decide)) (fun _ hk=>hk.2) (.bool a0_0)) (fun _ hk=>hk.2) (.slice Ao0z l0_1.length co1z)) (fun _ hk=>hk.2) (.int .i64 a0_2)) (fun _ hk=>hk.1),pB,by repeat (first|(with_reducible first|exact HK.out|apply Kept.alloc|apply Kept.drewN|apply Kept.drew|refine Kept.setCell ?_ (.inr GW6z.out) _|refine Kept.setCell ?_ (.inr GW11z.out) _)|exact HK.out)⟩):P:=h
theorem Zbw.calls (k:Nat) (a0_0:Bool) (P0_1_:Nat->Prop) (u9000_:Value) (l0_1:List Int) (a0_2:Int) (r1:Bool) (r2:List Int) (r3:Int) (w0 w:World) (hB:Below w0.heap.size w0 w) (ho0_1:Kd.R (Kd.int .u32) 85 w w0.heap.size P0_1_ u9000_ l0_1) (h:Zbw.f k a0_0 l0_1 a0_2=some (r1,r2,r3)) :
  Calls Tryz.prog 140 #[.agg #[.bool a0_0,u9000_,.int .i64 a0_2]] w fun e w' => ∃ v1_:Value,e=.returned (.agg #[.bool r1,v1_,.int .i64 r3])/\Kd.R (Kd.int .u32) 85 w' w0.heap.size (fun k_=>(P0_1_ k_\/w.heap.size<=k_)) v1_ r2/\Below w0.heap.size w0 w'/\Kept w w' (fun k_=>P0_1_ k_):=by
 have hu106:=Tryz.underlying106
 have HO0_1:=am (show Kd.R (Kd.int .u32) 85 w w0.heap.size (fun k_=>(P0_1_ k_\/w.heap.size<=k_)) u9000_ l0_1 from Kd.Zi ho0_1 (fun k_ hk=>(.inl hk)))
 have HK:=am (Kept.refl w (fun k_=>P0_1_ k_))
 have HW0:=am hB.size
 have HB:=am hB
 clear hB
 have H:((Zar.f k l0_1).bind fun bt266=>((Zeq.f bt266.1 bt266.2).bind fun t268=>((Zb5.f t268 (⟨#[48]⟩:ByteArray)).bind fun t269=>(if (t269.size:Int)=(t268.size:Int) then (some (a0_0,l0_1,a0_2)) else ((Za1.f k t269).bind fun bt270=>((Zfj.f bt270.1 bt270.2).bind fun t274=>(some (a0_0,t274,wrap64 (a0_2 + (wrap64 ((t268.size:Int) - (t269.size:Int))))))))))))=some (r1,r2,r3):=h
 clear h
 obtain ⟨⟨t266,t267⟩,A2,H⟩:=ob H;(try dsimp only at H)
 obtain ⟨t268,A3,H⟩:=ob H
 obtain ⟨t269,A4,H⟩:=ob H
 by_cases c5:(t269.size:Int)=(t268.size:Int)
 ·rw [if_pos c5] at H
  have c5b0:((t269.size:Int) == (t268.size:Int))=true:=beq_iff_eq.mpr c5
  have c5b1:((t269.size:Int) != (t268.size:Int))=false:=bne_eq_false_iff_eq.mpr c5
  have c5b2:(t269.size == t268.size)=true:=by first|simpa using c5|(simp at c5 ⊢;omega)
  clear c5
  simp only [Option.some.injEq,Prod.mk.injEq] at H
  obtain ⟨rfl,rfl,rfl⟩:=H
  exact Zbw.leaf
 ·rw [if_neg c5] at H
  have c5b0:((t269.size:Int) == (t268.size:Int))=false:=beq_eq_false_iff_ne.mpr c5
  have c5b1:((t269.size:Int) != (t268.size:Int))=true:=bne_iff_ne.mpr c5
  have c5b2:(t269.size == t268.size)=false:=by first|simpa using c5|(simp at c5 ⊢;omega)
  obtain ⟨⟨t270,t271⟩,A15,H⟩:=ob H;(try dsimp only at H)
  obtain ⟨t274,A16,H⟩:=ob H
  simp only [Option.some.injEq,Prod.mk.injEq] at H
  obtain ⟨rfl,rfl,rfl⟩:=H
  exact Zbw.leaf
def Zcy.f (k:Nat) (a0_0:Bool) (l0_1:List Int) (a0_2:Int):Option (Bool × List Int × Int × Int):=(Zch.f a0_0 l0_1 a0_2).bind fun t279=>(if t279=true then (some (false,([]:List Int),0,0)) else ((Zbw.f k a0_0 l0_1 a0_2).bind fun bt280=>((Zcs.f k bt280.2.1).bind fun t285=>(if t285 > 300 then (some (false,([]:List Int),0,51)) else (if bt280.2.2 < (-1000) then (some (false,([]:List Int),0,52)) else (if bt280.2.2 > 1000 then (some (false,([]:List Int),0,52)) else (some (bt280.1,bt280.2.1,bt280.2.2,0))))))))
theorem Zcy.leaf {P:Prop} (h:P:=by
 obtain ⟨Ao0z,co1z,eo2z⟩:=Kd.Zm HO0_1.out
 subst eo2z
 go_enter Tryz.func100,Tryz.ntmps100
 go_wp2_with (first|((with_reducible refine gd 1 ?_);refine bx 1 #[.bool a0_0,.slice Ao0z l0_1.length co1z,.int .i64 a0_2] 106 (h:=?_);intro gb3z hg w4z hbox hb;have BK5z:=am hbox;have GW6z:=am ((by rw [hg];exact (by first|exact HK.out.1|exact (show Kept w _ (fun k_=>P0_1_ k_) from by repeat (first|(with_reducible first|exact HK.out|apply Kept.alloc|apply Kept.drewN|apply Kept.drew)|exact HK.out)).1):w.heap.size<=gb3z));have GE7z:=am ((gw hg pB:w0.heap.size<=gb3z));replace HO0_1:=rbl HO0_1 hb;replace HK:=am (Kept.below (S:=(fun k_=>P0_1_ k_)) (by repeat (first|(with_reducible first|exact HK.out|apply Kept.alloc|apply Kept.drewN|apply Kept.drew)|exact HK.out)) hb);replace HB:=bS hb;clear hb hbox hg)|((with_reducible refine gd 2 ?_);refine bx 2 #[.bool false,.slice none 0 0,.int .i64 0] 24 (h:=?_);intro gb8z hg w9z hbox hb;have BK10z:=am hbox;have GW11z:=am ((by rw [hg];exact (by first|exact HK.out.1|exact (show Kept w _ (fun k_=>P0_1_ k_) from by repeat (first|(with_reducible first|exact HK.out|apply Kept.alloc|apply Kept.drewN|apply Kept.drew|refine Kept.setCell ?_ (.inr GW6z.out) _)|exact HK.out)).1):w.heap.size<=gb8z));have GE12z:=am ((gw hg pB:w0.heap.size<=gb8z));have NB13z:=nL hg BK5z;have NB14z:=nG hg BK5z;replace HO0_1:=rbl HO0_1 hb;replace BK5z:=bb BK5z hb;replace HK:=am (Kept.below (S:=(fun k_=>P0_1_ k_)) (by repeat (first|(with_reducible first|exact HK.out|apply Kept.alloc|apply Kept.drewN|apply Kept.drew|refine Kept.setCell ?_ (.inr GW6z.out) _)|exact HK.out)) hb);replace HB:=bS hb;clear hb hbox hg;have hnb15z:=NB13z.out;have hnc16z:=NB14z.out;obtain ⟨hcz17z,hcz18z,hcz19z,hfz20z,hfz21z,hfz22z⟩:=cEc BK5z.out)|(refine gL (some 5) Tryz.func104 #[.agg #[.bool a0_0,.slice Ao0z l0_1.length co1z,.int .i64 a0_2]] (h:=?_);(with_reducible refine (Zch.calls a0_0 _ _ l0_1 a0_2 false _ ?side1 ?side2 A2.out).mono ?_);(case side1=>exact Kd.Zh (Kd.Zd HO0_1.out).2.2 pl);(case side2=>exact (Kd.Zd HO0_1.out).2.1);rintro e w23z ⟨rfl,hb⟩;refine ⟨_,rfl,?_⟩;replace HO0_1:=rbl HO0_1 hb;replace BK5z:=bb BK5z hb;replace BK10z:=bb BK10z hb;replace HK:=am (Kept.below (S:=(fun k_=>P0_1_ k_)) (by repeat (first|(with_reducible first|exact HK.out|apply Kept.alloc|apply Kept.drewN|apply Kept.drew|refine Kept.setCell ?_ (.inr GW6z.out) _|refine Kept.setCell ?_ (.inr GW11z.out) _)|exact HK.out)) hb);replace HB:=bS hb;obtain ⟨hcz24z,hcz25z,hcz26z,hfz27z,hfz28z,hfz29z⟩:=cEc BK5z.out)|(refine gL (some 8) Tryz.func140 #[.agg #[.bool a0_0,.slice Ao0z l0_1.length co1z,.int .i64 a0_2]] (h:=?_);(with_reducible refine (Zbw.calls k a0_0 (fun k_=>some k_=(.slice Ao0z l0_1.length co1z:Value).ownBlock) (.slice Ao0z l0_1.length co1z) l0_1 a0_2 t280 t281 t284 w0 _ ?side1 ?side2 A11.out).mono ?_);(case side1=>exact pB);(case side2=>exact Kd.Zbr rfl HO0_1.out);rintro e w30z ⟨v31z,rfl,ho32z,hb,hkp⟩;refine ⟨_,rfl,?_⟩;have HO33z:=am (Kd.Zi (ok':=fun k_=>(P0_1_ k_\/w.heap.size<=k_)) ho32z (fun k_ hk_=>Or.elim hk_ (fun hs_=>(HO0_1.out.1 k_ (hs_).symm)) (fun hn_=>(.inr (Nat.le_trans (by first|exact HK.out.1|exact (show Kept w _ (fun k_=>P0_1_ k_) from by repeat (first|(with_reducible first|exact HK.out|apply Kept.alloc|apply Kept.drewN|apply Kept.drew|refine Kept.setCell ?_ (.inr GW6z.out) _|refine Kept.setCell ?_ (.inr GW11z.out) _)|exact HK.out)).1) hn_)))));replace BK5z:=am (Za2 (Zc BK5z.out pl) hkp (fun e_=>Kd.R_ne HO0_1.out BK5z.out (by decide) e_));replace BK10z:=am (Za2 (Zc BK10z.out pl) hkp (fun e_=>Kd.R_ne HO0_1.out BK10z.out (by decide) e_));replace HK:=am (Kept.then_ (S:=(fun k_=>P0_1_ k_)) (by repeat (first|(with_reducible first|exact HK.out|apply Kept.alloc|apply Kept.drewN|apply Kept.drew|refine Kept.setCell ?_ (.inr GW6z.out) _|refine Kept.setCell ?_ (.inr GW11z.out) _)|exact HK.out)) hkp (fun k_ hs_=>(fun e_=>(HO0_1.out.1 k_ e_.symm)) hs_));replace HB:=am hb;clear HO0_1;obtain ⟨hcz34z,hcz35z,hcz36z,hfz37z,hfz38z,hfz39z⟩:=cEc BK5z.out;obtain ⟨Ao40z,co41z,eo42z⟩:=Kd.Zm HO33z.out;subst eo42z)|((have q_:decide (300 < t285)=true:=c13b0;clear q_);refine gL (some 13) Tryz.func110 #[.slice Ao40z t281.length co41z] (h:=?_);(with_reducible refine (Zcs.calls k _ _ t281 t285 _ ?side1 ?side2 A12.out).mono ?_);(case side1=>refine (Kd.Zd (e:=85) (base:=w0.heap.size) (ok:=fun k_=>(P0_1_ k_\/w.heap.size<=k_)) (n:=t281.length) (c:=co41z) ?_).2.2;exact (Kd.Za (z3 HO33z.out BK5z.out (by decide) (.bool t280) (.slice Ao40z t281.length co41z) (.int .i64 t284)) pl));(case side2=>exact (Kd.Zd HO33z.out).2.1);rintro e w43z ⟨rfl,hb⟩;refine ⟨_,rfl,?_⟩;replace HO33z:=am (Kd.Za (Kd.Za (z3 HO33z.out BK5z.out (by decide) (.bool t280) (.slice Ao40z t281.length co41z) (.int .i64 t284)) pl) hb);replace BK5z:=am (Zc (g:=gb3z) (o:=.cells #[.bool t280,.slice Ao40z t281.length co41z,.int .i64 t284] 106 (0,0)) (by exact p3 BK5z) hb);replace BK10z:=bfb NB14z BK10z hb;replace HK:=am (Kept.below (S:=(fun k_=>P0_1_ k_)) (by repeat (first|(with_reducible first|exact HK.out|apply Kept.alloc|apply Kept.drewN|apply Kept.drew|refine Kept.setCell ?_ (.inr GW6z.out) _|refine Kept.setCell ?_ (.inr GW11z.out) _)|exact HK.out)) hb);replace HB:=bS hb;obtain ⟨hcz44z,hcz45z,hcz46z,hfz47z,hfz48z,hfz49z⟩:=cEc BK10z.out)|((have q_:decide (300 < t285)=false:=c13b0;clear q_);refine gL (some 13) Tryz.func110 #[.slice Ao40z t281.length co41z] (h:=?_);(with_reducible refine (Zcs.calls k _ _ t281 t285 _ ?side1 ?side2 A12.out).mono ?_);(case side1=>refine (Kd.Zd (e:=85) (base:=w0.heap.size) (ok:=fun k_=>(P0_1_ k_\/w.heap.size<=k_)) (n:=t281.length) (c:=co41z) ?_).2.2;exact (Kd.Za (z3 HO33z.out BK5z.out (by decide) (.bool t280) (.slice Ao40z t281.length co41z) (.int .i64 t284)) pl));(case side2=>exact (Kd.Zd HO33z.out).2.1);rintro e w43z ⟨rfl,hb⟩;refine ⟨_,rfl,?_⟩;replace HO33z:=am (Kd.Za (Kd.Za (z3 HO33z.out BK5z.out (by decide) (.bool t280) (.slice Ao40z t281.length co41z) (.int .i64 t284)) pl) hb);replace BK5z:=am (Zc (g:=gb3z) (o:=.cells #[.bool t280,.slice Ao40z t281.length co41z,.int .i64 t284] 106 (0,0)) (by exact p3 BK5z) hb);replace BK10z:=bfb NB14z BK10z hb;replace HK:=am (Kept.below (S:=(fun k_=>P0_1_ k_)) (by repeat (first|(with_reducible first|exact HK.out|apply Kept.alloc|apply Kept.drewN|apply Kept.drew|refine Kept.setCell ?_ (.inr GW6z.out) _|refine Kept.setCell ?_ (.inr GW11z.out) _)|exact HK.out)) hb);replace HB:=bS hb;obtain ⟨hcz44z,hcz45z,hcz46z,hfz47z,hfz48z,hfz49z⟩:=cEc BK5z.out;obtain ⟨hcz50z,hcz51z,hcz52z,hfz53z,hfz54z,hfz55z⟩:=cEc BK10z.out)|(refine gL (some 5) Tryz.func104 #[.agg #[.bool a0_0,.slice Ao0z l0_1.length co1z,.int .i64 a0_2]] (h:=?_);(with_reducible refine (Zch.calls a0_0 _ _ l0_1 a0_2 true _ ?side1 ?side2 A2.out).mono ?_);(case side1=>exact Kd.Zh (Kd.Zd HO0_1.out).2.2 pl);(case side2=>exact (Kd.Zd HO0_1.out).2.1);rintro e w23z ⟨rfl,hb⟩;refine ⟨_,rfl,?_⟩;replace HO0_1:=rbl HO0_1 hb;replace BK5z:=bb BK5z hb;replace BK10z:=bb BK10z hb;replace HK:=am (Kept.below (S:=(fun k_=>P0_1_ k_)) (by repeat (first|(with_reducible first|exact HK.out|apply Kept.alloc|apply Kept.drewN|apply Kept.drew|refine Kept.setCell ?_ (.inr GW6z.out) _|refine Kept.setCell ?_ (.inr GW11z.out) _)|exact HK.out)) hb);replace HB:=bS hb;obtain ⟨hcz24z,hcz25z,hcz26z,hfz27z,hfz28z,hfz29z⟩:=cEc BK10z.out))
 first
  | have q_:=A12;have q_:decide (1000 < t284)=false:=c40b0
    refine bodyPost_ret (Za8 rfl _ _ gb8z 24 #[.bool t280,.slice Ao40z t281.length co41z,.int .i64 t284] (0,0) _ rfl (by exact p3 BK10z) Tryz.underlying24 rfl (by kernel_rfl)) rfl ?_
    exact ⟨_,pE,by refine rp ?_;exact Kd.Zi (Kd.Zn (p:=⟨gb8z,2,none⟩) (Kd.Zn (p:=⟨gb8z,1,none⟩) (Kd.Zn (p:=⟨gb8z,0,none⟩) (Kd.Zu HO33z.out BK10z.out (by decide)) (fun _ hk=>hk.2) (.bool t280)) (fun _ hk=>hk.2) (.slice Ao40z t281.length co41z)) (fun _ hk=>hk.2) (.int .i64 t284)) (fun _ hk=>hk.1),pB,by repeat (first|(with_reducible first|exact HK.out|apply Kept.alloc|apply Kept.drewN|apply Kept.drew|refine Kept.setCell ?_ (.inr GW6z.out) _|refine Kept.setCell ?_ (.inr GW11z.out) _)|exact HK.out)⟩
  | refine bodyPost_ret (Za8 rfl _ _ gb8z 24 #[.bool false,.slice none 0 0,.int .i64 0] (0,0) _ rfl (by exact p3 BK10z) Tryz.underlying24 rfl (by kernel_rfl)) rfl ?_
    exact ⟨_,pE,pN,pB,by repeat (first|(with_reducible first|exact HK.out|apply Kept.alloc|apply Kept.drewN|apply Kept.drew|refine Kept.setCell ?_ (.inr GW6z.out) _|refine Kept.setCell ?_ (.inr GW11z.out) _)|exact HK.out)⟩):P:=h
theorem Zcy.calls (k:Nat) (a0_0:Bool) (P0_1_:Nat->Prop) (u9000_:Value) (l0_1:List Int) (a0_2:Int) (r1:Bool) (r2:List Int) (r3:Int) (r4:Int) (w0 w:World) (hB:Below w0.heap.size w0 w) (ho0_1:Kd.R (Kd.int .u32) 85 w w0.heap.size P0_1_ u9000_ l0_1) (h:Zcy.f k a0_0 l0_1 a0_2=some (r1,r2,r3,r4)) :
  Calls Tryz.prog 100 #[.agg #[.bool a0_0,u9000_,.int .i64 a0_2]] w fun e w' => ∃ v1_:Value,e=.returned (.tuple #[.agg #[.bool r1,v1_,.int .i64 r3],.int .i64 r4])/\Kd.R (Kd.int .u32) 85 w' w0.heap.size (fun k_=>(P0_1_ k_\/w.heap.size<=k_)) v1_ r2/\Below w0.heap.size w0 w'/\Kept w w' (fun k_=>P0_1_ k_):=by
 have hu106:=Tryz.underlying106
 have hu24:=Tryz.underlying24
 have HO0_1:=am (show Kd.R (Kd.int .u32) 85 w w0.heap.size (fun k_=>(P0_1_ k_\/w.heap.size<=k_)) u9000_ l0_1 from Kd.Zi ho0_1 (fun k_ hk=>(.inl hk)))
 have HK:=am (Kept.refl w (fun k_=>P0_1_ k_))
 have HW0:=am hB.size
 have HB:=am hB
 clear hB
 have H:((Zch.f a0_0 l0_1 a0_2).bind fun t279=>(if t279=true then (some (false,([]:List Int),0,0)) else ((Zbw.f k a0_0 l0_1 a0_2).bind fun bt280=>((Zcs.f k bt280.2.1).bind fun t285=>(if t285 > 300 then (some (false,([]:List Int),0,51)) else (if bt280.2.2 < (-1000) then (some (false,([]:List Int),0,52)) else (if bt280.2.2 > 1000 then (some (false,([]:List Int),0,52)) else (some (bt280.1,bt280.2.1,bt280.2.2,0)))))))))=some (r1,r2,r3,r4):=h
 clear h
 obtain ⟨t279,A2,H⟩:=ob H
 by_cases c3:t279=true
 ·subst c3
  rw [if_pos rfl] at H
  simp only [Option.some.injEq,Prod.mk.injEq] at H
  obtain ⟨rfl,rfl,rfl,rfl⟩:=H
  exact Zcy.leaf
 ·replace c3:=Bool.eq_false_iff.mpr c3
  subst c3
  rw [if_neg (show ¬ (false=true) by decide)] at H
  obtain ⟨⟨t280,t281,t284⟩,A11,H⟩:=ob H;(try dsimp only at H)
  obtain ⟨t285,A12,H⟩:=ob H
  by_cases c13:t285 > 300
  ·rw [if_pos c13] at H
   have c13b0:decide (300 < t285)=true:=decide_eq_true c13
   clear c13
   simp only [Option.some.injEq,Prod.mk.injEq] at H
   obtain ⟨rfl,rfl,rfl,rfl⟩:=H
   exact Zcy.leaf
  ·rw [if_neg c13] at H
   have c13b0:decide (300 < t285)=false:=decide_eq_false c13
   clear c13
   by_cases c26:t284 < (-1000)
   ·rw [if_pos c26] at H
    have c26b0:decide (t284 < (-1000))=true:=decide_eq_true c26
    clear c26
    simp only [Option.some.injEq,Prod.mk.injEq] at H
    obtain ⟨rfl,rfl,rfl,rfl⟩:=H
    exact Zcy.leaf
   ·rw [if_neg c26] at H
    have c26b0:decide (t284 < (-1000))=false:=decide_eq_false c26
    clear c26
    by_cases c40:t284 > 1000
    ·rw [if_pos c40] at H
     have c40b0:decide (1000 < t284)=true:=decide_eq_true c40
     clear c40
     simp only [Option.some.injEq,Prod.mk.injEq] at H
     obtain ⟨rfl,rfl,rfl,rfl⟩:=H
     exact Zcy.leaf
    ·rw [if_neg c40] at H
     have c40b0:decide (1000 < t284)=false:=decide_eq_false c40
     clear c40
     simp only [Option.some.injEq,Prod.mk.injEq] at H
     obtain ⟨rfl,rfl,rfl,rfl⟩:=H
     exact Zcy.leaf
def Zax.j0:Nat->Bool->List Int->Int->Bool->Option (Bool × List Int × Int × Int)
 | 0,_,_,_,_=>none
 | k + 1,x0,x1,x2,x20=>if x20=true then (some (false,([]:List Int),0,52)) else ((Zag.f x1).bind fun t288=>((Zcy.f k x0 t288 x2).bind fun bt291=>(some (bt291.1,bt291.2.1,bt291.2.2.1,bt291.2.2.2))))
def Zax.f (k:Nat) (a0:Bool) (l1:List Int) (a2:Int):Option (Bool × List Int × Int × Int):=(Za0.f l1).bind fun t287=>(if t287=0 then (if a2 < (-4000) then (Zax.j0 k a0 l1 a2 true) else (Zax.j0 k a0 l1 a2 (decide (a2 > 4000)))) else (some (false,([]:List Int),0,t287)))
theorem Zax.calls (k:Nat) (a0:Bool) (A1:Option Addr) (c1:Nat) (l1:List Int) (a2:Int) (r1:Bool) (r2:List Int) (r3:Int) (r4:Int) (w:World) (hr1:Kd.C (Kd.int .u32) w A1 l1.length l1) (hc1:l1.length<=c1) (h:Zax.f k a0 l1 a2=some (r1,r2,r3,r4)) :
  Calls Tryz.prog 60 #[.bool a0,.slice A1 l1.length c1,.int .i64 a2] w fun e w' => ∃ v1_:Value,e=.returned (.tuple #[.agg #[.bool r1,v1_,.int .i64 r3],.int .i64 r4])/\Kd.R (Kd.int .u32) 85 w' w.heap.size (fun _=>True) v1_ r2/\Below w.heap.size w w':=by
 have hu24:=Tryz.underlying24
 have hu106:=Tryz.underlying106
 have HR1:=am hr1
 have HC1:=am hc1
 clear hr1 hc1
 have HB:=am (Below.refl w.heap.size w)
 have H:((Za0.f l1).bind fun t287=>(if t287=0 then (if a2 < (-4000) then (Zax.j0 k a0 l1 a2 true) else (Zax.j0 k a0 l1 a2 (decide (a2 > 4000)))) else (some (false,([]:List Int),0,t287))))=some (r1,r2,r3,r4):=h
 clear h
 obtain ⟨t287,A4,H⟩:=ob H
 by_cases c5:t287=0
 ·rw [if_pos c5] at H
  have c5b0:(t287 == 0)=true:=beq_iff_eq.mpr c5
  have c5b1:(t287 != 0)=false:=bne_eq_false_iff_eq.mpr c5
  clear c5
  have HC6:=am H
  clear H
  go_enter Tryz.func60,Tryz.ntmps60
  go_upto_region 4 with (first|((with_reducible refine gd 6 ?_);refine bx 6 #[.bool false,.slice none 0 0,.int .i64 0] 24 (h:=?_);intro gb286 hg w7 hbox hb;have BK286:=am hbox;have GW286:=gW hg;have GE286:=gW hg;replace HB:=bS hb;clear hb hbox hg)|(refine gL (some 10) Tryz.func108 #[.slice A1 l1.length c1] (h:=?_);(with_reducible refine (Za0.calls _ _ l1 t287 _ ?side1 ?side2 A4.out).mono ?_);(case side1=>refine cp ?_;exact (Kd.Zh HR1.out HB.out));(case side2=>exact HC1.out);rintro e w' ⟨rfl,⟨nd,rfl⟩⟩;refine ⟨_,rfl,?_⟩))
  (try simp only [Act.put,List.setIfInBounds_toArray,List.set_cons_zero,List.set_cons_succ])
  go_cut [20] (fun v20 wc => ∃ (kq:Nat) (x20_5:Bool),v20=.bool x20_5/\Aside0 (Zax.j0 kq a0 l1 a2 x20_5=some (r1,r2,r3,r4))/\Aside0 (kq<=k)/\Aside0 (wc.heap[gb286]? = some (.cells #[.bool false,(.slice none 0 0),.int .i64 0] 24 (0,0)))/\Aside0 (Below w.heap.size w wc))
  case first =>
   have H:=HC6.out
   clear HC6
   by_cases c8:a2 < (-4000)
   ·rw [if_pos c8] at H
    have c8b0:decide (a2 < (-4000))=true:=decide_eq_true c8
    clear c8
    (first|rw [c8b0]|(simp only [Zcc,Zdc];rw [c8b0])|skip)
    have H':=am H
    clear H
    go_wp2
    go_meet
    case rel=>exact ⟨_,(true),pR,H',⟨by first|omega|exact Nat.le_refl _⟩,⟨Zc BK286.out pl⟩,⟨pB⟩⟩
   ·rw [if_neg c8] at H
    have c8b0:decide (a2 < (-4000))=false:=decide_eq_false c8
    clear c8
    (first|rw [c8b0]|(simp only [Zcc,Zdc];rw [c8b0])|skip)
    have H':=am H
    clear H
    go_wp2
    go_meet
    case rel=>exact ⟨_,(decide (a2 > 4000)),pR,H',⟨by first|omega|exact Nat.le_refl _⟩,⟨Zc BK286.out pl⟩,⟨pB⟩⟩
  case rest =>
   clear HC6
   obtain ⟨kq,x20_5,rfl,HA,HJ5,BK286,HB⟩:=hcut
   cases kq with
   | zero=>exact absurd HA.out (by simp [Zax.j0])
   | succ kj5 =>
    have H:=HA.out
    clear HA
    simp only [Zax.j0] at H
    by_cases c9:x20_5=true
    ·subst c9
     rw [if_pos rfl] at H
     simp only [Option.some.injEq,Prod.mk.injEq] at H
     obtain ⟨rfl,rfl,rfl,rfl⟩:=H
     obtain ⟨hcz10_0,hcz10_1,hcz10_2,hfz10_0,hfz10_1,hfz10_2⟩:=cEc BK286.out
     go_wp2
     refine bodyPost_ret (Za8 rfl _ _ gb286 24 #[.bool false,.slice none 0 0,.int .i64 0] (0,0) _ rfl (by exact p3 BK286) Tryz.underlying24 rfl (by kernel_rfl)) rfl ?_
     exact ⟨_,pE,pN,pB⟩
    ·replace c9:=Bool.eq_false_iff.mpr c9
     subst c9
     rw [if_neg (show ¬ (false=true) by decide)] at H
     obtain ⟨t288,A11,H⟩:=ob H
     obtain ⟨⟨t291,t292,t295,t296⟩,A12,H⟩:=ob H;(try dsimp only at H)
     simp only [Option.some.injEq,Prod.mk.injEq] at H
     obtain ⟨rfl,rfl,rfl,rfl⟩:=H
     go_wp2_with (first|(refine gL (some 24) Tryz.func102 #[.slice A1 l1.length c1] (h:=?_);(with_reducible refine (Zag.calls _ _ l1 t288 _ ?side1 ?side2 A11.out).mono ?_);(case side1=>refine cp ?_;exact (Kd.Zh HR1.out HB.out));(case side2=>exact HC1.out);rintro e w13 ⟨v289,rfl,ho0,hb⟩;refine ⟨_,rfl,?_⟩;have HO290:=am (Kd.Zq ho0 (Zb pB));replace BK286:=bb BK286 hb;replace HB:=bS hb;obtain ⟨Ao14,co14,eo14⟩:=Kd.Zm HO290.out;subst eo14)|(refine gL (some 28) Tryz.func100 #[.agg #[.bool a0,.slice Ao14 t288.length co14,.int .i64 a2]] (h:=?_);(with_reducible refine (Zcy.calls kj5 a0 (fun k_=>some k_=(.slice Ao14 t288.length co14:Value).ownBlock) (.slice Ao14 t288.length co14) t288 a2 t291 t292 t295 t296 w _ ?side1 ?side2 A12.out).mono ?_);(case side1=>exact pB);(case side2=>exact Kd.Zbr rfl HO290.out);rintro e w15 ⟨v293,rfl,ho0,hb,hkp⟩;refine ⟨_,rfl,?_⟩;have HO294:=am (Kd.Zi (ok':=fun k_=>True) ho0 (fun k_ hk_=>trivial));replace BK286:=am (Za2 (Zc BK286.out pl) hkp (fun e_=>Kd.R_ne HO290.out BK286.out (by decide) e_));replace HB:=am hb;clear HO290;obtain ⟨hcz16_0,hcz16_1,hcz16_2,hfz16_0,hfz16_1,hfz16_2⟩:=cEc BK286.out;obtain ⟨Ao17,co17,eo17⟩:=Kd.Zm HO294.out;subst eo17))
     refine bodyPost_ret (Za8 rfl _ _ gb286 24 #[.bool t291,.slice Ao17 t292.length co17,.int .i64 t295] (0,0) _ rfl (by exact p3 BK286) Tryz.underlying24 rfl (by kernel_rfl)) rfl ?_
     exact ⟨_,pE,by refine rp ?_;exact Kd.Zi (Kd.Zn (p:=⟨gb286,2,none⟩) (Kd.Zn (p:=⟨gb286,1,none⟩) (Kd.Zn (p:=⟨gb286,0,none⟩) (Kd.Zu HO294.out BK286.out (by decide)) (fun _ hk=>hk.2) (.bool t291)) (fun _ hk=>hk.2) (.slice Ao17 t292.length co17)) (fun _ hk=>hk.2) (.int .i64 t295)) (fun _ hk=>trivial),pB⟩
 ·rw [if_neg c5] at H
  have c5b0:(t287 == 0)=false:=beq_eq_false_iff_ne.mpr c5
  have c5b1:(t287 != 0)=true:=bne_iff_ne.mpr c5
  simp only [Option.some.injEq,Prod.mk.injEq] at H
  obtain ⟨rfl,rfl,rfl,rfl⟩:=H
  go_enter Tryz.func60,Tryz.ntmps60
  go_wp2_with (first|((with_reducible refine gd 6 ?_);refine bx 6 #[.bool false,.slice none 0 0,.int .i64 0] 24 (h:=?_);intro gb286 hg w18 hbox hb;have BK286:=am hbox;have GW286:=gW hg;have GE286:=gW hg;replace HB:=bS hb;clear hb hbox hg)|(refine gL (some 10) Tryz.func108 #[.slice A1 l1.length c1] (h:=?_);(with_reducible refine (Za0.calls _ _ l1 t287 _ ?side1 ?side2 A4.out).mono ?_);(case side1=>refine cp ?_;exact (Kd.Zh HR1.out HB.out));(case side2=>exact HC1.out);rintro e w' ⟨rfl,⟨nd,rfl⟩⟩;refine ⟨_,rfl,?_⟩;(try (rw [Zgm w18];generalize hq_:World.drewN w18 _=w18;replace BK286:Aside0 (w18.heap[gb286]? = some (.cells #[.bool false,.slice none 0 0,.int .i64 0] 24 (0,0))):=⟨by rw [<- hq_];exact (Zc BK286.out pl)⟩;replace HB:Aside0 (Below w.heap.size w w18):=⟨by rw [<- hq_];exact pB⟩;clear hq_));obtain ⟨hcz19_0,hcz19_1,hcz19_2,hfz19_0,hfz19_1,hfz19_2⟩:=cEc BK286.out))
  refine bodyPost_ret (Za8 rfl _ _ gb286 24 #[.bool false,.slice none 0 0,.int .i64 0] (0,0) _ rfl (by exact p3 BK286) Tryz.underlying24 rfl (by kernel_rfl)) rfl ?_
  exact ⟨_,pE,pN,pB⟩
end YtjbjkmccfocikaaGreatDoor.B
end
section
namespace YtjbjkmccfocikaaGreatDoor.P
open Go.RowKit YtjbjkmccfocikaaGreatDoor.B YtjbjkmccfocikaaGreatDoorW.PrintWords YtjbjkmccfocikaaGreatDoorW.PrintLast YtjbjkmccfocikaaGreatDoorW.PrintMore YtjbjkmccfocikaaGreatDoor.P.Nm
def chr (d:Int):UInt8:=UInt8.ofNat (48 + d.toNat)
theorem Ze4 {n:Nat} (h:n ≠ 0):(decT n).data.toList=(digs n).reverse.map chr:=by
 unfold decT;rw [if_neg h];rfl
theorem Zkp {d:Int} (h0:0<=d) (h1:d < 10):(chr d).toNat=48 + d.toNat:=by
 unfold chr;simp;omega
theorem Ze5 (n:Nat):(decT n).size=if n=0 then 1 else nd n:=by
 by_cases h:n=0
 ·subst h;rfl
 ·rw [if_neg h]
  show (decT n).data.size=_
  rw [<- Array.length_toList,Ze4 h];simp [nd]
theorem Zrw {b:ByteArray} {l:List UInt8} (h:b.data.toList=l):b=⟨l.toArray⟩:=by
 cases b with|mk d=>subst h;rfl
theorem Zpk {n:Nat} (h:n ≠ 0):(⟨(Lib.trimRightB (decT n).data.toList 48).toArray⟩:ByteArray)=decT (core n):=by
 obtain ⟨h1,h2⟩:=Zkf h
 have hc:=Zix h
 symm
 refine Zrw ?_
 rw [Ze4 hc,Ze4 h]
 unfold Lib.trimRightB
 rw [<- List.map_reverse,List.reverse_reverse]
 have hd:digs n=List.replicate (tz n) 0 ++ digs (core n):=by
  conv=>lhs;rw [h1]
  exact Zgl hc _
 rw [hd,List.map_append,List.map_replicate,Zdp hc,List.map_cons]
 have e0:chr 0=48:=rfl
 have e1:(chr ((core n % 10:Nat):Int) == 48)=false:=by
  refine beq_eq_false_iff_ne.2 (fun q=>?_)
  have := congrArg UInt8.toNat q
  rw [Zkp (by omega) (by omega)] at this
  have e48:(48:UInt8).toNat=48:=rfl
  rw [e48] at this
  omega
 have drop:∀ k (l:List UInt8),(List.replicate k (48:UInt8) ++ l).dropWhile (· == 48)=l.dropWhile (· == 48):=fun k l=>by
  induction k with
  | zero=>rfl
  | succ k ih=>rw [List.replicate_succ,List.cons_append,List.dropWhile_cons_of_pos (by rfl),ih]
 rw [e0,drop,List.dropWhile_cons_of_neg (by rw [e1];simp),List.map_reverse,List.map_cons]
theorem Zoq (n:Nat):numT (decT n)=n:=by
 by_cases h:n=0
 ·subst h;rfl
 ·unfold numT
  rw [Ze4 h]
  have key:∀ l:List Int,Dg 10 l->(((l.reverse.map chr).foldl (fun n c=>n * 10 + (c.toNat - 48)) 0:Nat):Int)=val 10 l:=fun l=>by
   induction l with
   | nil=>intro _;rfl
   | cons x l ih =>
    intro hd
    have hx:=hd.head
    rw [List.reverse_cons,List.map_append,List.foldl_append,List.map_cons,List.map_nil,List.foldl_cons,List.foldl_nil,Zkp hx.1 hx.2,Zb1,<- ih hd.tail]
    omega
  have := key (digs n) (Zc5 n)
  rw [Zcx] at this
  exact_mod_cast this
theorem Zp0 (n:Nat):(decT n).data.toList.all isDig=true:=by
 by_cases h:n=0
 ·subst h;rfl
 ·rw [Ze4 h,List.all_eq_true]
  intro c hc
  obtain ⟨d,hd,rfl⟩:=List.mem_map.1 hc
  have hx:=Zc5 n d (List.mem_reverse.1 hd)
  unfold isDig
  rw [Zkp hx.1 hx.2]
  simp;omega
theorem Zlx (s:ByteArray) (a b:Nat):(s.extract a b).data.toList=(s.data.toList.drop a).take (b - a):=by
 rw [ByteArray.data_extract,Array.toList_extract]
def numF (v:Nat) (l:List UInt8):Nat:=l.foldl (fun n c=>n * 10 + (c.toNat - 48)) v
theorem Zp9 (v:Nat):numF v []=v:=rfl
theorem Zht (v:Nat) (c:UInt8) (l:List UInt8):numF v (c :: l)=numF (v * 10 + (c.toNat - 48)) l:=by unfold numF;rw [List.foldl_cons]
theorem Zp8 (v:Nat) (l m:List UInt8):numF v (l ++ m)=numF (numF v l) m:=by unfold numF;rw [List.foldl_append]
theorem Zg6:∀ (l:List UInt8) (v:Nat),numF v l=v * 10 ^ l.length + numF 0 l
 | [],v=>by simp [numF]
 | c :: l,v=>by
  rw [Zht,Zht,Zg6 l (v * 10 + _),Zg6 l (0 * 10 + _),List.length_cons,Nat.pow_succ,Nat.add_mul,Nat.zero_mul,Nat.zero_add,Nat.mul_assoc v 10,Nat.mul_comm 10]
  omega
theorem Zhp {c:UInt8}:isDig c=true ↔ 48<=c.toNat/\c.toNat<=57:=by unfold isDig;simp
theorem Zop:∀ (l:List UInt8),l.all isDig=true->numF 0 l < 10 ^ l.length
 | [],_=>by simp [numF]
 | c :: l,h=>by
  rw [List.all_cons,Bool.and_eq_true] at h
  have h1:=Zop l h.2
  have h2:=Zhp.1 h.1
  rw [Zht,Zg6,List.length_cons,Nat.pow_succ]
  have := Nat.mul_le_mul_right (10 ^ l.length) (show 0 * 10 + (c.toNat - 48)<=9 by omega)
  omega
theorem Zqz (s:ByteArray) (h:s.size<=9223372036854775807):Zb6.f s=some (bytesOf s):=by unfold Zb6.f;rw [if_pos h]
theorem Zjp (s:ByteArray) (i:Nat) (c:UInt8) (r:List UInt8) (h:s.data.toList.drop i=c :: r):(bytesOf s).getD i 0=(c.toNat:Int):=by
 unfold bytesOf
 have h2:s.data.toList[i]? = some c:=by
  have := List.getElem?_drop (xs:=s.data.toList) (i:=i) (j:=0)
  rw [h] at this
  simpa using this.symm
 rw [List.getD,List.getElem?_map,h2];rfl
theorem Zl9 (s:ByteArray) (hs:s.data.toList.all isDig=true) (hl:s.data.toList.length<=9):∀ (r:List UInt8) (i v:Nat),s.data.toList.drop i=r->i<=s.data.toList.length->v < 10 ^ i->Tells (fun k=>Zcd.l0 k (v:Int) (bytesOf s) ((bytesOf s).length:Int) (i:Int)) (numF v r:Int)
 | [],i,v,hr,hi,hv=>by
  have hlen:(bytesOf s).length=s.data.toList.length:=by unfold bytesOf;rw [List.length_map]
  have hge:s.data.toList.length<=i:=List.drop_eq_nil_iff.1 hr
  refine Tells.succ ?_
  simp only [Zcd.l0]
  exact Tells.ifn (by omega) (Tells.pure _)
 | c :: r,i,v,hr,hi,hv=>by
  have hlen:(bytesOf s).length=s.data.toList.length:=by unfold bytesOf;rw [List.length_map]
  have hlt:i < s.data.toList.length:=by
   have := congrArg List.length hr
   rw [List.length_drop,List.length_cons] at this
   omega
  have hc:isDig c=true:=List.all_eq_true.1 hs c (List.mem_of_mem_drop (by rw [hr];exact List.mem_cons_self))
  have hc2:=Zhp.1 hc
  have hv9:v < 100000000:=Nat.lt_of_lt_of_le hv (Nat.le_trans (Nat.pow_le_pow_right (by omega) (show i<=8 by omega)) (by decide))
  have ih:=Zl9 s hs hl r (i + 1) (v * 10 + (c.toNat - 48)) (by rw [<- List.drop_drop,hr];rfl) (by omega) (by rw [Nat.pow_succ];omega)
  have c1:(i:Int) < ((bytesOf s).length:Int):=by omega
  have c2:(0:Int)<=(i:Int):=by omega
  have e1:(((v:Int) * 10) % 4294967296 + (((c.toNat:Int) - 48) % 256)) % 4294967296=((v * 10 + (c.toNat - 48):Nat):Int):=by omega
  refine Tells.succ ?_
  simp only [Zcd.l0]
  rw [rd_n,Zjp s i c r hr,e1,w64s (by omega)]
  exact Tells.ifp c1 (Tells.ifp c2 (Tells.ifp c1 ih))
theorem Zk1 (s:ByteArray) (hs:s.data.toList.all isDig=true) (hl:s.data.toList.length<=9):Tells (fun k=>Zcd.f k s) (numF 0 s.data.toList:Int):=by
 unfold Zcd.f
 have hsz:s.size=s.data.toList.length:=by rw [Array.length_toList];rfl
 rw [Zqz s (by omega)]
 exact (Tells.pure _).bind (Zl9 s hs hl s.data.toList 0 0 rfl (by omega) (by simp))
theorem Zi3:([1000000000]:List Int)=limbs 1000000000:=by decide +kernel
theorem Zqo (n:Nat) (h:n < 4294967296):Tells (fun k=>Zw.f k [(n:Int)]) (limbs n) :=
 Zdi (Dg.one (by omega) (by omega)) (by rw [val_one]) (by simp)
theorem Zpr {l:List UInt8} (h:l.all isDig=true) (n:Nat):(l.drop n).all isDig=true:=List.all_eq_true.2 fun x hx=>List.all_eq_true.1 h x (List.mem_of_mem_drop hx)
theorem Zlo {l:List UInt8} (h:l.all isDig=true) (n:Nat):(l.take n).all isDig=true:=List.all_eq_true.2 fun x hx=>List.all_eq_true.1 h x (List.mem_of_mem_take hx)
theorem Zlj:∀ (f:Nat) (s:ByteArray) (v:Nat),s.data.toList.length<=f->s.data.toList.all isDig=true->(v=0\/s.data.toList.length % 9=0)->nd v + s.data.toList.length<=100000 ->
  Tells (fun k=>Za1.l0 k s (limbs v)) (limbs (numF v s.data.toList),0)
 | f,s,v,hf,hs,hv,hl=>by
  have hsz:s.size=s.data.toList.length:=by rw [Array.length_toList];rfl
  by_cases h0:s.data.toList=[]
  ·refine Tells.succ ?_
   simp only [Za1.l0]
   refine Tells.ifp (by rw [<- h0];exact (Lib.toList_data s)) ((Tells.pure _).val ?_)
   rw [h0,Zp9]
  ·have hpos:0 < s.data.toList.length:=List.length_pos_iff.2 h0
   obtain ⟨f,rfl⟩:∃ g,f=g + 1:=⟨f - 1,by omega⟩
   obtain ⟨n,hn⟩:∃ n,(s.data.toList.length - 1) % 9 + 1=n:=⟨_,rfl⟩
   have hn9:n<=9:=by omega
   have hnl:n<=s.data.toList.length:=by omega
   have hT:(s.extract 0 n).data.toList=s.data.toList.take n:=by rw [Zlx];simp
   have hD:(s.extract n s.size).data.toList=s.data.toList.drop n:=by
    rw [Zlx,hsz,List.take_of_length_le (by rw [List.length_drop];omega)]
   have hp:=Zk1 (s.extract 0 n) (by rw [hT];exact Zlo hs n) (by rw [hT,List.length_take];omega)
   rw [hT] at hp
   have hpl:=Zop (s.data.toList.take n) (Zlo hs n)
   obtain ⟨p,hpp⟩:∃ p,numF 0 (s.data.toList.take n)=p:=⟨_,rfl⟩
   rw [hpp] at hp hpl
   rw [List.length_take,Nat.min_eq_left hnl] at hpl
   have hp9:p < 1000000000:=Nat.lt_of_lt_of_le hpl (Nat.le_trans (Nat.pow_le_pow_right (by omega) hn9) (by decide))
   have hv2:v * 1000000000 + p=numF v (s.data.toList.take n):=by
    rw [Zg6,hpp,List.length_take,Nat.min_eq_left hnl]
    rcases hv with h|h
    ·rw [h];simp
    ·rw [show n=9 by omega]
   have hndv:nd (v * 1000000000 + p)<=nd v + 9:=by
    refine Zg3 ?_
    have := Zh4 v
    rw [Nat.pow_add]
    have h9:(10:Nat) ^ 9=1000000000:=by decide
    rw [h9]
    have := Nat.mul_le_mul_right 1000000000 (show v + 1<=10 ^ nd v by omega)
    omega
   have hv0:v=0->nd (v * 1000000000 + p)<=n:=fun e=>by
    subst e
    rw [Nat.zero_mul,Nat.zero_add]
    exact Zg3 hpl
   have hndb:nd 1000000000<=10:=Zg3 (by decide)
   have hndp:nd p<=9:=Zg3 hp9
   have hm:=Zf6 (m:=v) (n:=1000000000) (by omega) (by omega)
   have ha:=Zjl (m:=v * 1000000000) (n:=p) (Nat.le_trans (Zdz (Nat.le_add_right _ p)) (by omega)) (by omega)
   have ih:=Zlj f (s.extract n s.size) (v * 1000000000 + p) (by rw [hD,List.length_drop];omega) (by rw [hD];exact Zpr hs n) (.inr (by rw [hD,List.length_drop];omega)) (by
    rw [hD,List.length_drop]
    rcases hv with h|h
    ·have := hv0 h;omega
    ·have:n=9:=by omega
     omega)
   rw [hD] at ih
   have ih:=ih.val (u:=(limbs (numF v s.data.toList),0)) (by rw [hv2,<- Zp8,List.take_append_drop])
   have e1:(s.size:Int) - 1=((s.data.toList.length - 1:Nat):Int):=by omega
   have e2:Int.tmod ((s.data.toList.length - 1:Nat):Int) 9=(((s.data.toList.length - 1) % 9:Nat):Int):=by rw [Int.tmod_eq_emod_of_nonneg (by omega)];omega
   have c1:(0:Int)<=(n:Int):=by omega
   have c2:(n:Int)<=(s.size:Int):=by omega
   refine Tells.succ ?_
   simp only [Za1.l0]
   rw [e1,w64c (by omega),e2,w64s (by omega),hn,Int.toNat_natCast,Zi3]
   refine Tells.ifn (fun q=>h0 (by rw [<- Lib.toList_data s];exact q)) (hm.bind (Tells.ifp c1 (Tells.ifp c2 (hp.bind ((Zqo p (by omega)).bind (ha.bind ih))))))
theorem Zmt (s:ByteArray) (h:s.data.toList.all isDig=true):Zb0.f (bytesOf s)=some false:=by
 unfold Zb0.f
 rw [Zjn (fun x=>decide (x < 48) || decide (57 < x)) (bytesOf s) (fun x _=>by
  unfold Zdy.f
  by_cases h1:x < 48
  ·rw [if_pos h1,decide_eq_true h1];rfl
  ·rw [if_neg h1,decide_eq_false h1];rfl)]
 congr 1
 rw [List.any_eq_false]
 intro x hx
 unfold bytesOf at hx
 obtain ⟨c,hc,rfl⟩:=List.mem_map.1 hx
 have := Zhp.1 (List.all_eq_true.1 h c hc)
 simp;omega
theorem Zkl (s:ByteArray) (h:s.data.toList.all isDig=true) (h0:0 < s.size) (h1:s.size<=2400):Tells (fun k=>Za1.f k s) (limbs (numF 0 s.data.toList),0):=by
 have hsz:s.size=s.data.toList.length:=by rw [Array.length_toList];rfl
 unfold Za1.f
 rw [Zqz s (by omega)]
 refine Tells.ifn (by omega) (Tells.ifn (by omega) ((Tells.pure _).bind ?_))
 rw [Zmt s h]
 exact (Tells.pure _).bind (Tells.ifn (by simp) (Zlj _ s 0 (Nat.le_refl _) h (.inl rfl) (by rw [Zol];omega)))
theorem Zmp {n:Nat} (h:nd n<=2400):Tells (fun k=>Za1.f k (decT n)) (limbs n,0):=by
 have hs:=Ze5 n
 have hpos:0 < (decT n).size:=by
  rw [hs];split
  ·omega
  ·rename_i h0;exact Zhr h0
 have hle:(decT n).size<=2400:=by rw [hs];split <;> omega
 refine (Zkl (decT n) (Zp0 n) hpos hle).val ?_
 rw [show numF 0 (decT n).data.toList=n from Zoq n]
theorem Ztc (a:Bool) (n:Nat) (e:Int):Zch.f a (limbs n) e=some (decide (n=0)):=by
 unfold Zch.f
 congr 1
 by_cases h:n=0
 ·subst h;rfl
 ·have:0 < (limbs n).length:=List.length_pos_iff.2 (Zd9 h)
  rw [decide_eq_false h]
  exact beq_eq_false_iff_ne.2 (by omega)
theorem Zgy {n:Nat} (h:(limbs n).length<=256):Tells (fun k=>Zcs.f k (limbs n)) (nd n:Int):=by
 unfold Zcs.f
 refine (Zfu h).bind ?_
 by_cases h0:n=0
 ·subst h0
  exact Tells.ifp rfl (Tells.pure _)
 ·have hl:0 < (limbs n).length:=List.length_pos_iff.2 (Zd9 h0)
  refine Tells.ifn (by omega) ((Tells.pure _).val ?_)
  rw [Ze5,if_neg h0]
theorem Zpy {n:Nat} (h:(limbs n).length<=256):(limbs (core n)).length<=256:=by
 refine Ze7 (Nat.lt_of_le_of_lt (Zrl n) (Nat.lt_of_lt_of_le (Zi4 n) (Nat.pow_le_pow_right (by omega) h)))
theorem Zk8 (a:Bool) {n:Nat} (e:Int) (h0:n ≠ 0) (h:(limbs n).length<=256) (hd:nd n<=2400) (he1 : -1000000000<=e) (he2:e<=1000000000):Tells (fun k=>Zbw.f k a (limbs n) e) (a,limbs (core n),e + tz n):=by
 have hs:=Ze5 n
 have hs2:=Ze5 (core n)
 have hnc:=Zi6 h0
 rw [if_neg h0] at hs
 rw [if_neg (Zix h0)] at hs2
 unfold Zbw.f Zeq.f Zfj.f Zb5.f
 refine (Zfu h).bind ((Tells.pure _).bind ?_)
 rw [if_pos ⟨rfl,by show (decT n).size<=_;omega⟩]
 refine (Tells.pure _).bind ?_
 simp only [Zpk h0]
 by_cases ht:tz n=0
 ·have hc:core n=n:=by
   have := (Zkf h0).1
   rw [ht,Nat.pow_zero,Nat.mul_one] at this
   exact this.symm
  refine Tells.ifp (by rw [hc]) ((Tells.pure _).val ?_)
  rw [hc,ht];simp
 ·refine Tells.ifn (by omega) ?_
  have e1:((decT n).size:Int) - ((decT (core n)).size:Int)=(tz n:Int):=by omega
  refine (Zmp (by omega)).bind ((Tells.pure _).bind ((Tells.pure _).val ?_))
  rw [e1,w64c (m:=tz n) (by omega),w64n (by omega) (by omega)]
theorem Zka (a:Bool) {n:Nat} (e:Int) (h:(limbs n).length<=256) (hd:nd n<=2400) (he1 : -1000000000<=e) (he2:e<=1000000000):Tells (fun k=>Zcy.f k a (limbs n) e) (outD (settleD ⟨a,n,e⟩)):=by
 unfold Zcy.f settleD
 rw [Ztc]
 refine (Tells.pure _).bind ?_
 simp only
 by_cases h0:n=0
 ·subst h0
  exact Tells.ifp rfl (Tells.pure _)
 ·rw [if_neg h0]
  have hcd:=Zi6 h0
  refine Tells.ifn (by simp [h0]) ((Zk8 a e h0 h hd he1 he2).bind ((Zgy (Zpy h)).bind ?_))
  dsimp only
  by_cases h3:300 < nd (core n)
  ·rw [if_pos h3]
   exact Tells.ifp (by omega) (Tells.pure _)
  ·rw [if_neg h3]
   refine Tells.ifn (by omega) ?_
   by_cases h4:e + tz n < -1000
   ·exact (Tells.ifp h4 (Tells.pure _)).val (by rw [if_pos (Or.inl h4)];rfl)
   ·refine Tells.ifn h4 ?_
    by_cases h5:1000 < e + tz n
    ·exact (Tells.ifp h5 (Tells.pure _)).val (by rw [if_pos (Or.inr h5)];rfl)
    ·exact (Tells.ifn h5 (Tells.pure _)).val (by rw [if_neg (by omega)])
theorem Zpj {n:Nat} (h:(limbs n).length<=256):Tells (fun k=>Zem.f k (limbs n)) (limbs (n / 10),decide (n % 10=0)):=by
 unfold Zem.f
 have h10:(limbs 10).length<=256:=by decide +kernel
 refine (Zmn 10 (by omega)).bind ((Zjf h h10).bind ((Tells.pure _).val ?_))
 rw [if_neg (by omega)]
 dsimp only
 congr 1
 by_cases h0:n % 10=0
 ·rw [h0];rfl
 ·have:0 < (limbs (n % 10)).length:=List.length_pos_iff.2 (Zd9 h0)
  rw [decide_eq_false h0]
  exact beq_eq_false_iff_ne.2 (by omega)
theorem Zgu (a:Bool) (l:List Int) (e:Int) (hd:Dg 4294967296 l) (hl:l.length<=9223372036854775807):Tells (fun k=>Zbn.f k a l e) (chk a l e):=by
 unfold Zbn.f
 rw [Zg8 l hl]
 refine (Tells.pure _).bind ?_
 have bad:chk a l e=9->Tells (fun k=>Zbn.j0 k true a l e) (chk a l e):=fun h=>by
  rw [h]
  refine Tells.succ ?_
  simp only [Zbn.j0]
  exact Tells.ifp trivial (Tells.pure _)
 by_cases hc:chkL l=0
 ·refine Tells.ifp hc ?_
  by_cases h40:l.length<=40
  ·rw [decide_eq_false (show ¬ ((l.length:Int) > 40) by omega)]
   have hok:=(Zko hd).1 hc
   obtain ⟨n,hn⟩:∃ n,num l=n:=⟨_,rfl⟩
   have hln:l=limbs n:=by rw [<- hn];exact (Zjy hok).symm
   have hchk:chk a l e=if okB ⟨a,n,e⟩=true then 0 else 9:=by
    unfold chk
    rw [hn]
    by_cases h:okB ⟨a,n,e⟩=true
    ·rw [if_pos ⟨hc,h40,h⟩,if_pos h]
    ·rw [if_neg (fun q=>h q.2.2),if_neg h]
   rw [hchk]
   subst hln
   have h256:(limbs n).length<=256:=by omega
   unfold okB
   simp only
   refine Tells.succ ?_
   simp only [Zbn.j0]
   refine Tells.ifn (by simp) ?_
   by_cases h0:n=0
   ·subst h0
    rw [if_pos rfl]
    refine Tells.ifp rfl ?_
    cases a
    ·refine Tells.ifn (by simp) ?_
     by_cases he:e=0
     ·subst he;exact Tells.ifp rfl (Tells.pure _)
     ·refine Tells.ifn he ((Tells.pure _).val ?_)
      simp [he]
    ·exact Tells.ifp rfl (Tells.pure _)
   ·have hpos:0 < (limbs n).length:=List.length_pos_iff.2 (Zd9 h0)
    rw [if_neg h0]
    refine Tells.ifn (by omega) ((Zpj h256).bind ?_)
    dsimp only
    by_cases hz:n % 10=0
    ·rw [decide_eq_false (not_not_intro hz)]
     exact Tells.ifp (decide_eq_true hz) (Tells.pure _)
    ·rw [decide_eq_true hz]
     refine Tells.ifn (by simp [hz]) ((Zgy h256).bind ?_)
     by_cases h3:nd n<=300
     ·rw [decide_eq_true h3]
      refine Tells.ifn (by omega) ?_
      by_cases h4:e < -1000
      ·rw [decide_eq_false (show ¬ (-1000<=e) by omega)]
       exact Tells.ifp h4 (Tells.pure _)
      ·rw [decide_eq_true (show -1000<=e by omega)]
       refine Tells.ifn h4 ?_
       by_cases h5:1000 < e
       ·rw [decide_eq_false (show ¬ (e<=1000) by omega)]
        exact Tells.ifp h5 (Tells.pure _)
       ·rw [decide_eq_true (show e<=1000 by omega)]
        exact Tells.ifn h5 (Tells.pure _)
     ·rw [decide_eq_false h3]
      exact Tells.ifp (by omega) (Tells.pure _)
  ·rw [decide_eq_true (show ((l.length:Int) > 40) by omega)]
   exact bad (by unfold chk;rw [if_neg (fun q=>h40 q.2.1)])
 ·exact Tells.ifn hc (bad (by unfold chk;rw [if_neg (fun q=>hc q.1)]))
theorem DCheck (D:Dm) (h:OkD D):Tells (fun k=>Zbn.f k D.neg (limbs D.n) D.e) 0:=by
 have h1:=Zf7 h
 have := Zgu D.neg (limbs D.n) D.e (Zc3 _) (by omega)
 rw [Zn3 h] at this
 exact this
theorem Zgz {n:Nat} (h:nd n<=2304):(limbs n).length<=256:=Zih (by omega)
theorem Zrg (l:List Int) (h:l.length<=10000):Zag.f l=some l:=by unfold Zag.f;rw [if_pos (by omega)]
theorem Zio (s:Bool) (n:Nat) (e:Int) (h:(limbs n).length<=256) (hd:nd n<=2400):Tells (fun k=>Zax.f k s (limbs n) e) (if e < -4000\/4000 < e then (false,[],0,52) else outD (settleD ⟨s,n,e⟩)):=by
 have bad:Tells (fun k=>Zax.j0 k s (limbs n) e true) (false,[],0,52):=by
  refine Tells.succ ?_
  simp only [Zax.j0]
  exact Tells.ifp trivial (Tells.pure _)
 unfold Zax.f
 rw [chkN h]
 refine (Tells.pure _).bind (Tells.ifp rfl ?_)
 by_cases h1:e < -4000
 ·rw [if_pos (.inl h1)]
  exact Tells.ifp h1 bad
 ·refine Tells.ifn h1 ?_
  by_cases h2:4000 < e
  ·rw [if_pos (.inr h2),decide_eq_true (show e > 4000 from h2)]
   exact bad
  ·rw [if_neg (by omega),decide_eq_false (show ¬ (e > 4000) from h2)]
   refine Tells.succ ?_
   simp only [Zax.j0]
   rw [Zrg _ (by omega)]
   exact Tells.ifn (by simp) ((Tells.pure _).bind ((Zka s e h hd (by omega) (by omega)).bind (Tells.pure _)))
end YtjbjkmccfocikaaGreatDoor.P
end
section
namespace YtjbjkmccfocikaaGreatDoor.B
open Go.RowKit Go.Shelf YtjbjkmccfocikaaGreatDoorW.PrintWords
theorem Zf0 (b o j:Nat):(⟨b,o,none⟩:Addr).add j=⟨b,o + j,none⟩:=by unfold Addr.add;split <;> simp_all
end YtjbjkmccfocikaaGreatDoor.B
end
section
namespace YtjbjkmccfocikaaGreatDoor.B
open Go.RowKit YtjbjkmccfocikaaGreatDoorW.PrintWords YtjbjkmccfocikaaGreatDoorW.PrintLast YtjbjkmccfocikaaGreatDoorW.PrintMore
attribute [local go_sem] Zb7 Zb9 Zcu Zcv Zbt Zbu Zb8 Zca
def Zak.f (a0:ByteArray) (a1:Int):Option (Bool):=if a1 < (a0.size:Int) then (if 0<=a1 then (if (bt a0 a1) >= 48 then (some (decide ((bt a0 a1)<=57))) else (some false)) else (none)) else (some false)
theorem Zak.calls (a0:ByteArray) (a1:Int) (r:Bool) (w:World) (h:Zak.f a0 a1=some r) :
  Calls Tryz.prog 153 #[.string a0,.int .i64 a1] w fun e w'=>e=.returned (.bool r)/\Drawn0 w w':=by
 have H:(if a1 < (a0.size:Int) then (if 0<=a1 then (if (bt a0 a1) >= 48 then (some (decide ((bt a0 a1)<=57))) else (some false)) else (none)) else (some false))=some r:=h
 clear h
 by_cases c3:a1 < (a0.size:Int)
 ·rw [if_pos c3] at H
  have c3b0:decide (a1 < (a0.size:Int))=true:=decide_eq_true c3
  clear c3
  by_cases c4:0<=a1
  ·rw [if_pos c4] at H
   have c4b0:decide (0<=a1)=true:=decide_eq_true c4
   clear c4
   by_cases c6:(bt a0 a1) >= 48
   ·rw [if_pos c6] at H
    have c6b0:decide (48<=(bt a0 a1))=true:=decide_eq_true c6
    clear c6
    obtain rfl:=Option.some.inj H
    have p5:0<=(a1:Int):=of_decide_eq_true pQ
    have q5:a1 < (a0.size:Int):=of_decide_eq_true pQ
    have hx5:=Zdk a0 a1
    replace p5:=eq_true p5
    replace q5:=eq_true q5
    have p7:0<=(a1:Int):=of_decide_eq_true pQ
    have q7:a1 < (a0.size:Int):=of_decide_eq_true pQ
    have hx7:=Zdk a0 a1
    replace p7:=eq_true p7
    replace q7:=eq_true q7
    go_enter Tryz.func153,Tryz.ntmps153
    go_wp2
    go_ret
    exact ⟨pR,pD⟩
   ·rw [if_neg c6] at H
    have c6b0:decide (48<=(bt a0 a1))=false:=decide_eq_false c6
    clear c6
    obtain rfl:=Option.some.inj H
    have p5:0<=(a1:Int):=of_decide_eq_true pQ
    have q5:a1 < (a0.size:Int):=of_decide_eq_true pQ
    have hx5:=Zdk a0 a1
    replace p5:=eq_true p5
    replace q5:=eq_true q5
    go_enter Tryz.func153,Tryz.ntmps153
    go_wp2
    go_ret
    exact ⟨pR,pD⟩
  ·rw [if_neg c4] at H
   exact absurd H (by simp)
 ·rw [if_neg c3] at H
  have c3b0:decide (a1 < (a0.size:Int))=false:=decide_eq_false c3
  clear c3
  obtain rfl:=Option.some.inj H
  go_enter Tryz.func153,Tryz.ntmps153
  go_wp2
  go_ret
  exact ⟨pR,pD⟩
mutual
def Ze.j0:Nat->ByteArray->Int->Bool->Option (Int × Bool)
 | 0,_,_,_=>none
 | k + 1,x0,x1,x15=>if x15=true then (Ze.j1 k x0 (wrap64 (x1 + 1))) else (Ze.j1 k x0 x1)
def Ze.j1:Nat->ByteArray->Int->Option (Int × Bool)
 | 0,_,_=>none
 | k + 1,x0,x1=>(Zak.f x0 x1).bind fun t534=>(if t534=true then (if 0<=x1 then (if x1 < (x0.size:Int) then (if (bt x0 x1)=48 then (Ze.j3 k x0 (wrap64 (x1 + 1))) else (Ze.l0 k x0 x1)) else (none)) else (none)) else (some (x1,false)))
def Ze.j3:Nat->ByteArray->Int->Option (Int × Bool)
 | 0,_,_=>none
 | k + 1,x0,x1=>if x1 < (x0.size:Int) then (if 0<=x1 then (Ze.j4 k x0 x1 ((bt x0 x1) == 46)) else (none)) else (Ze.j4 k x0 x1 false)
def Ze.j4:Nat->ByteArray->Int->Bool->Option (Int × Bool)
 | 0,_,_,_=>none
 | k + 1,x0,x1,x43=>if x43=true then ((Zak.f x0 (wrap64 (x1 + 1))).bind fun t536=>(if t536=true then (Ze.l1 k x0 (wrap64 (x1 + 1))) else (some (wrap64 (x1 + 1),false)))) else (Ze.j6 k x0 x1)
def Ze.j6:Nat->ByteArray->Int->Option (Int × Bool)
 | 0,_,_=>none
 | k + 1,x0,x1=>if x1 < (x0.size:Int) then (if 0<=x1 then (if (bt x0 x1)=101 then (Ze.j7 k x0 x1 true) else (Ze.j7 k x0 x1 ((bt x0 x1) == 69))) else (none)) else (Ze.j7 k x0 x1 false)
def Ze.j7:Nat->ByteArray->Int->Bool->Option (Int × Bool)
 | 0,_,_,_=>none
 | k + 1,x0,x1,x71=>if x71=true then (if (wrap64 (x1 + 1)) < (x0.size:Int) then (if 0<=(wrap64 (x1 + 1)) then (if (bt x0 (wrap64 (x1 + 1)))=43 then (Ze.j8 k x0 (wrap64 (x1 + 1)) true) else (Ze.j8 k x0 (wrap64 (x1 + 1)) ((bt x0 (wrap64 (x1 + 1))) == 45))) else (none)) else (Ze.j8 k x0 (wrap64 (x1 + 1)) false)) else (some (x1,true))
def Ze.j8:Nat->ByteArray->Int->Bool->Option (Int × Bool)
 | 0,_,_,_=>none
 | k + 1,x0,x1,x89=>if x89=true then (Ze.j9 k x0 (wrap64 (x1 + 1))) else (Ze.j9 k x0 x1)
def Ze.j9:Nat->ByteArray->Int->Option (Int × Bool)
 | 0,_,_=>none
 | k + 1,x0,x1=>(Zak.f x0 x1).bind fun t538=>(if t538=true then (Ze.l2 k x0 x1) else (some (x1,false)))
def Ze.l2:Nat->ByteArray->Int->Option (Int × Bool)
 | 0,_,_=>none
 | k + 1,x0,x1=>(Zak.f x0 x1).bind fun t539=>(if t539=true then (Ze.l2 k x0 (wrap64 (x1 + 1))) else (some (x1,true)))
def Ze.l1:Nat->ByteArray->Int->Option (Int × Bool)
 | 0,_,_=>none
 | k + 1,x0,x1=>(Zak.f x0 x1).bind fun t537=>(if t537=true then (Ze.l1 k x0 (wrap64 (x1 + 1))) else (Ze.j6 k x0 x1))
def Ze.l0:Nat->ByteArray->Int->Option (Int × Bool)
 | 0,_,_=>none
 | k + 1,x0,x1=>(Zak.f x0 x1).bind fun t535=>(if t535=true then (Ze.l0 k x0 (wrap64 (x1 + 1))) else (Ze.j3 k x0 x1))
end
def Ze.f (k:Nat) (a0:ByteArray) (a1:Int):Option (Int × Bool):=if a1 < (a0.size:Int) then (if 0<=a1 then (Ze.j0 k a0 a1 ((bt a0 a1) == 45)) else (none)) else (Ze.j0 k a0 a1 false)
theorem Ze.calls (k:Nat) (a0:ByteArray) (a1:Int) (r1:Int) (r2:Bool) (w:World) (h:Ze.f k a0 a1=some (r1,r2)) :
  Calls Tryz.prog 117 #[.string a0,.int .i64 a1] w fun e w'=>e=.returned (.tuple #[.int .i64 r1,.bool r2])/\Drawn0 w w':=by
 have H:(if a1 < (a0.size:Int) then (if 0<=a1 then (Ze.j0 k a0 a1 ((bt a0 a1) == 45)) else (none)) else (Ze.j0 k a0 a1 false))=some (r1,r2):=h
 clear h
 have HC3:=am H
 clear H
 go_enter Tryz.func117,Tryz.ntmps117
 go_upto_region 1 with (fail)
 go_cut [15] (fun v15 wc => ∃ (kq:Nat) (x15_2:Bool),v15=.bool x15_2/\Aside0 (Ze.j0 kq a0 a1 x15_2=some (r1,r2))/\Aside0 (kq<=k)/\Drawn0 w wc)
 case first =>
  have H:=HC3.out
  clear HC3
  by_cases c4:a1 < (a0.size:Int)
  ·rw [if_pos c4] at H
   have c4b0:decide (a1 < (a0.size:Int))=true:=decide_eq_true c4
   clear c4
   (first|rw [c4b0]|(simp only [Zcc,Zdc];rw [c4b0])|skip)
   by_cases c5:0<=a1
   ·rw [if_pos c5] at H
    have c5b0:decide (0<=a1)=true:=decide_eq_true c5
    clear c5
    have H':=am H
    clear H
    have p6:0<=(a1:Int):=of_decide_eq_true pQ
    have q6:a1 < (a0.size:Int):=of_decide_eq_true pQ
    have hx6:=Zdk a0 a1
    replace p6:=eq_true p6
    replace q6:=eq_true q6
    go_wp2
    go_meet
    case rel=>exact ⟨_,(((bt a0 a1) == 45)),pR,H',⟨by first|omega|exact Nat.le_refl _⟩,pD⟩
   ·rw [if_neg c5] at H
    exact absurd H (by simp)
  ·rw [if_neg c4] at H
   have c4b0:decide (a1 < (a0.size:Int))=false:=decide_eq_false c4
   clear c4
   (first|rw [c4b0]|(simp only [Zcc,Zdc];rw [c4b0])|skip)
   have H':=am H
   clear H
   go_wp2
   go_meet
   case rel=>exact ⟨_,(false),pR,H',⟨by first|omega|exact Nat.le_refl _⟩,pD⟩
 case rest =>
  clear HC3
  obtain ⟨kq,x15_2,rfl,HA,HJ2,⟨mc2,rfl⟩⟩:=hcut
  cases kq with
  | zero=>exact absurd HA.out (by simp [Ze.j0])
  | succ kj2 =>
   have H:=HA.out
   clear HA
   simp only [Ze.j0] at H
   have HC7:=am H
   clear H
   go_upto_if 15 with (fail)
   go_cut [1] (fun v1 wc => ∃ (kq:Nat) (x1_6:Int),v1=.int .i64 x1_6/\Aside0 (Ze.j1 kq a0 x1_6=some (r1,r2))/\Aside0 (kq<=kj2)/\Drawn0 w wc)
   case first =>
    have H:=HC7.out
    clear HC7
    by_cases c8:x15_2=true
    ·subst c8
     rw [if_pos rfl] at H
     have H':=am H
     clear H
     go_wp2
     go_meet
     case rel=>exact ⟨_,(wrap64 (a1 + 1)),pR,H',⟨by have := HJ2.out;first|omega|exact Nat.le_refl _⟩,pD⟩
    ·replace c8:=Bool.eq_false_iff.mpr c8
     subst c8
     rw [if_neg (show ¬ (false=true) by decide)] at H
     have H':=am H
     clear H
     go_wp2
     go_meet
     case rel=>exact ⟨_,(a1),pR,H',⟨by have := HJ2.out;first|omega|exact Nat.le_refl _⟩,pD⟩
   case rest =>
    clear HC7
    obtain ⟨kq,x1_6,rfl,HA,HJ6,⟨mc6,rfl⟩⟩:=hcut
    cases kq with
    | zero=>exact absurd HA.out (by simp [Ze.j1])
    | succ kj6 =>
     have H:=HA.out
     clear HA
     simp only [Ze.j1] at H
     obtain ⟨t534,A9,H⟩:=ob H
     by_cases c10:t534=true
     ·subst c10
      rw [if_pos rfl] at H
      by_cases c11:0<=x1_6
      ·rw [if_pos c11] at H
       have c11b0:decide (0<=x1_6)=true:=decide_eq_true c11
       clear c11
       by_cases c12:x1_6 < (a0.size:Int)
       ·rw [if_pos c12] at H
        have c12b0:decide (x1_6 < (a0.size:Int))=true:=decide_eq_true c12
        clear c12
        have HC14:=am H
        clear H
        go_upto_if 26 with (first|(refine gL (some 20) Tryz.func153 #[.string a0,.int .i64 x1_6] (h:=?_);(with_reducible refine (Zak.calls a0 x1_6 true _ A9.out).mono ?_);rintro e w' ⟨rfl,⟨nd,rfl⟩⟩;refine ⟨_,rfl,?_⟩;have p13:0<=(x1_6:Int):=of_decide_eq_true pQ;have q13:x1_6 < (a0.size:Int):=of_decide_eq_true pQ;have hx13:=Zdk a0 x1_6;replace p13:=eq_true p13;replace q13:=eq_true q13))
        (try simp only [Act.put,List.setIfInBounds_toArray,List.set_cons_zero,List.set_cons_succ])
        go_cut [1] (fun v1 wc => ∃ (kq:Nat) (x1_13:Int),v1=.int .i64 x1_13/\Aside0 (Ze.j3 kq a0 x1_13=some (r1,r2))/\Aside0 (kq<=kj6)/\Drawn0 w wc)
        case first =>
         have H:=HC14.out
         clear HC14
         by_cases c15:(bt a0 x1_6)=48
         ·rw [if_pos c15] at H
          have c15b0:((bt a0 x1_6) == 48)=true:=beq_iff_eq.mpr c15
          have c15b1:((bt a0 x1_6) != 48)=false:=bne_eq_false_iff_eq.mpr c15
          clear c15
          (first|rw [c15b0]|(simp only [Zcc,Zdc];rw [c15b0])|skip)
          have H':=am H
          clear H
          go_wp2
          go_meet
          case rel=>exact ⟨_,(wrap64 (x1_6 + 1)),pR,H',⟨by have := HJ2.out;have := HJ6.out;first|omega|exact Nat.le_refl _⟩,pD⟩
         ·rw [if_neg c15] at H
          have c15b0:((bt a0 x1_6) == 48)=false:=beq_eq_false_iff_ne.mpr c15
          have c15b1:((bt a0 x1_6) != 48)=true:=bne_iff_ne.mpr c15
          (first|rw [c15b0]|(simp only [Zcc,Zdc];rw [c15b0])|skip)
          have H':=am H
          clear H
          go_wp2
          go_loopg [1] kj6 (fun kq v1 w' => ∃ (x1_3:Int),v1=.int .i64 x1_3/\Aside0 (Ze.l0 kq a0 x1_3=some (r1,r2))/\Aside0 (kq<=kj6)/\Drawn0 w w')
          case atStart=>exact ⟨(x1_6),pR,H',⟨Nat.le_refl _⟩,pD⟩
          case round =>
           clear H'
           obtain ⟨x1_3,rfl,HA,HK3,⟨m3,rfl⟩⟩:=hrel
           cases gk with
           | zero=>exact absurd HA.out (by simp [Ze.l0])
           | succ k3 =>
            have H:=HA.out
            clear HA
            simp only [Ze.l0] at H
            obtain ⟨t535,A16,H⟩:=ob H
            by_cases c17:t535=true
            ·subst c17
             rw [if_pos rfl] at H
             have H':=am H
             clear H
             go_wp2_with (first|(refine gL (some 31) Tryz.func153 #[.string a0,.int .i64 x1_3] (h:=?_);(with_reducible refine (Zak.calls a0 x1_3 true _ A16.out).mono ?_);rintro e w' ⟨rfl,⟨nd,rfl⟩⟩;refine ⟨_,rfl,?_⟩))
             go_roundg k3
             case measure=>have := HJ2.out;have := HJ6.out;have := HK3.out;omega
             case rel=>exact ⟨(wrap64 (x1_3 + 1)),pR,H',⟨by have := HJ2.out;have := HJ6.out;have := HK3.out;omega⟩,pD⟩
            ·replace c17:=Bool.eq_false_iff.mpr c17
             subst c17
             rw [if_neg (show ¬ (false=true) by decide)] at H
             have H':=am H
             clear H
             go_wp2_with (first|(refine gL (some 31) Tryz.func153 #[.string a0,.int .i64 x1_3] (h:=?_);(with_reducible refine (Zak.calls a0 x1_3 false _ A16.out).mono ?_);rintro e w' ⟨rfl,⟨nd,rfl⟩⟩;refine ⟨_,rfl,?_⟩))
             go_meet
             case rel=>exact ⟨_,(x1_3),pR,H',⟨by have := HJ2.out;have := HJ6.out;have := HK3.out;first|omega|exact Nat.le_refl _⟩,pD⟩
        case rest =>
         clear HC14
         obtain ⟨kq,x1_13,rfl,HA,HJ13,⟨mc13,rfl⟩⟩:=hcut
         cases kq with
         | zero=>exact absurd HA.out (by simp [Ze.j3])
         | succ kj13 =>
          have H:=HA.out
          clear HA
          simp only [Ze.j3] at H
          have HC18:=am H
          clear H
          go_upto_region 9 with (fail)
          go_cut [43] (fun v43 wc => ∃ (kq:Nat) (x43_17:Bool),v43=.bool x43_17/\Aside0 (Ze.j4 kq a0 x1_13 x43_17=some (r1,r2))/\Aside0 (kq<=kj13)/\Drawn0 w wc)
          case first =>
           have H:=HC18.out
           clear HC18
           by_cases c19:x1_13 < (a0.size:Int)
           ·rw [if_pos c19] at H
            have c19b0:decide (x1_13 < (a0.size:Int))=true:=decide_eq_true c19
            clear c19
            (first|rw [c19b0]|(simp only [Zcc,Zdc];rw [c19b0])|skip)
            by_cases c20:0<=x1_13
            ·rw [if_pos c20] at H
             have c20b0:decide (0<=x1_13)=true:=decide_eq_true c20
             clear c20
             have H':=am H
             clear H
             have p21:0<=(x1_13:Int):=of_decide_eq_true pQ
             have q21:x1_13 < (a0.size:Int):=of_decide_eq_true pQ
             have hx21:=Zdk a0 x1_13
             replace p21:=eq_true p21
             replace q21:=eq_true q21
             go_wp2
             go_meet
             case rel=>exact ⟨_,(((bt a0 x1_13) == 46)),pR,H',⟨by have := HJ2.out;have := HJ6.out;have := HJ13.out;first|omega|exact Nat.le_refl _⟩,pD⟩
            ·rw [if_neg c20] at H
             exact absurd H (by simp)
           ·rw [if_neg c19] at H
            have c19b0:decide (x1_13 < (a0.size:Int))=false:=decide_eq_false c19
            clear c19
            (first|rw [c19b0]|(simp only [Zcc,Zdc];rw [c19b0])|skip)
            have H':=am H
            clear H
            go_wp2
            go_meet
            case rel=>exact ⟨_,(false),pR,H',⟨by have := HJ2.out;have := HJ6.out;have := HJ13.out;first|omega|exact Nat.le_refl _⟩,pD⟩
          case rest =>
           clear HC18
           obtain ⟨kq,x43_17,rfl,HA,HJ17,⟨mc17,rfl⟩⟩:=hcut
           cases kq with
           | zero=>exact absurd HA.out (by simp [Ze.j4])
           | succ kj17 =>
            have H:=HA.out
            clear HA
            simp only [Ze.j4] at H
            have HC22:=am H
            clear H
            go_upto_if 43 with (fail)
            go_cut [1] (fun v1 wc => ∃ (kq:Nat) (x1_21:Int),v1=.int .i64 x1_21/\Aside0 (Ze.j6 kq a0 x1_21=some (r1,r2))/\Aside0 (kq<=kj17)/\Drawn0 w wc)
            case first =>
             have H:=HC22.out
             clear HC22
             by_cases c23:x43_17=true
             ·subst c23
              rw [if_pos rfl] at H
              obtain ⟨t536,A24,H⟩:=ob H
              by_cases c25:t536=true
              ·subst c25
               rw [if_pos rfl] at H
               have H':=am H
               clear H
               go_wp2_with (first|(refine gL (some 48) Tryz.func153 #[.string a0,.int .i64 (wrap64 (x1_13 + 1))] (h:=?_);(with_reducible refine (Zak.calls a0 (wrap64 (x1_13 + 1)) true _ A24.out).mono ?_);rintro e w' ⟨rfl,⟨nd,rfl⟩⟩;refine ⟨_,rfl,?_⟩))
               go_loopg [1] kj17 (fun kq v1 w' => ∃ (x1_5:Int),v1=.int .i64 x1_5/\Aside0 (Ze.l1 kq a0 x1_5=some (r1,r2))/\Aside0 (kq<=kj17)/\Drawn0 w w')
               case atStart=>exact ⟨(wrap64 (x1_13 + 1)),pR,H',⟨Nat.le_refl _⟩,pD⟩
               case round =>
                clear H'
                obtain ⟨x1_5,rfl,HA,HK5,⟨m5,rfl⟩⟩:=hrel
                cases gk with
                | zero=>exact absurd HA.out (by simp [Ze.l1])
                | succ k5 =>
                 have H:=HA.out
                 clear HA
                 simp only [Ze.l1] at H
                 obtain ⟨t537,A26,H⟩:=ob H
                 by_cases c27:t537=true
                 ·subst c27
                  rw [if_pos rfl] at H
                  have H':=am H
                  clear H
                  go_wp2_with (first|(refine gL (some 53) Tryz.func153 #[.string a0,.int .i64 x1_5] (h:=?_);(with_reducible refine (Zak.calls a0 x1_5 true _ A26.out).mono ?_);rintro e w' ⟨rfl,⟨nd,rfl⟩⟩;refine ⟨_,rfl,?_⟩))
                  go_roundg k5
                  case measure=>have := HJ2.out;have := HJ6.out;have := HJ13.out;have := HJ17.out;have := HK5.out;omega
                  case rel=>exact ⟨(wrap64 (x1_5 + 1)),pR,H',⟨by have := HJ2.out;have := HJ6.out;have := HJ13.out;have := HJ17.out;have := HK5.out;omega⟩,pD⟩
                 ·replace c27:=Bool.eq_false_iff.mpr c27
                  subst c27
                  rw [if_neg (show ¬ (false=true) by decide)] at H
                  have H':=am H
                  clear H
                  go_wp2_with (first|(refine gL (some 53) Tryz.func153 #[.string a0,.int .i64 x1_5] (h:=?_);(with_reducible refine (Zak.calls a0 x1_5 false _ A26.out).mono ?_);rintro e w' ⟨rfl,⟨nd,rfl⟩⟩;refine ⟨_,rfl,?_⟩))
                  go_meet
                  case rel=>exact ⟨_,(x1_5),pR,H',⟨by have := HJ2.out;have := HJ6.out;have := HJ13.out;have := HJ17.out;have := HK5.out;first|omega|exact Nat.le_refl _⟩,pD⟩
              ·replace c25:=Bool.eq_false_iff.mpr c25
               subst c25
               rw [if_neg (show ¬ (false=true) by decide)] at H
               simp only [Option.some.injEq,Prod.mk.injEq] at H
               obtain ⟨rfl,rfl⟩:=H
               go_wp2_with (first|(refine gL (some 48) Tryz.func153 #[.string a0,.int .i64 (wrap64 (x1_13 + 1))] (h:=?_);(with_reducible refine (Zak.calls a0 (wrap64 (x1_13 + 1)) false _ A24.out).mono ?_);rintro e w' ⟨rfl,⟨nd,rfl⟩⟩;refine ⟨_,rfl,?_⟩))
               go_ret2
               exact ⟨pR,pD⟩
             ·replace c23:=Bool.eq_false_iff.mpr c23
              subst c23
              rw [if_neg (show ¬ (false=true) by decide)] at H
              have H':=am H
              clear H
              go_wp2
              go_meet
              case rel=>exact ⟨_,(x1_13),pR,H',⟨by have := HJ2.out;have := HJ6.out;have := HJ13.out;have := HJ17.out;first|omega|exact Nat.le_refl _⟩,pD⟩
            case rest =>
             clear HC22
             obtain ⟨kq,x1_21,rfl,HA,HJ21,⟨mc21,rfl⟩⟩:=hcut
             cases kq with
             | zero=>exact absurd HA.out (by simp [Ze.j6])
             | succ kj21 =>
              have H:=HA.out
              clear HA
              simp only [Ze.j6] at H
              have HC28:=am H
              clear H
              go_upto_region 15 with (fail)
              go_cut [71] (fun v71 wc => ∃ (kq:Nat) (x71_27:Bool),v71=.bool x71_27/\Aside0 (Ze.j7 kq a0 x1_21 x71_27=some (r1,r2))/\Aside0 (kq<=kj21)/\Drawn0 w wc)
              case first =>
               have H:=HC28.out
               clear HC28
               by_cases c29:x1_21 < (a0.size:Int)
               ·rw [if_pos c29] at H
                have c29b0:decide (x1_21 < (a0.size:Int))=true:=decide_eq_true c29
                clear c29
                (first|rw [c29b0]|(simp only [Zcc,Zdc];rw [c29b0])|skip)
                by_cases c30:0<=x1_21
                ·rw [if_pos c30] at H
                 have c30b0:decide (0<=x1_21)=true:=decide_eq_true c30
                 clear c30
                 by_cases c32:(bt a0 x1_21)=101
                 ·rw [if_pos c32] at H
                  have c32b0:((bt a0 x1_21) == 101)=true:=beq_iff_eq.mpr c32
                  have c32b1:((bt a0 x1_21) != 101)=false:=bne_eq_false_iff_eq.mpr c32
                  clear c32
                  have H':=am H
                  clear H
                  have p31:0<=(x1_21:Int):=of_decide_eq_true pQ
                  have q31:x1_21 < (a0.size:Int):=of_decide_eq_true pQ
                  have hx31:=Zdk a0 x1_21
                  replace p31:=eq_true p31
                  replace q31:=eq_true q31
                  go_wp2
                  go_meet
                  case rel=>exact ⟨_,(true),pR,H',⟨by have := HJ2.out;have := HJ6.out;have := HJ13.out;have := HJ17.out;have := HJ21.out;first|omega|exact Nat.le_refl _⟩,pD⟩
                 ·rw [if_neg c32] at H
                  have c32b0:((bt a0 x1_21) == 101)=false:=beq_eq_false_iff_ne.mpr c32
                  have c32b1:((bt a0 x1_21) != 101)=true:=bne_iff_ne.mpr c32
                  have H':=am H
                  clear H
                  have p31:0<=(x1_21:Int):=of_decide_eq_true pQ
                  have q31:x1_21 < (a0.size:Int):=of_decide_eq_true pQ
                  have hx31:=Zdk a0 x1_21
                  replace p31:=eq_true p31
                  replace q31:=eq_true q31
                  have p33:0<=(x1_21:Int):=of_decide_eq_true pQ
                  have q33:x1_21 < (a0.size:Int):=of_decide_eq_true pQ
                  have hx33:=Zdk a0 x1_21
                  replace p33:=eq_true p33
                  replace q33:=eq_true q33
                  go_wp2
                  go_meet
                  case rel=>exact ⟨_,(((bt a0 x1_21) == 69)),pR,H',⟨by have := HJ2.out;have := HJ6.out;have := HJ13.out;have := HJ17.out;have := HJ21.out;first|omega|exact Nat.le_refl _⟩,pD⟩
                ·rw [if_neg c30] at H
                 exact absurd H (by simp)
               ·rw [if_neg c29] at H
                have c29b0:decide (x1_21 < (a0.size:Int))=false:=decide_eq_false c29
                clear c29
                (first|rw [c29b0]|(simp only [Zcc,Zdc];rw [c29b0])|skip)
                have H':=am H
                clear H
                go_wp2
                go_meet
                case rel=>exact ⟨_,(false),pR,H',⟨by have := HJ2.out;have := HJ6.out;have := HJ13.out;have := HJ17.out;have := HJ21.out;first|omega|exact Nat.le_refl _⟩,pD⟩
              case rest =>
               clear HC28
               obtain ⟨kq,x71_27,rfl,HA,HJ27,⟨mc27,rfl⟩⟩:=hcut
               cases kq with
               | zero=>exact absurd HA.out (by simp [Ze.j7])
               | succ kj27 =>
                have H:=HA.out
                clear HA
                simp only [Ze.j7] at H
                by_cases c34:x71_27=true
                ·subst c34
                 rw [if_pos rfl] at H
                 have HC35:=am H
                 clear H
                 go_upto_region 17 with (fail)
                 go_cut [89] (fun v89 wc => ∃ (kq:Nat) (x89_34:Bool),v89=.bool x89_34/\Aside0 (Ze.j8 kq a0 (wrap64 (x1_21 + 1)) x89_34=some (r1,r2))/\Aside0 (kq<=kj27)/\Drawn0 w wc)
                 case first =>
                  have H:=HC35.out
                  clear HC35
                  by_cases c36:(wrap64 (x1_21 + 1)) < (a0.size:Int)
                  ·rw [if_pos c36] at H
                   have c36b0:decide ((wrap64 (x1_21 + 1)) < (a0.size:Int))=true:=decide_eq_true c36
                   clear c36
                   (first|rw [c36b0]|(simp only [Zcc,Zdc];rw [c36b0])|skip)
                   obtain ⟨ji37,hji37⟩:∃ j_:Int,(wrap64 (x1_21 + 1))=j_:=⟨_,rfl⟩
                   replace H:(if 0<=(ji37) then (if (bt a0 (ji37))=43 then (Ze.j8 kj27 a0 ji37 true) else (Ze.j8 kj27 a0 ji37 ((bt a0 (ji37)) == 45))) else (none))=some (r1,r2):=by first|(rw [hji37] at H;exact H)|(simp only [hji37] at H ⊢;exact H)
                   (try rw [hji37] at c36b0)
                   have hji37w:(IntKind.i64.wrap (x1_21 + 1))=ji37:=(Zcc _).trans hji37
                   by_cases c38:0<=(ji37)
                   ·rw [if_pos c38] at H
                    have c38b0:decide (0<=(ji37))=true:=decide_eq_true c38
                    clear c38
                    by_cases c40:(bt a0 (ji37))=43
                    ·rw [if_pos c40] at H
                     have c40b0:((bt a0 (ji37)) == 43)=true:=beq_iff_eq.mpr c40
                     have c40b1:((bt a0 (ji37)) != 43)=false:=bne_eq_false_iff_eq.mpr c40
                     clear c40
                     have H':=am H
                     clear H
                     have p39:0<=((ji37):Int):=of_decide_eq_true pQ
                     have q39:(ji37) < (a0.size:Int):=of_decide_eq_true pQ
                     have hx39:=Zdk a0 (ji37)
                     replace p39:=eq_true p39
                     replace q39:=eq_true q39
                     go_wp2
                     go_meet
                     case rel=>exact ⟨_,(true),pR,(by first|exact H'|(have H_:=H'.out;simp only [<- hji37] at H_;exact ⟨H_⟩)|(refine ⟨?_⟩;have H_:=H'.out;simp only [<- hji37] at H_ ⊢;exact H_)),⟨by have := HJ2.out;have := HJ6.out;have := HJ13.out;have := HJ17.out;have := HJ21.out;have := HJ27.out;first|omega|exact Nat.le_refl _⟩,pD⟩
                    ·rw [if_neg c40] at H
                     have c40b0:((bt a0 (ji37)) == 43)=false:=beq_eq_false_iff_ne.mpr c40
                     have c40b1:((bt a0 (ji37)) != 43)=true:=bne_iff_ne.mpr c40
                     have H':=am H
                     clear H
                     have p39:0<=((ji37):Int):=of_decide_eq_true pQ
                     have q39:(ji37) < (a0.size:Int):=of_decide_eq_true pQ
                     have hx39:=Zdk a0 (ji37)
                     replace p39:=eq_true p39
                     replace q39:=eq_true q39
                     have p41:0<=((ji37):Int):=of_decide_eq_true pQ
                     have q41:(ji37) < (a0.size:Int):=of_decide_eq_true pQ
                     have hx41:=Zdk a0 (ji37)
                     replace p41:=eq_true p41
                     replace q41:=eq_true q41
                     go_wp2
                     go_meet
                     case rel=>exact ⟨_,(((bt a0 (ji37)) == 45)),(by first|rfl|(simp;done)|(simp only [<- hji37] <;> (first|rfl|simp))|(simp [*];done)),(by first|exact H'|(have H_:=H'.out;simp only [<- hji37] at H_;exact ⟨H_⟩)|(refine ⟨?_⟩;have H_:=H'.out;simp only [<- hji37] at H_ ⊢;exact H_)),⟨by have := HJ2.out;have := HJ6.out;have := HJ13.out;have := HJ17.out;have := HJ21.out;have := HJ27.out;first|omega|exact Nat.le_refl _⟩,pD⟩
                   ·rw [if_neg c38] at H
                    exact absurd H (by simp)
                  ·rw [if_neg c36] at H
                   have c36b0:decide ((wrap64 (x1_21 + 1)) < (a0.size:Int))=false:=decide_eq_false c36
                   clear c36
                   (first|rw [c36b0]|(simp only [Zcc,Zdc];rw [c36b0])|skip)
                   have H':=am H
                   clear H
                   go_wp2
                   go_meet
                   case rel=>exact ⟨_,(false),pR,H',⟨by have := HJ2.out;have := HJ6.out;have := HJ13.out;have := HJ17.out;have := HJ21.out;have := HJ27.out;first|omega|exact Nat.le_refl _⟩,pD⟩
                 case rest =>
                  clear HC35
                  obtain ⟨kq,x89_34,rfl,HA,HJ34,⟨mc34,rfl⟩⟩:=hcut
                  cases kq with
                  | zero=>exact absurd HA.out (by simp [Ze.j8])
                  | succ kj34 =>
                   have H:=HA.out
                   clear HA
                   simp only [Ze.j8] at H
                   have HC42:=am H
                   clear H
                   go_upto_if 89 with (fail)
                   go_cut [1] (fun v1 wc => ∃ (kq:Nat) (x1_41:Int),v1=.int .i64 x1_41/\Aside0 (Ze.j9 kq a0 x1_41=some (r1,r2))/\Aside0 (kq<=kj34)/\Drawn0 w wc)
                   case first =>
                    have H:=HC42.out
                    clear HC42
                    by_cases c43:x89_34=true
                    ·subst c43
                     rw [if_pos rfl] at H
                     have H':=am H
                     clear H
                     go_wp2
                     go_meet
                     case rel=>exact ⟨_,(wrap64 ((wrap64 (x1_21 + 1)) + 1)),pR,H',⟨by have := HJ2.out;have := HJ6.out;have := HJ13.out;have := HJ17.out;have := HJ21.out;have := HJ27.out;have := HJ34.out;first|omega|exact Nat.le_refl _⟩,pD⟩
                    ·replace c43:=Bool.eq_false_iff.mpr c43
                     subst c43
                     rw [if_neg (show ¬ (false=true) by decide)] at H
                     have H':=am H
                     clear H
                     go_wp2
                     go_meet
                     case rel=>exact ⟨_,((wrap64 (x1_21 + 1))),pR,H',⟨by have := HJ2.out;have := HJ6.out;have := HJ13.out;have := HJ17.out;have := HJ21.out;have := HJ27.out;have := HJ34.out;first|omega|exact Nat.le_refl _⟩,pD⟩
                   case rest =>
                    clear HC42
                    obtain ⟨kq,x1_41,rfl,HA,HJ41,⟨mc41,rfl⟩⟩:=hcut
                    cases kq with
                    | zero=>exact absurd HA.out (by simp [Ze.j9])
                    | succ kj41 =>
                     have H:=HA.out
                     clear HA
                     simp only [Ze.j9] at H
                     obtain ⟨t538,A44,H⟩:=ob H
                     by_cases c45:t538=true
                     ·subst c45
                      rw [if_pos rfl] at H
                      have H':=am H
                      clear H
                      go_wp2_with (first|(refine gL (some 94) Tryz.func153 #[.string a0,.int .i64 x1_41] (h:=?_);(with_reducible refine (Zak.calls a0 x1_41 true _ A44.out).mono ?_);rintro e w' ⟨rfl,⟨nd,rfl⟩⟩;refine ⟨_,rfl,?_⟩))
                      go_loopg [1] kj41 (fun kq v1 w' => ∃ (x1_9:Int),v1=.int .i64 x1_9/\Aside0 (Ze.l2 kq a0 x1_9=some (r1,r2))/\Aside0 (kq<=kj41)/\Drawn0 w w')
                      case atStart=>exact ⟨(x1_41),pR,H',⟨Nat.le_refl _⟩,pD⟩
                      case round =>
                       clear H'
                       obtain ⟨x1_9,rfl,HA,HK9,⟨m9,rfl⟩⟩:=hrel
                       cases gk with
                       | zero=>exact absurd HA.out (by simp [Ze.l2])
                       | succ k9 =>
                        have H:=HA.out
                        clear HA
                        simp only [Ze.l2] at H
                        obtain ⟨t539,A46,H⟩:=ob H
                        by_cases c47:t539=true
                        ·subst c47
                         rw [if_pos rfl] at H
                         have H':=am H
                         clear H
                         go_wp2_with (first|(refine gL (some 99) Tryz.func153 #[.string a0,.int .i64 x1_9] (h:=?_);(with_reducible refine (Zak.calls a0 x1_9 true _ A46.out).mono ?_);rintro e w' ⟨rfl,⟨nd,rfl⟩⟩;refine ⟨_,rfl,?_⟩))
                         go_roundg k9
                         case measure=>have := HJ2.out;have := HJ6.out;have := HJ13.out;have := HJ17.out;have := HJ21.out;have := HJ27.out;have := HJ34.out;have := HJ41.out;have := HK9.out;omega
                         case rel=>exact ⟨(wrap64 (x1_9 + 1)),pR,H',⟨by have := HJ2.out;have := HJ6.out;have := HJ13.out;have := HJ17.out;have := HJ21.out;have := HJ27.out;have := HJ34.out;have := HJ41.out;have := HK9.out;omega⟩,pD⟩
                        ·replace c47:=Bool.eq_false_iff.mpr c47
                         subst c47
                         rw [if_neg (show ¬ (false=true) by decide)] at H
                         simp only [Option.some.injEq,Prod.mk.injEq] at H
                         obtain ⟨rfl,rfl⟩:=H
                         go_wp2_with (first|(refine gL (some 99) Tryz.func153 #[.string a0,.int .i64 x1_9] (h:=?_);(with_reducible refine (Zak.calls a0 x1_9 false _ A46.out).mono ?_);rintro e w' ⟨rfl,⟨nd,rfl⟩⟩;refine ⟨_,rfl,?_⟩))
                         go_ret2
                         exact ⟨pR,pD⟩
                     ·replace c45:=Bool.eq_false_iff.mpr c45
                      subst c45
                      rw [if_neg (show ¬ (false=true) by decide)] at H
                      simp only [Option.some.injEq,Prod.mk.injEq] at H
                      obtain ⟨rfl,rfl⟩:=H
                      go_wp2_with (first|(refine gL (some 94) Tryz.func153 #[.string a0,.int .i64 x1_41] (h:=?_);(with_reducible refine (Zak.calls a0 x1_41 false _ A44.out).mono ?_);rintro e w' ⟨rfl,⟨nd,rfl⟩⟩;refine ⟨_,rfl,?_⟩))
                      go_ret2
                      exact ⟨pR,pD⟩
                ·replace c34:=Bool.eq_false_iff.mpr c34
                 subst c34
                 rw [if_neg (show ¬ (false=true) by decide)] at H
                 simp only [Option.some.injEq,Prod.mk.injEq] at H
                 obtain ⟨rfl,rfl⟩:=H
                 go_wp2
                 go_ret2
                 exact ⟨pR,pD⟩
       ·rw [if_neg c12] at H
        exact absurd H (by simp)
      ·rw [if_neg c11] at H
       exact absurd H (by simp)
     ·replace c10:=Bool.eq_false_iff.mpr c10
      subst c10
      rw [if_neg (show ¬ (false=true) by decide)] at H
      simp only [Option.some.injEq,Prod.mk.injEq] at H
      obtain ⟨rfl,rfl⟩:=H
      go_wp2_with (first|(refine gL (some 20) Tryz.func153 #[.string a0,.int .i64 x1_6] (h:=?_);(with_reducible refine (Zak.calls a0 x1_6 false _ A9.out).mono ?_);rintro e w' ⟨rfl,⟨nd,rfl⟩⟩;refine ⟨_,rfl,?_⟩))
      go_ret2
      exact ⟨pR,pD⟩
end YtjbjkmccfocikaaGreatDoor.B
end
end Go.Proofs
