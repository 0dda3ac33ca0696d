/- DecOwn: part 5 of 6: the texts B113 B21 B27 B18 HNParse B28 HLibT B29 B30 B114 B123 B124 PDecF B115 B116 B117 HLib B118 B119 B60 B61 of this claim, one behind the other. -/
import Derived.Test.YtjbjkmccfocikaaGreatDoorZDecOwn3
import Derived.WalkKit
import Derived.Lib.Hide
import Derived.Outline
import Derived.Deep.DeepFit
import Derived.Laws.Rows
import Derived.Lib.TrimByte
import Derived.Shelf.Strings.MapAny
import Derived.Shelf.Strings.SlTrimAscii
set_option linter.unusedVariables false
set_option linter.unusedSimpArgs false
set_option maxRecDepth 100000
set_option maxHeartbeats 8000000
namespace Go.Proofs
section
namespace YtjbjkmccfocikaaGreatDoor.B
open Go.RowKit YtjbjkmccfocikaaGreatDoorW.PrintWords YtjbjkmccfocikaaGreatDoorW.PrintLast YtjbjkmccfocikaaGreatDoorW.PrintMore
attribute [local go_sem] max2_int min2_int max_two min_two max_three min_three max_four min_four
def dec_number_plus.f (k : Nat) (a0_0 : Bool) (l0_1 : List Int) (a0_2 : Int) (a1_0 : Bool) (l1_1 : List Int) (a1_2 : Int) : Option (Bool × List Int × Int):=(dec_number_down.f k a0_0 l0_1 a0_2 (mn a0_2 a1_2)).bind fun bt1508=>((dec_number_down.f k a1_0 l1_1 a1_2 (mn a0_2 a1_2)).bind fun bt1513=>(if (bt1508.1 == bt1513.1) = true then ((nat_Add.f k bt1508.2.1 bt1513.2.1).bind fun bt1518=>((dec_must.f bt1518.1 bt1518.2).bind fun t1522=>(some (bt1508.1,t1522,bt1508.2.2)))) else ((nat_Compare.f k bt1508.2.1 bt1513.2.1).bind fun bt1525=>(if bt1525.1 < 0 then ((nat_Sub.f k bt1513.2.1 bt1508.2.1).bind fun bt1527=>((dec_must.f bt1527.1 bt1527.2).bind fun t1531=>(some (bt1513.1,t1531,bt1513.2.2)))) else ((nat_Sub.f k bt1508.2.1 bt1513.2.1).bind fun bt1534=>((dec_must.f bt1534.1 bt1534.2).bind fun t1538=>(some (bt1508.1,t1538,bt1508.2.2))))))))
def dec_number_plus.T2 : Bool × List (List Nat × List Nat):=(true,[([],[]),([],[]),([0,1],[0,1]),([],[]),([],[]),([3,4,2],[3,4]),([2,5,0,1,2],[2]),([5,6,0,1,2,3,4,5,6],[5])])
def dec_number_plus.B2 : List Nat:=[0,0,3,0,0,31,63,127]
theorem dec_number_plus.tab2 : rtab .any (opsOf Tryz.f101 2) = dec_number_plus.T2:=by kernel_rfl
theorem dec_number_plus.bits2 : waitsOk dec_number_plus.T2.2 dec_number_plus.B2 = true:=by kernel_rfl
theorem dec_number_plus.leaf {P : Prop} (h : P:=by
 go_enter Tryz.func101,Tryz.ntmps101
 try go_wp2_with (first | ((with_reducible refine gd 2 ?_); refine bx 2 #[.bool a0_0,.slice A0_1 l0_1.length c0_1,.int .i64 a0_2] 106 (h:=?_); intro gb0z hg w1z hbox hb; have BK2z:=am hbox; have GW3z:=gW hg; have GE4z:=gW hg; replace HB:=bS hb; clear hb hbox hg) | ((with_reducible refine gd 3 ?_); refine bx 3 #[.bool a1_0,.slice A1_1 l1_1.length c1_1,.int .i64 a1_2] 106 (h:=?_); intro gb5z hg w6z hbox hb; have BK7z:=am hbox; have GW8z:=gW hg; have GE9z:=gW hg; have NB10z:=nL hg BK2z; have NB11z:=nG hg BK2z; replace BK2z:=bb BK2z hb; replace HB:=bS hb; clear hb hbox hg) | ((with_reducible refine gd 4 ?_); refine bx 4 #[.bool false,.slice none 0 0,.int .i64 0] 106 (h:=?_); intro gb12z hg w13z hbox hb; have BK14z:=am hbox; have GW15z:=gW hg; have GE16z:=gW hg; have NB17z:=nL hg BK2z; have NB18z:=nG hg BK2z; have NB19z:=nL hg BK7z; have NB20z:=nG hg BK7z; replace BK2z:=bb BK2z hb; replace BK7z:=bb BK7z hb; replace HB:=bS hb; clear hb hbox hg; have hnb21z:=NB10z.out; have hnc22z:=NB11z.out; have hnb23z:=NB17z.out; have hnc24z:=NB18z.out; obtain ⟨hcz25z,hcz26z,hcz27z,hfz28z,hfz29z,hfz30z⟩:=cEc BK2z.out; have hnb31z:=NB19z.out; have hnc32z:=NB20z.out; obtain ⟨hcz33z,hcz34z,hcz35z,hfz36z,hfz37z,hfz38z⟩:=cEc BK7z.out))
 replace BK2z:=am (blk_drew BK2z.out)
 replace BK7z:=am (blk_drew BK7z.out)
 replace BK14z:=am (blk_drew BK14z.out)
 replace HB:=am (below_drew1 HB.out)
 refine start_ (n:=8) (S:=fun w'=>w'.cell? ⟨gb0z,0,none⟩ = some (.bool a0_0)/\w'.cell? ⟨gb0z,1,none⟩ = some (.slice A0_1 l0_1.length c0_1)/\w'.cell? ⟨gb0z,2,none⟩ = some (.int .i64 a0_2)/\w'.cell? ⟨gb5z,0,none⟩ = some (.bool a1_0)/\w'.cell? ⟨gb5z,1,none⟩ = some (.slice A1_1 l1_1.length c1_1)/\w'.cell? ⟨gb5z,2,none⟩ = some (.int .i64 a1_2)) (ds:=[6,7]) #[false,false,false,false,false,false,false,false] (by kernel_rfl) rfl rfl ⟨k0 BK2z 0,k0 BK2z 1,k0 BK2z 2,k0 BK7z 0,k0 BK7z 1,k0 BK7z 2⟩ (fun hHeld=>?_); refine with_tabW dec_number_plus.tab2 dec_number_plus.bits2 (fun HT_ HW_=>?_)
 generalize w13z.drew = w39z at BK2z BK7z BK14z HB hHeld ⊢
 refine pu 1 (some 16) #[false,true,false,false,false,false,false,false] (h:=?_)
 refine pu 4 (some 19) #[false,true,false,false,true,false,false,false] (h:=?_)
 refine take_ (i:=0) (N:=some 15) (v:=?_) (a':=?_) #[true,true,false,false,true,false,false,false] rfl rfl (take_ofW HT_.out HW_.out (by kernel_rfl)) (fun _ _ _ h=>h) (Or.inl ⟨by rfl,?_⟩) hHeld ?_ ?_
 rotate_left
 ·rintro w' ⟨s40z,s41z,s42z,s43z,s44z,s45z⟩
  go_simp
  with_reducible rfl
 rotate_left
 ·exact pP
 refine take_ (i:=3) (N:=some 18) (v:=?_) (a':=?_) #[true,true,false,true,true,false,false,false] rfl rfl (take_ofW HT_.out HW_.out (by kernel_rfl)) (fun _ _ _ h=>h) (Or.inl ⟨by rfl,?_⟩) hHeld ?_ ?_
 rotate_left
 ·rintro w' ⟨s40z,s41z,s42z,s43z,s44z,s45z⟩
  go_simp
  with_reducible rfl
 rotate_left
 ·exact pP
 refine one_ (i:=2) (N:=some 17) #[true,true,true,true,true,false,false,false] rfl rfl (one_of HT_.out (by kernel_rfl)) (by decide) (fun K hK=>?_)
 refine goes_ Tryz.func106 (by kernel_rfl) rfl #[.agg #[.bool a0_0,.slice A0_1 l0_1.length c0_1,.int .i64 a0_2],.int .i64 ji3] (by rfl) rfl rfl (by (try simp only [List.map_toArray,List.map_cons,List.map_nil]); first | done | (simp only [hji3]; rfl) | rfl | (simp only [List.length_drop,List.length_take]; rfl)) ?_
 with_reducible refine (dec_number_down.calls k a0_0 (fun k_=>k_ < w.heap.size) _ _ l0_1 a0_2 ji3 t1508 t1509 t1512 _ ?side1 A4.out).mono ?_
 (case side1=>exact Kd.V_mk HC0_1.out (Kd.F_below (Kd.C_F (Kd.heap_int .u32) HR0_1.out) pB))
 rintro e w46z ⟨v47z,rfl,ho48z,hb⟩
 refine ⟨_,rfl,?_⟩
 have HO49z:=am (Kd.V_lower (Kd.V_mono (ok':=fun k_=>k_ ≠ gb0z/\k_ ≠ gb5z/\k_ ≠ gb12z) ho48z (fun k_ hk_=>⟨Or.elim hk_ (fun hs_=>fun e_=>Nat.not_le.2 hs_ (by rw [e_]; exact GW3z.out)) (fun hn_=>(Kd.freshB (g:=gb0z) (o:=.cells #[.bool a0_0,.slice A0_1 l0_1.length c0_1,.int .i64 a0_2] 106 (0,0)) (blk_below BK2z.out pl) k_ hn_)),Or.elim hk_ (fun hs_=>fun e_=>Nat.not_le.2 hs_ (by rw [e_]; exact GW8z.out)) (fun hn_=>(Kd.freshB (g:=gb5z) (o:=.cells #[.bool a1_0,.slice A1_1 l1_1.length c1_1,.int .i64 a1_2] 106 (0,0)) (blk_below BK7z.out pl) k_ hn_)),Or.elim hk_ (fun hs_=>fun e_=>Nat.not_le.2 hs_ (by rw [e_]; exact GW15z.out)) (fun hn_=>(Kd.freshB (g:=gb12z) (o:=.cells #[.bool false,.slice none 0 0,.int .i64 0] 106 (0,0)) (blk_below BK14z.out pl) k_ hn_))⟩)) (below_size pB))
 replace BK2z:=bb BK2z hb
 replace BK7z:=bb BK7z hb
 replace BK14z:=bb BK14z hb
 replace HB:=bS hb
 refine hK.out _ _ ⟨k0 BK2z 0,k0 BK2z 1,k0 BK2z 2,k0 BK7z 0,k0 BK7z 1,k0 BK7z 2⟩ (fun hHeld=>?_)
 clear hK K
 refine norm_ (a':=?_) ?_ ?_
 rotate_left
 ·show Act.put _ (some 17) _ = _
  exact pP
 refine one_ (i:=5) (N:=some 20) #[true,true,true,true,true,true,false,false] rfl rfl (one_of HT_.out (by kernel_rfl)) (by decide) (fun K hK=>?_)
 refine goes_ Tryz.func106 (by kernel_rfl) rfl #[.agg #[.bool a1_0,.slice A1_1 l1_1.length c1_1,.int .i64 a1_2],.int .i64 ji3] (by rfl) rfl rfl (by (try simp only [List.map_toArray,List.map_cons,List.map_nil]); first | done | (simp only [hji3]; rfl) | rfl | (simp only [List.length_drop,List.length_take]; rfl)) ?_
 with_reducible refine (dec_number_down.calls k a1_0 (fun k_=>k_ < w.heap.size) _ _ l1_1 a1_2 ji3 t1513 t1514 t1517 _ ?side1 A5.out).mono ?_
 (case side1=>exact Kd.V_mk HC1_1.out (Kd.F_below (Kd.C_F (Kd.heap_int .u32) HR1_1.out) pB))
 rintro e w50z ⟨v51z,rfl,ho48z,hb⟩
 refine ⟨_,rfl,?_⟩
 replace HO49z:=vbl HO49z hb
 have HO52z:=am (Kd.V_lower (Kd.V_mono (ok':=fun k_=>k_ ≠ gb0z/\k_ ≠ gb5z/\k_ ≠ gb12z) ho48z (fun k_ hk_=>⟨Or.elim hk_ (fun hs_=>fun e_=>Nat.not_le.2 hs_ (by rw [e_]; exact GW3z.out)) (fun hn_=>(Kd.freshB (g:=gb0z) (o:=.cells #[.bool a0_0,.slice A0_1 l0_1.length c0_1,.int .i64 a0_2] 106 (0,0)) (blk_below BK2z.out pl) k_ hn_)),Or.elim hk_ (fun hs_=>fun e_=>Nat.not_le.2 hs_ (by rw [e_]; exact GW8z.out)) (fun hn_=>(Kd.freshB (g:=gb5z) (o:=.cells #[.bool a1_0,.slice A1_1 l1_1.length c1_1,.int .i64 a1_2] 106 (0,0)) (blk_below BK7z.out pl) k_ hn_)),Or.elim hk_ (fun hs_=>fun e_=>Nat.not_le.2 hs_ (by rw [e_]; exact GW15z.out)) (fun hn_=>(Kd.freshB (g:=gb12z) (o:=.cells #[.bool false,.slice none 0 0,.int .i64 0] 106 (0,0)) (blk_below BK14z.out pl) k_ hn_))⟩)) (below_size pB))
 replace BK2z:=bb BK2z hb
 replace BK7z:=bb BK7z hb
 replace BK14z:=bb BK14z hb
 replace HB:=bS hb
 obtain ⟨Ao53z,co54z,eo55z⟩:=Kd.V_slice HO49z.out
 (first | subst eo55z | (injection eo55z with f1_ f2_ f3_; have f4_:=f1_.symm; have f5_:=f3_.symm; clear f1_ f2_ f3_; subst f4_; subst f5_))
 obtain ⟨Ao56z,co57z,eo58z⟩:=Kd.V_slice HO52z.out
 (first | subst eo58z | (injection eo58z with f1_ f2_ f3_; have f4_:=f1_.symm; have f5_:=f3_.symm; clear f1_ f2_ f3_; subst f4_; subst f5_))
 refine hK.out _ _ ⟨k0 BK2z 0,k0 BK2z 1,k0 BK2z 2,k0 BK7z 0,k0 BK7z 1,k0 BK7z 2⟩ (fun hHeld=>?_)
 clear hK K
 refine norm_ (a':=?_) ?_ ?_
 rotate_left
 ·show Act.put _ (some 20) _ = _
  exact pP
 refine last_ (i:=6) (N:=none) #[true,true,true,true,true,true,true,false] rfl rfl (one_of HT_.out (by kernel_rfl)) (by decide) (fun K hK=>?_)
 have hs59z : w50z.cell? ⟨gb0z,0,none⟩ = some (.bool a0_0):=k0 BK2z 0
 have hfs60z:=blk_frozen BK2z.out 0
 have hns61z:=NB11z.out
 have hns62z:=NB18z.out
 have hms63z:=NB10z.out
 have hms64z:=NB17z.out
 have hs65z : w50z.cell? ⟨gb0z,1,none⟩ = some (.slice A0_1 l0_1.length c0_1):=k0 BK2z 1
 have hfs66z:=blk_frozen BK2z.out 1
 have hns67z:=NB11z.out
 have hns68z:=NB18z.out
 have hms69z:=NB10z.out
 have hms70z:=NB17z.out
 have hs71z : w50z.cell? ⟨gb0z,2,none⟩ = some (.int .i64 a0_2):=k0 BK2z 2
 have hfs72z:=blk_frozen BK2z.out 2
 have hns73z:=NB11z.out
 have hns74z:=NB18z.out
 have hms75z:=NB10z.out
 have hms76z:=NB17z.out
 refine skip_ (w1:=?_) (by rfl) rfl ?_ ?_
 rotate_left
 ·go_simp
  rfl
 refine hK.out _ _ ?_
 clear hK K
 refine last_ (i:=7) (N:=none) #[true,true,true,true,true,true,true,true] rfl rfl (one_of HT_.out (by kernel_rfl)) (by decide) (fun K hK=>?_)
 have hs77z : w50z.cell? ⟨gb5z,0,none⟩ = some (.bool a1_0):=k0 BK7z 0
 have hfs78z:=blk_frozen BK7z.out 0
 have hns79z:=NB10z.out
 have hns80z:=NB20z.out
 have hms81z:=NB11z.out
 have hms82z:=NB19z.out
 have hs83z : w50z.cell? ⟨gb5z,1,none⟩ = some (.slice A1_1 l1_1.length c1_1):=k0 BK7z 1
 have hfs84z:=blk_frozen BK7z.out 1
 have hns85z:=NB10z.out
 have hns86z:=NB20z.out
 have hms87z:=NB11z.out
 have hms88z:=NB19z.out
 have hs89z : w50z.cell? ⟨gb5z,2,none⟩ = some (.int .i64 a1_2):=k0 BK7z 2
 have hfs90z:=blk_frozen BK7z.out 2
 have hns91z:=NB10z.out
 have hns92z:=NB20z.out
 have hms93z:=NB11z.out
 have hms94z:=NB19z.out
 refine skip_ (w1:=?_) (by rfl) rfl ?_ ?_
 rotate_left
 ·go_simp
  rfl
 refine hK.out _ _ ?_
 clear hK K
 refine done_ (done_of HT_.out (by kernel_rfl)) ?_
 obtain ⟨hcz95z,hcz96z,hcz97z,hfz98z,hfz99z,hfz100z⟩:=cEc BK2z.out
 obtain ⟨hcz101z,hcz102z,hcz103z,hfz104z,hfz105z,hfz106z⟩:=cEc BK7z.out
 try go_wp2_with (first | ((have q_:=A39; clear q_); refine gL (some 48) Tryz.func90 #[.slice Ao53z t1509.length co54z,.slice Ao56z t1514.length co57z] (h:=?_); (with_reducible refine (nat_Compare.calls k _ _ t1509 _ _ t1514 t1525 t1526 _ ?side1 ?side2 ?side3 ?side4 A36.out).mono ?_); (case side1=>refine (Kd.V_reads' (e:=85) (base:=w.heap.size) (ok:=fun k_=>(k_ ≠ gb0z/\(k_ ≠ gb5z/\k_ ≠ gb12z))) (n:=t1509.length) (c:=co54z) ?_).2.2; exact (Kd.V_below (Kd.V_mono (Kd.V_mono (Kd.V_far (p:=⟨gb5z,2,none⟩) (Kd.V_far (p:=⟨gb5z,1,none⟩) (Kd.V_far (p:=⟨gb5z,0,none⟩) (Kd.V_far (p:=⟨gb0z,2,none⟩) (Kd.V_far (p:=⟨gb0z,1,none⟩) (Kd.V_far (p:=⟨gb0z,0,none⟩) (Kd.V_mono (Kd.V_mono HO49z.out (fun k_ hk=>(⟨hk,hk.1⟩ : _/\k_ ≠ gb0z))) (fun k_ hk=>(⟨hk,hk.1.2.1⟩ : _/\k_ ≠ gb5z))) (fun _ hk=>hk.1.2) (.bool t1508)) (fun _ hk=>hk.1.2) (.slice Ao53z t1509.length co54z)) (fun _ hk=>hk.1.2) (.int .i64 t1512)) (fun _ hk=>hk.2) (.bool t1513)) (fun _ hk=>hk.2) (.slice Ao56z t1514.length co57z)) (fun _ hk=>hk.2) (.int .i64 t1517)) (fun _ h_=>h_.1)) (fun _ h_=>h_.1)) pl)); (case side2=>exact (Kd.V_reads' HO49z.out).2.1); (case side3=>refine (Kd.V_reads' (e:=85) (base:=w.heap.size) (ok:=fun k_=>(k_ ≠ gb0z/\(k_ ≠ gb5z/\k_ ≠ gb12z))) (n:=t1514.length) (c:=co57z) ?_).2.2; exact (Kd.V_below (Kd.V_mono (Kd.V_mono (Kd.V_far (p:=⟨gb5z,2,none⟩) (Kd.V_far (p:=⟨gb5z,1,none⟩) (Kd.V_far (p:=⟨gb5z,0,none⟩) (Kd.V_far (p:=⟨gb0z,2,none⟩) (Kd.V_far (p:=⟨gb0z,1,none⟩) (Kd.V_far (p:=⟨gb0z,0,none⟩) (Kd.V_mono (Kd.V_mono HO52z.out (fun k_ hk=>(⟨hk,hk.1⟩ : _/\k_ ≠ gb0z))) (fun k_ hk=>(⟨hk,hk.1.2.1⟩ : _/\k_ ≠ gb5z))) (fun _ hk=>hk.1.2) (.bool t1508)) (fun _ hk=>hk.1.2) (.slice Ao53z t1509.length co54z)) (fun _ hk=>hk.1.2) (.int .i64 t1512)) (fun _ hk=>hk.2) (.bool t1513)) (fun _ hk=>hk.2) (.slice Ao56z t1514.length co57z)) (fun _ hk=>hk.2) (.int .i64 t1517)) (fun _ h_=>h_.1)) (fun _ h_=>h_.1)) pl)); (case side4=>exact (Kd.V_reads' HO52z.out).2.1); rintro e w107z ⟨rfl,hb⟩; refine ⟨_,rfl,?_⟩; replace HO49z:=am (Kd.V_below (Kd.V_below (Kd.V_mono (Kd.V_mono (Kd.V_far (p:=⟨gb5z,2,none⟩) (Kd.V_far (p:=⟨gb5z,1,none⟩) (Kd.V_far (p:=⟨gb5z,0,none⟩) (Kd.V_far (p:=⟨gb0z,2,none⟩) (Kd.V_far (p:=⟨gb0z,1,none⟩) (Kd.V_far (p:=⟨gb0z,0,none⟩) (Kd.V_mono (Kd.V_mono HO49z.out (fun k_ hk=>(⟨hk,hk.1⟩ : _/\k_ ≠ gb0z))) (fun k_ hk=>(⟨hk,hk.1.2.1⟩ : _/\k_ ≠ gb5z))) (fun _ hk=>hk.1.2) (.bool t1508)) (fun _ hk=>hk.1.2) (.slice Ao53z t1509.length co54z)) (fun _ hk=>hk.1.2) (.int .i64 t1512)) (fun _ hk=>hk.2) (.bool t1513)) (fun _ hk=>hk.2) (.slice Ao56z t1514.length co57z)) (fun _ hk=>hk.2) (.int .i64 t1517)) (fun _ h_=>h_.1)) (fun _ h_=>h_.1)) pl) hb); replace HO52z:=am (Kd.V_below (Kd.V_below (Kd.V_mono (Kd.V_mono (Kd.V_far (p:=⟨gb5z,2,none⟩) (Kd.V_far (p:=⟨gb5z,1,none⟩) (Kd.V_far (p:=⟨gb5z,0,none⟩) (Kd.V_far (p:=⟨gb0z,2,none⟩) (Kd.V_far (p:=⟨gb0z,1,none⟩) (Kd.V_far (p:=⟨gb0z,0,none⟩) (Kd.V_mono (Kd.V_mono HO52z.out (fun k_ hk=>(⟨hk,hk.1⟩ : _/\k_ ≠ gb0z))) (fun k_ hk=>(⟨hk,hk.1.2.1⟩ : _/\k_ ≠ gb5z))) (fun _ hk=>hk.1.2) (.bool t1508)) (fun _ hk=>hk.1.2) (.slice Ao53z t1509.length co54z)) (fun _ hk=>hk.1.2) (.int .i64 t1512)) (fun _ hk=>hk.2) (.bool t1513)) (fun _ hk=>hk.2) (.slice Ao56z t1514.length co57z)) (fun _ hk=>hk.2) (.int .i64 t1517)) (fun _ h_=>h_.1)) (fun _ h_=>h_.1)) pl) hb); replace BK2z:=am (blk_below (g:=gb0z) (o:=.cells #[.bool t1508,.slice Ao53z t1509.length co54z,.int .i64 t1512] 106 (0,0)) (by refine bp ?_; refine blk_far ?_ NB10z.out _; refine bp ?_; refine blk_far ?_ NB10z.out _; refine bp ?_; refine blk_far ?_ NB10z.out _; exact p3 BK2z) hb); replace BK7z:=am (blk_below (g:=gb5z) (o:=.cells #[.bool t1513,.slice Ao56z t1514.length co57z,.int .i64 t1517] 106 (0,0)) (by refine bp ?_; refine blk_put (cs:=#[.bool t1513,.slice Ao56z t1514.length co57z,.int .i64 a1_2]) ?_ 2 _ rfl; refine bp ?_; refine blk_put (cs:=#[.bool t1513,.slice A1_1 l1_1.length c1_1,.int .i64 a1_2]) ?_ 1 _ rfl; refine bp ?_; refine blk_put (cs:=#[.bool a1_0,.slice A1_1 l1_1.length c1_1,.int .i64 a1_2]) ?_ 0 _ rfl; refine bp ?_; refine blk_far ?_ NB11z.out _; refine bp ?_; refine blk_far ?_ NB11z.out _; refine bp ?_; refine blk_far ?_ NB11z.out _; exact bp BK7z.out) hb); replace BK14z:=am (blk_below (g:=gb12z) (o:=.cells #[.bool false,.slice none 0 0,.int .i64 0] 106 (0,0)) (by refine bp ?_; refine blk_far ?_ NB20z.out _; refine bp ?_; refine blk_far ?_ NB20z.out _; refine bp ?_; refine blk_far ?_ NB20z.out _; refine bp ?_; refine blk_far ?_ NB18z.out _; refine bp ?_; refine blk_far ?_ NB18z.out _; refine bp ?_; refine blk_far ?_ NB18z.out _; exact bp BK14z.out) hb); replace HB:=bS hb; obtain ⟨hcz108z,hcz109z,hcz110z,hfz111z,hfz112z,hfz113z⟩:=cEc BK7z.out; obtain ⟨hcz114z,hcz115z,hcz116z,hfz117z,hfz118z,hfz119z⟩:=cEc BK2z.out) | (refine gL (some 61) Tryz.func141 #[.slice Ao56z t1514.length co57z,.slice Ao53z t1509.length co54z] (h:=?_); (with_reducible refine (nat_Sub.calls k _ _ t1514 _ _ t1509 t1527 t1528 _ ?side1 ?side2 ?side3 ?side4 A38.out).mono ?_); (case side1=>refine (Kd.V_reads' (e:=85) (base:=w.heap.size) (ok:=fun k_=>(k_ ≠ gb0z/\(k_ ≠ gb5z/\k_ ≠ gb12z))) (n:=t1514.length) (c:=co57z) ?_).2.2; exact (Kd.V_below (Kd.V_mono (Kd.V_mono (Kd.V_far (p:=⟨gb5z,2,none⟩) (Kd.V_far (p:=⟨gb5z,1,none⟩) (Kd.V_far (p:=⟨gb5z,0,none⟩) (Kd.V_far (p:=⟨gb0z,2,none⟩) (Kd.V_far (p:=⟨gb0z,1,none⟩) (Kd.V_far (p:=⟨gb0z,0,none⟩) (Kd.V_mono (Kd.V_mono HO52z.out (fun k_ hk=>(⟨hk,hk.1⟩ : _/\k_ ≠ gb0z))) (fun k_ hk=>(⟨hk,hk.1.2.1⟩ : _/\k_ ≠ gb5z))) (fun _ hk=>hk.1.2) (.bool t1513)) (fun _ hk=>hk.1.2) (.slice Ao56z t1514.length co57z)) (fun _ hk=>hk.1.2) (.int .i64 t1517)) (fun _ hk=>hk.2) (.bool t1508)) (fun _ hk=>hk.2) (.slice Ao53z t1509.length co54z)) (fun _ hk=>hk.2) (.int .i64 t1512)) (fun _ h_=>h_.1)) (fun _ h_=>h_.1)) pl)); (case side2=>exact (Kd.V_reads' HO52z.out).2.1); (case side3=>refine (Kd.V_reads' (e:=85) (base:=w.heap.size) (ok:=fun k_=>(k_ ≠ gb0z/\(k_ ≠ gb5z/\k_ ≠ gb12z))) (n:=t1509.length) (c:=co54z) ?_).2.2; exact (Kd.V_below (Kd.V_mono (Kd.V_mono (Kd.V_far (p:=⟨gb5z,2,none⟩) (Kd.V_far (p:=⟨gb5z,1,none⟩) (Kd.V_far (p:=⟨gb5z,0,none⟩) (Kd.V_far (p:=⟨gb0z,2,none⟩) (Kd.V_far (p:=⟨gb0z,1,none⟩) (Kd.V_far (p:=⟨gb0z,0,none⟩) (Kd.V_mono (Kd.V_mono HO49z.out (fun k_ hk=>(⟨hk,hk.1⟩ : _/\k_ ≠ gb0z))) (fun k_ hk=>(⟨hk,hk.1.2.1⟩ : _/\k_ ≠ gb5z))) (fun _ hk=>hk.1.2) (.bool t1513)) (fun _ hk=>hk.1.2) (.slice Ao56z t1514.length co57z)) (fun _ hk=>hk.1.2) (.int .i64 t1517)) (fun _ hk=>hk.2) (.bool t1508)) (fun _ hk=>hk.2) (.slice Ao53z t1509.length co54z)) (fun _ hk=>hk.2) (.int .i64 t1512)) (fun _ h_=>h_.1)) (fun _ h_=>h_.1)) pl)); (case side4=>exact (Kd.V_reads' HO49z.out).2.1); rintro e w120z ⟨v121z,rfl,ho48z,hb⟩; refine ⟨_,rfl,?_⟩; replace HO49z:=am (Kd.V_elder' (Kd.V_below (Kd.V_mono (Kd.V_mono (Kd.V_far (p:=⟨gb5z,2,none⟩) (Kd.V_far (p:=⟨gb5z,1,none⟩) (Kd.V_far (p:=⟨gb5z,0,none⟩) (Kd.V_far (p:=⟨gb0z,2,none⟩) (Kd.V_far (p:=⟨gb0z,1,none⟩) (Kd.V_far (p:=⟨gb0z,0,none⟩) (Kd.V_mono (Kd.V_mono HO49z.out (fun k_ hk=>(⟨hk,hk.1⟩ : _/\k_ ≠ gb0z))) (fun k_ hk=>(⟨hk,hk.1.2.1⟩ : _/\k_ ≠ gb5z))) (fun _ hk=>hk.1.2) (.bool t1513)) (fun _ hk=>hk.1.2) (.slice Ao56z t1514.length co57z)) (fun _ hk=>hk.1.2) (.int .i64 t1517)) (fun _ hk=>hk.2) (.bool t1508)) (fun _ hk=>hk.2) (.slice Ao53z t1509.length co54z)) (fun _ hk=>hk.2) (.int .i64 t1512)) (fun _ h_=>h_.1)) (fun _ h_=>h_.1)) pl) (Kd.R_base ho48z) hb); replace HO52z:=am (Kd.V_elder' (Kd.V_below (Kd.V_mono (Kd.V_mono (Kd.V_far (p:=⟨gb5z,2,none⟩) (Kd.V_far (p:=⟨gb5z,1,none⟩) (Kd.V_far (p:=⟨gb5z,0,none⟩) (Kd.V_far (p:=⟨gb0z,2,none⟩) (Kd.V_far (p:=⟨gb0z,1,none⟩) (Kd.V_far (p:=⟨gb0z,0,none⟩) (Kd.V_mono (Kd.V_mono HO52z.out (fun k_ hk=>(⟨hk,hk.1⟩ : _/\k_ ≠ gb0z))) (fun k_ hk=>(⟨hk,hk.1.2.1⟩ : _/\k_ ≠ gb5z))) (fun _ hk=>hk.1.2) (.bool t1513)) (fun _ hk=>hk.1.2) (.slice Ao56z t1514.length co57z)) (fun _ hk=>hk.1.2) (.int .i64 t1517)) (fun _ hk=>hk.2) (.bool t1508)) (fun _ hk=>hk.2) (.slice Ao53z t1509.length co54z)) (fun _ hk=>hk.2) (.int .i64 t1512)) (fun _ h_=>h_.1)) (fun _ h_=>h_.1)) pl) (Kd.R_base ho48z) hb); have HO122z:=am (Kd.R_lower ho48z (below_size pB)); replace BK2z:=am (blk_below (g:=gb0z) (o:=.cells #[.bool t1513,.slice Ao56z t1514.length co57z,.int .i64 t1517] 106 (0,0)) (by refine bp ?_; refine blk_far ?_ NB10z.out _; refine bp ?_; refine blk_far ?_ NB10z.out _; refine bp ?_; refine blk_far ?_ NB10z.out _; exact p3 BK2z) hb); replace BK7z:=am (blk_below (g:=gb5z) (o:=.cells #[.bool t1508,.slice Ao53z t1509.length co54z,.int .i64 t1512] 106 (0,0)) (by refine bp ?_; refine blk_put (cs:=#[.bool t1508,.slice Ao53z t1509.length co54z,.int .i64 t1517]) ?_ 2 _ rfl; refine bp ?_; refine blk_put (cs:=#[.bool t1508,.slice Ao56z t1514.length co57z,.int .i64 t1517]) ?_ 1 _ rfl; refine bp ?_; refine blk_put (cs:=#[.bool t1513,.slice Ao56z t1514.length co57z,.int .i64 t1517]) ?_ 0 _ rfl; refine bp ?_; refine blk_far ?_ NB11z.out _; refine bp ?_; refine blk_far ?_ NB11z.out _; refine bp ?_; refine blk_far ?_ NB11z.out _; exact bp BK7z.out) hb); replace BK14z:=am (blk_below (g:=gb12z) (o:=.cells #[.bool false,.slice none 0 0,.int .i64 0] 106 (0,0)) (by refine bp ?_; refine blk_far ?_ NB20z.out _; refine bp ?_; refine blk_far ?_ NB20z.out _; refine bp ?_; refine blk_far ?_ NB20z.out _; refine bp ?_; refine blk_far ?_ NB18z.out _; refine bp ?_; refine blk_far ?_ NB18z.out _; refine bp ?_; refine blk_far ?_ NB18z.out _; exact bp BK14z.out) hb); replace HB:=bS hb; obtain ⟨Ao123z,co124z,eo125z⟩:=Kd.R_slice HO122z.out; subst eo125z) | (refine gL (some 64) Tryz.func105 #[.slice Ao123z t1527.length co124z,.int .i64 t1528] (h:=?_); (with_reducible refine (dec_must.calls (fun k_=>some k_ = (.slice Ao123z t1527.length co124z : Value).ownBlock) (.slice Ao123z t1527.length co124z) t1527 t1528 t1531 w _ ?side1 ?side2 A39.out).mono ?_); (case side1=>exact pB); (case side2=>exact Kd.R_tight rfl HO122z.out); rintro e w126z ⟨v127z,rfl,ho48z,hb,hkp⟩; refine ⟨_,rfl,?_⟩; have HO128z:=am (Kd.R_mono (ok':=fun k_=>True) ho48z (fun k_ hk_=>trivial)); replace BK2z:=am (blk_kept (blk_below BK2z.out pl) hkp (fun e_=>Kd.R_ne HO122z.out BK2z.out (by decide) e_)); replace BK7z:=am (blk_kept (blk_below BK7z.out pl) hkp (fun e_=>Kd.R_ne HO122z.out BK7z.out (by decide) e_)); replace BK14z:=am (blk_kept (blk_below BK14z.out pl) hkp (fun e_=>Kd.R_ne HO122z.out BK14z.out (by decide) e_)); replace HO49z:=am (Kd.V_mono (ok':=fun k_=>k_ ≠ gb0z/\k_ ≠ gb5z/\k_ ≠ gb12z/\some k_ ≠ (v127z : Value).ownBlock) (Kd.V_keptB (HO49z.out) hkp (fun k_ hk_ hs_=>(hk_.2) hs_)) (fun k_ hk_=>⟨hk_.1.1.1,hk_.1.1.2.1,hk_.1.1.2.2,fun e_=>Or.elim (ho48z.1 k_ e_.symm) (fun hs_=>hk_.2.1 hs_) (fun hn_=>Nat.not_le.2 hk_.2.2 hn_)⟩)); replace HO52z:=am (Kd.V_mono (ok':=fun k_=>k_ ≠ gb0z/\k_ ≠ gb5z/\k_ ≠ gb12z/\some k_ ≠ (v127z : Value).ownBlock) (Kd.V_keptB (HO52z.out) hkp (fun k_ hk_ hs_=>(hk_.2) hs_)) (fun k_ hk_=>⟨hk_.1.1.1,hk_.1.1.2.1,hk_.1.1.2.2,fun e_=>Or.elim (ho48z.1 k_ e_.symm) (fun hs_=>hk_.2.1 hs_) (fun hn_=>Nat.not_le.2 hk_.2.2 hn_)⟩)); replace HB:=am hb; clear HO122z; obtain ⟨Ao129z,co130z,eo131z⟩:=Kd.R_slice HO128z.out; subst eo131z; obtain ⟨hcz132z,hcz133z,hcz134z,hfz135z,hfz136z,hfz137z⟩:=cEc BK2z.out; obtain ⟨hcz138z,hcz139z,hcz140z,hfz141z,hfz142z,hfz143z⟩:=cEc BK14z.out) | ((have q_:=A71; clear q_); refine gL (some 48) Tryz.func90 #[.slice Ao53z t1509.length co54z,.slice Ao56z t1514.length co57z] (h:=?_); (with_reducible refine (nat_Compare.calls k _ _ t1509 _ _ t1514 t1525 t1526 _ ?side1 ?side2 ?side3 ?side4 A36.out).mono ?_); (case side1=>refine (Kd.V_reads' (e:=85) (base:=w.heap.size) (ok:=fun k_=>(k_ ≠ gb0z/\(k_ ≠ gb5z/\k_ ≠ gb12z))) (n:=t1509.length) (c:=co54z) ?_).2.2; exact (Kd.V_below (Kd.V_mono (Kd.V_mono (Kd.V_far (p:=⟨gb5z,2,none⟩) (Kd.V_far (p:=⟨gb5z,1,none⟩) (Kd.V_far (p:=⟨gb5z,0,none⟩) (Kd.V_far (p:=⟨gb0z,2,none⟩) (Kd.V_far (p:=⟨gb0z,1,none⟩) (Kd.V_far (p:=⟨gb0z,0,none⟩) (Kd.V_mono (Kd.V_mono HO49z.out (fun k_ hk=>(⟨hk,hk.1⟩ : _/\k_ ≠ gb0z))) (fun k_ hk=>(⟨hk,hk.1.2.1⟩ : _/\k_ ≠ gb5z))) (fun _ hk=>hk.1.2) (.bool t1508)) (fun _ hk=>hk.1.2) (.slice Ao53z t1509.length co54z)) (fun _ hk=>hk.1.2) (.int .i64 t1512)) (fun _ hk=>hk.2) (.bool t1513)) (fun _ hk=>hk.2) (.slice Ao56z t1514.length co57z)) (fun _ hk=>hk.2) (.int .i64 t1517)) (fun _ h_=>h_.1)) (fun _ h_=>h_.1)) pl)); (case side2=>exact (Kd.V_reads' HO49z.out).2.1); (case side3=>refine (Kd.V_reads' (e:=85) (base:=w.heap.size) (ok:=fun k_=>(k_ ≠ gb0z/\(k_ ≠ gb5z/\k_ ≠ gb12z))) (n:=t1514.length) (c:=co57z) ?_).2.2; exact (Kd.V_below (Kd.V_mono (Kd.V_mono (Kd.V_far (p:=⟨gb5z,2,none⟩) (Kd.V_far (p:=⟨gb5z,1,none⟩) (Kd.V_far (p:=⟨gb5z,0,none⟩) (Kd.V_far (p:=⟨gb0z,2,none⟩) (Kd.V_far (p:=⟨gb0z,1,none⟩) (Kd.V_far (p:=⟨gb0z,0,none⟩) (Kd.V_mono (Kd.V_mono HO52z.out (fun k_ hk=>(⟨hk,hk.1⟩ : _/\k_ ≠ gb0z))) (fun k_ hk=>(⟨hk,hk.1.2.1⟩ : _/\k_ ≠ gb5z))) (fun _ hk=>hk.1.2) (.bool t1508)) (fun _ hk=>hk.1.2) (.slice Ao53z t1509.length co54z)) (fun _ hk=>hk.1.2) (.int .i64 t1512)) (fun _ hk=>hk.2) (.bool t1513)) (fun _ hk=>hk.2) (.slice Ao56z t1514.length co57z)) (fun _ hk=>hk.2) (.int .i64 t1517)) (fun _ h_=>h_.1)) (fun _ h_=>h_.1)) pl)); (case side4=>exact (Kd.V_reads' HO52z.out).2.1); rintro e w107z ⟨rfl,hb⟩; refine ⟨_,rfl,?_⟩; replace HO49z:=am (Kd.V_below (Kd.V_below (Kd.V_mono (Kd.V_mono (Kd.V_far (p:=⟨gb5z,2,none⟩) (Kd.V_far (p:=⟨gb5z,1,none⟩) (Kd.V_far (p:=⟨gb5z,0,none⟩) (Kd.V_far (p:=⟨gb0z,2,none⟩) (Kd.V_far (p:=⟨gb0z,1,none⟩) (Kd.V_far (p:=⟨gb0z,0,none⟩) (Kd.V_mono (Kd.V_mono HO49z.out (fun k_ hk=>(⟨hk,hk.1⟩ : _/\k_ ≠ gb0z))) (fun k_ hk=>(⟨hk,hk.1.2.1⟩ : _/\k_ ≠ gb5z))) (fun _ hk=>hk.1.2) (.bool t1508)) (fun _ hk=>hk.1.2) (.slice Ao53z t1509.length co54z)) (fun _ hk=>hk.1.2) (.int .i64 t1512)) (fun _ hk=>hk.2) (.bool t1513)) (fun _ hk=>hk.2) (.slice Ao56z t1514.length co57z)) (fun _ hk=>hk.2) (.int .i64 t1517)) (fun _ h_=>h_.1)) (fun _ h_=>h_.1)) pl) hb); replace HO52z:=am (Kd.V_below (Kd.V_below (Kd.V_mono (Kd.V_mono (Kd.V_far (p:=⟨gb5z,2,none⟩) (Kd.V_far (p:=⟨gb5z,1,none⟩) (Kd.V_far (p:=⟨gb5z,0,none⟩) (Kd.V_far (p:=⟨gb0z,2,none⟩) (Kd.V_far (p:=⟨gb0z,1,none⟩) (Kd.V_far (p:=⟨gb0z,0,none⟩) (Kd.V_mono (Kd.V_mono HO52z.out (fun k_ hk=>(⟨hk,hk.1⟩ : _/\k_ ≠ gb0z))) (fun k_ hk=>(⟨hk,hk.1.2.1⟩ : _/\k_ ≠ gb5z))) (fun _ hk=>hk.1.2) (.bool t1508)) (fun _ hk=>hk.1.2) (.slice Ao53z t1509.length co54z)) (fun _ hk=>hk.1.2) (.int .i64 t1512)) (fun _ hk=>hk.2) (.bool t1513)) (fun _ hk=>hk.2) (.slice Ao56z t1514.length co57z)) (fun _ hk=>hk.2) (.int .i64 t1517)) (fun _ h_=>h_.1)) (fun _ h_=>h_.1)) pl) hb); replace BK2z:=am (blk_below (g:=gb0z) (o:=.cells #[.bool t1508,.slice Ao53z t1509.length co54z,.int .i64 t1512] 106 (0,0)) (by refine bp ?_; refine blk_far ?_ NB10z.out _; refine bp ?_; refine blk_far ?_ NB10z.out _; refine bp ?_; refine blk_far ?_ NB10z.out _; exact p3 BK2z) hb); replace BK7z:=am (blk_below (g:=gb5z) (o:=.cells #[.bool t1513,.slice Ao56z t1514.length co57z,.int .i64 t1517] 106 (0,0)) (by refine bp ?_; refine blk_put (cs:=#[.bool t1513,.slice Ao56z t1514.length co57z,.int .i64 a1_2]) ?_ 2 _ rfl; refine bp ?_; refine blk_put (cs:=#[.bool t1513,.slice A1_1 l1_1.length c1_1,.int .i64 a1_2]) ?_ 1 _ rfl; refine bp ?_; refine blk_put (cs:=#[.bool a1_0,.slice A1_1 l1_1.length c1_1,.int .i64 a1_2]) ?_ 0 _ rfl; refine bp ?_; refine blk_far ?_ NB11z.out _; refine bp ?_; refine blk_far ?_ NB11z.out _; refine bp ?_; refine blk_far ?_ NB11z.out _; exact bp BK7z.out) hb); replace BK14z:=am (blk_below (g:=gb12z) (o:=.cells #[.bool false,.slice none 0 0,.int .i64 0] 106 (0,0)) (by refine bp ?_; refine blk_far ?_ NB20z.out _; refine bp ?_; refine blk_far ?_ NB20z.out _; refine bp ?_; refine blk_far ?_ NB20z.out _; refine bp ?_; refine blk_far ?_ NB18z.out _; refine bp ?_; refine blk_far ?_ NB18z.out _; refine bp ?_; refine blk_far ?_ NB18z.out _; exact bp BK14z.out) hb); replace HB:=bS hb; obtain ⟨hcz108z,hcz109z,hcz110z,hfz111z,hfz112z,hfz113z⟩:=cEc BK2z.out; obtain ⟨hcz114z,hcz115z,hcz116z,hfz117z,hfz118z,hfz119z⟩:=cEc BK7z.out) | (refine gL (some 61) Tryz.func141 #[.slice Ao53z t1509.length co54z,.slice Ao56z t1514.length co57z] (h:=?_); (with_reducible refine (nat_Sub.calls k _ _ t1509 _ _ t1514 t1534 t1535 _ ?side1 ?side2 ?side3 ?side4 A70.out).mono ?_); (case side1=>exact Kd.C_below (Kd.V_reads' HO49z.out).2.2 pl); (case side2=>exact (Kd.V_reads' HO49z.out).2.1); (case side3=>exact Kd.C_below (Kd.V_reads' HO52z.out).2.2 pl); (case side4=>exact (Kd.V_reads' HO52z.out).2.1); rintro e w120z ⟨v121z,rfl,ho48z,hb⟩; refine ⟨_,rfl,?_⟩; replace HO49z:=am (Kd.V_elder' (Kd.V_below HO49z.out pl) (Kd.R_base ho48z) hb); replace HO52z:=am (Kd.V_elder' (Kd.V_below HO52z.out pl) (Kd.R_base ho48z) hb); have HO122z:=am (Kd.R_lower ho48z (below_size pB)); replace BK2z:=bb BK2z hb; replace BK7z:=bb BK7z hb; replace BK14z:=bb BK14z hb; replace HB:=bS hb; obtain ⟨Ao123z,co124z,eo125z⟩:=Kd.R_slice HO122z.out; subst eo125z) | (refine gL (some 64) Tryz.func105 #[.slice Ao123z t1534.length co124z,.int .i64 t1535] (h:=?_); (with_reducible refine (dec_must.calls (fun k_=>some k_ = (.slice Ao123z t1534.length co124z : Value).ownBlock) (.slice Ao123z t1534.length co124z) t1534 t1535 t1538 w _ ?side1 ?side2 A71.out).mono ?_); (case side1=>exact pB); (case side2=>exact Kd.R_tight rfl HO122z.out); rintro e w126z ⟨v127z,rfl,ho48z,hb,hkp⟩; refine ⟨_,rfl,?_⟩; have HO128z:=am (Kd.R_mono (ok':=fun k_=>True) ho48z (fun k_ hk_=>trivial)); replace BK2z:=am (blk_kept (blk_below BK2z.out pl) hkp (fun e_=>Kd.R_ne HO122z.out BK2z.out (by decide) e_)); replace BK7z:=am (blk_kept (blk_below BK7z.out pl) hkp (fun e_=>Kd.R_ne HO122z.out BK7z.out (by decide) e_)); replace BK14z:=am (blk_kept (blk_below BK14z.out pl) hkp (fun e_=>Kd.R_ne HO122z.out BK14z.out (by decide) e_)); replace HO49z:=am (Kd.V_mono (ok':=fun k_=>k_ ≠ gb0z/\k_ ≠ gb5z/\k_ ≠ gb12z/\some k_ ≠ (v127z : Value).ownBlock) (Kd.V_keptB (HO49z.out) hkp (fun k_ hk_ hs_=>(hk_.2) hs_)) (fun k_ hk_=>⟨hk_.1.1.1,hk_.1.1.2.1,hk_.1.1.2.2,fun e_=>Or.elim (ho48z.1 k_ e_.symm) (fun hs_=>hk_.2.1 hs_) (fun hn_=>Nat.not_le.2 hk_.2.2 hn_)⟩)); replace HO52z:=am (Kd.V_mono (ok':=fun k_=>k_ ≠ gb0z/\k_ ≠ gb5z/\k_ ≠ gb12z/\some k_ ≠ (v127z : Value).ownBlock) (Kd.V_keptB (HO52z.out) hkp (fun k_ hk_ hs_=>(hk_.2) hs_)) (fun k_ hk_=>⟨hk_.1.1.1,hk_.1.1.2.1,hk_.1.1.2.2,fun e_=>Or.elim (ho48z.1 k_ e_.symm) (fun hs_=>hk_.2.1 hs_) (fun hn_=>Nat.not_le.2 hk_.2.2 hn_)⟩)); replace HB:=am hb; clear HO122z; obtain ⟨Ao129z,co130z,eo131z⟩:=Kd.R_slice HO128z.out; subst eo131z; obtain ⟨hcz132z,hcz133z,hcz134z,hfz135z,hfz136z,hfz137z⟩:=cEc BK2z.out; obtain ⟨hcz138z,hcz139z,hcz140z,hfz141z,hfz142z,hfz143z⟩:=cEc BK14z.out) | (refine gL (some 34) Tryz.func75 #[.slice Ao53z t1509.length co54z,.slice Ao56z t1514.length co57z] (h:=?_); (with_reducible refine (nat_Add.calls k _ _ t1509 _ _ t1514 t1518 t1519 _ ?side1 ?side2 ?side3 ?side4 A7.out).mono ?_); (case side1=>refine (Kd.V_reads' (e:=85) (base:=w.heap.size) (ok:=fun k_=>(k_ ≠ gb0z/\(k_ ≠ gb5z/\k_ ≠ gb12z))) (n:=t1509.length) (c:=co54z) ?_).2.2; exact (Kd.V_below (Kd.V_mono (Kd.V_mono (Kd.V_far (p:=⟨gb5z,2,none⟩) (Kd.V_far (p:=⟨gb5z,1,none⟩) (Kd.V_far (p:=⟨gb5z,0,none⟩) (Kd.V_far (p:=⟨gb0z,2,none⟩) (Kd.V_far (p:=⟨gb0z,1,none⟩) (Kd.V_far (p:=⟨gb0z,0,none⟩) (Kd.V_mono (Kd.V_mono HO49z.out (fun k_ hk=>(⟨hk,hk.1⟩ : _/\k_ ≠ gb0z))) (fun k_ hk=>(⟨hk,hk.1.2.1⟩ : _/\k_ ≠ gb5z))) (fun _ hk=>hk.1.2) (.bool t1508)) (fun _ hk=>hk.1.2) (.slice Ao53z t1509.length co54z)) (fun _ hk=>hk.1.2) (.int .i64 t1512)) (fun _ hk=>hk.2) (.bool t1513)) (fun _ hk=>hk.2) (.slice Ao56z t1514.length co57z)) (fun _ hk=>hk.2) (.int .i64 t1517)) (fun _ h_=>h_.1)) (fun _ h_=>h_.1)) pl)); (case side2=>exact (Kd.V_reads' HO49z.out).2.1); (case side3=>refine (Kd.V_reads' (e:=85) (base:=w.heap.size) (ok:=fun k_=>(k_ ≠ gb0z/\(k_ ≠ gb5z/\k_ ≠ gb12z))) (n:=t1514.length) (c:=co57z) ?_).2.2; exact (Kd.V_below (Kd.V_mono (Kd.V_mono (Kd.V_far (p:=⟨gb5z,2,none⟩) (Kd.V_far (p:=⟨gb5z,1,none⟩) (Kd.V_far (p:=⟨gb5z,0,none⟩) (Kd.V_far (p:=⟨gb0z,2,none⟩) (Kd.V_far (p:=⟨gb0z,1,none⟩) (Kd.V_far (p:=⟨gb0z,0,none⟩) (Kd.V_mono (Kd.V_mono HO52z.out (fun k_ hk=>(⟨hk,hk.1⟩ : _/\k_ ≠ gb0z))) (fun k_ hk=>(⟨hk,hk.1.2.1⟩ : _/\k_ ≠ gb5z))) (fun _ hk=>hk.1.2) (.bool t1508)) (fun _ hk=>hk.1.2) (.slice Ao53z t1509.length co54z)) (fun _ hk=>hk.1.2) (.int .i64 t1512)) (fun _ hk=>hk.2) (.bool t1513)) (fun _ hk=>hk.2) (.slice Ao56z t1514.length co57z)) (fun _ hk=>hk.2) (.int .i64 t1517)) (fun _ h_=>h_.1)) (fun _ h_=>h_.1)) pl)); (case side4=>exact (Kd.V_reads' HO52z.out).2.1); rintro e w107z ⟨v108z,rfl,ho48z,hb⟩; refine ⟨_,rfl,?_⟩; replace HO49z:=am (Kd.V_elder' (Kd.V_below (Kd.V_mono (Kd.V_mono (Kd.V_far (p:=⟨gb5z,2,none⟩) (Kd.V_far (p:=⟨gb5z,1,none⟩) (Kd.V_far (p:=⟨gb5z,0,none⟩) (Kd.V_far (p:=⟨gb0z,2,none⟩) (Kd.V_far (p:=⟨gb0z,1,none⟩) (Kd.V_far (p:=⟨gb0z,0,none⟩) (Kd.V_mono (Kd.V_mono HO49z.out (fun k_ hk=>(⟨hk,hk.1⟩ : _/\k_ ≠ gb0z))) (fun k_ hk=>(⟨hk,hk.1.2.1⟩ : _/\k_ ≠ gb5z))) (fun _ hk=>hk.1.2) (.bool t1508)) (fun _ hk=>hk.1.2) (.slice Ao53z t1509.length co54z)) (fun _ hk=>hk.1.2) (.int .i64 t1512)) (fun _ hk=>hk.2) (.bool t1513)) (fun _ hk=>hk.2) (.slice Ao56z t1514.length co57z)) (fun _ hk=>hk.2) (.int .i64 t1517)) (fun _ h_=>h_.1)) (fun _ h_=>h_.1)) pl) (Kd.R_base ho48z) hb); replace HO52z:=am (Kd.V_elder' (Kd.V_below (Kd.V_mono (Kd.V_mono (Kd.V_far (p:=⟨gb5z,2,none⟩) (Kd.V_far (p:=⟨gb5z,1,none⟩) (Kd.V_far (p:=⟨gb5z,0,none⟩) (Kd.V_far (p:=⟨gb0z,2,none⟩) (Kd.V_far (p:=⟨gb0z,1,none⟩) (Kd.V_far (p:=⟨gb0z,0,none⟩) (Kd.V_mono (Kd.V_mono HO52z.out (fun k_ hk=>(⟨hk,hk.1⟩ : _/\k_ ≠ gb0z))) (fun k_ hk=>(⟨hk,hk.1.2.1⟩ : _/\k_ ≠ gb5z))) (fun _ hk=>hk.1.2) (.bool t1508)) (fun _ hk=>hk.1.2) (.slice Ao53z t1509.length co54z)) (fun _ hk=>hk.1.2) (.int .i64 t1512)) (fun _ hk=>hk.2) (.bool t1513)) (fun _ hk=>hk.2) (.slice Ao56z t1514.length co57z)) (fun _ hk=>hk.2) (.int .i64 t1517)) (fun _ h_=>h_.1)) (fun _ h_=>h_.1)) pl) (Kd.R_base ho48z) hb); have HO109z:=am (Kd.R_lower ho48z (below_size pB)); replace BK2z:=am (blk_below (g:=gb0z) (o:=.cells #[.bool t1508,.slice Ao53z t1509.length co54z,.int .i64 t1512] 106 (0,0)) (by refine bp ?_; refine blk_far ?_ NB10z.out _; refine bp ?_; refine blk_far ?_ NB10z.out _; refine bp ?_; refine blk_far ?_ NB10z.out _; exact p3 BK2z) hb); replace BK7z:=am (blk_below (g:=gb5z) (o:=.cells #[.bool t1513,.slice Ao56z t1514.length co57z,.int .i64 t1517] 106 (0,0)) (by refine bp ?_; refine blk_put (cs:=#[.bool t1513,.slice Ao56z t1514.length co57z,.int .i64 a1_2]) ?_ 2 _ rfl; refine bp ?_; refine blk_put (cs:=#[.bool t1513,.slice A1_1 l1_1.length c1_1,.int .i64 a1_2]) ?_ 1 _ rfl; refine bp ?_; refine blk_put (cs:=#[.bool a1_0,.slice A1_1 l1_1.length c1_1,.int .i64 a1_2]) ?_ 0 _ rfl; refine bp ?_; refine blk_far ?_ NB11z.out _; refine bp ?_; refine blk_far ?_ NB11z.out _; refine bp ?_; refine blk_far ?_ NB11z.out _; exact bp BK7z.out) hb); replace BK14z:=am (blk_below (g:=gb12z) (o:=.cells #[.bool false,.slice none 0 0,.int .i64 0] 106 (0,0)) (by refine bp ?_; refine blk_far ?_ NB20z.out _; refine bp ?_; refine blk_far ?_ NB20z.out _; refine bp ?_; refine blk_far ?_ NB20z.out _; refine bp ?_; refine blk_far ?_ NB18z.out _; refine bp ?_; refine blk_far ?_ NB18z.out _; refine bp ?_; refine blk_far ?_ NB18z.out _; exact bp BK14z.out) hb); replace HB:=bS hb; obtain ⟨Ao110z,co111z,eo112z⟩:=Kd.R_slice HO109z.out; subst eo112z) | (refine gL (some 37) Tryz.func105 #[.slice Ao110z t1518.length co111z,.int .i64 t1519] (h:=?_); (with_reducible refine (dec_must.calls (fun k_=>some k_ = (.slice Ao110z t1518.length co111z : Value).ownBlock) (.slice Ao110z t1518.length co111z) t1518 t1519 t1522 w _ ?side1 ?side2 A8.out).mono ?_); (case side1=>exact pB); (case side2=>exact Kd.R_tight rfl HO109z.out); rintro e w113z ⟨v114z,rfl,ho48z,hb,hkp⟩; refine ⟨_,rfl,?_⟩; have HO115z:=am (Kd.R_mono (ok':=fun k_=>True) ho48z (fun k_ hk_=>trivial)); replace BK2z:=am (blk_kept (blk_below BK2z.out pl) hkp (fun e_=>Kd.R_ne HO109z.out BK2z.out (by decide) e_)); replace BK7z:=am (blk_kept (blk_below BK7z.out pl) hkp (fun e_=>Kd.R_ne HO109z.out BK7z.out (by decide) e_)); replace BK14z:=am (blk_kept (blk_below BK14z.out pl) hkp (fun e_=>Kd.R_ne HO109z.out BK14z.out (by decide) e_)); replace HO49z:=am (Kd.V_mono (ok':=fun k_=>k_ ≠ gb0z/\k_ ≠ gb5z/\k_ ≠ gb12z/\some k_ ≠ (v114z : Value).ownBlock) (Kd.V_keptB (HO49z.out) hkp (fun k_ hk_ hs_=>(hk_.2) hs_)) (fun k_ hk_=>⟨hk_.1.1.1,hk_.1.1.2.1,hk_.1.1.2.2,fun e_=>Or.elim (ho48z.1 k_ e_.symm) (fun hs_=>hk_.2.1 hs_) (fun hn_=>Nat.not_le.2 hk_.2.2 hn_)⟩)); replace HO52z:=am (Kd.V_mono (ok':=fun k_=>k_ ≠ gb0z/\k_ ≠ gb5z/\k_ ≠ gb12z/\some k_ ≠ (v114z : Value).ownBlock) (Kd.V_keptB (HO52z.out) hkp (fun k_ hk_ hs_=>(hk_.2) hs_)) (fun k_ hk_=>⟨hk_.1.1.1,hk_.1.1.2.1,hk_.1.1.2.2,fun e_=>Or.elim (ho48z.1 k_ e_.symm) (fun hs_=>hk_.2.1 hs_) (fun hn_=>Nat.not_le.2 hk_.2.2 hn_)⟩)); replace HB:=am hb; clear HO109z; obtain ⟨Ao116z,co117z,eo118z⟩:=Kd.R_slice HO115z.out; subst eo118z; obtain ⟨hcz119z,hcz120z,hcz121z,hfz122z,hfz123z,hfz124z⟩:=cEc BK2z.out; obtain ⟨hcz125z,hcz126z,hcz127z,hfz128z,hfz129z,hfz130z⟩:=cEc BK14z.out))
 first
  | have q_:=A39
    refine bodyPost_ret (results_cell_row rfl _ _ gb12z 106 #[.bool t1513,.slice Ao129z t1531.length co130z,.int .i64 t1517] (0,0) _ rfl (by refine bp ?_; refine blk_put (cs:=#[.bool t1513,.slice Ao129z t1531.length co130z,.int .i64 0]) ?_ 2 _ rfl; refine bp ?_; refine blk_put (cs:=#[.bool t1513,.slice none 0 0,.int .i64 0]) ?_ 1 _ rfl; refine bp ?_; refine blk_put (cs:=#[.bool false,.slice none 0 0,.int .i64 0]) ?_ 0 _ rfl; refine bp ?_; refine blk_far ?_ NB18z.out _; exact bp BK14z.out) Tryz.underlying106 rfl (by kernel_rfl)) rfl ?_
    exact ⟨_,by first | rfl | (simp [errW_none,errW_some] <;> rfl) | (simp only [<- hji3]; first | rfl | (simp [errW_none,errW_some] <;> rfl)) | (simp [*,errW_none,errW_some] <;> rfl),by refine rp ?_; exact Kd.R_mono (Kd.R_far (p:=⟨gb12z,2,none⟩) (Kd.R_far (p:=⟨gb12z,1,none⟩) (Kd.R_far (p:=⟨gb12z,0,none⟩) (Kd.R_far (p:=⟨gb0z,1,none⟩) (Kd.R_types (Kd.R_types HO128z.out BK2z.out (by decide)) BK14z.out (by decide)) (fun _ hk=>hk.1.2) (.slice Ao129z t1531.length co130z)) (fun _ hk=>hk.2) (.bool t1513)) (fun _ hk=>hk.2) (.slice Ao129z t1531.length co130z)) (fun _ hk=>hk.2) (.int .i64 t1517)) (fun _ hk=>trivial),pB⟩
  | have q_:=A71
    refine bodyPost_ret (results_cell_row rfl _ _ gb12z 106 #[.bool t1508,.slice Ao129z t1538.length co130z,.int .i64 t1512] (0,0) _ rfl (by refine bp ?_; refine blk_put (cs:=#[.bool t1508,.slice Ao129z t1538.length co130z,.int .i64 0]) ?_ 2 _ rfl; refine bp ?_; refine blk_put (cs:=#[.bool t1508,.slice none 0 0,.int .i64 0]) ?_ 1 _ rfl; refine bp ?_; refine blk_put (cs:=#[.bool false,.slice none 0 0,.int .i64 0]) ?_ 0 _ rfl; refine bp ?_; refine blk_far ?_ NB18z.out _; exact bp BK14z.out) Tryz.underlying106 rfl (by kernel_rfl)) rfl ?_
    exact ⟨_,by first | rfl | (simp [errW_none,errW_some] <;> rfl) | (simp only [<- hji3]; first | rfl | (simp [errW_none,errW_some] <;> rfl)) | (simp [*,errW_none,errW_some] <;> rfl),by refine rp ?_; exact Kd.R_mono (Kd.R_far (p:=⟨gb12z,2,none⟩) (Kd.R_far (p:=⟨gb12z,1,none⟩) (Kd.R_far (p:=⟨gb12z,0,none⟩) (Kd.R_far (p:=⟨gb0z,1,none⟩) (Kd.R_types (Kd.R_types HO128z.out BK2z.out (by decide)) BK14z.out (by decide)) (fun _ hk=>hk.1.2) (.slice Ao129z t1538.length co130z)) (fun _ hk=>hk.2) (.bool t1508)) (fun _ hk=>hk.2) (.slice Ao129z t1538.length co130z)) (fun _ hk=>hk.2) (.int .i64 t1512)) (fun _ hk=>trivial),pB⟩
  | refine bodyPost_ret (results_cell_row rfl _ _ gb12z 106 #[.bool t1508,.slice Ao116z t1522.length co117z,.int .i64 t1512] (0,0) _ rfl (by refine bp ?_; refine blk_put (cs:=#[.bool t1508,.slice Ao116z t1522.length co117z,.int .i64 0]) ?_ 2 _ rfl; refine bp ?_; refine blk_put (cs:=#[.bool t1508,.slice none 0 0,.int .i64 0]) ?_ 1 _ rfl; refine bp ?_; refine blk_put (cs:=#[.bool false,.slice none 0 0,.int .i64 0]) ?_ 0 _ rfl; refine bp ?_; refine blk_far ?_ NB18z.out _; exact bp BK14z.out) Tryz.underlying106 rfl (by kernel_rfl)) rfl ?_
    exact ⟨_,by first | rfl | (simp [errW_none,errW_some] <;> rfl) | (simp only [<- hji3]; first | rfl | (simp [errW_none,errW_some] <;> rfl)) | (simp [*,errW_none,errW_some] <;> rfl),by refine rp ?_; exact Kd.R_mono (Kd.R_far (p:=⟨gb12z,2,none⟩) (Kd.R_far (p:=⟨gb12z,1,none⟩) (Kd.R_far (p:=⟨gb12z,0,none⟩) (Kd.R_far (p:=⟨gb0z,1,none⟩) (Kd.R_types (Kd.R_types HO115z.out BK2z.out (by decide)) BK14z.out (by decide)) (fun _ hk=>hk.1.2) (.slice Ao116z t1522.length co117z)) (fun _ hk=>hk.2) (.bool t1508)) (fun _ hk=>hk.2) (.slice Ao116z t1522.length co117z)) (fun _ hk=>hk.2) (.int .i64 t1512)) (fun _ hk=>trivial),pB⟩) : P:=h
theorem dec_number_plus.calls (k : Nat) (a0_0 : Bool) (A0_1 : Option Addr) (c0_1 : Nat) (l0_1 : List Int) (a0_2 : Int) (a1_0 : Bool) (A1_1 : Option Addr) (c1_1 : Nat) (l1_1 : List Int) (a1_2 : Int) (r1 : Bool) (r2 : List Int) (r3 : Int) (w : World) (hr0_1 : Kd.C (Kd.int .u32) w A0_1 l0_1.length l0_1) (hc0_1 : l0_1.length<=c0_1) (hr1_1 : Kd.C (Kd.int .u32) w A1_1 l1_1.length l1_1) (hc1_1 : l1_1.length<=c1_1) (h : dec_number_plus.f k a0_0 l0_1 a0_2 a1_0 l1_1 a1_2 = some (r1,r2,r3)) :
  Calls Tryz.prog 101 #[.agg #[.bool a0_0,.slice A0_1 l0_1.length c0_1,.int .i64 a0_2],.agg #[.bool a1_0,.slice A1_1 l1_1.length c1_1,.int .i64 a1_2]] w fun e w' => ∃ v1_ : Value,e = .returned (.agg #[.bool r1,v1_,.int .i64 r3])/\Kd.R (Kd.int .u32) 85 w' w.heap.size (fun _=>True) v1_ r2/\Below w.heap.size w w':=by
 have hu106:=Tryz.underlying106
 have HR0_1:=am hr0_1
 have HC0_1:=am hc0_1
 clear hr0_1 hc0_1
 have HR1_1:=am hr1_1
 have HC1_1:=am hc1_1
 clear hr1_1 hc1_1
 have HB:=am (Below.refl w.heap.size w)
 have H : ((dec_number_down.f k a0_0 l0_1 a0_2 (mn a0_2 a1_2)).bind fun bt1508=>((dec_number_down.f k a1_0 l1_1 a1_2 (mn a0_2 a1_2)).bind fun bt1513=>(if (bt1508.1 == bt1513.1) = true then ((nat_Add.f k bt1508.2.1 bt1513.2.1).bind fun bt1518=>((dec_must.f bt1518.1 bt1518.2).bind fun t1522=>(some (bt1508.1,t1522,bt1508.2.2)))) else ((nat_Compare.f k bt1508.2.1 bt1513.2.1).bind fun bt1525=>(if bt1525.1 < 0 then ((nat_Sub.f k bt1513.2.1 bt1508.2.1).bind fun bt1527=>((dec_must.f bt1527.1 bt1527.2).bind fun t1531=>(some (bt1513.1,t1531,bt1513.2.2)))) else ((nat_Sub.f k bt1508.2.1 bt1513.2.1).bind fun bt1534=>((dec_must.f bt1534.1 bt1534.2).bind fun t1538=>(some (bt1508.1,t1538,bt1508.2.2))))))))) = some (r1,r2,r3):=h
 clear h
 obtain ⟨ji3,hji3⟩ : ∃ j_ : Int,(mn a0_2 a1_2) = j_:=⟨_,rfl⟩
 replace H : ((dec_number_down.f k a0_0 l0_1 a0_2 (ji3)).bind fun bt1508=>((dec_number_down.f k a1_0 l1_1 a1_2 (ji3)).bind fun bt1513=>(if (bt1508.1 == bt1513.1) = true then ((nat_Add.f k bt1508.2.1 bt1513.2.1).bind fun bt1518=>((dec_must.f bt1518.1 bt1518.2).bind fun t1522=>(some (bt1508.1,t1522,bt1508.2.2)))) else ((nat_Compare.f k bt1508.2.1 bt1513.2.1).bind fun bt1525=>(if bt1525.1 < 0 then ((nat_Sub.f k bt1513.2.1 bt1508.2.1).bind fun bt1527=>((dec_must.f bt1527.1 bt1527.2).bind fun t1531=>(some (bt1513.1,t1531,bt1513.2.2)))) else ((nat_Sub.f k bt1508.2.1 bt1513.2.1).bind fun bt1534=>((dec_must.f bt1534.1 bt1534.2).bind fun t1538=>(some (bt1508.1,t1538,bt1508.2.2))))))))) = some (r1,r2,r3):=by first | (rw [hji3] at H; exact H) | (simp only [hji3] at H ⊢; exact H)
 have hji3_ : (if a1_2 < a0_2 then a1_2 else a0_2) = ji3:=hji3
 obtain ⟨⟨t1508,t1509,t1512⟩,A4,H⟩:=ob H; (try dsimp only at H)
 obtain ⟨⟨t1513,t1514,t1517⟩,A5,H⟩:=ob H; (try dsimp only at H)
 by_cases c6 : (t1508 == t1513) = true
 ·rw [if_pos c6] at H
  have c6b0 : (t1508 == t1513) = true:=c6
  (try (have c6b1 : decide (t1508 = t1513) = true:=by simpa using c6))
  (try (have c6b2 : (t1508 == t1513) = true:=by simpa using c6))
  clear c6
  obtain ⟨⟨t1518,t1519⟩,A7,H⟩:=ob H; (try dsimp only at H)
  obtain ⟨t1522,A8,H⟩:=ob H
  simp only [Option.some.injEq,Prod.mk.injEq] at H
  obtain ⟨rfl,rfl,rfl⟩:=H
  exact dec_number_plus.leaf
 ·rw [if_neg c6] at H
  have c6b0 : (t1508 == t1513) = false:=by simpa using c6
  (try (have c6b1 : decide (t1508 = t1513) = false:=by simpa using c6))
  (try (have c6b2 : (t1508 == t1513) = false:=by simpa using c6))
  (try (have c6b3 : ¬ (t1508 = t1513):=by simpa using c6))
  clear c6
  obtain ⟨⟨t1525,t1526⟩,A36,H⟩:=ob H; (try dsimp only at H)
  by_cases c37 : t1525 < 0
  ·rw [if_pos c37] at H
   have c37b0 : decide (t1525 < 0) = true:=decide_eq_true c37
   clear c37
   obtain ⟨⟨t1527,t1528⟩,A38,H⟩:=ob H; (try dsimp only at H)
   obtain ⟨t1531,A39,H⟩:=ob H
   simp only [Option.some.injEq,Prod.mk.injEq] at H
   obtain ⟨rfl,rfl,rfl⟩:=H
   exact dec_number_plus.leaf
  ·rw [if_neg c37] at H
   have c37b0 : decide (t1525 < 0) = false:=decide_eq_false c37
   clear c37
   obtain ⟨⟨t1534,t1535⟩,A70,H⟩:=ob H; (try dsimp only at H)
   obtain ⟨t1538,A71,H⟩:=ob H
   simp only [Option.some.injEq,Prod.mk.injEq] at H
   obtain ⟨rfl,rfl,rfl⟩:=H
   exact dec_number_plus.leaf
def dec_must2.f (a0 : ByteArray) (a1 : Int) : Option (ByteArray):=some a0
theorem dec_must2.calls (a0 : ByteArray) (a1 : Int) (r : ByteArray) (w : World) (h : dec_must2.f a0 a1 = some r) :
  Calls Tryz.prog 111 #[.string a0,.int .i64 a1] w fun e w'=>e = .returned (.string r)/\Drawn0 w w':=by
 have H : (some a0) = some r:=h
 clear h
 obtain rfl:=Option.some.inj H
 go_enter Tryz.func111,Tryz.ntmps111
 go_wp2
 go_ret
 exact ⟨pR,pD⟩
def nat_piece.l0 : Nat->Int->List Int->Int->Int->Option (Int)
 | 0,_,_,_,_=>none
 | k + 1,x3,x7,x8,x9=>if x9 < x8 then (if 0<=x9 then (if x9 < (x7.length : Int) then (nat_piece.l0 k ((((x3 * 10) % 4294967296) + (((rd x7 x9) - 48) % 256)) % 4294967296) x7 x8 (wrap64 (x9 + 1))) else (none)) else (none)) else (some x3)
def nat_piece.f (k : Nat) (a0 : ByteArray) : Option (Int):=(conv_bytes146.f a0).bind fun t240=>(nat_piece.l0 k 0 t240 (t240.length : Int) 0)
theorem nat_piece.calls (k : Nat) (a0 : ByteArray) (r : Int) (w : World) (h : nat_piece.f k a0 = some r) :
  Calls Tryz.prog 152 #[.string a0] w fun e w'=>e = .returned (.int .u32 r)/\Below w.heap.size w w':=by
 have HB:=am (Below.refl w.heap.size w)
 have H : ((conv_bytes146.f a0).bind fun t240=>(nat_piece.l0 k 0 t240 (t240.length : Int) 0)) = some r:=h
 clear h
 obtain ⟨t240,A2,H⟩:=ob H
 have H':=am H
 clear H
 go_enter Tryz.func152,Tryz.ntmps152
 go_wp2_with (first | ((with_reducible refine gd 7 ?_); refine conv_bytes146.op _ _ _ rfl rfl rfl A2.out ?_; intro v241 w3 ho0 hb; have HO242:=am (Kd.V_lower (Kd.V_mono (ok':=fun k_=>True) ho0 (fun k_ hk_=>trivial)) (below_size pB)); replace HB:=bS hb; obtain ⟨Ao4,co4,eo4⟩:=Kd.V_slice HO242.out; subst eo4))
 go_loopg [3,9] k (fun kq v3 v9 w' => ∃ (x3_1 : Int) (x9_1 : Int),v3 = .int .u32 x3_1/\v9 = .int .i64 x9_1/\Aside0 (nat_piece.l0 kq x3_1 t240 (t240.length : Int) x9_1 = some r)/\Aside0 (kq<=k)/\Aside0 (Kd.V (Kd.int .u8) 5 w' w.heap.size (fun _=>True) (.slice Ao4 t240.length co4) t240)/\Aside0 (Below w.heap.size w w'))
 case atStart=>exact ⟨(0),(0),pR,pR,H',⟨Nat.le_refl _⟩,⟨by refine vp ?_; exact HO242.out⟩,⟨pB⟩⟩
 case round =>
  clear H'
  obtain ⟨x3_1,x9_1,rfl,rfl,HA,HK1,HO_7,HB⟩:=hrel
  cases gk with
  | zero=>exact absurd HA.out (by simp [nat_piece.l0])
  | succ k1 =>
   have H:=HA.out
   clear HA
   simp only [nat_piece.l0] at H
   by_cases c5 : x9_1 < (t240.length : Int)
   ·rw [if_pos c5] at H
    have c5b0 : decide (x9_1 < (t240.length : Int)) = true:=decide_eq_true c5
    clear c5
    by_cases c6 : 0<=x9_1
    ·rw [if_pos c6] at H
     have c6b0 : decide (0<=x9_1) = true:=decide_eq_true c6
     clear c6
     by_cases c7 : x9_1 < (t240.length : Int)
     ·rw [if_pos c7] at H
      have c7b0 : decide (x9_1 < (t240.length : Int)) = true:=decide_eq_true c7
      clear c7
      have H':=am H
      clear H
      have p243 : 0<=(x9_1 : Int):=of_decide_eq_true pQ
      have q243 : x9_1 < (t240.length : Int):=of_decide_eq_true pQ
      obtain ⟨ad243,e243,hx243_0⟩:=Kd.at_int (Kd.V_reads' HO_7.out).2.2 x9_1 p243 q243
      cases e243
      replace p243:=eq_true p243
      replace q243:=eq_true q243
      go_wp2
      go_roundg k1
      case measure=>have := HK1.out; omega
      case rel=>exact ⟨((((x3_1 * 10) % 4294967296) + (((rd t240 x9_1) - 48) % 256)) % 4294967296),(wrap64 (x9_1 + 1)),pR,pR,H',⟨by have := HK1.out; omega⟩,⟨by refine vp ?_; exact HO_7.out⟩,⟨pB⟩⟩
     ·rw [if_neg c7] at H
      exact absurd H (by simp)
    ·rw [if_neg c6] at H
     exact absurd H (by simp)
   ·rw [if_neg c5] at H
    have c5b0 : decide (x9_1 < (t240.length : Int)) = false:=decide_eq_false c5
    clear c5
    obtain rfl:=Option.some.inj H
    go_wp2
    go_ret
    exact ⟨pE,pB⟩
def nat_Parse_1.f (a0 : Int) : Option (Bool):=if a0 < 48 then (some true) else (some (decide (a0 > 57)))
theorem nat_Parse_1.calls (a0 : Int) (r : Bool) (w : World) (h : nat_Parse_1.f a0 = some r) :
  Calls Tryz.prog 151 #[.int .u8 a0] w fun e w'=>e = .returned (.bool r)/\Drawn0 w w':=by
 have H : (if a0 < 48 then (some true) else (some (decide (a0 > 57)))) = some r:=h
 clear h
 by_cases c2 : a0 < 48
 ·rw [if_pos c2] at H
  have c2b0 : decide (a0 < 48) = true:=decide_eq_true c2
  clear c2
  obtain rfl:=Option.some.inj H
  go_enter Tryz.func151,Tryz.ntmps151
  go_wp2
  go_ret
  exact ⟨pR,pD⟩
 ·rw [if_neg c2] at H
  have c2b0 : decide (a0 < 48) = false:=decide_eq_false c2
  clear c2
  obtain rfl:=Option.some.inj H
  go_enter Tryz.func151,Tryz.ntmps151
  go_wp2
  go_ret
  exact ⟨pR,pD⟩
end YtjbjkmccfocikaaGreatDoor.B
end
section
namespace YtjbjkmccfocikaaGreatDoor.B
open Go.RowKit YtjbjkmccfocikaaGreatDoorW.PrintWords YtjbjkmccfocikaaGreatDoor.P
def nat_Parse_any.f (l : List Int) : Option Bool:=anyO (fun x=>nat_Parse_1.f x) l
theorem nat_Parse_any.index (A0 : Option Addr) (c0 : Nat) (l0 : List Int) (b : Bool) (w : World) (hr0 : Kd.C (Kd.int .u8) w A0 l0.length l0) (hc0 : l0.length<=c0) (h : nat_Parse_any.f l0 = some b) :
  Calls Tryz.prog 182 #[.slice A0 l0.length c0,.func (.func 151) #[] #[]] w fun e w'=>IdxR b e/\Below w.heap.size w w':=by
 have hm : l0.length<=9223372036854775807:=Kd.C_max hr0
 have HR:=Aside0.mk hr0
 have HC:=Aside0.mk hc0
 unfold nat_Parse_any.f at h
 have H0:=Aside0.mk h
 obtain ⟨n,hn⟩ : ∃ n,l0.length = n:=⟨_,rfl⟩
 rw [hn] at hm
 have HN:=Aside0.mk hn
 clear h hr0 hc0
 rw [hn]
 clear hn
 go_enter Tryz.func182,Tryz.ntmps182
 go_wp2
 go_loopw [8] (fun i wr => ∃ k_ : Nat,k_<=n/\i = .int .i64 k_/\Aside0 (anyO (fun x=>nat_Parse_1.f x) (l0.drop k_) = some b)/\Below w.heap.size w wr) (fun i _=>n - (intOf i).toNat)
 case atStart=>exact ⟨0,Nat.zero_le _,rfl,⟨H0.out⟩,Below.refl _ _⟩
 case round =>
  obtain ⟨q,hq,rfl,HP,hb⟩:=hrel
  by_cases hlt : q < n
  ·have hlt' : (q : Int) < (n : Int):=by omega
   have hdrop : l0.drop q = (l0.getD q (0 : Int)) :: l0.drop (q + 1):=drop_any (by have := HN.out; omega)
   obtain ⟨x,hx⟩ : ∃ x,l0.getD q (0 : Int) = x:=⟨_,rfl⟩
   have h1:=HP.out
   rw [hdrop,hx] at h1
   obtain ⟨t,ht,h2⟩:=anyO_cons h1
   obtain ⟨ad,c,hA,_,hK,hcc⟩:=Kd.C_get HR.out (0 : Int) (q : Int) (by omega) (by have := HN.out; omega)
   have hx' : l0.getD (q : Int).toNat 0 = x:=by rw [Int.toNat_natCast]; exact hx
   obtain rfl : c = [.int .u8 (l0.getD (q : Int).toNat 0)]:=hK
   rw [hx'] at hcc
   have hcell0:=hcc 0 _ rfl
   obtain ⟨ad',c',hA',_,hK',hcc'⟩:=Kd.C_get HR.out (0 : Int) (0 : Int) (by omega) (by have := HN.out; omega)
   obtain rfl : c' = [.int .u8 (l0.getD (0 : Int).toNat 0)]:=hK'
   have hfirst:=hcc' 0 _ rfl
   obtain rfl : ad = ad':=Option.some.inj (hA.symm.trans hA')
   subst hA
   obtain ⟨b_,o_,rfl⟩:=addr_any (show w.cell? ad = _ from hfirst)
   have hck : wr.cell? ⟨b_,o_ + q,none⟩ = some (.int .u8 x):=by
    have h3:=pw_cell_below hb hcell0
    rw [add_any] at h3
    simpa [show (Kd.int .u8).sz = 1 from rfl] using h3
   have cF:=fun W : World=>nat_Parse_1.calls x t W ht
   have HF:=Aside0.mk h2
   clear h1 hdrop hx hx' ht hcc hcell0 HP h2 hfirst hcc' hA'
   cases t with
   | true =>
    have HF1:=Aside0.mk (HF.out.1 rfl)
    clear HF
    go_wp2_with (go_at_call 151; refine (cF _).mono ?_; rintro e w1 ⟨rfl,hb1⟩)
    go_ret
    exact ⟨idxR_at HF1.out q,hb.trans (hb1.below.mono hb.size)⟩
   | false =>
    have HF1:=Aside0.mk (HF.out.2 rfl)
    clear HF
    go_wp2_with (go_at_call 151; refine (cF _).mono ?_; rintro e w1 ⟨rfl,hb1⟩)
    go_roundw
    case rel=>exact ⟨q + 1,by omega,by go_num,HF1,hb.trans (hb1.below.mono hb.size)⟩
    case measure=>simp [intOf]; omega
  ·obtain rfl : q = n:=by omega
   have h1:=HP.out
   rw [List.drop_of_length_le (by have := HN.out; omega)] at h1
   have h2:=Aside0.mk (anyO_nil h1)
   clear h1
   go_wp2
   go_ret
   exact ⟨idxR_none h2.out,hb⟩
theorem nat_Parse_any.calls (A0 : Option Addr) (c0 : Nat) (l0 : List Int) (r : Bool) (w : World) (hr0 : Kd.C (Kd.int .u8) w A0 l0.length l0) (hc0 : l0.length<=c0) (h : nat_Parse_any.f l0 = some r) :
  Calls Tryz.prog 150 #[.slice A0 l0.length c0,.func (.func 151) #[] #[]] w fun e w'=>e = .returned (.bool r)/\Below w.heap.size w w':=by
 have cI:=nat_Parse_any.index A0 c0 l0 r w hr0 hc0 h
 clear h hr0 hc0
 go_enter Tryz.func150,Tryz.ntmps150
 go_wp2_with (go_at_call 182; refine cI.mono ?_; rintro e w1 ⟨⟨i,rfl,hi⟩,hb1⟩)
 go_ret
 exact ⟨by rw [<- hi]; first | rfl | simp,hb1⟩
end YtjbjkmccfocikaaGreatDoor.B
end
section
namespace YtjbjkmccfocikaaGreatDoor.B
open Go.RowKit YtjbjkmccfocikaaGreatDoorW.PrintWords YtjbjkmccfocikaaGreatDoorW.PrintLast YtjbjkmccfocikaaGreatDoorW.PrintMore
attribute [local go_sem] max2_int min2_int max_two min_two max_three min_three max_four min_four
def nat_Parse.l0 : Nat->ByteArray->List Int->Option (List Int × Int)
 | 0,_,_=>none
 | k + 1,x0,x4=>if x0.toList = ([] : List UInt8) then (some (x4,0)) else ((nat_num_mul.f k x4 (([1000000000] : List Int))).bind fun t251=>(if 0<=(wrap64 ((Int.tmod (wrap64 ((x0.size : Int) - 1)) 9) + 1)) then (if (wrap64 ((Int.tmod (wrap64 ((x0.size : Int) - 1)) 9) + 1))<=(x0.size : Int) then ((nat_piece.f k (x0.extract 0 ((wrap64 ((Int.tmod (wrap64 ((x0.size : Int) - 1)) 9) + 1)) : Int).toNat)).bind fun t254=>((nat_num_trim.f k (([t254] : List Int))).bind fun t258=>((nat_num_add.f k t251 t258).bind fun t261=>(nat_Parse.l0 k (x0.extract ((wrap64 ((Int.tmod (wrap64 ((x0.size : Int) - 1)) 9) + 1)) : Int).toNat x0.size) t261)))) else (none)) else (none)))
def nat_Parse.f (k : Nat) (a0 : ByteArray) : Option (List Int × Int):=if (a0.size : Int) = 0 then (some (([] : List Int),8)) else (if (a0.size : Int) > 2400 then (some (([] : List Int),5)) else ((conv_bytes146.f a0).bind fun t244=>((nat_Parse_any.f t244).bind fun t247=>(if t247 = true then (some (([] : List Int),32)) else (nat_Parse.l0 k a0 ([] : List Int))))))
def nat_Parse.T10 : Bool × List (List Nat × List Nat):=(true,[([],[]),([],[]),([0,1],[0,1]),([],[]),([],[]),([3,4],[3,4]),([5,2],[5]),([6],[6]),([7,6],[7]),([2,8,8],[2,8]),([9,9,0,1,2,3,4,5,6,7,8,9],[0,9])])
def nat_Parse.B10 : List Nat:=[0,0,3,0,0,24,63,127,255,511,1023]
theorem nat_Parse.tab10 : rtab .any (opsOf Tryz.f116 10) = nat_Parse.T10:=by kernel_rfl
theorem nat_Parse.bits10 : waitsOk nat_Parse.T10.2 nat_Parse.B10 = true:=by kernel_rfl
theorem nat_Parse.leaf {P : Prop} (h : P:=by
 go_enter Tryz.func116,Tryz.ntmps116
 go_wp2_with (first | ((with_reducible refine gd 16 ?_); refine conv_bytes146.op _ _ _ rfl rfl rfl A4.out ?_; intro v0z w1z ho2z hb; have HO3z:=am (Kd.V_lower (Kd.V_mono (ok':=fun k_=>True) ho2z (fun k_ hk_=>trivial)) (below_size pB)); replace HB:=bS hb; obtain ⟨Ao4z,co5z,eo6z⟩:=Kd.V_slice HO3z.out; subst eo6z) | (refine gL (some 17) Tryz.func150 #[.slice Ao4z t244.length co5z,.func (.func 151) #[] #[]] (h:=?_); (with_reducible refine (nat_Parse_any.calls _ _ t244 true _ ?side1 ?side2 A5.out).mono ?_); (case side1=>exact Kd.C_below (Kd.V_reads' HO3z.out).2.2 pl); (case side2=>exact (Kd.V_reads' HO3z.out).2.1); rintro e w7z ⟨rfl,hb⟩; refine ⟨_,rfl,?_⟩; replace HO3z:=vbl HO3z hb; replace HB:=bS hb) | (refine gL (some 17) Tryz.func150 #[.slice Ao4z t244.length co5z,.func (.func 151) #[] #[]] (h:=?_); (with_reducible refine (nat_Parse_any.calls _ _ t244 false _ ?side1 ?side2 A5.out).mono ?_); (case side1=>exact Kd.C_below (Kd.V_reads' HO3z.out).2.2 pl); (case side2=>exact (Kd.V_reads' HO3z.out).2.1); rintro e w7z ⟨rfl,hb⟩; refine ⟨_,rfl,?_⟩; replace HO3z:=vbl HO3z hb; replace HB:=bS hb))
 first
  | have q_:=A5; have q_ : Aside0 (_ = some false):=A5
    go_loopg [0,4] k (fun kq v8z v9z w' => ∃ (x10z : ByteArray) (x11z : List Int),v8z = .string x10z/\Aside0 (nat_Parse.l0 kq x10z x11z = some (r1,r2))/\Aside0 (kq<=k)/\Aside0 (Kd.R (Kd.int .u32) 85 w' w.heap.size (fun _=>True) v9z x11z)/\Aside0 (Below w.heap.size w w'))
    case atStart=>exact ⟨(a0),(([] : List Int)),pR,H',⟨Nat.le_refl _⟩,⟨pN⟩,⟨pB⟩⟩
    case round =>
     clear H'
     obtain ⟨x10z,x11z,rfl,HA,HK12z,HO_4,HB⟩:=hrel
     cases gk with
     | zero=>exact absurd HA.out (by simp [nat_Parse.l0])
     | succ k1 =>
      have H:=HA.out
      clear HA
      simp only [nat_Parse.l0] at H
      by_cases c13z : x10z.toList = ([] : List UInt8)
      ·rw [if_pos c13z] at H
       have c14z : (x10z.toList == ([] : List UInt8)) = true:=beq_iff_eq.mpr c13z
       have c15z : (x10z.toList != ([] : List UInt8)) = false:=bne_eq_false_iff_eq.mpr c13z
       clear c13z
       simp only [Option.some.injEq,Prod.mk.injEq] at H
       obtain ⟨rfl,rfl⟩:=H
       go_wp2
       go_ret2
       exact ⟨_,pE,by refine rp ?_; exact HO_4.out,pB⟩
      ·rw [if_neg c13z] at H
       have c14z : (x10z.toList == ([] : List UInt8)) = false:=beq_eq_false_iff_ne.mpr c13z
       have c15z : (x10z.toList != ([] : List UInt8)) = true:=bne_iff_ne.mpr c13z
       obtain ⟨y16z,hy17z⟩ : ∃ y_ : List Int,y_ = (([1000000000] : List Int)):=⟨_,rfl⟩
       replace H : ((nat_num_mul.f k1 x11z y16z).bind fun t18z=>(if 0<=(wrap64 ((Int.tmod (wrap64 ((x10z.size : Int) - 1)) 9) + 1)) then (if (wrap64 ((Int.tmod (wrap64 ((x10z.size : Int) - 1)) 9) + 1))<=(x10z.size : Int) then ((nat_piece.f k1 (x10z.extract 0 ((wrap64 ((Int.tmod (wrap64 ((x10z.size : Int) - 1)) 9) + 1)) : Int).toNat)).bind fun t19z=>((nat_num_trim.f k1 (([t19z] : List Int))).bind fun t20z=>((nat_num_add.f k1 t18z t20z).bind fun t21z=>(nat_Parse.l0 k1 (x10z.extract ((wrap64 ((Int.tmod (wrap64 ((x10z.size : Int) - 1)) 9) + 1)) : Int).toNat x10z.size) t21z)))) else (none)) else (none))) = some (r1,r2):=by have hy_:=hy17z; exact pH
       have Ny22z:=am hy17z
       clear hy17z
       obtain ⟨t18z,A23z,H⟩:=ob H
       obtain ⟨ji24z,hji25z⟩ : ∃ j_ : Int,(wrap64 ((Int.tmod (wrap64 ((x10z.size : Int) - 1)) 9) + 1)) = j_:=⟨_,rfl⟩
       replace H : (if 0<=(ji24z) then (if (ji24z)<=(x10z.size : Int) then ((nat_piece.f k1 (x10z.extract 0 ((ji24z) : Int).toNat)).bind fun t19z=>((nat_num_trim.f k1 (([t19z] : List Int))).bind fun t20z=>((nat_num_add.f k1 t18z t20z).bind fun t21z=>(nat_Parse.l0 k1 (x10z.extract ((ji24z) : Int).toNat x10z.size) t21z)))) else (none)) else (none)) = some (r1,r2):=by first | (rw [hji25z] at H; exact H) | (simp only [hji25z] at H ⊢; exact H)
       (try rw [hji25z] at A23z)
       have hji26z : (IntKind.i64.wrap ((Int.tmod (wrap64 ((x10z.size : Int) - 1)) 9) + 1)) = ji24z:=(i64_w _).trans hji25z
       by_cases c27z : 0<=(ji24z)
       ·rw [if_pos c27z] at H
        have c28z:=eq_true c27z
        have c29z : decide (0<=(ji24z)) = true:=decide_eq_true c27z
        clear c27z
        by_cases c30z : (ji24z)<=(x10z.size : Int)
        ·rw [if_pos c30z] at H
         have c31z:=eq_true c30z
         have c32z : decide ((ji24z)<=(x10z.size : Int)) = true:=decide_eq_true c30z
         clear c30z
         obtain ⟨t19z,A33z,H⟩:=ob H
         obtain ⟨y34z,hy35z⟩ : ∃ y_ : List Int,y_ = (([t19z] : List Int)):=⟨_,rfl⟩
         replace H : ((nat_num_trim.f k1 y34z).bind fun t20z=>((nat_num_add.f k1 t18z t20z).bind fun t21z=>(nat_Parse.l0 k1 (x10z.extract ((ji24z) : Int).toNat x10z.size) t21z))) = some (r1,r2):=by have hy_:=hy35z; exact pH
         have Ny36z:=am hy35z
         clear hy35z
         obtain ⟨t20z,A37z,H⟩:=ob H
         obtain ⟨t21z,A38z,H⟩:=ob H
         have c39z:=eq_true (of_decide_eq_true pQ : 0<=(ji24z))
         have c40z:=eq_true (of_decide_eq_true pQ : (ji24z)<=(x10z.size : Int))
         have H':=am H
         clear H
         try go_wp2
         replace HO_4:=am (Kd.R_drew HO_4.out)
         replace HB:=am (below_drew1 HB.out)
         refine start_ (n:=11) (S:=fun w'=>True) (ds:=[]) #[false,false,false,false,false,false,false,false,false,false,false] (by kernel_rfl) rfl rfl trivial (fun hHeld=>?_); refine with_tabW nat_Parse.tab10 nat_Parse.bits10 (fun HT_ HW_=>?_)
         generalize wr.drew = w41z at HO_4 HB hHeld ⊢
         refine pu 0 (some 25) #[true,false,false,false,false,false,false,false,false,false,false] (h:=?_)
         refine pu 3 (some 28) #[true,false,false,true,false,false,false,false,false,false,false] (h:=?_)
         refine pu 4 (some 29) #[true,false,false,true,true,false,false,false,false,false,false] (h:=?_)
         refine pu 5 (some 30) #[true,false,false,true,true,true,false,false,false,false,false] (h:=?_)
         refine one_ (i:=1) (N:=some 26) #[true,true,false,true,true,true,false,false,false,false,false] rfl rfl (one_of HT_.out (by kernel_rfl)) (by decide) (fun K hK=>?_)
         refine Kd.R_lit_step (Kd.int .u32) _ 85 ?hg (N:=26) ?hd (xs:=([1000000000] : List Int)) (inner:=[.int .u32 1000000000]) (ok:=fun _=>True) (okp:=fun _=>True) ?hr ?hp (fun _ hk=>hk) trivial (Below.refl _ _) (Nat.le_refl _) (by simp) ?_; (case hd=>rfl); (case hg=>rfl); (case hr=>first | (go_simp; done) | (go_simp; rfl)); (case hp=>exact (Reps.one (show Kd.M (Kd.int .u32) _ _ _ 1000000000 [.int .u32 1000000000] from rfl) (Reps.none _ _)))
         intro v42z w43z ho44z hb hg_ hnew_
         clear hg_ hnew_
         (first | rw [<- Ny22z.out] at ho44z | (simp only [Int.reduceToNat] at ho44z; rw [<- Ny22z.out] at ho44z))
         have HO45z:=am (Kd.R_lower (Kd.R_new' ho44z (Kd.R_lt (Kd.R_below HO_4.out pl))) (below_size pB))
         replace HO_4:=reR HO_4 ho44z hb
         replace HB:=bS hb
         clear hb ho44z
         obtain ⟨Ao46z,co47z,eo48z⟩:=Kd.R_slice HO_4.out
         (first | subst eo48z | (injection eo48z with f1_ f2_ f3_; have f4_:=f1_.symm; have f5_:=f3_.symm; clear f1_ f2_ f3_; subst f4_; subst f5_))
         obtain ⟨Ao49z,co50z,eo51z⟩:=Kd.R_slice HO45z.out
         (first | subst eo51z | (injection eo51z with f1_ f2_ f3_; have f4_:=f1_.symm; have f5_:=f3_.symm; clear f1_ f2_ f3_; subst f4_; subst f5_))
         refine hK.out _ _ trivial (fun hHeld=>?_)
         clear hK K
         refine norm_ (a':=?_) ?_ ?_
         rotate_left
         ·show Act.put _ (some 26) _ = _
          exact pP
         refine one_ (i:=2) (N:=some 27) #[true,true,true,true,true,true,false,false,false,false,false] rfl rfl (one_of HT_.out (by kernel_rfl)) (by decide) (fun K hK=>?_)
         refine goes_ Tryz.func129 (by kernel_rfl) rfl #[.slice Ao46z x11z.length co47z,.slice Ao49z y16z.length co50z] (by rfl) rfl rfl pA ?_
         with_reducible refine (nat_num_mul.calls k1 _ _ x11z _ _ y16z t18z _ ?side1 ?side2 ?side3 ?side4 A23z.out).mono ?_
         (case side1=>exact Kd.C_below (Kd.R_reads' HO_4.out).2.2 pl)
         (case side2=>exact (Kd.R_reads' HO_4.out).2.1)
         (case side3=>exact Kd.C_below (Kd.R_reads' HO45z.out).2.2 pl)
         (case side4=>exact (Kd.R_reads' HO45z.out).2.1)
         rintro e w52z ⟨v53z,rfl,ho2z,hb⟩
         refine ⟨_,rfl,?_⟩
         have HO54z:=am (Kd.R_lower (Kd.R_new' (Kd.R_new' ho2z (Kd.R_lt (Kd.R_below HO_4.out pl))) (Kd.R_lt (Kd.R_below HO45z.out pl))) (below_size pB))
         replace HO_4:=reR HO_4 ho2z hb
         replace HO45z:=reR HO45z ho2z hb
         replace HB:=bS hb
         refine hK.out _ _ trivial (fun hHeld=>?_)
         clear hK K
         refine norm_ (a':=?_) ?_ ?_
         rotate_left
         ·show Act.put _ (some 27) _ = _
          exact pP
         refine one_ (i:=6) (N:=some 31) #[true,true,true,true,true,true,true,false,false,false,false] rfl rfl (one_of HT_.out (by kernel_rfl)) (by decide) (fun K hK=>?_)
         refine goes_ Tryz.func152 (by kernel_rfl) rfl #[.string (x10z.extract 0 ((ji24z) : Int).toNat)] (by rfl) rfl rfl (by (try simp only [List.map_toArray,List.map_cons,List.map_nil]); first | done | (simp only [hji25z]; rfl) | rfl | (simp only [List.length_drop,List.length_take]; rfl)) ?_
         with_reducible refine (nat_piece.calls k1 (x10z.extract 0 ((ji24z) : Int).toNat) t19z _ A33z.out).mono ?_
         rintro e w55z ⟨rfl,hb⟩
         refine ⟨_,rfl,?_⟩
         replace HO_4:=rbl HO_4 hb
         replace HO45z:=rbl HO45z hb
         replace HO54z:=rbl HO54z hb
         replace HB:=bS hb
         refine hK.out _ _ trivial (fun hHeld=>?_)
         clear hK K
         refine norm_ (a':=?_) ?_ ?_
         rotate_left
         ·show Act.put _ (some 31) _ = _
          exact pP
         refine one_ (i:=7) (N:=some 32) #[true,true,true,true,true,true,true,true,false,false,false] rfl rfl (one_of HT_.out (by kernel_rfl)) (by decide) (fun K hK=>?_)
         refine Kd.R_lit_step (Kd.int .u32) _ 85 ?hg (N:=32) ?hd (xs:=([t19z] : List Int)) (inner:=[.int .u32 t19z]) (ok:=fun _=>True) (okp:=fun _=>True) ?hr ?hp (fun _ hk=>hk) trivial (Below.refl _ _) (Nat.le_refl _) (by simp) ?_; (case hd=>rfl); (case hg=>rfl); (case hr=>first | (go_simp; done) | (go_simp; rfl)); (case hp=>exact (Reps.one (show Kd.M (Kd.int .u32) _ _ _ t19z [.int .u32 t19z] from rfl) (Reps.none _ _)))
         intro v56z w57z ho58z hb hg_ hnew_
         clear hg_ hnew_
         (first | rw [<- Ny36z.out] at ho58z | (simp only [Int.reduceToNat] at ho58z; rw [<- Ny36z.out] at ho58z))
         have HO59z:=am (Kd.R_lower (Kd.R_new' (Kd.R_new' (Kd.R_new' ho58z (Kd.R_lt (Kd.R_below HO_4.out pl))) (Kd.R_lt (Kd.R_below HO45z.out pl))) (Kd.R_lt (Kd.R_below HO54z.out pl))) (below_size pB))
         replace HO_4:=reR HO_4 ho58z hb
         replace HO45z:=reR HO45z ho58z hb
         replace HO54z:=reR HO54z ho58z hb
         replace HB:=bS hb
         clear hb ho58z
         obtain ⟨Ao60z,co61z,eo62z⟩:=Kd.R_slice HO59z.out
         (first | subst eo62z | (injection eo62z with f1_ f2_ f3_; have f4_:=f1_.symm; have f5_:=f3_.symm; clear f1_ f2_ f3_; subst f4_; subst f5_))
         refine hK.out _ _ trivial (fun hHeld=>?_)
         clear hK K
         refine norm_ (a':=?_) ?_ ?_
         rotate_left
         ·show Act.put _ (some 32) _ = _
          exact pP
         refine one_ (i:=8) (N:=some 33) #[true,true,true,true,true,true,true,true,true,false,false] rfl rfl (one_of HT_.out (by kernel_rfl)) (by decide) (fun K hK=>?_)
         refine goes_ Tryz.func132 (by kernel_rfl) rfl #[.slice Ao60z y34z.length co61z] (by rfl) rfl rfl pA ?_
         with_reducible refine (nat_num_trim.calls k1 (fun k_=>some k_ = (.slice Ao60z y34z.length co61z : Value).ownBlock) (.slice Ao60z y34z.length co61z) y34z t20z w _ ?side1 ?side2 A37z.out).mono ?_
         (case side1=>exact pB)
         (case side2=>exact Kd.R_tight rfl HO59z.out)
         rintro e w63z ⟨v64z,rfl,ho2z,hb,hkp⟩
         refine ⟨_,rfl,?_⟩
         have HO65z:=am (Kd.R_mono (ok':=fun k_=>some k_ ≠ (.slice Ao46z x11z.length co47z : Value).ownBlock/\some k_ ≠ (.slice Ao49z y16z.length co50z : Value).ownBlock/\some k_ ≠ (v53z : Value).ownBlock) ho2z (fun k_ hk_=>⟨Or.elim hk_ (fun hs_=>fun e_=>(((HO_4.out).1 k_ e_.symm).2) hs_) (fun hn_=>(Kd.fresh' (Kd.R_lt (Kd.R_below HO_4.out pl)) k_ hn_)),Or.elim hk_ (fun hs_=>fun e_=>(((HO45z.out).1 k_ e_.symm).2) hs_) (fun hn_=>(Kd.fresh' (Kd.R_lt (Kd.R_below HO45z.out pl)) k_ hn_)),Or.elim hk_ (fun hs_=>fun e_=>(((HO54z.out).1 k_ e_.symm).2) hs_) (fun hn_=>(Kd.fresh' (Kd.R_lt (Kd.R_below HO54z.out pl)) k_ hn_))⟩))
         replace HO_4:=am (Kd.R_mono (ok':=fun k_=>some k_ ≠ (.slice Ao49z y16z.length co50z : Value).ownBlock/\some k_ ≠ (v53z : Value).ownBlock/\some k_ ≠ (v64z : Value).ownBlock) (Kd.R_keptB (HO_4.out) hkp (fun k_ hk_ hs_=>(hk_.2) hs_)) (fun k_ hk_=>⟨hk_.1.1.1.2,hk_.1.1.2,fun e_=>Or.elim (ho2z.1 k_ e_.symm) (fun hs_=>hk_.2.1 hs_) (fun hn_=>Nat.not_le.2 hk_.2.2 hn_)⟩))
         replace HO45z:=am (Kd.R_mono (ok':=fun k_=>some k_ ≠ (.slice Ao46z x11z.length co47z : Value).ownBlock/\some k_ ≠ (v53z : Value).ownBlock/\some k_ ≠ (v64z : Value).ownBlock) (Kd.R_keptB (HO45z.out) hkp (fun k_ hk_ hs_=>(hk_.2) hs_)) (fun k_ hk_=>⟨hk_.1.1.1.2,hk_.1.1.2,fun e_=>Or.elim (ho2z.1 k_ e_.symm) (fun hs_=>hk_.2.1 hs_) (fun hn_=>Nat.not_le.2 hk_.2.2 hn_)⟩))
         replace HO54z:=am (Kd.R_mono (ok':=fun k_=>some k_ ≠ (.slice Ao46z x11z.length co47z : Value).ownBlock/\some k_ ≠ (.slice Ao49z y16z.length co50z : Value).ownBlock/\some k_ ≠ (v64z : Value).ownBlock) (Kd.R_keptB (HO54z.out) hkp (fun k_ hk_ hs_=>(hk_.2) hs_)) (fun k_ hk_=>⟨hk_.1.1.1.2,hk_.1.1.2,fun e_=>Or.elim (ho2z.1 k_ e_.symm) (fun hs_=>hk_.2.1 hs_) (fun hn_=>Nat.not_le.2 hk_.2.2 hn_)⟩))
         replace HB:=am hb
         clear HO59z
         obtain ⟨Ao66z,co67z,eo68z⟩:=Kd.R_slice HO54z.out
         (first | subst eo68z | (injection eo68z with f1_ f2_ f3_; have f4_:=f1_.symm; have f5_:=f3_.symm; clear f1_ f2_ f3_; subst f4_; subst f5_))
         obtain ⟨Ao69z,co70z,eo71z⟩:=Kd.R_slice HO65z.out
         (first | subst eo71z | (injection eo71z with f1_ f2_ f3_; have f4_:=f1_.symm; have f5_:=f3_.symm; clear f1_ f2_ f3_; subst f4_; subst f5_))
         refine hK.out _ _ trivial (fun hHeld=>?_)
         clear hK K
         refine norm_ (a':=?_) ?_ ?_
         rotate_left
         ·show Act.put _ (some 33) _ = _
          exact pP
         refine one_ (i:=9) (N:=some 34) #[true,true,true,true,true,true,true,true,true,true,false] rfl rfl (one_of HT_.out (by kernel_rfl)) (by decide) (fun K hK=>?_)
         refine goes_ Tryz.func131 (by kernel_rfl) rfl #[.slice Ao66z t18z.length co67z,.slice Ao69z t20z.length co70z] (by rfl) rfl rfl pA ?_
         with_reducible refine (nat_num_add.calls k1 _ _ t18z _ _ t20z t21z _ ?side1 ?side2 ?side3 ?side4 A38z.out).mono ?_
         (case side1=>exact Kd.C_below (Kd.R_reads' HO54z.out).2.2 pl)
         (case side2=>exact (Kd.R_reads' HO54z.out).2.1)
         (case side3=>exact Kd.C_below (Kd.R_reads' HO65z.out).2.2 pl)
         (case side4=>exact (Kd.R_reads' HO65z.out).2.1)
         rintro e w72z ⟨v73z,rfl,ho2z,hb⟩
         refine ⟨_,rfl,?_⟩
         have HO74z:=am (Kd.R_lower (Kd.R_new' (Kd.R_new' (Kd.R_new' (Kd.R_new' ho2z (Kd.R_lt (Kd.R_below HO_4.out pl))) (Kd.R_lt (Kd.R_below HO45z.out pl))) (Kd.R_lt (Kd.R_below HO54z.out pl))) (Kd.R_lt (Kd.R_below HO65z.out pl))) (below_size pB))
         replace HO_4:=reR HO_4 ho2z hb
         replace HO45z:=reR HO45z ho2z hb
         replace HO54z:=reR HO54z ho2z hb
         replace HO65z:=reR HO65z ho2z hb
         replace HB:=bS hb
         refine hK.out _ _ trivial (fun hHeld=>?_)
         clear hK K
         refine norm_ (a':=?_) ?_ ?_
         rotate_left
         ·show Act.put _ (some 34) _ = _
          exact pP
         refine pu 10 (some 4) #[true,true,true,true,true,true,true,true,true,true,true] (h:=?_)
         refine done_ (done_of HT_.out (by kernel_rfl)) ?_
         try go_wp2
         go_roundg k1
         case measure=>have := HK12z.out; omega
         case rel=>exact ⟨(x10z.extract ((ji24z) : Int).toNat x10z.size),(t21z),(by first | rfl | (simp; done) | (simp only [<- hji25z] <;> (first | rfl | simp)) | (simp [*]; done)),(by first | exact H' | (have H_:=H'.out; simp only [<- hji25z] at H_; exact ⟨H_⟩) | (refine ⟨?_⟩; have H_:=H'.out; simp only [<- hji25z] at H_ ⊢; exact H_)),⟨by have := HK12z.out; omega⟩,⟨by refine rp ?_; exact Kd.R_mono HO74z.out (fun _ hk=>trivial)⟩,⟨pB⟩⟩
        ·rw [if_neg c30z] at H
         exact absurd H (by simp)
       ·rw [if_neg c27z] at H
        exact absurd H (by simp)
  | go_ret2
    exact ⟨_,pE,pN,pB⟩) : P:=h
theorem nat_Parse.calls (k : Nat) (a0 : ByteArray) (r1 : List Int) (r2 : Int) (w : World) (h : nat_Parse.f k a0 = some (r1,r2)) :
  Calls Tryz.prog 116 #[.string a0] w fun e w' => ∃ v0_ : Value,e = .returned (.tuple #[v0_,.int .i64 r2])/\Kd.R (Kd.int .u32) 85 w' w.heap.size (fun _=>True) v0_ r1/\Below w.heap.size w w':=by
 have HB:=am (Below.refl w.heap.size w)
 have H : (if (a0.size : Int) = 0 then (some (([] : List Int),8)) else (if (a0.size : Int) > 2400 then (some (([] : List Int),5)) else ((conv_bytes146.f a0).bind fun t244=>((nat_Parse_any.f t244).bind fun t247=>(if t247 = true then (some (([] : List Int),32)) else (nat_Parse.l0 k a0 ([] : List Int))))))) = some (r1,r2):=h
 clear h
 by_cases c2 : (a0.size : Int) = 0
 ·rw [if_pos c2] at H
  have c2b0 : ((a0.size : Int) == 0) = true:=beq_iff_eq.mpr c2
  have c2b1 : ((a0.size : Int) != 0) = false:=bne_eq_false_iff_eq.mpr c2
  clear c2
  simp only [Option.some.injEq,Prod.mk.injEq] at H
  obtain ⟨rfl,rfl⟩:=H
  exact nat_Parse.leaf
 ·rw [if_neg c2] at H
  have c2b0 : ((a0.size : Int) == 0) = false:=beq_eq_false_iff_ne.mpr c2
  have c2b1 : ((a0.size : Int) != 0) = true:=bne_iff_ne.mpr c2
  by_cases c3 : (a0.size : Int) > 2400
  ·rw [if_pos c3] at H
   have c3b0 : decide (2400 < (a0.size : Int)) = true:=decide_eq_true c3
   have c3b1 : decide (2400 < a0.size) = true:=decide_eq_true (by omega)
   clear c3
   simp only [Option.some.injEq,Prod.mk.injEq] at H
   obtain ⟨rfl,rfl⟩:=H
   exact nat_Parse.leaf
  ·rw [if_neg c3] at H
   have c3b0 : decide (2400 < (a0.size : Int)) = false:=decide_eq_false c3
   have c3b1 : decide (2400 < a0.size) = false:=decide_eq_false (by omega)
   clear c3
   obtain ⟨t244,A4,H⟩:=ob H
   obtain ⟨t247,A5,H⟩:=ob H
   by_cases c6 : t247 = true
   ·subst c6
    rw [if_pos rfl] at H
    simp only [Option.some.injEq,Prod.mk.injEq] at H
    obtain ⟨rfl,rfl⟩:=H
    exact nat_Parse.leaf
   ·replace c6:=Bool.eq_false_iff.mpr c6
    subst c6
    rw [if_neg (show ¬ (false = true) by decide)] at H
    have H':=am H
    clear H
    exact nat_Parse.leaf
end YtjbjkmccfocikaaGreatDoor.B
end
section
namespace YtjbjkmccfocikaaGreatDoor.B
open Go.RowKit Go.Shelf YtjbjkmccfocikaaGreatDoorW.PrintWords
def strings_TrimRight.f (s t : ByteArray) : Option ByteArray:=if t = ⟨#[48]⟩/\s.size<=9223372036854775807 then some ⟨(Lib.trimRightB s.data.toList 48).toArray⟩ else none
theorem strings_TrimRight.calls (a0 a1 : ByteArray) (r : ByteArray) (w : World) (h : strings_TrimRight.f a0 a1 = some r) :
  Calls Tryz.prog 167 #[.string a0,.string a1] w fun e w'=>e = .returned (.string r)/\Below w.heap.size w w':=by
 unfold strings_TrimRight.f at h
 split at h
 ·rename_i hh
  obtain ⟨rfl,hs⟩:=hh
  obtain rfl:=Option.some.inj h
  exact (Tryz.strings_TrimRight_one a0 48 (by decide) w hs).mono fun e w' ⟨he,hw⟩=>⟨he,by subst hw; exact Below.refl _ _⟩
 ·cases h
end YtjbjkmccfocikaaGreatDoor.B
end
section
namespace YtjbjkmccfocikaaGreatDoor.B
open Go.RowKit YtjbjkmccfocikaaGreatDoorW.PrintWords YtjbjkmccfocikaaGreatDoorW.PrintLast YtjbjkmccfocikaaGreatDoorW.PrintMore
attribute [local go_sem] max2_int min2_int max_two min_two max_three min_three max_four min_four
def dec_number_strip.f (k : Nat) (a0_0 : Bool) (l0_1 : List Int) (a0_2 : Int) : Option (Bool × List Int × Int):=(nat_Print.f k l0_1).bind fun bt266=>((dec_must2.f bt266.1 bt266.2).bind fun t268=>((strings_TrimRight.f t268 (⟨#[48]⟩ : ByteArray)).bind fun t269=>(if (t269.size : Int) = (t268.size : Int) then (some (a0_0,l0_1,a0_2)) else ((nat_Parse.f k t269).bind fun bt270=>((dec_must.f bt270.1 bt270.2).bind fun t274=>(some (a0_0,t274,wrap64 (a0_2 + (wrap64 ((t268.size : Int) - (t269.size : Int)))))))))))
theorem dec_number_strip.leaf {P : Prop} (h : P:=by
 obtain ⟨Ao0z,co1z,eo2z⟩:=Kd.R_slice HO0_1.out
 subst eo2z
 go_enter Tryz.func140,Tryz.ntmps140
 go_wp2_with (first | ((with_reducible refine gd 1 ?_); refine bx 1 #[.bool a0_0,.slice Ao0z l0_1.length co1z,.int .i64 a0_2] 106 (h:=?_); intro gb3z hg w4z hbox hb; have BK5z:=am hbox; have GW6z:=am ((by rw [hg]; exact (by first | exact HK.out.1 | exact (show Kept w _ (fun k_=>P0_1_ k_) from by repeat (first | (with_reducible first | exact HK.out | apply Kept.alloc | apply Kept.drewN | apply Kept.drew) | exact HK.out)).1) : w.heap.size<=gb3z)); have GE7z:=am ((gw hg pB : w0.heap.size<=gb3z)); replace HO0_1:=rbl HO0_1 hb; replace HK:=am (Kept.below (S:=(fun k_=>P0_1_ k_)) (by repeat (first | (with_reducible first | exact HK.out | apply Kept.alloc | apply Kept.drewN | apply Kept.drew) | exact HK.out)) hb); replace HB:=bS hb; clear hb hbox hg) | ((with_reducible refine gd 2 ?_); refine bx 2 #[.bool false,.slice none 0 0,.int .i64 0] 106 (h:=?_); intro gb8z hg w9z hbox hb; have BK10z:=am hbox; have GW11z:=am ((by rw [hg]; exact (by first | exact HK.out.1 | exact (show Kept w _ (fun k_=>P0_1_ k_) from by repeat (first | (with_reducible first | exact HK.out | apply Kept.alloc | apply Kept.drewN | apply Kept.drew | refine Kept.setCell ?_ (.inr GW6z.out) _) | exact HK.out)).1) : w.heap.size<=gb8z)); have GE12z:=am ((gw hg pB : w0.heap.size<=gb8z)); have NB13z:=nL hg BK5z; have NB14z:=nG hg BK5z; replace HO0_1:=rbl HO0_1 hb; replace BK5z:=bb BK5z hb; replace HK:=am (Kept.below (S:=(fun k_=>P0_1_ k_)) (by repeat (first | (with_reducible first | exact HK.out | apply Kept.alloc | apply Kept.drewN | apply Kept.drew | refine Kept.setCell ?_ (.inr GW6z.out) _) | exact HK.out)) hb); replace HB:=bS hb; clear hb hbox hg; have hnb15z:=NB13z.out; have hnc16z:=NB14z.out; obtain ⟨hcz17z,hcz18z,hcz19z,hfz20z,hfz21z,hfz22z⟩:=cEc BK5z.out) | (refine gL (some 8) Tryz.func112 #[.slice Ao0z l0_1.length co1z] (h:=?_); (with_reducible refine (nat_Print.calls k (fun k_=>some k_ = (.slice Ao0z l0_1.length co1z : Value).ownBlock) _ _ l0_1 t266 t267 _ ?side1 A2.out).mono ?_); (case side1=>exact Kd.R_V (Kd.R_tight rfl (Kd.R_types (Kd.R_types (HO0_1.out) BK5z.out (by decide)) BK10z.out (by decide)))); rintro e w23z ⟨rfl,hb⟩; refine ⟨_,rfl,?_⟩; replace HO0_1:=rbl HO0_1 hb; replace BK5z:=bb BK5z hb; replace BK10z:=bb BK10z hb; replace HK:=am (Kept.below (S:=(fun k_=>P0_1_ k_)) (by repeat (first | (with_reducible first | exact HK.out | apply Kept.alloc | apply Kept.drewN | apply Kept.drew | refine Kept.setCell ?_ (.inr GW6z.out) _ | refine Kept.setCell ?_ (.inr GW11z.out) _) | exact HK.out)) hb); replace HB:=bS hb) | (refine gL (some 11) Tryz.func111 #[.string t266,.int .i64 t267] (h:=?_); (with_reducible refine (dec_must2.calls t266 t267 t268 _ A3.out).mono ?_); rintro e w' ⟨rfl,⟨nd,rfl⟩⟩; refine ⟨_,rfl,?_⟩; (try (rw [drewN_self w23z]; generalize hq_ : World.drewN w23z _ = w23z; replace HO0_1 : Aside0 (Kd.R (Kd.int .u32) 85 w23z w0.heap.size (fun k_=>(P0_1_ k_\/w.heap.size<=k_)) (.slice Ao0z l0_1.length co1z) l0_1):=⟨by rw [<- hq_]; exact (Kd.R_below HO0_1.out pl)⟩; replace BK5z : Aside0 (w23z.heap[gb3z]? = some (.cells #[.bool a0_0,.slice Ao0z l0_1.length co1z,.int .i64 a0_2] 106 (0,0))):=⟨by rw [<- hq_]; exact (blk_below BK5z.out pl)⟩; replace BK10z : Aside0 (w23z.heap[gb8z]? = some (.cells #[.bool false,.slice none 0 0,.int .i64 0] 106 (0,0))):=⟨by rw [<- hq_]; exact (blk_below BK10z.out pl)⟩; replace HK : Aside0 (Kept w w23z (fun k_=>P0_1_ k_)):=⟨by rw [<- hq_]; exact (by repeat (first | (with_reducible first | exact HK.out | apply Kept.alloc | apply Kept.drewN | apply Kept.drew | refine Kept.setCell ?_ (.inr GW6z.out) _ | refine Kept.setCell ?_ (.inr GW11z.out) _) | exact HK.out))⟩; replace HB : Aside0 (Below w0.heap.size w0 w23z):=⟨by rw [<- hq_]; exact pB⟩; clear hq_))) | ((have q_:=A16; clear q_); refine gL (some 13) Tryz.func167 #[.string t268,.string (⟨#[48]⟩ : ByteArray)] (h:=?_); (with_reducible refine (strings_TrimRight.calls t268 (⟨#[48]⟩ : ByteArray) t269 _ A4.out).mono ?_); rintro e w24z ⟨rfl,hb⟩; refine ⟨_,rfl,?_⟩; replace HO0_1:=rbl HO0_1 hb; replace BK5z:=bb BK5z hb; replace BK10z:=bb BK10z hb; replace HK:=am (Kept.below (S:=(fun k_=>P0_1_ k_)) (by repeat (first | (with_reducible first | exact HK.out | apply Kept.alloc | apply Kept.drewN | apply Kept.drew | refine Kept.setCell ?_ (.inr GW6z.out) _ | refine Kept.setCell ?_ (.inr GW11z.out) _) | exact HK.out)) hb); replace HB:=bS hb) | (refine gL (some 21) Tryz.func116 #[.string t269] (h:=?_); (with_reducible refine (nat_Parse.calls k t269 t270 t271 _ A15.out).mono ?_); rintro e w25z ⟨v26z,rfl,ho27z,hb⟩; refine ⟨_,rfl,?_⟩; have HO28z:=am (Kd.R_lower (Kd.R_new' (Kd.R_newM (M:=fun k_=>(P0_1_ k_\/w.heap.size<=k_)) ho27z (by first | exact HK.out.1 | exact (show Kept w _ (fun k_=>P0_1_ k_) from by repeat (first | (with_reducible first | exact HK.out | apply Kept.alloc | apply Kept.drewN | apply Kept.drew | refine Kept.setCell ?_ (.inr GW6z.out) _ | refine Kept.setCell ?_ (.inr GW11z.out) _) | exact HK.out)).1) (fun k_ h_=>.inr h_)) (Kd.R_lt (Kd.R_below HO0_1.out pl))) (below_size pB)); replace HO0_1:=reR HO0_1 ho27z hb; replace BK5z:=bb BK5z hb; replace BK10z:=bb BK10z hb; replace HK:=am (Kept.below (S:=(fun k_=>P0_1_ k_)) (by repeat (first | (with_reducible first | exact HK.out | apply Kept.alloc | apply Kept.drewN | apply Kept.drew | refine Kept.setCell ?_ (.inr GW6z.out) _ | refine Kept.setCell ?_ (.inr GW11z.out) _) | exact HK.out)) hb); replace HB:=bS hb; obtain ⟨Ao29z,co30z,eo31z⟩:=Kd.R_slice HO28z.out; subst eo31z) | (refine gL (some 24) Tryz.func105 #[.slice Ao29z t270.length co30z,.int .i64 t271] (h:=?_); (with_reducible refine (dec_must.calls (fun k_=>some k_ = (.slice Ao29z t270.length co30z : Value).ownBlock) (.slice Ao29z t270.length co30z) t270 t271 t274 w0 _ ?side1 ?side2 A16.out).mono ?_); (case side1=>exact pB); (case side2=>exact Kd.R_tight rfl HO28z.out); rintro e w32z ⟨v33z,rfl,ho27z,hb,hkp⟩; refine ⟨_,rfl,?_⟩; have HO34z:=am (Kd.R_mono (ok':=fun k_=>(P0_1_ k_\/w.heap.size<=k_)/\some k_ ≠ (.slice Ao0z l0_1.length co1z : Value).ownBlock) ho27z (fun k_ hk_=>⟨Or.elim hk_ (fun hs_=>(HO28z.out.1 k_ (hs_).symm).1.1) (fun hn_=>(.inr (Nat.le_trans (by first | exact HK.out.1 | exact (show Kept w _ (fun k_=>P0_1_ k_) from by repeat (first | (with_reducible first | exact HK.out | apply Kept.alloc | apply Kept.drewN | apply Kept.drew | refine Kept.setCell ?_ (.inr GW6z.out) _ | refine Kept.setCell ?_ (.inr GW11z.out) _) | exact HK.out)).1) hn_))),Or.elim hk_ (fun hs_=>fun e_=>(((HO0_1.out).1 k_ e_.symm).2) hs_) (fun hn_=>(Kd.fresh' (Kd.R_lt (Kd.R_below HO0_1.out pl)) k_ hn_))⟩)); replace HO0_1:=am (Kd.R_mono (ok':=fun k_=>(P0_1_ k_\/w.heap.size<=k_)/\some k_ ≠ (v33z : Value).ownBlock) (Kd.R_keptB (HO0_1.out) hkp (fun k_ hk_ hs_=>(hk_.2) hs_)) (fun k_ hk_=>⟨hk_.1.1,fun e_=>Or.elim (ho27z.1 k_ e_.symm) (fun hs_=>hk_.2.1 hs_) (fun hn_=>Nat.not_le.2 hk_.2.2 hn_)⟩)); replace BK5z:=am (blk_kept (blk_below BK5z.out pl) hkp (fun e_=>Kd.R_ne HO28z.out BK5z.out (by decide) e_)); replace BK10z:=am (blk_kept (blk_below BK10z.out pl) hkp (fun e_=>Kd.R_ne HO28z.out BK10z.out (by decide) e_)); replace HK:=am (Kept.then_ (S:=(fun k_=>P0_1_ k_)) (by repeat (first | (with_reducible first | exact HK.out | apply Kept.alloc | apply Kept.drewN | apply Kept.drew | refine Kept.setCell ?_ (.inr GW6z.out) _ | refine Kept.setCell ?_ (.inr GW11z.out) _) | exact HK.out)) hkp (fun k_ hs_=>(fun e_=>(HO28z.out.1 k_ e_.symm).1.1) hs_)); replace HB:=am hb; clear HO28z; obtain ⟨Ao35z,co36z,eo37z⟩:=Kd.R_slice HO34z.out; subst eo37z; obtain ⟨hcz38z,hcz39z,hcz40z,hfz41z,hfz42z,hfz43z⟩:=cEc BK5z.out; obtain ⟨hcz44z,hcz45z,hcz46z,hfz47z,hfz48z,hfz49z⟩:=cEc BK10z.out) | ((have q_ : (t269.size == t268.size) = true:=c5b2; clear q_); refine gL (some 13) Tryz.func167 #[.string t268,.string (⟨#[48]⟩ : ByteArray)] (h:=?_); (with_reducible refine (strings_TrimRight.calls t268 (⟨#[48]⟩ : ByteArray) t269 _ A4.out).mono ?_); rintro e w24z ⟨rfl,hb⟩; refine ⟨_,rfl,?_⟩; replace HO0_1:=rbl HO0_1 hb; replace BK5z:=bb BK5z hb; replace BK10z:=bb BK10z hb; replace HK:=am (Kept.below (S:=(fun k_=>P0_1_ k_)) (by repeat (first | (with_reducible first | exact HK.out | apply Kept.alloc | apply Kept.drewN | apply Kept.drew | refine Kept.setCell ?_ (.inr GW6z.out) _ | refine Kept.setCell ?_ (.inr GW11z.out) _) | exact HK.out)) hb); replace HB:=bS hb; obtain ⟨hcz25z,hcz26z,hcz27z,hfz28z,hfz29z,hfz30z⟩:=cEc BK5z.out; obtain ⟨hcz31z,hcz32z,hcz33z,hfz34z,hfz35z,hfz36z⟩:=cEc BK10z.out))
 first
  | have q_:=A16
    refine bodyPost_ret (results_cell_row rfl _ _ gb8z 106 #[.bool a0_0,.slice Ao35z t274.length co36z,.int .i64 (wrap64 (a0_2 + (wrap64 ((t268.size : Int) - (t269.size : Int)))))] (0,0) _ rfl (by refine bp ?_; refine blk_put (cs:=#[.bool a0_0,.slice Ao35z t274.length co36z,.int .i64 0]) ?_ 2 _ rfl; refine bp ?_; refine blk_put (cs:=#[.bool a0_0,.slice none 0 0,.int .i64 0]) ?_ 1 _ rfl; refine bp ?_; refine blk_put (cs:=#[.bool false,.slice none 0 0,.int .i64 0]) ?_ 0 _ rfl; refine bp ?_; refine blk_far ?_ NB14z.out _; refine bp ?_; refine blk_far ?_ NB14z.out _; exact bp BK10z.out) Tryz.underlying106 rfl (by kernel_rfl)) rfl ?_
    exact ⟨_,pE,by refine rp ?_; exact Kd.R_mono (Kd.R_far (p:=⟨gb8z,2,none⟩) (Kd.R_far (p:=⟨gb8z,1,none⟩) (Kd.R_far (p:=⟨gb8z,0,none⟩) (Kd.R_far (p:=⟨gb3z,2,none⟩) (Kd.R_far (p:=⟨gb3z,1,none⟩) (Kd.R_types (Kd.R_types HO34z.out BK5z.out (by decide)) BK10z.out (by decide)) (fun _ hk=>hk.1.2) (.slice Ao35z t274.length co36z)) (fun _ hk=>hk.1.2) (.int .i64 (wrap64 (a0_2 + (wrap64 ((t268.size : Int) - (t269.size : Int))))))) (fun _ hk=>hk.2) (.bool a0_0)) (fun _ hk=>hk.2) (.slice Ao35z t274.length co36z)) (fun _ hk=>hk.2) (.int .i64 (wrap64 (a0_2 + (wrap64 ((t268.size : Int) - (t269.size : Int))))))) (fun _ hk=>hk.1.1.1),pB,by repeat (first | (with_reducible first | exact HK.out | apply Kept.alloc | apply Kept.drewN | apply Kept.drew | refine Kept.setCell ?_ (.inr GW6z.out) _ | refine Kept.setCell ?_ (.inr GW11z.out) _) | exact HK.out)⟩
  | refine bodyPost_ret (results_cell_row rfl _ _ gb8z 106 #[.bool a0_0,.slice Ao0z l0_1.length co1z,.int .i64 a0_2] (0,0) _ rfl (by exact p3 BK10z) Tryz.underlying106 rfl (by kernel_rfl)) rfl ?_
    exact ⟨_,pE,by refine rp ?_; exact Kd.R_mono (Kd.R_far (p:=⟨gb8z,2,none⟩) (Kd.R_far (p:=⟨gb8z,1,none⟩) (Kd.R_far (p:=⟨gb8z,0,none⟩) (Kd.R_types HO0_1.out BK10z.out (by decide)) (fun _ hk=>hk.2) (.bool a0_0)) (fun _ hk=>hk.2) (.slice Ao0z l0_1.length co1z)) (fun _ hk=>hk.2) (.int .i64 a0_2)) (fun _ hk=>hk.1),pB,by repeat (first | (with_reducible first | exact HK.out | apply Kept.alloc | apply Kept.drewN | apply Kept.drew | refine Kept.setCell ?_ (.inr GW6z.out) _ | refine Kept.setCell ?_ (.inr GW11z.out) _) | exact HK.out)⟩) : P:=h
theorem dec_number_strip.calls (k : Nat) (a0_0 : Bool) (P0_1_ : Nat->Prop) (u9000_ : Value) (l0_1 : List Int) (a0_2 : Int) (r1 : Bool) (r2 : List Int) (r3 : Int) (w0 w : World) (hB : Below w0.heap.size w0 w) (ho0_1 : Kd.R (Kd.int .u32) 85 w w0.heap.size P0_1_ u9000_ l0_1) (h : dec_number_strip.f k a0_0 l0_1 a0_2 = some (r1,r2,r3)) :
  Calls Tryz.prog 140 #[.agg #[.bool a0_0,u9000_,.int .i64 a0_2]] w fun e w' => ∃ v1_ : Value,e = .returned (.agg #[.bool r1,v1_,.int .i64 r3])/\Kd.R (Kd.int .u32) 85 w' w0.heap.size (fun k_=>(P0_1_ k_\/w.heap.size<=k_)) v1_ r2/\Below w0.heap.size w0 w'/\Kept w w' (fun k_=>P0_1_ k_):=by
 have hu106:=Tryz.underlying106
 have HO0_1:=am (show Kd.R (Kd.int .u32) 85 w w0.heap.size (fun k_=>(P0_1_ k_\/w.heap.size<=k_)) u9000_ l0_1 from Kd.R_mono ho0_1 (fun k_ hk=>(.inl hk)))
 have HK:=am (Kept.refl w (fun k_=>P0_1_ k_))
 have HW0:=am hB.size
 have HB:=am hB
 clear hB
 have H : ((nat_Print.f k l0_1).bind fun bt266=>((dec_must2.f bt266.1 bt266.2).bind fun t268=>((strings_TrimRight.f t268 (⟨#[48]⟩ : ByteArray)).bind fun t269=>(if (t269.size : Int) = (t268.size : Int) then (some (a0_0,l0_1,a0_2)) else ((nat_Parse.f k t269).bind fun bt270=>((dec_must.f bt270.1 bt270.2).bind fun t274=>(some (a0_0,t274,wrap64 (a0_2 + (wrap64 ((t268.size : Int) - (t269.size : Int)))))))))))) = some (r1,r2,r3):=h
 clear h
 obtain ⟨⟨t266,t267⟩,A2,H⟩:=ob H; (try dsimp only at H)
 obtain ⟨t268,A3,H⟩:=ob H
 obtain ⟨t269,A4,H⟩:=ob H
 by_cases c5 : (t269.size : Int) = (t268.size : Int)
 ·rw [if_pos c5] at H
  have c5b0 : ((t269.size : Int) == (t268.size : Int)) = true:=beq_iff_eq.mpr c5
  have c5b1 : ((t269.size : Int) != (t268.size : Int)) = false:=bne_eq_false_iff_eq.mpr c5
  have c5b2 : (t269.size == t268.size) = true:=by first | simpa using c5 | (simp at c5 ⊢; omega)
  clear c5
  simp only [Option.some.injEq,Prod.mk.injEq] at H
  obtain ⟨rfl,rfl,rfl⟩:=H
  exact dec_number_strip.leaf
 ·rw [if_neg c5] at H
  have c5b0 : ((t269.size : Int) == (t268.size : Int)) = false:=beq_eq_false_iff_ne.mpr c5
  have c5b1 : ((t269.size : Int) != (t268.size : Int)) = true:=bne_iff_ne.mpr c5
  have c5b2 : (t269.size == t268.size) = false:=by first | simpa using c5 | (simp at c5 ⊢; omega)
  obtain ⟨⟨t270,t271⟩,A15,H⟩:=ob H; (try dsimp only at H)
  obtain ⟨t274,A16,H⟩:=ob H
  simp only [Option.some.injEq,Prod.mk.injEq] at H
  obtain ⟨rfl,rfl,rfl⟩:=H
  exact dec_number_strip.leaf
def dec_settle.f (k : Nat) (a0_0 : Bool) (l0_1 : List Int) (a0_2 : Int) : Option (Bool × List Int × Int × Int):=(dec_number_zero.f a0_0 l0_1 a0_2).bind fun t279=>(if t279 = true then (some (false,([] : List Int),0,0)) else ((dec_number_strip.f k a0_0 l0_1 a0_2).bind fun bt280=>((dec_digits.f k bt280.2.1).bind fun t285=>(if t285 > 300 then (some (false,([] : List Int),0,51)) else (if bt280.2.2 < (-1000) then (some (false,([] : List Int),0,52)) else (if bt280.2.2 > 1000 then (some (false,([] : List Int),0,52)) else (some (bt280.1,bt280.2.1,bt280.2.2,0))))))))
theorem dec_settle.leaf {P : Prop} (h : P:=by
 obtain ⟨Ao0z,co1z,eo2z⟩:=Kd.R_slice HO0_1.out
 subst eo2z
 go_enter Tryz.func100,Tryz.ntmps100
 go_wp2_with (first | ((with_reducible refine gd 1 ?_); refine bx 1 #[.bool a0_0,.slice Ao0z l0_1.length co1z,.int .i64 a0_2] 106 (h:=?_); intro gb3z hg w4z hbox hb; have BK5z:=am hbox; have GW6z:=am ((by rw [hg]; exact (by first | exact HK.out.1 | exact (show Kept w _ (fun k_=>P0_1_ k_) from by repeat (first | (with_reducible first | exact HK.out | apply Kept.alloc | apply Kept.drewN | apply Kept.drew) | exact HK.out)).1) : w.heap.size<=gb3z)); have GE7z:=am ((gw hg pB : w0.heap.size<=gb3z)); replace HO0_1:=rbl HO0_1 hb; replace HK:=am (Kept.below (S:=(fun k_=>P0_1_ k_)) (by repeat (first | (with_reducible first | exact HK.out | apply Kept.alloc | apply Kept.drewN | apply Kept.drew) | exact HK.out)) hb); replace HB:=bS hb; clear hb hbox hg) | ((with_reducible refine gd 2 ?_); refine bx 2 #[.bool false,.slice none 0 0,.int .i64 0] 24 (h:=?_); intro gb8z hg w9z hbox hb; have BK10z:=am hbox; have GW11z:=am ((by rw [hg]; exact (by first | exact HK.out.1 | exact (show Kept w _ (fun k_=>P0_1_ k_) from by repeat (first | (with_reducible first | exact HK.out | apply Kept.alloc | apply Kept.drewN | apply Kept.drew | refine Kept.setCell ?_ (.inr GW6z.out) _) | exact HK.out)).1) : w.heap.size<=gb8z)); have GE12z:=am ((gw hg pB : w0.heap.size<=gb8z)); have NB13z:=nL hg BK5z; have NB14z:=nG hg BK5z; replace HO0_1:=rbl HO0_1 hb; replace BK5z:=bb BK5z hb; replace HK:=am (Kept.below (S:=(fun k_=>P0_1_ k_)) (by repeat (first | (with_reducible first | exact HK.out | apply Kept.alloc | apply Kept.drewN | apply Kept.drew | refine Kept.setCell ?_ (.inr GW6z.out) _) | exact HK.out)) hb); replace HB:=bS hb; clear hb hbox hg; have hnb15z:=NB13z.out; have hnc16z:=NB14z.out; obtain ⟨hcz17z,hcz18z,hcz19z,hfz20z,hfz21z,hfz22z⟩:=cEc BK5z.out) | (refine gL (some 5) Tryz.func104 #[.agg #[.bool a0_0,.slice Ao0z l0_1.length co1z,.int .i64 a0_2]] (h:=?_); (with_reducible refine (dec_number_zero.calls a0_0 _ _ l0_1 a0_2 false _ ?side1 ?side2 A2.out).mono ?_); (case side1=>exact Kd.C_below (Kd.R_reads' HO0_1.out).2.2 pl); (case side2=>exact (Kd.R_reads' HO0_1.out).2.1); rintro e w23z ⟨rfl,hb⟩; refine ⟨_,rfl,?_⟩; replace HO0_1:=rbl HO0_1 hb; replace BK5z:=bb BK5z hb; replace BK10z:=bb BK10z hb; replace HK:=am (Kept.below (S:=(fun k_=>P0_1_ k_)) (by repeat (first | (with_reducible first | exact HK.out | apply Kept.alloc | apply Kept.drewN | apply Kept.drew | refine Kept.setCell ?_ (.inr GW6z.out) _ | refine Kept.setCell ?_ (.inr GW11z.out) _) | exact HK.out)) hb); replace HB:=bS hb; obtain ⟨hcz24z,hcz25z,hcz26z,hfz27z,hfz28z,hfz29z⟩:=cEc BK5z.out) | (refine gL (some 8) Tryz.func140 #[.agg #[.bool a0_0,.slice Ao0z l0_1.length co1z,.int .i64 a0_2]] (h:=?_); (with_reducible refine (dec_number_strip.calls k a0_0 (fun k_=>some k_ = (.slice Ao0z l0_1.length co1z : Value).ownBlock) (.slice Ao0z l0_1.length co1z) l0_1 a0_2 t280 t281 t284 w0 _ ?side1 ?side2 A11.out).mono ?_); (case side1=>exact pB); (case side2=>exact Kd.R_tight rfl HO0_1.out); rintro e w30z ⟨v31z,rfl,ho32z,hb,hkp⟩; refine ⟨_,rfl,?_⟩; have HO33z:=am (Kd.R_mono (ok':=fun k_=>(P0_1_ k_\/w.heap.size<=k_)) ho32z (fun k_ hk_=>Or.elim hk_ (fun hs_=>(HO0_1.out.1 k_ (hs_).symm)) (fun hn_=>(.inr (Nat.le_trans (by first | exact HK.out.1 | exact (show Kept w _ (fun k_=>P0_1_ k_) from by repeat (first | (with_reducible first | exact HK.out | apply Kept.alloc | apply Kept.drewN | apply Kept.drew | refine Kept.setCell ?_ (.inr GW6z.out) _ | refine Kept.setCell ?_ (.inr GW11z.out) _) | exact HK.out)).1) hn_))))); replace BK5z:=am (blk_kept (blk_below BK5z.out pl) hkp (fun e_=>Kd.R_ne HO0_1.out BK5z.out (by decide) e_)); replace BK10z:=am (blk_kept (blk_below BK10z.out pl) hkp (fun e_=>Kd.R_ne HO0_1.out BK10z.out (by decide) e_)); replace HK:=am (Kept.then_ (S:=(fun k_=>P0_1_ k_)) (by repeat (first | (with_reducible first | exact HK.out | apply Kept.alloc | apply Kept.drewN | apply Kept.drew | refine Kept.setCell ?_ (.inr GW6z.out) _ | refine Kept.setCell ?_ (.inr GW11z.out) _) | exact HK.out)) hkp (fun k_ hs_=>(fun e_=>(HO0_1.out.1 k_ e_.symm)) hs_)); replace HB:=am hb; clear HO0_1; obtain ⟨hcz34z,hcz35z,hcz36z,hfz37z,hfz38z,hfz39z⟩:=cEc BK5z.out; obtain ⟨Ao40z,co41z,eo42z⟩:=Kd.R_slice HO33z.out; subst eo42z) | ((have q_ : decide (300 < t285) = true:=c13b0; clear q_); refine gL (some 13) Tryz.func110 #[.slice Ao40z t281.length co41z] (h:=?_); (with_reducible refine (dec_digits.calls k _ _ t281 t285 _ ?side1 ?side2 A12.out).mono ?_); (case side1=>refine (Kd.R_reads' (e:=85) (base:=w0.heap.size) (ok:=fun k_=>(P0_1_ k_\/w.heap.size<=k_)) (n:=t281.length) (c:=co41z) ?_).2.2; exact (Kd.R_below (z3 HO33z.out BK5z.out (by decide) (.bool t280) (.slice Ao40z t281.length co41z) (.int .i64 t284)) pl)); (case side2=>exact (Kd.R_reads' HO33z.out).2.1); rintro e w43z ⟨rfl,hb⟩; refine ⟨_,rfl,?_⟩; replace HO33z:=am (Kd.R_below (Kd.R_below (z3 HO33z.out BK5z.out (by decide) (.bool t280) (.slice Ao40z t281.length co41z) (.int .i64 t284)) pl) hb); replace BK5z:=am (blk_below (g:=gb3z) (o:=.cells #[.bool t280,.slice Ao40z t281.length co41z,.int .i64 t284] 106 (0,0)) (by exact p3 BK5z) hb); replace BK10z:=bfb NB14z BK10z hb; replace HK:=am (Kept.below (S:=(fun k_=>P0_1_ k_)) (by repeat (first | (with_reducible first | exact HK.out | apply Kept.alloc | apply Kept.drewN | apply Kept.drew | refine Kept.setCell ?_ (.inr GW6z.out) _ | refine Kept.setCell ?_ (.inr GW11z.out) _) | exact HK.out)) hb); replace HB:=bS hb; obtain ⟨hcz44z,hcz45z,hcz46z,hfz47z,hfz48z,hfz49z⟩:=cEc BK10z.out) | ((have q_ : decide (300 < t285) = false:=c13b0; clear q_); refine gL (some 13) Tryz.func110 #[.slice Ao40z t281.length co41z] (h:=?_); (with_reducible refine (dec_digits.calls k _ _ t281 t285 _ ?side1 ?side2 A12.out).mono ?_); (case side1=>refine (Kd.R_reads' (e:=85) (base:=w0.heap.size) (ok:=fun k_=>(P0_1_ k_\/w.heap.size<=k_)) (n:=t281.length) (c:=co41z) ?_).2.2; exact (Kd.R_below (z3 HO33z.out BK5z.out (by decide) (.bool t280) (.slice Ao40z t281.length co41z) (.int .i64 t284)) pl)); (case side2=>exact (Kd.R_reads' HO33z.out).2.1); rintro e w43z ⟨rfl,hb⟩; refine ⟨_,rfl,?_⟩; replace HO33z:=am (Kd.R_below (Kd.R_below (z3 HO33z.out BK5z.out (by decide) (.bool t280) (.slice Ao40z t281.length co41z) (.int .i64 t284)) pl) hb); replace BK5z:=am (blk_below (g:=gb3z) (o:=.cells #[.bool t280,.slice Ao40z t281.length co41z,.int .i64 t284] 106 (0,0)) (by exact p3 BK5z) hb); replace BK10z:=bfb NB14z BK10z hb; replace HK:=am (Kept.below (S:=(fun k_=>P0_1_ k_)) (by repeat (first | (with_reducible first | exact HK.out | apply Kept.alloc | apply Kept.drewN | apply Kept.drew | refine Kept.setCell ?_ (.inr GW6z.out) _ | refine Kept.setCell ?_ (.inr GW11z.out) _) | exact HK.out)) hb); replace HB:=bS hb; obtain ⟨hcz44z,hcz45z,hcz46z,hfz47z,hfz48z,hfz49z⟩:=cEc BK5z.out; obtain ⟨hcz50z,hcz51z,hcz52z,hfz53z,hfz54z,hfz55z⟩:=cEc BK10z.out) | (refine gL (some 5) Tryz.func104 #[.agg #[.bool a0_0,.slice Ao0z l0_1.length co1z,.int .i64 a0_2]] (h:=?_); (with_reducible refine (dec_number_zero.calls a0_0 _ _ l0_1 a0_2 true _ ?side1 ?side2 A2.out).mono ?_); (case side1=>exact Kd.C_below (Kd.R_reads' HO0_1.out).2.2 pl); (case side2=>exact (Kd.R_reads' HO0_1.out).2.1); rintro e w23z ⟨rfl,hb⟩; refine ⟨_,rfl,?_⟩; replace HO0_1:=rbl HO0_1 hb; replace BK5z:=bb BK5z hb; replace BK10z:=bb BK10z hb; replace HK:=am (Kept.below (S:=(fun k_=>P0_1_ k_)) (by repeat (first | (with_reducible first | exact HK.out | apply Kept.alloc | apply Kept.drewN | apply Kept.drew | refine Kept.setCell ?_ (.inr GW6z.out) _ | refine Kept.setCell ?_ (.inr GW11z.out) _) | exact HK.out)) hb); replace HB:=bS hb; obtain ⟨hcz24z,hcz25z,hcz26z,hfz27z,hfz28z,hfz29z⟩:=cEc BK10z.out))
 first
  | have q_:=A12; have q_ : decide (1000 < t284) = false:=c40b0
    refine bodyPost_ret (results_ct rfl _ _ gb8z 24 #[.bool t280,.slice Ao40z t281.length co41z,.int .i64 t284] (0,0) _ rfl (by exact p3 BK10z) Tryz.underlying24 rfl (by kernel_rfl)) rfl ?_
    exact ⟨_,pE,by refine rp ?_; exact Kd.R_mono (Kd.R_far (p:=⟨gb8z,2,none⟩) (Kd.R_far (p:=⟨gb8z,1,none⟩) (Kd.R_far (p:=⟨gb8z,0,none⟩) (Kd.R_types HO33z.out BK10z.out (by decide)) (fun _ hk=>hk.2) (.bool t280)) (fun _ hk=>hk.2) (.slice Ao40z t281.length co41z)) (fun _ hk=>hk.2) (.int .i64 t284)) (fun _ hk=>hk.1),pB,by repeat (first | (with_reducible first | exact HK.out | apply Kept.alloc | apply Kept.drewN | apply Kept.drew | refine Kept.setCell ?_ (.inr GW6z.out) _ | refine Kept.setCell ?_ (.inr GW11z.out) _) | exact HK.out)⟩
  | refine bodyPost_ret (results_ct rfl _ _ gb8z 24 #[.bool false,.slice none 0 0,.int .i64 0] (0,0) _ rfl (by exact p3 BK10z) Tryz.underlying24 rfl (by kernel_rfl)) rfl ?_
    exact ⟨_,pE,pN,pB,by repeat (first | (with_reducible first | exact HK.out | apply Kept.alloc | apply Kept.drewN | apply Kept.drew | refine Kept.setCell ?_ (.inr GW6z.out) _ | refine Kept.setCell ?_ (.inr GW11z.out) _) | exact HK.out)⟩) : P:=h
theorem dec_settle.calls (k : Nat) (a0_0 : Bool) (P0_1_ : Nat->Prop) (u9000_ : Value) (l0_1 : List Int) (a0_2 : Int) (r1 : Bool) (r2 : List Int) (r3 : Int) (r4 : Int) (w0 w : World) (hB : Below w0.heap.size w0 w) (ho0_1 : Kd.R (Kd.int .u32) 85 w w0.heap.size P0_1_ u9000_ l0_1) (h : dec_settle.f k a0_0 l0_1 a0_2 = some (r1,r2,r3,r4)) :
  Calls Tryz.prog 100 #[.agg #[.bool a0_0,u9000_,.int .i64 a0_2]] w fun e w' => ∃ v1_ : Value,e = .returned (.tuple #[.agg #[.bool r1,v1_,.int .i64 r3],.int .i64 r4])/\Kd.R (Kd.int .u32) 85 w' w0.heap.size (fun k_=>(P0_1_ k_\/w.heap.size<=k_)) v1_ r2/\Below w0.heap.size w0 w'/\Kept w w' (fun k_=>P0_1_ k_):=by
 have hu106:=Tryz.underlying106
 have hu24:=Tryz.underlying24
 have HO0_1:=am (show Kd.R (Kd.int .u32) 85 w w0.heap.size (fun k_=>(P0_1_ k_\/w.heap.size<=k_)) u9000_ l0_1 from Kd.R_mono ho0_1 (fun k_ hk=>(.inl hk)))
 have HK:=am (Kept.refl w (fun k_=>P0_1_ k_))
 have HW0:=am hB.size
 have HB:=am hB
 clear hB
 have H : ((dec_number_zero.f a0_0 l0_1 a0_2).bind fun t279=>(if t279 = true then (some (false,([] : List Int),0,0)) else ((dec_number_strip.f k a0_0 l0_1 a0_2).bind fun bt280=>((dec_digits.f k bt280.2.1).bind fun t285=>(if t285 > 300 then (some (false,([] : List Int),0,51)) else (if bt280.2.2 < (-1000) then (some (false,([] : List Int),0,52)) else (if bt280.2.2 > 1000 then (some (false,([] : List Int),0,52)) else (some (bt280.1,bt280.2.1,bt280.2.2,0))))))))) = some (r1,r2,r3,r4):=h
 clear h
 obtain ⟨t279,A2,H⟩:=ob H
 by_cases c3 : t279 = true
 ·subst c3
  rw [if_pos rfl] at H
  simp only [Option.some.injEq,Prod.mk.injEq] at H
  obtain ⟨rfl,rfl,rfl,rfl⟩:=H
  exact dec_settle.leaf
 ·replace c3:=Bool.eq_false_iff.mpr c3
  subst c3
  rw [if_neg (show ¬ (false = true) by decide)] at H
  obtain ⟨⟨t280,t281,t284⟩,A11,H⟩:=ob H; (try dsimp only at H)
  obtain ⟨t285,A12,H⟩:=ob H
  by_cases c13 : t285 > 300
  ·rw [if_pos c13] at H
   have c13b0 : decide (300 < t285) = true:=decide_eq_true c13
   clear c13
   simp only [Option.some.injEq,Prod.mk.injEq] at H
   obtain ⟨rfl,rfl,rfl,rfl⟩:=H
   exact dec_settle.leaf
  ·rw [if_neg c13] at H
   have c13b0 : decide (300 < t285) = false:=decide_eq_false c13
   clear c13
   by_cases c26 : t284 < (-1000)
   ·rw [if_pos c26] at H
    have c26b0 : decide (t284 < (-1000)) = true:=decide_eq_true c26
    clear c26
    simp only [Option.some.injEq,Prod.mk.injEq] at H
    obtain ⟨rfl,rfl,rfl,rfl⟩:=H
    exact dec_settle.leaf
   ·rw [if_neg c26] at H
    have c26b0 : decide (t284 < (-1000)) = false:=decide_eq_false c26
    clear c26
    by_cases c40 : t284 > 1000
    ·rw [if_pos c40] at H
     have c40b0 : decide (1000 < t284) = true:=decide_eq_true c40
     clear c40
     simp only [Option.some.injEq,Prod.mk.injEq] at H
     obtain ⟨rfl,rfl,rfl,rfl⟩:=H
     exact dec_settle.leaf
    ·rw [if_neg c40] at H
     have c40b0 : decide (1000 < t284) = false:=decide_eq_false c40
     clear c40
     simp only [Option.some.injEq,Prod.mk.injEq] at H
     obtain ⟨rfl,rfl,rfl,rfl⟩:=H
     exact dec_settle.leaf
def dec_Add.f (k : Nat) (a0_0 : Bool) (l0_1 : List Int) (a0_2 : Int) (a1_0 : Bool) (l1_1 : List Int) (a1_2 : Int) : Option (Bool × List Int × Int × Int):=(dec_ask.f k (([(⟨a0_0,l0_1,a0_2⟩ : S24),(⟨a1_0,l1_1,a1_2⟩ : S24)] : List (S24)))).bind fun t1547=>(if t1547 = 0 then ((dec_number_plus.f k a0_0 l0_1 a0_2 a1_0 l1_1 a1_2).bind fun bt1548=>((dec_settle.f k bt1548.1 bt1548.2.1 bt1548.2.2).bind fun bt1553=>(some (bt1553.1,bt1553.2.1,bt1553.2.2.1,bt1553.2.2.2)))) else (some (false,([] : List Int),0,t1547)))
theorem dec_Add.leaf {P : Prop} (h : P:=by
 go_enter Tryz.func43,Tryz.ntmps43
 go_wp2_with (first | ((with_reducible refine gd 2 ?_); refine bx 2 #[.bool a0_0,.slice A0_1 l0_1.length c0_1,.int .i64 a0_2] 24 (h:=?_); intro gb0z hg w1z hbox hb; have BK2z:=am hbox; have GW3z:=gW hg; have GE4z:=gW hg; replace HO0_1:=vE HO0_1 gb0z hg hb; replace HO1_1:=vE HO1_1 gb0z hg hb; replace HB:=bS hb; clear hb hbox hg) | ((with_reducible refine gd 3 ?_); refine bx 3 #[.bool a1_0,.slice A1_1 l1_1.length c1_1,.int .i64 a1_2] 24 (h:=?_); intro gb5z hg w6z hbox hb; have BK7z:=am hbox; have GW8z:=gW hg; have GE9z:=gW hg; have NB10z:=nL hg BK2z; have NB11z:=nG hg BK2z; replace HO0_1:=vE HO0_1 gb5z hg hb; replace HO1_1:=vE HO1_1 gb5z hg hb; replace BK2z:=bb BK2z hb; replace HB:=bS hb; clear hb hbox hg) | ((with_reducible refine gd 4 ?_); refine bx 4 #[.bool false,.slice none 0 0,.int .i64 0] 24 (h:=?_); intro gb12z hg w13z hbox hb; have BK14z:=am hbox; have GW15z:=gW hg; have GE16z:=gW hg; have NB17z:=nL hg BK2z; have NB18z:=nG hg BK2z; have NB19z:=nL hg BK7z; have NB20z:=nG hg BK7z; replace HO0_1:=vE HO0_1 gb12z hg hb; replace HO1_1:=vE HO1_1 gb12z hg hb; replace BK2z:=bb BK2z hb; replace BK7z:=bb BK7z hb; replace HB:=bS hb; clear hb hbox hg; have hnb21z:=NB10z.out; have hnc22z:=NB11z.out; have hnb23z:=NB17z.out; have hnc24z:=NB18z.out; obtain ⟨hcz25z,hcz26z,hcz27z,hfz28z,hfz29z,hfz30z⟩:=cEc BK2z.out; have hnb31z:=NB19z.out; have hnc32z:=NB20z.out; obtain ⟨hcz33z,hcz34z,hcz35z,hfz36z,hfz37z,hfz38z⟩:=cEc BK7z.out) | ((with_reducible refine gd 9 ?_); refine Kd.N_lit k24 _ 24 ?hg (N':=9) ?hd (xs:=([(⟨a0_0,l0_1,a0_2⟩ : S24),(⟨a1_0,l1_1,a1_2⟩ : S24)] : List (S24))) (inner:=[.bool a0_0,.slice A0_1 l0_1.length c0_1,.int .i64 a0_2,.bool a1_0,.slice A1_1 l1_1.length c1_1,.int .i64 a1_2]) (ok:=(fun k_=>((P0_1_ k_\/P1_1_ k_)\/w.heap.size<=k_)/\k_ ≠ gb0z/\k_ ≠ gb5z/\k_ ≠ gb12z)) (okp:=(fun k_=>((P0_1_ k_\/P1_1_ k_)\/w.heap.size<=k_)/\k_ ≠ gb0z/\k_ ≠ gb5z/\k_ ≠ gb12z)) ?hr ?hp (fun _ hk=>hk) ((show ∀ k_,w13z.heap.size<=k_->(fun k_=>((P0_1_ k_\/P1_1_ k_)\/w.heap.size<=k_)/\k_ ≠ gb0z/\k_ ≠ gb5z/\k_ ≠ gb12z) k_ from fun k_ hk=>⟨(.inr (Nat.le_trans (below_size pB) hk)),Kd.freshB (g:=gb0z) (o:=.cells #[.bool a0_0,.slice A0_1 l0_1.length c0_1,.int .i64 a0_2] 24 (0,0)) (blk_below BK2z.out pl) k_ hk,Kd.freshB (g:=gb5z) (o:=.cells #[.bool a1_0,.slice A1_1 l1_1.length c1_1,.int .i64 a1_2] 24 (0,0)) (blk_below BK7z.out pl) k_ hk,Kd.freshB (g:=gb12z) (o:=.cells #[.bool false,.slice none 0 0,.int .i64 0] 24 (0,0)) (blk_below BK14z.out pl) k_ hk⟩) _ (Nat.le_refl _)) (Below.refl _ _) (Nat.le_refl _) (by simp) ?_; (case hd=>rfl); (case hg=>rfl); (case hr=>first | (go_simp; done) | (go_simp; rfl)); (case hp=>exact (Reps.c3 (show Kd.FK k24 _ _ (⟨a0_0,l0_1,a0_2⟩ : S24) [.bool a0_0,.slice A0_1 l0_1.length c0_1,.int .i64 a0_2] from (k24_mkF _ _ (⟨a0_0,l0_1,a0_2⟩ : S24) (Kd.V_reads' (Kd.V_mono (ok':=(fun k_=>((P0_1_ k_\/P1_1_ k_)\/w.heap.size<=k_)/\k_ ≠ gb0z/\k_ ≠ gb5z/\k_ ≠ gb12z)) (HO0_1.out) (fun k_ hk=>⟨hk.1.1.1,⟨hk.1.1.2,⟨hk.1.2,hk.2⟩⟩⟩))).2.1 (Kd.V_F (Kd.V_mono (ok':=(fun k_=>((P0_1_ k_\/P1_1_ k_)\/w.heap.size<=k_)/\k_ ≠ gb0z/\k_ ≠ gb5z/\k_ ≠ gb12z)) (HO0_1.out) (fun k_ hk=>⟨hk.1.1.1,⟨hk.1.1.2,⟨hk.1.2,hk.2⟩⟩⟩))))) (Reps.c3 (show Kd.FK k24 _ _ (⟨a1_0,l1_1,a1_2⟩ : S24) [.bool a1_0,.slice A1_1 l1_1.length c1_1,.int .i64 a1_2] from (k24_mkF _ _ (⟨a1_0,l1_1,a1_2⟩ : S24) (Kd.V_reads' (Kd.V_mono (ok':=(fun k_=>((P0_1_ k_\/P1_1_ k_)\/w.heap.size<=k_)/\k_ ≠ gb0z/\k_ ≠ gb5z/\k_ ≠ gb12z)) (HO1_1.out) (fun k_ hk=>⟨hk.1.1.1,⟨hk.1.1.2,⟨hk.1.2,hk.2⟩⟩⟩))).2.1 (Kd.V_F (Kd.V_mono (ok':=(fun k_=>((P0_1_ k_\/P1_1_ k_)\/w.heap.size<=k_)/\k_ ≠ gb0z/\k_ ≠ gb5z/\k_ ≠ gb12z)) (HO1_1.out) (fun k_ hk=>⟨hk.1.1.1,⟨hk.1.1.2,⟨hk.1.2,hk.2⟩⟩⟩))))) (Reps.none _ _)))); intro v39z w40z ho41z hb hg_ hnew_; clear hg_ hnew_; (first | rw [<- Ny1544.out] at ho41z | (simp only [Int.reduceToNat] at ho41z; rw [<- Ny1544.out] at ho41z)); replace HO0_1:=am (Kd.V_elder' (Kd.V_below HO0_1.out pl) (Kd.N_base ho41z) hb); replace HO1_1:=am (Kd.V_elder' (Kd.V_below HO1_1.out pl) (Kd.N_base ho41z) hb); have HO42z:=am (Kd.N_lower ho41z (below_size pB)); replace BK2z:=bb BK2z hb; replace BK7z:=bb BK7z hb; replace BK14z:=bb BK14z hb; replace HB:=bS hb; clear hb ho41z; obtain ⟨Ao43z,co44z,eo45z⟩:=Kd.N_slice HO42z.out; subst eo45z) | ((have q_:=A6; clear q_); refine gL (some 10) Tryz.func99 #[.slice Ao43z y1544.length co44z] (h:=?_); (with_reducible refine (dec_ask.calls k _ _ y1544 t1547 _ ?side1 ?side2 A3.out).mono ?_); (case side1=>exact Kd.C_below (Kd.N_reads' HO42z.out).2.2 pl); (case side2=>exact (Kd.N_reads' HO42z.out).2.1); rintro e w46z ⟨rfl,hb⟩; refine ⟨_,rfl,?_⟩; replace HO0_1:=vbl HO0_1 hb; replace HO1_1:=vbl HO1_1 hb; replace HO42z:=nbl HO42z hb; replace BK2z:=bb BK2z hb; replace BK7z:=bb BK7z hb; replace BK14z:=bb BK14z hb; replace HB:=bS hb; obtain ⟨hcz47z,hcz48z,hcz49z,hfz50z,hfz51z,hfz52z⟩:=cEc BK2z.out; obtain ⟨hcz53z,hcz54z,hcz55z,hfz56z,hfz57z,hfz58z⟩:=cEc BK7z.out) | (refine gL (some 19) Tryz.func101 #[.agg #[.bool a0_0,.slice A0_1 l0_1.length c0_1,.int .i64 a0_2],.agg #[.bool a1_0,.slice A1_1 l1_1.length c1_1,.int .i64 a1_2]] (h:=?_); (with_reducible refine (dec_number_plus.calls k a0_0 _ _ l0_1 a0_2 a1_0 _ _ l1_1 a1_2 t1548 t1549 t1552 _ ?side1 ?side2 ?side3 ?side4 A5.out).mono ?_); (case side1=>exact Kd.C_below (Kd.V_reads' HO0_1.out).2.2 pl); (case side2=>exact (Kd.V_reads' HO0_1.out).2.1); (case side3=>exact Kd.C_below (Kd.V_reads' HO1_1.out).2.2 pl); (case side4=>exact (Kd.V_reads' HO1_1.out).2.1); rintro e w59z ⟨v60z,rfl,ho61z,hb⟩; refine ⟨_,rfl,?_⟩; replace HO0_1:=am (Kd.V_elder' (Kd.V_below HO0_1.out pl) (Kd.R_base ho61z) hb); replace HO1_1:=am (Kd.V_elder' (Kd.V_below HO1_1.out pl) (Kd.R_base ho61z) hb); replace HO42z:=am (Kd.N_elder' (Kd.N_below HO42z.out pl) (Kd.R_base ho61z) hb); have HO62z:=am (Kd.R_lower (Kd.R_newM (M:=fun k_=>(w.heap.size<=k_)) ho61z (below_size pB) (fun k_ h_=>h_)) (below_size pB)); replace BK2z:=bb BK2z hb; replace BK7z:=bb BK7z hb; replace BK14z:=bb BK14z hb; replace HB:=bS hb; obtain ⟨Ao63z,co64z,eo65z⟩:=Kd.R_slice HO62z.out; subst eo65z) | (refine gL (some 20) Tryz.func100 #[.agg #[.bool t1548,.slice Ao63z t1549.length co64z,.int .i64 t1552]] (h:=?_); (with_reducible refine (dec_settle.calls k t1548 (fun k_=>some k_ = (.slice Ao63z t1549.length co64z : Value).ownBlock) (.slice Ao63z t1549.length co64z) t1549 t1552 t1553 t1554 t1557 t1558 w _ ?side1 ?side2 A6.out).mono ?_); (case side1=>exact pB); (case side2=>exact Kd.R_tight rfl HO62z.out); rintro e w66z ⟨v67z,rfl,ho61z,hb,hkp⟩; refine ⟨_,rfl,?_⟩; have HO68z:=am (Kd.R_mono (ok':=fun k_=>(w.heap.size<=k_)) ho61z (fun k_ hk_=>Or.elim hk_ (fun hs_=>(HO62z.out.1 k_ (hs_).symm).1) (fun hn_=>(Nat.le_trans (below_size pB) hn_)))); replace HO0_1:=am (Kd.V_mono (ok':=fun k_=>((P0_1_ k_\/P1_1_ k_)\/w.heap.size<=k_)/\some k_ ≠ (.slice Ao43z y1544.length co44z : Value).ownBlock/\k_ ≠ gb0z/\k_ ≠ gb5z/\k_ ≠ gb12z/\some k_ ≠ (v67z : Value).ownBlock) (Kd.V_keptB (HO0_1.out) hkp (fun k_ hk_ hs_=>(hk_.2) hs_)) (fun k_ hk_=>⟨hk_.1.1.1.1.1.1,hk_.1.1.2,hk_.1.1.1.1.1.2,hk_.1.1.1.1.2,hk_.1.1.1.2,fun e_=>Or.elim (ho61z.1 k_ e_.symm) (fun hs_=>hk_.2.1 hs_) (fun hn_=>Nat.not_le.2 hk_.2.2 hn_)⟩)); replace HO1_1:=am (Kd.V_mono (ok':=fun k_=>((P0_1_ k_\/P1_1_ k_)\/w.heap.size<=k_)/\some k_ ≠ (.slice Ao43z y1544.length co44z : Value).ownBlock/\k_ ≠ gb0z/\k_ ≠ gb5z/\k_ ≠ gb12z/\some k_ ≠ (v67z : Value).ownBlock) (Kd.V_keptB (HO1_1.out) hkp (fun k_ hk_ hs_=>(hk_.2) hs_)) (fun k_ hk_=>⟨hk_.1.1.1.1.1.1,hk_.1.1.2,hk_.1.1.1.1.1.2,hk_.1.1.1.1.2,hk_.1.1.1.2,fun e_=>Or.elim (ho61z.1 k_ e_.symm) (fun hs_=>hk_.2.1 hs_) (fun hn_=>Nat.not_le.2 hk_.2.2 hn_)⟩)); replace BK2z:=am (blk_kept (blk_below BK2z.out pl) hkp (fun e_=>Kd.R_ne HO62z.out BK2z.out (by decide) e_)); replace BK7z:=am (blk_kept (blk_below BK7z.out pl) hkp (fun e_=>Kd.R_ne HO62z.out BK7z.out (by decide) e_)); replace BK14z:=am (blk_kept (blk_below BK14z.out pl) hkp (fun e_=>Kd.R_ne HO62z.out BK14z.out (by decide) e_)); replace HO42z:=am (Kd.N_mono (ok':=fun k_=>((P0_1_ k_\/P1_1_ k_)\/w.heap.size<=k_)/\k_ ≠ gb0z/\k_ ≠ gb5z/\k_ ≠ gb12z/\some k_ ≠ (v67z : Value).ownBlock) (Kd.N_keptB (HO42z.out) hkp (fun k_ hk_ hs_=>(hk_.2) hs_)) (fun k_ hk_=>⟨hk_.1.1.1,hk_.1.1.2.1,hk_.1.1.2.2.1,hk_.1.1.2.2.2,fun e_=>Or.elim (ho61z.1 k_ e_.symm) (fun hs_=>hk_.2.1 hs_) (fun hn_=>Nat.not_le.2 hk_.2.2 hn_)⟩)); replace HB:=am hb; clear HO62z; obtain ⟨hcz69z,hcz70z,hcz71z,hfz72z,hfz73z,hfz74z⟩:=cEc BK14z.out; obtain ⟨Ao75z,co76z,eo77z⟩:=Kd.R_slice HO68z.out; subst eo77z) | ((have q_ : (t1547 != 0) = true:=c4b1; clear q_); refine gL (some 10) Tryz.func99 #[.slice Ao43z y1544.length co44z] (h:=?_); (with_reducible refine (dec_ask.calls k _ _ y1544 t1547 _ ?side1 ?side2 A3.out).mono ?_); (case side1=>exact Kd.C_below (Kd.N_reads' HO42z.out).2.2 pl); (case side2=>exact (Kd.N_reads' HO42z.out).2.1); rintro e w46z ⟨rfl,hb⟩; refine ⟨_,rfl,?_⟩; replace HO0_1:=vbl HO0_1 hb; replace HO1_1:=vbl HO1_1 hb; replace HO42z:=nbl HO42z hb; replace BK2z:=bb BK2z hb; replace BK7z:=bb BK7z hb; replace BK14z:=bb BK14z hb; replace HB:=bS hb; obtain ⟨hcz47z,hcz48z,hcz49z,hfz50z,hfz51z,hfz52z⟩:=cEc BK14z.out))
 first
  | have q_:=A6
    refine bodyPost_ret (results_ct rfl _ _ gb12z 24 #[.bool t1553,.slice Ao75z t1554.length co76z,.int .i64 t1557] (0,0) _ rfl (by exact p3 BK14z) Tryz.underlying24 rfl (by kernel_rfl)) rfl ?_
    exact ⟨_,pE,by refine rp ?_; exact Kd.R_mono (Kd.R_far (p:=⟨gb12z,2,none⟩) (Kd.R_far (p:=⟨gb12z,1,none⟩) (Kd.R_far (p:=⟨gb12z,0,none⟩) (Kd.R_types HO68z.out BK14z.out (by decide)) (fun _ hk=>hk.2) (.bool t1553)) (fun _ hk=>hk.2) (.slice Ao75z t1554.length co76z)) (fun _ hk=>hk.2) (.int .i64 t1557)) (fun _ hk=>hk.1),pB⟩
  | refine bodyPost_ret (results_ct rfl _ _ gb12z 24 #[.bool false,.slice none 0 0,.int .i64 0] (0,0) _ rfl (by exact p3 BK14z) Tryz.underlying24 rfl (by kernel_rfl)) rfl ?_
    exact ⟨_,pE,pN,pB⟩) : P:=h
theorem dec_Add.calls (k : Nat) (a0_0 : Bool) (P0_1_ : Nat->Prop) (A0_1 : Option Addr) (c0_1 : Nat) (l0_1 : List Int) (a0_2 : Int) (a1_0 : Bool) (P1_1_ : Nat->Prop) (A1_1 : Option Addr) (c1_1 : Nat) (l1_1 : List Int) (a1_2 : Int) (r1 : Bool) (r2 : List Int) (r3 : Int) (r4 : Int) (w : World) (hs0_1 : Kd.V (Kd.int .u32) 85 w w.heap.size (fun k_=>P0_1_ k_) (.slice A0_1 l0_1.length c0_1) l0_1) (hs1_1 : Kd.V (Kd.int .u32) 85 w w.heap.size (fun k_=>P1_1_ k_) (.slice A1_1 l1_1.length c1_1) l1_1) (h : dec_Add.f k a0_0 l0_1 a0_2 a1_0 l1_1 a1_2 = some (r1,r2,r3,r4)) :
  Calls Tryz.prog 43 #[.agg #[.bool a0_0,.slice A0_1 l0_1.length c0_1,.int .i64 a0_2],.agg #[.bool a1_0,.slice A1_1 l1_1.length c1_1,.int .i64 a1_2]] w fun e w' => ∃ v1_ : Value,e = .returned (.tuple #[.agg #[.bool r1,v1_,.int .i64 r3],.int .i64 r4])/\Kd.R (Kd.int .u32) 85 w' w.heap.size (fun k_=>(w.heap.size<=k_)) v1_ r2/\Below w.heap.size w w':=by
 have hu24:=Tryz.underlying24
 have hu106:=Tryz.underlying106
 have HO0_1:=am (show Kd.V (Kd.int .u32) 85 w w.heap.size (fun k_=>((P0_1_ k_\/P1_1_ k_)\/w.heap.size<=k_)) (.slice A0_1 l0_1.length c0_1) l0_1 from Kd.V_mono hs0_1 (fun k_ hk=>.inl (.inl hk)))
 have HO1_1:=am (show Kd.V (Kd.int .u32) 85 w w.heap.size (fun k_=>((P0_1_ k_\/P1_1_ k_)\/w.heap.size<=k_)) (.slice A1_1 l1_1.length c1_1) l1_1 from Kd.V_mono hs1_1 (fun k_ hk=>.inl (.inr hk)))
 have HB:=am (Below.refl w.heap.size w)
 have H : ((dec_ask.f k (([(⟨a0_0,l0_1,a0_2⟩ : S24),(⟨a1_0,l1_1,a1_2⟩ : S24)] : List (S24)))).bind fun t1547=>(if t1547 = 0 then ((dec_number_plus.f k a0_0 l0_1 a0_2 a1_0 l1_1 a1_2).bind fun bt1548=>((dec_settle.f k bt1548.1 bt1548.2.1 bt1548.2.2).bind fun bt1553=>(some (bt1553.1,bt1553.2.1,bt1553.2.2.1,bt1553.2.2.2)))) else (some (false,([] : List Int),0,t1547)))) = some (r1,r2,r3,r4):=h
 clear h
 obtain ⟨y1544,hy1544⟩ : ∃ y_ : List (S24),y_ = (([(⟨a0_0,l0_1,a0_2⟩ : S24),(⟨a1_0,l1_1,a1_2⟩ : S24)] : List (S24))):=⟨_,rfl⟩
 replace H : ((dec_ask.f k y1544).bind fun t1547=>(if t1547 = 0 then ((dec_number_plus.f k a0_0 l0_1 a0_2 a1_0 l1_1 a1_2).bind fun bt1548=>((dec_settle.f k bt1548.1 bt1548.2.1 bt1548.2.2).bind fun bt1553=>(some (bt1553.1,bt1553.2.1,bt1553.2.2.1,bt1553.2.2.2)))) else (some (false,([] : List Int),0,t1547)))) = some (r1,r2,r3,r4):=by have hy_:=hy1544; exact pH
 have Ny1544:=am hy1544
 clear hy1544
 obtain ⟨t1547,A3,H⟩:=ob H
 by_cases c4 : t1547 = 0
 ·rw [if_pos c4] at H
  have c4b0 : (t1547 == 0) = true:=beq_iff_eq.mpr c4
  have c4b1 : (t1547 != 0) = false:=bne_eq_false_iff_eq.mpr c4
  clear c4
  obtain ⟨⟨t1548,t1549,t1552⟩,A5,H⟩:=ob H; (try dsimp only at H)
  obtain ⟨⟨t1553,t1554,t1557,t1558⟩,A6,H⟩:=ob H; (try dsimp only at H)
  simp only [Option.some.injEq,Prod.mk.injEq] at H
  obtain ⟨rfl,rfl,rfl,rfl⟩:=H
  exact dec_Add.leaf
 ·rw [if_neg c4] at H
  have c4b0 : (t1547 == 0) = false:=beq_eq_false_iff_ne.mpr c4
  have c4b1 : (t1547 != 0) = true:=bne_iff_ne.mpr c4
  simp only [Option.some.injEq,Prod.mk.injEq] at H
  obtain ⟨rfl,rfl,rfl,rfl⟩:=H
  exact dec_Add.leaf
def dec_number_minus.f (a0_0 : Bool) (l0_1 : List Int) (a0_2 : Int) : Option (Bool × List Int × Int):=if a0_0 = true then (some (false,l0_1,a0_2)) else ((dec_number_zero.f a0_0 l0_1 a0_2).bind fun t1616=>(some (!t1616,l0_1,a0_2)))
theorem dec_number_minus.calls (a0_0 : Bool) (P0_1_ : Nat->Prop) (A0_1 : Option Addr) (c0_1 : Nat) (l0_1 : List Int) (a0_2 : Int) (r1 : Bool) (r2 : List Int) (r3 : Int) (w : World) (hs0_1 : Kd.V (Kd.int .u32) 85 w w.heap.size (fun k_=>P0_1_ k_) (.slice A0_1 l0_1.length c0_1) l0_1) (h : dec_number_minus.f a0_0 l0_1 a0_2 = some (r1,r2,r3)) :
  Calls Tryz.prog 103 #[.agg #[.bool a0_0,.slice A0_1 l0_1.length c0_1,.int .i64 a0_2]] w fun e w' => ∃ v1_ : Value,e = .returned (.agg #[.bool r1,v1_,.int .i64 r3])/\Kd.V (Kd.int .u32) 85 w' w.heap.size (fun k_=>(P0_1_ k_\/w.heap.size<=k_)) v1_ r2/\Below w.heap.size w w':=by
 have hu106:=Tryz.underlying106
 have HO0_1:=am (show Kd.V (Kd.int .u32) 85 w w.heap.size (fun k_=>(P0_1_ k_\/w.heap.size<=k_)) (.slice A0_1 l0_1.length c0_1) l0_1 from Kd.V_mono hs0_1 (fun k_ hk=>.inl hk))
 have HB:=am (Below.refl w.heap.size w)
 have H : (if a0_0 = true then (some (false,l0_1,a0_2)) else ((dec_number_zero.f a0_0 l0_1 a0_2).bind fun t1616=>(some (!t1616,l0_1,a0_2)))) = some (r1,r2,r3):=h
 clear h
 by_cases c2 : a0_0 = true
 ·subst c2
  rw [if_pos rfl] at H
  simp only [Option.some.injEq,Prod.mk.injEq] at H
  obtain ⟨rfl,rfl,rfl⟩:=H
  go_enter Tryz.func103,Tryz.ntmps103
  go_wp2_with (first | ((with_reducible refine gd 1 ?_); refine bx 1 #[.bool true,.slice A0_1 l0_1.length c0_1,.int .i64 a0_2] 106 (h:=?_); intro gb1614 hg w3 hbox hb; have BK1614:=am hbox; have GW1614:=gW hg; have GE1614:=gW hg; replace HO0_1:=vE HO0_1 gb1614 hg hb; replace HB:=bS hb; clear hb hbox hg) | ((with_reducible refine gd 2 ?_); refine bx 2 #[.bool false,.slice none 0 0,.int .i64 0] 106 (h:=?_); intro gb1615 hg w4 hbox hb; have BK1615:=am hbox; have GW1615:=gW hg; have GE1615:=gW hg; have NB1614_1615:=nL hg BK1614; have NB1615_1614:=nG hg BK1614; replace HO0_1:=vE HO0_1 gb1615 hg hb; replace BK1614:=bb BK1614 hb; replace HB:=bS hb; clear hb hbox hg; have hnb5:=NB1614_1615.out; have hnc5:=NB1615_1614.out; obtain ⟨hcz6_0,hcz6_1,hcz6_2,hfz6_0,hfz6_1,hfz6_2⟩:=cEc BK1614.out; obtain ⟨hcz7_0,hcz7_1,hcz7_2,hfz7_0,hfz7_1,hfz7_2⟩:=cEc BK1615.out))
  refine bodyPost_ret (results_cell_row rfl _ _ gb1615 106 #[.bool false,.slice A0_1 l0_1.length c0_1,.int .i64 a0_2] (0,0) _ rfl (by refine bp ?_; refine blk_put (cs:=#[.bool false,.slice A0_1 l0_1.length c0_1,.int .i64 0]) ?_ 2 _ rfl; refine bp ?_; refine blk_put (cs:=#[.bool false,.slice none 0 0,.int .i64 0]) ?_ 1 _ rfl; refine bp ?_; refine blk_put (cs:=#[.bool false,.slice none 0 0,.int .i64 0]) ?_ 0 _ rfl; refine bp ?_; refine blk_far ?_ NB1615_1614.out _; exact bp BK1615.out) Tryz.underlying106 rfl (by kernel_rfl)) rfl ?_
  exact ⟨_,pE,by refine vp ?_; exact Kd.V_mono (Kd.V_far (p:=⟨gb1615,2,none⟩) (Kd.V_far (p:=⟨gb1615,1,none⟩) (Kd.V_far (p:=⟨gb1615,0,none⟩) (Kd.V_far (p:=⟨gb1614,0,none⟩) (Kd.V_mono (Kd.V_mono HO0_1.out (fun k_ hk=>(⟨hk,hk.1.2⟩ : _/\k_ ≠ gb1614))) (fun k_ hk=>(⟨hk,hk.1.2⟩ : _/\k_ ≠ gb1615))) (fun _ hk=>hk.1.2) (.bool false)) (fun _ hk=>hk.2) (.bool false)) (fun _ hk=>hk.2) (.slice A0_1 l0_1.length c0_1)) (fun _ hk=>hk.2) (.int .i64 a0_2)) (fun _ hk=>hk.1.1.1.1),pB⟩
 ·replace c2:=Bool.eq_false_iff.mpr c2
  subst c2
  rw [if_neg (show ¬ (false = true) by decide)] at H
  obtain ⟨t1616,A8,H⟩:=ob H
  simp only [Option.some.injEq,Prod.mk.injEq] at H
  obtain ⟨rfl,rfl,rfl⟩:=H
  go_enter Tryz.func103,Tryz.ntmps103
  go_wp2_with (first | ((with_reducible refine gd 1 ?_); refine bx 1 #[.bool false,.slice A0_1 l0_1.length c0_1,.int .i64 a0_2] 106 (h:=?_); intro gb1614 hg w9 hbox hb; have BK1614:=am hbox; have GW1614:=gW hg; have GE1614:=gW hg; replace HO0_1:=vE HO0_1 gb1614 hg hb; replace HB:=bS hb; clear hb hbox hg) | ((with_reducible refine gd 2 ?_); refine bx 2 #[.bool false,.slice none 0 0,.int .i64 0] 106 (h:=?_); intro gb1615 hg w10 hbox hb; have BK1615:=am hbox; have GW1615:=gW hg; have GE1615:=gW hg; have NB1614_1615:=nL hg BK1614; have NB1615_1614:=nG hg BK1614; replace HO0_1:=vE HO0_1 gb1615 hg hb; replace BK1614:=bb BK1614 hb; replace HB:=bS hb; clear hb hbox hg; have hnb11:=NB1614_1615.out; have hnc11:=NB1615_1614.out; obtain ⟨hcz12_0,hcz12_1,hcz12_2,hfz12_0,hfz12_1,hfz12_2⟩:=cEc BK1614.out) | (go_at_call 104; (with_reducible refine (dec_number_zero.calls false _ _ l0_1 a0_2 t1616 _ ?side1 ?side2 A8.out).mono ?_); (case side1=>exact Kd.C_below (Kd.V_reads' HO0_1.out).2.2 pl); (case side2=>exact (Kd.V_reads' HO0_1.out).2.1); rintro e w13 ⟨rfl,hb⟩; replace HO0_1:=vbl HO0_1 hb; replace BK1614:=bb BK1614 hb; replace BK1615:=bb BK1615 hb; replace HB:=bS hb; obtain ⟨hcz14_0,hcz14_1,hcz14_2,hfz14_0,hfz14_1,hfz14_2⟩:=cEc BK1614.out; obtain ⟨hcz15_0,hcz15_1,hcz15_2,hfz15_0,hfz15_1,hfz15_2⟩:=cEc BK1615.out))
  refine bodyPost_ret (results_cell_row rfl _ _ gb1615 106 #[.bool (!t1616),.slice A0_1 l0_1.length c0_1,.int .i64 a0_2] (0,0) _ rfl (by refine bp ?_; refine blk_put (cs:=#[.bool (!t1616),.slice A0_1 l0_1.length c0_1,.int .i64 0]) ?_ 2 _ rfl; refine bp ?_; refine blk_put (cs:=#[.bool (!t1616),.slice none 0 0,.int .i64 0]) ?_ 1 _ rfl; refine bp ?_; refine blk_put (cs:=#[.bool false,.slice none 0 0,.int .i64 0]) ?_ 0 _ rfl; refine bp ?_; refine blk_far ?_ NB1615_1614.out _; exact bp BK1615.out) Tryz.underlying106 rfl (by kernel_rfl)) rfl ?_
  exact ⟨_,pE,by refine vp ?_; exact Kd.V_mono (Kd.V_far (p:=⟨gb1615,2,none⟩) (Kd.V_far (p:=⟨gb1615,1,none⟩) (Kd.V_far (p:=⟨gb1615,0,none⟩) (Kd.V_far (p:=⟨gb1614,0,none⟩) (Kd.V_mono (Kd.V_mono HO0_1.out (fun k_ hk=>(⟨hk,hk.1.2⟩ : _/\k_ ≠ gb1614))) (fun k_ hk=>(⟨hk,hk.1.2⟩ : _/\k_ ≠ gb1615))) (fun _ hk=>hk.1.2) (.bool (!t1616))) (fun _ hk=>hk.2) (.bool (!t1616))) (fun _ hk=>hk.2) (.slice A0_1 l0_1.length c0_1)) (fun _ hk=>hk.2) (.int .i64 a0_2)) (fun _ hk=>hk.1.1.1.1),pB⟩
end YtjbjkmccfocikaaGreatDoor.B
end
section
namespace YtjbjkmccfocikaaGreatDoor.B
open Go.RowKit YtjbjkmccfocikaaGreatDoorW.PrintWords YtjbjkmccfocikaaGreatDoorW.PrintLast YtjbjkmccfocikaaGreatDoorW.PrintMore
attribute [local go_sem] Instr.field asAgg
attribute [local go_sem] max2_int min2_int max_two min_two max_three min_three max_four min_four
def dec_Neg.f (k : Nat) (a0_0 : Bool) (l0_1 : List Int) (a0_2 : Int) : Option (Bool × List Int × Int × Int):=(dec_Check.f k a0_0 l0_1 a0_2).bind fun t1619=>(if t1619 = 0 then ((slices_Clone_uint32_uint32.f l0_1).bind fun t1620=>((dec_number_minus.f a0_0 t1620 a0_2).bind fun bt1623=>(some (bt1623.1,bt1623.2.1,bt1623.2.2,0)))) else (some (false,([] : List Int),0,t1619)))
theorem dec_Neg.leaf {P : Prop} (h : P:=by
 go_enter Tryz.func44,Tryz.ntmps44
 go_wp2_with (first | ((with_reducible refine gd 1 ?_); refine bx 1 #[.bool a0_0,.slice A0_1 l0_1.length c0_1,.int .i64 a0_2] 24 (h:=?_); intro gb0z hg w1z hbox hb; have BK2z:=am hbox; have GW3z:=gW hg; have GE4z:=gW hg; replace HB:=bS hb; clear hb hbox hg) | ((with_reducible refine gd 2 ?_); refine bx 2 #[.bool false,.slice none 0 0,.int .i64 0] 24 (h:=?_); intro gb5z hg w6z hbox hb; have BK7z:=am hbox; have GW8z:=gW hg; have GE9z:=gW hg; have NB10z:=nL hg BK2z; have NB11z:=nG hg BK2z; replace BK2z:=bb BK2z hb; replace HB:=bS hb; clear hb hbox hg; have hnb12z:=NB10z.out; have hnc13z:=NB11z.out; obtain ⟨hcz14z,hcz15z,hcz16z,hfz17z,hfz18z,hfz19z⟩:=cEc BK2z.out) | ((have q_:=A5; clear q_); refine gL (some 6) Tryz.func55 #[.agg #[.bool a0_0,.slice A0_1 l0_1.length c0_1,.int .i64 a0_2]] (h:=?_); (with_reducible refine (dec_Check.calls k a0_0 _ _ l0_1 a0_2 t1619 _ ?side1 ?side2 A2.out).mono ?_); (case side1=>refine cp ?_; exact (Kd.C_below HR0_1.out HB.out)); (case side2=>exact HC0_1.out); rintro e w20z ⟨rfl,hb⟩; refine ⟨_,rfl,?_⟩; replace BK2z:=bb BK2z hb; replace BK7z:=bb BK7z hb; replace HB:=bS hb; obtain ⟨hcz21z,hcz22z,hcz23z,hfz24z,hfz25z,hfz26z⟩:=cEc BK2z.out) | (refine gL (some 13) Tryz.func102 #[.slice A0_1 l0_1.length c0_1] (h:=?_); (with_reducible refine (slices_Clone_uint32_uint32.calls _ _ l0_1 t1620 _ ?side1 ?side2 A4.out).mono ?_); (case side1=>refine cp ?_; exact (Kd.C_below HR0_1.out HB.out)); (case side2=>exact HC0_1.out); rintro e w27z ⟨v28z,rfl,ho29z,hb⟩; refine ⟨_,rfl,?_⟩; have HO30z:=am (Kd.R_lower (Kd.R_newM (M:=fun k_=>(w.heap.size<=k_)) ho29z (below_size pB) (fun k_ h_=>h_)) (below_size pB)); replace BK2z:=bb BK2z hb; replace BK7z:=bb BK7z hb; replace HB:=bS hb; obtain ⟨Ao31z,co32z,eo33z⟩:=Kd.R_slice HO30z.out; subst eo33z; obtain ⟨hcz34z,hcz35z,hcz36z,hfz37z,hfz38z,hfz39z⟩:=cEc BK2z.out) | ((with_reducible refine gate_store (t:=22) (p:=14) rfl ?_); refine store_event (t:=22) (p:=14) (v:=?vo_w15) (w1:=(w27z.setCell ⟨gb0z,1,none⟩ (.slice Ao31z t1620.length co32z))) ?hg ?ho ?hn ?hr ?_; (case ho=>rfl); (case hg=>rfl); (case hn=>rfl); (case hr=>first | (go_simp; done) | (go_simp; rfl)); intro w40z hw; replace HO30z : Aside0 (Kd.R (Kd.int .u32) 85 w40z w.heap.size (fun k_=>(w.heap.size<=k_)) (.slice Ao31z t1620.length co32z) t1620):=⟨(by rw [hw]; exact (Kd.R_below (Kd.R_mono (Kd.R_far (p:=⟨gb0z,1,none⟩) (Kd.R_types HO30z.out BK2z.out (by decide)) (fun _ hk=>hk.2) (.slice Ao31z t1620.length co32z)) (fun _ hk=>hk.1.1)) pl))⟩; replace BK2z : Aside0 (w40z.heap[gb0z]? = some (.cells #[.bool a0_0,.slice Ao31z t1620.length co32z,.int .i64 a0_2] 24 (0,0))):=⟨(by rw [hw]; exact (by refine bp ?_; refine blk_put (cs:=#[.bool a0_0,.slice A0_1 l0_1.length c0_1,.int .i64 a0_2]) ?_ 1 _ rfl; exact bp BK2z.out))⟩; replace BK7z : Aside0 (w40z.heap[gb5z]? = some (.cells #[.bool false,.slice none 0 0,.int .i64 0] 24 (0,0))):=⟨(by rw [hw]; exact (bf NB11z.out BK7z.out))⟩; replace HB : Aside0 (Below w.heap.size w w40z):=⟨(by rw [hw]; exact pB)⟩; clear hw; obtain ⟨hcz41z,hcz42z,hcz43z,hfz44z,hfz45z,hfz46z⟩:=cEc BK2z.out) | (refine gL (some 17) Tryz.func103 #[.agg #[.bool a0_0,.slice Ao31z t1620.length co32z,.int .i64 a0_2]] (h:=?_); (with_reducible refine (dec_number_minus.calls a0_0 (fun k_=>some k_ = (.slice Ao31z t1620.length co32z : Value).ownBlock) _ _ t1620 a0_2 t1623 t1624 t1627 _ ?side1 A5.out).mono ?_); (case side1=>exact Kd.R_V (Kd.R_tight rfl (Kd.R_types (Kd.R_types (HO30z.out) BK2z.out (by decide)) BK7z.out (by decide)))); rintro e w47z ⟨v48z,rfl,ho29z,hb⟩; refine ⟨_,rfl,?_⟩; have HO49z:=am (Kd.V_lower (Kd.V_mono (ok':=fun k_=>(w.heap.size<=k_)/\k_ ≠ gb0z/\k_ ≠ gb5z) ho29z (fun k_ hk_=>⟨Or.elim hk_ (fun hs_=>((Kd.R_types (Kd.R_types (HO30z.out) BK2z.out (by decide)) BK7z.out (by decide)).1 k_ hs_.symm).1.1) (fun hn_=>(Nat.le_trans (below_size pB) hn_)),Or.elim hk_ (fun hs_=>((Kd.R_types (Kd.R_types (HO30z.out) BK2z.out (by decide)) BK7z.out (by decide)).1 k_ hs_.symm).1.2) (fun hn_=>(Kd.freshB (g:=gb0z) (o:=.cells #[.bool a0_0,.slice Ao31z t1620.length co32z,.int .i64 a0_2] 24 (0,0)) (blk_below BK2z.out pl) k_ hn_)),Or.elim hk_ (fun hs_=>((Kd.R_types (Kd.R_types (HO30z.out) BK2z.out (by decide)) BK7z.out (by decide)).1 k_ hs_.symm).2) (fun hn_=>(Kd.freshB (g:=gb5z) (o:=.cells #[.bool false,.slice none 0 0,.int .i64 0] 24 (0,0)) (blk_below BK7z.out pl) k_ hn_))⟩)) (below_size pB)); replace HO30z:=rbl HO30z hb; replace BK2z:=bb BK2z hb; replace BK7z:=bb BK7z hb; replace HB:=bS hb; obtain ⟨hcz50z,hcz51z,hcz52z,hfz53z,hfz54z,hfz55z⟩:=cEc BK7z.out; obtain ⟨Ao56z,co57z,eo58z⟩:=Kd.V_slice HO49z.out; subst eo58z) | ((have q_ : (t1619 != 0) = true:=c3b1; clear q_); refine gL (some 6) Tryz.func55 #[.agg #[.bool a0_0,.slice A0_1 l0_1.length c0_1,.int .i64 a0_2]] (h:=?_); (with_reducible refine (dec_Check.calls k a0_0 _ _ l0_1 a0_2 t1619 _ ?side1 ?side2 A2.out).mono ?_); (case side1=>refine cp ?_; exact (Kd.C_below HR0_1.out HB.out)); (case side2=>exact HC0_1.out); rintro e w20z ⟨rfl,hb⟩; refine ⟨_,rfl,?_⟩; replace BK2z:=bb BK2z hb; replace BK7z:=bb BK7z hb; replace HB:=bS hb; obtain ⟨hcz21z,hcz22z,hcz23z,hfz24z,hfz25z,hfz26z⟩:=cEc BK7z.out))
 first
  | have q_:=A5
    refine bodyPost_ret (results_ct rfl _ _ gb5z 24 #[.bool t1623,.slice Ao56z t1624.length co57z,.int .i64 t1627] (0,0) _ rfl (by exact p3 BK7z) Tryz.underlying24 rfl (by kernel_rfl)) rfl ?_
    exact ⟨_,pE,by refine vp ?_; exact Kd.V_mono (Kd.V_far (p:=⟨gb5z,2,none⟩) (Kd.V_far (p:=⟨gb5z,1,none⟩) (Kd.V_far (p:=⟨gb5z,0,none⟩) (Kd.V_mono HO49z.out (fun k_ hk=>(⟨hk,hk.2.2⟩ : _/\k_ ≠ gb5z))) (fun _ hk=>hk.2) (.bool t1623)) (fun _ hk=>hk.2) (.slice Ao56z t1624.length co57z)) (fun _ hk=>hk.2) (.int .i64 t1627)) (fun _ hk=>hk.1.1),pB⟩
  | refine bodyPost_ret (results_ct rfl _ _ gb5z 24 #[.bool false,.slice none 0 0,.int .i64 0] (0,0) _ rfl (by exact p3 BK7z) Tryz.underlying24 rfl (by kernel_rfl)) rfl ?_
    exact ⟨_,pE,(by first | exact Kd.V_nil _ _ _ _ _ | exact Kd.R_V (base:=w.heap.size) (Kd.R_nil _ _ _ _ _)),pB⟩) : P:=h
theorem dec_Neg.calls (k : Nat) (a0_0 : Bool) (A0_1 : Option Addr) (c0_1 : Nat) (l0_1 : List Int) (a0_2 : Int) (r1 : Bool) (r2 : List Int) (r3 : Int) (r4 : Int) (w : World) (hr0_1 : Kd.C (Kd.int .u32) w A0_1 l0_1.length l0_1) (hc0_1 : l0_1.length<=c0_1) (h : dec_Neg.f k a0_0 l0_1 a0_2 = some (r1,r2,r3,r4)) :
  Calls Tryz.prog 44 #[.agg #[.bool a0_0,.slice A0_1 l0_1.length c0_1,.int .i64 a0_2]] w fun e w' => ∃ v1_ : Value,e = .returned (.tuple #[.agg #[.bool r1,v1_,.int .i64 r3],.int .i64 r4])/\Kd.V (Kd.int .u32) 85 w' w.heap.size (fun k_=>(w.heap.size<=k_)) v1_ r2/\Below w.heap.size w w':=by
 have hu24:=Tryz.underlying24
 have hu106:=Tryz.underlying106
 have HR0_1:=am hr0_1
 have HC0_1:=am hc0_1
 clear hr0_1 hc0_1
 have HB:=am (Below.refl w.heap.size w)
 have H : ((dec_Check.f k a0_0 l0_1 a0_2).bind fun t1619=>(if t1619 = 0 then ((slices_Clone_uint32_uint32.f l0_1).bind fun t1620=>((dec_number_minus.f a0_0 t1620 a0_2).bind fun bt1623=>(some (bt1623.1,bt1623.2.1,bt1623.2.2,0)))) else (some (false,([] : List Int),0,t1619)))) = some (r1,r2,r3,r4):=h
 clear h
 obtain ⟨t1619,A2,H⟩:=ob H
 by_cases c3 : t1619 = 0
 ·rw [if_pos c3] at H
  have c3b0 : (t1619 == 0) = true:=beq_iff_eq.mpr c3
  have c3b1 : (t1619 != 0) = false:=bne_eq_false_iff_eq.mpr c3
  clear c3
  obtain ⟨t1620,A4,H⟩:=ob H
  obtain ⟨⟨t1623,t1624,t1627⟩,A5,H⟩:=ob H; (try dsimp only at H)
  simp only [Option.some.injEq,Prod.mk.injEq] at H
  obtain ⟨rfl,rfl,rfl,rfl⟩:=H
  exact dec_Neg.leaf
 ·rw [if_neg c3] at H
  have c3b0 : (t1619 == 0) = false:=beq_eq_false_iff_ne.mpr c3
  have c3b1 : (t1619 != 0) = true:=bne_iff_ne.mpr c3
  simp only [Option.some.injEq,Prod.mk.injEq] at H
  obtain ⟨rfl,rfl,rfl,rfl⟩:=H
  exact dec_Neg.leaf
end YtjbjkmccfocikaaGreatDoor.B
end
section
namespace YtjbjkmccfocikaaGreatDoor.P
open Go.RowKit YtjbjkmccfocikaaGreatDoor.B YtjbjkmccfocikaaGreatDoorW.PrintWords YtjbjkmccfocikaaGreatDoorW.PrintLast YtjbjkmccfocikaaGreatDoorW.PrintMore YtjbjkmccfocikaaGreatDoor.P.Nm
def chr (d : Int) : UInt8:=UInt8.ofNat (48 + d.toNat)
theorem decT_list {n : Nat} (h : n ≠ 0) : (decT n).data.toList = (digs n).reverse.map chr:=by
 unfold decT; rw [if_neg h]; rfl
theorem chr_nat {d : Int} (h0 : 0<=d) (h1 : d < 10) : (chr d).toNat = 48 + d.toNat:=by
 unfold chr; simp; omega
theorem decT_size (n : Nat) : (decT n).size = if n = 0 then 1 else nd n:=by
 by_cases h : n = 0
 ·subst h; rfl
 ·rw [if_neg h]
  show (decT n).data.size = _
  rw [<- Array.length_toList,decT_list h]; simp [nd]
theorem mk_list {b : ByteArray} {l : List UInt8} (h : b.data.toList = l) : b = ⟨l.toArray⟩:=by
 cases b with | mk d=>subst h; rfl
theorem trim_decT {n : Nat} (h : n ≠ 0) : (⟨(Lib.trimRightB (decT n).data.toList 48).toArray⟩ : ByteArray) = decT (core n):=by
 obtain ⟨h1,h2⟩:=tz_is h
 have hc:=core_ne h
 symm
 refine mk_list ?_
 rw [decT_list hc,decT_list h]
 unfold Lib.trimRightB
 rw [<- List.map_reverse,List.reverse_reverse]
 have hd : digs n = List.replicate (tz n) 0 ++ digs (core n):=by
  conv=>lhs; rw [h1]
  exact digs_shift hc _
 rw [hd,List.map_append,List.map_replicate,digs_step hc,List.map_cons]
 have e0 : chr 0 = 48:=rfl
 have e1 : (chr ((core n % 10 : Nat) : Int) == 48) = false:=by
  refine beq_eq_false_iff_ne.2 (fun q=>?_)
  have := congrArg UInt8.toNat q
  rw [chr_nat (by omega) (by omega)] at this
  have e48 : (48 : UInt8).toNat = 48:=rfl
  rw [e48] at this
  omega
 have drop : ∀ k (l : List UInt8),(List.replicate k (48 : UInt8) ++ l).dropWhile (· == 48) = l.dropWhile (· == 48):=fun k l=>by
  induction k with
  | zero=>rfl
  | succ k ih=>rw [List.replicate_succ,List.cons_append,List.dropWhile_cons_of_pos (by rfl),ih]
 rw [e0,drop,List.dropWhile_cons_of_neg (by rw [e1]; simp),List.map_reverse,List.map_cons]
theorem numT_decT (n : Nat) : numT (decT n) = n:=by
 by_cases h : n = 0
 ·subst h; rfl
 ·unfold numT
  rw [decT_list h]
  have key : ∀ l : List Int,Dg 10 l->(((l.reverse.map chr).foldl (fun n c=>n * 10 + (c.toNat - 48)) 0 : Nat) : Int) = val 10 l:=fun l=>by
   induction l with
   | nil=>intro _; rfl
   | cons x l ih =>
    intro hd
    have hx:=hd.head
    rw [List.reverse_cons,List.map_append,List.foldl_append,List.map_cons,List.map_nil,List.foldl_cons,List.foldl_nil,chr_nat hx.1 hx.2,val_cons,<- ih hd.tail]
    omega
  have := key (digs n) (digs_dg n)
  rw [digs_val] at this
  exact_mod_cast this
theorem decT_dig (n : Nat) : (decT n).data.toList.all isDig = true:=by
 by_cases h : n = 0
 ·subst h; rfl
 ·rw [decT_list h,List.all_eq_true]
  intro c hc
  obtain ⟨d,hd,rfl⟩:=List.mem_map.1 hc
  have hx:=digs_dg n d (List.mem_reverse.1 hd)
  unfold isDig
  rw [chr_nat hx.1 hx.2]
  simp; omega
theorem ext_list (s : ByteArray) (a b : Nat) : (s.extract a b).data.toList = (s.data.toList.drop a).take (b - a):=by
 rw [ByteArray.data_extract,Array.toList_extract]
def numF (v : Nat) (l : List UInt8) : Nat:=l.foldl (fun n c=>n * 10 + (c.toNat - 48)) v
theorem numF_nil (v : Nat) : numF v [] = v:=rfl
theorem numF_cons (v : Nat) (c : UInt8) (l : List UInt8) : numF v (c :: l) = numF (v * 10 + (c.toNat - 48)) l:=by unfold numF; rw [List.foldl_cons]
theorem numF_app (v : Nat) (l m : List UInt8) : numF v (l ++ m) = numF (numF v l) m:=by unfold numF; rw [List.foldl_append]
theorem numF_lin : ∀ (l : List UInt8) (v : Nat),numF v l = v * 10 ^ l.length + numF 0 l
 | [],v=>by simp [numF]
 | c :: l,v=>by
  rw [numF_cons,numF_cons,numF_lin l (v * 10 + _),numF_lin l (0 * 10 + _),List.length_cons,Nat.pow_succ,Nat.add_mul,Nat.zero_mul,Nat.zero_add,Nat.mul_assoc v 10,Nat.mul_comm 10]
  omega
theorem isDig_iff {c : UInt8} : isDig c = true ↔ 48<=c.toNat/\c.toNat<=57:=by unfold isDig; simp
theorem numF_lt : ∀ (l : List UInt8),l.all isDig = true->numF 0 l < 10 ^ l.length
 | [],_=>by simp [numF]
 | c :: l,h=>by
  rw [List.all_cons,Bool.and_eq_true] at h
  have h1:=numF_lt l h.2
  have h2:=isDig_iff.1 h.1
  rw [numF_cons,numF_lin,List.length_cons,Nat.pow_succ]
  have := Nat.mul_le_mul_right (10 ^ l.length) (show 0 * 10 + (c.toNat - 48)<=9 by omega)
  omega
theorem conv_f (s : ByteArray) (h : s.size<=9223372036854775807) : conv_bytes146.f s = some (bytesOf s):=by unfold conv_bytes146.f; rw [if_pos h]
theorem bytesOf_getD (s : ByteArray) (i : Nat) (c : UInt8) (r : List UInt8) (h : s.data.toList.drop i = c :: r) : (bytesOf s).getD i 0 = (c.toNat : Int):=by
 unfold bytesOf
 have h2 : s.data.toList[i]? = some c:=by
  have := List.getElem?_drop (xs:=s.data.toList) (i:=i) (j:=0)
  rw [h] at this
  simpa using this.symm
 rw [List.getD,List.getElem?_map,h2]; rfl
theorem piece_l0 (s : ByteArray) (hs : s.data.toList.all isDig = true) (hl : s.data.toList.length<=9) : ∀ (r : List UInt8) (i v : Nat),s.data.toList.drop i = r->i<=s.data.toList.length->v < 10 ^ i->Tells (fun k=>nat_piece.l0 k (v : Int) (bytesOf s) ((bytesOf s).length : Int) (i : Int)) (numF v r : Int)
 | [],i,v,hr,hi,hv=>by
  have hlen : (bytesOf s).length = s.data.toList.length:=by unfold bytesOf; rw [List.length_map]
  have hge : s.data.toList.length<=i:=List.drop_eq_nil_iff.1 hr
  refine Tells.succ ?_
  simp only [nat_piece.l0]
  exact Tells.ifn (by omega) (Tells.pure _)
 | c :: r,i,v,hr,hi,hv=>by
  have hlen : (bytesOf s).length = s.data.toList.length:=by unfold bytesOf; rw [List.length_map]
  have hlt : i < s.data.toList.length:=by
   have := congrArg List.length hr
   rw [List.length_drop,List.length_cons] at this
   omega
  have hc : isDig c = true:=List.all_eq_true.1 hs c (List.mem_of_mem_drop (by rw [hr]; exact List.mem_cons_self))
  have hc2:=isDig_iff.1 hc
  have hv9 : v < 100000000:=Nat.lt_of_lt_of_le hv (Nat.le_trans (Nat.pow_le_pow_right (by omega) (show i<=8 by omega)) (by decide))
  have ih:=piece_l0 s hs hl r (i + 1) (v * 10 + (c.toNat - 48)) (by rw [<- List.drop_drop,hr]; rfl) (by omega) (by rw [Nat.pow_succ]; omega)
  have c1 : (i : Int) < ((bytesOf s).length : Int):=by omega
  have c2 : (0 : Int)<=(i : Int):=by omega
  have e1 : (((v : Int) * 10) % 4294967296 + (((c.toNat : Int) - 48) % 256)) % 4294967296 = ((v * 10 + (c.toNat - 48) : Nat) : Int):=by omega
  refine Tells.succ ?_
  simp only [nat_piece.l0]
  rw [rd_n,bytesOf_getD s i c r hr,e1,w64s (by omega)]
  exact Tells.ifp c1 (Tells.ifp c2 (Tells.ifp c1 ih))
theorem piece_tells (s : ByteArray) (hs : s.data.toList.all isDig = true) (hl : s.data.toList.length<=9) : Tells (fun k=>nat_piece.f k s) (numF 0 s.data.toList : Int):=by
 unfold nat_piece.f
 have hsz : s.size = s.data.toList.length:=by rw [Array.length_toList]; rfl
 rw [conv_f s (by omega)]
 exact (Tells.pure _).bind (piece_l0 s hs hl s.data.toList 0 0 rfl (by omega) (by simp))
theorem limbs_billion : ([1000000000] : List Int) = limbs 1000000000:=by decide +kernel
theorem trim_one (n : Nat) (h : n < 4294967296) : Tells (fun k=>nat_num_trim.f k [(n : Int)]) (limbs n) :=
 trim_limbs (Dg.one (by omega) (by omega)) (by rw [val_one]) (by simp)
theorem all_drop {l : List UInt8} (h : l.all isDig = true) (n : Nat) : (l.drop n).all isDig = true:=List.all_eq_true.2 fun x hx=>List.all_eq_true.1 h x (List.mem_of_mem_drop hx)
theorem all_take {l : List UInt8} (h : l.all isDig = true) (n : Nat) : (l.take n).all isDig = true:=List.all_eq_true.2 fun x hx=>List.all_eq_true.1 h x (List.mem_of_mem_take hx)
theorem Parse_l0 : ∀ (f : Nat) (s : ByteArray) (v : Nat),s.data.toList.length<=f->s.data.toList.all isDig = true->(v = 0\/s.data.toList.length % 9 = 0)->nd v + s.data.toList.length<=100000 ->
  Tells (fun k=>nat_Parse.l0 k s (limbs v)) (limbs (numF v s.data.toList),0)
 | f,s,v,hf,hs,hv,hl=>by
  have hsz : s.size = s.data.toList.length:=by rw [Array.length_toList]; rfl
  by_cases h0 : s.data.toList = []
  ·refine Tells.succ ?_
   simp only [nat_Parse.l0]
   refine Tells.ifp (by rw [<- h0]; exact (Lib.toList_data s)) ((Tells.pure _).val ?_)
   rw [h0,numF_nil]
  ·have hpos : 0 < s.data.toList.length:=List.length_pos_iff.2 h0
   obtain ⟨f,rfl⟩ : ∃ g,f = g + 1:=⟨f - 1,by omega⟩
   obtain ⟨n,hn⟩ : ∃ n,(s.data.toList.length - 1) % 9 + 1 = n:=⟨_,rfl⟩
   have hn9 : n<=9:=by omega
   have hnl : n<=s.data.toList.length:=by omega
   have hT : (s.extract 0 n).data.toList = s.data.toList.take n:=by rw [ext_list]; simp
   have hD : (s.extract n s.size).data.toList = s.data.toList.drop n:=by
    rw [ext_list,hsz,List.take_of_length_le (by rw [List.length_drop]; omega)]
   have hp:=piece_tells (s.extract 0 n) (by rw [hT]; exact all_take hs n) (by rw [hT,List.length_take]; omega)
   rw [hT] at hp
   have hpl:=numF_lt (s.data.toList.take n) (all_take hs n)
   obtain ⟨p,hpp⟩ : ∃ p,numF 0 (s.data.toList.take n) = p:=⟨_,rfl⟩
   rw [hpp] at hp hpl
   rw [List.length_take,Nat.min_eq_left hnl] at hpl
   have hp9 : p < 1000000000:=Nat.lt_of_lt_of_le hpl (Nat.le_trans (Nat.pow_le_pow_right (by omega) hn9) (by decide))
   have hv2 : v * 1000000000 + p = numF v (s.data.toList.take n):=by
    rw [numF_lin,hpp,List.length_take,Nat.min_eq_left hnl]
    rcases hv with h | h
    ·rw [h]; simp
    ·rw [show n = 9 by omega]
   have hndv : nd (v * 1000000000 + p)<=nd v + 9:=by
    refine nd_le ?_
    have := nd_lt v
    rw [Nat.pow_add]
    have h9 : (10 : Nat) ^ 9 = 1000000000:=by decide
    rw [h9]
    have := Nat.mul_le_mul_right 1000000000 (show v + 1<=10 ^ nd v by omega)
    omega
   have hv0 : v = 0->nd (v * 1000000000 + p)<=n:=fun e=>by
    subst e
    rw [Nat.zero_mul,Nat.zero_add]
    exact nd_le hpl
   have hndb : nd 1000000000<=10:=nd_le (by decide)
   have hndp : nd p<=9:=nd_le hp9
   have hm:=mul_limbs (m:=v) (n:=1000000000) (by omega) (by omega)
   have ha:=add_limbs (m:=v * 1000000000) (n:=p) (Nat.le_trans (nd_mono (Nat.le_add_right _ p)) (by omega)) (by omega)
   have ih:=Parse_l0 f (s.extract n s.size) (v * 1000000000 + p) (by rw [hD,List.length_drop]; omega) (by rw [hD]; exact all_drop hs n) (.inr (by rw [hD,List.length_drop]; omega)) (by
    rw [hD,List.length_drop]
    rcases hv with h | h
    ·have := hv0 h; omega
    ·have : n = 9:=by omega
     omega)
   rw [hD] at ih
   have ih:=ih.val (u:=(limbs (numF v s.data.toList),0)) (by rw [hv2,<- numF_app,List.take_append_drop])
   have e1 : (s.size : Int) - 1 = ((s.data.toList.length - 1 : Nat) : Int):=by omega
   have e2 : Int.tmod ((s.data.toList.length - 1 : Nat) : Int) 9 = (((s.data.toList.length - 1) % 9 : Nat) : Int):=by rw [Int.tmod_eq_emod_of_nonneg (by omega)]; omega
   have c1 : (0 : Int)<=(n : Int):=by omega
   have c2 : (n : Int)<=(s.size : Int):=by omega
   refine Tells.succ ?_
   simp only [nat_Parse.l0]
   rw [e1,w64c (by omega),e2,w64s (by omega),hn,Int.toNat_natCast,limbs_billion]
   refine Tells.ifn (fun q=>h0 (by rw [<- Lib.toList_data s]; exact q)) (hm.bind (Tells.ifp c1 (Tells.ifp c2 (hp.bind ((trim_one p (by omega)).bind (ha.bind ih))))))
theorem any_digits (s : ByteArray) (h : s.data.toList.all isDig = true) : nat_Parse_any.f (bytesOf s) = some false:=by
 unfold nat_Parse_any.f
 rw [anyO_some (fun x=>decide (x < 48) || decide (57 < x)) (bytesOf s) (fun x _=>by
  unfold nat_Parse_1.f
  by_cases h1 : x < 48
  ·rw [if_pos h1,decide_eq_true h1]; rfl
  ·rw [if_neg h1,decide_eq_false h1]; rfl)]
 congr 1
 rw [List.any_eq_false]
 intro x hx
 unfold bytesOf at hx
 obtain ⟨c,hc,rfl⟩:=List.mem_map.1 hx
 have := isDig_iff.1 (List.all_eq_true.1 h c hc)
 simp; omega
theorem Parse_tells (s : ByteArray) (h : s.data.toList.all isDig = true) (h0 : 0 < s.size) (h1 : s.size<=2400) : Tells (fun k=>nat_Parse.f k s) (limbs (numF 0 s.data.toList),0):=by
 have hsz : s.size = s.data.toList.length:=by rw [Array.length_toList]; rfl
 unfold nat_Parse.f
 rw [conv_f s (by omega)]
 refine Tells.ifn (by omega) (Tells.ifn (by omega) ((Tells.pure _).bind ?_))
 rw [any_digits s h]
 exact (Tells.pure _).bind (Tells.ifn (by simp) (Parse_l0 _ s 0 (Nat.le_refl _) h (.inl rfl) (by rw [nd_zero]; omega)))
theorem Parse_decT {n : Nat} (h : nd n<=2400) : Tells (fun k=>nat_Parse.f k (decT n)) (limbs n,0):=by
 have hs:=decT_size n
 have hpos : 0 < (decT n).size:=by
  rw [hs]; split
  ·omega
  ·rename_i h0; exact nd_pos h0
 have hle : (decT n).size<=2400:=by rw [hs]; split <;> omega
 refine (Parse_tells (decT n) (decT_dig n) hpos hle).val ?_
 rw [show numF 0 (decT n).data.toList = n from numT_decT n]
theorem zero_f (a : Bool) (n : Nat) (e : Int) : dec_number_zero.f a (limbs n) e = some (decide (n = 0)):=by
 unfold dec_number_zero.f
 congr 1
 by_cases h : n = 0
 ·subst h; rfl
 ·have : 0 < (limbs n).length:=List.length_pos_iff.2 (limbs_ne h)
  rw [decide_eq_false h]
  exact beq_eq_false_iff_ne.2 (by omega)
theorem digits_tells {n : Nat} (h : (limbs n).length<=256) : Tells (fun k=>dec_digits.f k (limbs n)) (nd n : Int):=by
 unfold dec_digits.f
 refine (Print_tells h).bind ?_
 by_cases h0 : n = 0
 ·subst h0
  exact Tells.ifp rfl (Tells.pure _)
 ·have hl : 0 < (limbs n).length:=List.length_pos_iff.2 (limbs_ne h0)
  refine Tells.ifn (by omega) ((Tells.pure _).val ?_)
  rw [decT_size,if_neg h0]
theorem core_len {n : Nat} (h : (limbs n).length<=256) : (limbs (core n)).length<=256:=by
 refine limbs_len_of (Nat.lt_of_le_of_lt (core_le n) (Nat.lt_of_lt_of_le (limbs_lt n) (Nat.pow_le_pow_right (by omega) h)))
theorem strip_tells (a : Bool) {n : Nat} (e : Int) (h0 : n ≠ 0) (h : (limbs n).length<=256) (hd : nd n<=2400) (he1 : -1000000000<=e) (he2 : e<=1000000000) : Tells (fun k=>dec_number_strip.f k a (limbs n) e) (a,limbs (core n),e + tz n):=by
 have hs:=decT_size n
 have hs2:=decT_size (core n)
 have hnc:=nd_core h0
 rw [if_neg h0] at hs
 rw [if_neg (core_ne h0)] at hs2
 unfold dec_number_strip.f dec_must2.f dec_must.f strings_TrimRight.f
 refine (Print_tells h).bind ((Tells.pure _).bind ?_)
 rw [if_pos ⟨rfl,by show (decT n).size<=_; omega⟩]
 refine (Tells.pure _).bind ?_
 simp only [trim_decT h0]
 by_cases ht : tz n = 0
 ·have hc : core n = n:=by
   have := (tz_is h0).1
   rw [ht,Nat.pow_zero,Nat.mul_one] at this
   exact this.symm
  refine Tells.ifp (by rw [hc]) ((Tells.pure _).val ?_)
  rw [hc,ht]; simp
 ·refine Tells.ifn (by omega) ?_
  have e1 : ((decT n).size : Int) - ((decT (core n)).size : Int) = (tz n : Int):=by omega
  refine (Parse_decT (by omega)).bind ((Tells.pure _).bind ((Tells.pure _).val ?_))
  rw [e1,w64c (m:=tz n) (by omega),w64n (by omega) (by omega)]
theorem settle_tells (a : Bool) {n : Nat} (e : Int) (h : (limbs n).length<=256) (hd : nd n<=2400) (he1 : -1000000000<=e) (he2 : e<=1000000000) : Tells (fun k=>dec_settle.f k a (limbs n) e) (outD (settleD ⟨a,n,e⟩)):=by
 unfold dec_settle.f settleD
 rw [zero_f]
 refine (Tells.pure _).bind ?_
 simp only
 by_cases h0 : n = 0
 ·subst h0
  exact Tells.ifp rfl (Tells.pure _)
 ·rw [if_neg h0]
  have hcd:=nd_core h0
  refine Tells.ifn (by simp [h0]) ((strip_tells a e h0 h hd he1 he2).bind ((digits_tells (core_len h)).bind ?_))
  dsimp only
  by_cases h3 : 300 < nd (core n)
  ·rw [if_pos h3]
   exact Tells.ifp (by omega) (Tells.pure _)
  ·rw [if_neg h3]
   refine Tells.ifn (by omega) ?_
   by_cases h4 : e + tz n < -1000
   ·exact (Tells.ifp h4 (Tells.pure _)).val (by rw [if_pos (Or.inl h4)]; rfl)
   ·refine Tells.ifn h4 ?_
    by_cases h5 : 1000 < e + tz n
    ·exact (Tells.ifp h5 (Tells.pure _)).val (by rw [if_pos (Or.inr h5)]; rfl)
    ·exact (Tells.ifn h5 (Tells.pure _)).val (by rw [if_neg (by omega)])
theorem ten_tells {n : Nat} (h : (limbs n).length<=256) : Tells (fun k=>dec_ten.f k (limbs n)) (limbs (n / 10),decide (n % 10 = 0)):=by
 unfold dec_ten.f
 have h10 : (limbs 10).length<=256:=by decide +kernel
 refine (From_tells 10 (by omega)).bind ((Div_tells h h10).bind ((Tells.pure _).val ?_))
 rw [if_neg (by omega)]
 dsimp only
 congr 1
 by_cases h0 : n % 10 = 0
 ·rw [h0]; rfl
 ·have : 0 < (limbs (n % 10)).length:=List.length_pos_iff.2 (limbs_ne h0)
  rw [decide_eq_false h0]
  exact beq_eq_false_iff_ne.2 (by omega)
theorem DCheck_tells (a : Bool) (l : List Int) (e : Int) (hd : Dg 4294967296 l) (hl : l.length<=9223372036854775807) : Tells (fun k=>dec_Check.f k a l e) (chk a l e):=by
 unfold dec_Check.f
 rw [Check_tells l hl]
 refine (Tells.pure _).bind ?_
 have bad : chk a l e = 9->Tells (fun k=>dec_Check.j0 k true a l e) (chk a l e):=fun h=>by
  rw [h]
  refine Tells.succ ?_
  simp only [dec_Check.j0]
  exact Tells.ifp trivial (Tells.pure _)
 by_cases hc : chkL l = 0
 ·refine Tells.ifp hc ?_
  by_cases h40 : l.length<=40
  ·rw [decide_eq_false (show ¬ ((l.length : Int) > 40) by omega)]
   have hok:=(chkL_ok hd).1 hc
   obtain ⟨n,hn⟩ : ∃ n,num l = n:=⟨_,rfl⟩
   have hln : l = limbs n:=by rw [<- hn]; exact (limbs_num hok).symm
   have hchk : chk a l e = if okB ⟨a,n,e⟩ = true then 0 else 9:=by
    unfold chk
    rw [hn]
    by_cases h : okB ⟨a,n,e⟩ = true
    ·rw [if_pos ⟨hc,h40,h⟩,if_pos h]
    ·rw [if_neg (fun q=>h q.2.2),if_neg h]
   rw [hchk]
   subst hln
   have h256 : (limbs n).length<=256:=by omega
   unfold okB
   simp only
   refine Tells.succ ?_
   simp only [dec_Check.j0]
   refine Tells.ifn (by simp) ?_
   by_cases h0 : n = 0
   ·subst h0
    rw [if_pos rfl]
    refine Tells.ifp rfl ?_
    cases a
    ·refine Tells.ifn (by simp) ?_
     by_cases he : e = 0
     ·subst he; exact Tells.ifp rfl (Tells.pure _)
     ·refine Tells.ifn he ((Tells.pure _).val ?_)
      simp [he]
    ·exact Tells.ifp rfl (Tells.pure _)
   ·have hpos : 0 < (limbs n).length:=List.length_pos_iff.2 (limbs_ne h0)
    rw [if_neg h0]
    refine Tells.ifn (by omega) ((ten_tells h256).bind ?_)
    dsimp only
    by_cases hz : n % 10 = 0
    ·rw [decide_eq_false (not_not_intro hz)]
     exact Tells.ifp (decide_eq_true hz) (Tells.pure _)
    ·rw [decide_eq_true hz]
     refine Tells.ifn (by simp [hz]) ((digits_tells h256).bind ?_)
     by_cases h3 : nd n<=300
     ·rw [decide_eq_true h3]
      refine Tells.ifn (by omega) ?_
      by_cases h4 : e < -1000
      ·rw [decide_eq_false (show ¬ (-1000<=e) by omega)]
       exact Tells.ifp h4 (Tells.pure _)
      ·rw [decide_eq_true (show -1000<=e by omega)]
       refine Tells.ifn h4 ?_
       by_cases h5 : 1000 < e
       ·rw [decide_eq_false (show ¬ (e<=1000) by omega)]
        exact Tells.ifp h5 (Tells.pure _)
       ·rw [decide_eq_true (show e<=1000 by omega)]
        exact Tells.ifn h5 (Tells.pure _)
     ·rw [decide_eq_false h3]
      exact Tells.ifp (by omega) (Tells.pure _)
  ·rw [decide_eq_true (show ((l.length : Int) > 40) by omega)]
   exact bad (by unfold chk; rw [if_neg (fun q=>h40 q.2.1)])
 ·exact Tells.ifn hc (bad (by unfold chk; rw [if_neg (fun q=>hc q.1)]))
theorem DCheck (D : Dm) (h : OkD D) : Tells (fun k=>dec_Check.f k D.neg (limbs D.n) D.e) 0:=by
 have h1:=okd_limbs h
 have := DCheck_tells D.neg (limbs D.n) D.e (limbs_dg _) (by omega)
 rw [chk_of h] at this
 exact this
theorem ask1_tells (a : Bool) (l : List Int) (e : Int) (hd : Dg 4294967296 l) (hl : l.length<=9223372036854775807) : Tells (fun k=>dec_ask_1.f k a l e) (decide (chk a l e ≠ 0)):=by
 unfold dec_ask_1.f
 refine (DCheck_tells a l e hd hl).bind ((Tells.pure _).val ?_)
 by_cases h : chk a l e = 0 <;> simp [h]
theorem ask_tells (a : Bool) (l : List Int) (e : Int) (b : Bool) (m : List Int) (g : Int) (hd : Dg 4294967296 l) (hl : l.length<=9223372036854775807) (hd2 : Dg 4294967296 m) (hl2 : m.length<=9223372036854775807) : Tells (fun k=>dec_ask.f k [⟨a,l,e⟩,⟨b,m,g⟩]) (if chk a l e = 0/\chk b m g = 0 then 0 else 9):=by
 have h1 : Tells (fun k=>dec_ask_any.f k [⟨a,l,e⟩,⟨b,m,g⟩]) (decide (¬ (chk a l e = 0/\chk b m g = 0))):=by
  unfold dec_ask_any.f
  simp only [anyO]
  refine (ask1_tells a l e hd hl).bind ?_
  by_cases h : chk a l e = 0
  ·refine Tells.ifn (by simp [h]) ((ask1_tells b m g hd2 hl2).bind ?_)
   by_cases h2 : chk b m g = 0
   ·exact Tells.ifn (by simp [h2]) ((Tells.pure _).val (by simp [h,h2]))
   ·exact Tells.ifp (by simp [h2]) ((Tells.pure _).val (by simp [h,h2]))
  ·exact Tells.ifp (by simp [h]) ((Tells.pure _).val (by simp [h]))
 unfold dec_ask.f
 refine h1.bind ?_
 by_cases h : chk a l e = 0/\chk b m g = 0
 ·rw [if_pos h]
  exact Tells.ifn (by simp [h]) (Tells.pure _)
 ·rw [if_neg h]
  exact Tells.ifp (decide_eq_true h) (Tells.pure _)
theorem ask_D (D E : Dm) (hD : OkD D) (hE : OkD E) : Tells (fun k=>dec_ask.f k [⟨D.neg,limbs D.n,D.e⟩,⟨E.neg,limbs E.n,E.e⟩]) 0:=by
 have h1:=okd_limbs hD
 have h2:=okd_limbs hE
 have := ask_tells D.neg (limbs D.n) D.e E.neg (limbs E.n) E.e (limbs_dg _) (by omega) (limbs_dg _) (by omega)
 rw [if_pos ⟨chk_of hD,chk_of hE⟩] at this
 exact this
theorem len_nd {n : Nat} (h : nd n<=2304) : (limbs n).length<=256:=limbs_len9 (by omega)
theorem down_tells (a : Bool) (n : Nat) (e x : Int) (hn : nd n<=2304) (hx : x<=e) (he : e - x<=2003) (he1 : -100000<=x) (he2 : e<=100000) (hs : nd (n * 10 ^ (e - x).toNat)<=2304) : Tells (fun k=>dec_number_down.f k a (limbs n) e x) (a,limbs (n * 10 ^ (e - x).toNat),x):=by
 unfold dec_number_down.f
 rw [zero_f]
 refine (Tells.pure _).bind ?_
 have same : ∀ m,m = n * 10 ^ (e - x).toNat->Tells (fun k=>dec_number_down.j0 k x true a (limbs m) e) (a,limbs (n * 10 ^ (e - x).toNat),x):=fun m hm=>by
  refine Tells.succ ?_
  simp only [dec_number_down.j0]
  exact Tells.ifp trivial ((Tells.pure _).val (by rw [hm]))
 by_cases h0 : n = 0
 ·subst h0
  exact Tells.ifp (by rfl) (same 0 (by rw [Nat.zero_mul]))
 ·refine Tells.ifn (by simp [h0]) ?_
  by_cases hex : e = x
  ·subst hex
   have e1 : (e == e) = true:=beq_self_eq_true e
   rw [e1]
   exact same n (by rw [Int.sub_self]; simp)
  ·have e1 : (e == x) = false:=beq_eq_false_iff_ne.2 hex
   obtain ⟨d,hd⟩ : ∃ d : Nat,e - x = d:=⟨(e - x).toNat,by omega⟩
   rw [e1]
   refine Tells.succ ?_
   simp only [dec_number_down.j0]
   rw [hd,Int.toNat_natCast] at hs ⊢
   rw [w64c (by omega)]
   have hp : (limbs (10 ^ d)).length<=256:=len_nd (by rw [nd_pow]; omega)
   have hm:=Mul_tells (len_nd hn) hp
   rw [fit_of (len_nd hs)] at hm
   unfold dec_must.f
   exact Tells.ifn (by simp) ((Pow_tells d (by omega)).bind ((Tells.pure _).bind (hm.bind ((Tells.pure _).bind (Tells.pure _)))))
theorem plus_tells {A B : Dm} (hA : OkD A) (hB : OkD B) : Tells (fun k=>dec_number_plus.f k A.neg (limbs A.n) A.e B.neg (limbs B.n) B.e) ((plusD A B).neg,limbs (plusD A B).n,(plusD A B).e):=by
 have d1:=hA.len; have d2:=hA.low; have d3:=hA.high
 have e1:=hB.len; have e2:=hB.low; have e3:=hB.high
 have hx:=nd_shift_le A.n (A.e - min A.e B.e).toNat
 have hy:=nd_shift_le B.n (B.e - min A.e B.e).toNat
 have hr:=plusD_nd hA hB
 unfold dec_number_plus.f dec_must.f
 rw [mn_eq]
 refine (down_tells A.neg A.n A.e (min A.e B.e) (by omega) (by omega) (by omega) (by omega) (by omega) (by omega)).bind ?_
 refine (down_tells B.neg B.n B.e (min A.e B.e) (by omega) (by omega) (by omega) (by omega) (by omega) (by omega)).bind ?_
 unfold plusD sumS at *
 simp only at *
 generalize A.n * 10 ^ (A.e - min A.e B.e).toNat = x at *
 generalize B.n * 10 ^ (B.e - min A.e B.e).toNat = y at *
 have hx' : (limbs x).length<=256:=len_nd (by omega)
 have hy' : (limbs y).length<=256:=len_nd (by omega)
 by_cases h : A.neg = B.neg
 ·rw [if_pos h] at hr ⊢
  have ha:=Add_tells hx' hy'
  rw [fit_of (len_nd (n:=x + y) (by simp only at hr; omega))] at ha
  exact Tells.ifp (by rw [h]; simp) (ha.bind ((Tells.pure _).bind (Tells.pure _)))
 ·rw [if_neg h]
  refine Tells.ifn (by simpa using h) ((Compare_tells hx' hy').bind ?_)
  dsimp only
  by_cases hlt : x < y
  ·have hs:=Sub_tells hy' hx'
   rw [if_neg (by omega)] at hs
   rw [if_pos hlt]
   exact Tells.ifp (by unfold cmpN; rw [if_pos hlt]; omega) (hs.bind ((Tells.pure _).bind (Tells.pure _)))
  ·have hs:=Sub_tells hx' hy'
   rw [if_neg hlt] at hs
   rw [if_neg hlt]
   exact Tells.ifn (by unfold cmpN; rw [if_neg hlt]; split <;> omega) (hs.bind ((Tells.pure _).bind (Tells.pure _)))
theorem minus_f (A : Dm) : dec_number_minus.f A.neg (limbs A.n) A.e = some ((negD A).neg,limbs A.n,A.e):=by
 unfold dec_number_minus.f negD
 rw [zero_f]
 cases A.neg
 ·rw [if_neg (by simp),Option.bind_some]
  simp
 ·rw [if_pos rfl]; rfl
theorem settle_plus {A B : Dm} (hA : OkD A) (hB : OkD B) : Tells (fun k=>dec_settle.f k (plusD A B).neg (limbs (plusD A B).n) (plusD A B).e) (outD (settleD (plusD A B))):=by
 have h1:=plusD_nd hA hB
 have h2:=plusD_lo hA hB
 exact settle_tells (plusD A B).neg (plusD A B).e (len_nd (by omega)) (by omega) (by omega) (by omega)
theorem DAdd (D E : Dm) (hD : OkD D) (hE : OkD E) : Tells (fun k=>dec_Add.f k D.neg (limbs D.n) D.e E.neg (limbs E.n) E.e) (outD (addD D E)):=by
 unfold dec_Add.f
 exact (ask_D D E hD hE).bind (Tells.ifp rfl ((plus_tells hD hE).bind ((settle_plus hD hE).bind (Tells.pure _))))
theorem clone_f (l : List Int) (h : l.length<=10000) : slices_Clone_uint32_uint32.f l = some l:=by unfold slices_Clone_uint32_uint32.f; rw [if_pos (by omega)]
theorem DNeg (D : Dm) (hD : OkD D) : Tells (fun k=>dec_Neg.f k D.neg (limbs D.n) D.e) (outD (negD D,0)):=by
 have h1:=okd_limbs hD
 unfold dec_Neg.f
 refine (DCheck D hD).bind (Tells.ifp rfl ?_)
 rw [clone_f _ (by omega)]
 refine (Tells.pure _).bind ?_
 rw [minus_f D]
 exact (Tells.pure _).bind (Tells.pure _)
end YtjbjkmccfocikaaGreatDoor.P
end
section
namespace YtjbjkmccfocikaaGreatDoor.B
open Go.RowKit YtjbjkmccfocikaaGreatDoorW.PrintWords YtjbjkmccfocikaaGreatDoorW.PrintLast YtjbjkmccfocikaaGreatDoorW.PrintMore
attribute [local go_sem] max2_int min2_int max_two min_two max_three min_three max_four min_four
def bolterlaw02_num.f (a0 : Int) : Option (Int):=some a0
theorem bolterlaw02_num.calls (a0 : Int) (r : Int) (w : World) (h : bolterlaw02_num.f a0 = some r) :
  Calls Tryz.prog 47 #[.int .i64 a0] w fun e w'=>e = .returned (.int .i64 r)/\Drawn0 w w':=by
 have H : (some a0) = some r:=h
 clear h
 obtain rfl:=Option.some.inj H
 go_enter Tryz.func47,Tryz.ntmps47
 go_wp2
 go_ret
 exact ⟨pR,pD⟩
def dec_decimal.f (k : Nat) (a0 : Int) : Option (ByteArray):=(nat_From.f k (IntKind.u64.wrap (mx a0 (wrap64 (-a0))))).bind fun t1559=>((nat_Print.f k t1559).bind fun bt1562=>((dec_must2.f bt1562.1 bt1562.2).bind fun t1564=>(some t1564)))
theorem dec_decimal.calls (k : Nat) (a0 : Int) (r : ByteArray) (w : World) (h : dec_decimal.f k a0 = some r) :
  Calls Tryz.prog 170 #[.int .i64 a0] w fun e w'=>e = .returned (.string r)/\Below w.heap.size w w':=by
 have HB:=am (Below.refl w.heap.size w)
 have H : ((nat_From.f k (IntKind.u64.wrap (mx a0 (wrap64 (-a0))))).bind fun t1559=>((nat_Print.f k t1559).bind fun bt1562=>((dec_must2.f bt1562.1 bt1562.2).bind fun t1564=>(some t1564)))) = some r:=h
 clear h
 obtain ⟨ji2,hji2⟩ : ∃ j_ : Int,(mx a0 (wrap64 (-a0))) = j_:=⟨_,rfl⟩
 replace H : ((nat_From.f k (IntKind.u64.wrap (ji2))).bind fun t1559=>((nat_Print.f k t1559).bind fun bt1562=>((dec_must2.f bt1562.1 bt1562.2).bind fun t1564=>(some t1564)))) = some r:=by first | (rw [hji2] at H; exact H) | (simp only [hji2] at H ⊢; exact H)
 have hji2_ : (if a0 < (wrap64 (-a0)) then (wrap64 (-a0)) else a0) = ji2:=hji2
 obtain ⟨t1559,A3,H⟩:=ob H
 obtain ⟨⟨t1562,t1563⟩,A4,H⟩:=ob H; (try dsimp only at H)
 obtain ⟨t1564,A5,H⟩:=ob H
 obtain rfl:=Option.some.inj H
 go_enter Tryz.func170,Tryz.ntmps170
 go_wp2_with (first | ((with_reducible refine gate_callee (f:=76) rfl ?_); refine goesL_ (some 8) rfl rfl Tryz.func76 (by kernel_rfl) rfl #[.int .u64 (IntKind.u64.wrap (ji2))] rfl (by (try simp only [List.map_toArray,List.map_cons,List.map_nil]); first | done | (simp only [hji2]; rfl) | rfl | (simp only [List.length_drop,List.length_take]; rfl)) ?_; (with_reducible refine (nat_From.calls k (IntKind.u64.wrap (ji2)) t1559 _ A3.out).mono ?_); rintro e w6 ⟨v1560,rfl,ho0,hb⟩; refine ⟨_,rfl,?_⟩; have HO1561:=am (Kd.R_lower ho0 (below_size pB)); replace HB:=bS hb; obtain ⟨Ao7,co7,eo7⟩:=Kd.R_slice HO1561.out; subst eo7) | (refine gL (some 9) Tryz.func112 #[.slice Ao7 t1559.length co7] (h:=?_); (with_reducible refine (nat_Print.calls k (fun k_=>some k_ = (.slice Ao7 t1559.length co7 : Value).ownBlock) _ _ t1559 t1562 t1563 _ ?side1 A4.out).mono ?_); (case side1=>exact Kd.R_V (Kd.R_tight rfl (HO1561.out))); rintro e w8 ⟨rfl,hb⟩; refine ⟨_,rfl,?_⟩; replace HO1561:=rbl HO1561 hb; replace HB:=bS hb) | (refine gL (some 12) Tryz.func111 #[.string t1562,.int .i64 t1563] (h:=?_); (with_reducible refine (dec_must2.calls t1562 t1563 t1564 _ A5.out).mono ?_); rintro e w' ⟨rfl,⟨nd,rfl⟩⟩; refine ⟨_,rfl,?_⟩))
 go_ret
 exact ⟨by first | rfl | (simp [errW_none,errW_some] <;> rfl) | (simp only [<- hji2]; first | rfl | (simp [errW_none,errW_some] <;> rfl)) | (simp [*,errW_none,errW_some] <;> rfl),pB⟩
def dec_far.j0 : Nat->Int->ByteArray->Option (ByteArray)
 | 0,_,_=>none
 | k + 1,x1,x5=>if x1 < 0 then (if x5.size + 2<=9223372036854775807 then ((dec_decimal.f k x1).bind fun t1565=>(if (x5 ++ (⟨#[101,45]⟩ : ByteArray)).size + t1565.size<=9223372036854775807 then (some ((x5 ++ (⟨#[101,45]⟩ : ByteArray)) ++ t1565)) else (none))) else (none)) else (if x5.size + 2<=9223372036854775807 then ((dec_decimal.f k x1).bind fun t1566=>(if (x5 ++ (⟨#[101,43]⟩ : ByteArray)).size + t1566.size<=9223372036854775807 then (some ((x5 ++ (⟨#[101,43]⟩ : ByteArray)) ++ t1566)) else (none))) else (none))
def dec_far.f (k : Nat) (a0 : ByteArray) (a1 : Int) : Option (ByteArray):=if 0<=1 then (if 1<=(a0.size : Int) then (if (a0.size : Int) > 1 then (if 1 + (a0.extract 1 a0.size).size<=9223372036854775807 then (if (a0.extract 0 1).size + ((⟨#[46]⟩ : ByteArray) ++ (a0.extract 1 a0.size)).size<=9223372036854775807 then (dec_far.j0 k a1 ((a0.extract 0 1) ++ ((⟨#[46]⟩ : ByteArray) ++ (a0.extract 1 a0.size)))) else (none)) else (none)) else (dec_far.j0 k a1 (a0.extract 0 1))) else (none)) else (none)
theorem dec_far.calls (k : Nat) (a0 : ByteArray) (a1 : Int) (r : ByteArray) (w : World) (h : dec_far.f k a0 a1 = some r) :
  Calls Tryz.prog 145 #[.string a0,.int .i64 a1] w fun e w'=>e = .returned (.string r)/\Below w.heap.size w w':=by
 have HB:=am (Below.refl w.heap.size w)
 have H : (if 0<=1 then (if 1<=(a0.size : Int) then (if (a0.size : Int) > 1 then (if 1 + (a0.extract 1 a0.size).size<=9223372036854775807 then (if (a0.extract 0 1).size + ((⟨#[46]⟩ : ByteArray) ++ (a0.extract 1 a0.size)).size<=9223372036854775807 then (dec_far.j0 k a1 ((a0.extract 0 1) ++ ((⟨#[46]⟩ : ByteArray) ++ (a0.extract 1 a0.size)))) else (none)) else (none)) else (dec_far.j0 k a1 (a0.extract 0 1))) else (none)) else (none)) = some r:=h
 clear h
 by_cases c3 : 0<=1
 ·rw [if_pos c3] at H
  have c3b0:=eq_true c3
  have c3b1 : decide (0<=1) = true:=decide_eq_true c3
  clear c3
  by_cases c4 : 1<=(a0.size : Int)
  ·rw [if_pos c4] at H
   have c4b0:=eq_true c4
   have c4b1 : decide (1<=(a0.size : Int)) = true:=decide_eq_true c4
   clear c4
   have HC5:=am H
   clear H
   go_enter Tryz.func145,Tryz.ntmps145
   go_upto_if 10 with (fail)
   go_cut [5] (fun v5 wc => ∃ (kq : Nat) (x5_4 : ByteArray),v5 = .string x5_4/\Aside0 (dec_far.j0 kq a1 x5_4 = some r)/\Aside0 (kq<=k)/\Aside0 (Below w.heap.size w wc))
   case first =>
    have H:=HC5.out
    clear HC5
    by_cases c6 : (a0.size : Int) > 1
    ·rw [if_pos c6] at H
     have c6b0 : decide (1 < (a0.size : Int)) = true:=decide_eq_true c6
     have c6b1 : decide (1 < a0.size) = true:=decide_eq_true (by omega)
     clear c6
     (first | rw [c6b0] | (simp only [i64_w,i32_w]; rw [c6b0]) | skip)
     have c7b0:=eq_true (of_decide_eq_true pQ : 1<=(a0.size : Int))
     by_cases c8 : 1 + (a0.extract 1 a0.size).size<=9223372036854775807
     ·rw [if_pos c8] at H
      have c8b0:=eq_true c8
      have c8b1 : decide (1 + (a0.extract 1 a0.size).size<=9223372036854775807) = true:=decide_eq_true c8
      try have c8b2 : (9223372036854775807 < 1 + (a0.extract 1 a0.size).size) = False:=eq_false (Nat.not_lt.2 c8)
      try have c8b3 : (9223372036854775807 < 1 + (a0.size - 1)) = False:=eq_false (Nat.not_lt.2 (by have q_:=c8; (try have h0_:=of_decide_eq_true c3b1); (try have h1_:=of_decide_eq_true c4b1); simp only [ByteArray.size_append,ByteArray.size_extract] at q_; omega))
      by_cases c9 : (a0.extract 0 1).size + ((⟨#[46]⟩ : ByteArray) ++ (a0.extract 1 a0.size)).size<=9223372036854775807
      ·rw [if_pos c9] at H
       have c9b0:=eq_true c9
       have c9b1 : decide ((a0.extract 0 1).size + ((⟨#[46]⟩ : ByteArray) ++ (a0.extract 1 a0.size)).size<=9223372036854775807) = true:=decide_eq_true c9
       try have c9b2 : (9223372036854775807 < (a0.extract 0 1).size + ((⟨#[46]⟩ : ByteArray) ++ (a0.extract 1 a0.size)).size) = False:=eq_false (Nat.not_lt.2 c9)
       try have c9b3 : (9223372036854775807 < 1 + (1 + ((a0.size - 1)))) = False:=eq_false (Nat.not_lt.2 (by have q_:=c9; have l0_ : (⟨#[46]⟩ : ByteArray).size = 1:=rfl; (try have h0_:=of_decide_eq_true c3b1); (try have h1_:=of_decide_eq_true c4b1); (try have h2_:=of_decide_eq_true c8b1); simp only [ByteArray.size_append,ByteArray.size_extract] at q_; omega))
       try have c9b4 : (9223372036854775807 < min 1 a0.size + (1 + ((a0.size - 1)))) = False:=eq_false (Nat.not_lt.2 (by have q_:=c9; have l0_ : (⟨#[46]⟩ : ByteArray).size = 1:=rfl; (try have h0_:=of_decide_eq_true c3b1); (try have h1_:=of_decide_eq_true c4b1); (try have h2_:=of_decide_eq_true c8b1); simp only [ByteArray.size_append,ByteArray.size_extract] at q_; omega))
       have H':=am H
       clear H
       go_wp2
       go_meet
       case rel=>exact ⟨_,((a0.extract 0 1) ++ ((⟨#[46]⟩ : ByteArray) ++ (a0.extract 1 a0.size))),pR,H',⟨by first | omega | exact Nat.le_refl _⟩,⟨pB⟩⟩
      ·rw [if_neg c9] at H
       exact absurd H (by simp)
     ·rw [if_neg c8] at H
      exact absurd H (by simp)
    ·rw [if_neg c6] at H
     have c6b0 : decide (1 < (a0.size : Int)) = false:=decide_eq_false c6
     have c6b1 : decide (1 < a0.size) = false:=decide_eq_false (by omega)
     clear c6
     (first | rw [c6b0] | (simp only [i64_w,i32_w]; rw [c6b0]) | skip)
     have H':=am H
     clear H
     go_wp2
     go_meet
     case rel=>exact ⟨_,(a0.extract 0 1),pR,H',⟨by first | omega | exact Nat.le_refl _⟩,⟨pB⟩⟩
   case rest =>
    clear HC5
    obtain ⟨kq,x5_4,rfl,HA,HJ4,HB⟩:=hcut
    cases kq with
    | zero=>exact absurd HA.out (by simp [dec_far.j0])
    | succ kj4 =>
     have H:=HA.out
     clear HA
     simp only [dec_far.j0] at H
     by_cases c10 : a1 < 0
     ·rw [if_pos c10] at H
      have c10b0 : decide (a1 < 0) = true:=decide_eq_true c10
      clear c10
      by_cases c11 : x5_4.size + 2<=9223372036854775807
      ·rw [if_pos c11] at H
       have c11b0:=eq_true c11
       have c11b1 : decide (x5_4.size + 2<=9223372036854775807) = true:=decide_eq_true c11
       try have c11b2 : (9223372036854775807 < x5_4.size + 2) = False:=eq_false (Nat.not_lt.2 c11)
       obtain ⟨t1565,A12,H⟩:=ob H
       by_cases c13 : (x5_4 ++ (⟨#[101,45]⟩ : ByteArray)).size + t1565.size<=9223372036854775807
       ·rw [if_pos c13] at H
        have c13b0:=eq_true c13
        have c13b1 : decide ((x5_4 ++ (⟨#[101,45]⟩ : ByteArray)).size + t1565.size<=9223372036854775807) = true:=decide_eq_true c13
        try have c13b2 : (9223372036854775807 < (x5_4 ++ (⟨#[101,45]⟩ : ByteArray)).size + t1565.size) = False:=eq_false (Nat.not_lt.2 c13)
        try have c13b3 : (9223372036854775807 < x5_4.size + 2 + t1565.size) = False:=eq_false (Nat.not_lt.2 (by have q_:=c13; have l0_ : (⟨#[101,45]⟩ : ByteArray).size = 2:=rfl; (try have h0_:=of_decide_eq_true c11b1); simp only [ByteArray.size_append,ByteArray.size_extract] at q_; omega))
        obtain rfl:=Option.some.inj H
        go_wp2_with (first | (refine gL (some 21) Tryz.func170 #[.int .i64 a1] (h:=?_); (with_reducible refine (dec_decimal.calls kj4 a1 t1565 _ A12.out).mono ?_); rintro e w14 ⟨rfl,hb⟩; refine ⟨_,rfl,?_⟩; replace HB:=bS hb))
        go_ret
        exact ⟨pE,pB⟩
       ·rw [if_neg c13] at H
        exact absurd H (by simp)
      ·rw [if_neg c11] at H
       exact absurd H (by simp)
     ·rw [if_neg c10] at H
      have c10b0 : decide (a1 < 0) = false:=decide_eq_false c10
      clear c10
      by_cases c15 : x5_4.size + 2<=9223372036854775807
      ·rw [if_pos c15] at H
       have c15b0:=eq_true c15
       have c15b1 : decide (x5_4.size + 2<=9223372036854775807) = true:=decide_eq_true c15
       try have c15b2 : (9223372036854775807 < x5_4.size + 2) = False:=eq_false (Nat.not_lt.2 c15)
       obtain ⟨t1566,A16,H⟩:=ob H
       by_cases c17 : (x5_4 ++ (⟨#[101,43]⟩ : ByteArray)).size + t1566.size<=9223372036854775807
       ·rw [if_pos c17] at H
        have c17b0:=eq_true c17
        have c17b1 : decide ((x5_4 ++ (⟨#[101,43]⟩ : ByteArray)).size + t1566.size<=9223372036854775807) = true:=decide_eq_true c17
        try have c17b2 : (9223372036854775807 < (x5_4 ++ (⟨#[101,43]⟩ : ByteArray)).size + t1566.size) = False:=eq_false (Nat.not_lt.2 c17)
        try have c17b3 : (9223372036854775807 < x5_4.size + 2 + t1566.size) = False:=eq_false (Nat.not_lt.2 (by have q_:=c17; have l0_ : (⟨#[101,43]⟩ : ByteArray).size = 2:=rfl; (try have h0_:=of_decide_eq_true c11b1); (try have h1_:=of_decide_eq_true c13b1); (try have h2_:=of_decide_eq_true c15b1); simp only [ByteArray.size_append,ByteArray.size_extract] at q_; omega))
        obtain rfl:=Option.some.inj H
        go_wp2_with (first | (refine gL (some 26) Tryz.func170 #[.int .i64 a1] (h:=?_); (with_reducible refine (dec_decimal.calls kj4 a1 t1566 _ A16.out).mono ?_); rintro e w18 ⟨rfl,hb⟩; refine ⟨_,rfl,?_⟩; replace HB:=bS hb))
        go_ret
        exact ⟨pE,pB⟩
       ·rw [if_neg c17] at H
        exact absurd H (by simp)
      ·rw [if_neg c15] at H
       exact absurd H (by simp)
  ·rw [if_neg c4] at H
   exact absurd H (by simp)
 ·rw [if_neg c3] at H
  exact absurd H (by simp)
end YtjbjkmccfocikaaGreatDoor.B
end
section
namespace YtjbjkmccfocikaaGreatDoor.B
open Go.RowKit Go.Shelf YtjbjkmccfocikaaGreatDoorW.PrintWords
def strings_Repeat.f (a0 : ByteArray) (a1 : Int) : Option ByteArray:=if 0<=a1/\a1<=9223372036854775807/\a0.size * a1.toNat<=140737488355328 then some ⟨(Lib.repeatL a0.data.toList a1.toNat).toArray⟩ else none
theorem strings_Repeat.calls (a0 : ByteArray) (a1 : Int) (r : ByteArray) (w : World) (h : strings_Repeat.f a0 a1 = some r) :
  Calls Tryz.prog 146 #[.string a0,.int .i64 a1] w fun e w'=>e = .returned (.string r)/\Below w.heap.size w w':=by
 unfold strings_Repeat.f at h
 split at h
 ·obtain rfl:=Option.some.inj h
  have hc : 0<=a1/\a1<=9223372036854775807/\a0.size * a1.toNat<=140737488355328:=by assumption
  obtain ⟨n,rfl⟩:=Int.eq_ofNat_of_zero_le hc.1
  exact Tryz.strings_Repeat a0 n w (by omega) (by simpa using hc.2.2)
 ·cases h
theorem add_at (b o j : Nat) : (⟨b,o,none⟩ : Addr).add j = ⟨b,o + j,none⟩:=by unfold Addr.add; split <;> simp_all
end YtjbjkmccfocikaaGreatDoor.B
end
section
namespace YtjbjkmccfocikaaGreatDoor.B
open Go.RowKit YtjbjkmccfocikaaGreatDoorW.PrintWords YtjbjkmccfocikaaGreatDoorW.PrintLast YtjbjkmccfocikaaGreatDoorW.PrintMore
attribute [local go_sem] max2_int min2_int max_two min_two max_three min_three max_four min_four
def dec_place.j0 : Nat->ByteArray->Int->Bool->Option (ByteArray)
 | 0,_,_,_=>none
 | k + 1,x0,x1,x5=>if x5 = true then ((dec_far.f k x0 (wrap64 (x1 - 1))).bind fun t1567=>(some t1567)) else (if x1 < 1 then ((strings_Repeat.f (⟨#[48]⟩ : ByteArray) (wrap64 (-x1))).bind fun t1568=>(if 2 + t1568.size<=9223372036854775807 then (if ((⟨#[48,46]⟩ : ByteArray) ++ t1568).size + x0.size<=9223372036854775807 then (some (((⟨#[48,46]⟩ : ByteArray) ++ t1568) ++ x0)) else (none)) else (none))) else (if x1 < (x0.size : Int) then (if 0<=x1 then (if x1<=(x0.size : Int) then (if (x0.extract 0 (x1 : Int).toNat).size + 1<=9223372036854775807 then (if ((x0.extract 0 (x1 : Int).toNat) ++ (⟨#[46]⟩ : ByteArray)).size + (x0.extract (x1 : Int).toNat x0.size).size<=9223372036854775807 then (some (((x0.extract 0 (x1 : Int).toNat) ++ (⟨#[46]⟩ : ByteArray)) ++ (x0.extract (x1 : Int).toNat x0.size))) else (none)) else (none)) else (none)) else (none)) else ((strings_Repeat.f (⟨#[48]⟩ : ByteArray) (wrap64 (x1 - (x0.size : Int)))).bind fun t1569=>(if x0.size + t1569.size<=9223372036854775807 then (some (x0 ++ t1569)) else (none)))))
def dec_place.f (k : Nat) (a0 : ByteArray) (a1 : Int) : Option (ByteArray):=if a1 < (-5) then (dec_place.j0 k a0 a1 true) else (dec_place.j0 k a0 a1 (decide (a1 > 21)))
theorem dec_place.calls (k : Nat) (a0 : ByteArray) (a1 : Int) (r : ByteArray) (w : World) (h : dec_place.f k a0 a1 = some r) :
  Calls Tryz.prog 113 #[.string a0,.int .i64 a1] w fun e w'=>e = .returned (.string r)/\Below w.heap.size w w':=by
 have HB:=am (Below.refl w.heap.size w)
 have H : (if a1 < (-5) then (dec_place.j0 k a0 a1 true) else (dec_place.j0 k a0 a1 (decide (a1 > 21)))) = some r:=h
 clear h
 have HC3:=am H
 clear H
 go_enter Tryz.func113,Tryz.ntmps113
 go_upto_region 1 with (fail)
 repeat (go_quiet (fail); go_upto_region 1 with (fail))
 go_cut [5] (fun v5 wc => ∃ (kq : Nat) (x5_2 : Bool),v5 = .bool x5_2/\Aside0 (dec_place.j0 kq a0 a1 x5_2 = some r)/\Aside0 (kq<=k)/\Aside0 (Below w.heap.size w wc))
 case first =>
  have H:=HC3.out
  clear HC3
  by_cases c4 : a1 < (-5)
  ·rw [if_pos c4] at H
   have c4b0 : decide (a1 < (-5)) = true:=decide_eq_true c4
   clear c4
   (first | rw [c4b0] | (simp only [i64_w,i32_w]; rw [c4b0]) | skip)
   have H':=am H
   clear H
   go_wp2
   repeat (go_quiet (fail); try go_wp2)
   go_meet
   case rel=>exact ⟨_,(true),pR,H',⟨by first | omega | exact Nat.le_refl _⟩,⟨pB⟩⟩
  ·rw [if_neg c4] at H
   have c4b0 : decide (a1 < (-5)) = false:=decide_eq_false c4
   clear c4
   (first | rw [c4b0] | (simp only [i64_w,i32_w]; rw [c4b0]) | skip)
   have H':=am H
   clear H
   go_wp2
   repeat (go_quiet (fail); try go_wp2)
   go_meet
   case rel=>exact ⟨_,(decide (a1 > 21)),pR,H',⟨by first | omega | exact Nat.le_refl _⟩,⟨pB⟩⟩
 case rest =>
  clear HC3
  obtain ⟨kq,x5_2,rfl,HA,HJ2,HB⟩:=hcut
  cases kq with
  | zero=>exact absurd HA.out (by simp [dec_place.j0])
  | succ kj2 =>
   have H:=HA.out
   clear HA
   simp only [dec_place.j0] at H
   by_cases c5 : x5_2 = true
   ·subst c5
    rw [if_pos rfl] at H
    obtain ⟨t1567,A6,H⟩:=ob H
    obtain rfl:=Option.some.inj H
    go_wp2_with (first | (go_at_call 145; (with_reducible refine (dec_far.calls kj2 a0 (wrap64 (a1 - 1)) t1567 _ A6.out).mono ?_); rintro e w7 ⟨rfl,hb⟩; replace HB:=bS hb))
    repeat (go_quiet (first | (go_at_call 145; (with_reducible refine (dec_far.calls kj2 a0 (wrap64 (a1 - 1)) t1567 _ A6.out).mono ?_); rintro e w7 ⟨rfl,hb⟩; replace HB:=bS hb)); try go_wp2_with (first | (go_at_call 145; (with_reducible refine (dec_far.calls kj2 a0 (wrap64 (a1 - 1)) t1567 _ A6.out).mono ?_); rintro e w7 ⟨rfl,hb⟩; replace HB:=bS hb)))
    go_ret
    exact ⟨pE,pB⟩
   ·replace c5:=Bool.eq_false_iff.mpr c5
    subst c5
    rw [if_neg (show ¬ (false = true) by decide)] at H
    by_cases c8 : a1 < 1
    ·rw [if_pos c8] at H
     have c8b0 : decide (a1 < 1) = true:=decide_eq_true c8
     clear c8
     obtain ⟨t1568,A9,H⟩:=ob H
     by_cases c10 : 2 + t1568.size<=9223372036854775807
     ·rw [if_pos c10] at H
      have c10b0:=eq_true c10
      have c10b1 : decide (2 + t1568.size<=9223372036854775807) = true:=decide_eq_true c10
      try have c10b2 : (9223372036854775807 < 2 + t1568.size) = False:=eq_false (Nat.not_lt.2 c10)
      by_cases c11 : ((⟨#[48,46]⟩ : ByteArray) ++ t1568).size + a0.size<=9223372036854775807
      ·rw [if_pos c11] at H
       have c11b0:=eq_true c11
       have c11b1 : decide (((⟨#[48,46]⟩ : ByteArray) ++ t1568).size + a0.size<=9223372036854775807) = true:=decide_eq_true c11
       try have c11b2 : (9223372036854775807 < ((⟨#[48,46]⟩ : ByteArray) ++ t1568).size + a0.size) = False:=eq_false (Nat.not_lt.2 c11)
       try have c11b3 : (9223372036854775807 < 2 + t1568.size + a0.size) = False:=eq_false (Nat.not_lt.2 (by have q_:=c11; have l0_ : (⟨#[48,46]⟩ : ByteArray).size = 2:=rfl; (try have h0_:=of_decide_eq_true c10b1); simp only [ByteArray.size_append,ByteArray.size_extract] at q_; omega))
       obtain rfl:=Option.some.inj H
       go_wp2_with (first | (go_at_call 146; (with_reducible refine (strings_Repeat.calls (⟨#[48]⟩ : ByteArray) (wrap64 (-a1)) t1568 _ A9.out).mono ?_); rintro e w12 ⟨rfl,hb⟩; replace HB:=bS hb))
       repeat (go_quiet (first | (go_at_call 146; (with_reducible refine (strings_Repeat.calls (⟨#[48]⟩ : ByteArray) (wrap64 (-a1)) t1568 _ A9.out).mono ?_); rintro e w12 ⟨rfl,hb⟩; replace HB:=bS hb)); try go_wp2_with (first | (go_at_call 146; (with_reducible refine (strings_Repeat.calls (⟨#[48]⟩ : ByteArray) (wrap64 (-a1)) t1568 _ A9.out).mono ?_); rintro e w12 ⟨rfl,hb⟩; replace HB:=bS hb)))
       go_ret
       exact ⟨pE,pB⟩
      ·rw [if_neg c11] at H
       exact absurd H (by simp)
     ·rw [if_neg c10] at H
      exact absurd H (by simp)
    ·rw [if_neg c8] at H
     have c8b0 : decide (a1 < 1) = false:=decide_eq_false c8
     clear c8
     by_cases c13 : a1 < (a0.size : Int)
     ·rw [if_pos c13] at H
      have c13b0 : decide (a1 < (a0.size : Int)) = true:=decide_eq_true c13
      clear c13
      by_cases c14 : 0<=a1
      ·rw [if_pos c14] at H
       have c14b0:=eq_true c14
       have c14b1 : decide (0<=a1) = true:=decide_eq_true c14
       clear c14
       by_cases c15 : a1<=(a0.size : Int)
       ·rw [if_pos c15] at H
        have c15b0:=eq_true c15
        have c15b1 : decide (a1<=(a0.size : Int)) = true:=decide_eq_true c15
        clear c15
        by_cases c16 : (a0.extract 0 (a1 : Int).toNat).size + 1<=9223372036854775807
        ·rw [if_pos c16] at H
         have c16b0:=eq_true c16
         have c16b1 : decide ((a0.extract 0 (a1 : Int).toNat).size + 1<=9223372036854775807) = true:=decide_eq_true c16
         try have c16b2 : (9223372036854775807 < (a0.extract 0 (a1 : Int).toNat).size + 1) = False:=eq_false (Nat.not_lt.2 c16)
         try have c16b3 : (9223372036854775807 < (a1 : Int).toNat + 1) = False:=eq_false (Nat.not_lt.2 (by have q_:=c16; (try have h0_:=of_decide_eq_true c10b1); (try have h1_:=of_decide_eq_true c11b1); (try have h2_:=of_decide_eq_true c14b1); (try have h3_:=of_decide_eq_true c15b1); simp only [ByteArray.size_append,ByteArray.size_extract] at q_; omega))
         have c17b0:=eq_true (of_decide_eq_true pQ : 0<=a1)
         have c18b0:=eq_true (of_decide_eq_true pQ : a1<=(a0.size : Int))
         by_cases c19 : ((a0.extract 0 (a1 : Int).toNat) ++ (⟨#[46]⟩ : ByteArray)).size + (a0.extract (a1 : Int).toNat a0.size).size<=9223372036854775807
         ·rw [if_pos c19] at H
          have c19b0:=eq_true c19
          have c19b1 : decide (((a0.extract 0 (a1 : Int).toNat) ++ (⟨#[46]⟩ : ByteArray)).size + (a0.extract (a1 : Int).toNat a0.size).size<=9223372036854775807) = true:=decide_eq_true c19
          try have c19b2 : (9223372036854775807 < ((a0.extract 0 (a1 : Int).toNat) ++ (⟨#[46]⟩ : ByteArray)).size + (a0.extract (a1 : Int).toNat a0.size).size) = False:=eq_false (Nat.not_lt.2 c19)
          try have c19b3 : (9223372036854775807 < (a1 : Int).toNat + 1 + (a0.size - (a1 : Int).toNat)) = False:=eq_false (Nat.not_lt.2 (by have q_:=c19; have l0_ : (⟨#[46]⟩ : ByteArray).size = 1:=rfl; (try have h0_:=of_decide_eq_true c10b1); (try have h1_:=of_decide_eq_true c11b1); (try have h2_:=of_decide_eq_true c14b1); (try have h3_:=of_decide_eq_true c15b1); (try have h4_:=of_decide_eq_true c16b1); simp only [ByteArray.size_append,ByteArray.size_extract] at q_; omega))
          obtain rfl:=Option.some.inj H
          go_wp2
          repeat (go_quiet (fail); try go_wp2)
          go_ret
          exact ⟨pE,pB⟩
         ·rw [if_neg c19] at H
          exact absurd H (by simp)
        ·rw [if_neg c16] at H
         exact absurd H (by simp)
       ·rw [if_neg c15] at H
        exact absurd H (by simp)
      ·rw [if_neg c14] at H
       exact absurd H (by simp)
     ·rw [if_neg c13] at H
      have c13b0 : decide (a1 < (a0.size : Int)) = false:=decide_eq_false c13
      clear c13
      obtain ⟨t1569,A20,H⟩:=ob H
      by_cases c21 : a0.size + t1569.size<=9223372036854775807
      ·rw [if_pos c21] at H
       have c21b0:=eq_true c21
       have c21b1 : decide (a0.size + t1569.size<=9223372036854775807) = true:=decide_eq_true c21
       try have c21b2 : (9223372036854775807 < a0.size + t1569.size) = False:=eq_false (Nat.not_lt.2 c21)
       obtain rfl:=Option.some.inj H
       go_wp2_with (first | (go_at_call 146; (with_reducible refine (strings_Repeat.calls (⟨#[48]⟩ : ByteArray) (wrap64 (a1 - (a0.size : Int))) t1569 _ A20.out).mono ?_); rintro e w22 ⟨rfl,hb⟩; replace HB:=bS hb))
       repeat (go_quiet (first | (go_at_call 146; (with_reducible refine (strings_Repeat.calls (⟨#[48]⟩ : ByteArray) (wrap64 (a1 - (a0.size : Int))) t1569 _ A20.out).mono ?_); rintro e w22 ⟨rfl,hb⟩; replace HB:=bS hb)); try go_wp2_with (first | (go_at_call 146; (with_reducible refine (strings_Repeat.calls (⟨#[48]⟩ : ByteArray) (wrap64 (a1 - (a0.size : Int))) t1569 _ A20.out).mono ?_); rintro e w22 ⟨rfl,hb⟩; replace HB:=bS hb)))
       go_ret
       exact ⟨pE,pB⟩
      ·rw [if_neg c21] at H
       exact absurd H (by simp)
def dec_Print.f (k : Nat) (a0_0 : Bool) (l0_1 : List Int) (a0_2 : Int) : Option (ByteArray × Int):=(dec_Check.f k a0_0 l0_1 a0_2).bind fun t1571=>(if t1571 = 0 then (if (l0_1.length : Int) = 0 then (some ((⟨#[48]⟩ : ByteArray),0)) else ((nat_Print.f k l0_1).bind fun bt1572=>((dec_must2.f bt1572.1 bt1572.2).bind fun t1574=>(if a0_0 = true then ((dec_place.f k t1574 (wrap64 ((t1574.size : Int) + a0_2))).bind fun t1575=>(if 1 + t1575.size<=9223372036854775807 then (some ((⟨#[45]⟩ : ByteArray) ++ t1575,0)) else (none))) else ((dec_place.f k t1574 (wrap64 ((t1574.size : Int) + a0_2))).bind fun t1576=>(if 0 + t1576.size<=9223372036854775807 then (some ((⟨#[]⟩ : ByteArray) ++ t1576,0)) else (none))))))) else (some ((⟨#[]⟩ : ByteArray),t1571)))
theorem dec_Print.leaf {P : Prop} (h : P:=by
 go_enter Tryz.func56,Tryz.ntmps56
 go_wp2_with (first | ((with_reducible refine gd 1 ?_); refine bx 1 #[.bool true,.slice A0_1 l0_1.length c0_1,.int .i64 a0_2] 24 (h:=?_); intro gb0z hg w1z hbox hb; have BK2z:=am hbox; have GW3z:=gW hg; have GE4z:=gW hg; replace HB:=bS hb; clear hb hbox hg; obtain ⟨hcz5z,hcz6z,hcz7z,hfz8z,hfz9z,hfz10z⟩:=cEc BK2z.out) | (refine gL (some 8) Tryz.func55 #[.agg #[.bool true,.slice A0_1 l0_1.length c0_1,.int .i64 a0_2]] (h:=?_); (with_reducible refine (dec_Check.calls k true _ _ l0_1 a0_2 t1571 _ ?side1 ?side2 A2.out).mono ?_); (case side1=>refine cp ?_; exact (Kd.C_below HR0_1.out HB.out)); (case side2=>exact HC0_1.out); rintro e w11z ⟨rfl,hb⟩; refine ⟨_,rfl,?_⟩; replace BK2z:=bb BK2z hb; replace HB:=bS hb; obtain ⟨hcz12z,hcz13z,hcz14z,hfz15z,hfz16z,hfz17z⟩:=cEc BK2z.out) | (refine gL (some 18) Tryz.func112 #[.slice A0_1 l0_1.length c0_1] (h:=?_); (with_reducible refine (nat_Print.calls k (fun k_=>k_ < w.heap.size) _ _ l0_1 t1572 t1573 _ ?side1 A9.out).mono ?_); (case side1=>exact Kd.V_mk HC0_1.out (Kd.F_below (Kd.C_F (Kd.heap_int .u32) HR0_1.out) pB)); rintro e w18z ⟨rfl,hb⟩; refine ⟨_,rfl,?_⟩; replace BK2z:=bb BK2z hb; replace HB:=bS hb) | (refine gL (some 21) Tryz.func111 #[.string t1572,.int .i64 t1573] (h:=?_); (with_reducible refine (dec_must2.calls t1572 t1573 t1574 _ A10.out).mono ?_); rintro e w' ⟨rfl,⟨nd,rfl⟩⟩; refine ⟨_,rfl,?_⟩; obtain ⟨hcz19z,hcz20z,hcz21z,hfz22z,hfz23z,hfz24z⟩:=cEc BK2z.out) | (refine gL (some 31) Tryz.func113 #[.string t1574,.int .i64 (wrap64 ((t1574.size : Int) + a0_2))] (h:=?_); (with_reducible refine (dec_place.calls k t1574 (wrap64 ((t1574.size : Int) + a0_2)) t1575 _ A12.out).mono ?_); rintro e w25z ⟨rfl,hb⟩; refine ⟨_,rfl,?_⟩; replace BK2z:=bb BK2z hb; replace HB:=bS hb) | ((with_reducible refine gd 1 ?_); refine bx 1 #[.bool false,.slice A0_1 l0_1.length c0_1,.int .i64 a0_2] 24 (h:=?_); intro gb0z hg w1z hbox hb; have BK2z:=am hbox; have GW3z:=gW hg; have GE4z:=gW hg; replace HB:=bS hb; clear hb hbox hg; obtain ⟨hcz5z,hcz6z,hcz7z,hfz8z,hfz9z,hfz10z⟩:=cEc BK2z.out) | (refine gL (some 8) Tryz.func55 #[.agg #[.bool false,.slice A0_1 l0_1.length c0_1,.int .i64 a0_2]] (h:=?_); (with_reducible refine (dec_Check.calls k false _ _ l0_1 a0_2 t1571 _ ?side1 ?side2 A2.out).mono ?_); (case side1=>refine cp ?_; exact (Kd.C_below HR0_1.out HB.out)); (case side2=>exact HC0_1.out); rintro e w11z ⟨rfl,hb⟩; refine ⟨_,rfl,?_⟩; replace BK2z:=bb BK2z hb; replace HB:=bS hb; obtain ⟨hcz12z,hcz13z,hcz14z,hfz15z,hfz16z,hfz17z⟩:=cEc BK2z.out) | (refine gL (some 31) Tryz.func113 #[.string t1574,.int .i64 (wrap64 ((t1574.size : Int) + a0_2))] (h:=?_); (with_reducible refine (dec_place.calls k t1574 (wrap64 ((t1574.size : Int) + a0_2)) t1576 _ A21.out).mono ?_); rintro e w25z ⟨rfl,hb⟩; refine ⟨_,rfl,?_⟩; replace BK2z:=bb BK2z hb; replace HB:=bS hb) | ((with_reducible refine gd 1 ?_); refine bx 1 #[.bool a0_0,.slice A0_1 l0_1.length c0_1,.int .i64 a0_2] 24 (h:=?_); intro gb0z hg w1z hbox hb; have BK2z:=am hbox; have GW3z:=gW hg; have GE4z:=gW hg; replace HB:=bS hb; clear hb hbox hg; obtain ⟨hcz5z,hcz6z,hcz7z,hfz8z,hfz9z,hfz10z⟩:=cEc BK2z.out) | ((have q_ : ((l0_1.length : Int) != 0) = false:=c4b1; clear q_); refine gL (some 8) Tryz.func55 #[.agg #[.bool a0_0,.slice A0_1 l0_1.length c0_1,.int .i64 a0_2]] (h:=?_); (with_reducible refine (dec_Check.calls k a0_0 _ _ l0_1 a0_2 t1571 _ ?side1 ?side2 A2.out).mono ?_); (case side1=>refine cp ?_; exact (Kd.C_below HR0_1.out HB.out)); (case side2=>exact HC0_1.out); rintro e w11z ⟨rfl,hb⟩; refine ⟨_,rfl,?_⟩; replace BK2z:=bb BK2z hb; replace HB:=bS hb; obtain ⟨hcz12z,hcz13z,hcz14z,hfz15z,hfz16z,hfz17z⟩:=cEc BK2z.out) | ((have q_ : (t1571 != 0) = true:=c3b1; clear q_); refine gL (some 8) Tryz.func55 #[.agg #[.bool a0_0,.slice A0_1 l0_1.length c0_1,.int .i64 a0_2]] (h:=?_); (with_reducible refine (dec_Check.calls k a0_0 _ _ l0_1 a0_2 t1571 _ ?side1 ?side2 A2.out).mono ?_); (case side1=>refine cp ?_; exact (Kd.C_below HR0_1.out HB.out)); (case side2=>exact HC0_1.out); rintro e w11z ⟨rfl,hb⟩; refine ⟨_,rfl,?_⟩; replace BK2z:=bb BK2z hb; replace HB:=bS hb))
 go_ret2
 exact ⟨pE,pB⟩) : P:=h
theorem dec_Print.calls (k : Nat) (a0_0 : Bool) (A0_1 : Option Addr) (c0_1 : Nat) (l0_1 : List Int) (a0_2 : Int) (r1 : ByteArray) (r2 : Int) (w : World) (hr0_1 : Kd.C (Kd.int .u32) w A0_1 l0_1.length l0_1) (hc0_1 : l0_1.length<=c0_1) (h : dec_Print.f k a0_0 l0_1 a0_2 = some (r1,r2)) :
  Calls Tryz.prog 56 #[.agg #[.bool a0_0,.slice A0_1 l0_1.length c0_1,.int .i64 a0_2]] w fun e w'=>e = .returned (.tuple #[.string r1,.int .i64 r2])/\Below w.heap.size w w':=by
 have hu24:=Tryz.underlying24
 have HR0_1:=am hr0_1
 have HC0_1:=am hc0_1
 clear hr0_1 hc0_1
 have HB:=am (Below.refl w.heap.size w)
 have H : ((dec_Check.f k a0_0 l0_1 a0_2).bind fun t1571=>(if t1571 = 0 then (if (l0_1.length : Int) = 0 then (some ((⟨#[48]⟩ : ByteArray),0)) else ((nat_Print.f k l0_1).bind fun bt1572=>((dec_must2.f bt1572.1 bt1572.2).bind fun t1574=>(if a0_0 = true then ((dec_place.f k t1574 (wrap64 ((t1574.size : Int) + a0_2))).bind fun t1575=>(if 1 + t1575.size<=9223372036854775807 then (some ((⟨#[45]⟩ : ByteArray) ++ t1575,0)) else (none))) else ((dec_place.f k t1574 (wrap64 ((t1574.size : Int) + a0_2))).bind fun t1576=>(if 0 + t1576.size<=9223372036854775807 then (some ((⟨#[]⟩ : ByteArray) ++ t1576,0)) else (none))))))) else (some ((⟨#[]⟩ : ByteArray),t1571)))) = some (r1,r2):=h
 clear h
 obtain ⟨t1571,A2,H⟩:=ob H
 by_cases c3 : t1571 = 0
 ·rw [if_pos c3] at H
  have c3b0 : (t1571 == 0) = true:=beq_iff_eq.mpr c3
  have c3b1 : (t1571 != 0) = false:=bne_eq_false_iff_eq.mpr c3
  clear c3
  by_cases c4 : (l0_1.length : Int) = 0
  ·rw [if_pos c4] at H
   have c4b0 : ((l0_1.length : Int) == 0) = true:=beq_iff_eq.mpr c4
   have c4b1 : ((l0_1.length : Int) != 0) = false:=bne_eq_false_iff_eq.mpr c4
   clear c4
   simp only [Option.some.injEq,Prod.mk.injEq] at H
   obtain ⟨rfl,rfl⟩:=H
   exact dec_Print.leaf
  ·rw [if_neg c4] at H
   have c4b0 : ((l0_1.length : Int) == 0) = false:=beq_eq_false_iff_ne.mpr c4
   have c4b1 : ((l0_1.length : Int) != 0) = true:=bne_iff_ne.mpr c4
   have c4b2 : ¬ (l0_1 = []):=fun h_=>c4 (by rw [h_]; rfl)
   obtain ⟨⟨t1572,t1573⟩,A9,H⟩:=ob H; (try dsimp only at H)
   obtain ⟨t1574,A10,H⟩:=ob H
   by_cases c11 : a0_0 = true
   ·subst c11
    rw [if_pos rfl] at H
    obtain ⟨t1575,A12,H⟩:=ob H
    by_cases c13 : 1 + t1575.size<=9223372036854775807
    ·rw [if_pos c13] at H
     have c13b0:=eq_true c13
     have c13b1 : decide (1 + t1575.size<=9223372036854775807) = true:=decide_eq_true c13
     try have c13b2 : (9223372036854775807 < 1 + t1575.size) = False:=eq_false (Nat.not_lt.2 c13)
     simp only [Option.some.injEq,Prod.mk.injEq] at H
     obtain ⟨rfl,rfl⟩:=H
     exact dec_Print.leaf
    ·rw [if_neg c13] at H
     exact absurd H (by simp)
   ·replace c11:=Bool.eq_false_iff.mpr c11
    subst c11
    rw [if_neg (show ¬ (false = true) by decide)] at H
    obtain ⟨t1576,A21,H⟩:=ob H
    by_cases c22 : 0 + t1576.size<=9223372036854775807
    ·rw [if_pos c22] at H
     have c22b0:=eq_true c22
     have c22b1 : decide (0 + t1576.size<=9223372036854775807) = true:=decide_eq_true c22
     try have c22b2 : (9223372036854775807 < 0 + t1576.size) = False:=eq_false (Nat.not_lt.2 c22)
     simp only [Option.some.injEq,Prod.mk.injEq] at H
     obtain ⟨rfl,rfl⟩:=H
     exact dec_Print.leaf
    ·rw [if_neg c22] at H
     exact absurd H (by simp)
 ·rw [if_neg c3] at H
  have c3b0 : (t1571 == 0) = false:=beq_eq_false_iff_ne.mpr c3
  have c3b1 : (t1571 != 0) = true:=bne_iff_ne.mpr c3
  simp only [Option.some.injEq,Prod.mk.injEq] at H
  obtain ⟨rfl,rfl⟩:=H
  exact dec_Print.leaf
def bolterref02_digit.f (a0 : ByteArray) (a1 : Int) : Option (Bool):=if a1 < (a0.size : Int) then (if 0<=a1 then (if (bt a0 a1) >= 48 then (some (decide ((bt a0 a1)<=57))) else (some false)) else (none)) else (some false)
theorem bolterref02_digit.calls (a0 : ByteArray) (a1 : Int) (r : Bool) (w : World) (h : bolterref02_digit.f a0 a1 = some r) :
  Calls Tryz.prog 153 #[.string a0,.int .i64 a1] w fun e w'=>e = .returned (.bool r)/\Drawn0 w w':=by
 have H : (if a1 < (a0.size : Int) then (if 0<=a1 then (if (bt a0 a1) >= 48 then (some (decide ((bt a0 a1)<=57))) else (some false)) else (none)) else (some false)) = some r:=h
 clear h
 by_cases c3 : a1 < (a0.size : Int)
 ·rw [if_pos c3] at H
  have c3b0 : decide (a1 < (a0.size : Int)) = true:=decide_eq_true c3
  clear c3
  by_cases c4 : 0<=a1
  ·rw [if_pos c4] at H
   have c4b0 : decide (0<=a1) = true:=decide_eq_true c4
   clear c4
   by_cases c6 : (bt a0 a1) >= 48
   ·rw [if_pos c6] at H
    have c6b0 : decide (48<=(bt a0 a1)) = true:=decide_eq_true c6
    clear c6
    obtain rfl:=Option.some.inj H
    have p5 : 0<=(a1 : Int):=of_decide_eq_true pQ
    have q5 : a1 < (a0.size : Int):=of_decide_eq_true pQ
    have hx5:=bt_at a0 a1
    replace p5:=eq_true p5
    replace q5:=eq_true q5
    have p7 : 0<=(a1 : Int):=of_decide_eq_true pQ
    have q7 : a1 < (a0.size : Int):=of_decide_eq_true pQ
    have hx7:=bt_at a0 a1
    replace p7:=eq_true p7
    replace q7:=eq_true q7
    go_enter Tryz.func153,Tryz.ntmps153
    go_wp2
    go_ret
    exact ⟨pR,pD⟩
   ·rw [if_neg c6] at H
    have c6b0 : decide (48<=(bt a0 a1)) = false:=decide_eq_false c6
    clear c6
    obtain rfl:=Option.some.inj H
    have p5 : 0<=(a1 : Int):=of_decide_eq_true pQ
    have q5 : a1 < (a0.size : Int):=of_decide_eq_true pQ
    have hx5:=bt_at a0 a1
    replace p5:=eq_true p5
    replace q5:=eq_true q5
    go_enter Tryz.func153,Tryz.ntmps153
    go_wp2
    go_ret
    exact ⟨pR,pD⟩
  ·rw [if_neg c4] at H
   exact absurd H (by simp)
 ·rw [if_neg c3] at H
  have c3b0 : decide (a1 < (a0.size : Int)) = false:=decide_eq_false c3
  clear c3
  obtain rfl:=Option.some.inj H
  go_enter Tryz.func153,Tryz.ntmps153
  go_wp2
  go_ret
  exact ⟨pR,pD⟩
mutual
def bolterref02_Ends.j0 : Nat->ByteArray->Int->Bool->Option (Int × Bool)
 | 0,_,_,_=>none
 | k + 1,x0,x1,x15=>if x15 = true then (bolterref02_Ends.j1 k x0 (wrap64 (x1 + 1))) else (bolterref02_Ends.j1 k x0 x1)
def bolterref02_Ends.j1 : Nat->ByteArray->Int->Option (Int × Bool)
 | 0,_,_=>none
 | k + 1,x0,x1=>(bolterref02_digit.f x0 x1).bind fun t534=>(if t534 = true then (if 0<=x1 then (if x1 < (x0.size : Int) then (if (bt x0 x1) = 48 then (bolterref02_Ends.j3 k x0 (wrap64 (x1 + 1))) else (bolterref02_Ends.l0 k x0 x1)) else (none)) else (none)) else (some (x1,false)))
def bolterref02_Ends.j3 : Nat->ByteArray->Int->Option (Int × Bool)
 | 0,_,_=>none
 | k + 1,x0,x1=>if x1 < (x0.size : Int) then (if 0<=x1 then (bolterref02_Ends.j4 k x0 x1 ((bt x0 x1) == 46)) else (none)) else (bolterref02_Ends.j4 k x0 x1 false)
def bolterref02_Ends.j4 : Nat->ByteArray->Int->Bool->Option (Int × Bool)
 | 0,_,_,_=>none
 | k + 1,x0,x1,x43=>if x43 = true then ((bolterref02_digit.f x0 (wrap64 (x1 + 1))).bind fun t536=>(if t536 = true then (bolterref02_Ends.l1 k x0 (wrap64 (x1 + 1))) else (some (wrap64 (x1 + 1),false)))) else (bolterref02_Ends.j6 k x0 x1)
def bolterref02_Ends.j6 : Nat->ByteArray->Int->Option (Int × Bool)
 | 0,_,_=>none
 | k + 1,x0,x1=>if x1 < (x0.size : Int) then (if 0<=x1 then (if (bt x0 x1) = 101 then (bolterref02_Ends.j7 k x0 x1 true) else (bolterref02_Ends.j7 k x0 x1 ((bt x0 x1) == 69))) else (none)) else (bolterref02_Ends.j7 k x0 x1 false)
def bolterref02_Ends.j7 : Nat->ByteArray->Int->Bool->Option (Int × Bool)
 | 0,_,_,_=>none
 | k + 1,x0,x1,x71=>if x71 = true then (if (wrap64 (x1 + 1)) < (x0.size : Int) then (if 0<=(wrap64 (x1 + 1)) then (if (bt x0 (wrap64 (x1 + 1))) = 43 then (bolterref02_Ends.j8 k x0 (wrap64 (x1 + 1)) true) else (bolterref02_Ends.j8 k x0 (wrap64 (x1 + 1)) ((bt x0 (wrap64 (x1 + 1))) == 45))) else (none)) else (bolterref02_Ends.j8 k x0 (wrap64 (x1 + 1)) false)) else (some (x1,true))
def bolterref02_Ends.j8 : Nat->ByteArray->Int->Bool->Option (Int × Bool)
 | 0,_,_,_=>none
 | k + 1,x0,x1,x89=>if x89 = true then (bolterref02_Ends.j9 k x0 (wrap64 (x1 + 1))) else (bolterref02_Ends.j9 k x0 x1)
def bolterref02_Ends.j9 : Nat->ByteArray->Int->Option (Int × Bool)
 | 0,_,_=>none
 | k + 1,x0,x1=>(bolterref02_digit.f x0 x1).bind fun t538=>(if t538 = true then (bolterref02_Ends.l2 k x0 x1) else (some (x1,false)))
def bolterref02_Ends.l2 : Nat->ByteArray->Int->Option (Int × Bool)
 | 0,_,_=>none
 | k + 1,x0,x1=>(bolterref02_digit.f x0 x1).bind fun t539=>(if t539 = true then (bolterref02_Ends.l2 k x0 (wrap64 (x1 + 1))) else (some (x1,true)))
def bolterref02_Ends.l1 : Nat->ByteArray->Int->Option (Int × Bool)
 | 0,_,_=>none
 | k + 1,x0,x1=>(bolterref02_digit.f x0 x1).bind fun t537=>(if t537 = true then (bolterref02_Ends.l1 k x0 (wrap64 (x1 + 1))) else (bolterref02_Ends.j6 k x0 x1))
def bolterref02_Ends.l0 : Nat->ByteArray->Int->Option (Int × Bool)
 | 0,_,_=>none
 | k + 1,x0,x1=>(bolterref02_digit.f x0 x1).bind fun t535=>(if t535 = true then (bolterref02_Ends.l0 k x0 (wrap64 (x1 + 1))) else (bolterref02_Ends.j3 k x0 x1))
end
def bolterref02_Ends.f (k : Nat) (a0 : ByteArray) (a1 : Int) : Option (Int × Bool):=if a1 < (a0.size : Int) then (if 0<=a1 then (bolterref02_Ends.j0 k a0 a1 ((bt a0 a1) == 45)) else (none)) else (bolterref02_Ends.j0 k a0 a1 false)
theorem bolterref02_Ends.calls (k : Nat) (a0 : ByteArray) (a1 : Int) (r1 : Int) (r2 : Bool) (w : World) (h : bolterref02_Ends.f k a0 a1 = some (r1,r2)) :
  Calls Tryz.prog 117 #[.string a0,.int .i64 a1] w fun e w'=>e = .returned (.tuple #[.int .i64 r1,.bool r2])/\Drawn0 w w':=by
 have H : (if a1 < (a0.size : Int) then (if 0<=a1 then (bolterref02_Ends.j0 k a0 a1 ((bt a0 a1) == 45)) else (none)) else (bolterref02_Ends.j0 k a0 a1 false)) = some (r1,r2):=h
 clear h
 have HC3:=am H
 clear H
 go_enter Tryz.func117,Tryz.ntmps117
 go_upto_region 1 with (fail)
 go_cut [15] (fun v15 wc => ∃ (kq : Nat) (x15_2 : Bool),v15 = .bool x15_2/\Aside0 (bolterref02_Ends.j0 kq a0 a1 x15_2 = some (r1,r2))/\Aside0 (kq<=k)/\Drawn0 w wc)
 case first =>
  have H:=HC3.out
  clear HC3
  by_cases c4 : a1 < (a0.size : Int)
  ·rw [if_pos c4] at H
   have c4b0 : decide (a1 < (a0.size : Int)) = true:=decide_eq_true c4
   clear c4
   (first | rw [c4b0] | (simp only [i64_w,i32_w]; rw [c4b0]) | skip)
   by_cases c5 : 0<=a1
   ·rw [if_pos c5] at H
    have c5b0 : decide (0<=a1) = true:=decide_eq_true c5
    clear c5
    have H':=am H
    clear H
    have p6 : 0<=(a1 : Int):=of_decide_eq_true pQ
    have q6 : a1 < (a0.size : Int):=of_decide_eq_true pQ
    have hx6:=bt_at a0 a1
    replace p6:=eq_true p6
    replace q6:=eq_true q6
    go_wp2
    go_meet
    case rel=>exact ⟨_,(((bt a0 a1) == 45)),pR,H',⟨by first | omega | exact Nat.le_refl _⟩,pD⟩
   ·rw [if_neg c5] at H
    exact absurd H (by simp)
  ·rw [if_neg c4] at H
   have c4b0 : decide (a1 < (a0.size : Int)) = false:=decide_eq_false c4
   clear c4
   (first | rw [c4b0] | (simp only [i64_w,i32_w]; rw [c4b0]) | skip)
   have H':=am H
   clear H
   go_wp2
   go_meet
   case rel=>exact ⟨_,(false),pR,H',⟨by first | omega | exact Nat.le_refl _⟩,pD⟩
 case rest =>
  clear HC3
  obtain ⟨kq,x15_2,rfl,HA,HJ2,⟨mc2,rfl⟩⟩:=hcut
  cases kq with
  | zero=>exact absurd HA.out (by simp [bolterref02_Ends.j0])
  | succ kj2 =>
   have H:=HA.out
   clear HA
   simp only [bolterref02_Ends.j0] at H
   have HC7:=am H
   clear H
   go_upto_if 15 with (fail)
   go_cut [1] (fun v1 wc => ∃ (kq : Nat) (x1_6 : Int),v1 = .int .i64 x1_6/\Aside0 (bolterref02_Ends.j1 kq a0 x1_6 = some (r1,r2))/\Aside0 (kq<=kj2)/\Drawn0 w wc)
   case first =>
    have H:=HC7.out
    clear HC7
    by_cases c8 : x15_2 = true
    ·subst c8
     rw [if_pos rfl] at H
     have H':=am H
     clear H
     go_wp2
     go_meet
     case rel=>exact ⟨_,(wrap64 (a1 + 1)),pR,H',⟨by have := HJ2.out; first | omega | exact Nat.le_refl _⟩,pD⟩
    ·replace c8:=Bool.eq_false_iff.mpr c8
     subst c8
     rw [if_neg (show ¬ (false = true) by decide)] at H
     have H':=am H
     clear H
     go_wp2
     go_meet
     case rel=>exact ⟨_,(a1),pR,H',⟨by have := HJ2.out; first | omega | exact Nat.le_refl _⟩,pD⟩
   case rest =>
    clear HC7
    obtain ⟨kq,x1_6,rfl,HA,HJ6,⟨mc6,rfl⟩⟩:=hcut
    cases kq with
    | zero=>exact absurd HA.out (by simp [bolterref02_Ends.j1])
    | succ kj6 =>
     have H:=HA.out
     clear HA
     simp only [bolterref02_Ends.j1] at H
     obtain ⟨t534,A9,H⟩:=ob H
     by_cases c10 : t534 = true
     ·subst c10
      rw [if_pos rfl] at H
      by_cases c11 : 0<=x1_6
      ·rw [if_pos c11] at H
       have c11b0 : decide (0<=x1_6) = true:=decide_eq_true c11
       clear c11
       by_cases c12 : x1_6 < (a0.size : Int)
       ·rw [if_pos c12] at H
        have c12b0 : decide (x1_6 < (a0.size : Int)) = true:=decide_eq_true c12
        clear c12
        have HC14:=am H
        clear H
        go_upto_if 26 with (first | (refine gL (some 20) Tryz.func153 #[.string a0,.int .i64 x1_6] (h:=?_); (with_reducible refine (bolterref02_digit.calls a0 x1_6 true _ A9.out).mono ?_); rintro e w' ⟨rfl,⟨nd,rfl⟩⟩; refine ⟨_,rfl,?_⟩; have p13 : 0<=(x1_6 : Int):=of_decide_eq_true pQ; have q13 : x1_6 < (a0.size : Int):=of_decide_eq_true pQ; have hx13:=bt_at a0 x1_6; replace p13:=eq_true p13; replace q13:=eq_true q13))
        (try simp only [Act.put,List.setIfInBounds_toArray,List.set_cons_zero,List.set_cons_succ])
        go_cut [1] (fun v1 wc => ∃ (kq : Nat) (x1_13 : Int),v1 = .int .i64 x1_13/\Aside0 (bolterref02_Ends.j3 kq a0 x1_13 = some (r1,r2))/\Aside0 (kq<=kj6)/\Drawn0 w wc)
        case first =>
         have H:=HC14.out
         clear HC14
         by_cases c15 : (bt a0 x1_6) = 48
         ·rw [if_pos c15] at H
          have c15b0 : ((bt a0 x1_6) == 48) = true:=beq_iff_eq.mpr c15
          have c15b1 : ((bt a0 x1_6) != 48) = false:=bne_eq_false_iff_eq.mpr c15
          clear c15
          (first | rw [c15b0] | (simp only [i64_w,i32_w]; rw [c15b0]) | skip)
          have H':=am H
          clear H
          go_wp2
          go_meet
          case rel=>exact ⟨_,(wrap64 (x1_6 + 1)),pR,H',⟨by have := HJ2.out; have := HJ6.out; first | omega | exact Nat.le_refl _⟩,pD⟩
         ·rw [if_neg c15] at H
          have c15b0 : ((bt a0 x1_6) == 48) = false:=beq_eq_false_iff_ne.mpr c15
          have c15b1 : ((bt a0 x1_6) != 48) = true:=bne_iff_ne.mpr c15
          (first | rw [c15b0] | (simp only [i64_w,i32_w]; rw [c15b0]) | skip)
          have H':=am H
          clear H
          go_wp2
          go_loopg [1] kj6 (fun kq v1 w' => ∃ (x1_3 : Int),v1 = .int .i64 x1_3/\Aside0 (bolterref02_Ends.l0 kq a0 x1_3 = some (r1,r2))/\Aside0 (kq<=kj6)/\Drawn0 w w')
          case atStart=>exact ⟨(x1_6),pR,H',⟨Nat.le_refl _⟩,pD⟩
          case round =>
           clear H'
           obtain ⟨x1_3,rfl,HA,HK3,⟨m3,rfl⟩⟩:=hrel
           cases gk with
           | zero=>exact absurd HA.out (by simp [bolterref02_Ends.l0])
           | succ k3 =>
            have H:=HA.out
            clear HA
            simp only [bolterref02_Ends.l0] at H
            obtain ⟨t535,A16,H⟩:=ob H
            by_cases c17 : t535 = true
            ·subst c17
             rw [if_pos rfl] at H
             have H':=am H
             clear H
             go_wp2_with (first | (refine gL (some 31) Tryz.func153 #[.string a0,.int .i64 x1_3] (h:=?_); (with_reducible refine (bolterref02_digit.calls a0 x1_3 true _ A16.out).mono ?_); rintro e w' ⟨rfl,⟨nd,rfl⟩⟩; refine ⟨_,rfl,?_⟩))
             go_roundg k3
             case measure=>have := HJ2.out; have := HJ6.out; have := HK3.out; omega
             case rel=>exact ⟨(wrap64 (x1_3 + 1)),pR,H',⟨by have := HJ2.out; have := HJ6.out; have := HK3.out; omega⟩,pD⟩
            ·replace c17:=Bool.eq_false_iff.mpr c17
             subst c17
             rw [if_neg (show ¬ (false = true) by decide)] at H
             have H':=am H
             clear H
             go_wp2_with (first | (refine gL (some 31) Tryz.func153 #[.string a0,.int .i64 x1_3] (h:=?_); (with_reducible refine (bolterref02_digit.calls a0 x1_3 false _ A16.out).mono ?_); rintro e w' ⟨rfl,⟨nd,rfl⟩⟩; refine ⟨_,rfl,?_⟩))
             go_meet
             case rel=>exact ⟨_,(x1_3),pR,H',⟨by have := HJ2.out; have := HJ6.out; have := HK3.out; first | omega | exact Nat.le_refl _⟩,pD⟩
        case rest =>
         clear HC14
         obtain ⟨kq,x1_13,rfl,HA,HJ13,⟨mc13,rfl⟩⟩:=hcut
         cases kq with
         | zero=>exact absurd HA.out (by simp [bolterref02_Ends.j3])
         | succ kj13 =>
          have H:=HA.out
          clear HA
          simp only [bolterref02_Ends.j3] at H
          have HC18:=am H
          clear H
          go_upto_region 9 with (fail)
          go_cut [43] (fun v43 wc => ∃ (kq : Nat) (x43_17 : Bool),v43 = .bool x43_17/\Aside0 (bolterref02_Ends.j4 kq a0 x1_13 x43_17 = some (r1,r2))/\Aside0 (kq<=kj13)/\Drawn0 w wc)
          case first =>
           have H:=HC18.out
           clear HC18
           by_cases c19 : x1_13 < (a0.size : Int)
           ·rw [if_pos c19] at H
            have c19b0 : decide (x1_13 < (a0.size : Int)) = true:=decide_eq_true c19
            clear c19
            (first | rw [c19b0] | (simp only [i64_w,i32_w]; rw [c19b0]) | skip)
            by_cases c20 : 0<=x1_13
            ·rw [if_pos c20] at H
             have c20b0 : decide (0<=x1_13) = true:=decide_eq_true c20
             clear c20
             have H':=am H
             clear H
             have p21 : 0<=(x1_13 : Int):=of_decide_eq_true pQ
             have q21 : x1_13 < (a0.size : Int):=of_decide_eq_true pQ
             have hx21:=bt_at a0 x1_13
             replace p21:=eq_true p21
             replace q21:=eq_true q21
             go_wp2
             go_meet
             case rel=>exact ⟨_,(((bt a0 x1_13) == 46)),pR,H',⟨by have := HJ2.out; have := HJ6.out; have := HJ13.out; first | omega | exact Nat.le_refl _⟩,pD⟩
            ·rw [if_neg c20] at H
             exact absurd H (by simp)
           ·rw [if_neg c19] at H
            have c19b0 : decide (x1_13 < (a0.size : Int)) = false:=decide_eq_false c19
            clear c19
            (first | rw [c19b0] | (simp only [i64_w,i32_w]; rw [c19b0]) | skip)
            have H':=am H
            clear H
            go_wp2
            go_meet
            case rel=>exact ⟨_,(false),pR,H',⟨by have := HJ2.out; have := HJ6.out; have := HJ13.out; first | omega | exact Nat.le_refl _⟩,pD⟩
          case rest =>
           clear HC18
           obtain ⟨kq,x43_17,rfl,HA,HJ17,⟨mc17,rfl⟩⟩:=hcut
           cases kq with
           | zero=>exact absurd HA.out (by simp [bolterref02_Ends.j4])
           | succ kj17 =>
            have H:=HA.out
            clear HA
            simp only [bolterref02_Ends.j4] at H
            have HC22:=am H
            clear H
            go_upto_if 43 with (fail)
            go_cut [1] (fun v1 wc => ∃ (kq : Nat) (x1_21 : Int),v1 = .int .i64 x1_21/\Aside0 (bolterref02_Ends.j6 kq a0 x1_21 = some (r1,r2))/\Aside0 (kq<=kj17)/\Drawn0 w wc)
            case first =>
             have H:=HC22.out
             clear HC22
             by_cases c23 : x43_17 = true
             ·subst c23
              rw [if_pos rfl] at H
              obtain ⟨t536,A24,H⟩:=ob H
              by_cases c25 : t536 = true
              ·subst c25
               rw [if_pos rfl] at H
               have H':=am H
               clear H
               go_wp2_with (first | (refine gL (some 48) Tryz.func153 #[.string a0,.int .i64 (wrap64 (x1_13 + 1))] (h:=?_); (with_reducible refine (bolterref02_digit.calls a0 (wrap64 (x1_13 + 1)) true _ A24.out).mono ?_); rintro e w' ⟨rfl,⟨nd,rfl⟩⟩; refine ⟨_,rfl,?_⟩))
               go_loopg [1] kj17 (fun kq v1 w' => ∃ (x1_5 : Int),v1 = .int .i64 x1_5/\Aside0 (bolterref02_Ends.l1 kq a0 x1_5 = some (r1,r2))/\Aside0 (kq<=kj17)/\Drawn0 w w')
               case atStart=>exact ⟨(wrap64 (x1_13 + 1)),pR,H',⟨Nat.le_refl _⟩,pD⟩
               case round =>
                clear H'
                obtain ⟨x1_5,rfl,HA,HK5,⟨m5,rfl⟩⟩:=hrel
                cases gk with
                | zero=>exact absurd HA.out (by simp [bolterref02_Ends.l1])
                | succ k5 =>
                 have H:=HA.out
                 clear HA
                 simp only [bolterref02_Ends.l1] at H
                 obtain ⟨t537,A26,H⟩:=ob H
                 by_cases c27 : t537 = true
                 ·subst c27
                  rw [if_pos rfl] at H
                  have H':=am H
                  clear H
                  go_wp2_with (first | (refine gL (some 53) Tryz.func153 #[.string a0,.int .i64 x1_5] (h:=?_); (with_reducible refine (bolterref02_digit.calls a0 x1_5 true _ A26.out).mono ?_); rintro e w' ⟨rfl,⟨nd,rfl⟩⟩; refine ⟨_,rfl,?_⟩))
                  go_roundg k5
                  case measure=>have := HJ2.out; have := HJ6.out; have := HJ13.out; have := HJ17.out; have := HK5.out; omega
                  case rel=>exact ⟨(wrap64 (x1_5 + 1)),pR,H',⟨by have := HJ2.out; have := HJ6.out; have := HJ13.out; have := HJ17.out; have := HK5.out; omega⟩,pD⟩
                 ·replace c27:=Bool.eq_false_iff.mpr c27
                  subst c27
                  rw [if_neg (show ¬ (false = true) by decide)] at H
                  have H':=am H
                  clear H
                  go_wp2_with (first | (refine gL (some 53) Tryz.func153 #[.string a0,.int .i64 x1_5] (h:=?_); (with_reducible refine (bolterref02_digit.calls a0 x1_5 false _ A26.out).mono ?_); rintro e w' ⟨rfl,⟨nd,rfl⟩⟩; refine ⟨_,rfl,?_⟩))
                  go_meet
                  case rel=>exact ⟨_,(x1_5),pR,H',⟨by have := HJ2.out; have := HJ6.out; have := HJ13.out; have := HJ17.out; have := HK5.out; first | omega | exact Nat.le_refl _⟩,pD⟩
              ·replace c25:=Bool.eq_false_iff.mpr c25
               subst c25
               rw [if_neg (show ¬ (false = true) by decide)] at H
               simp only [Option.some.injEq,Prod.mk.injEq] at H
               obtain ⟨rfl,rfl⟩:=H
               go_wp2_with (first | (refine gL (some 48) Tryz.func153 #[.string a0,.int .i64 (wrap64 (x1_13 + 1))] (h:=?_); (with_reducible refine (bolterref02_digit.calls a0 (wrap64 (x1_13 + 1)) false _ A24.out).mono ?_); rintro e w' ⟨rfl,⟨nd,rfl⟩⟩; refine ⟨_,rfl,?_⟩))
               go_ret2
               exact ⟨pR,pD⟩
             ·replace c23:=Bool.eq_false_iff.mpr c23
              subst c23
              rw [if_neg (show ¬ (false = true) by decide)] at H
              have H':=am H
              clear H
              go_wp2
              go_meet
              case rel=>exact ⟨_,(x1_13),pR,H',⟨by have := HJ2.out; have := HJ6.out; have := HJ13.out; have := HJ17.out; first | omega | exact Nat.le_refl _⟩,pD⟩
            case rest =>
             clear HC22
             obtain ⟨kq,x1_21,rfl,HA,HJ21,⟨mc21,rfl⟩⟩:=hcut
             cases kq with
             | zero=>exact absurd HA.out (by simp [bolterref02_Ends.j6])
             | succ kj21 =>
              have H:=HA.out
              clear HA
              simp only [bolterref02_Ends.j6] at H
              have HC28:=am H
              clear H
              go_upto_region 15 with (fail)
              go_cut [71] (fun v71 wc => ∃ (kq : Nat) (x71_27 : Bool),v71 = .bool x71_27/\Aside0 (bolterref02_Ends.j7 kq a0 x1_21 x71_27 = some (r1,r2))/\Aside0 (kq<=kj21)/\Drawn0 w wc)
              case first =>
               have H:=HC28.out
               clear HC28
               by_cases c29 : x1_21 < (a0.size : Int)
               ·rw [if_pos c29] at H
                have c29b0 : decide (x1_21 < (a0.size : Int)) = true:=decide_eq_true c29
                clear c29
                (first | rw [c29b0] | (simp only [i64_w,i32_w]; rw [c29b0]) | skip)
                by_cases c30 : 0<=x1_21
                ·rw [if_pos c30] at H
                 have c30b0 : decide (0<=x1_21) = true:=decide_eq_true c30
                 clear c30
                 by_cases c32 : (bt a0 x1_21) = 101
                 ·rw [if_pos c32] at H
                  have c32b0 : ((bt a0 x1_21) == 101) = true:=beq_iff_eq.mpr c32
                  have c32b1 : ((bt a0 x1_21) != 101) = false:=bne_eq_false_iff_eq.mpr c32
                  clear c32
                  have H':=am H
                  clear H
                  have p31 : 0<=(x1_21 : Int):=of_decide_eq_true pQ
                  have q31 : x1_21 < (a0.size : Int):=of_decide_eq_true pQ
                  have hx31:=bt_at a0 x1_21
                  replace p31:=eq_true p31
                  replace q31:=eq_true q31
                  go_wp2
                  go_meet
                  case rel=>exact ⟨_,(true),pR,H',⟨by have := HJ2.out; have := HJ6.out; have := HJ13.out; have := HJ17.out; have := HJ21.out; first | omega | exact Nat.le_refl _⟩,pD⟩
                 ·rw [if_neg c32] at H
                  have c32b0 : ((bt a0 x1_21) == 101) = false:=beq_eq_false_iff_ne.mpr c32
                  have c32b1 : ((bt a0 x1_21) != 101) = true:=bne_iff_ne.mpr c32
                  have H':=am H
                  clear H
                  have p31 : 0<=(x1_21 : Int):=of_decide_eq_true pQ
                  have q31 : x1_21 < (a0.size : Int):=of_decide_eq_true pQ
                  have hx31:=bt_at a0 x1_21
                  replace p31:=eq_true p31
                  replace q31:=eq_true q31
                  have p33 : 0<=(x1_21 : Int):=of_decide_eq_true pQ
                  have q33 : x1_21 < (a0.size : Int):=of_decide_eq_true pQ
                  have hx33:=bt_at a0 x1_21
                  replace p33:=eq_true p33
                  replace q33:=eq_true q33
                  go_wp2
                  go_meet
                  case rel=>exact ⟨_,(((bt a0 x1_21) == 69)),pR,H',⟨by have := HJ2.out; have := HJ6.out; have := HJ13.out; have := HJ17.out; have := HJ21.out; first | omega | exact Nat.le_refl _⟩,pD⟩
                ·rw [if_neg c30] at H
                 exact absurd H (by simp)
               ·rw [if_neg c29] at H
                have c29b0 : decide (x1_21 < (a0.size : Int)) = false:=decide_eq_false c29
                clear c29
                (first | rw [c29b0] | (simp only [i64_w,i32_w]; rw [c29b0]) | skip)
                have H':=am H
                clear H
                go_wp2
                go_meet
                case rel=>exact ⟨_,(false),pR,H',⟨by have := HJ2.out; have := HJ6.out; have := HJ13.out; have := HJ17.out; have := HJ21.out; first | omega | exact Nat.le_refl _⟩,pD⟩
              case rest =>
               clear HC28
               obtain ⟨kq,x71_27,rfl,HA,HJ27,⟨mc27,rfl⟩⟩:=hcut
               cases kq with
               | zero=>exact absurd HA.out (by simp [bolterref02_Ends.j7])
               | succ kj27 =>
                have H:=HA.out
                clear HA
                simp only [bolterref02_Ends.j7] at H
                by_cases c34 : x71_27 = true
                ·subst c34
                 rw [if_pos rfl] at H
                 have HC35:=am H
                 clear H
                 go_upto_region 17 with (fail)
                 go_cut [89] (fun v89 wc => ∃ (kq : Nat) (x89_34 : Bool),v89 = .bool x89_34/\Aside0 (bolterref02_Ends.j8 kq a0 (wrap64 (x1_21 + 1)) x89_34 = some (r1,r2))/\Aside0 (kq<=kj27)/\Drawn0 w wc)
                 case first =>
                  have H:=HC35.out
                  clear HC35
                  by_cases c36 : (wrap64 (x1_21 + 1)) < (a0.size : Int)
                  ·rw [if_pos c36] at H
                   have c36b0 : decide ((wrap64 (x1_21 + 1)) < (a0.size : Int)) = true:=decide_eq_true c36
                   clear c36
                   (first | rw [c36b0] | (simp only [i64_w,i32_w]; rw [c36b0]) | skip)
                   obtain ⟨ji37,hji37⟩ : ∃ j_ : Int,(wrap64 (x1_21 + 1)) = j_:=⟨_,rfl⟩
                   replace H : (if 0<=(ji37) then (if (bt a0 (ji37)) = 43 then (bolterref02_Ends.j8 kj27 a0 ji37 true) else (bolterref02_Ends.j8 kj27 a0 ji37 ((bt a0 (ji37)) == 45))) else (none)) = some (r1,r2):=by first | (rw [hji37] at H; exact H) | (simp only [hji37] at H ⊢; exact H)
                   (try rw [hji37] at c36b0)
                   have hji37w : (IntKind.i64.wrap (x1_21 + 1)) = ji37:=(i64_w _).trans hji37
                   by_cases c38 : 0<=(ji37)
                   ·rw [if_pos c38] at H
                    have c38b0 : decide (0<=(ji37)) = true:=decide_eq_true c38
                    clear c38
                    by_cases c40 : (bt a0 (ji37)) = 43
                    ·rw [if_pos c40] at H
                     have c40b0 : ((bt a0 (ji37)) == 43) = true:=beq_iff_eq.mpr c40
                     have c40b1 : ((bt a0 (ji37)) != 43) = false:=bne_eq_false_iff_eq.mpr c40
                     clear c40
                     have H':=am H
                     clear H
                     have p39 : 0<=((ji37) : Int):=of_decide_eq_true pQ
                     have q39 : (ji37) < (a0.size : Int):=of_decide_eq_true pQ
                     have hx39:=bt_at a0 (ji37)
                     replace p39:=eq_true p39
                     replace q39:=eq_true q39
                     go_wp2
                     go_meet
                     case rel=>exact ⟨_,(true),pR,(by first | exact H' | (have H_:=H'.out; simp only [<- hji37] at H_; exact ⟨H_⟩) | (refine ⟨?_⟩; have H_:=H'.out; simp only [<- hji37] at H_ ⊢; exact H_)),⟨by have := HJ2.out; have := HJ6.out; have := HJ13.out; have := HJ17.out; have := HJ21.out; have := HJ27.out; first | omega | exact Nat.le_refl _⟩,pD⟩
                    ·rw [if_neg c40] at H
                     have c40b0 : ((bt a0 (ji37)) == 43) = false:=beq_eq_false_iff_ne.mpr c40
                     have c40b1 : ((bt a0 (ji37)) != 43) = true:=bne_iff_ne.mpr c40
                     have H':=am H
                     clear H
                     have p39 : 0<=((ji37) : Int):=of_decide_eq_true pQ
                     have q39 : (ji37) < (a0.size : Int):=of_decide_eq_true pQ
                     have hx39:=bt_at a0 (ji37)
                     replace p39:=eq_true p39
                     replace q39:=eq_true q39
                     have p41 : 0<=((ji37) : Int):=of_decide_eq_true pQ
                     have q41 : (ji37) < (a0.size : Int):=of_decide_eq_true pQ
                     have hx41:=bt_at a0 (ji37)
                     replace p41:=eq_true p41
                     replace q41:=eq_true q41
                     go_wp2
                     go_meet
                     case rel=>exact ⟨_,(((bt a0 (ji37)) == 45)),(by first | rfl | (simp; done) | (simp only [<- hji37] <;> (first | rfl | simp)) | (simp [*]; done)),(by first | exact H' | (have H_:=H'.out; simp only [<- hji37] at H_; exact ⟨H_⟩) | (refine ⟨?_⟩; have H_:=H'.out; simp only [<- hji37] at H_ ⊢; exact H_)),⟨by have := HJ2.out; have := HJ6.out; have := HJ13.out; have := HJ17.out; have := HJ21.out; have := HJ27.out; first | omega | exact Nat.le_refl _⟩,pD⟩
                   ·rw [if_neg c38] at H
                    exact absurd H (by simp)
                  ·rw [if_neg c36] at H
                   have c36b0 : decide ((wrap64 (x1_21 + 1)) < (a0.size : Int)) = false:=decide_eq_false c36
                   clear c36
                   (first | rw [c36b0] | (simp only [i64_w,i32_w]; rw [c36b0]) | skip)
                   have H':=am H
                   clear H
                   go_wp2
                   go_meet
                   case rel=>exact ⟨_,(false),pR,H',⟨by have := HJ2.out; have := HJ6.out; have := HJ13.out; have := HJ17.out; have := HJ21.out; have := HJ27.out; first | omega | exact Nat.le_refl _⟩,pD⟩
                 case rest =>
                  clear HC35
                  obtain ⟨kq,x89_34,rfl,HA,HJ34,⟨mc34,rfl⟩⟩:=hcut
                  cases kq with
                  | zero=>exact absurd HA.out (by simp [bolterref02_Ends.j8])
                  | succ kj34 =>
                   have H:=HA.out
                   clear HA
                   simp only [bolterref02_Ends.j8] at H
                   have HC42:=am H
                   clear H
                   go_upto_if 89 with (fail)
                   go_cut [1] (fun v1 wc => ∃ (kq : Nat) (x1_41 : Int),v1 = .int .i64 x1_41/\Aside0 (bolterref02_Ends.j9 kq a0 x1_41 = some (r1,r2))/\Aside0 (kq<=kj34)/\Drawn0 w wc)
                   case first =>
                    have H:=HC42.out
                    clear HC42
                    by_cases c43 : x89_34 = true
                    ·subst c43
                     rw [if_pos rfl] at H
                     have H':=am H
                     clear H
                     go_wp2
                     go_meet
                     case rel=>exact ⟨_,(wrap64 ((wrap64 (x1_21 + 1)) + 1)),pR,H',⟨by have := HJ2.out; have := HJ6.out; have := HJ13.out; have := HJ17.out; have := HJ21.out; have := HJ27.out; have := HJ34.out; first | omega | exact Nat.le_refl _⟩,pD⟩
                    ·replace c43:=Bool.eq_false_iff.mpr c43
                     subst c43
                     rw [if_neg (show ¬ (false = true) by decide)] at H
                     have H':=am H
                     clear H
                     go_wp2
                     go_meet
                     case rel=>exact ⟨_,((wrap64 (x1_21 + 1))),pR,H',⟨by have := HJ2.out; have := HJ6.out; have := HJ13.out; have := HJ17.out; have := HJ21.out; have := HJ27.out; have := HJ34.out; first | omega | exact Nat.le_refl _⟩,pD⟩
                   case rest =>
                    clear HC42
                    obtain ⟨kq,x1_41,rfl,HA,HJ41,⟨mc41,rfl⟩⟩:=hcut
                    cases kq with
                    | zero=>exact absurd HA.out (by simp [bolterref02_Ends.j9])
                    | succ kj41 =>
                     have H:=HA.out
                     clear HA
                     simp only [bolterref02_Ends.j9] at H
                     obtain ⟨t538,A44,H⟩:=ob H
                     by_cases c45 : t538 = true
                     ·subst c45
                      rw [if_pos rfl] at H
                      have H':=am H
                      clear H
                      go_wp2_with (first | (refine gL (some 94) Tryz.func153 #[.string a0,.int .i64 x1_41] (h:=?_); (with_reducible refine (bolterref02_digit.calls a0 x1_41 true _ A44.out).mono ?_); rintro e w' ⟨rfl,⟨nd,rfl⟩⟩; refine ⟨_,rfl,?_⟩))
                      go_loopg [1] kj41 (fun kq v1 w' => ∃ (x1_9 : Int),v1 = .int .i64 x1_9/\Aside0 (bolterref02_Ends.l2 kq a0 x1_9 = some (r1,r2))/\Aside0 (kq<=kj41)/\Drawn0 w w')
                      case atStart=>exact ⟨(x1_41),pR,H',⟨Nat.le_refl _⟩,pD⟩
                      case round =>
                       clear H'
                       obtain ⟨x1_9,rfl,HA,HK9,⟨m9,rfl⟩⟩:=hrel
                       cases gk with
                       | zero=>exact absurd HA.out (by simp [bolterref02_Ends.l2])
                       | succ k9 =>
                        have H:=HA.out
                        clear HA
                        simp only [bolterref02_Ends.l2] at H
                        obtain ⟨t539,A46,H⟩:=ob H
                        by_cases c47 : t539 = true
                        ·subst c47
                         rw [if_pos rfl] at H
                         have H':=am H
                         clear H
                         go_wp2_with (first | (refine gL (some 99) Tryz.func153 #[.string a0,.int .i64 x1_9] (h:=?_); (with_reducible refine (bolterref02_digit.calls a0 x1_9 true _ A46.out).mono ?_); rintro e w' ⟨rfl,⟨nd,rfl⟩⟩; refine ⟨_,rfl,?_⟩))
                         go_roundg k9
                         case measure=>have := HJ2.out; have := HJ6.out; have := HJ13.out; have := HJ17.out; have := HJ21.out; have := HJ27.out; have := HJ34.out; have := HJ41.out; have := HK9.out; omega
                         case rel=>exact ⟨(wrap64 (x1_9 + 1)),pR,H',⟨by have := HJ2.out; have := HJ6.out; have := HJ13.out; have := HJ17.out; have := HJ21.out; have := HJ27.out; have := HJ34.out; have := HJ41.out; have := HK9.out; omega⟩,pD⟩
                        ·replace c47:=Bool.eq_false_iff.mpr c47
                         subst c47
                         rw [if_neg (show ¬ (false = true) by decide)] at H
                         simp only [Option.some.injEq,Prod.mk.injEq] at H
                         obtain ⟨rfl,rfl⟩:=H
                         go_wp2_with (first | (refine gL (some 99) Tryz.func153 #[.string a0,.int .i64 x1_9] (h:=?_); (with_reducible refine (bolterref02_digit.calls a0 x1_9 false _ A46.out).mono ?_); rintro e w' ⟨rfl,⟨nd,rfl⟩⟩; refine ⟨_,rfl,?_⟩))
                         go_ret2
                         exact ⟨pR,pD⟩
                     ·replace c45:=Bool.eq_false_iff.mpr c45
                      subst c45
                      rw [if_neg (show ¬ (false = true) by decide)] at H
                      simp only [Option.some.injEq,Prod.mk.injEq] at H
                      obtain ⟨rfl,rfl⟩:=H
                      go_wp2_with (first | (refine gL (some 94) Tryz.func153 #[.string a0,.int .i64 x1_41] (h:=?_); (with_reducible refine (bolterref02_digit.calls a0 x1_41 false _ A44.out).mono ?_); rintro e w' ⟨rfl,⟨nd,rfl⟩⟩; refine ⟨_,rfl,?_⟩))
                      go_ret2
                      exact ⟨pR,pD⟩
                ·replace c34:=Bool.eq_false_iff.mpr c34
                 subst c34
                 rw [if_neg (show ¬ (false = true) by decide)] at H
                 simp only [Option.some.injEq,Prod.mk.injEq] at H
                 obtain ⟨rfl,rfl⟩:=H
                 go_wp2
                 go_ret2
                 exact ⟨pR,pD⟩
       ·rw [if_neg c12] at H
        exact absurd H (by simp)
      ·rw [if_neg c11] at H
       exact absurd H (by simp)
     ·replace c10:=Bool.eq_false_iff.mpr c10
      subst c10
      rw [if_neg (show ¬ (false = true) by decide)] at H
      simp only [Option.some.injEq,Prod.mk.injEq] at H
      obtain ⟨rfl,rfl⟩:=H
      go_wp2_with (first | (refine gL (some 20) Tryz.func153 #[.string a0,.int .i64 x1_6] (h:=?_); (with_reducible refine (bolterref02_digit.calls a0 x1_6 false _ A9.out).mono ?_); rintro e w' ⟨rfl,⟨nd,rfl⟩⟩; refine ⟨_,rfl,?_⟩))
      go_ret2
      exact ⟨pR,pD⟩
end YtjbjkmccfocikaaGreatDoor.B
end
end Go.Proofs
