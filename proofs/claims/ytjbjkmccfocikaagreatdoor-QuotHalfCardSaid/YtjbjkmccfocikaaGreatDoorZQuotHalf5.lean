/- QuotHalf, part 6 of 7 of its proof (no condition); names with a low line are shortened throughout. -/
import Derived.Test.YtjbjkmccfocikaaGreatDoorZQuotHalf4
import Derived.KernelRfl
import Derived.ChangeSlices
import Derived.ChangeArms
import Derived.Lib.SmallJoins
import Derived.Carry
set_option linter.unusedVariables false
set_option linter.unusedSimpArgs false
set_option maxRecDepth 100000
set_option maxHeartbeats 8000000
namespace Go.Proofs
section
namespace YtjbjkmccfocikaaGreatDoor.B
open Go.RowKit YtjbjkmccfocikaaGreatDoorW.PrintWords YtjbjkmccfocikaaGreatDoorW.PrintLast YtjbjkmccfocikaaGreatDoorW.PrintMore
attribute [local go_sem] Zb5 Zb7 Zcs Zct Zbn Zbo Zb6 Zb8
def Zbm.f (k:Nat) (l0:List Int):Option (Int):=(Zat.f k l0).bind fun bt298=>((Zcw.f bt298.1 bt298.2).bind fun t300=>(some (t300.size:Int)))
theorem Zbm.calls (k:Nat) (A0:Option Addr) (c0:Nat) (l0:List Int) (r:Int) (w:World) (hr0:Kd.C (Kd.int .u32) w A0 l0.length l0) (hc0:l0.length<=c0) (h:Zbm.f k l0=some r) :
  Calls Tryz.prog 68 #[.slice A0 l0.length c0] w fun e w'=>e=.returned (.int .i64 r)/\Below w.heap.size w w':=by
 have HR0:=am hr0
 have HC0:=am hc0
 clear hr0 hc0
 have HB:=am (Below.refl w.heap.size w)
 have H:((Zat.f k l0).bind fun bt298=>((Zcw.f bt298.1 bt298.2).bind fun t300=>(some (t300.size:Int))))=some r:=h
 clear h
 obtain ⟨⟨t298,t299⟩,A2,H⟩:=ob H;(try dsimp only at H)
 obtain ⟨t300,A3,H⟩:=ob H
 obtain rfl:=Option.some.inj H
 go_enter Tryz.func68,Tryz.ntmps68
 go_wp2_with (first|(refine gL (some 4) Tryz.func112 #[.slice A0 l0.length c0] (h:=?_);(with_reducible refine (Zat.calls k (fun k_=>k_ < w.heap.size) _ _ l0 t298 t299 _ ?side1 A2.o).mono ?_);(case side1=>exact Kd.V_mk HC0.o (Kd.Zfz (Kd.C_F (Kd.Zgc .u32) HR0.o) pB));rintro e w4 ⟨rfl,hb⟩;refine ⟨_,rfl,?_⟩;replace HB:=bS hb)|(refine gL (some 7) Tryz.func125 #[.string t298,.int .i64 t299] (h:=?_);(with_reducible refine (Zcw.calls t298 t299 t300 _ A3.o).mono ?_);rintro e w' ⟨rfl,⟨nd,rfl⟩⟩;refine ⟨_,rfl,?_⟩))
 go_ret
 exact ⟨pE,pB⟩
def Zu.f (l0:List Int) (a1:Int):Option (List Int):=some l0
theorem Zu.calls (P0_:Nat->Prop) (u9000_:Value) (l0:List Int) (a1:Int) (r:List Int) (w0 w:World) (hB:Below w0.heap.size w0 w) (ho0:Kd.R (Kd.int .u32) 85 w w0.heap.size P0_ u9000_ l0) (h:Zu.f l0 a1=some r) :
  Calls Tryz.prog 70 #[u9000_,.int .i64 a1] w fun e w' => ∃ v0_:Value,e=.returned (v0_)/\Kd.R (Kd.int .u32) 85 w' w0.heap.size (fun k_=>(P0_ k_\/w.heap.size<=k_)) v0_ r/\Below w0.heap.size w0 w'/\Kept w w' (fun k_=>P0_ k_):=by
 have HO0:=am (show Kd.R (Kd.int .u32) 85 w w0.heap.size (fun k_=>(P0_ k_\/w.heap.size<=k_)) u9000_ l0 from Kd.Zi ho0 (fun k_ hk=>(.inl hk)))
 have HK:=am (Kept.refl w (fun k_=>P0_ k_))
 have HW0:=am hB.size
 have HB:=am hB
 clear hB
 have H:(some l0)=some r:=h
 clear h
 obtain rfl:=Option.some.inj H
 go_enter Tryz.func70,Tryz.ntmps70
 go_wp2
 go_ret
 exact ⟨_,pE,by refine rp ?_;exact HO0.o,pB,by repeat (first|(with_reducible first|exact HK.out|apply Kept.alloc|apply Kept.drewN|apply Kept.drew)|exact HK.out)⟩
def Zcn.f (k:Nat) (a0:Int):Option (List Int):=(Zf4.f k a0).bind fun bt327=>((Zu.f bt327.1 bt327.2).bind fun t331=>(some t331))
theorem Zcn.calls (k:Nat) (a0:Int) (r:List Int) (w:World) (h:Zcn.f k a0=some r) :
  Calls Tryz.prog 72 #[.int .i64 a0] w fun e w' => ∃ v0_:Value,e=.returned (v0_)/\Kd.R (Kd.int .u32) 85 w' w.heap.size (fun _=>True) v0_ r/\Below w.heap.size w w':=by
 have HB:=am (Below.refl w.heap.size w)
 have H:((Zf4.f k a0).bind fun bt327=>((Zu.f bt327.1 bt327.2).bind fun t331=>(some t331)))=some r:=h
 clear h
 obtain ⟨⟨t327,t328⟩,A2,H⟩:=ob H;(try dsimp only at H)
 obtain ⟨t331,A3,H⟩:=ob H
 obtain rfl:=Option.some.inj H
 go_enter Tryz.func72,Tryz.ntmps72
 go_wp2_with (first|(refine gL (some 4) Tryz.func130 #[.int .i64 a0] (h:=?_);(with_reducible refine (Zf4.calls k a0 t327 t328 _ A2.o).mono ?_);rintro e w4 ⟨v329,rfl,ho0,hb⟩;refine ⟨_,rfl,?_⟩;have HO330:=am (Kd.Zq ho0 (Zb pB));replace HB:=bS hb;obtain ⟨Ao5,co5,eo5⟩:=Kd.Zj HO330.o;subst eo5)|(refine gL (some 7) Tryz.func70 #[.slice Ao5 t327.length co5,.int .i64 t328] (h:=?_);(with_reducible refine (Zu.calls (fun k_=>some k_=(.slice Ao5 t327.length co5:Value).ownBlock) (.slice Ao5 t327.length co5) t327 t328 t331 w _ ?side1 ?side2 A3.o).mono ?_);(case side1=>exact pB);(case side2=>exact Kd.Zbl rfl HO330.o);rintro e w6 ⟨v332,rfl,ho0,hb,hkp⟩;refine ⟨_,rfl,?_⟩;have HO333:=am (Kd.Zi (ok':=fun k_=>True) ho0 (fun k_ hk_=>trivial));replace HB:=am hb;clear HO330))
 go_ret
 exact ⟨_,pE,by refine rp ?_;exact HO333.o,pB⟩
def Zca.f (k:Nat) (l0:List Int) (a1:Int):Option (List Int × List Int × Int):=(Zbm.f k l0).bind fun t334=>((Zcn.f k (mx (wrap64 (t334 - a1)) 0)).bind fun t335=>((Zdm.f k l0 t335).bind fun bt338=>(some (bt338.1,bt338.2.1,mx (wrap64 (t334 - a1)) 0))))
theorem Zca.calls (k:Nat) (A0:Option Addr) (c0:Nat) (l0:List Int) (a1:Int) (r1:List Int) (r2:List Int) (r3:Int) (w:World) (hr0:Kd.C (Kd.int .u32) w A0 l0.length l0) (hc0:l0.length<=c0) (h:Zca.f k l0 a1=some (r1,r2,r3)) :
  Calls Tryz.prog 73 #[.slice A0 l0.length c0,.int .i64 a1] w fun e w' => ∃ v0_ v1_:Value,e=.returned (.tuple #[v0_,v1_,.int .i64 r3])/\Kd.R (Kd.int .u32) 85 w' w.heap.size (fun k_=>some k_ ≠ (v1_:Value).ownBlock) v0_ r1/\Kd.R (Kd.int .u32) 85 w' w.heap.size (fun k_=>some k_ ≠ (v0_:Value).ownBlock) v1_ r2/\Below w.heap.size w w':=by
 have HR0:=am hr0
 have HC0:=am hc0
 clear hr0 hc0
 have HB:=am (Below.refl w.heap.size w)
 have H:((Zbm.f k l0).bind fun t334=>((Zcn.f k (mx (wrap64 (t334 - a1)) 0)).bind fun t335=>((Zdm.f k l0 t335).bind fun bt338=>(some (bt338.1,bt338.2.1,mx (wrap64 (t334 - a1)) 0)))))=some (r1,r2,r3):=h
 clear h
 obtain ⟨t334,A3,H⟩:=ob H
 obtain ⟨ji4,hji4⟩:∃ j_:Int,(mx (wrap64 (t334 - a1)) 0)=j_:=⟨_,rfl⟩
 replace H:((Zcn.f k (ji4)).bind fun t335=>((Zdm.f k l0 t335).bind fun bt338=>(some (bt338.1,bt338.2.1,ji4))))=some (r1,r2,r3):=by first|(rw [hji4] at H;exact H)|(simp only [hji4] at H ⊢;exact H)
 (try rw [hji4] at A3)
 (try (have hji4l:0<=ji4:=by (rw [<- hji4];unfold mx;(repeat' split) <;> omega)))
 (try (have hji4m:0<=ji4:=by omega))
 have hji4_:(if (wrap64 (t334 - a1)) < 0 then 0 else (wrap64 (t334 - a1)))=ji4:=hji4
 obtain ⟨t335,A5,H⟩:=ob H
 obtain ⟨⟨t338,t339,t340⟩,A6,H⟩:=ob H;(try dsimp only at H)
 simp only [Option.some.injEq,Prod.mk.injEq] at H
 obtain ⟨rfl,rfl,rfl⟩:=H
 go_enter Tryz.func73,Tryz.ntmps73
 go_wp2_with (first|(refine gL (some 8) Tryz.func68 #[.slice A0 l0.length c0] (h:=?_);(with_reducible refine (Zbm.calls k _ _ l0 t334 _ ?side1 ?side2 A3.o).mono ?_);(case side1=>refine cp ?_;exact HR0.o);(case side2=>exact HC0.o);rintro e w7 ⟨rfl,hb⟩;refine ⟨_,rfl,?_⟩;replace HB:=bS hb)|((with_reducible refine Zdz (f:=72) rfl ?_);refine goesL_ (some 15) rfl rfl Tryz.func72 (by kernel_rfl) rfl #[.int .i64 ji4] rfl (by (try simp only [List.map_toArray,List.map_cons,List.map_nil]);first|done|(simp only [hji4];rfl)|rfl|(simp only [List.length_drop,List.length_take];rfl)) ?_;(with_reducible refine (Zcn.calls k ji4 t335 _ A5.o).mono ?_);rintro e w8 ⟨v336,rfl,ho0,hb⟩;refine ⟨_,rfl,?_⟩;have HO337:=am (Kd.Zq ho0 (Zb pB));replace HB:=bS hb;obtain ⟨Ao9,co9,eo9⟩:=Kd.Zj HO337.o;subst eo9)|(refine gL (some 16) Tryz.func69 #[.slice A0 l0.length c0,.slice Ao9 t335.length co9] (h:=?_);(with_reducible refine (Zdm.calls k _ _ l0 _ _ t335 t338 t339 t340 _ ?side1 ?side2 ?side3 ?side4 A6.o).mono ?_);(case side1=>exact cB HR0 HB);(case side2=>exact HC0.o);(case side3=>exact Kd.Zx (Kd.Zd HO337.o).2.2 pl);(case side4=>exact (Kd.Zd HO337.o).2.1);rintro e w10 ⟨v341,v343,rfl,ho0,ho1,hb⟩;refine ⟨_,rfl,?_⟩;have HO342:=am (Kd.Zq (Kd.Zr ho0 (Kd.R_lt (Kd.Za HO337.o pl))) (Zb pB));have HO344:=am (Kd.Zq (Kd.Zr ho1 (Kd.R_lt (Kd.Za HO337.o pl))) (Zb pB));replace HO337:=am (Kd.Zi (Kd.Zc7 (Kd.Zc7 (Kd.Zgo (Kd.Za HO337.o pl) hb) (Kd.Zap ho0)) (Kd.Zap ho1)) (fun _ h_=>h_.1));replace HB:=bS hb))
 go_ret3
 exact ⟨_,_,by first|rfl|(simp [Zak,Zal] <;> rfl)|(simp only [<- hji4];first|rfl|(simp [Zak,Zal] <;> rfl))|(simp [*,Zak,Zal] <;> rfl),by refine rp ?_;exact Kd.Zi HO342.o (fun _ hk=>hk.1),by refine rp ?_;exact Kd.Zi HO344.o (fun _ hk=>hk.1),pB⟩
def Zbg.f (k:Nat) (l0:List Int) (l1:List Int) (a2:Int) (a3:Bool):Option (Bool):=if a2=0 then (some false) else ((Zcn.f k (wrap64 (a2 - 1))).bind fun t356=>((Zc5.f k 5).bind fun t359=>((Zdn.f k t356 t359).bind fun bt362=>((Zu.f bt362.1 bt362.2).bind fun t366=>((Zdg.f k l1 t366).bind fun bt369=>(if (l0.length:Int) > 0 then (if 0 < (l0.length:Int) then (if bt369.1 > 0 then (some true) else (if bt369.1=0 then (if a3=true then (some true) else (some ((Int.tmod (rd l0 0) 2) == 1))) else (some false))) else (none)) else (if bt369.1 > 0 then (some true) else (if bt369.1=0 then (if a3=true then (some true) else (some false)) else (some false)))))))))
theorem Zbg.leaf {P:Prop} (h:P:=by
 go_enter Tryz.func74,Tryz.ntmps74
 go_wp2_with (first|(refine gL (some 17) Tryz.func72 #[.int .i64 (wrap64 (a2 - 1))] (h:=?_);(with_reducible refine (Zcn.calls k (wrap64 (a2 - 1)) t356 _ A6.o).mono ?_);rintro e w0z ⟨v1z,rfl,ho2z,hb⟩;refine ⟨_,rfl,?_⟩;have HO3z:=am (Kd.Zq ho2z (Zb pB));replace HB:=bS hb)|(refine gL (some 18) Tryz.func76 #[.int .u64 5] (h:=?_);(with_reducible refine (Zc5.calls k 5 t359 _ A7.o).mono ?_);rintro e w4z ⟨v5z,rfl,ho2z,hb⟩;refine ⟨_,rfl,?_⟩;have HO6z:=am (Kd.Zq (Kd.Zr ho2z (Kd.R_lt (Kd.Za HO3z.o pl))) (Zb pB));replace HO3z:=reR HO3z ho2z hb;replace HB:=bS hb;obtain ⟨Ao7z,co8z,eo9z⟩:=Kd.Zj HO3z.o;subst eo9z;obtain ⟨Ao10z,co11z,eo12z⟩:=Kd.Zj HO6z.o;subst eo12z)|(refine gL (some 19) Tryz.func71 #[.slice Ao7z t356.length co8z,.slice Ao10z t359.length co11z] (h:=?_);(with_reducible refine (Zdn.calls k _ _ t356 _ _ t359 t362 t363 _ ?side1 ?side2 ?side3 ?side4 A8.o).mono ?_);(case side1=>exact Kd.Zx (Kd.Zd HO3z.o).2.2 pl);(case side2=>exact (Kd.Zd HO3z.o).2.1);(case side3=>exact Kd.Zx (Kd.Zd HO6z.o).2.2 pl);(case side4=>exact (Kd.Zd HO6z.o).2.1);rintro e w13z ⟨v14z,rfl,ho2z,hb⟩;refine ⟨_,rfl,?_⟩;have HO15z:=am (Kd.Zq (Kd.Zr (Kd.Zr ho2z (Kd.R_lt (Kd.Za HO3z.o pl))) (Kd.R_lt (Kd.Za HO6z.o pl))) (Zb pB));replace HO3z:=reR HO3z ho2z hb;replace HO6z:=reR HO6z ho2z hb;replace HB:=bS hb;obtain ⟨Ao16z,co17z,eo18z⟩:=Kd.Zj HO15z.o;subst eo18z)|(refine gL (some 22) Tryz.func70 #[.slice Ao16z t362.length co17z,.int .i64 t363] (h:=?_);(with_reducible refine (Zu.calls (fun k_=>some k_=(.slice Ao16z t362.length co17z:Value).ownBlock) (.slice Ao16z t362.length co17z) t362 t363 t366 w _ ?side1 ?side2 A9.o).mono ?_);(case side1=>exact pB);(case side2=>exact Kd.Zbl rfl HO15z.o);rintro e w19z ⟨v20z,rfl,ho2z,hb,hkp⟩;refine ⟨_,rfl,?_⟩;have HO21z:=am (Kd.Zi (ok':=fun k_=>some k_ ≠ (.slice Ao7z t356.length co8z:Value).ownBlock/\some k_ ≠ (.slice Ao10z t359.length co11z:Value).ownBlock) ho2z (fun k_ hk_=>⟨Or.elim hk_ (fun hs_=>fun e_=>(((HO3z.o).1 k_ e_.symm).2) hs_) (fun hn_=>(Kd.fresh' (Kd.R_lt (Kd.Za HO3z.o pl)) k_ hn_)),Or.elim hk_ (fun hs_=>fun e_=>(((HO6z.o).1 k_ e_.symm).2) hs_) (fun hn_=>(Kd.fresh' (Kd.R_lt (Kd.Za HO6z.o pl)) k_ hn_))⟩));replace HO3z:=am (Kd.Zi (ok':=fun k_=>some k_ ≠ (.slice Ao10z t359.length co11z:Value).ownBlock/\some k_ ≠ (v20z:Value).ownBlock) (Kd.Zcc (HO3z.o) hkp (fun k_ hk_ hs_=>(hk_.2) hs_)) (fun k_ hk_=>⟨hk_.1.1.2,fun e_=>Or.elim (ho2z.1 k_ e_.symm) (fun hs_=>hk_.2.1 hs_) (fun hn_=>Nat.not_le.2 hk_.2.2 hn_)⟩));replace HO6z:=am (Kd.Zi (ok':=fun k_=>some k_ ≠ (.slice Ao7z t356.length co8z:Value).ownBlock/\some k_ ≠ (v20z:Value).ownBlock) (Kd.Zcc (HO6z.o) hkp (fun k_ hk_ hs_=>(hk_.2) hs_)) (fun k_ hk_=>⟨hk_.1.1.2,fun e_=>Or.elim (ho2z.1 k_ e_.symm) (fun hs_=>hk_.2.1 hs_) (fun hn_=>Nat.not_le.2 hk_.2.2 hn_)⟩));replace HB:=am hb;clear HO15z;obtain ⟨Ao22z,co23z,eo24z⟩:=Kd.Zj HO21z.o;subst eo24z)|((have q_:decide (0 < l0.length)=true:=c12b1;clear q_);refine gL (some 26) Tryz.func90 #[.slice A1 l1.length c1,.slice Ao22z t366.length co23z] (h:=?_);(with_reducible refine (Zdg.calls k _ _ l1 _ _ t366 t369 t370 _ ?side1 ?side2 ?side3 ?side4 A10.o).mono ?_);(case side1=>exact cB HR1 HB);(case side2=>exact HC1.o);(case side3=>exact Kd.Zx (Kd.Zd HO21z.o).2.2 pl);(case side4=>exact (Kd.Zd HO21z.o).2.1);rintro e w25z ⟨rfl,hb⟩;refine ⟨_,rfl,?_⟩;replace HO3z:=rbl HO3z hb;replace HO6z:=rbl HO6z hb;replace HO21z:=rbl HO21z hb;replace HB:=bS hb;have p26z:0<=(0:Int):=(by omega);have q27z:0 < (l0.length:Int):=of_decide_eq_true pQ;obtain ⟨ad28z,e29z,hx30z⟩:=Kd.Za4 HR0.o 0 p26z q27z;cases e29z;have qi31z:(0 < l0.length)=True:=eq_true (by omega);(try rw [show ((0:Int)).toNat=0 from rfl] at hx30z);(try rw [Addr.add_zero'] at hx30z);replace hx30z:=(HB.o.cell (World.block_lt_of_cell? w _ hx30z)).trans hx30z;replace p26z:=eq_true p26z;replace q27z:=eq_true q27z)|((have q_:decide (0 < l0.length)=false:=c11b1;clear q_);refine gL (some 26) Tryz.func90 #[.slice A1 l1.length c1,.slice Ao22z t366.length co23z] (h:=?_);(with_reducible refine (Zdg.calls k _ _ l1 _ _ t366 t369 t370 _ ?side1 ?side2 ?side3 ?side4 A10.o).mono ?_);(case side1=>exact cB HR1 HB);(case side2=>exact HC1.o);(case side3=>exact Kd.Zx (Kd.Zd HO21z.o).2.2 pl);(case side4=>exact (Kd.Zd HO21z.o).2.1);rintro e w25z ⟨rfl,hb⟩;refine ⟨_,rfl,?_⟩;replace HO3z:=rbl HO3z hb;replace HO6z:=rbl HO6z hb;replace HO21z:=rbl HO21z hb;replace HB:=bS hb))
 go_ret
 exact ⟨pE,pB⟩):P:=h
theorem Zbg.calls (k:Nat) (A0:Option Addr) (c0:Nat) (l0:List Int) (A1:Option Addr) (c1:Nat) (l1:List Int) (a2:Int) (a3:Bool) (r:Bool) (w:World) (hr0:Kd.C (Kd.int .u32) w A0 l0.length l0) (hc0:l0.length<=c0) (hr1:Kd.C (Kd.int .u32) w A1 l1.length l1) (hc1:l1.length<=c1) (h:Zbg.f k l0 l1 a2 a3=some r) :
  Calls Tryz.prog 74 #[.slice A0 l0.length c0,.slice A1 l1.length c1,.int .i64 a2,.bool a3] w fun e w'=>e=.returned (.bool r)/\Below w.heap.size w w':=by
 have HR0:=am hr0
 have HC0:=am hc0
 clear hr0 hc0
 have HR1:=am hr1
 have HC1:=am hc1
 clear hr1 hc1
 have HB:=am (Below.refl w.heap.size w)
 have H:(if a2=0 then (some false) else ((Zcn.f k (wrap64 (a2 - 1))).bind fun t356=>((Zc5.f k 5).bind fun t359=>((Zdn.f k t356 t359).bind fun bt362=>((Zu.f bt362.1 bt362.2).bind fun t366=>((Zdg.f k l1 t366).bind fun bt369=>(if (l0.length:Int) > 0 then (if 0 < (l0.length:Int) then (if bt369.1 > 0 then (some true) else (if bt369.1=0 then (if a3=true then (some true) else (some ((Int.tmod (rd l0 0) 2) == 1))) else (some false))) else (none)) else (if bt369.1 > 0 then (some true) else (if bt369.1=0 then (if a3=true then (some true) else (some false)) else (some false))))))))))=some r:=h
 clear h
 by_cases c5:a2=0
 ·rw [if_pos c5] at H
  have c5b0:(a2 == 0)=true:=beq_iff_eq.mpr c5
  have c5b1:(a2 != 0)=false:=bne_eq_false_iff_eq.mpr c5
  clear c5
  obtain rfl:=Option.some.inj H
  exact Zbg.leaf
 ·rw [if_neg c5] at H
  have c5b0:(a2 == 0)=false:=beq_eq_false_iff_ne.mpr c5
  have c5b1:(a2 != 0)=true:=bne_iff_ne.mpr c5
  obtain ⟨t356,A6,H⟩:=ob H
  obtain ⟨t359,A7,H⟩:=ob H
  obtain ⟨⟨t362,t363⟩,A8,H⟩:=ob H;(try dsimp only at H)
  obtain ⟨t366,A9,H⟩:=ob H
  obtain ⟨⟨t369,t370⟩,A10,H⟩:=ob H;(try dsimp only at H)
  by_cases c11:(l0.length:Int) > 0
  ·rw [if_pos c11] at H
   have c11b0:decide (0 < (l0.length:Int))=true:=decide_eq_true c11
   have c11b1:decide (0 < l0.length)=true:=decide_eq_true (by omega)
   clear c11
   by_cases c12:0 < (l0.length:Int)
   ·rw [if_pos c12] at H
    have c12b0:decide (0 < (l0.length:Int))=true:=decide_eq_true c12
    have c12b1:decide (0 < l0.length)=true:=decide_eq_true (by omega)
    clear c12
    by_cases c13:t369 > 0
    ·rw [if_pos c13] at H
     have c13b0:decide (0 < t369)=true:=decide_eq_true c13
     clear c13
     obtain rfl:=Option.some.inj H
     exact Zbg.leaf
    ·rw [if_neg c13] at H
     have c13b0:decide (0 < t369)=false:=decide_eq_false c13
     clear c13
     by_cases c23:t369=0
     ·rw [if_pos c23] at H
      have c23b0:(t369 == 0)=true:=beq_iff_eq.mpr c23
      have c23b1:(t369 != 0)=false:=bne_eq_false_iff_eq.mpr c23
      clear c23
      by_cases c24:a3=true
      ·subst c24
       rw [if_pos rfl] at H
       obtain rfl:=Option.some.inj H
       exact Zbg.leaf
      ·replace c24:=Bool.eq_false_iff.mpr c24
       subst c24
       rw [if_neg (show ¬ (false=true) by decide)] at H
       obtain rfl:=Option.some.inj H
       exact Zbg.leaf
     ·rw [if_neg c23] at H
      have c23b0:(t369 == 0)=false:=beq_eq_false_iff_ne.mpr c23
      have c23b1:(t369 != 0)=true:=bne_iff_ne.mpr c23
      obtain rfl:=Option.some.inj H
      exact Zbg.leaf
   ·rw [if_neg c12] at H
    exact absurd H (by simp)
  ·rw [if_neg c11] at H
   have c11b0:decide (0 < (l0.length:Int))=false:=decide_eq_false c11
   have c11b1:decide (0 < l0.length)=false:=decide_eq_false (by omega)
   clear c11
   by_cases c52:t369 > 0
   ·rw [if_pos c52] at H
    have c52b0:decide (0 < t369)=true:=decide_eq_true c52
    clear c52
    obtain rfl:=Option.some.inj H
    exact Zbg.leaf
   ·rw [if_neg c52] at H
    have c52b0:decide (0 < t369)=false:=decide_eq_false c52
    clear c52
    by_cases c62:t369=0
    ·rw [if_pos c62] at H
     have c62b0:(t369 == 0)=true:=beq_iff_eq.mpr c62
     have c62b1:(t369 != 0)=false:=bne_eq_false_iff_eq.mpr c62
     clear c62
     by_cases c63:a3=true
     ·subst c63
      rw [if_pos rfl] at H
      obtain rfl:=Option.some.inj H
      exact Zbg.leaf
     ·replace c63:=Bool.eq_false_iff.mpr c63
      subst c63
      rw [if_neg (show ¬ (false=true) by decide)] at H
      obtain rfl:=Option.some.inj H
      exact Zbg.leaf
    ·rw [if_neg c62] at H
     have c62b0:(t369 == 0)=false:=beq_eq_false_iff_ne.mpr c62
     have c62b1:(t369 != 0)=true:=bne_iff_ne.mpr c62
     obtain rfl:=Option.some.inj H
     exact Zbg.leaf
def Za8.f (k:Nat) (a0_0:Bool) (l0_1:List Int) (a0_2:Int) (a1_0:Bool) (l1_1:List Int) (a1_2:Int):Option (Bool × List Int × Int × Int):=(Zdv.f k (([(⟨a0_0,l0_1,a0_2⟩:S24),(⟨a1_0,l1_1,a1_2⟩:S24)]:List (S24)))).bind fun t386=>(if t386=0 then (if (l1_1.length:Int)=0 then (some (false,([]:List Int),0,53)) else ((Zbm.f k l1_1).bind fun t387=>((Zbm.f k l0_1).bind fun t388=>((Zcn.f k (mx (wrap64 ((wrap64 ((wrap64 (t387 - t388))+40))+2)) 0)).bind fun t389=>((Zdn.f k l0_1 t389).bind fun bt392=>((Zu.f bt392.1 bt392.2).bind fun t396=>((Zdm.f k t396 l1_1).bind fun bt399=>((Zca.f k bt399.1 40).bind fun bt406=>((Zbg.f k bt406.1 bt406.2.1 bt406.2.2 (decide ((bt399.2.1.length:Int) > 0))).bind fun t413=>(if t413=true then ((Zc5.f k 1).bind fun t414=>((Zeq.f k bt406.1 t414).bind fun bt417=>((Zu.f bt417.1 bt417.2).bind fun t421=>((Zav.f k (a0_0 != a1_0) t421 (wrap64 ((wrap64 ((wrap64 (a0_2 - a1_2)) - (mx (wrap64 ((wrap64 ((wrap64 (t387 - t388))+40))+2)) 0)))+bt406.2.2))).bind fun bt424=>(some (bt424.1,bt424.2.1,bt424.2.2.1,bt424.2.2.2)))))) else ((Zav.f k (a0_0 != a1_0) bt406.1 (wrap64 ((wrap64 ((wrap64 (a0_2 - a1_2)) - (mx (wrap64 ((wrap64 ((wrap64 (t387 - t388))+40))+2)) 0)))+bt406.2.2))).bind fun bt430=>(some (bt430.1,bt430.2.1,bt430.2.2.1,bt430.2.2.2))))))))))))) else (some (false,([]:List Int),0,t386)))
def Za8.T6:Bool × List (List Nat × List Nat):=(true,[([],[]),([0],[0]),([1],[1]),([],[]),([3],[3]),([4,2],[4]),([2,5],[2,5]),([6],[6]),([7],[7]),([8],[8]),([9,5,0,1,2,3,4,5,6,7,8,9],[9])])
def Za8.B6:List Nat:=[0,1,3,0,8,31,63,127,255,511,1023]
theorem Za8.tab6:rtab .any (opsOf Tryz.f19 6)=Za8.T6:=by kernel_rfl
theorem Za8.bits6:waitsOk Za8.T6.2 Za8.B6=true:=by kernel_rfl
def Za8.T7:Bool × List (List Nat × List Nat):=(true,[([],[]),([0],[0]),([],[]),([2],[2]),([1,3,3],[1,3]),([4],[4]),([4],[4]),([5,6,4],[5,6]),([],[]),([8],[8]),([7,9,7],[7,9]),([10],[10]),([11],[11]),([11],[11]),([11],[11]),([12,10,0,1,2,3,4,5,6,7,8,9,10,11,12],[12]),([13,15,0,1,2,3,4,5,6,7,8,9,10,11,12,13,15],[13]),([14,16,0,1,2,3,4,5,6,7,8,9,10,11,12,13,14,15,16],[14])])
def Za8.B7:List Nat:=[0,1,0,4,15,31,31,127,0,256,1023,2047,4095,4095,4095,8191,49151,131071]
theorem Za8.tab7:rtab .any (opsOf Tryz.f19 7)=Za8.T7:=by kernel_rfl
theorem Za8.bits7:waitsOk Za8.T7.2 Za8.B7=true:=by kernel_rfl
theorem Za8.leaf {P:Prop} (h:P:=by
 go_enter Tryz.func19,Tryz.ntmps19
 try go_wp2_with (first|((with_reducible refine gd 2 ?_);refine bx 2 #[.bool a0_0,.slice A0_1 l0_1.length c0_1,.int .i64 a0_2] 24 (h:=?_);intro gb0z hg w1z hbox hb;have BK2z:=am hbox;have GW3z:=gW hg;replace HO0_1:=vE HO0_1 gb0z hg hb;replace HO1_1:=vE HO1_1 gb0z hg hb;replace HB:=bS hb;clear hb hbox hg)|((with_reducible refine gd 3 ?_);refine bx 3 #[.bool a1_0,.slice A1_1 l1_1.length c1_1,.int .i64 a1_2] 24 (h:=?_);intro gb5z hg w6z hbox hb;have BK7z:=am hbox;have GW8z:=gW hg;have NB10z:=nL hg BK2z;have NB11z:=nG hg BK2z;replace HO0_1:=vE HO0_1 gb5z hg hb;replace HO1_1:=vE HO1_1 gb5z hg hb;replace BK2z:=bb BK2z hb;replace HB:=bS hb;clear hb hbox hg)|((with_reducible refine gd 4 ?_);refine bx 4 #[.bool false,.slice none 0 0,.int .i64 0] 24 (h:=?_);intro gb12z hg w13z hbox hb;have BK14z:=am hbox;have GW15z:=gW hg;have NB17z:=nL hg BK2z;have NB18z:=nG hg BK2z;have NB19z:=nL hg BK7z;have NB20z:=nG hg BK7z;replace HO0_1:=vE HO0_1 gb12z hg hb;replace HO1_1:=vE HO1_1 gb12z hg hb;replace BK2z:=bb BK2z hb;replace BK7z:=bb BK7z hb;replace HB:=bS hb;clear hb hbox hg;have hnb21z:=NB10z.o;have hnc22z:=NB11z.o;have hnb23z:=NB17z.o;have hnc24z:=NB18z.o;obtain ⟨_,_,_,_,_,_⟩:=cEc BK2z.o;have hnb31z:=NB19z.o;have hnc32z:=NB20z.o;obtain ⟨_,_,_,_,_,_⟩:=cEc BK7z.o)|((with_reducible refine gd 16 ?_);refine Kd.Ztq k24 _ 24 ?hg (N':=16) ?hd (xs:=([(⟨a0_0,l0_1,a0_2⟩:S24),(⟨a1_0,l1_1,a1_2⟩:S24)]:List (S24))) (inner:=[.bool a0_0,.slice A0_1 l0_1.length c0_1,.int .i64 a0_2,.bool a1_0,.slice A1_1 l1_1.length c1_1,.int .i64 a1_2]) (ok:=(fun k_=>((P0_1_ k_\/P1_1_ k_)\/w.heap.size<=k_)/\k_ ≠ gb0z/\k_ ≠ gb5z/\k_ ≠ gb12z)) (okp:=(fun k_=>((P0_1_ k_\/P1_1_ k_)\/w.heap.size<=k_)/\k_ ≠ gb0z/\k_ ≠ gb5z/\k_ ≠ gb12z)) ?hr ?hp (fun _ hk=>hk) ((show ∀ k_,w13z.heap.size<=k_->(fun k_=>((P0_1_ k_\/P1_1_ k_)\/w.heap.size<=k_)/\k_ ≠ gb0z/\k_ ≠ gb5z/\k_ ≠ gb12z) k_ from fun k_ hk=>⟨(.inr (Nat.le_trans (Zb pB) hk)),Kd.freshB (g:=gb0z) (o:=.cells #[.bool a0_0,.slice A0_1 l0_1.length c0_1,.int .i64 a0_2] 24 (0,0)) (Zc BK2z.o pl) k_ hk,Kd.freshB (g:=gb5z) (o:=.cells #[.bool a1_0,.slice A1_1 l1_1.length c1_1,.int .i64 a1_2] 24 (0,0)) (Zc BK7z.o pl) k_ hk,Kd.freshB (g:=gb12z) (o:=.cells #[.bool false,.slice none 0 0,.int .i64 0] 24 (0,0)) (Zc BK14z.o pl) k_ hk⟩) _ (Nat.le_refl _)) (Below.refl _ _) (Nat.le_refl _) (by simp) ?_;(case hd=>rfl);(case hg=>rfl);(case hr=>first|(go_simp;done)|(go_simp;rfl));(case hp=>exact (Reps.c3 (show Kd.FK k24 _ _ (⟨a0_0,l0_1,a0_2⟩:S24) [.bool a0_0,.slice A0_1 l0_1.length c0_1,.int .i64 a0_2] from (Zog _ _ (⟨a0_0,l0_1,a0_2⟩:S24) (Kd.Zck (Kd.Zdj (ok':=(fun k_=>((P0_1_ k_\/P1_1_ k_)\/w.heap.size<=k_)/\k_ ≠ gb0z/\k_ ≠ gb5z/\k_ ≠ gb12z)) (HO0_1.o) (fun k_ hk=>⟨hk.1.1.1,⟨hk.1.1.2,⟨hk.1.2,hk.2⟩⟩⟩))).2.1 (Kd.V_F (Kd.Zdj (ok':=(fun k_=>((P0_1_ k_\/P1_1_ k_)\/w.heap.size<=k_)/\k_ ≠ gb0z/\k_ ≠ gb5z/\k_ ≠ gb12z)) (HO0_1.o) (fun k_ hk=>⟨hk.1.1.1,⟨hk.1.1.2,⟨hk.1.2,hk.2⟩⟩⟩))))) (Reps.c3 (show Kd.FK k24 _ _ (⟨a1_0,l1_1,a1_2⟩:S24) [.bool a1_0,.slice A1_1 l1_1.length c1_1,.int .i64 a1_2] from (Zog _ _ (⟨a1_0,l1_1,a1_2⟩:S24) (Kd.Zck (Kd.Zdj (ok':=(fun k_=>((P0_1_ k_\/P1_1_ k_)\/w.heap.size<=k_)/\k_ ≠ gb0z/\k_ ≠ gb5z/\k_ ≠ gb12z)) (HO1_1.o) (fun k_ hk=>⟨hk.1.1.1,⟨hk.1.1.2,⟨hk.1.2,hk.2⟩⟩⟩))).2.1 (Kd.V_F (Kd.Zdj (ok':=(fun k_=>((P0_1_ k_\/P1_1_ k_)\/w.heap.size<=k_)/\k_ ≠ gb0z/\k_ ≠ gb5z/\k_ ≠ gb12z)) (HO1_1.o) (fun k_ hk=>⟨hk.1.1.1,⟨hk.1.1.2,⟨hk.1.2,hk.2⟩⟩⟩))))) (Reps.none _ _))));intro v39z w40z ho41z hb hg_ hnew_;clear hg_ hnew_;(first|rw [<- Ny383.out] at ho41z|(simp only [Int.reduceToNat] at ho41z;rw [<- Ny383.out] at ho41z));replace HO0_1:=am (Kd.Zc8 (Kd.Zcr HO0_1.o pl) (Kd.Zqu ho41z) hb);replace HO1_1:=am (Kd.Zc8 (Kd.Zcr HO1_1.o pl) (Kd.Zqu ho41z) hb);have HO42z:=am (Kd.Zri ho41z (Zb pB));replace BK2z:=bb BK2z hb;replace BK7z:=bb BK7z hb;replace BK14z:=bb BK14z hb;replace HB:=bS hb;clear hb ho41z;obtain ⟨Ao43z,co44z,eo45z⟩:=Kd.Zrj HO42z.o;subst eo45z)|((have q_:((l1_1.length:Int) != 0)=false:=c5b1;clear q_);refine gL (some 17) Tryz.func67 #[.slice Ao43z y383.length co44z] (h:=?_);(with_reducible refine (Zdv.calls k _ _ y383 t386 _ ?side1 ?side2 A3.o).mono ?_);(case side1=>exact Kd.Zx (Kd.Zfl HO42z.o).2.2 pl);(case side2=>exact (Kd.Zfl HO42z.o).2.1);rintro e w46z ⟨rfl,hb⟩;refine ⟨_,rfl,?_⟩;replace HO0_1:=vbl HO0_1 hb;replace HO1_1:=vbl HO1_1 hb;replace HO42z:=nbl HO42z hb;replace BK2z:=bb BK2z hb;replace BK7z:=bb BK7z hb;replace BK14z:=bb BK14z hb;replace HB:=bS hb;obtain ⟨hcz47z,hcz48z,hcz49z,hfz50z,hfz51z,hfz52z⟩:=cEc BK7z.o;obtain ⟨_,_,_,_,_,_⟩:=cEc BK14z.o)|((have q_:=A28;clear q_);refine gL (some 17) Tryz.func67 #[.slice Ao43z y383.length co44z] (h:=?_);(with_reducible refine (Zdv.calls k _ _ y383 t386 _ ?side1 ?side2 A3.o).mono ?_);(case side1=>exact Kd.Zx (Kd.Zfl HO42z.o).2.2 pl);(case side2=>exact (Kd.Zfl HO42z.o).2.1);rintro e w46z ⟨rfl,hb⟩;refine ⟨_,rfl,?_⟩;replace HO0_1:=vbl HO0_1 hb;replace HO1_1:=vbl HO1_1 hb;replace HO42z:=nbl HO42z hb;replace BK2z:=bb BK2z hb;replace BK7z:=bb BK7z hb;replace BK14z:=bb BK14z hb;replace HB:=bS hb;obtain ⟨hcz47z,hcz48z,hcz49z,hfz50z,hfz51z,hfz52z⟩:=cEc BK7z.o)|((have q_:(t386 != 0)=true:=c4b1;clear q_);refine gL (some 17) Tryz.func67 #[.slice Ao43z y383.length co44z] (h:=?_);(with_reducible refine (Zdv.calls k _ _ y383 t386 _ ?side1 ?side2 A3.o).mono ?_);(case side1=>exact Kd.Zx (Kd.Zfl HO42z.o).2.2 pl);(case side2=>exact (Kd.Zfl HO42z.o).2.1);rintro e w46z ⟨rfl,hb⟩;refine ⟨_,rfl,?_⟩;replace HO0_1:=vbl HO0_1 hb;replace HO1_1:=vbl HO1_1 hb;replace HO42z:=nbl HO42z hb;replace BK2z:=bb BK2z hb;replace BK7z:=bb BK7z hb;replace BK14z:=bb BK14z hb;replace HB:=bS hb;obtain ⟨hcz47z,hcz48z,hcz49z,hfz50z,hfz51z,hfz52z⟩:=cEc BK14z.o))
 first
  | have q_:=A28
    replace HO0_1:=am (Kd.Zlp HO0_1.o)
    replace HO1_1:=am (Kd.Zlp HO1_1.o)
    replace HO42z:=am (Kd.Zqv HO42z.o)
    replace BK2z:=am (Zbb BK2z.o)
    replace BK7z:=am (Zbb BK7z.o)
    replace BK14z:=am (Zbb BK14z.o)
    replace HB:=am (Zaz HB.o)
    refine start_ (n:=11) (S:=fun w'=>w'.cell? ⟨gb5z,0,none⟩=some (.bool a1_0)/\w'.cell? ⟨gb5z,1,none⟩=some (.slice A1_1 l1_1.length c1_1)/\w'.cell? ⟨gb5z,2,none⟩=some (.int .i64 a1_2)/\w'.cell? ⟨gb0z,0,none⟩=some (.bool a0_0)/\w'.cell? ⟨gb0z,1,none⟩=some (.slice A0_1 l0_1.length c0_1)/\w'.cell? ⟨gb0z,2,none⟩=some (.int .i64 a0_2)) (ds:=[]) #[false,false,false,false,false,false,false,false,false,false,false] (by kernel_rfl) rfl rfl ⟨k0 BK7z 0,k0 BK7z 1,k0 BK7z 2,k0 BK2z 0,k0 BK2z 1,k0 BK2z 2⟩ (fun hHeld=>?_);refine Zcq Za8.tab6 Za8.bits6 (fun HT_ HW_=>?_)
    generalize w46z.drew=w53z at HO0_1 HO1_1 HO42z BK2z BK7z BK14z HB hHeld ⊢
    refine pu 0 (some 27) #[true,false,false,false,false,false,false,false,false,false,false] (h:=?_)
    refine pu 3 (some 30) #[true,false,false,true,false,false,false,false,false,false,false] (h:=?_)
    refine take_ (i:=1) (N:=some 28) (v:=?_) (a':=?_) #[true,true,false,true,false,false,false,false,false,false,false] rfl rfl (Zbi HT_.out HW_.out (by kernel_rfl)) (fun _ _ _ h=>h) (Or.inl ⟨by rfl,?_⟩) hHeld ?_ ?_
    rotate_left
    ·rintro w' ⟨s54z,s55z,s56z,s57z,s58z,s59z⟩
     go_simp
     with_reducible rfl
    rotate_left
    ·exact pP
    refine take_ (i:=4) (N:=some 31) (v:=?_) (a':=?_) #[true,true,false,true,true,false,false,false,false,false,false] rfl rfl (Zbi HT_.out HW_.out (by kernel_rfl)) (fun _ _ _ h=>h) (Or.inl ⟨by rfl,?_⟩) hHeld ?_ ?_
    rotate_left
    ·rintro w' ⟨s54z,s55z,s56z,s57z,s58z,s59z⟩
     go_simp
     with_reducible rfl
    rotate_left
    ·exact pP
    refine one_ (i:=2) (N:=some 29) #[true,true,true,true,true,false,false,false,false,false,false] rfl rfl (Zbw HT_.out (by kernel_rfl)) (by decide) (fun K hK=>?_)
    refine goes_ Tryz.func68 (by kernel_rfl) rfl #[.slice A1_1 l1_1.length c1_1] (by rfl) rfl rfl pA ?_
    with_reducible refine (Zbm.calls k _ _ l1_1 t387 _ ?side1 ?side2 A20.o).mono ?_
    (case side1=>exact Kd.Zx (Kd.Zck HO1_1.o).2.2 pl)
    (case side2=>exact (Kd.Zck HO1_1.o).2.1)
    rintro e w60z ⟨rfl,hb⟩
    refine ⟨_,rfl,?_⟩
    replace HO0_1:=vbl HO0_1 hb
    replace HO1_1:=vbl HO1_1 hb
    replace HO42z:=nbl HO42z hb
    replace BK2z:=bb BK2z hb
    replace BK7z:=bb BK7z hb
    replace BK14z:=bb BK14z hb
    replace HB:=bS hb
    refine hK.out _ _ ⟨k0 BK7z 0,k0 BK7z 1,k0 BK7z 2,k0 BK2z 0,k0 BK2z 1,k0 BK2z 2⟩ (fun hHeld=>?_)
    clear hK K
    refine norm_ (a':=?_) ?_ ?_
    rotate_left
    ·show Act.put _ (some 29) _=_
     exact pP
    refine one_ (i:=5) (N:=some 32) #[true,true,true,true,true,true,false,false,false,false,false] rfl rfl (Zbw HT_.out (by kernel_rfl)) (by decide) (fun K hK=>?_)
    refine goes_ Tryz.func68 (by kernel_rfl) rfl #[.slice A0_1 l0_1.length c0_1] (by rfl) rfl rfl pA ?_
    with_reducible refine (Zbm.calls k _ _ l0_1 t388 _ ?side1 ?side2 A21.o).mono ?_
    (case side1=>exact Kd.Zx (Kd.Zck HO0_1.o).2.2 pl)
    (case side2=>exact (Kd.Zck HO0_1.o).2.1)
    rintro e w61z ⟨rfl,hb⟩
    refine ⟨_,rfl,?_⟩
    replace HO0_1:=vbl HO0_1 hb
    replace HO1_1:=vbl HO1_1 hb
    replace HO42z:=nbl HO42z hb
    replace BK2z:=bb BK2z hb
    replace BK7z:=bb BK7z hb
    replace BK14z:=bb BK14z hb
    replace HB:=bS hb
    refine hK.out _ _ ⟨k0 BK7z 0,k0 BK7z 1,k0 BK7z 2,k0 BK2z 0,k0 BK2z 1,k0 BK2z 2⟩ (fun hHeld=>?_)
    clear hK K
    refine norm_ (a':=?_) ?_ ?_
    rotate_left
    ·show Act.put _ (some 32) _=_
     exact pP
    refine pu 6 (some 33) #[true,true,true,true,true,true,true,false,false,false,false] (h:=?_)
    refine pu 7 (some 34) #[true,true,true,true,true,true,true,true,false,false,false] (h:=?_)
    refine pu 8 (some 35) #[true,true,true,true,true,true,true,true,true,false,false] (h:=?_)
    refine pu 9 (some 36) #[true,true,true,true,true,true,true,true,true,true,false] (h:=?_)
    refine pu 10 (some 7) #[true,true,true,true,true,true,true,true,true,true,true] (h:=?_)
    refine done_ (Zdl HT_.out (by kernel_rfl)) ?_
    try go_wp2
    replace HO0_1:=am (Kd.Zlp HO0_1.o)
    replace HO1_1:=am (Kd.Zlp HO1_1.o)
    replace HO42z:=am (Kd.Zqv HO42z.o)
    replace BK2z:=am (Zbb BK2z.o)
    replace BK7z:=am (Zbb BK7z.o)
    replace BK14z:=am (Zbb BK14z.o)
    replace HB:=am (Zaz HB.o)
    refine start_ (n:=18) (S:=fun w'=>w'.cell? ⟨gb0z,0,none⟩=some (.bool a0_0)/\w'.cell? ⟨gb0z,1,none⟩=some (.slice A0_1 l0_1.length c0_1)/\w'.cell? ⟨gb0z,2,none⟩=some (.int .i64 a0_2)/\w'.cell? ⟨gb5z,0,none⟩=some (.bool a1_0)/\w'.cell? ⟨gb5z,1,none⟩=some (.slice A1_1 l1_1.length c1_1)/\w'.cell? ⟨gb5z,2,none⟩=some (.int .i64 a1_2)) (ds:=[]) #[false,false,false,false,false,false,false,false,false,false,false,false,false,false,false,false,false,false] (by kernel_rfl) rfl rfl ⟨k0 BK2z 0,k0 BK2z 1,k0 BK2z 2,k0 BK7z 0,k0 BK7z 1,k0 BK7z 2⟩ (fun hHeld=>?_);refine Zcq Za8.tab7 Za8.bits7 (fun HT_ HW_=>?_)
    generalize w61z.drew=w62z at HO0_1 HO1_1 HO42z BK2z BK7z BK14z HB hHeld ⊢
    refine pu 0 (some 38) #[true,false,false,false,false,false,false,false,false,false,false,false,false,false,false,false,false,false] (h:=?_)
    refine pu 2 (some 40) #[true,false,true,false,false,false,false,false,false,false,false,false,false,false,false,false,false,false] (h:=?_)
    refine pu 8 (some 46) #[true,false,true,false,false,false,false,false,true,false,false,false,false,false,false,false,false,false] (h:=?_)
    refine take_ (i:=1) (N:=some 39) (v:=?_) (a':=?_) #[true,true,true,false,false,false,false,false,true,false,false,false,false,false,false,false,false,false] rfl rfl (Zbi HT_.out HW_.out (by kernel_rfl)) (fun _ _ _ h=>h) (Or.inl ⟨by rfl,?_⟩) hHeld ?_ ?_
    rotate_left
    ·rintro w' ⟨s54z,s55z,s56z,s57z,s58z,s59z⟩
     go_simp
     with_reducible rfl
    rotate_left
    ·exact pP
    refine take_ (i:=9) (N:=some 47) (v:=?_) (a':=?_) #[true,true,true,false,false,false,false,false,true,true,false,false,false,false,false,false,false,false] rfl rfl (Zbi HT_.out HW_.out (by kernel_rfl)) (fun _ _ _ h=>h) (Or.inl ⟨by rfl,?_⟩) hHeld ?_ ?_
    rotate_left
    ·rintro w' ⟨s54z,s55z,s56z,s57z,s58z,s59z⟩
     go_simp
     with_reducible rfl
    rotate_left
    ·exact pP
    refine one_ (i:=3) (N:=some 41) #[true,true,true,true,false,false,false,false,true,true,false,false,false,false,false,false,false,false] rfl rfl (Zbw HT_.out (by kernel_rfl)) (by decide) (fun K hK=>?_)
    refine goes_ Tryz.func72 (by kernel_rfl) rfl #[.int .i64 ji22] (by rfl) rfl rfl (by (try simp only [List.map_toArray,List.map_cons,List.map_nil]);first|done|(simp only [hji22];rfl)|rfl|(simp only [List.length_drop,List.length_take];rfl)) ?_
    with_reducible refine (Zcn.calls k ji22 t389 _ A23.o).mono ?_
    rintro e w63z ⟨v64z,rfl,ho65z,hb⟩
    refine ⟨_,rfl,?_⟩
    replace HO0_1:=am (Kd.Zc8 (Kd.Zcr HO0_1.o pl) (Kd.Zap ho65z) hb)
    replace HO1_1:=am (Kd.Zc8 (Kd.Zcr HO1_1.o pl) (Kd.Zap ho65z) hb)
    replace HO42z:=am (Kd.Zfk (Kd.Zdw HO42z.o pl) (Kd.Zap ho65z) hb)
    have HO66z:=am (Kd.Zq (Kd.Zet (M:=fun k_=>(w.heap.size<=k_)) ho65z (Zb pB) (fun k_ h_=>h_)) (Zb pB))
    replace BK2z:=bb BK2z hb
    replace BK7z:=bb BK7z hb
    replace BK14z:=bb BK14z hb
    replace HB:=bS hb
    obtain ⟨Ao67z,co68z,eo69z⟩:=Kd.Zj HO66z.o
    (first|subst eo69z|(injection eo69z with f1_ f2_ f3_;have f4_:=f1_.symm;have f5_:=f3_.symm;clear f1_ f2_ f3_;subst f4_;subst f5_))
    refine hK.out _ _ ⟨k0 BK2z 0,k0 BK2z 1,k0 BK2z 2,k0 BK7z 0,k0 BK7z 1,k0 BK7z 2⟩ (fun hHeld=>?_)
    clear hK K
    refine norm_ (a':=?_) ?_ ?_
    rotate_left
    ·show Act.put _ (some 41) _=_
     exact pP
    refine one_ (i:=4) (N:=some 42) #[true,true,true,true,true,false,false,false,true,true,false,false,false,false,false,false,false,false] rfl rfl (Zbw HT_.out (by kernel_rfl)) (by decide) (fun K hK=>?_)
    refine goes_ Tryz.func71 (by kernel_rfl) rfl #[.slice A0_1 l0_1.length c0_1,.slice Ao67z t389.length co68z] (by rfl) rfl rfl pA ?_
    with_reducible refine (Zdn.calls k _ _ l0_1 _ _ t389 t392 t393 _ ?side1 ?side2 ?side3 ?side4 A24.o).mono ?_
    (case side1=>exact Kd.Zx (Kd.Zck HO0_1.o).2.2 pl)
    (case side2=>exact (Kd.Zck HO0_1.o).2.1)
    (case side3=>exact Kd.Zx (Kd.Zd HO66z.o).2.2 pl)
    (case side4=>exact (Kd.Zd HO66z.o).2.1)
    rintro e w70z ⟨v71z,rfl,ho65z,hb⟩
    refine ⟨_,rfl,?_⟩
    have HO72z:=am (Kd.Zq (Kd.Zr (Kd.Zet (M:=fun k_=>(w.heap.size<=k_)) ho65z (Zb pB) (fun k_ h_=>h_)) (Kd.R_lt (Kd.Za HO66z.o pl))) (Zb pB))
    replace HO0_1:=am (Kd.Zc8 (Kd.Zcr HO0_1.o pl) (Kd.Zap ho65z) hb)
    replace HO1_1:=am (Kd.Zc8 (Kd.Zcr HO1_1.o pl) (Kd.Zap ho65z) hb)
    replace HO42z:=am (Kd.Zfk (Kd.Zdw HO42z.o pl) (Kd.Zap ho65z) hb)
    replace HO66z:=reR HO66z ho65z hb
    replace BK2z:=bb BK2z hb
    replace BK7z:=bb BK7z hb
    replace BK14z:=bb BK14z hb
    replace HB:=bS hb
    obtain ⟨Ao73z,co74z,eo75z⟩:=Kd.Zj HO72z.o
    (first|subst eo75z|(injection eo75z with f1_ f2_ f3_;have f4_:=f1_.symm;have f5_:=f3_.symm;clear f1_ f2_ f3_;subst f4_;subst f5_))
    refine hK.out _ _ ⟨k0 BK2z 0,k0 BK2z 1,k0 BK2z 2,k0 BK7z 0,k0 BK7z 1,k0 BK7z 2⟩ (fun hHeld=>?_)
    clear hK K
    refine norm_ (a':=?_) ?_ ?_
    rotate_left
    ·show Act.put _ (some 42) _=_
     exact pP
    refine pu 5 (some 43) #[true,true,true,true,true,true,false,false,true,true,false,false,false,false,false,false,false,false] (h:=?_)
    refine pu 6 (some 44) #[true,true,true,true,true,true,true,false,true,true,false,false,false,false,false,false,false,false] (h:=?_)
    refine one_ (i:=7) (N:=some 45) #[true,true,true,true,true,true,true,true,true,true,false,false,false,false,false,false,false,false] rfl rfl (Zbw HT_.out (by kernel_rfl)) (by decide) (fun K hK=>?_)
    refine goes_ Tryz.func70 (by kernel_rfl) rfl #[.slice Ao73z t392.length co74z,.int .i64 t393] (by rfl) rfl rfl pA ?_
    with_reducible refine (Zu.calls (fun k_=>some k_=(.slice Ao73z t392.length co74z:Value).ownBlock) (.slice Ao73z t392.length co74z) t392 t393 t396 w _ ?side1 ?side2 A25.o).mono ?_
    (case side1=>exact pB)
    (case side2=>exact Kd.Zbl rfl HO72z.o)
    rintro e w76z ⟨v77z,rfl,ho65z,hb,hkp⟩
    refine ⟨_,rfl,?_⟩
    have HO78z:=am (Kd.Zi (ok':=fun k_=>(w.heap.size<=k_)/\some k_ ≠ (.slice Ao67z t389.length co68z:Value).ownBlock) ho65z (fun k_ hk_=>⟨Or.elim hk_ (fun hs_=>(HO72z.o.1 k_ (hs_).symm).1.1) (fun hn_=>(Nat.le_trans (Zb pB) hn_)),Or.elim hk_ (fun hs_=>fun e_=>(((HO66z.o).1 k_ e_.symm).2) hs_) (fun hn_=>(Kd.fresh' (Kd.R_lt (Kd.Za HO66z.o pl)) k_ hn_))⟩))
    replace HO0_1:=am (Kd.Zdj (ok':=fun k_=>((P0_1_ k_\/P1_1_ k_)\/w.heap.size<=k_)/\some k_ ≠ (.slice Ao43z y383.length co44z:Value).ownBlock/\some k_ ≠ (.slice Ao67z t389.length co68z:Value).ownBlock/\k_ ≠ gb0z/\k_ ≠ gb5z/\k_ ≠ gb12z/\some k_ ≠ (v77z:Value).ownBlock) (Kd.Zhl (HO0_1.o) hkp (fun k_ hk_ hs_=>(hk_.2) hs_)) (fun k_ hk_=>⟨hk_.1.1.1.1.1.1.1,hk_.1.1.1.2,hk_.1.1.2,hk_.1.1.1.1.1.1.2,hk_.1.1.1.1.1.2,hk_.1.1.1.1.2,fun e_=>Or.elim (ho65z.1 k_ e_.symm) (fun hs_=>hk_.2.1 hs_) (fun hn_=>Nat.not_le.2 hk_.2.2 hn_)⟩))
    replace HO1_1:=am (Kd.Zdj (ok':=fun k_=>((P0_1_ k_\/P1_1_ k_)\/w.heap.size<=k_)/\some k_ ≠ (.slice Ao43z y383.length co44z:Value).ownBlock/\some k_ ≠ (.slice Ao67z t389.length co68z:Value).ownBlock/\k_ ≠ gb0z/\k_ ≠ gb5z/\k_ ≠ gb12z/\some k_ ≠ (v77z:Value).ownBlock) (Kd.Zhl (HO1_1.o) hkp (fun k_ hk_ hs_=>(hk_.2) hs_)) (fun k_ hk_=>⟨hk_.1.1.1.1.1.1.1,hk_.1.1.1.2,hk_.1.1.2,hk_.1.1.1.1.1.1.2,hk_.1.1.1.1.1.2,hk_.1.1.1.1.2,fun e_=>Or.elim (ho65z.1 k_ e_.symm) (fun hs_=>hk_.2.1 hs_) (fun hn_=>Nat.not_le.2 hk_.2.2 hn_)⟩))
    replace BK2z:=am (Zar (Zc BK2z.o pl) hkp (fun e_=>Kd.R_ne HO72z.o BK2z.o (by decide) e_))
    replace BK7z:=am (Zar (Zc BK7z.o pl) hkp (fun e_=>Kd.R_ne HO72z.o BK7z.o (by decide) e_))
    replace BK14z:=am (Zar (Zc BK14z.o pl) hkp (fun e_=>Kd.R_ne HO72z.o BK14z.o (by decide) e_))
    replace HO42z:=am (Kd.Zhf (ok':=fun k_=>((P0_1_ k_\/P1_1_ k_)\/w.heap.size<=k_)/\some k_ ≠ (.slice Ao67z t389.length co68z:Value).ownBlock/\k_ ≠ gb0z/\k_ ≠ gb5z/\k_ ≠ gb12z/\some k_ ≠ (v77z:Value).ownBlock) (Kd.Znj (HO42z.o) hkp (fun k_ hk_ hs_=>(hk_.2) hs_)) (fun k_ hk_=>⟨hk_.1.1.1.1,hk_.1.1.2,hk_.1.1.1.2.1,hk_.1.1.1.2.2.1,hk_.1.1.1.2.2.2,fun e_=>Or.elim (ho65z.1 k_ e_.symm) (fun hs_=>hk_.2.1 hs_) (fun hn_=>Nat.not_le.2 hk_.2.2 hn_)⟩))
    replace HO66z:=am (Kd.Zi (ok':=fun k_=>(w.heap.size<=k_)/\some k_ ≠ (v77z:Value).ownBlock) (Kd.Zcc (HO66z.o) hkp (fun k_ hk_ hs_=>(hk_.2) hs_)) (fun k_ hk_=>⟨hk_.1.1.1,fun e_=>Or.elim (ho65z.1 k_ e_.symm) (fun hs_=>hk_.2.1 hs_) (fun hn_=>Nat.not_le.2 hk_.2.2 hn_)⟩))
    replace HB:=am hb
    clear HO72z
    obtain ⟨Ao79z,co80z,eo81z⟩:=Kd.Zj HO78z.o
    (first|subst eo81z|(injection eo81z with f1_ f2_ f3_;have f4_:=f1_.symm;have f5_:=f3_.symm;clear f1_ f2_ f3_;subst f4_;subst f5_))
    refine hK.out _ _ ⟨k0 BK2z 0,k0 BK2z 1,k0 BK2z 2,k0 BK7z 0,k0 BK7z 1,k0 BK7z 2⟩ (fun hHeld=>?_)
    clear hK K
    refine norm_ (a':=?_) ?_ ?_
    rotate_left
    ·show Act.put _ (some 45) _=_
     exact pP
    refine one_ (i:=10) (N:=some 48) #[true,true,true,true,true,true,true,true,true,true,true,false,false,false,false,false,false,false] rfl rfl (Zbw HT_.out (by kernel_rfl)) (by decide) (fun K hK=>?_)
    refine goes_ Tryz.func69 (by kernel_rfl) rfl #[.slice Ao79z t396.length co80z,.slice A1_1 l1_1.length c1_1] (by rfl) rfl rfl pA ?_
    with_reducible refine (Zdm.calls k _ _ t396 _ _ l1_1 t399 t400 t401 _ ?side1 ?side2 ?side3 ?side4 A26.o).mono ?_
    (case side1=>exact Kd.Zx (Kd.Zd HO78z.o).2.2 pl)
    (case side2=>exact (Kd.Zd HO78z.o).2.1)
    (case side3=>exact Kd.Zx (Kd.Zck HO1_1.o).2.2 pl)
    (case side4=>exact (Kd.Zck HO1_1.o).2.1)
    rintro e w82z ⟨v83z,v84z,rfl,ho65z,ho85z,hb⟩
    refine ⟨_,rfl,?_⟩
    have HO86z:=am (Kd.Zq (Kd.Zr (Kd.Zr (Kd.Zet (M:=fun k_=>(w.heap.size<=k_)) ho65z (Zb pB) (fun k_ h_=>h_)) (Kd.R_lt (Kd.Za HO66z.o pl))) (Kd.R_lt (Kd.Za HO78z.o pl))) (Zb pB))
    have HO87z:=am (Kd.Zq (Kd.Zr (Kd.Zr (Kd.Zet (M:=fun k_=>(w.heap.size<=k_)) ho85z (Zb pB) (fun k_ h_=>h_)) (Kd.R_lt (Kd.Za HO66z.o pl))) (Kd.R_lt (Kd.Za HO78z.o pl))) (Zb pB))
    replace HO0_1:=am (Kd.Zdj (Kd.Zg2 (Kd.Zg2 (Kd.Zpp (Kd.Zcr HO0_1.o pl) hb) (Kd.Zap ho65z)) (Kd.Zap ho85z)) (fun _ h_=>h_.1))
    replace HO1_1:=am (Kd.Zdj (Kd.Zg2 (Kd.Zg2 (Kd.Zpp (Kd.Zcr HO1_1.o pl) hb) (Kd.Zap ho65z)) (Kd.Zap ho85z)) (fun _ h_=>h_.1))
    replace HO42z:=am (Kd.Zhf (Kd.Zlk (Kd.Zlk (Kd.Zsr (Kd.Zdw HO42z.o pl) hb) (Kd.Zap ho65z)) (Kd.Zap ho85z)) (fun _ h_=>h_.1))
    replace HO66z:=am (Kd.Zi (Kd.Zc7 (Kd.Zc7 (Kd.Zgo (Kd.Za HO66z.o pl) hb) (Kd.Zap ho65z)) (Kd.Zap ho85z)) (fun _ h_=>h_.1))
    replace HO78z:=am (Kd.Zi (Kd.Zc7 (Kd.Zc7 (Kd.Zgo (Kd.Za HO78z.o pl) hb) (Kd.Zap ho65z)) (Kd.Zap ho85z)) (fun _ h_=>h_.1))
    replace BK2z:=bb BK2z hb
    replace BK7z:=bb BK7z hb
    replace BK14z:=bb BK14z hb
    replace HB:=bS hb
    refine hK.out _ _ ⟨k0 BK2z 0,k0 BK2z 1,k0 BK2z 2,k0 BK7z 0,k0 BK7z 1,k0 BK7z 2⟩ (fun hHeld=>?_)
    clear hK K
    refine norm_ (a':=?_) ?_ ?_
    rotate_left
    ·show Act.put _ (some 48) _=_
     exact pP
    refine pu 11 (some 37) #[true,true,true,true,true,true,true,true,true,true,true,true,false,false,false,false,false,false] (h:=?_)
    refine pu 12 (some 49) #[true,true,true,true,true,true,true,true,true,true,true,true,true,false,false,false,false,false] (h:=?_)
    refine pu 13 (some 50) #[true,true,true,true,true,true,true,true,true,true,true,true,true,true,false,false,false,false] (h:=?_)
    refine pu 14 (some 51) #[true,true,true,true,true,true,true,true,true,true,true,true,true,true,true,false,false,false] (h:=?_)
    refine pu 15 (some 8) #[true,true,true,true,true,true,true,true,true,true,true,true,true,true,true,true,false,false] (h:=?_)
    refine pu 16 (some 9) #[true,true,true,true,true,true,true,true,true,true,true,true,true,true,true,true,true,false] (h:=?_)
    refine pu 17 (some 10) #[true,true,true,true,true,true,true,true,true,true,true,true,true,true,true,true,true,true] (h:=?_)
    refine done_ (Zdl HT_.out (by kernel_rfl)) ?_
    obtain ⟨Ao88z,co89z,eo90z⟩:=Kd.Zj HO86z.o
    subst eo90z
    try go_wp2_with (first|(refine gL (some 54) Tryz.func73 #[.slice Ao88z t399.length co89z,.int .i64 40] (h:=?_);(with_reducible refine (Zca.calls k _ _ t399 40 t406 t407 t408 _ ?side1 ?side2 A27.o).mono ?_);(case side1=>exact Kd.Zx (Kd.Zd HO86z.o).2.2 pl);(case side2=>exact (Kd.Zd HO86z.o).2.1);rintro e w91z ⟨v92z,v93z,rfl,ho65z,ho85z,hb⟩;refine ⟨_,rfl,?_⟩;have HO94z:=am (Kd.Zq (Kd.Zr (Kd.Zr (Kd.Zr (Kd.Zr (Kd.Zet (M:=fun k_=>(w.heap.size<=k_)) ho65z (Zb pB) (fun k_ h_=>h_)) (Kd.R_lt (Kd.Za HO66z.o pl))) (Kd.R_lt (Kd.Za HO78z.o pl))) (Kd.R_lt (Kd.Za HO86z.o pl))) (Kd.R_lt (Kd.Za HO87z.o pl))) (Zb pB));have HO95z:=am (Kd.Zq (Kd.Zr (Kd.Zr (Kd.Zr (Kd.Zr (Kd.Zet (M:=fun k_=>(w.heap.size<=k_)) ho85z (Zb pB) (fun k_ h_=>h_)) (Kd.R_lt (Kd.Za HO66z.o pl))) (Kd.R_lt (Kd.Za HO78z.o pl))) (Kd.R_lt (Kd.Za HO86z.o pl))) (Kd.R_lt (Kd.Za HO87z.o pl))) (Zb pB));replace HO0_1:=am (Kd.Zdj (Kd.Zg2 (Kd.Zg2 (Kd.Zpp (Kd.Zcr HO0_1.o pl) hb) (Kd.Zap ho65z)) (Kd.Zap ho85z)) (fun _ h_=>h_.1));replace HO1_1:=am (Kd.Zdj (Kd.Zg2 (Kd.Zg2 (Kd.Zpp (Kd.Zcr HO1_1.o pl) hb) (Kd.Zap ho65z)) (Kd.Zap ho85z)) (fun _ h_=>h_.1));replace HO42z:=am (Kd.Zhf (Kd.Zlk (Kd.Zlk (Kd.Zsr (Kd.Zdw HO42z.o pl) hb) (Kd.Zap ho65z)) (Kd.Zap ho85z)) (fun _ h_=>h_.1));replace HO66z:=am (Kd.Zi (Kd.Zc7 (Kd.Zc7 (Kd.Zgo (Kd.Za HO66z.o pl) hb) (Kd.Zap ho65z)) (Kd.Zap ho85z)) (fun _ h_=>h_.1));replace HO78z:=am (Kd.Zi (Kd.Zc7 (Kd.Zc7 (Kd.Zgo (Kd.Za HO78z.o pl) hb) (Kd.Zap ho65z)) (Kd.Zap ho85z)) (fun _ h_=>h_.1));replace HO86z:=am (Kd.Zi (Kd.Zc7 (Kd.Zc7 (Kd.Zgo (Kd.Za HO86z.o pl) hb) (Kd.Zap ho65z)) (Kd.Zap ho85z)) (fun _ h_=>h_.1));replace HO87z:=am (Kd.Zi (Kd.Zc7 (Kd.Zc7 (Kd.Zgo (Kd.Za HO87z.o pl) hb) (Kd.Zap ho65z)) (Kd.Zap ho85z)) (fun _ h_=>h_.1));replace BK2z:=bb BK2z hb;replace BK7z:=bb BK7z hb;replace BK14z:=bb BK14z hb;replace HB:=bS hb;obtain ⟨Ao96z,co97z,eo98z⟩:=Kd.Zj HO87z.o;subst eo98z;obtain ⟨Ao99z,co100z,eo101z⟩:=Kd.Zj HO94z.o;subst eo101z;obtain ⟨Ao102z,co103z,eo104z⟩:=Kd.Zj HO95z.o;subst eo104z)|(refine gL (some 64) Tryz.func74 #[.slice Ao99z t406.length co100z,.slice Ao102z t407.length co103z,.int .i64 t408,.bool (decide (0 < t400.length))] (h:=?_);(with_reducible refine (Zbg.calls k _ _ t406 _ _ t407 t408 (decide (0 < t400.length)) true _ ?side1 ?side2 ?side3 ?side4 A28.o).mono ?_);(case side1=>exact Kd.Zx (Kd.Zd HO94z.o).2.2 pl);(case side2=>exact (Kd.Zd HO94z.o).2.1);(case side3=>exact Kd.Zx (Kd.Zd HO95z.o).2.2 pl);(case side4=>exact (Kd.Zd HO95z.o).2.1);rintro e w105z ⟨rfl,hb⟩;refine ⟨_,rfl,?_⟩;replace HO0_1:=vbl HO0_1 hb;replace HO1_1:=vbl HO1_1 hb;replace HO42z:=nbl HO42z hb;replace HO66z:=rbl HO66z hb;replace HO78z:=rbl HO78z hb;replace HO86z:=rbl HO86z hb;replace HO87z:=rbl HO87z hb;replace HO94z:=rbl HO94z hb;replace HO95z:=rbl HO95z hb;replace BK2z:=bb BK2z hb;replace BK7z:=bb BK7z hb;replace BK14z:=bb BK14z hb;replace HB:=bS hb)|(refine gL (some 66) Tryz.func76 #[.int .u64 1] (h:=?_);(with_reducible refine (Zc5.calls k 1 t414 _ A30.o).mono ?_);rintro e w106z ⟨v107z,rfl,ho65z,hb⟩;refine ⟨_,rfl,?_⟩;have HO108z:=am (Kd.Zq (Kd.Zr (Kd.Zr (Kd.Zr (Kd.Zr (Kd.Zr (Kd.Zr (Kd.Zet (M:=fun k_=>(w.heap.size<=k_)) ho65z (Zb pB) (fun k_ h_=>h_)) (Kd.R_lt (Kd.Za HO66z.o pl))) (Kd.R_lt (Kd.Za HO78z.o pl))) (Kd.R_lt (Kd.Za HO86z.o pl))) (Kd.R_lt (Kd.Za HO87z.o pl))) (Kd.R_lt (Kd.Za HO94z.o pl))) (Kd.R_lt (Kd.Za HO95z.o pl))) (Zb pB));replace HO0_1:=am (Kd.Zc8 (Kd.Zcr HO0_1.o pl) (Kd.Zap ho65z) hb);replace HO1_1:=am (Kd.Zc8 (Kd.Zcr HO1_1.o pl) (Kd.Zap ho65z) hb);replace HO42z:=am (Kd.Zfk (Kd.Zdw HO42z.o pl) (Kd.Zap ho65z) hb);replace HO66z:=reR HO66z ho65z hb;replace HO78z:=reR HO78z ho65z hb;replace HO86z:=reR HO86z ho65z hb;replace HO87z:=reR HO87z ho65z hb;replace HO94z:=reR HO94z ho65z hb;replace HO95z:=reR HO95z ho65z hb;replace BK2z:=bb BK2z hb;replace BK7z:=bb BK7z hb;replace BK14z:=bb BK14z hb;replace HB:=bS hb;obtain ⟨Ao109z,co110z,eo111z⟩:=Kd.Zj HO108z.o;subst eo111z)|(refine gL (some 67) Tryz.func75 #[.slice Ao99z t406.length co100z,.slice Ao109z t414.length co110z] (h:=?_);(with_reducible refine (Zeq.calls k _ _ t406 _ _ t414 t417 t418 _ ?side1 ?side2 ?side3 ?side4 A31.o).mono ?_);(case side1=>exact Kd.Zx (Kd.Zd HO94z.o).2.2 pl);(case side2=>exact (Kd.Zd HO94z.o).2.1);(case side3=>exact Kd.Zx (Kd.Zd HO108z.o).2.2 pl);(case side4=>exact (Kd.Zd HO108z.o).2.1);rintro e w112z ⟨v113z,rfl,ho65z,hb⟩;refine ⟨_,rfl,?_⟩;have HO114z:=am (Kd.Zq (Kd.Zr (Kd.Zr (Kd.Zr (Kd.Zr (Kd.Zr (Kd.Zr (Kd.Zr (Kd.Zet (M:=fun k_=>(w.heap.size<=k_)) ho65z (Zb pB) (fun k_ h_=>h_)) (Kd.R_lt (Kd.Za HO66z.o pl))) (Kd.R_lt (Kd.Za HO78z.o pl))) (Kd.R_lt (Kd.Za HO86z.o pl))) (Kd.R_lt (Kd.Za HO87z.o pl))) (Kd.R_lt (Kd.Za HO94z.o pl))) (Kd.R_lt (Kd.Za HO95z.o pl))) (Kd.R_lt (Kd.Za HO108z.o pl))) (Zb pB));replace HO0_1:=am (Kd.Zc8 (Kd.Zcr HO0_1.o pl) (Kd.Zap ho65z) hb);replace HO1_1:=am (Kd.Zc8 (Kd.Zcr HO1_1.o pl) (Kd.Zap ho65z) hb);replace HO42z:=am (Kd.Zfk (Kd.Zdw HO42z.o pl) (Kd.Zap ho65z) hb);replace HO66z:=reR HO66z ho65z hb;replace HO78z:=reR HO78z ho65z hb;replace HO86z:=reR HO86z ho65z hb;replace HO87z:=reR HO87z ho65z hb;replace HO94z:=reR HO94z ho65z hb;replace HO95z:=reR HO95z ho65z hb;replace HO108z:=reR HO108z ho65z hb;replace BK2z:=bb BK2z hb;replace BK7z:=bb BK7z hb;replace BK14z:=bb BK14z hb;replace HB:=bS hb;obtain ⟨Ao115z,co116z,eo117z⟩:=Kd.Zj HO114z.o;subst eo117z)|(refine gL (some 70) Tryz.func70 #[.slice Ao115z t417.length co116z,.int .i64 t418] (h:=?_);(with_reducible refine (Zu.calls (fun k_=>some k_=(.slice Ao115z t417.length co116z:Value).ownBlock) (.slice Ao115z t417.length co116z) t417 t418 t421 w _ ?side1 ?side2 A32.o).mono ?_);(case side1=>exact pB);(case side2=>exact Kd.Zbl rfl HO114z.o);rintro e w118z ⟨v119z,rfl,ho65z,hb,hkp⟩;refine ⟨_,rfl,?_⟩;have HO120z:=am (Kd.Zi (ok':=fun k_=>(w.heap.size<=k_)/\some k_ ≠ (.slice Ao67z t389.length co68z:Value).ownBlock/\some k_ ≠ (.slice Ao79z t396.length co80z:Value).ownBlock/\some k_ ≠ (.slice Ao88z t399.length co89z:Value).ownBlock/\some k_ ≠ (.slice Ao96z t400.length co97z:Value).ownBlock/\some k_ ≠ (.slice Ao99z t406.length co100z:Value).ownBlock/\some k_ ≠ (.slice Ao102z t407.length co103z:Value).ownBlock/\some k_ ≠ (.slice Ao109z t414.length co110z:Value).ownBlock) ho65z (fun k_ hk_=>⟨Or.elim hk_ (fun hs_=>(HO114z.o.1 k_ (hs_).symm).1.1.1.1.1.1.1.1) (fun hn_=>(Nat.le_trans (Zb pB) hn_)),Or.elim hk_ (fun hs_=>fun e_=>(((HO66z.o).1 k_ e_.symm).2) hs_) (fun hn_=>(Kd.fresh' (Kd.R_lt (Kd.Za HO66z.o pl)) k_ hn_)),Or.elim hk_ (fun hs_=>fun e_=>(((HO78z.o).1 k_ e_.symm).2) hs_) (fun hn_=>(Kd.fresh' (Kd.R_lt (Kd.Za HO78z.o pl)) k_ hn_)),Or.elim hk_ (fun hs_=>fun e_=>(((HO86z.o).1 k_ e_.symm).2) hs_) (fun hn_=>(Kd.fresh' (Kd.R_lt (Kd.Za HO86z.o pl)) k_ hn_)),Or.elim hk_ (fun hs_=>fun e_=>(((HO87z.o).1 k_ e_.symm).2) hs_) (fun hn_=>(Kd.fresh' (Kd.R_lt (Kd.Za HO87z.o pl)) k_ hn_)),Or.elim hk_ (fun hs_=>fun e_=>(((HO94z.o).1 k_ e_.symm).2) hs_) (fun hn_=>(Kd.fresh' (Kd.R_lt (Kd.Za HO94z.o pl)) k_ hn_)),Or.elim hk_ (fun hs_=>fun e_=>(((HO95z.o).1 k_ e_.symm).2) hs_) (fun hn_=>(Kd.fresh' (Kd.R_lt (Kd.Za HO95z.o pl)) k_ hn_)),Or.elim hk_ (fun hs_=>fun e_=>(((HO108z.o).1 k_ e_.symm).2) hs_) (fun hn_=>(Kd.fresh' (Kd.R_lt (Kd.Za HO108z.o pl)) k_ hn_))⟩));replace HO0_1:=am (Kd.Zdj (ok':=fun k_=>((P0_1_ k_\/P1_1_ k_)\/w.heap.size<=k_)/\some k_ ≠ (.slice Ao43z y383.length co44z:Value).ownBlock/\some k_ ≠ (.slice Ao67z t389.length co68z:Value).ownBlock/\some k_ ≠ (.slice Ao79z t396.length co80z:Value).ownBlock/\some k_ ≠ (.slice Ao88z t399.length co89z:Value).ownBlock/\some k_ ≠ (.slice Ao96z t400.length co97z:Value).ownBlock/\some k_ ≠ (.slice Ao99z t406.length co100z:Value).ownBlock/\some k_ ≠ (.slice Ao102z t407.length co103z:Value).ownBlock/\some k_ ≠ (.slice Ao109z t414.length co110z:Value).ownBlock/\k_ ≠ gb0z/\k_ ≠ gb5z/\k_ ≠ gb12z/\some k_ ≠ (v119z:Value).ownBlock) (Kd.Zhl (HO0_1.o) hkp (fun k_ hk_ hs_=>(hk_.2) hs_)) (fun k_ hk_=>⟨hk_.1.1.1.1.1.1.1.1,hk_.1.1.1.1.1.1.1.2.1,hk_.1.1.1.1.1.1.1.2.2.1,hk_.1.1.1.1.1.1.1.2.2.2.2.2.2,hk_.1.1.1.1.1.1.2,hk_.1.1.1.1.1.2,hk_.1.1.1.1.2,hk_.1.1.1.2,hk_.1.1.2,hk_.1.1.1.1.1.1.1.2.2.2.1,hk_.1.1.1.1.1.1.1.2.2.2.2.1,hk_.1.1.1.1.1.1.1.2.2.2.2.2.1,fun e_=>Or.elim (ho65z.1 k_ e_.symm) (fun hs_=>hk_.2.1 hs_) (fun hn_=>Nat.not_le.2 hk_.2.2 hn_)⟩));replace HO1_1:=am (Kd.Zdj (ok':=fun k_=>((P0_1_ k_\/P1_1_ k_)\/w.heap.size<=k_)/\some k_ ≠ (.slice Ao43z y383.length co44z:Value).ownBlock/\some k_ ≠ (.slice Ao67z t389.length co68z:Value).ownBlock/\some k_ ≠ (.slice Ao79z t396.length co80z:Value).ownBlock/\some k_ ≠ (.slice Ao88z t399.length co89z:Value).ownBlock/\some k_ ≠ (.slice Ao96z t400.length co97z:Value).ownBlock/\some k_ ≠ (.slice Ao99z t406.length co100z:Value).ownBlock/\some k_ ≠ (.slice Ao102z t407.length co103z:Value).ownBlock/\some k_ ≠ (.slice Ao109z t414.length co110z:Value).ownBlock/\k_ ≠ gb0z/\k_ ≠ gb5z/\k_ ≠ gb12z/\some k_ ≠ (v119z:Value).ownBlock) (Kd.Zhl (HO1_1.o) hkp (fun k_ hk_ hs_=>(hk_.2) hs_)) (fun k_ hk_=>⟨hk_.1.1.1.1.1.1.1.1,hk_.1.1.1.1.1.1.1.2.1,hk_.1.1.1.1.1.1.1.2.2.1,hk_.1.1.1.1.1.1.1.2.2.2.2.2.2,hk_.1.1.1.1.1.1.2,hk_.1.1.1.1.1.2,hk_.1.1.1.1.2,hk_.1.1.1.2,hk_.1.1.2,hk_.1.1.1.1.1.1.1.2.2.2.1,hk_.1.1.1.1.1.1.1.2.2.2.2.1,hk_.1.1.1.1.1.1.1.2.2.2.2.2.1,fun e_=>Or.elim (ho65z.1 k_ e_.symm) (fun hs_=>hk_.2.1 hs_) (fun hn_=>Nat.not_le.2 hk_.2.2 hn_)⟩));replace BK2z:=am (Zar (Zc BK2z.o pl) hkp (fun e_=>Kd.R_ne HO114z.o BK2z.o (by decide) e_));replace BK7z:=am (Zar (Zc BK7z.o pl) hkp (fun e_=>Kd.R_ne HO114z.o BK7z.o (by decide) e_));replace BK14z:=am (Zar (Zc BK14z.o pl) hkp (fun e_=>Kd.R_ne HO114z.o BK14z.o (by decide) e_));replace HO42z:=am (Kd.Zhf (ok':=fun k_=>((P0_1_ k_\/P1_1_ k_)\/w.heap.size<=k_)/\some k_ ≠ (.slice Ao67z t389.length co68z:Value).ownBlock/\some k_ ≠ (.slice Ao79z t396.length co80z:Value).ownBlock/\some k_ ≠ (.slice Ao88z t399.length co89z:Value).ownBlock/\some k_ ≠ (.slice Ao96z t400.length co97z:Value).ownBlock/\some k_ ≠ (.slice Ao99z t406.length co100z:Value).ownBlock/\some k_ ≠ (.slice Ao102z t407.length co103z:Value).ownBlock/\some k_ ≠ (.slice Ao109z t414.length co110z:Value).ownBlock/\k_ ≠ gb0z/\k_ ≠ gb5z/\k_ ≠ gb12z/\some k_ ≠ (v119z:Value).ownBlock) (Kd.Znj (HO42z.o) hkp (fun k_ hk_ hs_=>(hk_.2) hs_)) (fun k_ hk_=>⟨hk_.1.1.1.1.1.1.1.1,hk_.1.1.1.1.1.1.1.2.1,hk_.1.1.1.1.1.1.1.2.2.2.2.2,hk_.1.1.1.1.1.1.2,hk_.1.1.1.1.1.2,hk_.1.1.1.1.2,hk_.1.1.1.2,hk_.1.1.2,hk_.1.1.1.1.1.1.1.2.2.1,hk_.1.1.1.1.1.1.1.2.2.2.1,hk_.1.1.1.1.1.1.1.2.2.2.2.1,fun e_=>Or.elim (ho65z.1 k_ e_.symm) (fun hs_=>hk_.2.1 hs_) (fun hn_=>Nat.not_le.2 hk_.2.2 hn_)⟩));replace HO66z:=am (Kd.Zi (ok':=fun k_=>(w.heap.size<=k_)/\some k_ ≠ (.slice Ao79z t396.length co80z:Value).ownBlock/\some k_ ≠ (.slice Ao88z t399.length co89z:Value).ownBlock/\some k_ ≠ (.slice Ao96z t400.length co97z:Value).ownBlock/\some k_ ≠ (.slice Ao99z t406.length co100z:Value).ownBlock/\some k_ ≠ (.slice Ao102z t407.length co103z:Value).ownBlock/\some k_ ≠ (.slice Ao109z t414.length co110z:Value).ownBlock/\some k_ ≠ (v119z:Value).ownBlock) (Kd.Zcc (HO66z.o) hkp (fun k_ hk_ hs_=>(hk_.2) hs_)) (fun k_ hk_=>⟨hk_.1.1.1.1.1.1.1.1,hk_.1.1.1.1.1.1.1.2,hk_.1.1.1.1.1.1.2,hk_.1.1.1.1.1.2,hk_.1.1.1.1.2,hk_.1.1.1.2,hk_.1.1.2,fun e_=>Or.elim (ho65z.1 k_ e_.symm) (fun hs_=>hk_.2.1 hs_) (fun hn_=>Nat.not_le.2 hk_.2.2 hn_)⟩));replace HO78z:=am (Kd.Zi (ok':=fun k_=>(w.heap.size<=k_)/\some k_ ≠ (.slice Ao67z t389.length co68z:Value).ownBlock/\some k_ ≠ (.slice Ao88z t399.length co89z:Value).ownBlock/\some k_ ≠ (.slice Ao96z t400.length co97z:Value).ownBlock/\some k_ ≠ (.slice Ao99z t406.length co100z:Value).ownBlock/\some k_ ≠ (.slice Ao102z t407.length co103z:Value).ownBlock/\some k_ ≠ (.slice Ao109z t414.length co110z:Value).ownBlock/\some k_ ≠ (v119z:Value).ownBlock) (Kd.Zcc (HO78z.o) hkp (fun k_ hk_ hs_=>(hk_.2) hs_)) (fun k_ hk_=>⟨hk_.1.1.1.1.1.1.1.1,hk_.1.1.1.1.1.1.1.2,hk_.1.1.1.1.1.1.2,hk_.1.1.1.1.1.2,hk_.1.1.1.1.2,hk_.1.1.1.2,hk_.1.1.2,fun e_=>Or.elim (ho65z.1 k_ e_.symm) (fun hs_=>hk_.2.1 hs_) (fun hn_=>Nat.not_le.2 hk_.2.2 hn_)⟩));replace HO86z:=am (Kd.Zi (ok':=fun k_=>(w.heap.size<=k_)/\some k_ ≠ (.slice Ao67z t389.length co68z:Value).ownBlock/\some k_ ≠ (.slice Ao79z t396.length co80z:Value).ownBlock/\some k_ ≠ (.slice Ao96z t400.length co97z:Value).ownBlock/\some k_ ≠ (.slice Ao99z t406.length co100z:Value).ownBlock/\some k_ ≠ (.slice Ao102z t407.length co103z:Value).ownBlock/\some k_ ≠ (.slice Ao109z t414.length co110z:Value).ownBlock/\some k_ ≠ (v119z:Value).ownBlock) (Kd.Zcc (HO86z.o) hkp (fun k_ hk_ hs_=>(hk_.2) hs_)) (fun k_ hk_=>⟨hk_.1.1.1.1.1.1.1.1,hk_.1.1.1.1.1.1.2,hk_.1.1.1.1.1.2,hk_.1.1.1.1.1.1.1.2,hk_.1.1.1.1.2,hk_.1.1.1.2,hk_.1.1.2,fun e_=>Or.elim (ho65z.1 k_ e_.symm) (fun hs_=>hk_.2.1 hs_) (fun hn_=>Nat.not_le.2 hk_.2.2 hn_)⟩));replace HO87z:=am (Kd.Zi (ok':=fun k_=>(w.heap.size<=k_)/\some k_ ≠ (.slice Ao67z t389.length co68z:Value).ownBlock/\some k_ ≠ (.slice Ao79z t396.length co80z:Value).ownBlock/\some k_ ≠ (.slice Ao88z t399.length co89z:Value).ownBlock/\some k_ ≠ (.slice Ao99z t406.length co100z:Value).ownBlock/\some k_ ≠ (.slice Ao102z t407.length co103z:Value).ownBlock/\some k_ ≠ (.slice Ao109z t414.length co110z:Value).ownBlock/\some k_ ≠ (v119z:Value).ownBlock) (Kd.Zcc (HO87z.o) hkp (fun k_ hk_ hs_=>(hk_.2) hs_)) (fun k_ hk_=>⟨hk_.1.1.1.1.1.1.1.1,hk_.1.1.1.1.1.1.2,hk_.1.1.1.1.1.2,hk_.1.1.1.1.1.1.1.2,hk_.1.1.1.1.2,hk_.1.1.1.2,hk_.1.1.2,fun e_=>Or.elim (ho65z.1 k_ e_.symm) (fun hs_=>hk_.2.1 hs_) (fun hn_=>Nat.not_le.2 hk_.2.2 hn_)⟩));replace HO94z:=am (Kd.Zi (ok':=fun k_=>(w.heap.size<=k_)/\some k_ ≠ (.slice Ao67z t389.length co68z:Value).ownBlock/\some k_ ≠ (.slice Ao79z t396.length co80z:Value).ownBlock/\some k_ ≠ (.slice Ao88z t399.length co89z:Value).ownBlock/\some k_ ≠ (.slice Ao96z t400.length co97z:Value).ownBlock/\some k_ ≠ (.slice Ao102z t407.length co103z:Value).ownBlock/\some k_ ≠ (.slice Ao109z t414.length co110z:Value).ownBlock/\some k_ ≠ (v119z:Value).ownBlock) (Kd.Zcc (HO94z.o) hkp (fun k_ hk_ hs_=>(hk_.2) hs_)) (fun k_ hk_=>⟨hk_.1.1.1.1.1.1.1.1,hk_.1.1.1.1.1.1.2,hk_.1.1.1.1.1.2,hk_.1.1.1.1.2,hk_.1.1.1.2,hk_.1.1.1.1.1.1.1.2,hk_.1.1.2,fun e_=>Or.elim (ho65z.1 k_ e_.symm) (fun hs_=>hk_.2.1 hs_) (fun hn_=>Nat.not_le.2 hk_.2.2 hn_)⟩));replace HO95z:=am (Kd.Zi (ok':=fun k_=>(w.heap.size<=k_)/\some k_ ≠ (.slice Ao67z t389.length co68z:Value).ownBlock/\some k_ ≠ (.slice Ao79z t396.length co80z:Value).ownBlock/\some k_ ≠ (.slice Ao88z t399.length co89z:Value).ownBlock/\some k_ ≠ (.slice Ao96z t400.length co97z:Value).ownBlock/\some k_ ≠ (.slice Ao99z t406.length co100z:Value).ownBlock/\some k_ ≠ (.slice Ao109z t414.length co110z:Value).ownBlock/\some k_ ≠ (v119z:Value).ownBlock) (Kd.Zcc (HO95z.o) hkp (fun k_ hk_ hs_=>(hk_.2) hs_)) (fun k_ hk_=>⟨hk_.1.1.1.1.1.1.1.1,hk_.1.1.1.1.1.1.2,hk_.1.1.1.1.1.2,hk_.1.1.1.1.2,hk_.1.1.1.2,hk_.1.1.1.1.1.1.1.2,hk_.1.1.2,fun e_=>Or.elim (ho65z.1 k_ e_.symm) (fun hs_=>hk_.2.1 hs_) (fun hn_=>Nat.not_le.2 hk_.2.2 hn_)⟩));replace HO108z:=am (Kd.Zi (ok':=fun k_=>(w.heap.size<=k_)/\some k_ ≠ (.slice Ao67z t389.length co68z:Value).ownBlock/\some k_ ≠ (.slice Ao79z t396.length co80z:Value).ownBlock/\some k_ ≠ (.slice Ao88z t399.length co89z:Value).ownBlock/\some k_ ≠ (.slice Ao96z t400.length co97z:Value).ownBlock/\some k_ ≠ (.slice Ao99z t406.length co100z:Value).ownBlock/\some k_ ≠ (.slice Ao102z t407.length co103z:Value).ownBlock/\some k_ ≠ (v119z:Value).ownBlock) (Kd.Zcc (HO108z.o) hkp (fun k_ hk_ hs_=>(hk_.2) hs_)) (fun k_ hk_=>⟨hk_.1.1.1.1.1.1.1.1.1,hk_.1.1.1.1.1.1.1.2,hk_.1.1.1.1.1.1.2,hk_.1.1.1.1.1.2,hk_.1.1.1.1.2,hk_.1.1.1.2,hk_.1.1.2,fun e_=>Or.elim (ho65z.1 k_ e_.symm) (fun hs_=>hk_.2.1 hs_) (fun hn_=>Nat.not_le.2 hk_.2.2 hn_)⟩));replace HB:=am hb;clear HO114z;obtain ⟨hcz121z,hcz122z,hcz123z,hfz124z,hfz125z,hfz126z⟩:=cEc BK2z.o;obtain ⟨_,_,_,_,_,_⟩:=cEc BK7z.o;obtain ⟨Ao133z,co134z,eo135z⟩:=Kd.Zj HO120z.o;subst eo135z)|((with_reducible refine Zdz (f:=60) rfl ?_);refine goesL_ (some 86) rfl rfl Tryz.func60 (by kernel_rfl) rfl #[.bool (a0_0 != a1_0),.slice Ao133z t421.length co134z,.int .i64 (wrap64 ((wrap64 ((wrap64 (a0_2 - a1_2)) - (ji22)))+t408))] rfl (by (try simp only [List.map_toArray,List.map_cons,List.map_nil]);first|done|(simp only [hji22];rfl)|rfl|(simp only [List.length_drop,List.length_take];rfl)) ?_;(with_reducible refine (Zav.calls k (a0_0 != a1_0) _ _ t421 (wrap64 ((wrap64 ((wrap64 (a0_2 - a1_2)) - (ji22)))+t408)) t424 t425 t428 t429 _ ?side1 ?side2 A33.o).mono ?_);(case side1=>exact Kd.Zx (Kd.Zd HO120z.o).2.2 pl);(case side2=>exact (Kd.Zd HO120z.o).2.1);rintro e w136z ⟨v137z,rfl,ho65z,hb⟩;refine ⟨_,rfl,?_⟩;have HO138z:=am (Kd.Zq (Kd.Zr (Kd.Zr (Kd.Zr (Kd.Zr (Kd.Zr (Kd.Zr (Kd.Zr (Kd.Zr (Kd.Zet (M:=fun k_=>(w.heap.size<=k_)) ho65z (Zb pB) (fun k_ h_=>h_)) (Kd.R_lt (Kd.Za HO66z.o pl))) (Kd.R_lt (Kd.Za HO78z.o pl))) (Kd.R_lt (Kd.Za HO86z.o pl))) (Kd.R_lt (Kd.Za HO87z.o pl))) (Kd.R_lt (Kd.Za HO94z.o pl))) (Kd.R_lt (Kd.Za HO95z.o pl))) (Kd.R_lt (Kd.Za HO108z.o pl))) (Kd.R_lt (Kd.Za HO120z.o pl))) (Zb pB));replace HO0_1:=am (Kd.Zc8 (Kd.Zcr HO0_1.o pl) (Kd.Zap ho65z) hb);replace HO1_1:=am (Kd.Zc8 (Kd.Zcr HO1_1.o pl) (Kd.Zap ho65z) hb);replace HO42z:=am (Kd.Zfk (Kd.Zdw HO42z.o pl) (Kd.Zap ho65z) hb);replace HO66z:=reR HO66z ho65z hb;replace HO78z:=reR HO78z ho65z hb;replace HO86z:=reR HO86z ho65z hb;replace HO87z:=reR HO87z ho65z hb;replace HO94z:=reR HO94z ho65z hb;replace HO95z:=reR HO95z ho65z hb;replace HO108z:=reR HO108z ho65z hb;replace HO120z:=reR HO120z ho65z hb;replace BK2z:=bb BK2z hb;replace BK7z:=bb BK7z hb;replace BK14z:=bb BK14z hb;replace HB:=bS hb;obtain ⟨_,_,_,_,_,_⟩:=cEc BK14z.o;obtain ⟨Ao145z,co146z,eo147z⟩:=Kd.Zj HO138z.o;subst eo147z)|(refine gL (some 64) Tryz.func74 #[.slice Ao99z t406.length co100z,.slice Ao102z t407.length co103z,.int .i64 t408,.bool (decide (0 < t400.length))] (h:=?_);(with_reducible refine (Zbg.calls k _ _ t406 _ _ t407 t408 (decide (0 < t400.length)) false _ ?side1 ?side2 ?side3 ?side4 A28.o).mono ?_);(case side1=>exact Kd.Zx (Kd.Zd HO94z.o).2.2 pl);(case side2=>exact (Kd.Zd HO94z.o).2.1);(case side3=>exact Kd.Zx (Kd.Zd HO95z.o).2.2 pl);(case side4=>exact (Kd.Zd HO95z.o).2.1);rintro e w105z ⟨rfl,hb⟩;refine ⟨_,rfl,?_⟩;replace HO0_1:=vbl HO0_1 hb;replace HO1_1:=vbl HO1_1 hb;replace HO42z:=nbl HO42z hb;replace HO66z:=rbl HO66z hb;replace HO78z:=rbl HO78z hb;replace HO86z:=rbl HO86z hb;replace HO87z:=rbl HO87z hb;replace HO94z:=rbl HO94z hb;replace HO95z:=rbl HO95z hb;replace BK2z:=bb BK2z hb;replace BK7z:=bb BK7z hb;replace BK14z:=bb BK14z hb;replace HB:=bS hb;obtain ⟨_,_,_,_,_,_⟩:=cEc BK2z.o;obtain ⟨_,_,_,_,_,_⟩:=cEc BK7z.o)|((with_reducible refine Zdz (f:=60) rfl ?_);refine goesL_ (some 86) rfl rfl Tryz.func60 (by kernel_rfl) rfl #[.bool (a0_0 != a1_0),.slice Ao99z t406.length co100z,.int .i64 (wrap64 ((wrap64 ((wrap64 (a0_2 - a1_2)) - (ji22)))+t408))] rfl (by (try simp only [List.map_toArray,List.map_cons,List.map_nil]);first|done|(simp only [hji22];rfl)|rfl|(simp only [List.length_drop,List.length_take];rfl)) ?_;(with_reducible refine (Zav.calls k (a0_0 != a1_0) _ _ t406 (wrap64 ((wrap64 ((wrap64 (a0_2 - a1_2)) - (ji22)))+t408)) t430 t431 t434 t435 _ ?side1 ?side2 A75.o).mono ?_);(case side1=>exact Kd.Zx (Kd.Zd HO94z.o).2.2 pl);(case side2=>exact (Kd.Zd HO94z.o).2.1);rintro e w118z ⟨v119z,rfl,ho65z,hb⟩;refine ⟨_,rfl,?_⟩;have HO120z:=am (Kd.Zq (Kd.Zr (Kd.Zr (Kd.Zr (Kd.Zr (Kd.Zr (Kd.Zr (Kd.Zet (M:=fun k_=>(w.heap.size<=k_)) ho65z (Zb pB) (fun k_ h_=>h_)) (Kd.R_lt (Kd.Za HO66z.o pl))) (Kd.R_lt (Kd.Za HO78z.o pl))) (Kd.R_lt (Kd.Za HO86z.o pl))) (Kd.R_lt (Kd.Za HO87z.o pl))) (Kd.R_lt (Kd.Za HO94z.o pl))) (Kd.R_lt (Kd.Za HO95z.o pl))) (Zb pB));replace HO0_1:=am (Kd.Zc8 (Kd.Zcr HO0_1.o pl) (Kd.Zap ho65z) hb);replace HO1_1:=am (Kd.Zc8 (Kd.Zcr HO1_1.o pl) (Kd.Zap ho65z) hb);replace HO42z:=am (Kd.Zfk (Kd.Zdw HO42z.o pl) (Kd.Zap ho65z) hb);replace HO66z:=reR HO66z ho65z hb;replace HO78z:=reR HO78z ho65z hb;replace HO86z:=reR HO86z ho65z hb;replace HO87z:=reR HO87z ho65z hb;replace HO94z:=reR HO94z ho65z hb;replace HO95z:=reR HO95z ho65z hb;replace BK2z:=bb BK2z hb;replace BK7z:=bb BK7z hb;replace BK14z:=bb BK14z hb;replace HB:=bS hb;obtain ⟨hcz121z,hcz122z,hcz123z,hfz124z,hfz125z,hfz126z⟩:=cEc BK14z.o;obtain ⟨Ao127z,co128z,eo129z⟩:=Kd.Zj HO120z.o;subst eo129z))
    first
     | have q_:=A33
       refine bodyPost_ret (Za7 rfl _ _ gb12z 24 #[.bool t424,.slice Ao145z t425.length co146z,.int .i64 t428] (0,0) _ rfl (by exact p3 BK14z) Tryz.underlying24 rfl (by kernel_rfl)) rfl ?_
       exact ⟨_,by first|rfl|(simp [Zak,Zal] <;> rfl)|(simp only [<- hji22];first|rfl|(simp [Zak,Zal] <;> rfl))|(simp [*,Zak,Zal] <;> rfl),by refine rp ?_;exact Kd.Zi (Kd.Zp (p:=⟨gb12z,2,none⟩) (Kd.Zp (p:=⟨gb12z,1,none⟩) (Kd.Zp (p:=⟨gb12z,0,none⟩) (Kd.Zaa HO138z.o BK14z.o (by decide)) (fun _ hk=>hk.2) (.bool t424)) (fun _ hk=>hk.2) (.slice Ao145z t425.length co146z)) (fun _ hk=>hk.2) (.int .i64 t428)) (fun _ hk=>hk.1.1.1.1.1.1.1.1.1.1),pB⟩
     | refine bodyPost_ret (Za7 rfl _ _ gb12z 24 #[.bool t430,.slice Ao127z t431.length co128z,.int .i64 t434] (0,0) _ rfl (by exact p3 BK14z) Tryz.underlying24 rfl (by kernel_rfl)) rfl ?_
       exact ⟨_,by first|rfl|(simp [Zak,Zal] <;> rfl)|(simp only [<- hji22];first|rfl|(simp [Zak,Zal] <;> rfl))|(simp [*,Zak,Zal] <;> rfl),by refine rp ?_;exact Kd.Zi (Kd.Zp (p:=⟨gb12z,2,none⟩) (Kd.Zp (p:=⟨gb12z,1,none⟩) (Kd.Zp (p:=⟨gb12z,0,none⟩) (Kd.Zaa HO120z.o BK14z.o (by decide)) (fun _ hk=>hk.2) (.bool t430)) (fun _ hk=>hk.2) (.slice Ao127z t431.length co128z)) (fun _ hk=>hk.2) (.int .i64 t434)) (fun _ hk=>hk.1.1.1.1.1.1.1.1),pB⟩
  | refine bodyPost_ret (Za7 rfl _ _ gb12z 24 #[.bool false,.slice none 0 0,.int .i64 0] (0,0) _ rfl (by exact p3 BK14z) Tryz.underlying24 rfl (by kernel_rfl)) rfl ?_
    exact ⟨_,pE,pN,pB⟩):P:=h
theorem Za8.calls (k:Nat) (a0_0:Bool) (P0_1_:Nat->Prop) (A0_1:Option Addr) (c0_1:Nat) (l0_1:List Int) (a0_2:Int) (a1_0:Bool) (P1_1_:Nat->Prop) (A1_1:Option Addr) (c1_1:Nat) (l1_1:List Int) (a1_2:Int) (r1:Bool) (r2:List Int) (r3:Int) (r4:Int) (w:World) (hs0_1:Kd.V (Kd.int .u32) 85 w w.heap.size (fun k_=>P0_1_ k_) (.slice A0_1 l0_1.length c0_1) l0_1) (hs1_1:Kd.V (Kd.int .u32) 85 w w.heap.size (fun k_=>P1_1_ k_) (.slice A1_1 l1_1.length c1_1) l1_1) (h:Za8.f k a0_0 l0_1 a0_2 a1_0 l1_1 a1_2=some (r1,r2,r3,r4)) :
  Calls Tryz.prog 19 #[.agg #[.bool a0_0,.slice A0_1 l0_1.length c0_1,.int .i64 a0_2],.agg #[.bool a1_0,.slice A1_1 l1_1.length c1_1,.int .i64 a1_2]] w fun e w' => ∃ v1_:Value,e=.returned (.tuple #[.agg #[.bool r1,v1_,.int .i64 r3],.int .i64 r4])/\Kd.R (Kd.int .u32) 85 w' w.heap.size (fun k_=>(w.heap.size<=k_)) v1_ r2/\Below w.heap.size w w':=by
 have hu24:=Tryz.underlying24
 have HO0_1:=am (show Kd.V (Kd.int .u32) 85 w w.heap.size (fun k_=>((P0_1_ k_\/P1_1_ k_)\/w.heap.size<=k_)) (.slice A0_1 l0_1.length c0_1) l0_1 from Kd.Zdj hs0_1 (fun k_ hk=>.inl (.inl hk)))
 have HO1_1:=am (show Kd.V (Kd.int .u32) 85 w w.heap.size (fun k_=>((P0_1_ k_\/P1_1_ k_)\/w.heap.size<=k_)) (.slice A1_1 l1_1.length c1_1) l1_1 from Kd.Zdj hs1_1 (fun k_ hk=>.inl (.inr hk)))
 have HB:=am (Below.refl w.heap.size w)
 have H:((Zdv.f k (([(⟨a0_0,l0_1,a0_2⟩:S24),(⟨a1_0,l1_1,a1_2⟩:S24)]:List (S24)))).bind fun t386=>(if t386=0 then (if (l1_1.length:Int)=0 then (some (false,([]:List Int),0,53)) else ((Zbm.f k l1_1).bind fun t387=>((Zbm.f k l0_1).bind fun t388=>((Zcn.f k (mx (wrap64 ((wrap64 ((wrap64 (t387 - t388))+40))+2)) 0)).bind fun t389=>((Zdn.f k l0_1 t389).bind fun bt392=>((Zu.f bt392.1 bt392.2).bind fun t396=>((Zdm.f k t396 l1_1).bind fun bt399=>((Zca.f k bt399.1 40).bind fun bt406=>((Zbg.f k bt406.1 bt406.2.1 bt406.2.2 (decide ((bt399.2.1.length:Int) > 0))).bind fun t413=>(if t413=true then ((Zc5.f k 1).bind fun t414=>((Zeq.f k bt406.1 t414).bind fun bt417=>((Zu.f bt417.1 bt417.2).bind fun t421=>((Zav.f k (a0_0 != a1_0) t421 (wrap64 ((wrap64 ((wrap64 (a0_2 - a1_2)) - (mx (wrap64 ((wrap64 ((wrap64 (t387 - t388))+40))+2)) 0)))+bt406.2.2))).bind fun bt424=>(some (bt424.1,bt424.2.1,bt424.2.2.1,bt424.2.2.2)))))) else ((Zav.f k (a0_0 != a1_0) bt406.1 (wrap64 ((wrap64 ((wrap64 (a0_2 - a1_2)) - (mx (wrap64 ((wrap64 ((wrap64 (t387 - t388))+40))+2)) 0)))+bt406.2.2))).bind fun bt430=>(some (bt430.1,bt430.2.1,bt430.2.2.1,bt430.2.2.2))))))))))))) else (some (false,([]:List Int),0,t386))))=some (r1,r2,r3,r4):=h
 clear h
 obtain ⟨y383,hy383⟩:∃ y_:List (S24),y_=(([(⟨a0_0,l0_1,a0_2⟩:S24),(⟨a1_0,l1_1,a1_2⟩:S24)]:List (S24))):=⟨_,rfl⟩
 replace H:((Zdv.f k y383).bind fun t386=>(if t386=0 then (if (l1_1.length:Int)=0 then (some (false,([]:List Int),0,53)) else ((Zbm.f k l1_1).bind fun t387=>((Zbm.f k l0_1).bind fun t388=>((Zcn.f k (mx (wrap64 ((wrap64 ((wrap64 (t387 - t388))+40))+2)) 0)).bind fun t389=>((Zdn.f k l0_1 t389).bind fun bt392=>((Zu.f bt392.1 bt392.2).bind fun t396=>((Zdm.f k t396 l1_1).bind fun bt399=>((Zca.f k bt399.1 40).bind fun bt406=>((Zbg.f k bt406.1 bt406.2.1 bt406.2.2 (decide ((bt399.2.1.length:Int) > 0))).bind fun t413=>(if t413=true then ((Zc5.f k 1).bind fun t414=>((Zeq.f k bt406.1 t414).bind fun bt417=>((Zu.f bt417.1 bt417.2).bind fun t421=>((Zav.f k (a0_0 != a1_0) t421 (wrap64 ((wrap64 ((wrap64 (a0_2 - a1_2)) - (mx (wrap64 ((wrap64 ((wrap64 (t387 - t388))+40))+2)) 0)))+bt406.2.2))).bind fun bt424=>(some (bt424.1,bt424.2.1,bt424.2.2.1,bt424.2.2.2)))))) else ((Zav.f k (a0_0 != a1_0) bt406.1 (wrap64 ((wrap64 ((wrap64 (a0_2 - a1_2)) - (mx (wrap64 ((wrap64 ((wrap64 (t387 - t388))+40))+2)) 0)))+bt406.2.2))).bind fun bt430=>(some (bt430.1,bt430.2.1,bt430.2.2.1,bt430.2.2.2))))))))))))) else (some (false,([]:List Int),0,t386))))=some (r1,r2,r3,r4):=by have hy_:=hy383;exact pH
 have Ny383:=am hy383
 clear hy383
 obtain ⟨t386,A3,H⟩:=ob H
 by_cases c4:t386=0
 ·rw [if_pos c4] at H
  have c4b0:(t386 == 0)=true:=beq_iff_eq.mpr c4
  have c4b1:(t386 != 0)=false:=bne_eq_false_iff_eq.mpr c4
  clear c4
  by_cases c5:(l1_1.length:Int)=0
  ·rw [if_pos c5] at H
   have c5b0:((l1_1.length:Int) == 0)=true:=beq_iff_eq.mpr c5
   have c5b1:((l1_1.length:Int) != 0)=false:=bne_eq_false_iff_eq.mpr c5
   clear c5
   simp only [Option.some.injEq,Prod.mk.injEq] at H
   obtain ⟨rfl,rfl,rfl,rfl⟩:=H
   exact Za8.leaf
  ·rw [if_neg c5] at H
   have c5b0:((l1_1.length:Int) == 0)=false:=beq_eq_false_iff_ne.mpr c5
   have c5b1:((l1_1.length:Int) != 0)=true:=bne_iff_ne.mpr c5
   have c5b2:¬ (l1_1=[]):=fun h_=>c5 (by rw [h_];rfl)
   obtain ⟨t387,A20,H⟩:=ob H
   obtain ⟨t388,A21,H⟩:=ob H
   obtain ⟨ji22,hji22⟩:∃ j_:Int,(mx (wrap64 ((wrap64 ((wrap64 (t387 - t388))+40))+2)) 0)=j_:=⟨_,rfl⟩
   replace H:((Zcn.f k (ji22)).bind fun t389=>((Zdn.f k l0_1 t389).bind fun bt392=>((Zu.f bt392.1 bt392.2).bind fun t396=>((Zdm.f k t396 l1_1).bind fun bt399=>((Zca.f k bt399.1 40).bind fun bt406=>((Zbg.f k bt406.1 bt406.2.1 bt406.2.2 (decide ((bt399.2.1.length:Int) > 0))).bind fun t413=>(if t413=true then ((Zc5.f k 1).bind fun t414=>((Zeq.f k bt406.1 t414).bind fun bt417=>((Zu.f bt417.1 bt417.2).bind fun t421=>((Zav.f k (a0_0 != a1_0) t421 (wrap64 ((wrap64 ((wrap64 (a0_2 - a1_2)) - (ji22)))+bt406.2.2))).bind fun bt424=>(some (bt424.1,bt424.2.1,bt424.2.2.1,bt424.2.2.2)))))) else ((Zav.f k (a0_0 != a1_0) bt406.1 (wrap64 ((wrap64 ((wrap64 (a0_2 - a1_2)) - (ji22)))+bt406.2.2))).bind fun bt430=>(some (bt430.1,bt430.2.1,bt430.2.2.1,bt430.2.2.2))))))))))=some (r1,r2,r3,r4):=by first|(rw [hji22] at H;exact H)|(simp only [hji22] at H ⊢;exact H)
   (try rw [hji22] at A3)
   (try rw [hji22] at A20)
   (try rw [hji22] at A21)
   (try (have hji22l:0<=ji22:=by (rw [<- hji22];unfold mx;(repeat' split) <;> omega)))
   (try (have hji22m:0<=ji22:=by omega))
   have hji22_:(if (wrap64 ((wrap64 ((wrap64 (t387 - t388))+40))+2)) < 0 then 0 else (wrap64 ((wrap64 ((wrap64 (t387 - t388))+40))+2)))=ji22:=hji22
   obtain ⟨t389,A23,H⟩:=ob H
   obtain ⟨⟨t392,t393⟩,A24,H⟩:=ob H;(try dsimp only at H)
   obtain ⟨t396,A25,H⟩:=ob H
   replace H:=Option.bind_eq_some_iff.mp H
   obtain ⟨⟨t399,t400,t401⟩,A260,H⟩:=H
   replace H:((Zca.f k t399 40).bind fun bt406=>((Zbg.f k bt406.1 bt406.2.1 bt406.2.2 (decide (0 < t400.length))).bind fun t413=>(if t413=true then ((Zc5.f k 1).bind fun t414=>((Zeq.f k bt406.1 t414).bind fun bt417=>((Zu.f bt417.1 bt417.2).bind fun t421=>((Zav.f k (a0_0 != a1_0) t421 (wrap64 ((wrap64 ((wrap64 (a0_2 - a1_2)) - (ji22)))+bt406.2.2))).bind fun bt424=>(some (bt424.1,bt424.2.1,bt424.2.2.1,bt424.2.2.2)))))) else ((Zav.f k (a0_0 != a1_0) bt406.1 (wrap64 ((wrap64 ((wrap64 (a0_2 - a1_2)) - (ji22)))+bt406.2.2))).bind fun bt430=>(some (bt430.1,bt430.2.1,bt430.2.2.1,bt430.2.2.2))))))=some (r1,r2,r3,r4):=by rw [show decide (0 < t400.length)=decide ((t400.length:Int) > 0) by simp];exact H
   have A26:=am A260
   clear A260
   obtain ⟨⟨t406,t407,t408⟩,A27,H⟩:=ob H;(try dsimp only at H)
   obtain ⟨t413,A28,H⟩:=ob H
   by_cases c29:t413=true
   ·subst c29
    rw [if_pos rfl] at H
    obtain ⟨t414,A30,H⟩:=ob H
    obtain ⟨⟨t417,t418⟩,A31,H⟩:=ob H;(try dsimp only at H)
    obtain ⟨t421,A32,H⟩:=ob H
    obtain ⟨⟨t424,t425,t428,t429⟩,A33,H⟩:=ob H;(try dsimp only at H)
    simp only [Option.some.injEq,Prod.mk.injEq] at H
    obtain ⟨rfl,rfl,rfl,rfl⟩:=H
    exact Za8.leaf
   ·replace c29:=Bool.eq_false_iff.mpr c29
    subst c29
    rw [if_neg (show ¬ (false=true) by decide)] at H
    obtain ⟨⟨t430,t431,t434,t435⟩,A75,H⟩:=ob H;(try dsimp only at H)
    simp only [Option.some.injEq,Prod.mk.injEq] at H
    obtain ⟨rfl,rfl,rfl,rfl⟩:=H
    exact Za8.leaf
 ·rw [if_neg c4] at H
  have c4b0:(t386 == 0)=false:=beq_eq_false_iff_ne.mpr c4
  have c4b1:(t386 != 0)=true:=bne_iff_ne.mpr c4
  simp only [Option.some.injEq,Prod.mk.injEq] at H
  obtain ⟨rfl,rfl,rfl,rfl⟩:=H
  exact Za8.leaf
def Zcg.f (k:Nat) (a0_0:Bool) (l0_1:List Int) (a0_2:Int):Option (Bool × List Int × Int × Int):=(Zbs.f k a0_0 l0_1 a0_2).bind fun t461=>(if t461=0 then (if a0_0=true then (some (false,([]:List Int),0,4)) else ((Zbm.f k l0_1).bind fun t462=>((Zcn.f k (wrap64 ((mx (wrap64 (80 - t462)) 0)+(Go.bits .and .i64 (wrap64 (a0_2 - (mx (wrap64 (80 - t462)) 0))) 1)))).bind fun t463=>((Zdn.f k l0_1 t463).bind fun bt466=>((Zu.f bt466.1 bt466.2).bind fun t470=>((Zfq.f k t470).bind fun bt473=>((Zu.f bt473.1 bt473.2).bind fun t477=>((Zca.f k t477 40).bind fun bt480=>((Zav.f k false bt480.1 (wrap64 ((wrap64 (Int.tdiv (wrap64 (a0_2 - (wrap64 ((mx (wrap64 (80 - t462)) 0)+(Go.bits .and .i64 (wrap64 (a0_2 - (mx (wrap64 (80 - t462)) 0))) 1))))) 2))+bt480.2.2))).bind fun bt487=>(some (bt487.1,bt487.2.1,bt487.2.2.1,bt487.2.2.2))))))))))) else (some (false,([]:List Int),0,t461)))
def Zcg.T8:Bool × List (List Nat × List Nat):=(true,[([],[]),([0],[0]),([],[]),([2],[2]),([1,3,3],[1,3]),([4],[4]),([4],[4]),([5,6,4],[5,6]),([7,7],[7]),([8],[8]),([8],[8]),([9,10,8],[9,10]),([11,11,0,1,2,3,4,5,6,7,8,9,10,11],[11])])
def Zcg.B8:List Nat:=[0,1,0,4,15,31,31,127,255,511,511,2047,4095]
theorem Zcg.tab8:rtab .any (opsOf Tryz.f26 8)=Zcg.T8:=by kernel_rfl
theorem Zcg.bits8:waitsOk Zcg.T8.2 Zcg.B8=true:=by kernel_rfl
theorem Zcg.leaf {P:Prop} (h:P:=by
 go_enter Tryz.func26,Tryz.ntmps26
 try go_wp2_with (first|((with_reducible refine gd 1 ?_);refine bx 1 #[.bool false,.slice A0_1 l0_1.length c0_1,.int .i64 a0_2] 24 (h:=?_);intro gb0z hg w1z hbox hb;have BK2z:=am hbox;have GW3z:=gW hg;have GE4z:=gW hg;replace HB:=bS hb;clear hb hbox hg)|((with_reducible refine gd 2 ?_);refine bx 2 #[.bool false,.slice none 0 0,.int .i64 0] 24 (h:=?_);intro gb5z hg w6z hbox hb;have BK7z:=am hbox;have GW8z:=gW hg;have NB10z:=nL hg BK2z;have NB11z:=nG hg BK2z;replace BK2z:=bb BK2z hb;replace HB:=bS hb;clear hb hbox hg;have hnb12z:=NB10z.o;have hnc13z:=NB11z.o;obtain ⟨_,_,_,_,_,_⟩:=cEc BK2z.o)|(refine gL (some 11) Tryz.func55 #[.agg #[.bool false,.slice A0_1 l0_1.length c0_1,.int .i64 a0_2]] (h:=?_);(with_reducible refine (Zbs.calls k false _ _ l0_1 a0_2 t461 _ ?side1 ?side2 A2.o).mono ?_);(case side1=>exact cB HR0_1 HB);(case side2=>exact HC0_1.o);rintro e w20z ⟨rfl,hb⟩;refine ⟨_,rfl,?_⟩;replace BK2z:=bb BK2z hb;replace BK7z:=bb BK7z hb;replace HB:=bS hb;obtain ⟨hcz21z,hcz22z,hcz23z,hfz24z,hfz25z,hfz26z⟩:=cEc BK2z.o)|(refine gL (some 21) Tryz.func68 #[.slice A0_1 l0_1.length c0_1] (h:=?_);(with_reducible refine (Zbm.calls k _ _ l0_1 t462 _ ?side1 ?side2 A12.o).mono ?_);(case side1=>exact cB HR0_1 HB);(case side2=>exact HC0_1.o);rintro e w27z ⟨rfl,hb⟩;refine ⟨_,rfl,?_⟩;replace BK2z:=bb BK2z hb;replace BK7z:=bb BK7z hb;replace HB:=bS hb;obtain ⟨hcz28z,hcz29z,_,hfz31z,hfz32z,_⟩:=cEc BK2z.o)|((with_reducible refine gd 1 ?_);refine bx 1 #[.bool true,.slice A0_1 l0_1.length c0_1,.int .i64 a0_2] 24 (h:=?_);intro gb0z hg w1z hbox hb;have BK2z:=am hbox;have GW3z:=gW hg;have GE4z:=gW hg;replace HB:=bS hb;clear hb hbox hg)|(refine gL (some 11) Tryz.func55 #[.agg #[.bool true,.slice A0_1 l0_1.length c0_1,.int .i64 a0_2]] (h:=?_);(with_reducible refine (Zbs.calls k true _ _ l0_1 a0_2 t461 _ ?side1 ?side2 A2.o).mono ?_);(case side1=>exact cB HR0_1 HB);(case side2=>exact HC0_1.o);rintro e w20z ⟨rfl,hb⟩;refine ⟨_,rfl,?_⟩;replace BK2z:=bb BK2z hb;replace BK7z:=bb BK7z hb;replace HB:=bS hb;obtain ⟨hcz21z,hcz22z,hcz23z,hfz24z,hfz25z,hfz26z⟩:=cEc BK2z.o;obtain ⟨_,hcz28z,hcz29z,_,hfz31z,hfz32z⟩:=cEc BK7z.o)|((with_reducible refine gd 1 ?_);refine bx 1 #[.bool a0_0,.slice A0_1 l0_1.length c0_1,.int .i64 a0_2] 24 (h:=?_);intro gb0z hg w1z hbox hb;have BK2z:=am hbox;have GW3z:=gW hg;have GE4z:=gW hg;replace HB:=bS hb;clear hb hbox hg)|(refine gL (some 11) Tryz.func55 #[.agg #[.bool a0_0,.slice A0_1 l0_1.length c0_1,.int .i64 a0_2]] (h:=?_);(with_reducible refine (Zbs.calls k a0_0 _ _ l0_1 a0_2 t461 _ ?side1 ?side2 A2.o).mono ?_);(case side1=>exact cB HR0_1 HB);(case side2=>exact HC0_1.o);rintro e w20z ⟨rfl,hb⟩;refine ⟨_,rfl,?_⟩;replace BK2z:=bb BK2z hb;replace BK7z:=bb BK7z hb;replace HB:=bS hb;obtain ⟨hcz21z,hcz22z,hcz23z,hfz24z,hfz25z,hfz26z⟩:=cEc BK7z.o))
 first
  | have q_:=A20
    replace BK2z:=am (Zbb BK2z.o)
    replace BK7z:=am (Zbb BK7z.o)
    replace HB:=am (Zaz HB.o)
    refine start_ (n:=13) (S:=fun w'=>w'.cell? ⟨gb0z,0,none⟩=some (.bool false)/\w'.cell? ⟨gb0z,1,none⟩=some (.slice A0_1 l0_1.length c0_1)/\w'.cell? ⟨gb0z,2,none⟩=some (.int .i64 a0_2)) (ds:=[]) #[false,false,false,false,false,false,false,false,false,false,false,false,false] (by kernel_rfl) rfl rfl ⟨k0 BK2z 0,k0 BK2z 1,k0 BK2z 2⟩ (fun hHeld=>?_);refine Zcq Zcg.tab8 Zcg.bits8 (fun HT_ HW_=>?_)
    generalize w27z.drew=w34z at BK2z BK7z HB hHeld ⊢
    refine pu 0 (some 31) #[true,false,false,false,false,false,false,false,false,false,false,false,false] (h:=?_)
    refine pu 2 (some 33) #[true,false,true,false,false,false,false,false,false,false,false,false,false] (h:=?_)
    refine take_ (i:=1) (N:=some 32) (v:=?_) (a':=?_) #[true,true,true,false,false,false,false,false,false,false,false,false,false] rfl rfl (Zbi HT_.out HW_.out (by kernel_rfl)) (fun _ _ _ h=>h) (Or.inl ⟨by rfl,?_⟩) hHeld ?_ ?_
    rotate_left
    ·rintro w' ⟨s35z,s36z,s37z⟩
     go_simp
     with_reducible rfl
    rotate_left
    ·exact pP
    refine one_ (i:=3) (N:=some 34) #[true,true,true,true,false,false,false,false,false,false,false,false,false] rfl rfl (Zbw HT_.out (by kernel_rfl)) (by decide) (fun K hK=>?_)
    refine goes_ Tryz.func72 (by kernel_rfl) rfl #[.int .i64 (wrap64 ((ji13)+(Go.bits .and .i64 (wrap64 (a0_2 - (ji13))) 1)))] (by rfl) rfl rfl (by (try simp only [List.map_toArray,List.map_cons,List.map_nil]);first|done|(simp only [hji13];rfl)|rfl|(simp only [List.length_drop,List.length_take];rfl)) ?_
    with_reducible refine (Zcn.calls k (wrap64 ((ji13)+(Go.bits .and .i64 (wrap64 (a0_2 - (ji13))) 1))) t463 _ A14.o).mono ?_
    rintro e w38z ⟨v39z,rfl,ho40z,hb⟩
    refine ⟨_,rfl,?_⟩
    have HO41z:=am (Kd.Zq ho40z (Zb pB))
    replace BK2z:=bb BK2z hb
    replace BK7z:=bb BK7z hb
    replace HB:=bS hb
    obtain ⟨Ao42z,co43z,eo44z⟩:=Kd.Zj HO41z.o
    (first|subst eo44z|(injection eo44z with f1_ f2_ f3_;have f4_:=f1_.symm;have f5_:=f3_.symm;clear f1_ f2_ f3_;subst f4_;subst f5_))
    refine hK.out _ _ ⟨k0 BK2z 0,k0 BK2z 1,k0 BK2z 2⟩ (fun hHeld=>?_)
    clear hK K
    refine norm_ (a':=?_) ?_ ?_
    rotate_left
    ·show Act.put _ (some 34) _=_
     exact pP
    refine one_ (i:=4) (N:=some 35) #[true,true,true,true,true,false,false,false,false,false,false,false,false] rfl rfl (Zbw HT_.out (by kernel_rfl)) (by decide) (fun K hK=>?_)
    refine goes_ Tryz.func71 (by kernel_rfl) rfl #[.slice A0_1 l0_1.length c0_1,.slice Ao42z t463.length co43z] (by rfl) rfl rfl pA ?_
    with_reducible refine (Zdn.calls k _ _ l0_1 _ _ t463 t466 t467 _ ?side1 ?side2 ?side3 ?side4 A15.o).mono ?_
    (case side1=>exact cB HR0_1 HB)
    (case side2=>exact HC0_1.o)
    (case side3=>exact Kd.Zx (Kd.Zd HO41z.o).2.2 pl)
    (case side4=>exact (Kd.Zd HO41z.o).2.1)
    rintro e w45z ⟨v46z,rfl,ho40z,hb⟩
    refine ⟨_,rfl,?_⟩
    have HO47z:=am (Kd.Zq (Kd.Zr ho40z (Kd.R_lt (Kd.Za HO41z.o pl))) (Zb pB))
    replace HO41z:=reR HO41z ho40z hb
    replace BK2z:=bb BK2z hb
    replace BK7z:=bb BK7z hb
    replace HB:=bS hb
    obtain ⟨Ao48z,co49z,eo50z⟩:=Kd.Zj HO47z.o
    (first|subst eo50z|(injection eo50z with f1_ f2_ f3_;have f4_:=f1_.symm;have f5_:=f3_.symm;clear f1_ f2_ f3_;subst f4_;subst f5_))
    refine hK.out _ _ ⟨k0 BK2z 0,k0 BK2z 1,k0 BK2z 2⟩ (fun hHeld=>?_)
    clear hK K
    refine norm_ (a':=?_) ?_ ?_
    rotate_left
    ·show Act.put _ (some 35) _=_
     exact pP
    refine pu 5 (some 36) #[true,true,true,true,true,true,false,false,false,false,false,false,false] (h:=?_)
    refine pu 6 (some 37) #[true,true,true,true,true,true,true,false,false,false,false,false,false] (h:=?_)
    refine one_ (i:=7) (N:=some 38) #[true,true,true,true,true,true,true,true,false,false,false,false,false] rfl rfl (Zbw HT_.out (by kernel_rfl)) (by decide) (fun K hK=>?_)
    refine goes_ Tryz.func70 (by kernel_rfl) rfl #[.slice Ao48z t466.length co49z,.int .i64 t467] (by rfl) rfl rfl pA ?_
    with_reducible refine (Zu.calls (fun k_=>some k_=(.slice Ao48z t466.length co49z:Value).ownBlock) (.slice Ao48z t466.length co49z) t466 t467 t470 w _ ?side1 ?side2 A16.o).mono ?_
    (case side1=>exact pB)
    (case side2=>exact Kd.Zbl rfl HO47z.o)
    rintro e w51z ⟨v52z,rfl,ho40z,hb,hkp⟩
    refine ⟨_,rfl,?_⟩
    have HO53z:=am (Kd.Zi (ok':=fun k_=>some k_ ≠ (.slice Ao42z t463.length co43z:Value).ownBlock) ho40z (fun k_ hk_=>Or.elim hk_ (fun hs_=>fun e_=>(((HO41z.o).1 k_ e_.symm).2) hs_) (fun hn_=>(Kd.fresh' (Kd.R_lt (Kd.Za HO41z.o pl)) k_ hn_))))
    replace BK2z:=am (Zar (Zc BK2z.o pl) hkp (fun e_=>Kd.R_ne HO47z.o BK2z.o (by decide) e_))
    replace BK7z:=am (Zar (Zc BK7z.o pl) hkp (fun e_=>Kd.R_ne HO47z.o BK7z.o (by decide) e_))
    replace HO41z:=am (Kd.Zi (ok':=fun k_=>some k_ ≠ (v52z:Value).ownBlock) (Kd.Zcc (HO41z.o) hkp (fun k_ hk_ hs_=>(hk_.2) hs_)) (fun k_ hk_=>fun e_=>Or.elim (ho40z.1 k_ e_.symm) (fun hs_=>hk_.2.1 hs_) (fun hn_=>Nat.not_le.2 hk_.2.2 hn_)))
    replace HB:=am hb
    clear HO47z
    obtain ⟨Ao54z,co55z,eo56z⟩:=Kd.Zj HO53z.o
    (first|subst eo56z|(injection eo56z with f1_ f2_ f3_;have f4_:=f1_.symm;have f5_:=f3_.symm;clear f1_ f2_ f3_;subst f4_;subst f5_))
    refine hK.out _ _ ⟨k0 BK2z 0,k0 BK2z 1,k0 BK2z 2⟩ (fun hHeld=>?_)
    clear hK K
    refine norm_ (a':=?_) ?_ ?_
    rotate_left
    ·show Act.put _ (some 38) _=_
     exact pP
    refine one_ (i:=8) (N:=some 39) #[true,true,true,true,true,true,true,true,true,false,false,false,false] rfl rfl (Zbw HT_.out (by kernel_rfl)) (by decide) (fun K hK=>?_)
    refine goes_ Tryz.func82 (by kernel_rfl) rfl #[.slice Ao54z t470.length co55z] (by rfl) rfl rfl pA ?_
    with_reducible refine (Zfq.calls k _ _ t470 t473 t474 _ ?side1 ?side2 A17.o).mono ?_
    (case side1=>exact Kd.Zx (Kd.Zd HO53z.o).2.2 pl)
    (case side2=>exact (Kd.Zd HO53z.o).2.1)
    rintro e w57z ⟨v58z,rfl,ho40z,hb⟩
    refine ⟨_,rfl,?_⟩
    have HO59z:=am (Kd.Zq (Kd.Zr (Kd.Zr ho40z (Kd.R_lt (Kd.Za HO41z.o pl))) (Kd.R_lt (Kd.Za HO53z.o pl))) (Zb pB))
    replace HO41z:=reR HO41z ho40z hb
    replace HO53z:=reR HO53z ho40z hb
    replace BK2z:=bb BK2z hb
    replace BK7z:=bb BK7z hb
    replace HB:=bS hb
    obtain ⟨Ao60z,co61z,eo62z⟩:=Kd.Zj HO59z.o
    (first|subst eo62z|(injection eo62z with f1_ f2_ f3_;have f4_:=f1_.symm;have f5_:=f3_.symm;clear f1_ f2_ f3_;subst f4_;subst f5_))
    refine hK.out _ _ ⟨k0 BK2z 0,k0 BK2z 1,k0 BK2z 2⟩ (fun hHeld=>?_)
    clear hK K
    refine norm_ (a':=?_) ?_ ?_
    rotate_left
    ·show Act.put _ (some 39) _=_
     exact pP
    refine pu 9 (some 40) #[true,true,true,true,true,true,true,true,true,true,false,false,false] (h:=?_)
    refine pu 10 (some 41) #[true,true,true,true,true,true,true,true,true,true,true,false,false] (h:=?_)
    refine one_ (i:=11) (N:=some 42) #[true,true,true,true,true,true,true,true,true,true,true,true,false] rfl rfl (Zbw HT_.out (by kernel_rfl)) (by decide) (fun K hK=>?_)
    refine goes_ Tryz.func70 (by kernel_rfl) rfl #[.slice Ao60z t473.length co61z,.int .i64 t474] (by rfl) rfl rfl pA ?_
    with_reducible refine (Zu.calls (fun k_=>some k_=(.slice Ao60z t473.length co61z:Value).ownBlock) (.slice Ao60z t473.length co61z) t473 t474 t477 w _ ?side1 ?side2 A18.o).mono ?_
    (case side1=>exact pB)
    (case side2=>exact Kd.Zbl rfl HO59z.o)
    rintro e w63z ⟨v64z,rfl,ho40z,hb,hkp⟩
    refine ⟨_,rfl,?_⟩
    have HO65z:=am (Kd.Zi (ok':=fun k_=>some k_ ≠ (.slice Ao42z t463.length co43z:Value).ownBlock/\some k_ ≠ (.slice Ao54z t470.length co55z:Value).ownBlock) ho40z (fun k_ hk_=>⟨Or.elim hk_ (fun hs_=>fun e_=>(((HO41z.o).1 k_ e_.symm).2) hs_) (fun hn_=>(Kd.fresh' (Kd.R_lt (Kd.Za HO41z.o pl)) k_ hn_)),Or.elim hk_ (fun hs_=>fun e_=>(((HO53z.o).1 k_ e_.symm).2) hs_) (fun hn_=>(Kd.fresh' (Kd.R_lt (Kd.Za HO53z.o pl)) k_ hn_))⟩))
    replace BK2z:=am (Zar (Zc BK2z.o pl) hkp (fun e_=>Kd.R_ne HO59z.o BK2z.o (by decide) e_))
    replace BK7z:=am (Zar (Zc BK7z.o pl) hkp (fun e_=>Kd.R_ne HO59z.o BK7z.o (by decide) e_))
    replace HO41z:=am (Kd.Zi (ok':=fun k_=>some k_ ≠ (.slice Ao54z t470.length co55z:Value).ownBlock/\some k_ ≠ (v64z:Value).ownBlock) (Kd.Zcc (HO41z.o) hkp (fun k_ hk_ hs_=>(hk_.2) hs_)) (fun k_ hk_=>⟨hk_.1.1,fun e_=>Or.elim (ho40z.1 k_ e_.symm) (fun hs_=>hk_.2.1 hs_) (fun hn_=>Nat.not_le.2 hk_.2.2 hn_)⟩))
    replace HO53z:=am (Kd.Zi (ok':=fun k_=>some k_ ≠ (.slice Ao42z t463.length co43z:Value).ownBlock/\some k_ ≠ (v64z:Value).ownBlock) (Kd.Zcc (HO53z.o) hkp (fun k_ hk_ hs_=>(hk_.2) hs_)) (fun k_ hk_=>⟨hk_.1.1,fun e_=>Or.elim (ho40z.1 k_ e_.symm) (fun hs_=>hk_.2.1 hs_) (fun hn_=>Nat.not_le.2 hk_.2.2 hn_)⟩))
    replace HB:=am hb
    clear HO59z
    refine hK.out _ _ ⟨k0 BK2z 0,k0 BK2z 1,k0 BK2z 2⟩ (fun hHeld=>?_)
    clear hK K
    refine norm_ (a':=?_) ?_ ?_
    rotate_left
    ·show Act.put _ (some 42) _=_
     exact pP
    refine pu 12 (some 6) #[true,true,true,true,true,true,true,true,true,true,true,true,true] (h:=?_)
    refine done_ (Zdl HT_.out (by kernel_rfl)) ?_
    obtain ⟨Ao66z,co67z,eo68z⟩:=Kd.Zj HO65z.o
    subst eo68z
    try go_wp2_with (first|(refine gL (some 45) Tryz.func73 #[.slice Ao66z t477.length co67z,.int .i64 40] (h:=?_);(with_reducible refine (Zca.calls k _ _ t477 40 t480 t481 t482 _ ?side1 ?side2 A19.o).mono ?_);(case side1=>exact Kd.Zx (Kd.Zd HO65z.o).2.2 pl);(case side2=>exact (Kd.Zd HO65z.o).2.1);rintro e w69z ⟨v70z,v71z,rfl,ho40z,ho72z,hb⟩;refine ⟨_,rfl,?_⟩;have HO73z:=am (Kd.Zq (Kd.Zr (Kd.Zr (Kd.Zr ho40z (Kd.R_lt (Kd.Za HO41z.o pl))) (Kd.R_lt (Kd.Za HO53z.o pl))) (Kd.R_lt (Kd.Za HO65z.o pl))) (Zb pB));have HO74z:=am (Kd.Zq (Kd.Zr (Kd.Zr (Kd.Zr ho72z (Kd.R_lt (Kd.Za HO41z.o pl))) (Kd.R_lt (Kd.Za HO53z.o pl))) (Kd.R_lt (Kd.Za HO65z.o pl))) (Zb pB));replace HO41z:=am (Kd.Zi (Kd.Zc7 (Kd.Zc7 (Kd.Zgo (Kd.Za HO41z.o pl) hb) (Kd.Zap ho40z)) (Kd.Zap ho72z)) (fun _ h_=>h_.1));replace HO53z:=am (Kd.Zi (Kd.Zc7 (Kd.Zc7 (Kd.Zgo (Kd.Za HO53z.o pl) hb) (Kd.Zap ho40z)) (Kd.Zap ho72z)) (fun _ h_=>h_.1));replace HO65z:=am (Kd.Zi (Kd.Zc7 (Kd.Zc7 (Kd.Zgo (Kd.Za HO65z.o pl) hb) (Kd.Zap ho40z)) (Kd.Zap ho72z)) (fun _ h_=>h_.1));replace BK2z:=bb BK2z hb;replace BK7z:=bb BK7z hb;replace HB:=bS hb;obtain ⟨_,_,_,_,_,_⟩:=cEc BK2z.o;obtain ⟨Ao81z,co82z,eo83z⟩:=Kd.Zj HO73z.o;subst eo83z)|((with_reducible refine Zdz (f:=60) rfl ?_);refine goesL_ (some 57) rfl rfl Tryz.func60 (by kernel_rfl) rfl #[.bool false,.slice Ao81z t480.length co82z,.int .i64 (wrap64 ((wrap64 (Int.tdiv (wrap64 (a0_2 - (wrap64 ((ji13)+(Go.bits .and .i64 (wrap64 (a0_2 - (ji13))) 1))))) 2))+t482))] rfl (by (try simp only [List.map_toArray,List.map_cons,List.map_nil]);first|done|(simp only [hji13];rfl)|rfl|(simp only [List.length_drop,List.length_take];rfl)) ?_;(with_reducible refine (Zav.calls k false _ _ t480 (wrap64 ((wrap64 (Int.tdiv (wrap64 (a0_2 - (wrap64 ((ji13)+(Go.bits .and .i64 (wrap64 (a0_2 - (ji13))) 1))))) 2))+t482)) t487 t488 t491 t492 _ ?side1 ?side2 A20.o).mono ?_);(case side1=>exact Kd.Zx (Kd.Zd HO73z.o).2.2 pl);(case side2=>exact (Kd.Zd HO73z.o).2.1);rintro e w84z ⟨v85z,rfl,ho40z,hb⟩;refine ⟨_,rfl,?_⟩;have HO86z:=am (Kd.Zq (Kd.Zr (Kd.Zr (Kd.Zr (Kd.Zr (Kd.Zr ho40z (Kd.R_lt (Kd.Za HO41z.o pl))) (Kd.R_lt (Kd.Za HO53z.o pl))) (Kd.R_lt (Kd.Za HO65z.o pl))) (Kd.R_lt (Kd.Za HO73z.o pl))) (Kd.R_lt (Kd.Za HO74z.o pl))) (Zb pB));replace HO41z:=reR HO41z ho40z hb;replace HO53z:=reR HO53z ho40z hb;replace HO65z:=reR HO65z ho40z hb;replace HO73z:=reR HO73z ho40z hb;replace HO74z:=reR HO74z ho40z hb;replace BK2z:=bb BK2z hb;replace BK7z:=bb BK7z hb;replace HB:=bS hb;obtain ⟨_,_,_,_,_,_⟩:=cEc BK7z.o;obtain ⟨Ao93z,co94z,eo95z⟩:=Kd.Zj HO86z.o;subst eo95z))
    refine bodyPost_ret (Za7 rfl _ _ gb5z 24 #[.bool t487,.slice Ao93z t488.length co94z,.int .i64 t491] (0,0) _ rfl (by exact p3 BK7z) Tryz.underlying24 rfl (by kernel_rfl)) rfl ?_
    exact ⟨_,by first|rfl|(simp [Zak,Zal] <;> rfl)|(simp only [<- hji13];first|rfl|(simp [Zak,Zal] <;> rfl))|(simp [*,Zak,Zal] <;> rfl),by refine rp ?_;exact Kd.Zi (Kd.Zp (p:=⟨gb5z,2,none⟩) (Kd.Zp (p:=⟨gb5z,1,none⟩) (Kd.Zp (p:=⟨gb5z,0,none⟩) (Kd.Zaa HO86z.o BK7z.o (by decide)) (fun _ hk=>hk.2) (.bool t487)) (fun _ hk=>hk.2) (.slice Ao93z t488.length co94z)) (fun _ hk=>hk.2) (.int .i64 t491)) (fun _ hk=>trivial),pB⟩
  | refine bodyPost_ret (Za7 rfl _ _ gb5z 24 #[.bool false,.slice none 0 0,.int .i64 0] (0,0) _ rfl (by exact p3 BK7z) Tryz.underlying24 rfl (by kernel_rfl)) rfl ?_
    exact ⟨_,pE,pN,pB⟩):P:=h
theorem Zcg.calls (k:Nat) (a0_0:Bool) (A0_1:Option Addr) (c0_1:Nat) (l0_1:List Int) (a0_2:Int) (r1:Bool) (r2:List Int) (r3:Int) (r4:Int) (w:World) (hr0_1:Kd.C (Kd.int .u32) w A0_1 l0_1.length l0_1) (hc0_1:l0_1.length<=c0_1) (h:Zcg.f k a0_0 l0_1 a0_2=some (r1,r2,r3,r4)) :
  Calls Tryz.prog 26 #[.agg #[.bool a0_0,.slice A0_1 l0_1.length c0_1,.int .i64 a0_2]] w fun e w' => ∃ v1_:Value,e=.returned (.tuple #[.agg #[.bool r1,v1_,.int .i64 r3],.int .i64 r4])/\Kd.R (Kd.int .u32) 85 w' w.heap.size (fun _=>True) v1_ r2/\Below w.heap.size w w':=by
 have hu24:=Tryz.underlying24
 have HR0_1:=am hr0_1
 have HC0_1:=am hc0_1
 clear hr0_1 hc0_1
 have HB:=am (Below.refl w.heap.size w)
 have H:((Zbs.f k a0_0 l0_1 a0_2).bind fun t461=>(if t461=0 then (if a0_0=true then (some (false,([]:List Int),0,4)) else ((Zbm.f k l0_1).bind fun t462=>((Zcn.f k (wrap64 ((mx (wrap64 (80 - t462)) 0)+(Go.bits .and .i64 (wrap64 (a0_2 - (mx (wrap64 (80 - t462)) 0))) 1)))).bind fun t463=>((Zdn.f k l0_1 t463).bind fun bt466=>((Zu.f bt466.1 bt466.2).bind fun t470=>((Zfq.f k t470).bind fun bt473=>((Zu.f bt473.1 bt473.2).bind fun t477=>((Zca.f k t477 40).bind fun bt480=>((Zav.f k false bt480.1 (wrap64 ((wrap64 (Int.tdiv (wrap64 (a0_2 - (wrap64 ((mx (wrap64 (80 - t462)) 0)+(Go.bits .and .i64 (wrap64 (a0_2 - (mx (wrap64 (80 - t462)) 0))) 1))))) 2))+bt480.2.2))).bind fun bt487=>(some (bt487.1,bt487.2.1,bt487.2.2.1,bt487.2.2.2))))))))))) else (some (false,([]:List Int),0,t461))))=some (r1,r2,r3,r4):=h
 clear h
 obtain ⟨t461,A2,H⟩:=ob H
 by_cases c3:t461=0
 ·rw [if_pos c3] at H
  have c3b0:(t461 == 0)=true:=beq_iff_eq.mpr c3
  have c3b1:(t461 != 0)=false:=bne_eq_false_iff_eq.mpr c3
  clear c3
  by_cases c4:a0_0=true
  ·subst c4
   rw [if_pos rfl] at H
   simp only [Option.some.injEq,Prod.mk.injEq] at H
   obtain ⟨rfl,rfl,rfl,rfl⟩:=H
   exact Zcg.leaf
  ·replace c4:=Bool.eq_false_iff.mpr c4
   subst c4
   rw [if_neg (show ¬ (false=true) by decide)] at H
   obtain ⟨t462,A12,H⟩:=ob H
   obtain ⟨ji13,hji13⟩:∃ j_:Int,(mx (wrap64 (80 - t462)) 0)=j_:=⟨_,rfl⟩
   replace H:((Zcn.f k (wrap64 ((ji13)+(Go.bits .and .i64 (wrap64 (a0_2 - (ji13))) 1)))).bind fun t463=>((Zdn.f k l0_1 t463).bind fun bt466=>((Zu.f bt466.1 bt466.2).bind fun t470=>((Zfq.f k t470).bind fun bt473=>((Zu.f bt473.1 bt473.2).bind fun t477=>((Zca.f k t477 40).bind fun bt480=>((Zav.f k false bt480.1 (wrap64 ((wrap64 (Int.tdiv (wrap64 (a0_2 - (wrap64 ((ji13)+(Go.bits .and .i64 (wrap64 (a0_2 - (ji13))) 1))))) 2))+bt480.2.2))).bind fun bt487=>(some (bt487.1,bt487.2.1,bt487.2.2.1,bt487.2.2.2)))))))))=some (r1,r2,r3,r4):=by first|(rw [hji13] at H;exact H)|(simp only [hji13] at H ⊢;exact H)
   (try rw [hji13] at A2)
   (try rw [hji13] at A12)
   (try (have hji13l:0<=ji13:=by (rw [<- hji13];unfold mx;(repeat' split) <;> omega)))
   (try (have hji13m:0<=ji13:=by omega))
   have hji13_:(if (wrap64 (80 - t462)) < 0 then 0 else (wrap64 (80 - t462)))=ji13:=hji13
   obtain ⟨t463,A14,H⟩:=ob H
   obtain ⟨⟨t466,t467⟩,A15,H⟩:=ob H;(try dsimp only at H)
   obtain ⟨t470,A16,H⟩:=ob H
   obtain ⟨⟨t473,t474⟩,A17,H⟩:=ob H;(try dsimp only at H)
   obtain ⟨t477,A18,H⟩:=ob H
   obtain ⟨⟨t480,t481,t482⟩,A19,H⟩:=ob H;(try dsimp only at H)
   obtain ⟨⟨t487,t488,t491,t492⟩,A20,H⟩:=ob H;(try dsimp only at H)
   simp only [Option.some.injEq,Prod.mk.injEq] at H
   obtain ⟨rfl,rfl,rfl,rfl⟩:=H
   exact Zcg.leaf
 ·rw [if_neg c3] at H
  have c3b0:(t461 == 0)=false:=beq_eq_false_iff_ne.mpr c3
  have c3b1:(t461 != 0)=true:=bne_iff_ne.mpr c3
  simp only [Option.some.injEq,Prod.mk.injEq] at H
  obtain ⟨rfl,rfl,rfl,rfl⟩:=H
  exact Zcg.leaf
def Zbh.f (k:Nat) (a0_0:Bool) (l0_1:List Int) (a0_2:Int):Option (Bool × List Int × Int × Int):=(Zo.f k a0_0 l0_1 a0_2).bind fun t835=>(if t835=0 then ((Zn.f k a0_0 l0_1 a0_2).bind fun bt836=>((Zm.f k false bt836.2.1 bt836.2.2).bind fun bt842=>(some (bt842.1,bt842.2.1,bt842.2.2.1,bt842.2.2.2)))) else (some (false,([]:List Int),0,9)))
theorem Zbh.leaf {P:Prop} (h:P:=by
 go_enter Tryz.func24,Tryz.ntmps24
 go_wp2_with (first|((with_reducible refine gd 1 ?_);refine bx 1 #[.bool a0_0,.slice A0_1 l0_1.length c0_1,.int .i64 a0_2] 24 (h:=?_);intro gb0z hg w1z hbox hb;have BK2z:=am hbox;have GW3z:=gW hg;replace HB:=bS hb;clear hb hbox hg)|((with_reducible refine gd 2 ?_);refine bx 2 #[.bool false,.slice none 0 0,.int .i64 0] 24 (h:=?_);intro gb5z hg w6z hbox hb;have BK7z:=am hbox;have GW8z:=gW hg;have NB10z:=nL hg BK2z;have NB11z:=nG hg BK2z;replace BK2z:=bb BK2z hb;replace HB:=bS hb;clear hb hbox hg;have hnb12z:=NB10z.o;have hnc13z:=NB11z.o;obtain ⟨_,_,_,_,_,_⟩:=cEc BK2z.o)|((have q_:=A5;clear q_);refine gL (some 6) Tryz.func33 #[.agg #[.bool a0_0,.slice A0_1 l0_1.length c0_1,.int .i64 a0_2]] (h:=?_);(with_reducible refine (Zo.calls k a0_0 _ _ l0_1 a0_2 t835 _ ?side1 ?side2 A2.o).mono ?_);(case side1=>exact cB HR0_1 HB);(case side2=>exact HC0_1.o);rintro e w20z ⟨rfl,hb⟩;refine ⟨_,rfl,?_⟩;replace BK2z:=bb BK2z hb;replace BK7z:=bb BK7z hb;replace HB:=bS hb;obtain ⟨hcz21z,hcz22z,hcz23z,hfz24z,hfz25z,hfz26z⟩:=cEc BK2z.o)|(refine gL (some 10) Tryz.func18 #[.agg #[.bool a0_0,.slice A0_1 l0_1.length c0_1,.int .i64 a0_2]] (h:=?_);(with_reducible refine (Zn.calls k a0_0 _ _ l0_1 a0_2 t836 t837 t840 _ ?side1 ?side2 A4.o).mono ?_);(case side1=>exact cB HR0_1 HB);(case side2=>exact HC0_1.o);rintro e w27z ⟨v28z,rfl,ho29z,hb⟩;refine ⟨_,rfl,?_⟩;have HO30z:=am (Kd.Zq ho29z (Zb pB));replace BK2z:=bb BK2z hb;replace BK7z:=bb BK7z hb;replace HB:=bS hb)|((with_reducible refine gd 4 ?_);refine bx 4 #[.bool false,.slice none 0 0,.int .i64 0] 30 (h:=?_);intro gb31z hg w32z hbox hb;have BK33z:=am hbox;have GW34z:=gW hg;have NB36z:=nL hg BK2z;have NB37z:=nG hg BK2z;have NB38z:=nL hg BK7z;have NB39z:=nG hg BK7z;replace HO30z:=rbl HO30z hb;replace BK2z:=bb BK2z hb;replace BK7z:=bb BK7z hb;replace HB:=bS hb;clear hb hbox hg;have hnb40z:=NB37z.o;have hnc41z:=NB36z.o;have hnb42z:=NB39z.o;have hnc43z:=NB38z.o;obtain ⟨_,_,_,_,_,_⟩:=cEc BK33z.o;obtain ⟨Ao50z,co51z,eo52z⟩:=Kd.Zj HO30z.o;subst eo52z)|((with_reducible refine Zc0 (t:=30) (p:=4) rfl ?_);refine Zcp (t:=30) (p:=4) (v:=?vo_w18) (w1:=(((w32z.setCell ⟨gb31z,0,none⟩ (.bool t836)).setCell ⟨gb31z,1,none⟩ (.slice Ao50z t837.length co51z)).setCell ⟨gb31z,2,none⟩ (.int .i64 t840))) ?hg ?ho ?hn ?hr ?_;(case ho=>rfl);(case hg=>rfl);(case hn=>rfl);(case hr=>first|(go_simp;done)|(go_simp;rfl));intro w53z hw;replace HO30z:Aside0 (Kd.R (Kd.int .i64) 3 w53z w.heap.size (fun _=>True) (.slice Ao50z t837.length co51z) t837):=⟨(by rw [hw];exact (Kd.Za (Kd.Zi (Kd.Zp (p:=⟨gb31z,2,none⟩) (Kd.Zp (p:=⟨gb31z,1,none⟩) (Kd.Zp (p:=⟨gb31z,0,none⟩) (Kd.Zaa HO30z.o BK33z.o (by decide)) (fun _ hk=>hk.2) (.bool t836)) (fun _ hk=>hk.2) (.slice Ao50z t837.length co51z)) (fun _ hk=>hk.2) (.int .i64 t840)) (fun _ hk=>trivial)) pl))⟩;replace BK2z:Aside0 (w53z.heap[gb0z]? = some (.cells #[.bool a0_0,.slice A0_1 l0_1.length c0_1,.int .i64 a0_2] 24 (0,0))):=⟨(by rw [hw];exact (bf NB36z.o BK2z.o))⟩;replace BK7z:Aside0 (w53z.heap[gb5z]? = some (.cells #[.bool false,.slice none 0 0,.int .i64 0] 24 (0,0))):=⟨(by rw [hw];exact (bf NB38z.o BK7z.o))⟩;replace BK33z:Aside0 (w53z.heap[gb31z]? = some (.cells #[.bool t836,.slice Ao50z t837.length co51z,.int .i64 t840] 30 (0,0))):=⟨(by rw [hw];exact (by exact p3 BK33z))⟩;replace HB:Aside0 (Below w.heap.size w w53z):=⟨(by rw [hw];exact pB)⟩;clear hw;obtain ⟨_,_,_,_,_,_⟩:=cEc BK33z.o)|((with_reducible refine Zc0 (t:=4) (p:=11) rfl ?_);refine Zcp (t:=4) (p:=11) (v:=?vo_w20) (w1:=(w53z.setCell ⟨gb31z,0,none⟩ (.bool false))) ?hg ?ho ?hn ?hr ?_;(case ho=>rfl);(case hg=>rfl);(case hn=>rfl);(case hr=>first|(go_simp;done)|(go_simp;rfl));intro w60z hw;replace HO30z:Aside0 (Kd.R (Kd.int .i64) 3 w60z w.heap.size (fun _=>True) (.slice Ao50z t837.length co51z) t837):=⟨(by rw [hw];exact (Kd.Za (Kd.Zi (Kd.Zp (p:=⟨gb31z,0,none⟩) (Kd.Zaa HO30z.o BK33z.o (by decide)) (fun _ hk=>hk.2) (.bool false)) (fun _ hk=>trivial)) pl))⟩;replace BK2z:Aside0 (w60z.heap[gb0z]? = some (.cells #[.bool a0_0,.slice A0_1 l0_1.length c0_1,.int .i64 a0_2] 24 (0,0))):=⟨(by rw [hw];exact (bf NB36z.o BK2z.o))⟩;replace BK7z:Aside0 (w60z.heap[gb5z]? = some (.cells #[.bool false,.slice none 0 0,.int .i64 0] 24 (0,0))):=⟨(by rw [hw];exact (bf NB38z.o BK7z.o))⟩;replace BK33z:Aside0 (w60z.heap[gb31z]? = some (.cells #[.bool false,.slice Ao50z t837.length co51z,.int .i64 t840] 30 (0,0))):=⟨(by rw [hw];exact (by refine bp ?_;refine Za3 (cs:=#[.bool t836,.slice Ao50z t837.length co51z,.int .i64 t840]) ?_ 0 _ rfl;exact bp BK33z.o))⟩;replace HB:Aside0 (Below w.heap.size w w60z):=⟨(by rw [hw];exact pB)⟩;clear hw;obtain ⟨_,_,_,_,_,_⟩:=cEc BK33z.o)|(refine gL (some 13) Tryz.func23 #[.agg #[.bool false,.slice Ao50z t837.length co51z,.int .i64 t840]] (h:=?_);(with_reducible refine (Zm.calls k false (fun k_=>some k_=(.slice Ao50z t837.length co51z:Value).ownBlock) (.slice Ao50z t837.length co51z) t837 t840 t842 t843 t846 t847 w _ ?side1 ?side2 A5.o).mono ?_);(case side1=>exact pB);(case side2=>exact Kd.Zbl rfl HO30z.o);rintro e w67z ⟨v68z,rfl,ho29z,hb,hkp⟩;refine ⟨_,rfl,?_⟩;have HO69z:=am (Kd.Zi (ok':=fun k_=>True) ho29z (fun k_ hk_=>trivial));replace BK2z:=am (Zar (Zc BK2z.o pl) hkp (fun e_=>Kd.R_ne HO30z.o BK2z.o (by decide) e_));replace BK7z:=am (Zar (Zc BK7z.o pl) hkp (fun e_=>Kd.R_ne HO30z.o BK7z.o (by decide) e_));replace BK33z:=am (Zar (Zc BK33z.o pl) hkp (fun e_=>Kd.R_ne HO30z.o BK33z.o (by decide) e_));replace HB:=am hb;clear HO30z;obtain ⟨_,_,_,_,_,_⟩:=cEc BK7z.o;obtain ⟨Ao76z,co77z,eo78z⟩:=Kd.Zj HO69z.o;subst eo78z)|((have q_:(t835 != 0)=true:=c3b1;clear q_);refine gL (some 6) Tryz.func33 #[.agg #[.bool a0_0,.slice A0_1 l0_1.length c0_1,.int .i64 a0_2]] (h:=?_);(with_reducible refine (Zo.calls k a0_0 _ _ l0_1 a0_2 t835 _ ?side1 ?side2 A2.o).mono ?_);(case side1=>exact cB HR0_1 HB);(case side2=>exact HC0_1.o);rintro e w20z ⟨rfl,hb⟩;refine ⟨_,rfl,?_⟩;replace BK2z:=bb BK2z hb;replace BK7z:=bb BK7z hb;replace HB:=bS hb;obtain ⟨hcz21z,hcz22z,hcz23z,hfz24z,hfz25z,hfz26z⟩:=cEc BK7z.o))
 first
  | have q_:=A5
    refine bodyPost_ret (Za7 rfl _ _ gb5z 24 #[.bool t842,.slice Ao76z t843.length co77z,.int .i64 t846] (0,0) _ rfl (by exact p3 BK7z) Tryz.underlying24 rfl (by kernel_rfl)) rfl ?_
    exact ⟨_,pE,by refine rp ?_;exact Kd.Zi (Kd.Zp (p:=⟨gb5z,2,none⟩) (Kd.Zp (p:=⟨gb5z,1,none⟩) (Kd.Zp (p:=⟨gb5z,0,none⟩) (Kd.Zaa HO69z.o BK7z.o (by decide)) (fun _ hk=>hk.2) (.bool t842)) (fun _ hk=>hk.2) (.slice Ao76z t843.length co77z)) (fun _ hk=>hk.2) (.int .i64 t846)) (fun _ hk=>trivial),pB⟩
  | refine bodyPost_ret (Za7 rfl _ _ gb5z 24 #[.bool false,.slice none 0 0,.int .i64 0] (0,0) _ rfl (by exact p3 BK7z) Tryz.underlying24 rfl (by kernel_rfl)) rfl ?_
    exact ⟨_,pE,pN,pB⟩):P:=h
theorem Zbh.calls (k:Nat) (a0_0:Bool) (A0_1:Option Addr) (c0_1:Nat) (l0_1:List Int) (a0_2:Int) (r1:Bool) (r2:List Int) (r3:Int) (r4:Int) (w:World) (hr0_1:Kd.C (Kd.int .u32) w A0_1 l0_1.length l0_1) (hc0_1:l0_1.length<=c0_1) (h:Zbh.f k a0_0 l0_1 a0_2=some (r1,r2,r3,r4)) :
  Calls Tryz.prog 24 #[.agg #[.bool a0_0,.slice A0_1 l0_1.length c0_1,.int .i64 a0_2]] w fun e w' => ∃ v1_:Value,e=.returned (.tuple #[.agg #[.bool r1,v1_,.int .i64 r3],.int .i64 r4])/\Kd.R (Kd.int .u32) 85 w' w.heap.size (fun _=>True) v1_ r2/\Below w.heap.size w w':=by
 have hu24:=Tryz.underlying24
 have hu30:=Tryz.underlying30
 have HR0_1:=am hr0_1
 have HC0_1:=am hc0_1
 clear hr0_1 hc0_1
 have HB:=am (Below.refl w.heap.size w)
 have H:((Zo.f k a0_0 l0_1 a0_2).bind fun t835=>(if t835=0 then ((Zn.f k a0_0 l0_1 a0_2).bind fun bt836=>((Zm.f k false bt836.2.1 bt836.2.2).bind fun bt842=>(some (bt842.1,bt842.2.1,bt842.2.2.1,bt842.2.2.2)))) else (some (false,([]:List Int),0,9))))=some (r1,r2,r3,r4):=h
 clear h
 obtain ⟨t835,A2,H⟩:=ob H
 by_cases c3:t835=0
 ·rw [if_pos c3] at H
  have c3b0:(t835 == 0)=true:=beq_iff_eq.mpr c3
  have c3b1:(t835 != 0)=false:=bne_eq_false_iff_eq.mpr c3
  clear c3
  obtain ⟨⟨t836,t837,t840⟩,A4,H⟩:=ob H;(try dsimp only at H)
  obtain ⟨⟨t842,t843,t846,t847⟩,A5,H⟩:=ob H;(try dsimp only at H)
  simp only [Option.some.injEq,Prod.mk.injEq] at H
  obtain ⟨rfl,rfl,rfl,rfl⟩:=H
  exact Zbh.leaf
 ·rw [if_neg c3] at H
  have c3b0:(t835 == 0)=false:=beq_eq_false_iff_ne.mpr c3
  have c3b1:(t835 != 0)=true:=bne_iff_ne.mpr c3
  simp only [Option.some.injEq,Prod.mk.injEq] at H
  obtain ⟨rfl,rfl,rfl,rfl⟩:=H
  exact Zbh.leaf
def Zci.f (k:Nat) (a0_0:Bool) (l0_1:List Int) (a0_2:Int) (a1_0:Bool) (l1_1:List Int) (a1_2:Int):Option (Int):=(Zai.f k a0_0 l0_1 a0_2 a1_0 l1_1 a1_2).bind fun t873=>(some t873)
theorem Zci.calls (k:Nat) (a0_0:Bool) (A0_1:Option Addr) (c0_1:Nat) (l0_1:List Int) (a0_2:Int) (a1_0:Bool) (A1_1:Option Addr) (c1_1:Nat) (l1_1:List Int) (a1_2:Int) (r:Int) (w:World) (hr0_1:Kd.C (Kd.int .u32) w A0_1 l0_1.length l0_1) (hc0_1:l0_1.length<=c0_1) (hr1_1:Kd.C (Kd.int .u32) w A1_1 l1_1.length l1_1) (hc1_1:l1_1.length<=c1_1) (h:Zci.f k a0_0 l0_1 a0_2 a1_0 l1_1 a1_2=some r) :
  Calls Tryz.prog 25 #[.agg #[.bool a0_0,.slice A0_1 l0_1.length c0_1,.int .i64 a0_2],.agg #[.bool a1_0,.slice A1_1 l1_1.length c1_1,.int .i64 a1_2]] w fun e w'=>e=.returned (.int .i64 r)/\Below w.heap.size w w':=by
 have hu24:=Tryz.underlying24
 have HR0_1:=am hr0_1
 have HC0_1:=am hc0_1
 clear hr0_1 hc0_1
 have HR1_1:=am hr1_1
 have HC1_1:=am hc1_1
 clear hr1_1 hc1_1
 have HB:=am (Below.refl w.heap.size w)
 have H:((Zai.f k a0_0 l0_1 a0_2 a1_0 l1_1 a1_2).bind fun t873=>(some t873))=some r:=h
 clear h
 obtain ⟨t873,A3,H⟩:=ob H
 obtain rfl:=Option.some.inj H
 go_enter Tryz.func25,Tryz.ntmps25
 go_wp2_with (first|((with_reducible refine gd 2 ?_);refine bx 2 #[.bool a0_0,.slice A0_1 l0_1.length c0_1,.int .i64 a0_2] 24 (h:=?_);intro gb871 hg w4 hbox hb;have BK871:=am hbox;have GW871:=gW hg;replace HB:=bS hb;clear hb hbox hg)|((with_reducible refine gd 3 ?_);refine bx 3 #[.bool a1_0,.slice A1_1 l1_1.length c1_1,.int .i64 a1_2] 24 (h:=?_);intro gb872 hg w5 hbox hb;have BK872:=am hbox;have GW872:=gW hg;have NB871_872:=nL hg BK871;have NB872_871:=nG hg BK871;replace BK871:=bb BK871 hb;replace HB:=bS hb;clear hb hbox hg;have hnb6:=NB871_872.o;have hnc6:=NB872_871.o;obtain ⟨_,_,_,_,_,_⟩:=cEc BK871.o;obtain ⟨_,_,_,_,_,_⟩:=cEc BK872.o)|(refine gL (some 7) Tryz.func81 #[.agg #[.bool a0_0,.slice A0_1 l0_1.length c0_1,.int .i64 a0_2],.agg #[.bool a1_0,.slice A1_1 l1_1.length c1_1,.int .i64 a1_2]] (h:=?_);(with_reducible refine (Zai.calls k a0_0 _ _ l0_1 a0_2 a1_0 _ _ l1_1 a1_2 t873 _ ?side1 ?side2 ?side3 ?side4 A3.o).mono ?_);(case side1=>exact cB HR0_1 HB);(case side2=>exact HC0_1.o);(case side3=>exact cB HR1_1 HB);(case side4=>exact HC1_1.o);rintro e w9 ⟨rfl,hb⟩;refine ⟨_,rfl,?_⟩;replace BK871:=bb BK871 hb;replace BK872:=bb BK872 hb;replace HB:=bS hb))
 go_ret
 exact ⟨pE,pB⟩
end YtjbjkmccfocikaaGreatDoor.B
end
section
namespace YtjbjkmccfocikaaGreatDoor.P.Nm
open Go.RowKit YtjbjkmccfocikaaGreatDoorW.PrintWords YtjbjkmccfocikaaGreatDoorW.PrintLast YtjbjkmccfocikaaGreatDoorW.PrintMore YtjbjkmccfocikaaGreatDoor.B YtjbjkmccfocikaaGreatDoor.P
theorem Zhz (a:Bool) (l:List Int) (e:Int) (hd:Dg 4294967296 l) (hl:l.length<=9223372036854775807):Tells (fun k=>Zd2.f k a l e) (decide (chk a l e ≠ 0)):=by
 unfold Zd2.f
 refine (Zjd a l e hd hl).bind ((Tells.pure _).val ?_)
 by_cases h:chk a l e=0 <;> simp [h]
theorem Zim (a:Bool) (l:List Int) (e:Int) (b:Bool) (m:List Int) (g:Int) (hd:Dg 4294967296 l) (hl:l.length<=9223372036854775807) (hd2:Dg 4294967296 m) (hl2:m.length<=9223372036854775807):Tells (fun k=>Zdv.f k [⟨a,l,e⟩,⟨b,m,g⟩]) (if chk a l e=0/\chk b m g=0 then 0 else 9):=by
 have h1:Tells (fun k=>Zcb.f k [⟨a,l,e⟩,⟨b,m,g⟩]) (decide (¬ (chk a l e=0/\chk b m g=0))):=by
  unfold Zcb.f
  simp only [anyO]
  refine (Zhz a l e hd hl).bind ?_
  by_cases h:chk a l e=0
  ·refine Tells.ifn (by simp [h]) ((Zhz b m g hd2 hl2).bind ?_)
   by_cases h2:chk b m g=0
   ·exact Tells.ifn (by simp [h2]) ((Tells.pure _).val (by simp [h,h2]))
   ·exact Tells.ifp (by simp [h2]) ((Tells.pure _).val (by simp [h,h2]))
  ·exact Tells.ifp (by simp [h]) ((Tells.pure _).val (by simp [h]))
 unfold Zdv.f
 refine h1.bind ?_
 by_cases h:chk a l e=0/\chk b m g=0
 ·rw [if_pos h]
  exact Tells.ifn (by simp [h]) (Tells.pure _)
 ·rw [if_neg h]
  exact Tells.ifp (decide_eq_true h) (Tells.pure _)
theorem Zrd (D E:Dm) (hD:OkD D) (hE:OkD E):Tells (fun k=>Zdv.f k [⟨D.neg,limbs D.n,D.e⟩,⟨E.neg,limbs E.n,E.e⟩]) 0:=by
 have h1:=Zew hD
 have h2:=Zew hE
 have := Zim D.neg (limbs D.n) D.e E.neg (limbs E.n) E.e (Zc3 _) (by omega) (Zc3 _) (by omega)
 rw [if_pos ⟨Zjs hD,Zjs hE⟩] at this
 exact this
theorem Zrx (n:Nat):(decT n).size=dl n:=Zfa n
theorem Ze5 {n:Nat} (h:(limbs n).length<=256):Tells (fun k=>Zbm.f k (limbs n)) (dl n:Int):=by
 unfold Zbm.f Zcw.f
 refine (Zf0 h).bind ((Tells.pure _).bind ((Tells.pure _).val ?_))
 rw [Zrx]
theorem Zgz {n:Nat} (h:n<=2400):Tells (fun k=>Zcn.f k (n:Int)) (limbs (10 ^ n)):=by
 unfold Zcn.f Zu.f
 exact (Znl n h).bind ((Tells.pure _).bind (Tells.pure _))
theorem Zja {n:Nat} (h:(limbs n).length<=256) (hn:nd n<=2300):Tells (fun k=>Zca.f k (limbs n) 40) (limbs (n / 10 ^ cutN n),limbs (n % 10 ^ cutN n),(cutN n:Int)):=by
 have h1:=Zob n
 have e1:mx (wrap64 ((dl n:Int) - 40)) 0=((cutN n:Nat):Int):=by rw [w64n (by omega) (by omega),Zs7];unfold cutN;omega
 have hp:=Zgz (n:=cutN n) (by unfold cutN;omega)
 have hpl:(limbs (10 ^ cutN n)).length<=256:=Zd5 (by rw [Zj3];unfold cutN;omega)
 have hp0:10 ^ cutN n ≠ 0:=by have := Zcf (cutN n);omega
 unfold Zca.f
 refine (Ze5 h).bind ?_
 rw [e1]
 refine hp.bind ((Zhd h hpl).bind ?_)
 rw [if_neg hp0]
 exact Tells.pure _
theorem Zqm {n:Nat} (h:n ≠ 0):rd (limbs n) 0=((n % 4294967296:Nat):Int):=by
 unfold limbs
 rw [Ze3 (b:=4294967296) (by omega) h]
 rfl
theorem Zjb {h l c:Nat} (rest:Bool) (hh:(limbs h).length<=256) (hl:(limbs l).length<=256) (hc:c<=2300):Tells (fun k=>Zbg.f k (limbs h) (limbs l) (c:Int) rest) (upB h l c rest):=by
 unfold Zbg.f Zu.f upB
 by_cases h0:c=0
 ·subst h0
  exact Tells.ifp rfl (Tells.pure _)
 ·obtain ⟨j,rfl⟩:∃ j,c=j+1:=⟨c - 1,by omega⟩
  have e1:wrap64 (((j+1:Nat):Int) - 1)=(j:Int):=by rw [w64n (by omega) (by omega)];omega
  have hx:nd (10 ^ j*5)<=j+2:=Zgv (by
   rw [show j+2=(j+1)+1 from rfl,Nat.pow_succ,Nat.pow_succ]
   have := Zcf j
   omega)
  have hm:=Zjg (m:=10 ^ j) (n:=5) (Zd5 (by rw [Zj3];omega)) (by decide +kernel)
  rw [Zoc (Zd5 (by omega))] at hm
  have hcm:=Zip (m:=l) (n:=10 ^ j*5) hl (Zd5 (by omega))
  rw [if_neg h0,Nat.add_sub_cancel]
  refine Tells.ifn (by omega) ?_
  rw [e1]
  refine (Zgz (by omega)).bind ((Zgn 5 (by omega)).bind (hm.bind ((Tells.pure _).bind (hcm.bind ?_))))
  dsimp only
  obtain ⟨H,hH⟩:∃ H,5*10 ^ j=H:=⟨_,rfl⟩
  rw [Nat.mul_comm (10 ^ j) 5,hH]
  have fin:∀ (odd:Bool),odd=decide (h % 2=1)->Tells (fun k=>if cmpN l H > 0 then some true else if cmpN l H=0 then if rest=true then some true else some odd else some false)
    (if H < l then true else if l=H then rest || decide (h % 2=1) else false):=fun odd ho=>by
   by_cases h1:l < H
   ·have hv:cmpN l H = -1:=by unfold cmpN;rw [if_pos h1]
    rw [hv,if_neg (show ¬ H < l by omega),if_neg (show ¬ l=H by omega)]
    exact Tells.ifn (by decide) (Tells.ifn (by decide) (Tells.pure _))
   ·by_cases h2:H < l
    ·have hv:cmpN l H=1:=by unfold cmpN;rw [if_neg h1,if_pos h2]
     rw [hv,if_pos h2]
     exact Tells.ifp (by decide) (Tells.pure _)
    ·have hv:cmpN l H=0:=by unfold cmpN;rw [if_neg h1,if_neg h2]
     rw [hv,if_neg h2,if_pos (show l=H by omega)]
     refine Tells.ifn (by decide) (Tells.ifp rfl ?_)
     cases rest
     ·exact Tells.ifn (by decide) ((Tells.pure _).val (by rw [ho];rfl))
     ·exact Tells.ifp rfl (Tells.pure _)
  by_cases hz:h=0
  ·subst hz
   exact Tells.ifn (by simp [Zfp]) (fin false (by decide))
  ·have hpos:0 < (limbs h).length:=List.length_pos_iff.2 (Zdt hz)
   refine Tells.ifp (by omega) (Tells.ifp (by omega) (fin _ ?_))
   rw [Zqm hz]
   have:Int.tmod ((h % 4294967296:Nat):Int) 2=((h % 2:Nat):Int):=by rw [Int.tmod_eq_emod_of_nonneg (by omega)];omega
   rw [this]
   by_cases hq:h % 2=1
   ·rw [decide_eq_true hq,hq];rfl
   ·rw [decide_eq_false hq]
    exact beq_eq_false_iff_ne.2 (by omega)
theorem Zsd {D E:Dm} (hD:OkD D) (hE:OkD E):padN D.n E.n<=343:=by
 have := hE.len
 have h2:=Zob E.n
 unfold padN
 have:1<=dl D.n:=by
  unfold dl;split
  ·exact Nat.le_refl _
  ·rename_i h;exact Zg5 h
 omega
theorem Zol {n j:Nat} (h:nd n<=300) (hj:j<=400):nd (n*10 ^ j)<=700:=Nat.le_trans (Zeg n j) (by omega)
theorem QDiv {D E:Dm} (hD:OkD D) (hE:OkD E) (h0:E.n ≠ 0):Tells (fun k=>Za8.f k D.neg (limbs D.n) D.e E.neg (limbs E.n) E.e) (outD (quotD D E)):=by
 have l1:=hD.len;have l2:=hE.len
 have b1:=hD.low;have b2:=hE.low;have b3:=hD.high;have b4:=hE.high
 have hp:=Zsd hD hE
 have dD:=Zob D.n
 have dE:=Zob E.n
 have e1:mx (wrap64 ((wrap64 ((wrap64 ((dl E.n:Int) - (dl D.n:Int)))+40))+2)) 0=((padN D.n E.n:Nat):Int):=by
  rw [w64n (z:=(dl E.n:Int) - (dl D.n:Int)) (by omega) (by omega),w64n (z:=(dl E.n:Int) - (dl D.n:Int)+40) (by omega) (by omega),w64n (by omega) (by omega),Zs7]
  unfold padN;omega
 have hpos:0 < (limbs E.n).length:=List.length_pos_iff.2 (Zdt h0)
 obtain ⟨n,hn⟩:∃ n,padN D.n E.n=n:=⟨_,rfl⟩
 rw [hn] at e1 hp
 have hX:=Zol (n:=D.n) (j:=n) l1 (by omega)
 have hm:=Zjg (m:=D.n) (n:=10 ^ n) (Zd5 (by omega)) (Zd5 (by rw [Zj3];omega))
 rw [Zoc (Zd5 (by omega))] at hm
 have hdv:=Zhd (m:=D.n*10 ^ n) (n:=E.n) (Zd5 (by omega)) (Zd5 (by omega))
 rw [if_neg h0] at hdv
 have hq:nd (D.n*10 ^ n / E.n)<=700:=Nat.le_trans (Zer (Nat.div_le_self _ _)) hX
 obtain ⟨q,hqe⟩:∃ q,D.n*10 ^ n / E.n=q:=⟨_,rfl⟩
 obtain ⟨r,hre⟩:∃ r,D.n*10 ^ n % E.n=r:=⟨_,rfl⟩
 rw [hqe,hre] at hdv
 rw [hqe] at hq
 have hpt:=Zja (n:=q) (Zd5 (by omega)) (by omega)
 have hc1:=Zob q
 obtain ⟨c,hce⟩:∃ c,cutN q=c:=⟨_,rfl⟩
 have hc:c<=700:=by rw [<- hce];unfold cutN;omega
 rw [hce] at hpt
 have hh:nd (q / 10 ^ c)<=700:=Nat.le_trans (Zer (Nat.div_le_self _ _)) hq
 have hl:nd (q % 10 ^ c)<=700:=Nat.le_trans (Zer (Nat.mod_le _ _)) hq
 have hup:=Zjb (h:=q / 10 ^ c) (l:=q % 10 ^ c) (c:=c) (decide (((limbs r).length:Int) > 0)) (Zd5 (by omega)) (Zd5 (by omega)) (by omega)
 have hrest:decide (((limbs r).length:Int) > 0)=decide (r ≠ 0):=by
  by_cases hr:r=0
  ·subst hr;rfl
  ·have:0 < (limbs r).length:=List.length_pos_iff.2 (Zdt hr)
   rw [decide_eq_true (show ((limbs r).length:Int) > 0 by omega),decide_eq_true hr]
 rw [hrest] at hup
 have e2:wrap64 ((wrap64 ((wrap64 (D.e - E.e)) - (n:Int)))+(c:Int))=D.e - E.e - n+c:=by
  rw [w64n (z:=D.e - E.e) (by omega) (by omega),w64n (z:=D.e - E.e - (n:Int)) (by omega) (by omega),w64n (by omega) (by omega)]
 have hfin:∀ M:Nat,nd M<=701->Tells (fun k=>(Zav.f k (D.neg != E.neg) (limbs M) (D.e - E.e - n+c)).bind fun bt=>some (bt.1,bt.2.1,bt.2.2.1,bt.2.2.2)) (outD (settleD ⟨D.neg != E.neg,M,D.e - E.e - n+c⟩)):=fun M hM=>by
  have := Ziq (D.neg != E.neg) M (D.e - E.e - n+c) (Zd5 (by omega)) (by omega)
  rw [if_neg (by omega)] at this
  exact this.bind (Tells.pure _)
 have hgoal:quotD D E=settleD ⟨D.neg != E.neg,upN (upB (q / 10 ^ c) (q % 10 ^ c) c (decide (r ≠ 0))) (q / 10 ^ c),D.e - E.e - n+c⟩:=by
  unfold quotD divD
  simp only [hn,hqe,hre,hce]
 rw [hgoal]
 unfold Za8.f Zu.f
 refine (Zrd D E hD hE).bind (Tells.ifp rfl (Tells.ifn (by omega) ((Ze5 (Zd5 (by omega))).bind ((Ze5 (Zd5 (by omega))).bind ?_))))
 rw [e1]
 refine (Zgz (by omega)).bind (hm.bind ((Tells.pure _).bind (hdv.bind (hpt.bind ?_))))
 dsimp only
 rw [hrest,e2]
 refine hup.bind ?_
 cases hu:upB (q / 10 ^ c) (q % 10 ^ c) c (decide (r ≠ 0))
 ·exact Tells.ifn (by simp) (hfin _ (by omega))
 ·have ha:=Znc (m:=q / 10 ^ c) (n:=1) (Zd5 (by omega)) (by decide +kernel)
  have hna:=Zq8 (q / 10 ^ c) 1
  have:nd 1=1:=by decide
  rw [Zoc (Zd5 (by omega))] at ha
  exact Tells.ifp rfl ((Zgn 1 (by omega)).bind (ha.bind ((Tells.pure _).bind (hfin _ (by omega)))))
theorem Znm {D E:Dm} (hD:OkD D) (hE:OkD E) (h0:E.n=0):Tells (fun k=>Za8.f k D.neg (limbs D.n) D.e E.neg (limbs E.n) E.e) (false,[],0,53):=by
 unfold Za8.f
 refine (Zrd D E hD hE).bind (Tells.ifp rfl (Tells.ifp (by rw [h0];rfl) (Tells.pure _)))
theorem Zpn {a b:Bool} {l m:List Int} {e g:Int} (hl:Dg 4294967296 l) (hl2:l.length<=9223372036854775807) (hm:Dg 4294967296 m) (hm2:m.length<=9223372036854775807) (h:¬ (chk a l e=0/\chk b m g=0)):Tells (fun k=>Za8.f k a l e b m g) (false,[],0,9):=by
 unfold Za8.f
 have := Zim a l e b m g hl hl2 hm hm2
 rw [if_neg h] at this
 exact this.bind (Tells.ifn (by decide) (Tells.pure _))
theorem RAbs {D:Dm} (hD:OkD D):Tells (fun k=>Zbh.f k D.neg (limbs D.n) D.e) (outD (absD D,0)):=by
 have l1:=hD.len;have l2:=hD.high;have l3:=hD.low
 have hm:=Made false D.n D.e (by omega) (by omega) (by omega)
 have ok:OkD ⟨false,D.n,D.e⟩:=by rw [<- (Zf1 hD).1];exact (Zf1 hD).2
 unfold Zbh.f
 refine (RCheck D hD).bind (Tells.ifp rfl ((ROf D (by omega)).bind (hm.bind ((Tells.pure _).val ?_))))
 rw [(Zf1 hD).1,Zkc ok]
theorem Rorder {D E:Dm} (hD:OkD D) (hE:OkD E):Tells (fun k=>Zci.f k D.neg (limbs D.n) D.e E.neg (limbs E.n) E.e) (cmpD D E):=by
 unfold Zci.f
 exact (ROrder D E hD hE).bind (Tells.pure _)
end YtjbjkmccfocikaaGreatDoor.P.Nm
end
section
namespace YtjbjkmccfocikaaGreatDoor.P.Nm
open Go.RowKit YtjbjkmccfocikaaGreatDoorW.PrintWords YtjbjkmccfocikaaGreatDoor.B YtjbjkmccfocikaaGreatDoor.P
theorem Tells.at {α:Type} {f:Nat->Option α} {v:α} (n:Nat) (h:∀ k,f (k+n)=some v):Tells f v:=⟨n,fun k hk=>by
 obtain ⟨j,rfl⟩:∃ j,k=j+n:=⟨k - n,by omega⟩
 exact h j⟩
end YtjbjkmccfocikaaGreatDoor.P.Nm
end
section
namespace YtjbjkmccfocikaaGreatDoor.B
open Go.RowKit YtjbjkmccfocikaaGreatDoorW.PrintWords YtjbjkmccfocikaaGreatDoorW.PrintLast YtjbjkmccfocikaaGreatDoorW.PrintMore
attribute [local go_sem] Zb5 Zb7 Zcs Zct Zbn Zbo Zb6 Zb8
def Zbf.f (a0:Int):Option (Int):=some a0
theorem Zbf.calls (a0:Int) (r:Int) (w:World) (h:Zbf.f a0=some r) :
  Calls Tryz.prog 20 #[.int .i64 a0] w fun e w'=>e=.returned (.int .i64 r)/\Drawn0 w w':=by
 have H:(some a0)=some r:=h
 clear h
 obtain rfl:=Option.some.inj H
 go_enter Tryz.func20,Tryz.ntmps20
 go_wp2
 go_ret
 exact ⟨pR,pD⟩
def Za9.l0:Nat->Int->ByteArray->Int->Option (ByteArray)
 | 0,_,_,_=>none
 | k+1,x0,x3,x4=>if x4 < x0 then (if x3.size+1<=9223372036854775807 then (Za9.l0 k x0 (x3++(⟨#[48]⟩:ByteArray)) (wrap64 (x4+1))) else (none)) else (some x3)
def Za9.f (k:Nat) (a0:Int):Option (ByteArray):=Za9.l0 k a0 (⟨#[]⟩:ByteArray) 0
theorem Za9.calls (k:Nat) (a0:Int) (r:ByteArray) (w:World) (h:Za9.f k a0=some r) :
  Calls Tryz.prog 119 #[.int .i64 a0] w fun e w'=>e=.returned (.string r)/\Drawn0 w w':=by
 have H:(Za9.l0 k a0 (⟨#[]⟩:ByteArray) 0)=some r:=h
 clear h
 have H':=am H
 clear H
 go_enter Tryz.func119,Tryz.ntmps119
 go_wp2
 go_loopg [3,4] k (fun kq v3 v4 w' => ∃ (x3_1:ByteArray) (x4_1:Int),v3=.string x3_1/\v4=.int .i64 x4_1/\Aside0 (Za9.l0 kq a0 x3_1 x4_1=some r)/\Aside0 (kq<=k)/\Drawn0 w w')
 case atStart=>exact ⟨((⟨#[]⟩:ByteArray)),(0),pR,pR,H',⟨Nat.le_refl _⟩,pD⟩
 case round =>
  clear H'
  obtain ⟨x3_1,x4_1,rfl,rfl,HA,HK1,⟨m1,rfl⟩⟩:=hrel
  cases gk with
  | zero=>exact absurd HA.out (by simp [Za9.l0])
  | succ k1 =>
   have H:=HA.out
   clear HA
   simp only [Za9.l0] at H
   by_cases c2:x4_1 < a0
   ·rw [if_pos c2] at H
    have c2b0:decide (x4_1 < a0)=true:=decide_eq_true c2
    clear c2
    by_cases c3:x3_1.size+1<=9223372036854775807
    ·rw [if_pos c3] at H
     have c3b0:=eq_true c3
     have c3b1:decide (x3_1.size+1<=9223372036854775807)=true:=decide_eq_true c3
     try have c3b2:(9223372036854775807 < x3_1.size+1)=False:=eq_false (Nat.not_lt.2 c3)
     have H':=am H
     clear H
     go_wp2
     go_roundg k1
     case measure=>have := HK1.out;omega
     case rel=>exact ⟨(x3_1++(⟨#[48]⟩:ByteArray)),(wrap64 (x4_1+1)),pR,pR,H',⟨by have := HK1.out;omega⟩,pD⟩
    ·rw [if_neg c3] at H
     exact absurd H (by simp)
   ·rw [if_neg c2] at H
    have c2b0:decide (x4_1 < a0)=false:=decide_eq_false c2
    clear c2
    obtain rfl:=Option.some.inj H
    go_wp2
    go_ret
    exact ⟨pR,pD⟩
def Zbe.f:Nat->Int->Option (ByteArray)
 | 0,_=>none
 | k+1,a0=>if a0 < 10 then (some (strOfNums (([(wrap64 (48+a0)) % 256]:List Int)))) else ((Zbe.f k (wrap64 (Int.tdiv a0 10))).bind fun t599=>((Zbe.f k (Int.tmod a0 10)).bind fun t600=>(if t599.size+t600.size<=9223372036854775807 then (some (t599++t600)) else (none))))
theorem Zbe.calls (k:Nat):∀ (a0:Int) (r:ByteArray) (w:World) (h:Zbe.f k a0=some r),
  Calls Tryz.prog 120 #[.int .i64 a0] w fun e w'=>e=.returned (.string r)/\Below w.heap.size w w':=by
 induction k using Nat.strongRecOn with
 | _ k ih =>
 intro a0 r w h
 cases k with
 | zero=>exact absurd h (by simp [Zbe.f])
 | succ k =>
 simp only [Zbe.f] at h
 have HB:=am (Below.refl w.heap.size w)
 have H:(if a0 < 10 then (some (strOfNums (([(wrap64 (48+a0)) % 256]:List Int)))) else ((Zbe.f k (wrap64 (Int.tdiv a0 10))).bind fun t599=>((Zbe.f k (Int.tmod a0 10)).bind fun t600=>(if t599.size+t600.size<=9223372036854775807 then (some (t599++t600)) else (none)))))=some r:=h
 clear h
 by_cases c2:a0 < 10
 ·rw [if_pos c2] at H
  have c2b0:decide (a0 < 10)=true:=decide_eq_true c2
  clear c2
  obtain ⟨y596,hy596⟩:∃ y_:List Int,y_=(([(wrap64 (48+a0)) % 256]:List Int)):=⟨_,rfl⟩
  replace H:(some (strOfNums y596))=some r:=by have hy_:=hy596;exact pH
  have Ny596:=am hy596
  clear hy596
  obtain rfl:=Option.some.inj H
  go_enter Tryz.func120,Tryz.ntmps120
  go_wp2_with (first|((with_reducible refine gd 8 ?_);refine Kd.Zg8 (Kd.int .u8) _ 5 ?hg (N:=8) ?hd (xs:=([(wrap64 (48+a0)) % 256]:List Int)) (inner:=[.int .u8 ((wrap64 (48+a0)) % 256)]) (ok:=fun _=>True) (okp:=fun _=>True) ?hr ?hp (fun _ hk=>hk) trivial (Below.refl _ _) (Nat.le_refl _) (by simp) ?_;(case hd=>rfl);(case hg=>rfl);(case hr=>first|(go_simp;done)|(go_simp;rfl));(case hp=>exact (Reps.one (show Kd.M (Kd.int .u8) _ _ _ ((wrap64 (48+a0)) % 256) [.int .u8 ((wrap64 (48+a0)) % 256)] from rfl) (Reps.none _ _)));intro v597 w3 ho4 hb hg_ hnew_;clear hg_ hnew_;(first|rw [<- Ny596.out] at ho4|(simp only [Int.reduceToNat] at ho4;rw [<- Ny596.out] at ho4));have HO598:=am (Kd.Zq ho4 (Zb pB));replace HB:=bS hb;clear hb ho4;have hcv5:=Zgy (P:=Tryz.prog) Tryz.underlying146 Tryz.underlying5 Tryz.underlying9 (Kd.Zdq HO598.o)))
  go_ret
  exact ⟨pE,pB⟩
 ·rw [if_neg c2] at H
  have c2b0:decide (a0 < 10)=false:=decide_eq_false c2
  clear c2
  obtain ⟨t599,A6,H⟩:=ob H
  obtain ⟨t600,A7,H⟩:=ob H
  by_cases c8:t599.size+t600.size<=9223372036854775807
  ·rw [if_pos c8] at H
   have c8b0:=eq_true c8
   have c8b1:decide (t599.size+t600.size<=9223372036854775807)=true:=decide_eq_true c8
   try have c8b2:(9223372036854775807 < t599.size+t600.size)=False:=eq_false (Nat.not_lt.2 c8)
   obtain rfl:=Option.some.inj H
   go_enter Tryz.func120,Tryz.ntmps120
   go_wp2_with (first|(refine gL (some 12) Tryz.func120 #[.int .i64 (wrap64 (Int.tdiv a0 10))] (h:=?_);(with_reducible refine (ih k (by omega) (wrap64 (Int.tdiv a0 10)) t599 _ A6.o).mono ?_);rintro e w9 ⟨rfl,hb⟩;refine ⟨_,rfl,?_⟩;replace HB:=bS hb)|(refine gL (some 15) Tryz.func120 #[.int .i64 (Int.tmod a0 10)] (h:=?_);(with_reducible refine (ih k (by omega) (Int.tmod a0 10) t600 _ A7.o).mono ?_);rintro e w10 ⟨rfl,hb⟩;refine ⟨_,rfl,?_⟩;replace HB:=bS hb))
   go_ret
   exact ⟨pE,pB⟩
  ·rw [if_neg c8] at H
   exact absurd H (by simp)
mutual
def Zf.j0:Nat->ByteArray->ByteArray->Bool->List Int->Int->Option (ByteArray)
 | 0,_,_,_,_,_=>none
 | k+1,x4,x5,x608000,x608001,x608002=>if (x608001.length:Int)=0 then (some (⟨#[48]⟩:ByteArray)) else (if (wrap64 ((x4.size:Int)+x608002)) >= (-5) then (Zf.j1 k x4 x5 (wrap64 ((x4.size:Int)+x608002)) (decide ((wrap64 ((x4.size:Int)+x608002)) < 1))) else (Zf.j1 k x4 x5 (wrap64 ((x4.size:Int)+x608002)) false))
def Zf.j3:Nat->ByteArray->ByteArray->Int->Option (ByteArray)
 | 0,_,_,_=>none
 | k+1,x4,x5,x6=>if (wrap64 (x6 - 1)) < 0 then (Zf.j4 k x4 x5 (wrap64 (-(wrap64 (x6 - 1)))) (⟨#[101,45]⟩:ByteArray)) else (Zf.j4 k x4 x5 (wrap64 (x6 - 1)) (⟨#[101,43]⟩:ByteArray))
def Zf.j4:Nat->ByteArray->ByteArray->Int->ByteArray->Option (ByteArray)
 | 0,_,_,_,_=>none
 | k+1,x4,x5,x6,x7=>if (x4.size:Int) > 1 then (if 0<=1 then (if 1<=(x4.size:Int) then (if x5.size+(x4.extract 0 1).size<=9223372036854775807 then (if (x5++(x4.extract 0 1)).size+1<=9223372036854775807 then (if ((x5++(x4.extract 0 1))++(⟨#[46]⟩:ByteArray)).size+(x4.extract 1 x4.size).size<=9223372036854775807 then (if (((x5++(x4.extract 0 1))++(⟨#[46]⟩:ByteArray))++(x4.extract 1 x4.size)).size+x7.size<=9223372036854775807 then ((Zbe.f k x6).bind fun t611=>(if ((((x5++(x4.extract 0 1))++(⟨#[46]⟩:ByteArray))++(x4.extract 1 x4.size))++x7).size+t611.size<=9223372036854775807 then (some (((((x5++(x4.extract 0 1))++(⟨#[46]⟩:ByteArray))++(x4.extract 1 x4.size))++x7)++t611)) else (none))) else (none)) else (none)) else (none)) else (none)) else (none)) else (none)) else (if x5.size+x4.size<=9223372036854775807 then (if (x5++x4).size+x7.size<=9223372036854775807 then ((Zbe.f k x6).bind fun t612=>(if ((x5++x4)++x7).size+t612.size<=9223372036854775807 then (some (((x5++x4)++x7)++t612)) else (none))) else (none)) else (none))
def Zf.j1:Nat->ByteArray->ByteArray->Int->Bool->Option (ByteArray)
 | 0,_,_,_,_=>none
 | k+1,x4,x5,x6,x25=>if x25=true then (if x5.size+2<=9223372036854775807 then ((Za9.f k (wrap64 (-x6))).bind fun t609=>(if (x5++(⟨#[48,46]⟩:ByteArray)).size+t609.size<=9223372036854775807 then (if ((x5++(⟨#[48,46]⟩:ByteArray))++t609).size+x4.size<=9223372036854775807 then (some (((x5++(⟨#[48,46]⟩:ByteArray))++t609)++x4)) else (none)) else (none))) else (none)) else (if x6 >= 1 then (if x6<=21 then (Zf.j2 k x4 x5 x6 (decide (x6 < (x4.size:Int)))) else (Zf.j2 k x4 x5 x6 false)) else (Zf.j2 k x4 x5 x6 false))
def Zf.j2:Nat->ByteArray->ByteArray->Int->Bool->Option (ByteArray)
 | 0,_,_,_,_=>none
 | k+1,x4,x5,x6,x40=>if x40=true then (if 0<=x6 then (if x6<=(x4.size:Int) then (if x5.size+(x4.extract 0 (x6:Int).toNat).size<=9223372036854775807 then (if (x5++(x4.extract 0 (x6:Int).toNat)).size+1<=9223372036854775807 then (if ((x5++(x4.extract 0 (x6:Int).toNat))++(⟨#[46]⟩:ByteArray)).size+(x4.extract (x6:Int).toNat x4.size).size<=9223372036854775807 then (some (((x5++(x4.extract 0 (x6:Int).toNat))++(⟨#[46]⟩:ByteArray))++(x4.extract (x6:Int).toNat x4.size))) else (none)) else (none)) else (none)) else (none)) else (none)) else (if x6 >= 1 then (if x6<=21 then (if x5.size+x4.size<=9223372036854775807 then ((Za9.f k (wrap64 (x6 - (x4.size:Int)))).bind fun t610=>(if (x5++x4).size+t610.size<=9223372036854775807 then (some ((x5++x4)++t610)) else (none))) else (none)) else (Zf.j3 k x4 x5 x6)) else (Zf.j3 k x4 x5 x6))
end
def Zf.f (k:Nat) (a0_0:Bool) (l0_1:List Int) (a0_2:Int):Option (ByteArray):=(Zn.f k a0_0 l0_1 a0_2).bind fun bt602=>((Zbd.f k bt602.2.1).bind fun t608=>(if bt602.1=true then (Zf.j0 k t608 (⟨#[45]⟩:ByteArray) bt602.1 bt602.2.1 bt602.2.2) else (Zf.j0 k t608 (⟨#[]⟩:ByteArray) bt602.1 bt602.2.1 bt602.2.2)))
def Zf.T11:Bool × List (List Nat × List Nat):=(true,[([],[]),([],[]),([],[]),([1,2],[1,2]),([0,3],[0,3]),([4],[4]),([],[]),([],[]),([6,7],[6,7]),([5,8],[5,8]),([9,0,1,2,3,4,5,6,7,8,9],[9])])
def Zf.B11:List Nat:=[0,0,0,6,15,31,0,0,192,511,1023]
theorem Zf.tab11:rtab .any (opsOf Tryz.f63 11)=Zf.T11:=by kernel_rfl
theorem Zf.bits11:waitsOk Zf.T11.2 Zf.B11=true:=by kernel_rfl
def Zf.T19:Bool × List (List Nat × List Nat):=(true,[([],[]),([],[]),([1],[1]),([0,2],[0,2]),([3],[3]),([],[]),([5],[5]),([4,6],[4,6]),([],[]),([7,8],[7,8]),([],[]),([10],[10]),([9,11],[9,11]),([12,11,0,1,2,3,4,5,6,7,8,9,10,11,12],[12])])
def Zf.B19:List Nat:=[0,0,2,7,15,0,32,127,0,511,0,1024,4095,8191]
theorem Zf.tab19:rtab .any (opsOf Tryz.f63 19)=Zf.T19:=by kernel_rfl
theorem Zf.bits19:waitsOk Zf.T19.2 Zf.B19=true:=by kernel_rfl
theorem Zf.calls (k:Nat) (a0_0:Bool) (A0_1:Option Addr) (c0_1:Nat) (l0_1:List Int) (a0_2:Int) (r:ByteArray) (w:World) (hr0_1:Kd.C (Kd.int .u32) w A0_1 l0_1.length l0_1) (hc0_1:l0_1.length<=c0_1) (h:Zf.f k a0_0 l0_1 a0_2=some r) :
  Calls Tryz.prog 63 #[.agg #[.bool a0_0,.slice A0_1 l0_1.length c0_1,.int .i64 a0_2]] w fun e w'=>e=.returned (.string r)/\Below w.heap.size w w':=by
 have hu24:=Tryz.underlying24
 have hu30:=Tryz.underlying30
 have HR0_1:=am hr0_1
 have HC0_1:=am hc0_1
 clear hr0_1 hc0_1
 have HB:=am (Below.refl w.heap.size w)
 have H:((Zn.f k a0_0 l0_1 a0_2).bind fun bt602=>((Zbd.f k bt602.2.1).bind fun t608=>(if bt602.1=true then (Zf.j0 k t608 (⟨#[45]⟩:ByteArray) bt602.1 bt602.2.1 bt602.2.2) else (Zf.j0 k t608 (⟨#[]⟩:ByteArray) bt602.1 bt602.2.1 bt602.2.2))))=some r:=h
 clear h
 obtain ⟨⟨t602,t603,t606⟩,A2,H⟩:=ob H;(try dsimp only at H)
 obtain ⟨t608,A3,H⟩:=ob H
 have HC4:=am H
 clear H
 go_enter Tryz.func63,Tryz.ntmps63
 go_upto_if 14 with (first|((with_reducible refine gd 1 ?_);(try (refine Zao (by rfl) ?_;dsimp only));refine bx 1 #[.bool a0_0,.slice A0_1 l0_1.length c0_1,.int .i64 a0_2] 24 (h:=?_);intro gb601 hg w5 hbox hb;have BK601:=am hbox;have GW601:=gW hg;replace HB:=bS hb;clear hb hbox hg;obtain ⟨_,_,_,_,_,_⟩:=cEc BK601.o)|(refine gL (some 9) Tryz.func18 #[.agg #[.bool a0_0,.slice A0_1 l0_1.length c0_1,.int .i64 a0_2]] (h:=?_);(with_reducible refine (Zn.calls k a0_0 _ _ l0_1 a0_2 t602 t603 t606 _ ?side1 ?side2 A2.o).mono ?_);(case side1=>exact cB HR0_1 HB);(case side2=>exact HC0_1.o);rintro e w7 ⟨v604,rfl,ho0,hb⟩;refine ⟨_,rfl,?_⟩;have HO605:=am (Kd.Zq ho0 (Zb pB));replace BK601:=bb BK601 hb;replace HB:=bS hb)|((with_reducible refine gd 3 ?_);(try (refine Zao (by rfl) ?_;dsimp only));refine bx 3 #[.bool false,.slice none 0 0,.int .i64 0] 30 (h:=?_);intro gb607 hg w8 hbox hb;have BK607:=am hbox;have GW607:=gW hg;have NB601_607:=nL hg BK601;have NB607_601:=nG hg BK601;replace HO605:=rbl HO605 hb;replace BK601:=bb BK601 hb;replace HB:=bS hb;clear hb hbox hg;have hnb9:=NB607_601.o;have hnc9:=NB601_607.o;obtain ⟨_,_,_,_,_,_⟩:=cEc BK607.o;obtain ⟨Ao11,co11,eo11⟩:=Kd.Zj HO605.o;subst eo11)|(refine gL (some 12) Tryz.func118 #[.slice Ao11 t603.length co11] (h:=?_);(with_reducible refine (Zbd.calls k _ _ t603 t608 _ ?side1 ?side2 A3.o).mono ?_);(case side1=>refine (Kd.Zd (e:=3) (base:=w.heap.size) (ok:=fun k_=>True) (n:=t603.length) (c:=co11) ?_).2.2;exact (Kd.Za (z3 HO605.o BK607.o (by decide) (.bool t602) (.slice Ao11 t603.length co11) (.int .i64 t606)) pl));(case side2=>exact (Kd.Zd HO605.o).2.1);rintro e w12 ⟨rfl,hb⟩;refine ⟨_,rfl,?_⟩;replace HO605:=am (Kd.Za (Kd.Za (z3 HO605.o BK607.o (by decide) (.bool t602) (.slice Ao11 t603.length co11) (.int .i64 t606)) pl) hb);replace BK601:=bfb NB601_607 BK601 hb;replace BK607:=am (Zc (g:=gb607) (o:=.cells #[.bool t602,.slice Ao11 t603.length co11,.int .i64 t606] 30 (0,0)) (by exact p3 BK607) hb);replace HB:=bS hb;obtain ⟨_,_,_,_,_,_⟩:=cEc BK607.o))
 (try simp only [Act.put,List.setIfInBounds_toArray,List.set_cons_zero,List.set_cons_succ])
 go_cut [5] (fun v5 wc => ∃ (kq:Nat) (x5_3:ByteArray),v5=.string x5_3/\Aside0 (Zf.j0 kq t608 x5_3 t602 t603 t606=some r)/\Aside0 (kq<=k)/\Aside0 (Kd.R (Kd.int .i64) 3 wc w.heap.size (fun _=>True) (.slice Ao11 t603.length co11) t603)/\Aside0 (wc.heap[gb601]? = some (.cells #[.bool a0_0,(.slice A0_1 l0_1.length c0_1),.int .i64 a0_2] 24 (0,0)))/\Aside0 (wc.heap[gb607]? = some (.cells #[.bool t602,(.slice Ao11 t603.length co11),.int .i64 t606] 30 (0,0)))/\Aside0 (Below w.heap.size w wc))
 case first =>
  have H:=HC4.o
  clear HC4
  by_cases c14:t602=true
  ·subst c14
   rw [if_pos rfl] at H
   have H':=am H
   clear H
   go_wp2
   go_meet
   case rel=>exact ⟨_,((⟨#[45]⟩:ByteArray)),pR,H',⟨by first|omega|exact Nat.le_refl _⟩,⟨by refine rp ?_;exact HO605.o⟩,⟨Zc BK601.o pl⟩,⟨Zc BK607.o pl⟩,⟨pB⟩⟩
  ·replace c14:=Bool.eq_false_iff.mpr c14
   subst c14
   rw [if_neg (show ¬ (false=true) by decide)] at H
   have H':=am H
   clear H
   go_wp2
   go_meet
   case rel=>exact ⟨_,((⟨#[]⟩:ByteArray)),pR,H',⟨by first|omega|exact Nat.le_refl _⟩,⟨by refine rp ?_;exact HO605.o⟩,⟨Zc BK601.o pl⟩,⟨Zc BK607.o pl⟩,⟨pB⟩⟩
 case rest =>
  clear HC4
  obtain ⟨kq,x5_3,rfl,HA,HJ3,HO_608001,BK601,BK607,HB⟩:=hcut
  cases kq with
  | zero=>exact absurd HA.out (by simp [Zf.j0])
  | succ kj3 =>
   have H:=HA.out
   clear HA
   simp only [Zf.j0] at H
   have HC15:=am H
   clear H
   have hnb16:=NB607_601.o
   have hnc16:=NB601_607.o
   obtain ⟨_,_,_,_,_,_⟩:=cEc BK607.o
   go_upto_block 0 with (fail)
   go_cut [] (fun wc => ∃ (kq:Nat),Aside0 (Zf.j3 kq t608 x5_3 (wrap64 ((t608.size:Int)+t606))=some r)/\Aside0 (kq<=kj3)/\Aside0 (Kd.R (Kd.int .i64) 3 wc w.heap.size (fun _=>True) (.slice Ao11 t603.length co11) t603)/\Aside0 (wc.heap[gb601]? = some (.cells #[.bool a0_0,(.slice A0_1 l0_1.length c0_1),.int .i64 a0_2] 24 (0,0)))/\Aside0 (wc.heap[gb607]? = some (.cells #[.bool t602,(.slice Ao11 t603.length co11),.int .i64 t606] 30 (0,0)))/\Aside0 (Below w.heap.size w wc))
   case first =>
    have H:=HC15.o
    clear HC15
    by_cases c18:(t603.length:Int)=0
    ·rw [if_pos c18] at H
     have c18b0:((t603.length:Int) == 0)=true:=beq_iff_eq.mpr c18
     have c18b1:((t603.length:Int) != 0)=false:=bne_eq_false_iff_eq.mpr c18
     clear c18
     (first|rw [c18b0]|(simp only [Zcd,Zdb];rw [c18b0])|skip)
     obtain rfl:=Option.some.inj H
     have hnb19:=NB607_601.o
     have hnc19:=NB601_607.o
     obtain ⟨_,_,_,_,_,_⟩:=cEc BK607.o
     go_wp2
     go_ret
     exact ⟨pE,pB⟩
    ·rw [if_neg c18] at H
     have c18b0:((t603.length:Int) == 0)=false:=beq_eq_false_iff_ne.mpr c18
     have c18b1:((t603.length:Int) != 0)=true:=bne_iff_ne.mpr c18
     have c18b2:¬ (t603=[]):=fun h_=>c18 (by rw [h_];rfl)
     (first|rw [c18b0]|(simp only [Zcd,Zdb];rw [c18b0])|skip)
     have HC21:=am H
     clear H
     have hnb22:=NB607_601.o
     have hnc22:=NB601_607.o
     obtain ⟨_,_,_,_,_,_⟩:=cEc BK607.o
     go_upto_region 8 with (fail)
     go_cut [25] (fun v25 wc => ∃ (kq:Nat) (x25_20:Bool),v25=.bool x25_20/\Aside0 (Zf.j1 kq t608 x5_3 (wrap64 ((t608.size:Int)+t606)) x25_20=some r)/\Aside0 (kq<=kj3)/\Aside0 (Kd.R (Kd.int .i64) 3 wc w.heap.size (fun _=>True) (.slice Ao11 t603.length co11) t603)/\Aside0 (wc.heap[gb601]? = some (.cells #[.bool a0_0,(.slice A0_1 l0_1.length c0_1),.int .i64 a0_2] 24 (0,0)))/\Aside0 (wc.heap[gb607]? = some (.cells #[.bool t602,(.slice Ao11 t603.length co11),.int .i64 t606] 30 (0,0)))/\Aside0 (Below w.heap.size w wc))
     case first =>
      have H:=HC21.o
      clear HC21
      by_cases c24:(wrap64 ((t608.size:Int)+t606)) >= (-5)
      ·rw [if_pos c24] at H
       have c24b0:decide ((-5)<=(wrap64 ((t608.size:Int)+t606)))=true:=decide_eq_true c24
       clear c24
       (first|rw [c24b0]|(simp only [Zcd,Zdb];rw [c24b0])|skip)
       have H':=am H
       clear H
       go_wp2
       go_meet
       case rel=>exact ⟨_,(decide ((wrap64 ((t608.size:Int)+t606)) < 1)),pR,H',⟨by have := HJ3.o;first|omega|exact Nat.le_refl _⟩,⟨by refine rp ?_;exact HO_608001.o⟩,⟨Zc BK601.o pl⟩,⟨Zc BK607.o pl⟩,⟨pB⟩⟩
      ·rw [if_neg c24] at H
       have c24b0:decide ((-5)<=(wrap64 ((t608.size:Int)+t606)))=false:=decide_eq_false c24
       clear c24
       (first|rw [c24b0]|(simp only [Zcd,Zdb];rw [c24b0])|skip)
       have H':=am H
       clear H
       go_wp2
       go_meet
       case rel=>exact ⟨_,(false),pR,H',⟨by have := HJ3.o;first|omega|exact Nat.le_refl _⟩,⟨by refine rp ?_;exact HO_608001.o⟩,⟨Zc BK601.o pl⟩,⟨Zc BK607.o pl⟩,⟨pB⟩⟩
     case rest =>
      clear HC21
      obtain ⟨kq,x25_20,rfl,HA,HJ20,HO_608001,BK601,BK607,HB⟩:=hcut
      cases kq with
      | zero=>exact absurd HA.out (by simp [Zf.j1])
      | succ kj20 =>
       have H:=HA.out
       clear HA
       simp only [Zf.j1] at H
       by_cases c25:x25_20=true
       ·subst c25
        rw [if_pos rfl] at H
        by_cases c26:x5_3.size+2<=9223372036854775807
        ·rw [if_pos c26] at H
         have c26b0:=eq_true c26
         have c26b1:decide (x5_3.size+2<=9223372036854775807)=true:=decide_eq_true c26
         try have c26b2:(9223372036854775807 < x5_3.size+2)=False:=eq_false (Nat.not_lt.2 c26)
         obtain ⟨t609,A27,H⟩:=ob H
         by_cases c28:(x5_3++(⟨#[48,46]⟩:ByteArray)).size+t609.size<=9223372036854775807
         ·rw [if_pos c28] at H
          have c28b0:=eq_true c28
          have c28b1:decide ((x5_3++(⟨#[48,46]⟩:ByteArray)).size+t609.size<=9223372036854775807)=true:=decide_eq_true c28
          try have c28b2:(9223372036854775807 < (x5_3++(⟨#[48,46]⟩:ByteArray)).size+t609.size)=False:=eq_false (Nat.not_lt.2 c28)
          try have c28b3:(9223372036854775807 < x5_3.size+2+t609.size)=False:=eq_false (Nat.not_lt.2 (by have q_:=c28;have l0_:(⟨#[48,46]⟩:ByteArray).size=2:=rfl;(try have h0_:=of_decide_eq_true c26b1);simp only [ByteArray.size_append,ByteArray.size_extract] at q_;omega))
          by_cases c29:((x5_3++(⟨#[48,46]⟩:ByteArray))++t609).size+t608.size<=9223372036854775807
          ·rw [if_pos c29] at H
           have c29b0:=eq_true c29
           have c29b1:decide (((x5_3++(⟨#[48,46]⟩:ByteArray))++t609).size+t608.size<=9223372036854775807)=true:=decide_eq_true c29
           try have c29b2:(9223372036854775807 < ((x5_3++(⟨#[48,46]⟩:ByteArray))++t609).size+t608.size)=False:=eq_false (Nat.not_lt.2 c29)
           try have c29b3:(9223372036854775807 < x5_3.size+2+t609.size+t608.size)=False:=eq_false (Nat.not_lt.2 (by have q_:=c29;have l0_:(⟨#[48,46]⟩:ByteArray).size=2:=rfl;(try have h0_:=of_decide_eq_true c26b1);(try have h1_:=of_decide_eq_true c28b1);simp only [ByteArray.size_append,ByteArray.size_extract] at q_;omega))
           obtain rfl:=Option.some.inj H
           go_wp2_with (first|(refine gL (some 36) Tryz.func119 #[.int .i64 (wrap64 (-(wrap64 ((t608.size:Int)+t606))))] (h:=?_);(with_reducible refine (Za9.calls kj20 (wrap64 (-(wrap64 ((t608.size:Int)+t606)))) t609 _ A27.o).mono ?_);rintro e w' ⟨rfl,⟨nd,rfl⟩⟩;refine ⟨_,rfl,?_⟩))
           go_ret
           exact ⟨pE,pB⟩
          ·rw [if_neg c29] at H
           exact absurd H (by simp)
         ·rw [if_neg c28] at H
          exact absurd H (by simp)
        ·rw [if_neg c26] at H
         exact absurd H (by simp)
       ·replace c25:=Bool.eq_false_iff.mpr c25
        subst c25
        rw [if_neg (show ¬ (false=true) by decide)] at H
        have HC30:=am H
        clear H
        go_upto_region 10 with (fail)
        go_cut [40] (fun v40 wc => ∃ (kq:Nat) (x40_29:Bool),v40=.bool x40_29/\Aside0 (Zf.j2 kq t608 x5_3 (wrap64 ((t608.size:Int)+t606)) x40_29=some r)/\Aside0 (kq<=kj20)/\Aside0 (Kd.R (Kd.int .i64) 3 wc w.heap.size (fun _=>True) (.slice Ao11 t603.length co11) t603)/\Aside0 (wc.heap[gb601]? = some (.cells #[.bool a0_0,(.slice A0_1 l0_1.length c0_1),.int .i64 a0_2] 24 (0,0)))/\Aside0 (wc.heap[gb607]? = some (.cells #[.bool t602,(.slice Ao11 t603.length co11),.int .i64 t606] 30 (0,0)))/\Aside0 (Below w.heap.size w wc))
        case first =>
         have H:=HC30.o
         clear HC30
         by_cases c31:(wrap64 ((t608.size:Int)+t606)) >= 1
         ·rw [if_pos c31] at H
          have c31b0:decide (1<=(wrap64 ((t608.size:Int)+t606)))=true:=decide_eq_true c31
          clear c31
          (first|rw [c31b0]|(simp only [Zcd,Zdb];rw [c31b0])|skip)
          by_cases c32:(wrap64 ((t608.size:Int)+t606))<=21
          ·rw [if_pos c32] at H
           have c32b0:decide ((wrap64 ((t608.size:Int)+t606))<=21)=true:=decide_eq_true c32
           clear c32
           have H':=am H
           clear H
           go_wp2
           go_meet
           case rel=>exact ⟨_,(decide ((wrap64 ((t608.size:Int)+t606)) < (t608.size:Int))),pR,H',⟨by have := HJ3.o;have := HJ20.o;first|omega|exact Nat.le_refl _⟩,⟨by refine rp ?_;exact HO_608001.o⟩,⟨Zc BK601.o pl⟩,⟨Zc BK607.o pl⟩,⟨pB⟩⟩
          ·rw [if_neg c32] at H
           have c32b0:decide ((wrap64 ((t608.size:Int)+t606))<=21)=false:=decide_eq_false c32
           clear c32
           have H':=am H
           clear H
           go_wp2
           go_meet
           case rel=>exact ⟨_,(false),pR,H',⟨by have := HJ3.o;have := HJ20.o;first|omega|exact Nat.le_refl _⟩,⟨by refine rp ?_;exact HO_608001.o⟩,⟨Zc BK601.o pl⟩,⟨Zc BK607.o pl⟩,⟨pB⟩⟩
         ·rw [if_neg c31] at H
          have c31b0:decide (1<=(wrap64 ((t608.size:Int)+t606)))=false:=decide_eq_false c31
          clear c31
          (first|rw [c31b0]|(simp only [Zcd,Zdb];rw [c31b0])|skip)
          have H':=am H
          clear H
          go_wp2
          go_meet
          case rel=>exact ⟨_,(false),pR,H',⟨by have := HJ3.o;have := HJ20.o;first|omega|exact Nat.le_refl _⟩,⟨by refine rp ?_;exact HO_608001.o⟩,⟨Zc BK601.o pl⟩,⟨Zc BK607.o pl⟩,⟨pB⟩⟩
        case rest =>
         clear HC30
         obtain ⟨kq,x40_29,rfl,HA,HJ29,HO_608001,BK601,BK607,HB⟩:=hcut
         cases kq with
         | zero=>exact absurd HA.out (by simp [Zf.j2])
         | succ kj29 =>
          have H:=HA.out
          clear HA
          simp only [Zf.j2] at H
          by_cases c33:x40_29=true
          ·subst c33
           rw [if_pos rfl] at H
           obtain ⟨ji34,hji34⟩:∃ j_:Int,(wrap64 ((t608.size:Int)+t606))=j_:=⟨_,rfl⟩
           replace H:(if 0<=(ji34) then (if (ji34)<=(t608.size:Int) then (if x5_3.size+(t608.extract 0 ((ji34):Int).toNat).size<=9223372036854775807 then (if (x5_3++(t608.extract 0 ((ji34):Int).toNat)).size+1<=9223372036854775807 then (if ((x5_3++(t608.extract 0 ((ji34):Int).toNat))++(⟨#[46]⟩:ByteArray)).size+(t608.extract ((ji34):Int).toNat t608.size).size<=9223372036854775807 then (some (((x5_3++(t608.extract 0 ((ji34):Int).toNat))++(⟨#[46]⟩:ByteArray))++(t608.extract ((ji34):Int).toNat t608.size))) else (none)) else (none)) else (none)) else (none)) else (none))=some r:=by first|(rw [hji34] at H;exact H)|(simp only [hji34] at H ⊢;exact H)
           have hji34w:(IntKind.i64.wrap ((t608.size:Int)+t606))=ji34:=(Zcd _).trans hji34
           by_cases c35:0<=(ji34)
           ·rw [if_pos c35] at H
            have c35b0:=eq_true c35
            have c35b1:decide (0<=(ji34))=true:=decide_eq_true c35
            clear c35
            by_cases c36:(ji34)<=(t608.size:Int)
            ·rw [if_pos c36] at H
             have c36b0:=eq_true c36
             have c36b1:decide ((ji34)<=(t608.size:Int))=true:=decide_eq_true c36
             clear c36
             by_cases c37:x5_3.size+(t608.extract 0 ((ji34):Int).toNat).size<=9223372036854775807
             ·rw [if_pos c37] at H
              have c37b0:=eq_true c37
              have c37b1:decide (x5_3.size+(t608.extract 0 ((ji34):Int).toNat).size<=9223372036854775807)=true:=decide_eq_true c37
              try have c37b2:(9223372036854775807 < x5_3.size+(t608.extract 0 ((ji34):Int).toNat).size)=False:=eq_false (Nat.not_lt.2 c37)
              try have c37b3:(9223372036854775807 < x5_3.size+((ji34):Int).toNat)=False:=eq_false (Nat.not_lt.2 (by have q_:=c37;(try have h0_:=of_decide_eq_true c35b1);(try have h1_:=of_decide_eq_true c36b1);simp only [ByteArray.size_append,ByteArray.size_extract] at q_;omega))
              by_cases c38:(x5_3++(t608.extract 0 ((ji34):Int).toNat)).size+1<=9223372036854775807
              ·rw [if_pos c38] at H
               have c38b0:=eq_true c38
               have c38b1:decide ((x5_3++(t608.extract 0 ((ji34):Int).toNat)).size+1<=9223372036854775807)=true:=decide_eq_true c38
               try have c38b2:(9223372036854775807 < (x5_3++(t608.extract 0 ((ji34):Int).toNat)).size+1)=False:=eq_false (Nat.not_lt.2 c38)
               try have c38b3:(9223372036854775807 < x5_3.size+((ji34):Int).toNat+1)=False:=eq_false (Nat.not_lt.2 (by have q_:=c38;(try have h0_:=of_decide_eq_true c35b1);(try have h1_:=of_decide_eq_true c36b1);(try have h2_:=of_decide_eq_true c37b1);simp only [ByteArray.size_append,ByteArray.size_extract] at q_;omega))
               have c39b0:=eq_true (of_decide_eq_true pQ:0<=(ji34))
               have c40b0:=eq_true (of_decide_eq_true pQ:(ji34)<=(t608.size:Int))
               by_cases c41:((x5_3++(t608.extract 0 ((ji34):Int).toNat))++(⟨#[46]⟩:ByteArray)).size+(t608.extract ((ji34):Int).toNat t608.size).size<=9223372036854775807
               ·rw [if_pos c41] at H
                have c41b0:=eq_true c41
                have c41b1:decide (((x5_3++(t608.extract 0 ((ji34):Int).toNat))++(⟨#[46]⟩:ByteArray)).size+(t608.extract ((ji34):Int).toNat t608.size).size<=9223372036854775807)=true:=decide_eq_true c41
                try have c41b2:(9223372036854775807 < ((x5_3++(t608.extract 0 ((ji34):Int).toNat))++(⟨#[46]⟩:ByteArray)).size+(t608.extract ((ji34):Int).toNat t608.size).size)=False:=eq_false (Nat.not_lt.2 c41)
                try have c41b3:(9223372036854775807 < x5_3.size+((ji34):Int).toNat+1+(t608.size - ((ji34):Int).toNat))=False:=eq_false (Nat.not_lt.2 (by have q_:=c41;have l0_:(⟨#[46]⟩:ByteArray).size=1:=rfl;(try have h0_:=of_decide_eq_true c35b1);(try have h1_:=of_decide_eq_true c36b1);(try have h2_:=of_decide_eq_true c37b1);(try have h3_:=of_decide_eq_true c38b1);simp only [ByteArray.size_append,ByteArray.size_extract] at q_;omega))
                obtain rfl:=Option.some.inj H
                try go_wp2
                replace HO_608001:=am (Kd.Zem HO_608001.o)
                replace BK601:=am (Zbb BK601.o)
                replace BK607:=am (Zbb BK607.o)
                replace HB:=am (Zaz HB.o)
                refine start_ (n:=11) (S:=fun w'=>True) (ds:=[]) #[false,false,false,false,false,false,false,false,false,false,false] (by kernel_rfl) rfl rfl trivial (fun hHeld=>?_);refine Zcq Zf.tab11 Zf.bits11 (fun HT_ HW_=>?_)
                generalize wc.drew=w42 at HO_608001 BK601 BK607 HB hHeld ⊢
                refine pu 0 (some 53) #[true,false,false,false,false,false,false,false,false,false,false] (h:=?_)
                refine pu 1 (some 54) #[true,true,false,false,false,false,false,false,false,false,false] (h:=?_)
                refine pu 2 (some 55) #[true,true,true,false,false,false,false,false,false,false,false] (h:=?_)
                refine pu 3 (some 56) #[true,true,true,true,false,false,false,false,false,false,false] (h:=?_)
                refine pu 4 (some 57) #[true,true,true,true,true,false,false,false,false,false,false] (h:=?_)
                refine pu 5 (some 58) #[true,true,true,true,true,true,false,false,false,false,false] (h:=?_)
                refine pu 6 (some 59) #[true,true,true,true,true,true,true,false,false,false,false] (h:=?_)
                refine pu 7 (some 60) #[true,true,true,true,true,true,true,true,false,false,false] (h:=?_)
                refine pu 8 (some 61) #[true,true,true,true,true,true,true,true,true,false,false] (h:=?_)
                refine pu 9 (some 62) #[true,true,true,true,true,true,true,true,true,true,false] (h:=?_)
                refine pu 10 (some 2) #[true,true,true,true,true,true,true,true,true,true,true] (h:=?_)
                refine done_ (Zdl HT_.out (by kernel_rfl)) ?_
                try go_wp2
                go_ret
                exact ⟨by first|rfl|(simp [Zak,Zal] <;> rfl)|(simp only [<- hji34];first|rfl|(simp [Zak,Zal] <;> rfl))|(simp [*,Zak,Zal] <;> rfl),pB⟩
               ·rw [if_neg c41] at H
                exact absurd H (by simp)
              ·rw [if_neg c38] at H
               exact absurd H (by simp)
             ·rw [if_neg c37] at H
              exact absurd H (by simp)
            ·rw [if_neg c36] at H
             exact absurd H (by simp)
           ·rw [if_neg c35] at H
            exact absurd H (by simp)
          ·replace c33:=Bool.eq_false_iff.mpr c33
           subst c33
           rw [if_neg (show ¬ (false=true) by decide)] at H
           by_cases c43:(wrap64 ((t608.size:Int)+t606)) >= 1
           ·rw [if_pos c43] at H
            have c43b0:decide (1<=(wrap64 ((t608.size:Int)+t606)))=true:=decide_eq_true c43
            clear c43
            by_cases c44:(wrap64 ((t608.size:Int)+t606))<=21
            ·rw [if_pos c44] at H
             have c44b0:decide ((wrap64 ((t608.size:Int)+t606))<=21)=true:=decide_eq_true c44
             clear c44
             by_cases c45:x5_3.size+t608.size<=9223372036854775807
             ·rw [if_pos c45] at H
              have c45b0:=eq_true c45
              have c45b1:decide (x5_3.size+t608.size<=9223372036854775807)=true:=decide_eq_true c45
              try have c45b2:(9223372036854775807 < x5_3.size+t608.size)=False:=eq_false (Nat.not_lt.2 c45)
              obtain ⟨t610,A46,H⟩:=ob H
              by_cases c47:(x5_3++t608).size+t610.size<=9223372036854775807
              ·rw [if_pos c47] at H
               have c47b0:=eq_true c47
               have c47b1:decide ((x5_3++t608).size+t610.size<=9223372036854775807)=true:=decide_eq_true c47
               try have c47b2:(9223372036854775807 < (x5_3++t608).size+t610.size)=False:=eq_false (Nat.not_lt.2 c47)
               try have c47b3:(9223372036854775807 < x5_3.size+t608.size+t610.size)=False:=eq_false (Nat.not_lt.2 (by have q_:=c47;(try have h0_:=of_decide_eq_true c45b1);simp only [ByteArray.size_append,ByteArray.size_extract] at q_;omega))
               obtain rfl:=Option.some.inj H
               go_wp2_with (first|(refine gL (some 77) Tryz.func119 #[.int .i64 (wrap64 ((wrap64 ((t608.size:Int)+t606)) - (t608.size:Int)))] (h:=?_);(with_reducible refine (Za9.calls kj29 (wrap64 ((wrap64 ((t608.size:Int)+t606)) - (t608.size:Int))) t610 _ A46.o).mono ?_);rintro e w' ⟨rfl,⟨nd,rfl⟩⟩;refine ⟨_,rfl,?_⟩))
               go_ret
               exact ⟨pE,pB⟩
              ·rw [if_neg c47] at H
               exact absurd H (by simp)
             ·rw [if_neg c45] at H
              exact absurd H (by simp)
            ·rw [if_neg c44] at H
             have c44b0:decide ((wrap64 ((t608.size:Int)+t606))<=21)=false:=decide_eq_false c44
             clear c44
             have H':=am H
             clear H
             go_wp2
             go_meet
             case rel=>exact ⟨_,H',⟨by have := HJ3.o;have := HJ20.o;have := HJ29.o;first|omega|exact Nat.le_refl _⟩,⟨by refine rp ?_;exact HO_608001.o⟩,⟨Zc BK601.o pl⟩,⟨Zc BK607.o pl⟩,⟨pB⟩⟩
           ·rw [if_neg c43] at H
            have c43b0:decide (1<=(wrap64 ((t608.size:Int)+t606)))=false:=decide_eq_false c43
            clear c43
            have H':=am H
            clear H
            go_wp2
            go_meet
            case rel=>exact ⟨_,H',⟨by have := HJ3.o;have := HJ20.o;have := HJ29.o;first|omega|exact Nat.le_refl _⟩,⟨by refine rp ?_;exact HO_608001.o⟩,⟨Zc BK601.o pl⟩,⟨Zc BK607.o pl⟩,⟨pB⟩⟩
   case rest =>
    clear HC15
    obtain ⟨kq,HA,HJ14,HO_608001,BK601,BK607,HB⟩:=hcut
    cases kq with
    | zero=>exact absurd HA.out (by simp [Zf.j3])
    | succ kj14 =>
     have H:=HA.out
     clear HA
     simp only [Zf.j3] at H
     have HC48:=am H
     clear H
     go_upto_if 82 with (fail)
     go_cut [6,7] (fun v6 v7 wc => ∃ (kq:Nat) (x6_47:Int) (x7_47:ByteArray),v6=.int .i64 x6_47/\v7=.string x7_47/\Aside0 (Zf.j4 kq t608 x5_3 x6_47 x7_47=some r)/\Aside0 (kq<=kj14)/\Aside0 (Kd.R (Kd.int .i64) 3 wc w.heap.size (fun _=>True) (.slice Ao11 t603.length co11) t603)/\Aside0 (wc.heap[gb601]? = some (.cells #[.bool a0_0,(.slice A0_1 l0_1.length c0_1),.int .i64 a0_2] 24 (0,0)))/\Aside0 (wc.heap[gb607]? = some (.cells #[.bool t602,(.slice Ao11 t603.length co11),.int .i64 t606] 30 (0,0)))/\Aside0 (Below w.heap.size w wc))
     case first =>
      have H:=HC48.o
      clear HC48
      by_cases c49:(wrap64 ((wrap64 ((t608.size:Int)+t606)) - 1)) < 0
      ·rw [if_pos c49] at H
       have c49b0:decide ((wrap64 ((wrap64 ((t608.size:Int)+t606)) - 1)) < 0)=true:=decide_eq_true c49
       clear c49
       (first|rw [c49b0]|(simp only [Zcd,Zdb];rw [c49b0])|skip)
       have H':=am H
       clear H
       go_wp2
       go_meet
       case rel=>exact ⟨_,(wrap64 (-(wrap64 ((wrap64 ((t608.size:Int)+t606)) - 1)))),((⟨#[101,45]⟩:ByteArray)),pR,pR,H',⟨by have := HJ3.o;have := HJ14.o;first|omega|exact Nat.le_refl _⟩,⟨by refine rp ?_;exact HO_608001.o⟩,⟨Zc BK601.o pl⟩,⟨Zc BK607.o pl⟩,⟨pB⟩⟩
      ·rw [if_neg c49] at H
       have c49b0:decide ((wrap64 ((wrap64 ((t608.size:Int)+t606)) - 1)) < 0)=false:=decide_eq_false c49
       clear c49
       (first|rw [c49b0]|(simp only [Zcd,Zdb];rw [c49b0])|skip)
       have H':=am H
       clear H
       go_wp2
       go_meet
       case rel=>exact ⟨_,(wrap64 ((wrap64 ((t608.size:Int)+t606)) - 1)),((⟨#[101,43]⟩:ByteArray)),pR,pR,H',⟨by have := HJ3.o;have := HJ14.o;first|omega|exact Nat.le_refl _⟩,⟨by refine rp ?_;exact HO_608001.o⟩,⟨Zc BK601.o pl⟩,⟨Zc BK607.o pl⟩,⟨pB⟩⟩
     case rest =>
      clear HC48
      obtain ⟨kq,x6_47,x7_47,rfl,rfl,HA,HJ47,HO_608001,BK601,BK607,HB⟩:=hcut
      cases kq with
      | zero=>exact absurd HA.out (by simp [Zf.j4])
      | succ kj47 =>
       have H:=HA.out
       clear HA
       simp only [Zf.j4] at H
       by_cases c50:(t608.size:Int) > 1
       ·rw [if_pos c50] at H
        have c50b0:decide (1 < (t608.size:Int))=true:=decide_eq_true c50
        have c50b1:decide (1 < t608.size)=true:=decide_eq_true (by omega)
        clear c50
        by_cases c51:0<=1
        ·rw [if_pos c51] at H
         have c51b0:=eq_true c51
         have c51b1:decide (0<=1)=true:=decide_eq_true c51
         clear c51
         by_cases c52:1<=(t608.size:Int)
         ·rw [if_pos c52] at H
          have c52b0:=eq_true c52
          have c52b1:decide (1<=(t608.size:Int))=true:=decide_eq_true c52
          clear c52
          by_cases c53:x5_3.size+(t608.extract 0 1).size<=9223372036854775807
          ·rw [if_pos c53] at H
           have c53b0:=eq_true c53
           have c53b1:decide (x5_3.size+(t608.extract 0 1).size<=9223372036854775807)=true:=decide_eq_true c53
           try have c53b2:(9223372036854775807 < x5_3.size+(t608.extract 0 1).size)=False:=eq_false (Nat.not_lt.2 c53)
           try have c53b3:(9223372036854775807 < x5_3.size+1)=False:=eq_false (Nat.not_lt.2 (by have q_:=c53;(try have h0_:=of_decide_eq_true c51b1);(try have h1_:=of_decide_eq_true c52b1);simp only [ByteArray.size_append,ByteArray.size_extract] at q_;omega))
           try have c53b4:(9223372036854775807 < x5_3.size+min 1 t608.size)=False:=eq_false (Nat.not_lt.2 (by have q_:=c53;(try have h0_:=of_decide_eq_true c51b1);(try have h1_:=of_decide_eq_true c52b1);simp only [ByteArray.size_append,ByteArray.size_extract] at q_;omega))
           by_cases c54:(x5_3++(t608.extract 0 1)).size+1<=9223372036854775807
           ·rw [if_pos c54] at H
            have c54b0:=eq_true c54
            have c54b1:decide ((x5_3++(t608.extract 0 1)).size+1<=9223372036854775807)=true:=decide_eq_true c54
            try have c54b2:(9223372036854775807 < (x5_3++(t608.extract 0 1)).size+1)=False:=eq_false (Nat.not_lt.2 c54)
            try have c54b3:(9223372036854775807 < x5_3.size+1+1)=False:=eq_false (Nat.not_lt.2 (by have q_:=c54;(try have h0_:=of_decide_eq_true c51b1);(try have h1_:=of_decide_eq_true c52b1);(try have h2_:=of_decide_eq_true c53b1);simp only [ByteArray.size_append,ByteArray.size_extract] at q_;omega))
            try have c54b4:(9223372036854775807 < x5_3.size+min 1 t608.size+1)=False:=eq_false (Nat.not_lt.2 (by have q_:=c54;(try have h0_:=of_decide_eq_true c51b1);(try have h1_:=of_decide_eq_true c52b1);(try have h2_:=of_decide_eq_true c53b1);simp only [ByteArray.size_append,ByteArray.size_extract] at q_;omega))
            have c55b0:=eq_true (of_decide_eq_true pQ:1<=(t608.size:Int))
            by_cases c56:((x5_3++(t608.extract 0 1))++(⟨#[46]⟩:ByteArray)).size+(t608.extract 1 t608.size).size<=9223372036854775807
            ·rw [if_pos c56] at H
             have c56b0:=eq_true c56
             have c56b1:decide (((x5_3++(t608.extract 0 1))++(⟨#[46]⟩:ByteArray)).size+(t608.extract 1 t608.size).size<=9223372036854775807)=true:=decide_eq_true c56
             try have c56b2:(9223372036854775807 < ((x5_3++(t608.extract 0 1))++(⟨#[46]⟩:ByteArray)).size+(t608.extract 1 t608.size).size)=False:=eq_false (Nat.not_lt.2 c56)
             try have c56b3:(9223372036854775807 < x5_3.size+1+1+(t608.size - 1))=False:=eq_false (Nat.not_lt.2 (by have q_:=c56;have l0_:(⟨#[46]⟩:ByteArray).size=1:=rfl;(try have h0_:=of_decide_eq_true c51b1);(try have h1_:=of_decide_eq_true c52b1);(try have h2_:=of_decide_eq_true c53b1);(try have h3_:=of_decide_eq_true c54b1);simp only [ByteArray.size_append,ByteArray.size_extract] at q_;omega))
             try have c56b4:(9223372036854775807 < x5_3.size+min 1 t608.size+1+(t608.size - 1))=False:=eq_false (Nat.not_lt.2 (by have q_:=c56;have l0_:(⟨#[46]⟩:ByteArray).size=1:=rfl;(try have h0_:=of_decide_eq_true c51b1);(try have h1_:=of_decide_eq_true c52b1);(try have h2_:=of_decide_eq_true c53b1);(try have h3_:=of_decide_eq_true c54b1);simp only [ByteArray.size_append,ByteArray.size_extract] at q_;omega))
             by_cases c57:(((x5_3++(t608.extract 0 1))++(⟨#[46]⟩:ByteArray))++(t608.extract 1 t608.size)).size+x7_47.size<=9223372036854775807
             ·rw [if_pos c57] at H
              have c57b0:=eq_true c57
              have c57b1:decide ((((x5_3++(t608.extract 0 1))++(⟨#[46]⟩:ByteArray))++(t608.extract 1 t608.size)).size+x7_47.size<=9223372036854775807)=true:=decide_eq_true c57
              try have c57b2:(9223372036854775807 < (((x5_3++(t608.extract 0 1))++(⟨#[46]⟩:ByteArray))++(t608.extract 1 t608.size)).size+x7_47.size)=False:=eq_false (Nat.not_lt.2 c57)
              try have c57b3:(9223372036854775807 < x5_3.size+1+1+((t608.size - 1))+x7_47.size)=False:=eq_false (Nat.not_lt.2 (by have q_:=c57;have l0_:(⟨#[46]⟩:ByteArray).size=1:=rfl;(try have h0_:=of_decide_eq_true c51b1);(try have h1_:=of_decide_eq_true c52b1);(try have h2_:=of_decide_eq_true c53b1);(try have h3_:=of_decide_eq_true c54b1);(try have h4_:=of_decide_eq_true c56b1);simp only [ByteArray.size_append,ByteArray.size_extract] at q_;omega))
              try have c57b4:(9223372036854775807 < x5_3.size+min 1 t608.size+1+((t608.size - 1))+x7_47.size)=False:=eq_false (Nat.not_lt.2 (by have q_:=c57;have l0_:(⟨#[46]⟩:ByteArray).size=1:=rfl;(try have h0_:=of_decide_eq_true c51b1);(try have h1_:=of_decide_eq_true c52b1);(try have h2_:=of_decide_eq_true c53b1);(try have h3_:=of_decide_eq_true c54b1);(try have h4_:=of_decide_eq_true c56b1);simp only [ByteArray.size_append,ByteArray.size_extract] at q_;omega))
              obtain ⟨t611,A58,H⟩:=ob H
              by_cases c59:((((x5_3++(t608.extract 0 1))++(⟨#[46]⟩:ByteArray))++(t608.extract 1 t608.size))++x7_47).size+t611.size<=9223372036854775807
              ·rw [if_pos c59] at H
               have c59b0:=eq_true c59
               have c59b1:decide (((((x5_3++(t608.extract 0 1))++(⟨#[46]⟩:ByteArray))++(t608.extract 1 t608.size))++x7_47).size+t611.size<=9223372036854775807)=true:=decide_eq_true c59
               try have c59b2:(9223372036854775807 < ((((x5_3++(t608.extract 0 1))++(⟨#[46]⟩:ByteArray))++(t608.extract 1 t608.size))++x7_47).size+t611.size)=False:=eq_false (Nat.not_lt.2 c59)
               try have c59b3:(9223372036854775807 < x5_3.size+1+1+((t608.size - 1))+x7_47.size+t611.size)=False:=eq_false (Nat.not_lt.2 (by have q_:=c59;have l0_:(⟨#[46]⟩:ByteArray).size=1:=rfl;(try have h0_:=of_decide_eq_true c51b1);(try have h1_:=of_decide_eq_true c52b1);(try have h2_:=of_decide_eq_true c53b1);(try have h3_:=of_decide_eq_true c54b1);(try have h4_:=of_decide_eq_true c56b1);(try have h5_:=of_decide_eq_true c57b1);simp only [ByteArray.size_append,ByteArray.size_extract] at q_;omega))
               try have c59b4:(9223372036854775807 < x5_3.size+min 1 t608.size+1+((t608.size - 1))+x7_47.size+t611.size)=False:=eq_false (Nat.not_lt.2 (by have q_:=c59;have l0_:(⟨#[46]⟩:ByteArray).size=1:=rfl;(try have h0_:=of_decide_eq_true c51b1);(try have h1_:=of_decide_eq_true c52b1);(try have h2_:=of_decide_eq_true c53b1);(try have h3_:=of_decide_eq_true c54b1);(try have h4_:=of_decide_eq_true c56b1);(try have h5_:=of_decide_eq_true c57b1);simp only [ByteArray.size_append,ByteArray.size_extract] at q_;omega))
               obtain rfl:=Option.some.inj H
               try go_wp2
               replace HO_608001:=am (Kd.Zem HO_608001.o)
               replace BK601:=am (Zbb BK601.o)
               replace BK607:=am (Zbb BK607.o)
               replace HB:=am (Zaz HB.o)
               refine start_ (n:=14) (S:=fun w'=>True) (ds:=[]) #[false,false,false,false,false,false,false,false,false,false,false,false,false,false] (by kernel_rfl) rfl rfl trivial (fun hHeld=>?_);refine Zcq Zf.tab19 Zf.bits19 (fun HT_ HW_=>?_)
               generalize wc.drew=w60 at HO_608001 BK601 BK607 HB hHeld ⊢
               refine pu 0 (some 88) #[true,false,false,false,false,false,false,false,false,false,false,false,false,false] (h:=?_)
               refine pu 1 (some 89) #[true,true,false,false,false,false,false,false,false,false,false,false,false,false] (h:=?_)
               refine pu 2 (some 90) #[true,true,true,false,false,false,false,false,false,false,false,false,false,false] (h:=?_)
               refine pu 3 (some 91) #[true,true,true,true,false,false,false,false,false,false,false,false,false,false] (h:=?_)
               refine pu 4 (some 92) #[true,true,true,true,true,false,false,false,false,false,false,false,false,false] (h:=?_)
               refine pu 5 (some 93) #[true,true,true,true,true,true,false,false,false,false,false,false,false,false] (h:=?_)
               refine pu 6 (some 94) #[true,true,true,true,true,true,true,false,false,false,false,false,false,false] (h:=?_)
               refine pu 7 (some 95) #[true,true,true,true,true,true,true,true,false,false,false,false,false,false] (h:=?_)
               refine pu 8 (some 96) #[true,true,true,true,true,true,true,true,true,false,false,false,false,false] (h:=?_)
               refine pu 9 (some 97) #[true,true,true,true,true,true,true,true,true,true,false,false,false,false] (h:=?_)
               refine pu 10 (some 98) #[true,true,true,true,true,true,true,true,true,true,true,false,false,false] (h:=?_)
               refine one_ (i:=11) (N:=some 99) #[true,true,true,true,true,true,true,true,true,true,true,true,false,false] rfl rfl (Zbw HT_.out (by kernel_rfl)) (by decide) (fun K hK=>?_)
               refine goes_ Tryz.func120 (by kernel_rfl) rfl #[.int .i64 x6_47] (by rfl) rfl rfl pA ?_
               with_reducible refine (Zbe.calls kj47 x6_47 t611 _ A58.o).mono ?_
               rintro e w61 ⟨rfl,hb⟩
               refine ⟨_,rfl,?_⟩
               replace HO_608001:=rbl HO_608001 hb
               replace BK601:=bb BK601 hb
               replace BK607:=bb BK607 hb
               replace HB:=bS hb
               refine hK.out _ _ trivial (fun hHeld=>?_)
               clear hK K
               refine norm_ (a':=?_) ?_ ?_
               rotate_left
               ·show Act.put _ (some 99) _=_
                exact pP
               refine pu 12 (some 100) #[true,true,true,true,true,true,true,true,true,true,true,true,true,false] (h:=?_)
               refine pu 13 (some 2) #[true,true,true,true,true,true,true,true,true,true,true,true,true,true] (h:=?_)
               refine done_ (Zdl HT_.out (by kernel_rfl)) ?_
               try go_wp2
               go_ret
               exact ⟨pE,pB⟩
              ·rw [if_neg c59] at H
               exact absurd H (by simp)
             ·rw [if_neg c57] at H
              exact absurd H (by simp)
            ·rw [if_neg c56] at H
             exact absurd H (by simp)
           ·rw [if_neg c54] at H
            exact absurd H (by simp)
          ·rw [if_neg c53] at H
           exact absurd H (by simp)
         ·rw [if_neg c52] at H
          exact absurd H (by simp)
        ·rw [if_neg c51] at H
         exact absurd H (by simp)
       ·rw [if_neg c50] at H
        have c50b0:decide (1 < (t608.size:Int))=false:=decide_eq_false c50
        have c50b1:decide (1 < t608.size)=false:=decide_eq_false (by omega)
        clear c50
        by_cases c62:x5_3.size+t608.size<=9223372036854775807
        ·rw [if_pos c62] at H
         have c62b0:=eq_true c62
         have c62b1:decide (x5_3.size+t608.size<=9223372036854775807)=true:=decide_eq_true c62
         try have c62b2:(9223372036854775807 < x5_3.size+t608.size)=False:=eq_false (Nat.not_lt.2 c62)
         by_cases c63:(x5_3++t608).size+x7_47.size<=9223372036854775807
         ·rw [if_pos c63] at H
          have c63b0:=eq_true c63
          have c63b1:decide ((x5_3++t608).size+x7_47.size<=9223372036854775807)=true:=decide_eq_true c63
          try have c63b2:(9223372036854775807 < (x5_3++t608).size+x7_47.size)=False:=eq_false (Nat.not_lt.2 c63)
          try have c63b3:(9223372036854775807 < x5_3.size+t608.size+x7_47.size)=False:=eq_false (Nat.not_lt.2 (by have q_:=c63;(try have h0_:=of_decide_eq_true c62b1);simp only [ByteArray.size_append,ByteArray.size_extract] at q_;omega))
          obtain ⟨t612,A64,H⟩:=ob H
          by_cases c65:((x5_3++t608)++x7_47).size+t612.size<=9223372036854775807
          ·rw [if_pos c65] at H
           have c65b0:=eq_true c65
           have c65b1:decide (((x5_3++t608)++x7_47).size+t612.size<=9223372036854775807)=true:=decide_eq_true c65
           try have c65b2:(9223372036854775807 < ((x5_3++t608)++x7_47).size+t612.size)=False:=eq_false (Nat.not_lt.2 c65)
           try have c65b3:(9223372036854775807 < x5_3.size+t608.size+x7_47.size+t612.size)=False:=eq_false (Nat.not_lt.2 (by have q_:=c65;(try have h0_:=of_decide_eq_true c62b1);(try have h1_:=of_decide_eq_true c63b1);simp only [ByteArray.size_append,ByteArray.size_extract] at q_;omega))
           obtain rfl:=Option.some.inj H
           go_wp2_with (first|(refine gL (some 107) Tryz.func120 #[.int .i64 x6_47] (h:=?_);(with_reducible refine (Zbe.calls kj47 x6_47 t612 _ A64.o).mono ?_);rintro e w66 ⟨rfl,hb⟩;refine ⟨_,rfl,?_⟩;replace HO_608001:=rbl HO_608001 hb;replace BK601:=bb BK601 hb;replace BK607:=bb BK607 hb;replace HB:=bS hb))
           go_ret
           exact ⟨pE,pB⟩
          ·rw [if_neg c65] at H
           exact absurd H (by simp)
         ·rw [if_neg c63] at H
          exact absurd H (by simp)
        ·rw [if_neg c62] at H
         exact absurd H (by simp)
def Zbj.f (k:Nat)  : Option (Bool):=(Zby.f k (⟨#[49]⟩:ByteArray)).bind fun bt613=>((Zby.f k (⟨#[51]⟩:ByteArray)).bind fun bt618=>((Za8.f k bt613.1 bt613.2.1 bt613.2.2 bt618.1 bt618.2.1 bt618.2.2).bind fun bt623=>((Zby.f k (⟨#[52]⟩:ByteArray)).bind fun bt630=>((Zcg.f k bt630.1 bt630.2.1 bt630.2.2).bind fun bt635=>((Zbf.f bt623.2.2.2).bind fun t642=>((Zbf.f bt635.2.2.2).bind fun t643=>(if (wrap64 (t642+t643))=0 then ((Zf.f k bt623.1 bt623.2.1 bt623.2.2.1).bind fun t644=>(if t644.toList=([48,46,51,51,51,51,51,51,51,51,51,51,51,51,51,51,51,51,51,51,51,51,51,51,51,51,51,51,51,51,51,51,51,51,51,51,51,51,51,51,51,51]:List UInt8) then ((Zf.f k bt635.1 bt635.2.1 bt635.2.2.1).bind fun t645=>(some (t645.toList == ([50]:List UInt8)))) else (some false))) else (some false))))))))
theorem Zbj.leaf {P:Prop} (h:P:=by
 go_enter Tryz.func16,Tryz.ntmps16
 go_wp2_with (first|(refine gL (some 6) Tryz.func62 #[.string (⟨#[49]⟩:ByteArray)] (h:=?_);(with_reducible refine (Zby.calls k (⟨#[49]⟩:ByteArray) t613 t614 t617 _ A1.o).mono ?_);rintro e w0z ⟨v1z,rfl,ho2z,hb⟩;refine ⟨_,rfl,?_⟩;have HO3z:=am (Kd.Zq ho2z (Zb pB));replace HB:=bS hb)|(refine gL (some 7) Tryz.func62 #[.string (⟨#[51]⟩:ByteArray)] (h:=?_);(with_reducible refine (Zby.calls k (⟨#[51]⟩:ByteArray) t618 t619 t622 _ A2.o).mono ?_);rintro e w4z ⟨v5z,rfl,ho2z,hb⟩;refine ⟨_,rfl,?_⟩;have HO6z:=am (Kd.Zq (Kd.Zr ho2z (Kd.R_lt (Kd.Za HO3z.o pl))) (Zb pB));replace HO3z:=reR HO3z ho2z hb;replace HB:=bS hb;obtain ⟨Ao7z,co8z,eo9z⟩:=Kd.Zj HO3z.o;subst eo9z;obtain ⟨Ao10z,co11z,eo12z⟩:=Kd.Zj HO6z.o;subst eo12z)|(refine gL (some 8) Tryz.func19 #[.agg #[.bool t613,.slice Ao7z t614.length co8z,.int .i64 t617],.agg #[.bool t618,.slice Ao10z t619.length co11z,.int .i64 t622]] (h:=?_);(with_reducible refine (Za8.calls k t613 (fun k_=>some k_=(.slice Ao7z t614.length co8z:Value).ownBlock) _ _ t614 t617 t618 (fun k_=>some k_=(.slice Ao10z t619.length co11z:Value).ownBlock) _ _ t619 t622 t623 t624 t627 t628 _ ?side1 ?side2 A3.o).mono ?_);(case side1=>exact Kd.R_V (Kd.Zbl rfl (HO3z.o)));(case side2=>exact Kd.R_V (Kd.Zbl rfl (HO6z.o)));rintro e w13z ⟨v14z,rfl,ho2z,hb⟩;refine ⟨_,rfl,?_⟩;have HO15z:=am (Kd.Zq (Kd.Zr (Kd.Zr (Kd.Zi (ok':=fun k_=>True) ho2z (fun _ hk_=>trivial)) (Kd.R_lt (Kd.Za HO3z.o pl))) (Kd.R_lt (Kd.Za HO6z.o pl))) (Zb pB));replace HO3z:=reR HO3z ho2z hb;replace HO6z:=reR HO6z ho2z hb;replace HB:=bS hb)|((with_reducible refine gd 1 ?_);refine bx 1 #[.bool false,.slice none 0 0,.int .i64 0] 24 (h:=?_);intro gb16z hg w17z hbox hb;have BK18z:=am hbox;have GW19z:=gW hg;replace HO3z:=rbl HO3z hb;replace HO6z:=rbl HO6z hb;replace HO15z:=rbl HO15z hb;replace HB:=bS hb;clear hb hbox hg;obtain ⟨_,_,_,_,_,_⟩:=cEc BK18z.o;obtain ⟨Ao27z,co28z,eo29z⟩:=Kd.Zj HO15z.o;subst eo29z)|(refine gL (some 12) Tryz.func62 #[.string (⟨#[52]⟩:ByteArray)] (h:=?_);(with_reducible refine (Zby.calls k (⟨#[52]⟩:ByteArray) t630 t631 t634 _ A4.o).mono ?_);rintro e w30z ⟨v31z,rfl,ho2z,hb⟩;refine ⟨_,rfl,?_⟩;have HO32z:=am (Kd.Zq (Kd.Zr (Kd.Zr (Kd.Zr ho2z (Kd.R_lt (Kd.Za (z3 HO3z.o BK18z.o (by decide) (.bool t623) (.slice Ao27z t624.length co28z) (.int .i64 t627)) pl))) (Kd.R_lt (Kd.Za (z3 HO6z.o BK18z.o (by decide) (.bool t623) (.slice Ao27z t624.length co28z) (.int .i64 t627)) pl))) (Kd.R_lt (Kd.Za (z3 HO15z.o BK18z.o (by decide) (.bool t623) (.slice Ao27z t624.length co28z) (.int .i64 t627)) pl))) (Zb pB));replace HO3z:=am (Kd.Zbx (Kd.Za (z3 HO3z.o BK18z.o (by decide) (.bool t623) (.slice Ao27z t624.length co28z) (.int .i64 t627)) pl) (Kd.Zap ho2z) hb);replace HO6z:=am (Kd.Zbx (Kd.Za (z3 HO6z.o BK18z.o (by decide) (.bool t623) (.slice Ao27z t624.length co28z) (.int .i64 t627)) pl) (Kd.Zap ho2z) hb);replace HO15z:=am (Kd.Zbx (Kd.Za (z3 HO15z.o BK18z.o (by decide) (.bool t623) (.slice Ao27z t624.length co28z) (.int .i64 t627)) pl) (Kd.Zap ho2z) hb);replace BK18z:=am (Zc (g:=gb16z) (o:=.cells #[.bool t623,.slice Ao27z t624.length co28z,.int .i64 t627] 24 (0,0)) (by exact p3 BK18z) hb);replace HB:=bS hb;obtain ⟨Ao33z,co34z,eo35z⟩:=Kd.Zj HO32z.o;subst eo35z)|(refine gL (some 13) Tryz.func26 #[.agg #[.bool t630,.slice Ao33z t631.length co34z,.int .i64 t634]] (h:=?_);(with_reducible refine (Zcg.calls k t630 _ _ t631 t634 t635 t636 t639 t640 _ ?side1 ?side2 A5.o).mono ?_);(case side1=>exact Kd.Zx (Kd.Zd HO32z.o).2.2 pl);(case side2=>exact (Kd.Zd HO32z.o).2.1);rintro e w36z ⟨v37z,rfl,ho2z,hb⟩;refine ⟨_,rfl,?_⟩;have HO38z:=am (Kd.Zq (Kd.Zr (Kd.Zr (Kd.Zr (Kd.Zr ho2z (Kd.R_lt (Kd.Za HO3z.o pl))) (Kd.R_lt (Kd.Za HO6z.o pl))) (Kd.R_lt (Kd.Za HO15z.o pl))) (Kd.R_lt (Kd.Za HO32z.o pl))) (Zb pB));replace HO3z:=reR HO3z ho2z hb;replace HO6z:=reR HO6z ho2z hb;replace HO15z:=reR HO15z ho2z hb;replace HO32z:=reR HO32z ho2z hb;replace BK18z:=bb BK18z hb;replace HB:=bS hb)|((with_reducible refine gd 3 ?_);refine bx 3 #[.bool false,.slice none 0 0,.int .i64 0] 24 (h:=?_);intro gb39z hg w40z hbox hb;have BK41z:=am hbox;have GW42z:=gW hg;have NB44z:=nL hg BK18z;have NB45z:=nG hg BK18z;replace HO3z:=rbl HO3z hb;replace HO6z:=rbl HO6z hb;replace HO15z:=rbl HO15z hb;replace HO32z:=rbl HO32z hb;replace HO38z:=rbl HO38z hb;replace BK18z:=bb BK18z hb;replace HB:=bS hb;clear hb hbox hg;have hnb46z:=NB45z.o;have hnc47z:=NB44z.o;obtain ⟨_,_,_,_,_,_⟩:=cEc BK41z.o;obtain ⟨Ao54z,co55z,eo56z⟩:=Kd.Zj HO38z.o;subst eo56z)|(refine gL (some 17) Tryz.func20 #[.int .i64 t628] (h:=?_);(with_reducible refine (Zbf.calls t628 t642 _ A6.o).mono ?_);rintro e w' ⟨rfl,⟨nd,rfl⟩⟩;refine ⟨_,rfl,?_⟩)|((have q_:=A9;clear q_);refine gL (some 19) Tryz.func20 #[.int .i64 t640] (h:=?_);(with_reducible refine (Zbf.calls t640 t643 _ A7.o).mono ?_);rintro e w' ⟨rfl,⟨nd,rfl⟩⟩;refine ⟨_,rfl,?_⟩;obtain ⟨_,_,_,_,_,_⟩:=cEc BK18z.o)|((have q_:=A11;clear q_);go_at_call 63;(with_reducible refine (Zf.calls k t623 _ _ t624 t627 t644 _ ?side1 ?side2 A9.o).mono ?_);(case side1=>refine (Kd.Zd (e:=85) (base:=w.heap.size) (ok:=fun k_=>((((True/\some k_ ≠ (.slice Ao7z t614.length co8z:Value).ownBlock)/\some k_ ≠ (.slice Ao10z t619.length co11z:Value).ownBlock)/\some k_ ≠ (.slice Ao33z t631.length co34z:Value).ownBlock)/\some k_ ≠ (.slice Ao54z t636.length co55z:Value).ownBlock)) (n:=t624.length) (c:=co28z) ?_).2.2;exact (Kd.Za (z3 HO15z.o BK41z.o (by decide) (.bool t635) (.slice Ao54z t636.length co55z) (.int .i64 t639)) pl));(case side2=>exact (Kd.Zd HO15z.o).2.1);rintro e w63z ⟨rfl,hb⟩;replace HO3z:=am (Kd.Za (Kd.Za (z3 HO3z.o BK41z.o (by decide) (.bool t635) (.slice Ao54z t636.length co55z) (.int .i64 t639)) pl) hb);replace HO6z:=am (Kd.Za (Kd.Za (z3 HO6z.o BK41z.o (by decide) (.bool t635) (.slice Ao54z t636.length co55z) (.int .i64 t639)) pl) hb);replace HO15z:=am (Kd.Za (Kd.Za (z3 HO15z.o BK41z.o (by decide) (.bool t635) (.slice Ao54z t636.length co55z) (.int .i64 t639)) pl) hb);replace HO32z:=am (Kd.Za (Kd.Za (z3 HO32z.o BK41z.o (by decide) (.bool t635) (.slice Ao54z t636.length co55z) (.int .i64 t639)) pl) hb);replace HO38z:=am (Kd.Za (Kd.Za (z3 HO38z.o BK41z.o (by decide) (.bool t635) (.slice Ao54z t636.length co55z) (.int .i64 t639)) pl) hb);replace BK18z:=bfb NB44z BK18z hb;replace BK41z:=am (Zc (g:=gb39z) (o:=.cells #[.bool t635,.slice Ao54z t636.length co55z,.int .i64 t639] 24 (0,0)) (by exact p3 BK41z) hb);replace HB:=bS hb;obtain ⟨_,_,_,_,_,_⟩:=cEc BK41z.o)|(go_at_call 63;(with_reducible refine (Zf.calls k t635 _ _ t636 t639 t645 _ ?side1 ?side2 A11.o).mono ?_);(case side1=>exact Kd.Zx (Kd.Zd HO38z.o).2.2 pl);(case side2=>exact (Kd.Zd HO38z.o).2.1);rintro e w70z ⟨rfl,hb⟩;replace HO3z:=rbl HO3z hb;replace HO6z:=rbl HO6z hb;replace HO15z:=rbl HO15z hb;replace HO32z:=rbl HO32z hb;replace HO38z:=rbl HO38z hb;replace BK18z:=bb BK18z hb;replace BK41z:=bb BK41z hb;replace HB:=bS hb)|((have q_:(t644.toList != ([48,46,51,51,51,51,51,51,51,51,51,51,51,51,51,51,51,51,51,51,51,51,51,51,51,51,51,51,51,51,51,51,51,51,51,51,51,51,51,51,51,51]:List UInt8))=true:=c10b1;clear q_);go_at_call 63;(with_reducible refine (Zf.calls k t623 _ _ t624 t627 t644 _ ?side1 ?side2 A9.o).mono ?_);(case side1=>refine (Kd.Zd (e:=85) (base:=w.heap.size) (ok:=fun k_=>((((True/\some k_ ≠ (.slice Ao7z t614.length co8z:Value).ownBlock)/\some k_ ≠ (.slice Ao10z t619.length co11z:Value).ownBlock)/\some k_ ≠ (.slice Ao33z t631.length co34z:Value).ownBlock)/\some k_ ≠ (.slice Ao54z t636.length co55z:Value).ownBlock)) (n:=t624.length) (c:=co28z) ?_).2.2;exact (Kd.Za (z3 HO15z.o BK41z.o (by decide) (.bool t635) (.slice Ao54z t636.length co55z) (.int .i64 t639)) pl));(case side2=>exact (Kd.Zd HO15z.o).2.1);rintro e w63z ⟨rfl,hb⟩;replace HO3z:=am (Kd.Za (Kd.Za (z3 HO3z.o BK41z.o (by decide) (.bool t635) (.slice Ao54z t636.length co55z) (.int .i64 t639)) pl) hb);replace HO6z:=am (Kd.Za (Kd.Za (z3 HO6z.o BK41z.o (by decide) (.bool t635) (.slice Ao54z t636.length co55z) (.int .i64 t639)) pl) hb);replace HO15z:=am (Kd.Za (Kd.Za (z3 HO15z.o BK41z.o (by decide) (.bool t635) (.slice Ao54z t636.length co55z) (.int .i64 t639)) pl) hb);replace HO32z:=am (Kd.Za (Kd.Za (z3 HO32z.o BK41z.o (by decide) (.bool t635) (.slice Ao54z t636.length co55z) (.int .i64 t639)) pl) hb);replace HO38z:=am (Kd.Za (Kd.Za (z3 HO38z.o BK41z.o (by decide) (.bool t635) (.slice Ao54z t636.length co55z) (.int .i64 t639)) pl) hb);replace BK18z:=bfb NB44z BK18z hb;replace BK41z:=am (Zc (g:=gb39z) (o:=.cells #[.bool t635,.slice Ao54z t636.length co55z,.int .i64 t639] 24 (0,0)) (by exact p3 BK41z) hb);replace HB:=bS hb)|((have q_:((wrap64 (t642+t643)) != 0)=true:=c8b1;clear q_);refine gL (some 19) Tryz.func20 #[.int .i64 t640] (h:=?_);(with_reducible refine (Zbf.calls t640 t643 _ A7.o).mono ?_);rintro e w' ⟨rfl,⟨nd,rfl⟩⟩;refine ⟨_,rfl,?_⟩))
 go_ret
 exact ⟨pE,pB⟩):P:=h
theorem Zbj.calls (k:Nat)  (r:Bool) (w:World) (h:Zbj.f k  = some r) :
  Calls Tryz.prog 16 #[] w fun e w'=>e=.returned (.bool r)/\Below w.heap.size w w':=by
 have hu24:=Tryz.underlying24
 have HB:=am (Below.refl w.heap.size w)
 have H:((Zby.f k (⟨#[49]⟩:ByteArray)).bind fun bt613=>((Zby.f k (⟨#[51]⟩:ByteArray)).bind fun bt618=>((Za8.f k bt613.1 bt613.2.1 bt613.2.2 bt618.1 bt618.2.1 bt618.2.2).bind fun bt623=>((Zby.f k (⟨#[52]⟩:ByteArray)).bind fun bt630=>((Zcg.f k bt630.1 bt630.2.1 bt630.2.2).bind fun bt635=>((Zbf.f bt623.2.2.2).bind fun t642=>((Zbf.f bt635.2.2.2).bind fun t643=>(if (wrap64 (t642+t643))=0 then ((Zf.f k bt623.1 bt623.2.1 bt623.2.2.1).bind fun t644=>(if t644.toList=([48,46,51,51,51,51,51,51,51,51,51,51,51,51,51,51,51,51,51,51,51,51,51,51,51,51,51,51,51,51,51,51,51,51,51,51,51,51,51,51,51,51]:List UInt8) then ((Zf.f k bt635.1 bt635.2.1 bt635.2.2.1).bind fun t645=>(some (t645.toList == ([50]:List UInt8)))) else (some false))) else (some false)))))))))=some r:=h
 clear h
 obtain ⟨⟨t613,t614,t617⟩,A1,H⟩:=ob H;(try dsimp only at H)
 obtain ⟨⟨t618,t619,t622⟩,A2,H⟩:=ob H;(try dsimp only at H)
 obtain ⟨⟨t623,t624,t627,t628⟩,A3,H⟩:=ob H;(try dsimp only at H)
 obtain ⟨⟨t630,t631,t634⟩,A4,H⟩:=ob H;(try dsimp only at H)
 obtain ⟨⟨t635,t636,t639,t640⟩,A5,H⟩:=ob H;(try dsimp only at H)
 obtain ⟨t642,A6,H⟩:=ob H
 obtain ⟨t643,A7,H⟩:=ob H
 by_cases c8:(wrap64 (t642+t643))=0
 ·rw [if_pos c8] at H
  have c8b0:((wrap64 (t642+t643)) == 0)=true:=beq_iff_eq.mpr c8
  have c8b1:((wrap64 (t642+t643)) != 0)=false:=bne_eq_false_iff_eq.mpr c8
  clear c8
  obtain ⟨t644,A9,H⟩:=ob H
  by_cases c10:t644.toList=([48,46,51,51,51,51,51,51,51,51,51,51,51,51,51,51,51,51,51,51,51,51,51,51,51,51,51,51,51,51,51,51,51,51,51,51,51,51,51,51,51,51]:List UInt8)
  ·rw [if_pos c10] at H
   have c10b0:(t644.toList == ([48,46,51,51,51,51,51,51,51,51,51,51,51,51,51,51,51,51,51,51,51,51,51,51,51,51,51,51,51,51,51,51,51,51,51,51,51,51,51,51,51,51]:List UInt8))=true:=beq_iff_eq.mpr c10
   have c10b1:(t644.toList != ([48,46,51,51,51,51,51,51,51,51,51,51,51,51,51,51,51,51,51,51,51,51,51,51,51,51,51,51,51,51,51,51,51,51,51,51,51,51,51,51,51,51]:List UInt8))=false:=bne_eq_false_iff_eq.mpr c10
   clear c10
   obtain ⟨t645,A11,H⟩:=ob H
   obtain rfl:=Option.some.inj H
   exact Zbj.leaf
  ·rw [if_neg c10] at H
   have c10b0:(t644.toList == ([48,46,51,51,51,51,51,51,51,51,51,51,51,51,51,51,51,51,51,51,51,51,51,51,51,51,51,51,51,51,51,51,51,51,51,51,51,51,51,51,51,51]:List UInt8))=false:=beq_eq_false_iff_ne.mpr c10
   have c10b1:(t644.toList != ([48,46,51,51,51,51,51,51,51,51,51,51,51,51,51,51,51,51,51,51,51,51,51,51,51,51,51,51,51,51,51,51,51,51,51,51,51,51,51,51,51,51]:List UInt8))=true:=bne_iff_ne.mpr c10
   obtain rfl:=Option.some.inj H
   exact Zbj.leaf
 ·rw [if_neg c8] at H
  have c8b0:((wrap64 (t642+t643)) == 0)=false:=beq_eq_false_iff_ne.mpr c8
  have c8b1:((wrap64 (t642+t643)) != 0)=true:=bne_iff_ne.mpr c8
  obtain rfl:=Option.some.inj H
  exact Zbj.leaf
end YtjbjkmccfocikaaGreatDoor.B
end
section
namespace YtjbjkmccfocikaaGreatDoor.P.Nm
open Go.RowKit YtjbjkmccfocikaaGreatDoorW.PrintWords YtjbjkmccfocikaaGreatDoor.B YtjbjkmccfocikaaGreatDoor.P
theorem alive03:Tells (fun k=>Zbj.f k) true:=Tells.at 200 fun k=>by kernel_rfl
end YtjbjkmccfocikaaGreatDoor.P.Nm
end
section
namespace YtjbjkmccfocikaaGreatDoor.B
open Go.RowKit YtjbjkmccfocikaaGreatDoorW.PrintWords YtjbjkmccfocikaaGreatDoorW.PrintLast YtjbjkmccfocikaaGreatDoorW.PrintMore
attribute [local go_sem] Zb5 Zb7 Zcs Zct Zbn Zbo Zb6 Zb8
mutual
def Zl.j0:Nat->Bool->Bool->List Int->Int->Bool->List Int->Int->Bool->List Int->Int->Option (Bool)
 | 0,_,_,_,_,_,_,_,_,_,_=>none
 | k+1,x37,x875000,x875001,x875002,x876000,x876001,x876002,x884000,x884001,x884002=>if x37=true then (some ((x884001.length:Int) == 0)) else ((Zn.f k x884000 x884001 x884002).bind fun bt885=>((Zad.f k x884000 x884001 x884002 x876000 x876001 x876002).bind fun bt891=>((Zaw.f k x875000 x875001 x875002 bt891.1 bt891.2.1 bt891.2.2.1).bind fun bt898=>(if bt891.2.2.2=0 then (Zl.j1 k (bt898.2.2.2 != 0) x876000 x876001 x876002 bt885.1 bt885.2.1 bt885.2.2 bt898.1 bt898.2.1 bt898.2.2.1) else (Zl.j1 k true x876000 x876001 x876002 bt885.1 bt885.2.1 bt885.2.2 bt898.1 bt898.2.1 bt898.2.2.1)))))
def Zl.j1:Nat->Bool->Bool->List Int->Int->Bool->List Int->Int->Bool->List Int->Int->Option (Bool)
 | 0,_,_,_,_,_,_,_,_,_,_=>none
 | k+1,x61,x876000,x876001,x876002,x891000,x891001,x891002,x905000,x905001,x905002=>if x61=true then (some (decide ((x891001.length:Int)<=40))) else ((Zm.f k false (([5]:List Int)) (wrap64 ((wrap64 (x891002 - (wrap64 (40 - (x891001.length:Int))))) - 1))).bind fun bt908=>((Zad.f k bt908.1 bt908.2.1 bt908.2.2.1 x876000 x876001 x876002).bind fun bt915=>((Zbh.f k x905000 x905001 x905002).bind fun bt922=>((Zbh.f k bt915.1 bt915.2.1 bt915.2.2.1).bind fun bt929=>(if (x891001.length:Int)<=40 then (if bt908.2.2.2=0 then (if bt915.2.2.2=0 then ((Zci.f k bt922.1 bt922.2.1 bt922.2.2.1 bt929.1 bt929.2.1 bt929.2.2.1).bind fun t936=>(some (decide (t936<=0)))) else (some true)) else (some true)) else (some false))))))
end
def Zl.f (k:Nat) (a0_0:Bool) (l0_1:List Int) (a0_2:Int) (a1_0:Bool) (l1_1:List Int) (a1_2:Int):Option (Bool):=(Zbj.f k).bind fun t876=>(if t876=true then ((Za8.f k a0_0 l0_1 a0_2 a1_0 l1_1 a1_2).bind fun bt877=>((Zbf.f bt877.2.2.2).bind fun t884=>(if t884=0 then (Zl.j0 k ((bt877.2.1.length:Int) == 0) a0_0 l0_1 a0_2 a1_0 l1_1 a1_2 bt877.1 bt877.2.1 bt877.2.2.1) else (Zl.j0 k true a0_0 l0_1 a0_2 a1_0 l1_1 a1_2 bt877.1 bt877.2.1 bt877.2.2.1)))) else (some false))
theorem Zl.tail {P:Prop} (h:P:=by
 have hnb79:=NB890_874.o
 have hnc79:=NB874_890.o
 have hnb80:=NB890_875.o
 have hnc80:=NB875_890.o
 have hnb81:=NB890_883.o
 have hnc81:=NB883_890.o
 have hnb82:=NB890_897.o
 have hnc82:=NB897_890.o
 have hnb83:=NB890_904.o
 have hnc83:=NB904_890.o
 obtain ⟨_,_,_,_,_,_⟩:=cEc BK890.o
 go_wp2_with (first|((with_reducible refine gd 74 ?_);(try (refine Zao (by rfl) ?_;dsimp only));refine Kd.Zg8 (Kd.int .i64) _ 3 ?hg (N:=74) ?hd (xs:=([5]:List Int)) (inner:=[.int .i64 5]) (ok:=fun _=>True) (okp:=fun _=>True) ?hr ?hp (fun _ hk=>hk) trivial (Below.refl _ _) (Nat.le_refl _) (by simp) ?_;(case hd=>rfl);(case hg=>rfl);(case hr=>first|(go_simp;done)|(go_simp;rfl));(case hp=>exact (Reps.one (show Kd.M (Kd.int .i64) _ _ _ 5 [.int .i64 5] from rfl) (Reps.none _ _)));intro v906 w85 ho86 hb hg_ hnew_;clear hg_ hnew_;(first|rw [<- Ny905.out] at ho86|(simp only [Int.reduceToNat] at ho86;rw [<- Ny905.out] at ho86));have HO907:=am (Kd.Zq (Kd.Zr ho86 (Kd.R_lt (Kd.Za HO_891001.o pl))) (Zb pB));replace HO_884001:=rbl HO_884001 hb;replace HO_891001:=reR HO_891001 ho86 hb;replace HO_898001:=rbl HO_898001 hb;replace HO_905001:=rbl HO_905001 hb;replace BK874:=bb BK874 hb;replace BK875:=bb BK875 hb;replace BK883:=bb BK883 hb;replace BK890:=bb BK890 hb;replace BK897:=bb BK897 hb;replace BK904:=bb BK904 hb;replace HB:=bS hb;clear hb ho86;obtain ⟨Ao87,co87,eo87⟩:=Kd.Zj HO907.o;subst eo87)|(refine gL (some 78) Tryz.func23 #[.agg #[.bool false,.slice Ao87 y905.length co87,.int .i64 (wrap64 ((wrap64 (t889 - (wrap64 (40 - (t886.length:Int))))) - 1))]] (h:=?_);(with_reducible refine (Zm.calls kj30 false (fun k_=>some k_=(.slice Ao87 y905.length co87:Value).ownBlock) (.slice Ao87 y905.length co87) y905 (wrap64 ((wrap64 (t889 - (wrap64 (40 - (t886.length:Int))))) - 1)) t908 t909 t912 t913 w _ ?side1 ?side2 A71.o).mono ?_);(case side1=>exact pB);(case side2=>exact Kd.Zbl rfl HO907.o);rintro e w88 ⟨v910,rfl,ho0,hb,hkp⟩;refine ⟨_,rfl,?_⟩;have HO911:=am (Kd.Zi (ok':=fun k_=>some k_ ≠ (.slice Ao18 t878.length co18:Value).ownBlock/\some k_ ≠ (.slice Ao52 t892.length co52:Value).ownBlock/\some k_ ≠ (.slice Ao62 t899.length co62:Value).ownBlock) ho0 (fun k_ hk_=>⟨Or.elim hk_ (fun hs_=>fun e_=>((((Kd.Zel HO_884001.o (Kd.Zd8 HO907.o) (by decide))).1 k_ e_.symm).2) hs_) (fun hn_=>(Kd.fresh' (Kd.R_lt (Kd.Za HO_884001.o pl)) k_ hn_)),Or.elim hk_ (fun hs_=>fun e_=>((((Kd.Zel HO_898001.o (Kd.Zd8 HO907.o) (by decide))).1 k_ e_.symm).2) hs_) (fun hn_=>(Kd.fresh' (Kd.R_lt (Kd.Za HO_898001.o pl)) k_ hn_)),Or.elim hk_ (fun hs_=>fun e_=>((((Kd.Zel HO_905001.o (Kd.Zd8 HO907.o) (by decide))).1 k_ e_.symm).2) hs_) (fun hn_=>(Kd.fresh' (Kd.R_lt (Kd.Za HO_905001.o pl)) k_ hn_))⟩));replace HO_884001:=am (Kd.Zi (ok':=fun k_=>some k_ ≠ (.slice Ao52 t892.length co52:Value).ownBlock/\some k_ ≠ (.slice Ao62 t899.length co62:Value).ownBlock/\some k_ ≠ (v910:Value).ownBlock) (Kd.Zcc ((Kd.Zel HO_884001.o (Kd.Zd8 HO907.o) (by decide))) hkp (fun k_ hk_ hs_=>(hk_.2) hs_)) (fun k_ hk_=>⟨hk_.1.1.1,hk_.1.1.2,fun e_=>Or.elim (ho0.1 k_ e_.symm) (fun hs_=>hk_.2.1 hs_) (fun hn_=>Nat.not_le.2 hk_.2.2 hn_)⟩));replace HO_891001:=am (Kd.Zi (ok':=fun k_=>True) (Kd.Zcc (HO_891001.o) hkp (fun k_ hk_ hs_=>(hk_.2) hs_)) (fun k_ hk_=>trivial));replace HO_898001:=am (Kd.Zi (ok':=fun k_=>some k_ ≠ (.slice Ao18 t878.length co18:Value).ownBlock/\some k_ ≠ (.slice Ao62 t899.length co62:Value).ownBlock/\some k_ ≠ (v910:Value).ownBlock) (Kd.Zcc ((Kd.Zel HO_898001.o (Kd.Zd8 HO907.o) (by decide))) hkp (fun k_ hk_ hs_=>(hk_.2) hs_)) (fun k_ hk_=>⟨hk_.1.1.1,hk_.1.1.2,fun e_=>Or.elim (ho0.1 k_ e_.symm) (fun hs_=>hk_.2.1 hs_) (fun hn_=>Nat.not_le.2 hk_.2.2 hn_)⟩));replace HO_905001:=am (Kd.Zi (ok':=fun k_=>some k_ ≠ (.slice Ao18 t878.length co18:Value).ownBlock/\some k_ ≠ (.slice Ao52 t892.length co52:Value).ownBlock/\some k_ ≠ (v910:Value).ownBlock) (Kd.Zcc ((Kd.Zel HO_905001.o (Kd.Zd8 HO907.o) (by decide))) hkp (fun k_ hk_ hs_=>(hk_.2) hs_)) (fun k_ hk_=>⟨hk_.1.1.1,hk_.1.1.2,fun e_=>Or.elim (ho0.1 k_ e_.symm) (fun hs_=>hk_.2.1 hs_) (fun hn_=>Nat.not_le.2 hk_.2.2 hn_)⟩));replace BK874:=am (Zar (Zc BK874.o pl) hkp (fun e_=>Kd.R_ne HO907.o BK874.o (by decide) e_));replace BK875:=am (Zar (Zc BK875.o pl) hkp (fun e_=>Kd.R_ne HO907.o BK875.o (by decide) e_));replace BK883:=am (Zar (Zc BK883.o pl) hkp (fun e_=>Kd.R_ne HO907.o BK883.o (by decide) e_));replace BK890:=am (Zar (Zc BK890.o pl) hkp (fun e_=>Kd.R_ne HO907.o BK890.o (by decide) e_));replace BK897:=am (Zar (Zc BK897.o pl) hkp (fun e_=>Kd.R_ne HO907.o BK897.o (by decide) e_));replace BK904:=am (Zar (Zc BK904.o pl) hkp (fun e_=>Kd.R_ne HO907.o BK904.o (by decide) e_));replace HB:=am hb;clear HO907)|((with_reducible refine gd 13 ?_);(try (refine Zao (by rfl) ?_;dsimp only));refine bx 13 #[.bool false,.slice none 0 0,.int .i64 0] 24 (h:=?_);intro gb914 hg w89 hbox hb;have BK914:=am hbox;have GW914:=gW hg;have NB874_914:=nL hg BK874;have NB914_874:=nG hg BK874;have NB875_914:=nL hg BK875;have NB914_875:=nG hg BK875;have NB883_914:=nL hg BK883;have NB914_883:=nG hg BK883;have NB890_914:=nL hg BK890;have NB914_890:=nG hg BK890;have NB897_914:=nL hg BK897;have NB914_897:=nG hg BK897;have NB904_914:=nL hg BK904;have NB914_904:=nG hg BK904;replace HO_884001:=rbl HO_884001 hb;replace HO_891001:=rbl HO_891001 hb;replace HO_898001:=rbl HO_898001 hb;replace HO_905001:=rbl HO_905001 hb;replace HO911:=rbl HO911 hb;replace BK874:=bb BK874 hb;replace BK875:=bb BK875 hb;replace BK883:=bb BK883 hb;replace BK890:=bb BK890 hb;replace BK897:=bb BK897 hb;replace BK904:=bb BK904 hb;replace HB:=bS hb;clear hb hbox hg;have hnb90:=NB914_874.o;have hnc90:=NB874_914.o;have hnb91:=NB914_875.o;have hnc91:=NB875_914.o;have hnb92:=NB914_883.o;have hnc92:=NB883_914.o;have hnb93:=NB914_890.o;have hnc93:=NB890_914.o;have hnb94:=NB914_897.o;have hnc94:=NB897_914.o;have hnb95:=NB914_904.o;have hnc95:=NB904_914.o;obtain ⟨_,_,_,_,_,_⟩:=cEc BK914.o;obtain ⟨Ao97,co97,eo97⟩:=Kd.Zj HO911.o;subst eo97;have hnb98:=NB875_874.o;have hnc98:=NB874_875.o;have hnb99:=NB875_883.o;have hnc99:=NB883_875.o;have hnb100:=NB875_897.o;have hnc100:=NB897_875.o;have hnb101:=NB875_904.o;have hnc101:=NB904_875.o;obtain ⟨_,_,_,_,_,_⟩:=cEc BK875.o)|(refine gL (some 84) Tryz.func17 #[.agg #[.bool t908,.slice Ao97 t909.length co97,.int .i64 t912],.agg #[.bool a1_0,.slice A1_1 l1_1.length c1_1,.int .i64 a1_2]] (h:=?_);(with_reducible refine (Zad.calls kj30 t908 _ _ t909 t912 a1_0 _ _ l1_1 a1_2 t915 t916 t919 t920 _ ?side1 ?side2 ?side3 ?side4 A72.o).mono ?_);(case side1=>refine (Kd.Zd (e:=85) (base:=w.heap.size) (ok:=fun k_=>(some k_ ≠ (.slice Ao18 t878.length co18:Value).ownBlock/\(some k_ ≠ (.slice Ao52 t892.length co52:Value).ownBlock/\some k_ ≠ (.slice Ao62 t899.length co62:Value).ownBlock))) (n:=t909.length) (c:=co97) ?_).2.2;exact (Kd.Za (z3 HO911.o BK914.o (by decide) (.bool t908) (.slice Ao97 t909.length co97) (.int .i64 t912)) pl));(case side2=>exact (Kd.Zd HO911.o).2.1);(case side3=>exact Kd.Zx HR1_1.o pB);(case side4=>exact HC1_1.o);rintro e w103 ⟨v917,rfl,ho0,hb⟩;refine ⟨_,rfl,?_⟩;have HO918:=am (Kd.Zq (Kd.Zr (Kd.Zr (Kd.Zr (Kd.Zr ho0 (Kd.R_lt (Kd.Za (z3 HO_884001.o BK914.o (by decide) (.bool t908) (.slice Ao97 t909.length co97) (.int .i64 t912)) pl))) (Kd.R_lt (Kd.Za (z3 HO_898001.o BK914.o (by decide) (.bool t908) (.slice Ao97 t909.length co97) (.int .i64 t912)) pl))) (Kd.R_lt (Kd.Za (z3 HO_905001.o BK914.o (by decide) (.bool t908) (.slice Ao97 t909.length co97) (.int .i64 t912)) pl))) (Kd.R_lt (Kd.Za (z3 HO911.o BK914.o (by decide) (.bool t908) (.slice Ao97 t909.length co97) (.int .i64 t912)) pl))) (Zb pB));replace HO_884001:=am (Kd.Zbx (Kd.Za (z3 HO_884001.o BK914.o (by decide) (.bool t908) (.slice Ao97 t909.length co97) (.int .i64 t912)) pl) (Kd.Zap ho0) hb);replace HO_891001:=am (Kd.Za (Kd.Za (z3 HO_891001.o BK914.o (by decide) (.bool t908) (.slice Ao97 t909.length co97) (.int .i64 t912)) pl) hb);replace HO_898001:=am (Kd.Zbx (Kd.Za (z3 HO_898001.o BK914.o (by decide) (.bool t908) (.slice Ao97 t909.length co97) (.int .i64 t912)) pl) (Kd.Zap ho0) hb);replace HO_905001:=am (Kd.Zbx (Kd.Za (z3 HO_905001.o BK914.o (by decide) (.bool t908) (.slice Ao97 t909.length co97) (.int .i64 t912)) pl) (Kd.Zap ho0) hb);replace HO911:=am (Kd.Zbx (Kd.Za (z3 HO911.o BK914.o (by decide) (.bool t908) (.slice Ao97 t909.length co97) (.int .i64 t912)) pl) (Kd.Zap ho0) hb);replace BK874:=bfb NB874_914 BK874 hb;replace BK875:=bfb NB875_914 BK875 hb;replace BK883:=bfb NB883_914 BK883 hb;replace BK890:=bfb NB890_914 BK890 hb;replace BK897:=bfb NB897_914 BK897 hb;replace BK904:=bfb NB904_914 BK904 hb;replace BK914:=am (Zc (g:=gb914) (o:=.cells #[.bool t908,.slice Ao97 t909.length co97,.int .i64 t912] 24 (0,0)) (by exact p3 BK914) hb);replace HB:=bS hb)|((with_reducible refine gd 15 ?_);(try (refine Zao (by rfl) ?_;dsimp only));refine bx 15 #[.bool false,.slice none 0 0,.int .i64 0] 24 (h:=?_);intro gb921 hg w104 hbox hb;have BK921:=am hbox;have GW921:=gW hg;have NB874_921:=nL hg BK874;have NB921_874:=nG hg BK874;have NB875_921:=nL hg BK875;have NB921_875:=nG hg BK875;have NB883_921:=nL hg BK883;have NB921_883:=nG hg BK883;have NB890_921:=nL hg BK890;have NB921_890:=nG hg BK890;have NB897_921:=nL hg BK897;have NB921_897:=nG hg BK897;have NB904_921:=nL hg BK904;have NB921_904:=nG hg BK904;have NB914_921:=nL hg BK914;have NB921_914:=nG hg BK914;replace HO_884001:=rbl HO_884001 hb;replace HO_891001:=rbl HO_891001 hb;replace HO_898001:=rbl HO_898001 hb;replace HO_905001:=rbl HO_905001 hb;replace HO911:=rbl HO911 hb;replace HO918:=rbl HO918 hb;replace BK874:=bb BK874 hb;replace BK875:=bb BK875 hb;replace BK883:=bb BK883 hb;replace BK890:=bb BK890 hb;replace BK897:=bb BK897 hb;replace BK904:=bb BK904 hb;replace BK914:=bb BK914 hb;replace HB:=bS hb;clear hb hbox hg;have hnb105:=NB921_874.o;have hnc105:=NB874_921.o;have hnb106:=NB921_875.o;have hnc106:=NB875_921.o;have hnb107:=NB921_883.o;have hnc107:=NB883_921.o;have hnb108:=NB921_890.o;have hnc108:=NB890_921.o;have hnb109:=NB921_897.o;have hnc109:=NB897_921.o;have hnb110:=NB921_904.o;have hnc110:=NB904_921.o;have hnb111:=NB921_914.o;have hnc111:=NB914_921.o;obtain ⟨_,_,_,_,_,_⟩:=cEc BK921.o;obtain ⟨Ao113,co113,eo113⟩:=Kd.Zj HO918.o;subst eo113;have hnb114:=NB904_874.o;have hnc114:=NB874_904.o;have hnb115:=NB904_883.o;have hnc115:=NB883_904.o;have hnb116:=NB904_897.o;have hnc116:=NB897_904.o;obtain ⟨_,_,_,_,_,_⟩:=cEc BK904.o)|(refine gL (some 89) Tryz.func24 #[.agg #[.bool t898,.slice Ao62 t899.length co62,.int .i64 t902]] (h:=?_);(with_reducible refine (Zbh.calls kj30 t898 _ _ t899 t902 t922 t923 t926 t927 _ ?side1 ?side2 A73.o).mono ?_);(case side1=>refine (Kd.Zd (e:=85) (base:=w.heap.size) (ok:=fun k_=>((some k_ ≠ (.slice Ao18 t878.length co18:Value).ownBlock/\(some k_ ≠ (.slice Ao52 t892.length co52:Value).ownBlock/\some k_ ≠ (.slice Ao97 t909.length co97:Value).ownBlock))/\some k_ ≠ (.slice Ao113 t916.length co113:Value).ownBlock)) (n:=t899.length) (c:=co62) ?_).2.2;exact (Kd.Za (z3 HO_905001.o BK921.o (by decide) (.bool t915) (.slice Ao113 t916.length co113) (.int .i64 t919)) pl));(case side2=>exact (Kd.Zd HO_905001.o).2.1);rintro e w118 ⟨v924,rfl,ho0,hb⟩;refine ⟨_,rfl,?_⟩;have HO925:=am (Kd.Zq (Kd.Zr (Kd.Zr (Kd.Zr (Kd.Zr (Kd.Zr ho0 (Kd.R_lt (Kd.Za (z3 HO_884001.o BK921.o (by decide) (.bool t915) (.slice Ao113 t916.length co113) (.int .i64 t919)) pl))) (Kd.R_lt (Kd.Za (z3 HO_898001.o BK921.o (by decide) (.bool t915) (.slice Ao113 t916.length co113) (.int .i64 t919)) pl))) (Kd.R_lt (Kd.Za (z3 HO_905001.o BK921.o (by decide) (.bool t915) (.slice Ao113 t916.length co113) (.int .i64 t919)) pl))) (Kd.R_lt (Kd.Za (z3 HO911.o BK921.o (by decide) (.bool t915) (.slice Ao113 t916.length co113) (.int .i64 t919)) pl))) (Kd.R_lt (Kd.Za (z3 HO918.o BK921.o (by decide) (.bool t915) (.slice Ao113 t916.length co113) (.int .i64 t919)) pl))) (Zb pB));replace HO_884001:=am (Kd.Zbx (Kd.Za (z3 HO_884001.o BK921.o (by decide) (.bool t915) (.slice Ao113 t916.length co113) (.int .i64 t919)) pl) (Kd.Zap ho0) hb);replace HO_891001:=am (Kd.Za (Kd.Za (z3 HO_891001.o BK921.o (by decide) (.bool t915) (.slice Ao113 t916.length co113) (.int .i64 t919)) pl) hb);replace HO_898001:=am (Kd.Zbx (Kd.Za (z3 HO_898001.o BK921.o (by decide) (.bool t915) (.slice Ao113 t916.length co113) (.int .i64 t919)) pl) (Kd.Zap ho0) hb);replace HO_905001:=am (Kd.Zbx (Kd.Za (z3 HO_905001.o BK921.o (by decide) (.bool t915) (.slice Ao113 t916.length co113) (.int .i64 t919)) pl) (Kd.Zap ho0) hb);replace HO911:=am (Kd.Zbx (Kd.Za (z3 HO911.o BK921.o (by decide) (.bool t915) (.slice Ao113 t916.length co113) (.int .i64 t919)) pl) (Kd.Zap ho0) hb);replace HO918:=am (Kd.Zbx (Kd.Za (z3 HO918.o BK921.o (by decide) (.bool t915) (.slice Ao113 t916.length co113) (.int .i64 t919)) pl) (Kd.Zap ho0) hb);replace BK874:=bfb NB874_921 BK874 hb;replace BK875:=bfb NB875_921 BK875 hb;replace BK883:=bfb NB883_921 BK883 hb;replace BK890:=bfb NB890_921 BK890 hb;replace BK897:=bfb NB897_921 BK897 hb;replace BK904:=bfb NB904_921 BK904 hb;replace BK914:=bfb NB914_921 BK914 hb;replace BK921:=am (Zc (g:=gb921) (o:=.cells #[.bool t915,.slice Ao113 t916.length co113,.int .i64 t919] 24 (0,0)) (by exact p3 BK921) hb);replace HB:=bS hb)|((with_reducible refine gd 17 ?_);(try (refine Zao (by rfl) ?_;dsimp only));refine bx 17 #[.bool false,.slice none 0 0,.int .i64 0] 24 (h:=?_);intro gb928 hg w119 hbox hb;have BK928:=am hbox;have GW928:=gW hg;have NB874_928:=nL hg BK874;have NB928_874:=nG hg BK874;have NB875_928:=nL hg BK875;have NB928_875:=nG hg BK875;have NB883_928:=nL hg BK883;have NB928_883:=nG hg BK883;have NB890_928:=nL hg BK890;have NB928_890:=nG hg BK890;have NB897_928:=nL hg BK897;have NB928_897:=nG hg BK897;have NB904_928:=nL hg BK904;have NB928_904:=nG hg BK904;have NB914_928:=nL hg BK914;have NB928_914:=nG hg BK914;have NB921_928:=nL hg BK921;have NB928_921:=nG hg BK921;replace HO_884001:=rbl HO_884001 hb;replace HO_891001:=rbl HO_891001 hb;replace HO_898001:=rbl HO_898001 hb;replace HO_905001:=rbl HO_905001 hb;replace HO911:=rbl HO911 hb;replace HO918:=rbl HO918 hb;replace HO925:=rbl HO925 hb;replace BK874:=bb BK874 hb;replace BK875:=bb BK875 hb;replace BK883:=bb BK883 hb;replace BK890:=bb BK890 hb;replace BK897:=bb BK897 hb;replace BK904:=bb BK904 hb;replace BK914:=bb BK914 hb;replace BK921:=bb BK921 hb;replace HB:=bS hb;clear hb hbox hg;have hnb120:=NB928_874.o;have hnc120:=NB874_928.o;have hnb121:=NB928_875.o;have hnc121:=NB875_928.o;have hnb122:=NB928_883.o;have hnc122:=NB883_928.o;have hnb123:=NB928_890.o;have hnc123:=NB890_928.o;have hnb124:=NB928_897.o;have hnc124:=NB897_928.o;have hnb125:=NB928_904.o;have hnc125:=NB904_928.o;have hnb126:=NB928_914.o;have hnc126:=NB914_928.o;have hnb127:=NB928_921.o;have hnc127:=NB921_928.o;obtain ⟨_,_,_,_,_,_⟩:=cEc BK928.o;obtain ⟨Ao129,co129,eo129⟩:=Kd.Zj HO925.o;subst eo129;obtain ⟨_,_,_,_,_,_⟩:=cEc BK921.o)|(refine gL (some 94) Tryz.func24 #[.agg #[.bool t915,.slice Ao113 t916.length co113,.int .i64 t919]] (h:=?_);(with_reducible refine (Zbh.calls kj30 t915 _ _ t916 t919 t929 t930 t933 t934 _ ?side1 ?side2 A74.o).mono ?_);(case side1=>refine (Kd.Zd (e:=85) (base:=w.heap.size) (ok:=fun k_=>(((((True/\some k_ ≠ (.slice Ao18 t878.length co18:Value).ownBlock)/\some k_ ≠ (.slice Ao52 t892.length co52:Value).ownBlock)/\some k_ ≠ (.slice Ao62 t899.length co62:Value).ownBlock)/\some k_ ≠ (.slice Ao97 t909.length co97:Value).ownBlock)/\some k_ ≠ (.slice Ao129 t923.length co129:Value).ownBlock)) (n:=t916.length) (c:=co113) ?_).2.2;exact (Kd.Za (z3 HO918.o BK928.o (by decide) (.bool t922) (.slice Ao129 t923.length co129) (.int .i64 t926)) pl));(case side2=>exact (Kd.Zd HO918.o).2.1);rintro e w131 ⟨v931,rfl,ho0,hb⟩;refine ⟨_,rfl,?_⟩;have HO932:=am (Kd.Zq (Kd.Zr (Kd.Zr (Kd.Zr (Kd.Zr (Kd.Zr (Kd.Zr ho0 (Kd.R_lt (Kd.Za (z3 HO_884001.o BK928.o (by decide) (.bool t922) (.slice Ao129 t923.length co129) (.int .i64 t926)) pl))) (Kd.R_lt (Kd.Za (z3 HO_898001.o BK928.o (by decide) (.bool t922) (.slice Ao129 t923.length co129) (.int .i64 t926)) pl))) (Kd.R_lt (Kd.Za (z3 HO_905001.o BK928.o (by decide) (.bool t922) (.slice Ao129 t923.length co129) (.int .i64 t926)) pl))) (Kd.R_lt (Kd.Za (z3 HO911.o BK928.o (by decide) (.bool t922) (.slice Ao129 t923.length co129) (.int .i64 t926)) pl))) (Kd.R_lt (Kd.Za (z3 HO918.o BK928.o (by decide) (.bool t922) (.slice Ao129 t923.length co129) (.int .i64 t926)) pl))) (Kd.R_lt (Kd.Za (z3 HO925.o BK928.o (by decide) (.bool t922) (.slice Ao129 t923.length co129) (.int .i64 t926)) pl))) (Zb pB));replace HO_884001:=am (Kd.Zbx (Kd.Za (z3 HO_884001.o BK928.o (by decide) (.bool t922) (.slice Ao129 t923.length co129) (.int .i64 t926)) pl) (Kd.Zap ho0) hb);replace HO_891001:=am (Kd.Za (Kd.Za (z3 HO_891001.o BK928.o (by decide) (.bool t922) (.slice Ao129 t923.length co129) (.int .i64 t926)) pl) hb);replace HO_898001:=am (Kd.Zbx (Kd.Za (z3 HO_898001.o BK928.o (by decide) (.bool t922) (.slice Ao129 t923.length co129) (.int .i64 t926)) pl) (Kd.Zap ho0) hb);replace HO_905001:=am (Kd.Zbx (Kd.Za (z3 HO_905001.o BK928.o (by decide) (.bool t922) (.slice Ao129 t923.length co129) (.int .i64 t926)) pl) (Kd.Zap ho0) hb);replace HO911:=am (Kd.Zbx (Kd.Za (z3 HO911.o BK928.o (by decide) (.bool t922) (.slice Ao129 t923.length co129) (.int .i64 t926)) pl) (Kd.Zap ho0) hb);replace HO918:=am (Kd.Zbx (Kd.Za (z3 HO918.o BK928.o (by decide) (.bool t922) (.slice Ao129 t923.length co129) (.int .i64 t926)) pl) (Kd.Zap ho0) hb);replace HO925:=am (Kd.Zbx (Kd.Za (z3 HO925.o BK928.o (by decide) (.bool t922) (.slice Ao129 t923.length co129) (.int .i64 t926)) pl) (Kd.Zap ho0) hb);replace BK874:=bfb NB874_928 BK874 hb;replace BK875:=bfb NB875_928 BK875 hb;replace BK883:=bfb NB883_928 BK883 hb;replace BK890:=bfb NB890_928 BK890 hb;replace BK897:=bfb NB897_928 BK897 hb;replace BK904:=bfb NB904_928 BK904 hb;replace BK914:=bfb NB914_928 BK914 hb;replace BK921:=bfb NB921_928 BK921 hb;replace BK928:=am (Zc (g:=gb928) (o:=.cells #[.bool t922,.slice Ao129 t923.length co129,.int .i64 t926] 24 (0,0)) (by exact p3 BK928) hb);replace HB:=bS hb)|((with_reducible refine gd 19 ?_);(try (refine Zao (by rfl) ?_;dsimp only));refine bx 19 #[.bool false,.slice none 0 0,.int .i64 0] 24 (h:=?_);intro gb935 hg w132 hbox hb;have BK935:=am hbox;have GW935:=gW hg;have NB874_935:=nL hg BK874;have NB935_874:=nG hg BK874;have NB875_935:=nL hg BK875;have NB935_875:=nG hg BK875;have NB883_935:=nL hg BK883;have NB935_883:=nG hg BK883;have NB890_935:=nL hg BK890;have NB935_890:=nG hg BK890;have NB897_935:=nL hg BK897;have NB935_897:=nG hg BK897;have NB904_935:=nL hg BK904;have NB935_904:=nG hg BK904;have NB914_935:=nL hg BK914;have NB935_914:=nG hg BK914;have NB921_935:=nL hg BK921;have NB935_921:=nG hg BK921;have NB928_935:=nL hg BK928;have NB935_928:=nG hg BK928;replace HO_884001:=rbl HO_884001 hb;replace HO_891001:=rbl HO_891001 hb;replace HO_898001:=rbl HO_898001 hb;replace HO_905001:=rbl HO_905001 hb;replace HO911:=rbl HO911 hb;replace HO918:=rbl HO918 hb;replace HO925:=rbl HO925 hb;replace HO932:=rbl HO932 hb;replace BK874:=bb BK874 hb;replace BK875:=bb BK875 hb;replace BK883:=bb BK883 hb;replace BK890:=bb BK890 hb;replace BK897:=bb BK897 hb;replace BK904:=bb BK904 hb;replace BK914:=bb BK914 hb;replace BK921:=bb BK921 hb;replace BK928:=bb BK928 hb;replace HB:=bS hb;clear hb hbox hg;have hnb133:=NB935_874.o;have hnc133:=NB874_935.o;have hnb134:=NB935_875.o;have hnc134:=NB875_935.o;have hnb135:=NB935_883.o;have hnc135:=NB883_935.o;have hnb136:=NB935_890.o;have hnc136:=NB890_935.o;have hnb137:=NB935_897.o;have hnc137:=NB897_935.o;have hnb138:=NB935_904.o;have hnc138:=NB904_935.o;have hnb139:=NB935_914.o;have hnc139:=NB914_935.o;have hnb140:=NB935_921.o;have hnc140:=NB921_935.o;have hnb141:=NB935_928.o;have hnc141:=NB928_935.o;obtain ⟨_,_,_,_,_,_⟩:=cEc BK935.o;obtain ⟨Ao143,co143,eo143⟩:=Kd.Zj HO932.o;subst eo143;obtain ⟨_,_,_,_,_,_⟩:=cEc BK890.o;obtain ⟨_,_,_,_,_,_⟩:=cEc BK928.o)|(go_at_call 25;(with_reducible refine (Zci.calls kj30 t922 _ _ t923 t926 t929 _ _ t930 t933 t936 _ ?side1 ?side2 ?side3 ?side4 A78.o).mono ?_);(case side1=>refine (Kd.Zd (e:=85) (base:=w.heap.size) (ok:=fun k_=>((((((True/\some k_ ≠ (.slice Ao18 t878.length co18:Value).ownBlock)/\some k_ ≠ (.slice Ao52 t892.length co52:Value).ownBlock)/\some k_ ≠ (.slice Ao62 t899.length co62:Value).ownBlock)/\some k_ ≠ (.slice Ao97 t909.length co97:Value).ownBlock)/\some k_ ≠ (.slice Ao113 t916.length co113:Value).ownBlock)/\some k_ ≠ (.slice Ao143 t930.length co143:Value).ownBlock)) (n:=t923.length) (c:=co129) ?_).2.2;exact (Kd.Za (z3 HO925.o BK935.o (by decide) (.bool t929) (.slice Ao143 t930.length co143) (.int .i64 t933)) pl));(case side2=>exact (Kd.Zd HO925.o).2.1);(case side3=>refine (Kd.Zd (e:=85) (base:=w.heap.size) (ok:=fun k_=>((((((True/\some k_ ≠ (.slice Ao18 t878.length co18:Value).ownBlock)/\some k_ ≠ (.slice Ao52 t892.length co52:Value).ownBlock)/\some k_ ≠ (.slice Ao62 t899.length co62:Value).ownBlock)/\some k_ ≠ (.slice Ao97 t909.length co97:Value).ownBlock)/\some k_ ≠ (.slice Ao113 t916.length co113:Value).ownBlock)/\some k_ ≠ (.slice Ao129 t923.length co129:Value).ownBlock)) (n:=t930.length) (c:=co143) ?_).2.2;exact (Kd.Za (z3 HO932.o BK935.o (by decide) (.bool t929) (.slice Ao143 t930.length co143) (.int .i64 t933)) pl));(case side4=>exact (Kd.Zd HO932.o).2.1);rintro e w146 ⟨rfl,hb⟩;replace HO_884001:=am (Kd.Za (Kd.Za (z3 HO_884001.o BK935.o (by decide) (.bool t929) (.slice Ao143 t930.length co143) (.int .i64 t933)) pl) hb);replace HO_891001:=am (Kd.Za (Kd.Za (z3 HO_891001.o BK935.o (by decide) (.bool t929) (.slice Ao143 t930.length co143) (.int .i64 t933)) pl) hb);replace HO_898001:=am (Kd.Za (Kd.Za (z3 HO_898001.o BK935.o (by decide) (.bool t929) (.slice Ao143 t930.length co143) (.int .i64 t933)) pl) hb);replace HO_905001:=am (Kd.Za (Kd.Za (z3 HO_905001.o BK935.o (by decide) (.bool t929) (.slice Ao143 t930.length co143) (.int .i64 t933)) pl) hb);replace HO911:=am (Kd.Za (Kd.Za (z3 HO911.o BK935.o (by decide) (.bool t929) (.slice Ao143 t930.length co143) (.int .i64 t933)) pl) hb);replace HO918:=am (Kd.Za (Kd.Za (z3 HO918.o BK935.o (by decide) (.bool t929) (.slice Ao143 t930.length co143) (.int .i64 t933)) pl) hb);replace HO925:=am (Kd.Za (Kd.Za (z3 HO925.o BK935.o (by decide) (.bool t929) (.slice Ao143 t930.length co143) (.int .i64 t933)) pl) hb);replace HO932:=am (Kd.Za (Kd.Za (z3 HO932.o BK935.o (by decide) (.bool t929) (.slice Ao143 t930.length co143) (.int .i64 t933)) pl) hb);replace BK874:=bfb NB874_935 BK874 hb;replace BK875:=bfb NB875_935 BK875 hb;replace BK883:=bfb NB883_935 BK883 hb;replace BK890:=bfb NB890_935 BK890 hb;replace BK897:=bfb NB897_935 BK897 hb;replace BK904:=bfb NB904_935 BK904 hb;replace BK914:=bfb NB914_935 BK914 hb;replace BK921:=bfb NB921_935 BK921 hb;replace BK928:=bfb NB928_935 BK928 hb;replace BK935:=am (Zc (g:=gb935) (o:=.cells #[.bool t929,.slice Ao143 t930.length co143,.int .i64 t933] 24 (0,0)) (by exact p3 BK935) hb);replace HB:=bS hb))
 go_ret
 exact ⟨pE,pB⟩):P:=h
theorem Zl.calls (k:Nat) (a0_0:Bool) (A0_1:Option Addr) (c0_1:Nat) (l0_1:List Int) (a0_2:Int) (a1_0:Bool) (A1_1:Option Addr) (c1_1:Nat) (l1_1:List Int) (a1_2:Int) (r:Bool) (w:World) (hr0_1:Kd.C (Kd.int .u32) w A0_1 l0_1.length l0_1) (hc0_1:l0_1.length<=c0_1) (hr1_1:Kd.C (Kd.int .u32) w A1_1 l1_1.length l1_1) (hc1_1:l1_1.length<=c1_1) (h:Zl.f k a0_0 l0_1 a0_2 a1_0 l1_1 a1_2=some r) (hr:r=true) :
  Calls Tryz.prog 4 #[.agg #[.bool a0_0,.slice A0_1 l0_1.length c0_1,.int .i64 a0_2],.agg #[.bool a1_0,.slice A1_1 l1_1.length c1_1,.int .i64 a1_2]] w fun e w'=>e=.returned (.bool r)/\Below w.heap.size w w':=by
 have hu24:=Tryz.underlying24
 have hu30:=Tryz.underlying30
 have HR0_1:=am hr0_1
 have HC0_1:=am hc0_1
 clear hr0_1 hc0_1
 have HR1_1:=am hr1_1
 have HC1_1:=am hc1_1
 clear hr1_1 hc1_1
 have HB:=am (Below.refl w.heap.size w)
 have H:((Zbj.f k).bind fun t876=>(if t876=true then ((Za8.f k a0_0 l0_1 a0_2 a1_0 l1_1 a1_2).bind fun bt877=>((Zbf.f bt877.2.2.2).bind fun t884=>(if t884=0 then (Zl.j0 k ((bt877.2.1.length:Int) == 0) a0_0 l0_1 a0_2 a1_0 l1_1 a1_2 bt877.1 bt877.2.1 bt877.2.2.1) else (Zl.j0 k true a0_0 l0_1 a0_2 a1_0 l1_1 a1_2 bt877.1 bt877.2.1 bt877.2.2.1)))) else (some false)))=some r:=h
 clear h
 obtain ⟨t876,A3,H⟩:=ob H
 by_cases c4:t876=true
 ·subst c4
  rw [if_pos rfl] at H
  obtain ⟨⟨t877,t878,t881,t882⟩,A5,H⟩:=ob H;(try dsimp only at H)
  have HC6:=am H
  clear H
  go_enter Tryz.func4,Tryz.ntmps4
  go_upto_region 4 with (first|((with_reducible refine gd 2 ?_);(try (refine Zao (by rfl) ?_;dsimp only));refine bx 2 #[.bool a0_0,.slice A0_1 l0_1.length c0_1,.int .i64 a0_2] 24 (h:=?_);intro gb874 hg w7 hbox hb;have BK874:=am hbox;have GW874:=gW hg;replace HB:=bS hb;clear hb hbox hg)|((with_reducible refine gd 3 ?_);(try (refine Zao (by rfl) ?_;dsimp only));refine bx 3 #[.bool a1_0,.slice A1_1 l1_1.length c1_1,.int .i64 a1_2] 24 (h:=?_);intro gb875 hg w8 hbox hb;have BK875:=am hbox;have GW875:=gW hg;have NB874_875:=nL hg BK874;have NB875_874:=nG hg BK874;replace BK874:=bb BK874 hb;replace HB:=bS hb;clear hb hbox hg)|(refine gL (some 21) Tryz.func16 #[] (h:=?_);(with_reducible refine (Zbj.calls k  true _ A3.o).mono ?_);rintro e w9 ⟨rfl,hb⟩;refine ⟨_,rfl,?_⟩;replace BK874:=bb BK874 hb;replace BK875:=bb BK875 hb;replace HB:=bS hb;have hnb10:=NB874_875.o;have hnc10:=NB875_874.o;obtain ⟨_,_,_,_,_,_⟩:=cEc BK874.o;obtain ⟨_,_,_,_,_,_⟩:=cEc BK875.o)|(refine gL (some 26) Tryz.func19 #[.agg #[.bool a0_0,.slice A0_1 l0_1.length c0_1,.int .i64 a0_2],.agg #[.bool a1_0,.slice A1_1 l1_1.length c1_1,.int .i64 a1_2]] (h:=?_);(with_reducible refine (Za8.calls k a0_0 (fun k_=>k_ < w.heap.size) _ _ l0_1 a0_2 a1_0 (fun k_=>k_ < w.heap.size) _ _ l1_1 a1_2 t877 t878 t881 t882 _ ?side1 ?side2 A5.o).mono ?_);(case side1=>exact Kd.V_mk HC0_1.o (Kd.Zfz (Kd.C_F (Kd.Zgc .u32) HR0_1.o) pB));(case side2=>exact Kd.V_mk HC1_1.o (Kd.Zfz (Kd.C_F (Kd.Zgc .u32) HR1_1.o) pB));rintro e w13 ⟨v879,rfl,ho0,hb⟩;refine ⟨_,rfl,?_⟩;have HO880:=am (Kd.Zq (Kd.Zi (ok':=fun k_=>True) ho0 (fun _ hk_=>trivial)) (Zb pB));replace BK874:=bb BK874 hb;replace BK875:=bb BK875 hb;replace HB:=bS hb)|((with_reducible refine gd 5 ?_);(try (refine Zao (by rfl) ?_;dsimp only));refine bx 5 #[.bool false,.slice none 0 0,.int .i64 0] 24 (h:=?_);intro gb883 hg w14 hbox hb;have BK883:=am hbox;have GW883:=gW hg;have NB874_883:=nL hg BK874;have NB883_874:=nG hg BK874;have NB875_883:=nL hg BK875;have NB883_875:=nG hg BK875;replace HO880:=rbl HO880 hb;replace BK874:=bb BK874 hb;replace BK875:=bb BK875 hb;replace HB:=bS hb;clear hb hbox hg;have hnb15:=NB883_874.o;have hnc15:=NB874_883.o;have hnb16:=NB883_875.o;have hnc16:=NB875_883.o;obtain ⟨_,_,_,_,_,_⟩:=cEc BK883.o;obtain ⟨Ao18,co18,eo18⟩:=Kd.Zj HO880.o;subst eo18))
  (try simp only [Act.put,List.setIfInBounds_toArray,List.set_cons_zero,List.set_cons_succ])
  go_cut [37] (fun v37 wc => ∃ (kq:Nat) (x37_5:Bool),v37=.bool x37_5/\Aside0 (Zl.j0 kq x37_5 a0_0 l0_1 a0_2 a1_0 l1_1 a1_2 t877 t878 t881=some r)/\Aside0 (kq<=k)/\Aside0 (Kd.R (Kd.int .u32) 85 wc w.heap.size (fun _=>True) (.slice Ao18 t878.length co18) t878)/\Aside0 (wc.heap[gb874]? = some (.cells #[.bool a0_0,(.slice A0_1 l0_1.length c0_1),.int .i64 a0_2] 24 (0,0)))/\Aside0 (wc.heap[gb875]? = some (.cells #[.bool a1_0,(.slice A1_1 l1_1.length c1_1),.int .i64 a1_2] 24 (0,0)))/\Aside0 (wc.heap[gb883]? = some (.cells #[.bool t877,(.slice Ao18 t878.length co18),.int .i64 t881] 24 (0,0)))/\Aside0 (Below w.heap.size w wc))
  case first =>
   have H:=HC6.o
   clear HC6
   obtain ⟨t884,A19,H⟩:=ob H
   by_cases c20:t884=0
   ·rw [if_pos c20] at H
    have c20b0:(t884 == 0)=true:=beq_iff_eq.mpr c20
    have c20b1:(t884 != 0)=false:=bne_eq_false_iff_eq.mpr c20
    clear c20
    (first|rw [c20b0]|(simp only [Zcd,Zdb];rw [c20b0])|skip)
    have H':=am H
    clear H
    go_wp2_with (first|(refine gL (some 30) Tryz.func20 #[.int .i64 t882] (h:=?_);(with_reducible refine (Zbf.calls t882 t884 _ A19.o).mono ?_);rintro e w' ⟨rfl,⟨nd,rfl⟩⟩;refine ⟨_,rfl,?_⟩;have hnb21:=NB883_874.o;have hnc21:=NB874_883.o;have hnb22:=NB883_875.o;have hnc22:=NB875_883.o;obtain ⟨_,_,_,_,_,_⟩:=cEc BK883.o))
    go_meet
    case rel=>exact ⟨_,(((t878.length:Int) == 0)),pR,H',⟨by first|omega|exact Nat.le_refl _⟩,⟨by refine rp ?_;exact Kd.Zi (Kd.Zp (p:=⟨gb883,2,none⟩) (Kd.Zp (p:=⟨gb883,1,none⟩) (Kd.Zp (p:=⟨gb883,0,none⟩) (Kd.Zaa HO880.o BK883.o (by decide)) (fun _ hk=>hk.2) (.bool t877)) (fun _ hk=>hk.2) (.slice Ao18 t878.length co18)) (fun _ hk=>hk.2) (.int .i64 t881)) (fun _ hk=>trivial)⟩,⟨bf NB874_883.o BK874.o⟩,⟨bf NB875_883.o BK875.o⟩,⟨by exact p3 BK883⟩,⟨pB⟩⟩
   ·rw [if_neg c20] at H
    have c20b0:(t884 == 0)=false:=beq_eq_false_iff_ne.mpr c20
    have c20b1:(t884 != 0)=true:=bne_iff_ne.mpr c20
    (first|rw [c20b0]|(simp only [Zcd,Zdb];rw [c20b0])|skip)
    have H':=am H
    clear H
    go_wp2_with (first|(refine gL (some 30) Tryz.func20 #[.int .i64 t882] (h:=?_);(with_reducible refine (Zbf.calls t882 t884 _ A19.o).mono ?_);rintro e w' ⟨rfl,⟨nd,rfl⟩⟩;refine ⟨_,rfl,?_⟩))
    go_meet
    case rel=>exact ⟨_,(true),pR,H',⟨by first|omega|exact Nat.le_refl _⟩,⟨by refine rp ?_;exact Kd.Zi (Kd.Zp (p:=⟨gb883,2,none⟩) (Kd.Zp (p:=⟨gb883,1,none⟩) (Kd.Zp (p:=⟨gb883,0,none⟩) (Kd.Zaa HO880.o BK883.o (by decide)) (fun _ hk=>hk.2) (.bool t877)) (fun _ hk=>hk.2) (.slice Ao18 t878.length co18)) (fun _ hk=>hk.2) (.int .i64 t881)) (fun _ hk=>trivial)⟩,⟨bf NB874_883.o BK874.o⟩,⟨bf NB875_883.o BK875.o⟩,⟨by exact p3 BK883⟩,⟨pB⟩⟩
  case rest =>
   clear HC6
   obtain ⟨kq,x37_5,rfl,HA,HJ5,HO_884001,BK874,BK875,BK883,HB⟩:=hcut
   cases kq with
   | zero=>exact absurd HA.out (by simp [Zl.j0])
   | succ kj5 =>
    have H:=HA.out
    clear HA
    simp only [Zl.j0] at H
    by_cases c24:x37_5=true
    ·subst c24
     rw [if_pos rfl] at H
     obtain rfl:=Option.some.inj H
     have hnb25:=NB883_874.o
     have hnc25:=NB874_883.o
     have hnb26:=NB883_875.o
     have hnc26:=NB875_883.o
     obtain ⟨_,_,_,_,_,_⟩:=cEc BK883.o
     go_wp2
     go_ret
     exact ⟨pE,pB⟩
    ·replace c24:=Bool.eq_false_iff.mpr c24
     subst c24
     rw [if_neg (show ¬ (false=true) by decide)] at H
     obtain ⟨⟨t885,t886,t889⟩,A28,H⟩:=ob H;(try dsimp only at H)
     obtain ⟨⟨t891,t892,t895,t896⟩,A29,H⟩:=ob H;(try dsimp only at H)
     obtain ⟨⟨t898,t899,t902,t903⟩,A30,H⟩:=ob H;(try dsimp only at H)
     have HC31:=am H
     clear H
     have hnb32:=NB883_874.o
     have hnc32:=NB874_883.o
     have hnb33:=NB883_875.o
     have hnc33:=NB875_883.o
     obtain ⟨_,_,_,_,_,_⟩:=cEc BK883.o
     go_upto_region 9 with (first|(refine gL (some 43) Tryz.func18 #[.agg #[.bool t877,.slice Ao18 t878.length co18,.int .i64 t881]] (h:=?_);(with_reducible refine (Zn.calls kj5 t877 _ _ t878 t881 t885 t886 t889 _ ?side1 ?side2 A28.o).mono ?_);(case side1=>exact Kd.Zx (Kd.Zd HO_884001.o).2.2 pl);(case side2=>exact (Kd.Zd HO_884001.o).2.1);rintro e w35 ⟨v887,rfl,ho0,hb⟩;refine ⟨_,rfl,?_⟩;replace HO_884001:=rbl HO_884001 hb;have HO888:=am (Kd.Zq ho0 (Zb pB));replace BK874:=bb BK874 hb;replace BK875:=bb BK875 hb;replace BK883:=bb BK883 hb;replace HB:=bS hb)|((with_reducible refine gd 7 ?_);(try (refine Zao (by rfl) ?_;dsimp only));refine bx 7 #[.bool false,.slice none 0 0,.int .i64 0] 30 (h:=?_);intro gb890 hg w36 hbox hb;have BK890:=am hbox;have GW890:=gW hg;have NB874_890:=nL hg BK874;have NB890_874:=nG hg BK874;have NB875_890:=nL hg BK875;have NB890_875:=nG hg BK875;have NB883_890:=nL hg BK883;have NB890_883:=nG hg BK883;replace HO_884001:=rbl HO_884001 hb;replace HO888:=rbl HO888 hb;replace BK874:=bb BK874 hb;replace BK875:=bb BK875 hb;replace BK883:=bb BK883 hb;replace HB:=bS hb;clear hb hbox hg;have hnb37:=NB890_874.o;have hnc37:=NB874_890.o;have hnb38:=NB890_875.o;have hnc38:=NB875_890.o;have hnb39:=NB890_883.o;have hnc39:=NB883_890.o;obtain ⟨_,_,_,_,_,_⟩:=cEc BK890.o;obtain ⟨Ao41,co41,eo41⟩:=Kd.Zj HO888.o;subst eo41;obtain ⟨_,_,_,_,_,_⟩:=cEc BK883.o;have hnb43:=NB875_874.o;have hnc43:=NB874_875.o;obtain ⟨_,_,_,_,_,_⟩:=cEc BK875.o)|(refine gL (some 47) Tryz.func17 #[.agg #[.bool t877,.slice Ao18 t878.length co18,.int .i64 t881],.agg #[.bool a1_0,.slice A1_1 l1_1.length c1_1,.int .i64 a1_2]] (h:=?_);(with_reducible refine (Zad.calls kj5 t877 _ _ t878 t881 a1_0 _ _ l1_1 a1_2 t891 t892 t895 t896 _ ?side1 ?side2 ?side3 ?side4 A29.o).mono ?_);(case side1=>refine (Kd.Zd (e:=85) (base:=w.heap.size) (ok:=fun k_=>True) (n:=t878.length) (c:=co18) ?_).2.2;exact (Kd.Za (z3 HO_884001.o BK890.o (by decide) (.bool t885) (.slice Ao41 t886.length co41) (.int .i64 t889)) pl));(case side2=>exact (Kd.Zd HO_884001.o).2.1);(case side3=>exact Kd.Zx HR1_1.o pB);(case side4=>exact HC1_1.o);rintro e w45 ⟨v893,rfl,ho0,hb⟩;refine ⟨_,rfl,?_⟩;have HO894:=am (Kd.Zq (Kd.Zr ho0 (Kd.R_lt (Kd.Za (z3 HO_884001.o BK890.o (by decide) (.bool t885) (.slice Ao41 t886.length co41) (.int .i64 t889)) pl))) (Zb pB));replace HO_884001:=am (Kd.Zbx (Kd.Za (z3 HO_884001.o BK890.o (by decide) (.bool t885) (.slice Ao41 t886.length co41) (.int .i64 t889)) pl) (Kd.Zap ho0) hb);replace HO888:=am (Kd.Za (Kd.Za (z3 HO888.o BK890.o (by decide) (.bool t885) (.slice Ao41 t886.length co41) (.int .i64 t889)) pl) hb);replace BK874:=bfb NB874_890 BK874 hb;replace BK875:=bfb NB875_890 BK875 hb;replace BK883:=bfb NB883_890 BK883 hb;replace BK890:=am (Zc (g:=gb890) (o:=.cells #[.bool t885,.slice Ao41 t886.length co41,.int .i64 t889] 30 (0,0)) (by exact p3 BK890) hb);replace HB:=bS hb)|((with_reducible refine gd 8 ?_);(try (refine Zao (by rfl) ?_;dsimp only));refine bx 8 #[.bool false,.slice none 0 0,.int .i64 0] 24 (h:=?_);intro gb897 hg w46 hbox hb;have BK897:=am hbox;have GW897:=gW hg;have NB874_897:=nL hg BK874;have NB897_874:=nG hg BK874;have NB875_897:=nL hg BK875;have NB897_875:=nG hg BK875;have NB883_897:=nL hg BK883;have NB897_883:=nG hg BK883;have NB890_897:=nL hg BK890;have NB897_890:=nG hg BK890;replace HO_884001:=rbl HO_884001 hb;replace HO888:=rbl HO888 hb;replace HO894:=rbl HO894 hb;replace BK874:=bb BK874 hb;replace BK875:=bb BK875 hb;replace BK883:=bb BK883 hb;replace BK890:=bb BK890 hb;replace HB:=bS hb;clear hb hbox hg;have hnb47:=NB897_874.o;have hnc47:=NB874_897.o;have hnb48:=NB897_875.o;have hnc48:=NB875_897.o;have hnb49:=NB897_883.o;have hnc49:=NB883_897.o;have hnb50:=NB897_890.o;have hnc50:=NB890_897.o;obtain ⟨_,_,_,_,_,_⟩:=cEc BK897.o;obtain ⟨Ao52,co52,eo52⟩:=Kd.Zj HO894.o;subst eo52;obtain ⟨_,_,_,_,_,_⟩:=cEc BK874.o)|(refine gL (some 53) Tryz.func22 #[.agg #[.bool a0_0,.slice A0_1 l0_1.length c0_1,.int .i64 a0_2],.agg #[.bool t891,.slice Ao52 t892.length co52,.int .i64 t895]] (h:=?_);(with_reducible refine (Zaw.calls kj5 a0_0 _ _ l0_1 a0_2 t891 _ _ t892 t895 t898 t899 t902 t903 _ ?side1 ?side2 ?side3 ?side4 A30.o).mono ?_);(case side1=>exact Kd.Zx HR0_1.o pB);(case side2=>exact HC0_1.o);(case side3=>refine (Kd.Zd (e:=85) (base:=w.heap.size) (ok:=fun k_=>(True/\some k_ ≠ (.slice Ao18 t878.length co18:Value).ownBlock)) (n:=t892.length) (c:=co52) ?_).2.2;exact (Kd.Za (z3 HO894.o BK897.o (by decide) (.bool t891) (.slice Ao52 t892.length co52) (.int .i64 t895)) pl));(case side4=>exact (Kd.Zd HO894.o).2.1);rintro e w54 ⟨v900,rfl,ho0,hb⟩;refine ⟨_,rfl,?_⟩;have HO901:=am (Kd.Zq (Kd.Zr (Kd.Zr ho0 (Kd.R_lt (Kd.Za (z3 HO_884001.o BK897.o (by decide) (.bool t891) (.slice Ao52 t892.length co52) (.int .i64 t895)) pl))) (Kd.R_lt (Kd.Za (z3 HO894.o BK897.o (by decide) (.bool t891) (.slice Ao52 t892.length co52) (.int .i64 t895)) pl))) (Zb pB));replace HO_884001:=am (Kd.Zbx (Kd.Za (z3 HO_884001.o BK897.o (by decide) (.bool t891) (.slice Ao52 t892.length co52) (.int .i64 t895)) pl) (Kd.Zap ho0) hb);replace HO888:=am (Kd.Za (Kd.Za (z3 HO888.o BK897.o (by decide) (.bool t891) (.slice Ao52 t892.length co52) (.int .i64 t895)) pl) hb);replace HO894:=am (Kd.Zbx (Kd.Za (z3 HO894.o BK897.o (by decide) (.bool t891) (.slice Ao52 t892.length co52) (.int .i64 t895)) pl) (Kd.Zap ho0) hb);replace BK874:=bfb NB874_897 BK874 hb;replace BK875:=bfb NB875_897 BK875 hb;replace BK883:=bfb NB883_897 BK883 hb;replace BK890:=bfb NB890_897 BK890 hb;replace BK897:=am (Zc (g:=gb897) (o:=.cells #[.bool t891,.slice Ao52 t892.length co52,.int .i64 t895] 24 (0,0)) (by exact p3 BK897) hb);replace HB:=bS hb)|((with_reducible refine gd 10 ?_);(try (refine Zao (by rfl) ?_;dsimp only));refine bx 10 #[.bool false,.slice none 0 0,.int .i64 0] 24 (h:=?_);intro gb904 hg w55 hbox hb;have BK904:=am hbox;have GW904:=gW hg;have NB874_904:=nL hg BK874;have NB904_874:=nG hg BK874;have NB875_904:=nL hg BK875;have NB904_875:=nG hg BK875;have NB883_904:=nL hg BK883;have NB904_883:=nG hg BK883;have NB890_904:=nL hg BK890;have NB904_890:=nG hg BK890;have NB897_904:=nL hg BK897;have NB904_897:=nG hg BK897;replace HO_884001:=rbl HO_884001 hb;replace HO888:=rbl HO888 hb;replace HO894:=rbl HO894 hb;replace HO901:=rbl HO901 hb;replace BK874:=bb BK874 hb;replace BK875:=bb BK875 hb;replace BK883:=bb BK883 hb;replace BK890:=bb BK890 hb;replace BK897:=bb BK897 hb;replace HB:=bS hb;clear hb hbox hg;have hnb56:=NB904_874.o;have hnc56:=NB874_904.o;have hnb57:=NB904_875.o;have hnc57:=NB875_904.o;have hnb58:=NB904_883.o;have hnc58:=NB883_904.o;have hnb59:=NB904_890.o;have hnc59:=NB890_904.o;have hnb60:=NB904_897.o;have hnc60:=NB897_904.o;obtain ⟨_,_,_,_,_,_⟩:=cEc BK904.o;obtain ⟨Ao62,co62,eo62⟩:=Kd.Zj HO901.o;subst eo62))
     (try simp only [Act.put,List.setIfInBounds_toArray,List.set_cons_zero,List.set_cons_succ])
     go_cut [61] (fun v61 wc => ∃ (kq:Nat) (x61_30:Bool),v61=.bool x61_30/\Aside0 (Zl.j1 kq x61_30 a1_0 l1_1 a1_2 t885 t886 t889 t898 t899 t902=some r)/\Aside0 (kq<=kj5)/\Aside0 (Kd.R (Kd.int .u32) 85 wc w.heap.size (fun k_=>some k_ ≠ ((.slice Ao52 t892.length co52):Value).ownBlock/\some k_ ≠ ((.slice Ao62 t899.length co62):Value).ownBlock) (.slice Ao18 t878.length co18) t878)/\Aside0 (Kd.R (Kd.int .i64) 3 wc w.heap.size (fun _=>True) (.slice Ao41 t886.length co41) t886)/\Aside0 (Kd.R (Kd.int .u32) 85 wc w.heap.size (fun k_=>some k_ ≠ ((.slice Ao18 t878.length co18):Value).ownBlock/\some k_ ≠ ((.slice Ao62 t899.length co62):Value).ownBlock) (.slice Ao52 t892.length co52) t892)/\Aside0 (Kd.R (Kd.int .u32) 85 wc w.heap.size (fun k_=>some k_ ≠ ((.slice Ao18 t878.length co18):Value).ownBlock/\some k_ ≠ ((.slice Ao52 t892.length co52):Value).ownBlock) (.slice Ao62 t899.length co62) t899)/\Aside0 (wc.heap[gb874]? = some (.cells #[.bool a0_0,(.slice A0_1 l0_1.length c0_1),.int .i64 a0_2] 24 (0,0)))/\Aside0 (wc.heap[gb875]? = some (.cells #[.bool a1_0,(.slice A1_1 l1_1.length c1_1),.int .i64 a1_2] 24 (0,0)))/\Aside0 (wc.heap[gb883]? = some (.cells #[.bool t877,(.slice Ao18 t878.length co18),.int .i64 t881] 24 (0,0)))/\Aside0 (wc.heap[gb890]? = some (.cells #[.bool t885,(.slice Ao41 t886.length co41),.int .i64 t889] 30 (0,0)))/\Aside0 (wc.heap[gb897]? = some (.cells #[.bool t891,(.slice Ao52 t892.length co52),.int .i64 t895] 24 (0,0)))/\Aside0 (wc.heap[gb904]? = some (.cells #[.bool t898,(.slice Ao62 t899.length co62),.int .i64 t902] 24 (0,0)))/\Aside0 (Below w.heap.size w wc))
     case first =>
      have H:=HC31.o
      clear HC31
      by_cases c63:t896=0
      ·rw [if_pos c63] at H
       have c63b0:(t896 == 0)=true:=beq_iff_eq.mpr c63
       have c63b1:(t896 != 0)=false:=bne_eq_false_iff_eq.mpr c63
       clear c63
       (first|rw [c63b0]|(simp only [Zcd,Zdb];rw [c63b0])|skip)
       have H':=am H
       clear H
       go_wp2
       go_meet
       case rel=>exact ⟨_,((t903 != 0)),pR,H',⟨by have := HJ5.o;first|omega|exact Nat.le_refl _⟩,⟨by refine rp ?_;exact Kd.Zi (Kd.Zp (p:=⟨gb904,2,none⟩) (Kd.Zp (p:=⟨gb904,1,none⟩) (Kd.Zp (p:=⟨gb904,0,none⟩) (Kd.Zaa HO_884001.o BK904.o (by decide)) (fun _ hk=>hk.2) (.bool t898)) (fun _ hk=>hk.2) (.slice Ao62 t899.length co62)) (fun _ hk=>hk.2) (.int .i64 t902)) (fun _ hk=>⟨hk.1.1.2,hk.1.2⟩)⟩,⟨by refine rp ?_;exact Kd.Zi (Kd.Zp (p:=⟨gb904,2,none⟩) (Kd.Zp (p:=⟨gb904,1,none⟩) (Kd.Zp (p:=⟨gb904,0,none⟩) (Kd.Zaa HO888.o BK904.o (by decide)) (fun _ hk=>hk.2) (.bool t898)) (fun _ hk=>hk.2) (.slice Ao62 t899.length co62)) (fun _ hk=>hk.2) (.int .i64 t902)) (fun _ hk=>trivial)⟩,⟨by refine rp ?_;exact Kd.Zi (Kd.Zp (p:=⟨gb904,2,none⟩) (Kd.Zp (p:=⟨gb904,1,none⟩) (Kd.Zp (p:=⟨gb904,0,none⟩) (Kd.Zaa HO894.o BK904.o (by decide)) (fun _ hk=>hk.2) (.bool t898)) (fun _ hk=>hk.2) (.slice Ao62 t899.length co62)) (fun _ hk=>hk.2) (.int .i64 t902)) (fun _ hk=>⟨hk.1.1.2,hk.1.2⟩)⟩,⟨by refine rp ?_;exact Kd.Zi (Kd.Zp (p:=⟨gb904,2,none⟩) (Kd.Zp (p:=⟨gb904,1,none⟩) (Kd.Zp (p:=⟨gb904,0,none⟩) (Kd.Zaa HO901.o BK904.o (by decide)) (fun _ hk=>hk.2) (.bool t898)) (fun _ hk=>hk.2) (.slice Ao62 t899.length co62)) (fun _ hk=>hk.2) (.int .i64 t902)) (fun _ hk=>⟨hk.1.1.2,hk.1.2⟩)⟩,⟨bf NB874_904.o BK874.o⟩,⟨bf NB875_904.o BK875.o⟩,⟨bf NB883_904.o BK883.o⟩,⟨bf NB890_904.o BK890.o⟩,⟨bf NB897_904.o BK897.o⟩,⟨by exact p3 BK904⟩,⟨pB⟩⟩
      ·rw [if_neg c63] at H
       have c63b0:(t896 == 0)=false:=beq_eq_false_iff_ne.mpr c63
       have c63b1:(t896 != 0)=true:=bne_iff_ne.mpr c63
       (first|rw [c63b0]|(simp only [Zcd,Zdb];rw [c63b0])|skip)
       have H':=am H
       clear H
       go_wp2
       go_meet
       case rel=>exact ⟨_,(true),pR,H',⟨by have := HJ5.o;first|omega|exact Nat.le_refl _⟩,⟨by refine rp ?_;exact Kd.Zi (Kd.Zp (p:=⟨gb904,2,none⟩) (Kd.Zp (p:=⟨gb904,1,none⟩) (Kd.Zp (p:=⟨gb904,0,none⟩) (Kd.Zaa HO_884001.o BK904.o (by decide)) (fun _ hk=>hk.2) (.bool t898)) (fun _ hk=>hk.2) (.slice Ao62 t899.length co62)) (fun _ hk=>hk.2) (.int .i64 t902)) (fun _ hk=>⟨hk.1.1.2,hk.1.2⟩)⟩,⟨by refine rp ?_;exact Kd.Zi (Kd.Zp (p:=⟨gb904,2,none⟩) (Kd.Zp (p:=⟨gb904,1,none⟩) (Kd.Zp (p:=⟨gb904,0,none⟩) (Kd.Zaa HO888.o BK904.o (by decide)) (fun _ hk=>hk.2) (.bool t898)) (fun _ hk=>hk.2) (.slice Ao62 t899.length co62)) (fun _ hk=>hk.2) (.int .i64 t902)) (fun _ hk=>trivial)⟩,⟨by refine rp ?_;exact Kd.Zi (Kd.Zp (p:=⟨gb904,2,none⟩) (Kd.Zp (p:=⟨gb904,1,none⟩) (Kd.Zp (p:=⟨gb904,0,none⟩) (Kd.Zaa HO894.o BK904.o (by decide)) (fun _ hk=>hk.2) (.bool t898)) (fun _ hk=>hk.2) (.slice Ao62 t899.length co62)) (fun _ hk=>hk.2) (.int .i64 t902)) (fun _ hk=>⟨hk.1.1.2,hk.1.2⟩)⟩,⟨by refine rp ?_;exact Kd.Zi (Kd.Zp (p:=⟨gb904,2,none⟩) (Kd.Zp (p:=⟨gb904,1,none⟩) (Kd.Zp (p:=⟨gb904,0,none⟩) (Kd.Zaa HO901.o BK904.o (by decide)) (fun _ hk=>hk.2) (.bool t898)) (fun _ hk=>hk.2) (.slice Ao62 t899.length co62)) (fun _ hk=>hk.2) (.int .i64 t902)) (fun _ hk=>⟨hk.1.1.2,hk.1.2⟩)⟩,⟨bf NB874_904.o BK874.o⟩,⟨bf NB875_904.o BK875.o⟩,⟨bf NB883_904.o BK883.o⟩,⟨bf NB890_904.o BK890.o⟩,⟨bf NB897_904.o BK897.o⟩,⟨by exact p3 BK904⟩,⟨pB⟩⟩
     case rest =>
      clear HC31
      obtain ⟨kq,x61_30,rfl,HA,HJ30,HO_884001,HO_891001,HO_898001,HO_905001,BK874,BK875,BK883,BK890,BK897,BK904,HB⟩:=hcut
      cases kq with
      | zero=>exact absurd HA.out (by simp [Zl.j1])
      | succ kj30 =>
       have H:=HA.out
       clear HA
       simp only [Zl.j1] at H
       by_cases c64:x61_30=true
       ·subst c64
        rw [if_pos rfl] at H
        obtain rfl:=Option.some.inj H
        have hnb65:=NB890_874.o
        have hnc65:=NB874_890.o
        have hnb66:=NB890_875.o
        have hnc66:=NB875_890.o
        have hnb67:=NB890_883.o
        have hnc67:=NB883_890.o
        have hnb68:=NB890_897.o
        have hnc68:=NB897_890.o
        have hnb69:=NB890_904.o
        have hnc69:=NB904_890.o
        obtain ⟨_,_,_,_,_,_⟩:=cEc BK890.o
        go_wp2
        go_ret
        exact ⟨pE,pB⟩
       ·replace c64:=Bool.eq_false_iff.mpr c64
        subst c64
        rw [if_neg (show ¬ (false=true) by decide)] at H
        obtain ⟨y905,hy905⟩:∃ y_:List Int,y_=(([5]:List Int)):=⟨_,rfl⟩
        replace H:((Zm.f kj30 false y905 (wrap64 ((wrap64 (t889 - (wrap64 (40 - (t886.length:Int))))) - 1))).bind fun bt908=>((Zad.f kj30 bt908.1 bt908.2.1 bt908.2.2.1 a1_0 l1_1 a1_2).bind fun bt915=>((Zbh.f kj30 t898 t899 t902).bind fun bt922=>((Zbh.f kj30 bt915.1 bt915.2.1 bt915.2.2.1).bind fun bt929=>(if (t886.length:Int)<=40 then (if bt908.2.2.2=0 then (if bt915.2.2.2=0 then ((Zci.f kj30 bt922.1 bt922.2.1 bt922.2.2.1 bt929.1 bt929.2.1 bt929.2.2.1).bind fun t936=>(some (decide (t936<=0)))) else (some true)) else (some true)) else (some false))))))=some r:=by have hy_:=hy905;exact pH
        have Ny905:=am hy905
        clear hy905
        obtain ⟨⟨t908,t909,t912,t913⟩,A71,H⟩:=ob H;(try dsimp only at H)
        obtain ⟨⟨t915,t916,t919,t920⟩,A72,H⟩:=ob H;(try dsimp only at H)
        obtain ⟨⟨t922,t923,t926,t927⟩,A73,H⟩:=ob H;(try dsimp only at H)
        obtain ⟨⟨t929,t930,t933,t934⟩,A74,H⟩:=ob H;(try dsimp only at H)
        by_cases c75:(t886.length:Int)<=40
        ·rw [if_pos c75] at H
         have c75b0:decide ((t886.length:Int)<=40)=true:=decide_eq_true c75
         have c75b1:decide (t886.length<=40)=true:=decide_eq_true (by omega)
         clear c75
         by_cases c76:t913=0
         ·rw [if_pos c76] at H
          have c76b0:(t913 == 0)=true:=beq_iff_eq.mpr c76
          have c76b1:(t913 != 0)=false:=bne_eq_false_iff_eq.mpr c76
          clear c76
          by_cases c77:t920=0
          ·rw [if_pos c77] at H
           have c77b0:(t920 == 0)=true:=beq_iff_eq.mpr c77
           have c77b1:(t920 != 0)=false:=bne_eq_false_iff_eq.mpr c77
           clear c77
           obtain ⟨t936,A78,H⟩:=ob H
           obtain rfl:=Option.some.inj H
           exact Zl.tail
          ·rw [if_neg c77] at H
           have c77b0:(t920 == 0)=false:=beq_eq_false_iff_ne.mpr c77
           have c77b1:(t920 != 0)=true:=bne_iff_ne.mpr c77
           obtain rfl:=Option.some.inj H
           exact Zl.tail
         ·rw [if_neg c76] at H
          have c76b0:(t913 == 0)=false:=beq_eq_false_iff_ne.mpr c76
          have c76b1:(t913 != 0)=true:=bne_iff_ne.mpr c76
          obtain rfl:=Option.some.inj H
          exact Zl.tail
        ·rw [if_neg c75] at H
         have c75b0:decide ((t886.length:Int)<=40)=false:=decide_eq_false c75
         have c75b1:decide (t886.length<=40)=false:=decide_eq_false (by omega)
         clear c75
         exact absurd ((Option.some.inj H).trans hr) Bool.false_ne_true
 ·replace c4:=Bool.eq_false_iff.mpr c4
  subst c4
  rw [if_neg (show ¬ (false=true) by decide)] at H
  exact absurd ((Option.some.inj H).trans hr) Bool.false_ne_true
end YtjbjkmccfocikaaGreatDoor.B
end
section
namespace YtjbjkmccfocikaaGreatDoor.P.Nm
open Go.RowKit YtjbjkmccfocikaaGreatDoorW.PrintWords YtjbjkmccfocikaaGreatDoor.B YtjbjkmccfocikaaGreatDoor.P
theorem Zn9 (n:Nat) (h:n < 10) (h0:n ≠ 0):([(n:Int)]:List Int)=digs n:=by
 rw [Zdp h0,Nat.mod_eq_of_lt h,Nat.div_eq_of_lt h];rfl
theorem Zpv {n:Nat}:((limbs n).length:Int)=0 ↔ n=0:=by
 constructor
 ·intro h
  exact Zj0 (List.eq_nil_of_length_eq_zero (by omega))
 ·intro h;rw [h];rfl
theorem Zh6 {a b:Bool} {l m:List Int} {e f:Int} (hl:RawD l) (hm:RawD m):Tells (fun k=>Zl.f k a l e b m f) true:=by
 unfold Zl.f Zbf.f
 refine alive03.bind (Tells.ifp rfl ?_)
 have done:∀ {x1 x2:Bool} {y1 y2:List Int} {z1 z2:Int} {p1:Bool} {p3:Int},Tells (fun k=>Zl.j0 k true x1 y1 z1 x2 y2 z2 p1 [] p3) true:=by
  intros
  refine Tells.succ ?_
  simp only [Zl.j0]
  exact Tells.ifp trivial (Tells.pure _)
 have bad:∀ {x:Int},x ≠ 0->Tells (fun k=>Za8.f k a l e b m f) (false,[],0,x)->Tells (fun k=>(Za8.f k a l e b m f).bind fun bt=>(some bt.2.2.2).bind fun t=>if t=0 then Zl.j0 k ((bt.2.1.length:Int) == 0) a l e b m f bt.1 bt.2.1 bt.2.2.1 else Zl.j0 k true a l e b m f bt.1 bt.2.1 bt.2.2.1) true:=fun hx hd =>
  hd.bind ((Tells.pure _).bind (Tells.ifn hx done))
 by_cases h:chk a l e=0/\chk b m f=0
 ·obtain ⟨D,hD,rfl,rfl,rfl⟩:=Zrc hl.dg h.1
  obtain ⟨E,hE,rfl,rfl,rfl⟩:=Zrc hm.dg h.2
  by_cases h0:E.n=0
  ·exact bad (by decide) (Znm hD hE h0)
  ·obtain ⟨q,x,hq⟩:∃ q x,quotD D E=(q,x):=⟨_,_,rfl⟩
   have hdv:=QDiv hD hE h0
   have oq:OkD q:=by have := Zd7 (divD D E);unfold quotD at hq;rw [hq] at this;exact this
   have hlen:nd q.n<=40:=by have := Zql D E h0;rw [hq] at this;exact this
   by_cases hx:x=0
   ·subst hx
    rw [hq] at hdv
    refine hdv.bind ((Tells.pure _).bind (Tells.ifp rfl ?_))
    show Tells (fun k=>Zl.j0 k (((limbs q.n).length:Int) == 0) D.neg (limbs D.n) D.e E.neg (limbs E.n) E.e q.neg (limbs q.n) q.e) true
    by_cases hz:q.n=0
    ·rw [hz,show (((limbs 0).length:Int) == 0)=true from rfl]
     exact done
    ·rw [show (((limbs q.n).length:Int) == 0)=false from beq_eq_false_iff_ne.2 (fun h=>hz (Zpv.1 h))]
     refine Tells.succ ?_
     simp only [Zl.j0]
     obtain ⟨p,xp,hp⟩:∃ p x,timesD q E=(p,x):=⟨_,_,rfl⟩
     have op:OkD p:=by have := Zd7 (mulD q E);unfold timesD at hp;rw [hp] at this;exact this
     obtain ⟨d,xd,hd⟩:∃ z x,subD D p=(z,x):=⟨_,_,rfl⟩
     have od:OkD d:=by have := Zd7 (plusD D (negD p));unfold subD at hd;rw [hd] at this;exact this
     have t1:=RMul q E oq hE
     rw [hp] at t1
     have t2:=RSub D p hD op
     rw [hd] at t2
     refine Tells.ifn (by decide) ((ROf q (by omega)).bind (t1.bind (t2.bind ?_)))
     have fin40:∀ {b1 b2:Bool} {l2:List Int} {e2 e3:Int} {b3:Bool} {l3:List Int} {e4:Int},Tells (fun k=>Zl.j1 k true b1 l2 e2 b2 (digs q.n) e3 b3 l3 e4) true:=by
      intros
      refine Tells.succ ?_
      simp only [Zl.j1]
      refine Tells.ifp trivial ((Tells.pure _).val (decide_eq_true ?_))
      show (nd q.n:Int)<=40
      omega
     by_cases hxp:xp=0
     ·subst hxp
      by_cases hxd:xd=0
      ·subst hxd
       refine Tells.ifp rfl ?_
       show Tells (fun k=>Zl.j1 k false E.neg (limbs E.n) E.e q.neg (digs q.n) q.e d.neg (limbs d.n) d.e) true
       have l3:=oq.low;have g3:=oq.high
       have ew:wrap64 ((wrap64 (q.e - (wrap64 (40 - ((digs q.n).length:Int))))) - 1)=q.e - (40 - (nd q.n:Int)) - 1:=by
        have:((digs q.n).length:Int)=(nd q.n:Int):=rfl
        rw [this,w64n (z:=40 - (nd q.n:Int)) (by omega) (by omega),w64n (z:=q.e - (40 - (nd q.n:Int))) (by omega) (by omega),w64n (by omega) (by omega)]
       obtain ⟨u,xu,hu⟩:∃ p x,settleD ⟨false,5,q.e - (40 - (nd q.n:Int)) - 1⟩=(p,x):=⟨_,_,rfl⟩
       have ou:OkD u:=by have := Zd7 ⟨false,5,q.e - (40 - (nd q.n:Int)) - 1⟩;rw [hu] at this;exact this
       obtain ⟨room,xr,hr⟩:∃ p x,timesD u E=(p,x):=⟨_,_,rfl⟩
       have or:OkD room:=by have := Zd7 (mulD u E);unfold timesD at hr;rw [hr] at this;exact this
       have t3:=Made false 5 (q.e - (40 - (nd q.n:Int)) - 1) (by decide) (by omega) (by omega)
       rw [hu,<- Zn9 5 (by omega) (by omega)] at t3
       have t4:=RMul u E ou hE
       rw [hr] at t4
       have c40:((digs q.n).length:Int)<=40:=by show (nd q.n:Int)<=40;omega
       refine Tells.succ ?_
       simp only [Zl.j1]
       rw [ew]
       refine Tells.ifn (by decide) (t3.bind (t4.bind ((RAbs od).bind ((RAbs or).bind (Tells.ifp c40 ?_)))))
       by_cases hxu:xu=0
       ·subst hxu
        refine Tells.ifp rfl ?_
        by_cases hxr:xr=0
        ·subst hxr
         refine Tells.ifp rfl ((Rorder (Zf1 od).2 (Zf1 or).2).bind ((Tells.pure _).val (decide_eq_true ?_)))
         exact Zrr od or (Zo8 hD hE h0 hq hz hp hd hu hr)
        ·exact Tells.ifn hxr (Tells.pure _)
       ·exact Tells.ifn hxu (Tells.pure _)
      ·refine Tells.ifp rfl ?_
       have:(xd != 0)=true:=bne_iff_ne.2 hxd
       show Tells (fun k=>Zl.j1 k (xd != 0) E.neg (limbs E.n) E.e q.neg (digs q.n) q.e d.neg (limbs d.n) d.e) true
       rw [this]
       exact fin40
     ·exact Tells.ifn hxp fin40
   ·have hqz:q=zeroD:=by
     have := Zm8 (a:=divD D E)
     unfold quotD at hq
     rw [hq] at this
     exact this hx
    rw [hq,hqz] at hdv
    exact bad hx hdv
 ·exact bad (by decide) (Zpn hl.dg hl.len hm.dg hm.len h)
end YtjbjkmccfocikaaGreatDoor.P.Nm
end
section
namespace YtjbjkmccfocikaaGreatDoor.R
open Go.ChangeShapes Go.WideShapes Go.ChangeAt Go.RowKit Go.Joins YtjbjkmccfocikaaGreatDoorW.PrintWords YtjbjkmccfocikaaGreatDoor.P.Nm
theorem laidOut:laidOutB Tryz.prog=true:=by kernel_rfl
theorem cellsD:Tryz.prog.cellsOf 24=3:=by kernel_rfl
theorem cellsU:Tryz.prog.cellsOf 85=1:=by kernel_rfl
theorem wf32 {n:Int} (h:(Lit.int .u32 n).wf=true):0<=n/\n < 4294967296:=by
 have e1:IntKind.u32.min=0:=by decide
 have e2:IntKind.u32.max=4294967295:=by decide
 simp only [Lit.wf,e1,e2,Bool.and_eq_true,decide_eq_true_eq] at h
 omega
theorem Zm4 {H:Type} {enc:TypeId × Value->H} {W:World} {v:Value} {fuel:Nat} {x:DataW H × List MemPlace}
  (hf:DataW.trod enc Tryz.prog W 0 (fun _=>true) true fuel 22 [v]=some x) :
  ∃ (A:Option Addr) (c:Nat) (l:List Int),v=.slice A l.length c/\l.length<=c/\Kd.C (Kd.int .u32) W A l.length l/\RawD l/\((x.1=.nil/\l=[]) \/ ∃ spare,x.1=.slice (lits .u32 l) spare):=by
 rcases open_ints Tryz.underlying22 Tryz.underlying85 cellsU hf with ⟨hcs,hx⟩|⟨a,len,cap,zs,hcs,_,hl,hm,hz,hx,hcell,hwf⟩
 ·simp at hcs
  subst hcs hx
  exact ⟨none,0,[],rfl,Nat.le_refl _,Kd.Zgm (enc:=Value.int .u32) (d:=0) ⟨rfl,by simp,fun h=>absurd h (by simp)⟩,RawD.nil,.inl ⟨rfl,rfl⟩⟩
 ·simp at hcs
  subst hcs hx
  simp only [if_true] at hz
  have hlen:(zs.take len).length=len:=by simp;omega
  refine ⟨some a,cap,zs.take len,by rw [hlen],by omega,Kd.Zgm (enc:=Value.int .u32) (d:=0) ⟨rfl,by unfold maxLen at hm;simp;omega,fun _=>⟨a,rfl,fun j hj=>?_⟩⟩,⟨fun y hy=>wf32 (hwf y (List.mem_of_mem_take hy)),by unfold maxLen at hm;omega⟩,.inr ⟨_,rfl⟩⟩
  have hj':j < len:=by simp at hj;omega
  rw [hcell j (by omega)]
  simp [List.getD,List.getElem?_take_of_lt hj']
theorem bytesU:Tryz.prog.bytesOf 85=4:=by kernel_rfl
theorem Zk0 {H:Type} {x:DataW H} {l:List Int} (h:(x=.nil/\l=[]) \/ ∃ spare,x=.slice (lits .u32 l) spare) (hw:(x.weights Tryz.prog 22).all (· <= reachBytes)=true):l.length<=35184372087808:=by
 rcases h with ⟨rfl,rfl⟩|⟨sp,rfl⟩
 ·simp
 ·have := List.all_eq_true.1 hw (((lits .u32 l:List (DataW H)).length+sp.length)*Tryz.prog.bytesOf 85) (by simp [DataW.weights,Tryz.underlying22])
  rw [bytesU] at this
  have hl:(lits .u32 l:List (DataW H)).length=l.length:=by simp [lits]
  rw [hl] at this
  have hb:reachBytes=140737488351232:=by decide
  rw [decide_eq_true_eq,hb] at this
  omega
theorem Zmb {H:Type} {enc:TypeId × Value->H} {W:World} {base:Nat} {v:Value} {d:DataW H} {p:List MemPlace} (hv:Value.okWide Tryz.prog W .any base 24 v)
  (h:DataW.Trod enc Tryz.prog W 0 (fun _=>true) true 24 v d p) :
  ∃ (n:Bool) (A:Option Addr) (c:Nat) (l:List Int) (e:Int),v=.agg #[.bool n,.slice A l.length c,.int .i64 e]/\l.length<=c/\Kd.C (Kd.int .u32) W A l.length l/\RawD l/\(Lit.int .i64 e).wf=true /\
   ((d.weights Tryz.prog 24).all (· <= reachBytes)=true->l.length<=35184372087808):=by
 obtain ⟨c0,c1,c2,y0,y1,y2,m,rfl,rfl,rfl,hy0,hy1,hy2⟩:=open_agg3 Tryz.underlying24 (by kernel_rfl) cellsD hv h
 obtain ⟨n,e0,_⟩:=DataW.trod_bool Tryz.underlying4 hy0
 obtain ⟨A,c,l,e1,h1,h2,h3,h4⟩:=Zm4 hy1
 obtain ⟨e,e2,_,we⟩:=DataW.trod_int Tryz.underlying3 hy2
 simp at e0 e2
 subst e0 e1 e2
 refine ⟨n,A,c,l,e,rfl,h1,h2,h3,we,fun hw=>Zk0 h4 (List.all_eq_true.2 fun z hz=>List.all_eq_true.1 hw z ?_)⟩
 simp only [DataW.weights,Tryz.underlying24,List.map_cons,List.map_nil,DataW.weightsEach,List.mem_append]
 exact .inr (.inl hz)
end YtjbjkmccfocikaaGreatDoor.R
end
end Go.Proofs
